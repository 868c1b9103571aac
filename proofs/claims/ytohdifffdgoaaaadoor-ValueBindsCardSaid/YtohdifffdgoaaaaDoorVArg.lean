/- A value handed in: opened and shut. -/
import Derived.Test.YtohdifffdgoaaaaDoorRows
import Derived.Test.YtohdifffdgoaaaaDoorVBase
import Derived.Lib.SmallJoins
import Derived.SizedLaws
import Derived.OpenShut
import Derived.ShutString
import Derived.ProofKit
namespace Go.Proofs.YtohdifffdgoaaaaDoor
open Go.Joins Go.ChangeShapes Go.WideShapes Go.RowKit Go.Deep
theorem cellsValue : Tryd.prog.cellsOf 23 = 4 := by kernel_rfl
section
variable {H : Type} {enc : TypeId × Value → H} {w : World} {base : Nat} {sp : Nat → Bool} {held : Bool}
set_option maxRecDepth 100000 in
theorem open_value {r : Reach} {b0 : Nat} {v : Value} {d : DataW H} {p : List MemPlace} (hv : Value.okWide Tryd.prog w r b0 23 v) (h : DataW.Trod enc Tryd.prog w base sp held 23 v d p) :
    ∃ (k : Nat) (n : Int) (b : Bool) (s : ByteArray), v = .agg #[.int .u8 k, .int .i64 n, .bool b, .string s] ∧ d = .agg [.lit (.int .u8 k), .lit (.int .i64 n), .lit (.bool b), .lit (.string s.data.toList)] ∧ p = [] ∧ (Lit.int .u8 k).wf = true ∧ (Lit.int .i64 n).wf = true ∧ s.size ≤ maxLen := by
  obtain ⟨c0, c1, c2, c3, y0, y1, y2, y3, m, rfl, rfl, rfl, h0, h1, h2, h3⟩ := open_agg4 Tryd.underlying23 (by kernel_rfl) cellsValue hv h
  obtain ⟨k, e0, rfl, w0⟩ := DataW.trod_int Tryd.underlying5 h0
  obtain ⟨n, e1, rfl, w1⟩ := DataW.trod_int Tryd.underlying2 h1
  obtain ⟨b, e2, rfl⟩ := DataW.trod_bool Tryd.underlying4 h2
  obtain ⟨s, e3, rfl, w3⟩ := DataW.trod_string Tryd.underlying9 h3
  simp only [List.cons.injEq, and_true] at e0 e1 e2 e3
  subst e0 e1 e2 e3
  obtain ⟨k', rfl⟩ := Int.eq_ofNat_of_zero_le (bounds_u8 w0).1
  exact ⟨k', n, b, s, rfl, rfl, rfl, w0, w1, w3⟩
set_option maxRecDepth 100000 in
theorem shut_value {k : Nat} {n : Int} {b : Bool} {s : ByteArray} (w0 : (Lit.int .u8 k).wf = true) (w1 : (Lit.int .i64 n).wf = true) (w3 : s.size ≤ maxLen) :
    DataW.Trod enc Tryd.prog w base sp held 23 (.agg #[.int .u8 k, .int .i64 n, .bool b, .string s]) (.agg [.lit (.int .u8 k), .lit (.int .i64 n), .lit (.bool b), .lit (.string s.data.toList)]) [] :=
  shut_agg4 (y0 := (.lit (.int .u8 k), [])) (y1 := (.lit (.int .i64 n), [])) (y2 := (.lit (.bool b), [])) (y3 := (.lit (.string s.data.toList), [])) Tryd.underlying23 (by kernel_rfl) cellsValue
    ⟨1, by simp [DataW.trod, Tryd.underlying5, w0]⟩ ⟨1, by simp [DataW.trod, Tryd.underlying2, w1]⟩ ⟨1, by simp [DataW.trod, Tryd.underlying4]⟩ ⟨1, by simp [DataW.trod, Tryd.underlying9, w3]⟩
end
theorem sized_value {H : Type} {ts : List TypeId} {ds : List (DataW H)} (h : (DataW.weightsEach Tryd.prog ts ds).all (· ≤ reachBytes) = true) {j : Nat} {d0 d1 d2 : DataW H} {bytes : List UInt8} (ht : ts[j]? = some 23) (hd : ds[j]? = some (.agg [d0, d1, d2, .lit (.string bytes)])) : bytes.length ≤ reachBytes := by
  have := List.all_eq_true.1 h _ (DataW.weights_mem_each ht hd bytes.length (by simp [DataW.weights, Tryd.underlying23, DataW.weightsEach]))
  simpa using this
end Go.Proofs.YtohdifffdgoaaaaDoor
