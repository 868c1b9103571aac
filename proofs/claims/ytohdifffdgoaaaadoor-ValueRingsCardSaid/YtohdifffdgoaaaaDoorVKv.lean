/- Values of a call's own, each in a block of its own. -/
import Derived.Test.YtohdifffdgoaaaaDoorVAllP
namespace Go.Proofs.YtohdifffdgoaaaaDoor
open Go.RowKit
open Go.Lib (hid)
open V
structure KV (l : List (Nat × Val)) (w r : World) : Prop where
  hb : Below w.heap.size w r
  got : ∀ p ∈ l, r.heap[p.1]? = some (.cells #[.int .u8 p.2.k, .int .i64 p.2.n, .bool p.2.b, .string p.2.s] 23 (0, 0))
theorem KV.start (w : World) : KV [] w w := ⟨Below.refl _ _, fun p h => by simp at h⟩
theorem KV.below {l : List (Nat × Val)} {w r r' : World} (h : KV l w r) (b : Below r.heap.size r r') : KV l w r' :=
  ⟨h.hb.trans (b.mono h.hb.size), fun p hp => (b.block _ (Go.lt_of_block (h.got p hp))).trans (h.got p hp)⟩
theorem KV.drew {l : List (Nat × Val)} {w r : World} (h : KV l w r) : KV l w r.drew := ⟨h.hb.drew, h.got⟩
theorem KV.box {l : List (Nat × Val)} {w r : World} (h : KV l w r) (V : Val) : KV ((r.heap.size, V) :: l) w (r.alloc (.cells #[.int .u8 V.k, .int .i64 V.n, .bool V.b, .string V.s] 23)) := by
  refine ⟨h.hb.alloc h.hb.size _, fun p hp => ?_⟩
  rcases List.mem_cons.1 hp with rfl | hp
  · exact heap_alloc_new r _
  · rw [Lib.alloc_old r _ _ (Go.lt_of_block (h.got p hp))]; exact h.got p hp
theorem eq_yes (k : Nat) (n : Int) (b : Bool) (s : ByteArray) (W : World) : (binOp .eql 23 (.agg #[.int .u8 k, .int .i64 n, .bool b, .string s]) (.agg #[.int .u8 k, .int .i64 n, .bool b, .string s])).run Tryd.prog W = .ok (.bool true) W := by
  rw [eql_value]; simp
theorem neq_no (k : Nat) (n : Int) (b : Bool) (s : ByteArray) (W : World) : (binOp .neq 23 (.agg #[.int .u8 k, .int .i64 n, .bool b, .string s]) (.agg #[.int .u8 k, .int .i64 n, .bool b, .string s])).run Tryd.prog W = .ok (.bool false) W := by
  have h := eq_yes k n b s W
  rw [run_eql_struct] at h
  rw [run_neq_struct]
  cases hq : (Op.equalIn 10000 23 (.agg #[.int .u8 k, .int .i64 n, .bool b, .string s]) (.agg #[.int .u8 k, .int .i64 n, .bool b, .string s])).run Tryd.prog W with
  | ok q W' =>
    rw [hq] at h
    simp only [Result.andThen, Result.ok.injEq, Value.bool.injEq] at h
    obtain ⟨rfl, rfl⟩ := h
    rfl
  | _ => rw [hq] at h; simp [Result.andThen] at h
set_option maxRecDepth 100000 in
theorem far_any (n : Int) (w : World) (h0 : -9223372036854775808 ≤ n) (h1 : n ≤ 9223372036854775807) : Calls Tryd.prog 43 #[.int .i64 n] w fun e w' => e = .returned (.int .u64 (n.natAbs : Nat)) ∧ w' = w := by
  obtain ⟨a, ha⟩ : ∃ a, n.natAbs = a := ⟨_, rfl⟩
  rw [ha]
  by_cases hn : n < 0
  · have d0 : decide (n < 0) = true := decide_eq_true hn
    have e1 : IntKind.u64.wrap n = ((18446744073709551616 - a : Nat) : Int) := by rw [IntKind.wrap_u64]; omega
    have e2 := neg_bits (18446744073709551616 - a) (by omega)
    rw [show (18446744073709551616 - (18446744073709551616 - a)) % 18446744073709551616 = a by omega] at e2
    clear h0 h1 ha
    go_enter Tryd.func43, Tryd.ntmps43
    go_wp2_with fail
    go_ret
    exact ⟨by first | rfl | simp [e1, e2], rfl⟩
  · have d0 : decide (n < 0) = false := decide_eq_false hn
    have e1 : IntKind.u64.wrap n = (a : Int) := by rw [IntKind.wrap_u64]; omega
    clear h0 h1 ha
    go_enter Tryd.func43, Tryd.ntmps43
    go_wp2_with fail
    go_ret
    exact ⟨by first | rfl | simp [e1], rfl⟩
end Go.Proofs.YtohdifffdgoaaaaDoor
