/- The walks of the makers of values. -/
import Derived.Test.YtohdifffdgoaaaaDoorVPlain
import Derived.Test.YtohdifffdgoaaaaDoorWUtf
import Derived.WalkKit
import Derived.WalkSmall
import Derived.BigCall
import Derived.BigGuard
import Derived.LoopTactic
import Derived.Lib.Hide
import Derived.Below
import Derived.Deep.QuietTactic
import Derived.BigQuiet
import Derived.Deep.RegionWith
import Derived.Deep.RegionHeld3
import Derived.Deep.WholeRow
import Derived.Deep.CutBlock
import Derived.Deep.DeepCutAuto
import Derived.Outline
import Derived.Laws.StructEq
namespace Go.Proofs.YtohdifffdgoaaaaDoor
open Go.RowKit
open Go.Lib (hid)
theorem infoValue : (Tryd.prog.info? 23).map (·.size) = some 4 := by kernel_rfl

theorem vnumber_any (n : Int) (w : World) : Calls Tryd.prog 42 #[.int .i64 n] w fun e w' => e = .returned (.agg #[.int .u8 1, .int .i64 n, .bool false, .string ⟨#[]⟩]) ∧ Below w.heap.size w w' := by
  go_enter Tryd.func42, Tryd.ntmps42
  go_wp2
  exact bodyPost_ret (v := .agg #[.int .u8 1, .int .i64 n, .bool false, .string ⟨#[]⟩]) (results_cell_row rfl _ _ w.heap.size 23 _ (0, 0) _ rfl (heap_alloc_new w _) Tryd.underlying23 rfl infoValue) rfl ⟨rfl, (Below.refl _ w).alloc (Nat.le_refl _) _⟩
theorem truth_any (b : Bool) (w : World) : Calls Tryd.prog 45 #[.bool b] w fun e w' => e = .returned (.agg #[.int .u8 2, .int .i64 0, .bool b, .string ⟨#[]⟩]) ∧ Below w.heap.size w w' := by
  go_enter Tryd.func45, Tryd.ntmps45
  go_wp2
  exact bodyPost_ret (v := .agg #[.int .u8 2, .int .i64 0, .bool b, .string ⟨#[]⟩]) (results_cell_row rfl _ _ w.heap.size 23 _ (0, 0) _ rfl (heap_alloc_new w _) Tryd.underlying23 rfl infoValue) rfl ⟨rfl, (Below.refl _ w).alloc (Nat.le_refl _) _⟩
theorem words_any (s : ByteArray) (w : World) : Calls Tryd.prog 44 #[.string s] w fun e w' => e = .returned (.agg #[.int .u8 3, .int .i64 0, .bool false, .string s]) ∧ Below w.heap.size w w' := by
  go_enter Tryd.func44, Tryd.ntmps44
  go_wp2
  exact bodyPost_ret (v := .agg #[.int .u8 3, .int .i64 0, .bool false, .string s]) (results_cell_row rfl _ _ w.heap.size 23 _ (0, 0) _ rfl (heap_alloc_new w _) Tryd.underlying23 rfl infoValue) rfl ⟨rfl, (Below.refl _ w).alloc (Nat.le_refl _) _⟩

/-- '==' on values -/
theorem eql_value (k k' n n' : Int) (b b' : Bool) (s s' : ByteArray) (W : World) : (binOp .eql 23 (.agg #[.int .u8 k, .int .i64 n, .bool b, .string s]) (.agg #[.int .u8 k', .int .i64 n', .bool b', .string s'])).run Tryd.prog W =
    .ok (.bool (k == k' && (n == n' && (b == b' && s.toList == s'.toList)))) W := by
  have hu := Tryd.underlying23
  have hf : Tryd.prog.underlying 23 = some (.struct (Tryd.prog.fieldsOf 23)) := by
    unfold Program.fieldsOf
    rw [hu]
  have hp : Tryd.prog.stoodInHeld 23 = false := by kernel_rfl
  rw [run_eql_struct, run_equalIn_agg (d := 9999) (ht := hf) (hp := hp)]
  unfold Program.fieldsOf
  rw [hu]
  simp only [Op.eqFields]
  go_simp
  by_cases h1 : k = k' <;> by_cases h2 : n = n' <;> by_cases h3 : b = b' <;> by_cases h4 : s.toList = s'.toList <;> simp [h1, h2, h3, h4]
end Go.Proofs.YtohdifffdgoaaaaDoor
