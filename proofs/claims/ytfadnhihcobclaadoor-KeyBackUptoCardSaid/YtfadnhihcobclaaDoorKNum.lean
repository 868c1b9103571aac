/- The walks of key.Num and key.Str. -/
import Derived.Test.YtfadnhihcobclaaDoorKSmall
import Derived.Deep.WholeRow
namespace Go.Proofs.YtfadnhihcobclaaDoor
open Go.RowKit
open Go.Lib (hid)
theorem infoPart : (Tryd.prog.info? 26).map (·.size) = some 3 := by kernel_rfl
theorem num_any (x : Int) (w : World) : Calls Tryd.prog 12 #[.int .i64 x] w fun e w' => e = .returned (.agg #[.bool false, .int .i64 x, .string ⟨#[]⟩]) ∧ Below w.heap.size w w' := by
  go_enter Tryd.func12, Tryd.ntmps12
  go_wp2
  exact bodyPost_ret (v := .agg #[.bool false, .int .i64 x, .string ⟨#[]⟩]) (results_cell_row rfl _ _ w.heap.size 26 _ (0, 0) _ rfl (heap_alloc_new w _) Tryd.underlying26 rfl infoPart) rfl ⟨rfl, (Below.refl _ w).alloc (Nat.le_refl _) _⟩
theorem str_any (s : ByteArray) (w : World) : Calls Tryd.prog 13 #[.string s] w fun e w' => e = .returned (.agg #[.bool true, .int .i64 0, .string s]) ∧ Below w.heap.size w w' := by
  go_enter Tryd.func13, Tryd.ntmps13
  go_wp2
  exact bodyPost_ret (v := .agg #[.bool true, .int .i64 0, .string s]) (results_cell_row rfl _ _ w.heap.size 26 _ (0, 0) _ rfl (heap_alloc_new w _) Tryd.underlying26 rfl infoPart) rfl ⟨rfl, (Below.refl _ w).alloc (Nat.le_refl _) _⟩
end Go.Proofs.YtfadnhihcobclaaDoor
