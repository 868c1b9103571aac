/- The walk of key.Pack, of any number of parts. -/
import Derived.Test.YtfadnhihcobclaaDoorKPack
namespace Go.Proofs.YtfadnhihcobclaaDoor
open Go.RowKit
open Go.Lib (hid)

set_option maxRecDepth 100000 in
theorem pack_any (v n c : Nat) (ps : List K.Part) (hn : ps.length = n) (hn2 : n ≤ 1000000) (w : World) (hv : ∀ j u, (K.rowOf ps)[j]? = some u → w.cell? ⟨v, j, none⟩ = some u)
    (hp : ∀ p ∈ ps, p.say.size ≤ 2000000 ∧ -9223372036854775808 ≤ p.n ∧ p.n ≤ 9223372036854775807) (hM : ∃ m, w.cell? ⟨0, 0, none⟩ = some (.int .i64 m)) :
    Calls Tryd.prog 14 #[.slice (some ⟨v, 0, none⟩) n c] w fun e w' => e = .returned (.tuple #[.string ⟨(K.pack ps).1.toArray⟩, .int .i64 (K.pack ps).2]) ∧ Below w.heap.size w w' := by
  by_cases h16 : n ≤ 16
  · exact pack_in v n c ps hn w hv hp hM h16
  · have HR : Hid (K.pack ps = ([], 3)) := by
      show _ = _
      unfold K.pack; rw [if_pos (by omega)]
    have t0 : decide ((16 : Int) < (n : Int)) = true := by simp; omega
    clear hv hp hM
    go_enter Tryd.func14, Tryd.ntmps14
    go_wp2_with fail
    go_ret2
    exact ⟨ret_lc (a := ([], 3)) HR.out.symm, Below.refl _ _⟩
end Go.Proofs.YtfadnhihcobclaaDoor
