/- key.Pack at a row of the call's own. -/
import Derived.Test.YtfadnhihcobclaaDoorKPack
import Derived.Test.YtfadnhihcobclaaDoorKSmall
import Derived.Test.YtfadnhihcobclaaDoorKParts
import Derived.Test.YtfadnhihcobclaaDoorKAwake
namespace Go.Proofs.YtfadnhihcobclaaDoor
open Go.RowKit
open Go.Lib (hid)
open K
set_option maxRecDepth 100000 in
set_option maxHeartbeats 4000000 in
theorem pack_none (w : World) : Calls Tryd.prog 14 #[.slice none 0 0] w fun e w' => e = .returned (.tuple #[.string ⟨#[]⟩, .int .i64 0]) ∧ Below w.heap.size w w' := by
  have hconv := (Row.nil w.heap.size w).conv
  go_enter Tryd.func14, Tryd.ntmps14
  go_wp2_with fail
  go_loopw [4, 12] (fun b i wr => b = .slice none 0 0 ∧ i = .int .i64 0 ∧ Hid (wr = w)) (fun _ i _ => 0)
  case atStart => exact ⟨rfl, rfl, rfl⟩
  case round =>
    obtain ⟨rfl, rfl, hw⟩ := hrel
    have hw' := hw.out
    subst hw'
    go_wp2_with fail
    go_ret2
    exact ⟨rfl, Below.refl _ _⟩

theorem packs_own {B : Nat} {ps : List Part} {v : Value} {w : World} (h : POwn B ps v w) (hp : ∀ p ∈ ps, p.say.size ≤ 2000000 ∧ -9223372036854775808 ≤ p.n ∧ p.n ≤ 9223372036854775807) (hM : Max w) (hl : ps.length ≤ 1000000) :
    Calls Tryd.prog 14 #[v] w fun e w' => e = .returned (.tuple #[.string ⟨(K.pack ps).1.toArray⟩, .int .i64 (K.pack ps).2]) ∧ Below w.heap.size w w' := by
  have hc := fun g (hg : v.ownBlock = some g) => World.ownsRow.cells h hg
  rcases h.2 with ⟨rfl, h0⟩ | ⟨g, cap, cur, rfl, _⟩
  · obtain rfl := List.eq_nil_of_length_eq_zero h0
    exact pack_none w
  · refine pack_any g ps.length cap ps rfl hl w (fun j u hj => ?_) hp hM
    have e : (⟨g, 0, none⟩ : Addr).add j = ⟨g, j, none⟩ := by cases j <;> simp [Addr.add]
    rw [← e]; exact hc g rfl j u hj
end Go.Proofs.YtfadnhihcobclaaDoor
