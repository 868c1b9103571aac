/- The walk of the law WordKinds. -/
import Derived.Test.YtkahibnanhhdeaaDoorWUtf
import Derived.Test.YtkahibnanhhdeaaDoorWTable
import Derived.BigQuiet
import Derived.Deep.QuietTactic
import Derived.Deep.RegionWith
namespace Go.Proofs.YtkahibnanhhdeaaDoor
open Go.RowKit
open Go.Lib (hid decodeL validD)

theorem Tabs.below {B : Nat} {w w' : World} (h : Tabs w) (hb : Below B w w') (h0 : 0 < B) (h1 : 1 < B) : Tabs w' := by
  refine ⟨fun c hc => ?_, fun i hi => ?_⟩
  · rw [hb.cell (p := ⟨0, c, none⟩) h0]; exact h.1 c hc
  · rw [hb.cell (p := ⟨1, 2 * i, none⟩) h1, hb.cell (p := ⟨1, 2 * i + 1, none⟩) h1]; exact h.2 i hi
theorem Tabs.size {w : World} (h : Tabs w) : 0 < w.heap.size ∧ 1 < w.heap.size :=
  ⟨block_lt_of_cell (h.1 0 (by omega)), block_lt_of_cell (h.2 0 (by omega)).1⟩

set_option maxHeartbeats 1000000 in
theorem kinds_walk (s : ByteArray) (w : World) (hs : s.size ≤ 140737488351232) (hT : Tabs w) :
    Calls Tryd.prog 3 #[.string s] w fun e w' => e = .returned (.bool true) ∧ Below w.heap.size w w' := by
  obtain ⟨hz0, hz1⟩ := hT.size
  go_enter Tryd.func3, Tryd.ntmps3
  obtain ⟨N, hN⟩ : ∃ N, W.nameB s.data.toList = N := ⟨_, rfl⟩
  obtain ⟨V, hV⟩ : ∃ V, validD s.data.toList = V := ⟨_, rfl⟩
  have c1 := name_any s w (by omega)
  have c2 := fun W => refName_any s W (by omega)
  have c3 := fun W h => utf8_any s W (by omega) h
  have c4 := fun W => refUtf8_any s W (by omega)
  rw [hN] at c1
  simp only [hN] at c2
  simp only [hV] at c3 c4
  clear hN hV
  go_wp2_with fail
  refine c1.mono ?_
  rintro e w1 ⟨rfl, hb1⟩
  go_wp2_with fail
  refine (c2 _).mono ?_
  rintro e w1 ⟨rfl, rfl⟩
  go_wp2_with fail
  refine (c3 _ (hT.below hb1 hz0 hz1)).mono ?_
  rintro e w2 ⟨rfl, hb2⟩
  go_wp2_with fail
  refine (c4 _).mono ?_
  rintro e w3 ⟨rfl, hb3⟩
  go_wp2_with fail
  go_ret
  have s1 := hb1.size
  have s2 := hb2.size
  exact ⟨by simp, (hb1.trans (hb2.mono s1)).trans (hb3.mono (Nat.le_trans s1 s2))⟩
end Go.Proofs.YtkahibnanhhdeaaDoor
