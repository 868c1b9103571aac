/- The law MarkupEscapes: characters are escaped, what is none is refused. -/
import Derived.Test.YtakplnceiibmlaaGreatDoorMEsc
import Derived.Test.YtakplnceiibmlaaGreatDoorMAwake
import Derived.Test.YtakplnceiibmlaaGreatDoorMEnvD
namespace Go.Proofs.YtakplnceiibmlaaGreatDoor
open Go.RowKit
open Go.Lib (hid)
set_option maxRecDepth 100000 in
set_option maxHeartbeats 8000000 in
theorem escapes_walk (s : ByteArray) (W : World) (z0 : s.size ≤ 140737488351232) (hE : EnvM W) :
    Calls Tryz.prog 4 #[.string s] W fun e w' => e = .returned (.bool true) ∧ Below W.heap.size W w' := by
  by_cases hs : s.size ≤ 8000
  rotate_left
  · have cA := awake_any W hE.e hE.t
    have t0 : decide ((8000 : Int) < (s.size : Int)) = true := decide_eq_true (by omega)
    have t1 : decide (8000 < s.size) = true := decide_eq_true (by omega)
    clear hs hE
    go_enter Tryz.func4, Tryz.ntmps4
    go_wp2_with fail
    refine cA.mono ?_
    rintro e w1 ⟨rfl, hb⟩
    have HB := hid hb
    clear hb cA
    go_wp2_with fail
    go_ret
    exact ⟨rfl, HB.out⟩
  have HE := hid hE
  have cE := escape_any s (by omega) W hE.t
  have cR := fun U => refEsc_any s hs U
  have t0 : decide ((8000 : Int) < (s.size : Int)) = false := decide_eq_false (by omega)
  have t1 : decide (8000 < s.size) = false := decide_eq_false (by omega)
  obtain ⟨o, ho⟩ : ∃ o, X.ba (X.escL s.data.toList) = o := ⟨_, rfl⟩
  obtain ⟨z, hz⟩ : ∃ z, X.ba [] = z := ⟨_, rfl⟩
  rw [ho, hz] at cE
  simp only [ho, hz] at cR
  clear hs hE ho hz z0
  cases hk : X.okT (s.size + 1) s.data.toList
  all_goals
    rw [hk] at cE
    simp only [hk] at cR
    clear hk
    go_enter Tryz.func4, Tryz.ntmps4
    go_wp2_with fail
    refine cE.mono ?_
    rintro e w1 ⟨rfl, hb⟩
    have HB := hid hb
    clear hb cE
    simp only [if_true, Bool.false_eq_true, if_false]
    go_wp2_with fail
    refine (cR _).mono ?_
    rintro e w2 ⟨rfl, rfl⟩
    simp only [if_true, Bool.false_eq_true, if_false]
    clear cR
    go_wp2_with fail
    refine (awake_any w2 (HE.out.e.keep HB.out) (HE.out.t.under HB.out)).mono ?_
    rintro e w3 ⟨rfl, hb⟩
    have HB3 := hid (HB.out.trans (hb.mono HB.out.size))
    clear hb
    go_wp2_with fail
    go_ret
    exact ⟨rfl, HB3.out⟩
end Go.Proofs.YtakplnceiibmlaaGreatDoor
