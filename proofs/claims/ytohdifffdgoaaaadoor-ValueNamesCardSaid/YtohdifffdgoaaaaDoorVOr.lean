/- The walks of Or over four numbers, and of value.Cmp. -/
import Derived.Test.YtohdifffdgoaaaaDoorVOrd
import Derived.Test.YtohdifffdgoaaaaDoorVCmp
import Derived.Test.YtohdifffdgoaaaaDoorShelf
namespace Go.Proofs.YtohdifffdgoaaaaDoor
open Go.RowKit
open Go.Lib (hid)
def or4 (a b c d : Int) : Int := if a ≠ 0 then a else if b ≠ 0 then b else if c ≠ 0 then c else d

set_option maxRecDepth 100000 in
set_option maxHeartbeats 4000000 in
theorem or4_any (g : Nat) (a b c d : Int) (w : World) (hg : w.heap[g]? = some (.cells #[.int .i64 a, .int .i64 b, .int .i64 c, .int .i64 d] 3 (0, 0))) :
    Calls Tryd.prog 72 #[.slice (some ⟨g, 0, none⟩) 4 4] w fun e w' => e = .returned (.int .i64 (or4 a b c d)) ∧ w' = w := by
  obtain ⟨R, hR⟩ : ∃ R, or4 a b c d = R := ⟨_, rfl⟩
  rw [hR]
  unfold or4 at hR
  have HR := hid hR
  obtain ⟨c0, c1, c2, c3⟩ := row4 hg
  clear hR hg
  go_enter Tryd.func72, Tryd.ntmps72
  go_wp2_with fail
  go_loop [8] (fun i => ∃ j : Nat, j ≤ 4 ∧ i = .int .i64 j ∧ Hid ((1 ≤ j → a = 0) ∧ (2 ≤ j → b = 0) ∧ (3 ≤ j → c = 0) ∧ (4 ≤ j → d = 0))) (fun i => 4 - (intOf i).toNat)
  case atStart => exact ⟨0, by omega, rfl, ⟨by omega, by omega, by omega, by omega⟩⟩
  case round =>
    obtain ⟨j, hj, rfl, hI⟩ := hrel
    rcases (by omega : j = 0 ∨ j = 1 ∨ j = 2 ∨ j = 3 ∨ j = 4) with rfl | rfl | rfl | rfl | rfl
    · obtain ⟨h1, h2, h3, h4⟩ := hI.out
      by_cases hv : a = 0
      · have q0 : (a != 0) = false := by simp [hv]
        have q1 : (a == 0) = true := by simp [hv]
        have HI : Hid ((1 ≤ 1 → a = 0) ∧ (2 ≤ 1 → b = 0) ∧ (3 ≤ 1 → c = 0) ∧ (4 ≤ 1 → d = 0)) := by
          refine ⟨?_, ?_, ?_, ?_⟩ <;> intro _ <;> first | exact hv | exact h1 (by omega) | exact h2 (by omega) | exact h3 (by omega) | omega
        clear h1 h2 h3 h4 hv hI HR
        go_wp2_with fail
        go_round
        case rel => exact ⟨1, by omega, by rfl, HI⟩
        case measure => simp [intOf]
      · have q0 : (a != 0) = true := by rw [bne_iff_ne]; exact hv
        have q1 : (a == 0) = false := beq_eq_false_iff_ne.2 hv
        have HE : Hid (a = R) := by
          show _ = _
          rw [← HR.out]
          rw [if_pos hv]
        clear h1 h2 h3 h4 hv hI HR
        go_wp2_with fail
        go_ret
        exact ⟨ret_i HE.out, rfl⟩
    · obtain ⟨h1, h2, h3, h4⟩ := hI.out
      by_cases hv : b = 0
      · have q0 : (b != 0) = false := by simp [hv]
        have q1 : (b == 0) = true := by simp [hv]
        have HI : Hid ((1 ≤ 2 → a = 0) ∧ (2 ≤ 2 → b = 0) ∧ (3 ≤ 2 → c = 0) ∧ (4 ≤ 2 → d = 0)) := by
          refine ⟨?_, ?_, ?_, ?_⟩ <;> intro _ <;> first | exact hv | exact h1 (by omega) | exact h2 (by omega) | exact h3 (by omega) | omega
        clear h1 h2 h3 h4 hv hI HR
        go_wp2_with fail
        go_round
        case rel => exact ⟨2, by omega, by rfl, HI⟩
        case measure => simp [intOf]
      · have q0 : (b != 0) = true := by rw [bne_iff_ne]; exact hv
        have q1 : (b == 0) = false := beq_eq_false_iff_ne.2 hv
        have HE : Hid (b = R) := by
          show _ = _
          rw [← HR.out]
          rw [if_neg (by simp [h1 (by omega)])];rw [if_pos hv]
        clear h1 h2 h3 h4 hv hI HR
        go_wp2_with fail
        go_ret
        exact ⟨ret_i HE.out, rfl⟩
    · obtain ⟨h1, h2, h3, h4⟩ := hI.out
      by_cases hv : c = 0
      · have q0 : (c != 0) = false := by simp [hv]
        have q1 : (c == 0) = true := by simp [hv]
        have HI : Hid ((1 ≤ 3 → a = 0) ∧ (2 ≤ 3 → b = 0) ∧ (3 ≤ 3 → c = 0) ∧ (4 ≤ 3 → d = 0)) := by
          refine ⟨?_, ?_, ?_, ?_⟩ <;> intro _ <;> first | exact hv | exact h1 (by omega) | exact h2 (by omega) | exact h3 (by omega) | omega
        clear h1 h2 h3 h4 hv hI HR
        go_wp2_with fail
        go_round
        case rel => exact ⟨3, by omega, by rfl, HI⟩
        case measure => simp [intOf]
      · have q0 : (c != 0) = true := by rw [bne_iff_ne]; exact hv
        have q1 : (c == 0) = false := beq_eq_false_iff_ne.2 hv
        have HE : Hid (c = R) := by
          show _ = _
          rw [← HR.out]
          rw [if_neg (by simp [h1 (by omega)])]; rw [if_neg (by simp [h2 (by omega)])];rw [if_pos hv]
        clear h1 h2 h3 h4 hv hI HR
        go_wp2_with fail
        go_ret
        exact ⟨ret_i HE.out, rfl⟩
    · obtain ⟨h1, h2, h3, h4⟩ := hI.out
      by_cases hv : d = 0
      · have q0 : (d != 0) = false := by simp [hv]
        have q1 : (d == 0) = true := by simp [hv]
        have HI : Hid ((1 ≤ 4 → a = 0) ∧ (2 ≤ 4 → b = 0) ∧ (3 ≤ 4 → c = 0) ∧ (4 ≤ 4 → d = 0)) := by
          refine ⟨?_, ?_, ?_, ?_⟩ <;> intro _ <;> first | exact hv | exact h1 (by omega) | exact h2 (by omega) | exact h3 (by omega) | omega
        clear h1 h2 h3 h4 hv hI HR
        go_wp2_with fail
        go_round
        case rel => exact ⟨4, by omega, by rfl, HI⟩
        case measure => simp [intOf]
      · have q0 : (d != 0) = true := by rw [bne_iff_ne]; exact hv
        have q1 : (d == 0) = false := beq_eq_false_iff_ne.2 hv
        have HE : Hid (d = R) := by
          show _ = _
          rw [← HR.out]
          rw [if_neg (by simp [h1 (by omega)])]; rw [if_neg (by simp [h2 (by omega)])]; rw [if_neg (by simp [h3 (by omega)])];
        clear h1 h2 h3 h4 hv hI HR
        go_wp2_with fail
        go_ret
        exact ⟨ret_i HE.out, rfl⟩
    · have HE : Hid (0 = R) := by
        obtain ⟨h1, h2, h3, h4⟩ := hI.out
        show _ = _
        rw [← HR.out, if_neg (by simp [h1 (by omega)]), if_neg (by simp [h2 (by omega)]), if_neg (by simp [h3 (by omega)])]
        exact (h4 (by omega)).symm
      clear hI HR
      go_wp2_with fail
      go_ret
      exact ⟨ret_i HE.out, rfl⟩
end Go.Proofs.YtohdifffdgoaaaaDoor
