/- The walks of the two functions that say what a name is. -/
import Derived.Test.YtohdifffdgoaaaaDoorProg
import Derived.Test.YtohdifffdgoaaaaDoorWPlainA
import Derived.WalkKit
import Derived.BigGuardPart
import Derived.Lib.Hide
namespace Go.Proofs.YtohdifffdgoaaaaDoor
open Go.RowKit Go.Lib

/-- the classes of a byte, as the tests of a name part them -/
theorem nameClass (n : Nat) (h : n < 256) : (n < 45 ∨ (47 ≤ n ∧ n ≤ 47) ∨ (58 ≤ n ∧ n ≤ 64) ∨ (91 ≤ n ∧ n ≤ 94) ∨ (96 ≤ n ∧ n ≤ 96) ∨ 123 ≤ n) ∨ ((65 ≤ n ∧ n ≤ 90) ∨ (97 ≤ n ∧ n ≤ 122)) ∨ ((45 ≤ n ∧ n ≤ 45) ∨ (46 ≤ n ∧ n ≤ 46) ∨ (48 ≤ n ∧ n ≤ 57) ∨ (95 ≤ n ∧ n ≤ 95)) := by omega

theorem ret_bool {a b : Bool} (h : a = b) : Ending.returned (.bool a) = .returned (.bool b) := by rw [h]

set_option maxHeartbeats 2000000 in
theorem refName_any (s : ByteArray) (w : World) (hs : s.size ≤ 9223372036854775807) :
    Calls Tryd.prog 64 #[.string s] w fun e w' => e = .returned (.bool (W.nameB s.data.toList)) ∧ w = w' := by
  by_cases h : 1 ≤ s.size ∧ s.size ≤ 32
  · rw [W.nameB_of s h]
    obtain ⟨h1, h2⟩ := h
    have hl0 : ¬ ((s.size : Int) < 1) := by omega
    have hl1 : ¬ ((32 : Int) < (s.size : Int)) := by omega
    go_enter Tryd.func64, Tryd.ntmps64
    go_wp2
    go_loop [3] (fun i => ∃ k : Nat, k ≤ s.size ∧ i = .int .i64 k ∧ W.standsAll 0 s.data.toList = W.standsAll k (s.data.toList.drop k)) (fun i => s.size - (intOf i).toNat)
    case atStart => exact ⟨0, by omega, rfl, rfl⟩
    case round =>
      obtain ⟨k, hk, rfl, hrl⟩ := hrel
      have hR := Lib.hid hrl
      clear hrl
      by_cases hlt : k < s.size
      · have hb : s[k].toNat < 256 := s[k].toNat_lt
        have hno : (s[k].toNat < 45 ∨ (47 ≤ s[k].toNat ∧ s[k].toNat ≤ 47) ∨ (58 ≤ s[k].toNat ∧ s[k].toNat ≤ 64) ∨ (91 ≤ s[k].toNat ∧ s[k].toNat ≤ 94) ∨ (96 ≤ s[k].toNat ∧ s[k].toNat ≤ 96) ∨ 123 ≤ s[k].toNat) → W.standsAll 0 s.data.toList = false := by
          intro h; rw [hR.out, W.stands_round s _ hlt]; simp [W.stands, W.letter, W.other]; omega
        rcases nameClass s[k].toNat hb with h | h | h
        · have hF := Lib.hid (hno h)
          clear hno
          rcases h with h | ⟨h, h'⟩ | ⟨h, h'⟩ | ⟨h, h'⟩ | ⟨h, h'⟩ | h
          · have t0 : decide (((97 : Int)) ≤ (s[k].toNat : Int)) = false := by simp; omega
            have t1 : decide ((s[k].toNat : Int) ≤ 122) = true := by simp; omega
            have t2 : decide (((65 : Int)) ≤ (s[k].toNat : Int)) = false := by simp; omega
            have t3 : decide ((s[k].toNat : Int) ≤ 90) = true := by simp; omega
            have t4 : decide (((48 : Int)) ≤ (s[k].toNat : Int)) = false := by simp; omega
            have t5 : decide ((s[k].toNat : Int) ≤ 57) = true := by simp; omega
            have t6 : ((s[k].toNat : Int) == 45) = false := by simp; omega
            have t7 : ((s[k].toNat : Int) == 95) = false := by simp; omega
            have t8 : ((s[k].toNat : Int) == 46) = false := by simp; omega
            go_wp2
            go_ret
            exact ⟨ret_bool hF.out.symm, rfl⟩
          · have t0 : decide (((97 : Int)) ≤ (s[k].toNat : Int)) = false := by simp; omega
            have t1 : decide ((s[k].toNat : Int) ≤ 122) = true := by simp; omega
            have t2 : decide (((65 : Int)) ≤ (s[k].toNat : Int)) = false := by simp; omega
            have t3 : decide ((s[k].toNat : Int) ≤ 90) = true := by simp; omega
            have t4 : decide (((48 : Int)) ≤ (s[k].toNat : Int)) = false := by simp; omega
            have t5 : decide ((s[k].toNat : Int) ≤ 57) = true := by simp; omega
            have t6 : ((s[k].toNat : Int) == 45) = false := by simp; omega
            have t7 : ((s[k].toNat : Int) == 95) = false := by simp; omega
            have t8 : ((s[k].toNat : Int) == 46) = false := by simp; omega
            go_wp2
            go_ret
            exact ⟨ret_bool hF.out.symm, rfl⟩
          · have t0 : decide (((97 : Int)) ≤ (s[k].toNat : Int)) = false := by simp; omega
            have t1 : decide ((s[k].toNat : Int) ≤ 122) = true := by simp; omega
            have t2 : decide (((65 : Int)) ≤ (s[k].toNat : Int)) = false := by simp; omega
            have t3 : decide ((s[k].toNat : Int) ≤ 90) = true := by simp; omega
            have t4 : decide (((48 : Int)) ≤ (s[k].toNat : Int)) = true := by simp; omega
            have t5 : decide ((s[k].toNat : Int) ≤ 57) = false := by simp; omega
            have t6 : ((s[k].toNat : Int) == 45) = false := by simp; omega
            have t7 : ((s[k].toNat : Int) == 95) = false := by simp; omega
            have t8 : ((s[k].toNat : Int) == 46) = false := by simp; omega
            go_wp2
            go_ret
            exact ⟨ret_bool hF.out.symm, rfl⟩
          · have t0 : decide (((97 : Int)) ≤ (s[k].toNat : Int)) = false := by simp; omega
            have t1 : decide ((s[k].toNat : Int) ≤ 122) = true := by simp; omega
            have t2 : decide (((65 : Int)) ≤ (s[k].toNat : Int)) = true := by simp; omega
            have t3 : decide ((s[k].toNat : Int) ≤ 90) = false := by simp; omega
            have t4 : decide (((48 : Int)) ≤ (s[k].toNat : Int)) = true := by simp; omega
            have t5 : decide ((s[k].toNat : Int) ≤ 57) = false := by simp; omega
            have t6 : ((s[k].toNat : Int) == 45) = false := by simp; omega
            have t7 : ((s[k].toNat : Int) == 95) = false := by simp; omega
            have t8 : ((s[k].toNat : Int) == 46) = false := by simp; omega
            go_wp2
            go_ret
            exact ⟨ret_bool hF.out.symm, rfl⟩
          · have t0 : decide (((97 : Int)) ≤ (s[k].toNat : Int)) = false := by simp; omega
            have t1 : decide ((s[k].toNat : Int) ≤ 122) = true := by simp; omega
            have t2 : decide (((65 : Int)) ≤ (s[k].toNat : Int)) = true := by simp; omega
            have t3 : decide ((s[k].toNat : Int) ≤ 90) = false := by simp; omega
            have t4 : decide (((48 : Int)) ≤ (s[k].toNat : Int)) = true := by simp; omega
            have t5 : decide ((s[k].toNat : Int) ≤ 57) = false := by simp; omega
            have t6 : ((s[k].toNat : Int) == 45) = false := by simp; omega
            have t7 : ((s[k].toNat : Int) == 95) = false := by simp; omega
            have t8 : ((s[k].toNat : Int) == 46) = false := by simp; omega
            go_wp2
            go_ret
            exact ⟨ret_bool hF.out.symm, rfl⟩
          · have t0 : decide (((97 : Int)) ≤ (s[k].toNat : Int)) = true := by simp; omega
            have t1 : decide ((s[k].toNat : Int) ≤ 122) = false := by simp; omega
            have t2 : decide (((65 : Int)) ≤ (s[k].toNat : Int)) = true := by simp; omega
            have t3 : decide ((s[k].toNat : Int) ≤ 90) = false := by simp; omega
            have t4 : decide (((48 : Int)) ≤ (s[k].toNat : Int)) = true := by simp; omega
            have t5 : decide ((s[k].toNat : Int) ≤ 57) = false := by simp; omega
            have t6 : ((s[k].toNat : Int) == 45) = false := by simp; omega
            have t7 : ((s[k].toNat : Int) == 95) = false := by simp; omega
            have t8 : ((s[k].toNat : Int) == 46) = false := by simp; omega
            go_wp2
            go_ret
            exact ⟨ret_bool hF.out.symm, rfl⟩
        · have hyes : W.standsAll 0 s.data.toList = W.standsAll (k + 1) (s.data.toList.drop (k + 1)) := by
            rw [hR.out, W.stands_round s _ hlt]; simp [W.stands, W.letter, W.other]; omega
          have hF := Lib.hid hyes
          clear hno hyes
          rcases h with ⟨h, h'⟩ | ⟨h, h'⟩
          · have t0 : decide (((97 : Int)) ≤ (s[k].toNat : Int)) = false := by simp; omega
            have t1 : decide ((s[k].toNat : Int) ≤ 122) = true := by simp; omega
            have t2 : decide (((65 : Int)) ≤ (s[k].toNat : Int)) = true := by simp; omega
            have t3 : decide ((s[k].toNat : Int) ≤ 90) = true := by simp; omega
            have t4 : decide (((48 : Int)) ≤ (s[k].toNat : Int)) = true := by simp; omega
            have t5 : decide ((s[k].toNat : Int) ≤ 57) = false := by simp; omega
            have t6 : ((s[k].toNat : Int) == 45) = false := by simp; omega
            have t7 : ((s[k].toNat : Int) == 95) = false := by simp; omega
            have t8 : ((s[k].toNat : Int) == 46) = false := by simp; omega
            go_wp2
            go_round
            case rel => exact ⟨_, by omega, by go_num, hF.out⟩
            case measure => simp [intOf]; omega
          · have t0 : decide (((97 : Int)) ≤ (s[k].toNat : Int)) = true := by simp; omega
            have t1 : decide ((s[k].toNat : Int) ≤ 122) = true := by simp; omega
            have t2 : decide (((65 : Int)) ≤ (s[k].toNat : Int)) = true := by simp; omega
            have t3 : decide ((s[k].toNat : Int) ≤ 90) = false := by simp; omega
            have t4 : decide (((48 : Int)) ≤ (s[k].toNat : Int)) = true := by simp; omega
            have t5 : decide ((s[k].toNat : Int) ≤ 57) = false := by simp; omega
            have t6 : ((s[k].toNat : Int) == 45) = false := by simp; omega
            have t7 : ((s[k].toNat : Int) == 95) = false := by simp; omega
            have t8 : ((s[k].toNat : Int) == 46) = false := by simp; omega
            go_wp2
            go_round
            case rel => exact ⟨_, by omega, by go_num, hF.out⟩
            case measure => simp [intOf]; omega
        · clear hno
          rcases Nat.eq_zero_or_pos k with rfl | hk0
          · have hyes : W.standsAll 0 s.data.toList = false := by
              rw [hR.out, W.stands_round s _ hlt]; simp [W.stands, W.letter, W.other]; omega
            have hF := Lib.hid hyes
            clear hyes
            rcases h with ⟨h, h'⟩ | ⟨h, h'⟩ | ⟨h, h'⟩ | ⟨h, h'⟩
            · have t0 : decide (((97 : Int)) ≤ (s[0].toNat : Int)) = false := by simp; omega
              have t1 : decide ((s[0].toNat : Int) ≤ 122) = true := by simp; omega
              have t2 : decide (((65 : Int)) ≤ (s[0].toNat : Int)) = false := by simp; omega
              have t3 : decide ((s[0].toNat : Int) ≤ 90) = true := by simp; omega
              have t4 : decide (((48 : Int)) ≤ (s[0].toNat : Int)) = false := by simp; omega
              have t5 : decide ((s[0].toNat : Int) ≤ 57) = true := by simp; omega
              have t6 : ((s[0].toNat : Int) == 45) = true := by simp; omega
              have t7 : ((s[0].toNat : Int) == 95) = false := by simp; omega
              have t8 : ((s[0].toNat : Int) == 46) = false := by simp; omega
              go_wp2
              go_ret
              exact ⟨ret_bool hF.out.symm, rfl⟩
            · have t0 : decide (((97 : Int)) ≤ (s[0].toNat : Int)) = false := by simp; omega
              have t1 : decide ((s[0].toNat : Int) ≤ 122) = true := by simp; omega
              have t2 : decide (((65 : Int)) ≤ (s[0].toNat : Int)) = false := by simp; omega
              have t3 : decide ((s[0].toNat : Int) ≤ 90) = true := by simp; omega
              have t4 : decide (((48 : Int)) ≤ (s[0].toNat : Int)) = false := by simp; omega
              have t5 : decide ((s[0].toNat : Int) ≤ 57) = true := by simp; omega
              have t6 : ((s[0].toNat : Int) == 45) = false := by simp; omega
              have t7 : ((s[0].toNat : Int) == 95) = false := by simp; omega
              have t8 : ((s[0].toNat : Int) == 46) = true := by simp; omega
              go_wp2
              go_ret
              exact ⟨ret_bool hF.out.symm, rfl⟩
            · have t0 : decide (((97 : Int)) ≤ (s[0].toNat : Int)) = false := by simp; omega
              have t1 : decide ((s[0].toNat : Int) ≤ 122) = true := by simp; omega
              have t2 : decide (((65 : Int)) ≤ (s[0].toNat : Int)) = false := by simp; omega
              have t3 : decide ((s[0].toNat : Int) ≤ 90) = true := by simp; omega
              have t4 : decide (((48 : Int)) ≤ (s[0].toNat : Int)) = true := by simp; omega
              have t5 : decide ((s[0].toNat : Int) ≤ 57) = true := by simp; omega
              have t6 : ((s[0].toNat : Int) == 45) = false := by simp; omega
              have t7 : ((s[0].toNat : Int) == 95) = false := by simp; omega
              have t8 : ((s[0].toNat : Int) == 46) = false := by simp; omega
              go_wp2
              go_ret
              exact ⟨ret_bool hF.out.symm, rfl⟩
            · have t0 : decide (((97 : Int)) ≤ (s[0].toNat : Int)) = false := by simp; omega
              have t1 : decide ((s[0].toNat : Int) ≤ 122) = true := by simp; omega
              have t2 : decide (((65 : Int)) ≤ (s[0].toNat : Int)) = true := by simp; omega
              have t3 : decide ((s[0].toNat : Int) ≤ 90) = false := by simp; omega
              have t4 : decide (((48 : Int)) ≤ (s[0].toNat : Int)) = true := by simp; omega
              have t5 : decide ((s[0].toNat : Int) ≤ 57) = false := by simp; omega
              have t6 : ((s[0].toNat : Int) == 45) = false := by simp; omega
              have t7 : ((s[0].toNat : Int) == 95) = true := by simp; omega
              have t8 : ((s[0].toNat : Int) == 46) = false := by simp; omega
              go_wp2
              go_ret
              exact ⟨ret_bool hF.out.symm, rfl⟩
          · have hyes : W.standsAll 0 s.data.toList = W.standsAll (k + 1) (s.data.toList.drop (k + 1)) := by
              rw [hR.out, W.stands_round s _ hlt]; simp [W.stands, W.letter, W.other]; omega
            have hF := Lib.hid hyes
            clear hyes
            have hk1 : ((k : Int) == 0) = false := by simp; omega
            rcases h with ⟨h, h'⟩ | ⟨h, h'⟩ | ⟨h, h'⟩ | ⟨h, h'⟩
            · have t0 : decide (((97 : Int)) ≤ (s[k].toNat : Int)) = false := by simp; omega
              have t1 : decide ((s[k].toNat : Int) ≤ 122) = true := by simp; omega
              have t2 : decide (((65 : Int)) ≤ (s[k].toNat : Int)) = false := by simp; omega
              have t3 : decide ((s[k].toNat : Int) ≤ 90) = true := by simp; omega
              have t4 : decide (((48 : Int)) ≤ (s[k].toNat : Int)) = false := by simp; omega
              have t5 : decide ((s[k].toNat : Int) ≤ 57) = true := by simp; omega
              have t6 : ((s[k].toNat : Int) == 45) = true := by simp; omega
              have t7 : ((s[k].toNat : Int) == 95) = false := by simp; omega
              have t8 : ((s[k].toNat : Int) == 46) = false := by simp; omega
              go_wp2
              go_round
              case rel => exact ⟨_, by omega, by go_num, hF.out⟩
              case measure => simp [intOf]; omega
            · have t0 : decide (((97 : Int)) ≤ (s[k].toNat : Int)) = false := by simp; omega
              have t1 : decide ((s[k].toNat : Int) ≤ 122) = true := by simp; omega
              have t2 : decide (((65 : Int)) ≤ (s[k].toNat : Int)) = false := by simp; omega
              have t3 : decide ((s[k].toNat : Int) ≤ 90) = true := by simp; omega
              have t4 : decide (((48 : Int)) ≤ (s[k].toNat : Int)) = false := by simp; omega
              have t5 : decide ((s[k].toNat : Int) ≤ 57) = true := by simp; omega
              have t6 : ((s[k].toNat : Int) == 45) = false := by simp; omega
              have t7 : ((s[k].toNat : Int) == 95) = false := by simp; omega
              have t8 : ((s[k].toNat : Int) == 46) = true := by simp; omega
              go_wp2
              go_round
              case rel => exact ⟨_, by omega, by go_num, hF.out⟩
              case measure => simp [intOf]; omega
            · have t0 : decide (((97 : Int)) ≤ (s[k].toNat : Int)) = false := by simp; omega
              have t1 : decide ((s[k].toNat : Int) ≤ 122) = true := by simp; omega
              have t2 : decide (((65 : Int)) ≤ (s[k].toNat : Int)) = false := by simp; omega
              have t3 : decide ((s[k].toNat : Int) ≤ 90) = true := by simp; omega
              have t4 : decide (((48 : Int)) ≤ (s[k].toNat : Int)) = true := by simp; omega
              have t5 : decide ((s[k].toNat : Int) ≤ 57) = true := by simp; omega
              have t6 : ((s[k].toNat : Int) == 45) = false := by simp; omega
              have t7 : ((s[k].toNat : Int) == 95) = false := by simp; omega
              have t8 : ((s[k].toNat : Int) == 46) = false := by simp; omega
              go_wp2
              go_round
              case rel => exact ⟨_, by omega, by go_num, hF.out⟩
              case measure => simp [intOf]; omega
            · have t0 : decide (((97 : Int)) ≤ (s[k].toNat : Int)) = false := by simp; omega
              have t1 : decide ((s[k].toNat : Int) ≤ 122) = true := by simp; omega
              have t2 : decide (((65 : Int)) ≤ (s[k].toNat : Int)) = true := by simp; omega
              have t3 : decide ((s[k].toNat : Int) ≤ 90) = false := by simp; omega
              have t4 : decide (((48 : Int)) ≤ (s[k].toNat : Int)) = true := by simp; omega
              have t5 : decide ((s[k].toNat : Int) ≤ 57) = false := by simp; omega
              have t6 : ((s[k].toNat : Int) == 45) = false := by simp; omega
              have t7 : ((s[k].toNat : Int) == 95) = true := by simp; omega
              have t8 : ((s[k].toNat : Int) == 46) = false := by simp; omega
              go_wp2
              go_round
              case rel => exact ⟨_, by omega, by go_num, hF.out⟩
              case measure => simp [intOf]; omega
      · go_wp2
        go_ret
        obtain rfl : k = s.size := by omega
        exact ⟨ret_bool (by rw [hR.out, W.stands_end s]), rfl⟩
  · rw [W.nameB_len s h]
    by_cases h0 : s.size = 0
    · have hl0 : decide ((s.size : Int) < 1) = true := by simp; omega
      go_enter Tryd.func64, Tryd.ntmps64
      go_wp2
      go_ret
      exact ⟨rfl, rfl⟩
    · have hl0 : decide ((s.size : Int) < 1) = false := by simp; omega
      have hl1 : decide ((32 : Int) < (s.size : Int)) = true := by simp; omega
      go_enter Tryd.func64, Tryd.ntmps64
      go_wp2
      go_ret
      exact ⟨rfl, rfl⟩
end Go.Proofs.YtohdifffdgoaaaaDoor
