/- The walks of the library's Compare on numbers, of boolean, and of Or. -/
import Derived.Test.YtohdifffdgoaaaaDoorVNums
namespace Go.Proofs.YtohdifffdgoaaaaDoor
open Go.RowKit
open Go.Lib (hid)
/-- -1, 0, 1 -/
def ordI (a b : Int) : Int := if a < b then -1 else if b < a then 1 else 0
theorem boolean_any (b : Bool) (w : World) : Calls Tryd.prog 75 #[.bool b] w fun e w' => e = .returned (.int .i64 (if b then 1 else 0)) ∧ w' = w := by
  cases b
  all_goals
    go_enter Tryd.func75, Tryd.ntmps75
    go_wp2_with fail
    go_ret
    exact ⟨rfl, rfl⟩

theorem isNaN_u8 (a : Int) (w : World) : Calls Tryd.prog 92 #[.int .u8 a] w fun e w' => e = .returned (.bool false) ∧ w' = w := by
  have t0 : (a != a) = false := by simp
  go_enter Tryd.func92, Tryd.ntmps92
  go_wp2_with fail
  go_ret
  exact ⟨by simp, rfl⟩
set_option maxRecDepth 100000 in
theorem compare_u8 (a b : Int) (w : World) : Calls Tryd.prog 73 #[.int .u8 a, .int .u8 b] w fun e w' => e = .returned (.int .i64 (ordI a b)) ∧ w' = w := by
  obtain ⟨R, hR⟩ : ∃ R, ordI a b = R := ⟨_, rfl⟩
  rw [hR]
  have HR := hid hR
  clear hR
  rcases Int.lt_trichotomy a b with h | h | h
  · have t0 : decide (a < b) = true := decide_eq_true h
    have HE : Hid (R = -1) := by show _ = _; rw [← HR.out]; unfold ordI; rw [if_pos h]
    clear HR
    go_enter Tryd.func73, Tryd.ntmps73
    go_wp2_with fail
    refine (isNaN_u8 a w).mono ?_
    rintro e w' ⟨rfl, rfl⟩
    go_wp2_with fail
    refine (isNaN_u8 b w').mono ?_
    rintro e w' ⟨rfl, rfl⟩
    go_wp2_with fail
    go_ret
    exact ⟨ret_i (a := -1) HE.out.symm, rfl⟩
  · subst h
    have t0 : decide (a < a) = false := by simp
    have HE : Hid (R = 0) := by show _ = _; rw [← HR.out]; unfold ordI; simp
    clear HR
    go_enter Tryd.func73, Tryd.ntmps73
    go_wp2_with fail
    refine (isNaN_u8 a w).mono ?_
    rintro e w' ⟨rfl, rfl⟩
    go_wp2_with fail
    refine (isNaN_u8 a w').mono ?_
    rintro e w' ⟨rfl, rfl⟩
    go_wp2_with fail
    go_ret
    exact ⟨ret_i (a := 0) HE.out.symm, rfl⟩
  · have t0 : decide (a < b) = false := decide_eq_false (by omega)
    have t1 : decide (b < a) = true := decide_eq_true h
    have HE : Hid (R = 1) := by show _ = _; rw [← HR.out]; unfold ordI; rw [if_neg (by omega), if_pos h]
    clear HR
    go_enter Tryd.func73, Tryd.ntmps73
    go_wp2_with fail
    refine (isNaN_u8 a w).mono ?_
    rintro e w' ⟨rfl, rfl⟩
    go_wp2_with fail
    refine (isNaN_u8 b w').mono ?_
    rintro e w' ⟨rfl, rfl⟩
    go_wp2_with fail
    go_ret
    exact ⟨ret_i (a := 1) HE.out.symm, rfl⟩

theorem isNaN_i64 (a : Int) (w : World) : Calls Tryd.prog 93 #[.int .i64 a] w fun e w' => e = .returned (.bool false) ∧ w' = w := by
  have t0 : (a != a) = false := by simp
  go_enter Tryd.func93, Tryd.ntmps93
  go_wp2_with fail
  go_ret
  exact ⟨by simp, rfl⟩
set_option maxRecDepth 100000 in
theorem compare_i64 (a b : Int) (w : World) : Calls Tryd.prog 74 #[.int .i64 a, .int .i64 b] w fun e w' => e = .returned (.int .i64 (ordI a b)) ∧ w' = w := by
  obtain ⟨R, hR⟩ : ∃ R, ordI a b = R := ⟨_, rfl⟩
  rw [hR]
  have HR := hid hR
  clear hR
  rcases Int.lt_trichotomy a b with h | h | h
  · have t0 : decide (a < b) = true := decide_eq_true h
    have HE : Hid (R = -1) := by show _ = _; rw [← HR.out]; unfold ordI; rw [if_pos h]
    clear HR
    go_enter Tryd.func74, Tryd.ntmps74
    go_wp2_with fail
    refine (isNaN_i64 a w).mono ?_
    rintro e w' ⟨rfl, rfl⟩
    go_wp2_with fail
    refine (isNaN_i64 b w').mono ?_
    rintro e w' ⟨rfl, rfl⟩
    go_wp2_with fail
    go_ret
    exact ⟨ret_i (a := -1) HE.out.symm, rfl⟩
  · subst h
    have t0 : decide (a < a) = false := by simp
    have HE : Hid (R = 0) := by show _ = _; rw [← HR.out]; unfold ordI; simp
    clear HR
    go_enter Tryd.func74, Tryd.ntmps74
    go_wp2_with fail
    refine (isNaN_i64 a w).mono ?_
    rintro e w' ⟨rfl, rfl⟩
    go_wp2_with fail
    refine (isNaN_i64 a w').mono ?_
    rintro e w' ⟨rfl, rfl⟩
    go_wp2_with fail
    go_ret
    exact ⟨ret_i (a := 0) HE.out.symm, rfl⟩
  · have t0 : decide (a < b) = false := decide_eq_false (by omega)
    have t1 : decide (b < a) = true := decide_eq_true h
    have HE : Hid (R = 1) := by show _ = _; rw [← HR.out]; unfold ordI; rw [if_neg (by omega), if_pos h]
    clear HR
    go_enter Tryd.func74, Tryd.ntmps74
    go_wp2_with fail
    refine (isNaN_i64 a w).mono ?_
    rintro e w' ⟨rfl, rfl⟩
    go_wp2_with fail
    refine (isNaN_i64 b w').mono ?_
    rintro e w' ⟨rfl, rfl⟩
    go_wp2_with fail
    go_ret
    exact ⟨ret_i (a := 1) HE.out.symm, rfl⟩
end Go.Proofs.YtohdifffdgoaaaaDoor
