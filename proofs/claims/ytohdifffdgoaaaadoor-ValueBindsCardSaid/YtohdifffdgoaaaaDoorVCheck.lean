/- The walks of Check, the program's and the document's. -/
import Derived.Test.YtohdifffdgoaaaaDoorVBase
namespace Go.Proofs.YtohdifffdgoaaaaDoor
open Go.RowKit
open Go.Lib (hid)

theorem ret_i {a b : Int} (h : a = b) : Ending.returned (.int .i64 a) = .returned (.int .i64 b) := by rw [h]
theorem emp_true {s : ByteArray} (h : s.size = 0) : s.toList.isEmpty = true := by
  rw [Lib.toList_data, List.eq_nil_of_length_eq_zero (show s.data.toList.length = 0 from h)]; rfl
theorem emp_false {s : ByteArray} (h : s.size ≠ 0) : s.toList.isEmpty = false := by
  rw [← decide_eq_emptyBytes]
  exact decide_eq_false (fun e => h (by rw [e]; rfl))
theorem nil_of_size {s : ByteArray} (h : s.size = 0) : s = ⟨#[]⟩ := by
  have : s.data.toList = [] := List.eq_nil_of_length_eq_zero (show s.data.toList.length = 0 from h)
  have e : s = ⟨s.data.toList.toArray⟩ := rfl
  rw [e, this]

set_option maxRecDepth 100000 in
set_option maxHeartbeats 4000000 in
theorem refCheck_any (k : Nat) (n : Int) (b : Bool) (s : ByteArray) (w : World) (hs : s.size ≤ 9223372036854775803) :
    Calls Tryd.prog 35 #[.agg #[.int .u8 k, .int .i64 n, .bool b, .string s]] w fun e w' => e = .returned (.int .i64 (V.okE ⟨k, n, b, s⟩)) ∧ Below w.heap.size w w' := by
  obtain ⟨R, hR⟩ : ∃ R, V.okE ⟨k, n, b, s⟩ = R := ⟨_, rfl⟩
  rw [hR]
  by_cases k1 : k = 1
  · subst k1
    have t1 : (((1 : Nat) : Int) == 1) = true := rfl
    have t2 : (((1 : Nat) : Int) == 2) = false := rfl
    have t3 : (((1 : Nat) : Int) == 3) = false := rfl
    by_cases hs0 : s.size = 0
    · have hemp := emp_true hs0
      cases b
      · have HR : Hid (R = 0) := by show _ = _; rw [← hR]; simp [V.okE, V.ok, hs0]
        clear hR
        go_enter Tryd.func35, Tryd.ntmps35
        go_wp2_with fail
        go_ret
        exact ⟨ret_i (a := 0) HR.out.symm, (Below.refl _ w).alloc (Nat.le_refl _) _⟩
      · have HR : Hid (R = 1) := by show _ = _; rw [← hR]; simp [V.okE, V.ok]
        clear hR
        go_enter Tryd.func35, Tryd.ntmps35
        go_wp2_with fail
        go_ret
        exact ⟨ret_i (a := 1) HR.out.symm, (Below.refl _ w).alloc (Nat.le_refl _) _⟩
    · have hemp := emp_false hs0
      have HR : Hid (R = 1) := by show _ = _; rw [← hR]; simp [V.okE, V.ok, hs0]
      clear hR
      cases b
      all_goals
        go_enter Tryd.func35, Tryd.ntmps35
        go_wp2_with fail
        go_ret
        exact ⟨ret_i (a := 1) HR.out.symm, (Below.refl _ w).alloc (Nat.le_refl _) _⟩
  · by_cases k2 : k = 2
    · subst k2
      have t1 : (((2 : Nat) : Int) == 1) = false := rfl
      have t2 : (((2 : Nat) : Int) == 2) = true := rfl
      have t3 : (((2 : Nat) : Int) == 3) = false := rfl
      by_cases n0 : n = 0
      · subst n0
        by_cases hs0 : s.size = 0
        · have hemp := emp_true hs0
          have HR : Hid (R = 0) := by show _ = _; rw [← hR]; simp [V.okE, V.ok, hs0]
          clear hR
          go_enter Tryd.func35, Tryd.ntmps35
          go_wp2_with fail
          go_ret
          exact ⟨ret_i (a := 0) HR.out.symm, (Below.refl _ w).alloc (Nat.le_refl _) _⟩
        · have hemp := emp_false hs0
          have HR : Hid (R = 1) := by show _ = _; rw [← hR]; simp [V.okE, V.ok, hs0]
          clear hR
          go_enter Tryd.func35, Tryd.ntmps35
          go_wp2_with fail
          go_ret
          exact ⟨ret_i (a := 1) HR.out.symm, (Below.refl _ w).alloc (Nat.le_refl _) _⟩
      · have q0 : (n == 0) = false := beq_eq_false_iff_ne.2 n0
        have HR : Hid (R = 1) := by show _ = _; rw [← hR]; simp [V.okE, V.ok, n0]
        clear hR
        go_enter Tryd.func35, Tryd.ntmps35
        go_wp2_with fail
        go_ret
        exact ⟨ret_i (a := 1) HR.out.symm, (Below.refl _ w).alloc (Nat.le_refl _) _⟩
    · by_cases k3 : k = 3
      · subst k3
        have t1 : (((3 : Nat) : Int) == 1) = false := rfl
        have t2 : (((3 : Nat) : Int) == 2) = false := rfl
        have t3 : (((3 : Nat) : Int) == 3) = true := rfl
        by_cases n0 : n = 0
        · subst n0
          cases b
          · by_cases hl : s.size ≤ 1024
            · have l0 : decide ((s.size : Int) ≤ 1024) = true := by simp; omega
              have cU := fun X => refUtf8_any s X hs
              obtain ⟨v, hv⟩ : ∃ v, Lib.validD s.data.toList = v := ⟨_, rfl⟩
              rw [hv] at cU
              have HR : Hid (R = if v then 0 else 1) := by show _ = _; rw [← hR]; simp [V.okE, V.ok, hl, hv]
              clear hR hv
              go_enter Tryd.func35, Tryd.ntmps35
              go_wp2_with fail
              refine (cU _).mono ?_
              rintro e w1 ⟨rfl, b1⟩
              have B1 := hid (((Below.refl w.heap.size w).alloc (Nat.le_refl _) _).trans (b1.mono (by simp)))
              clear b1
              cases v
              · go_wp2_with fail
                go_ret
                exact ⟨ret_i (a := 1) HR.out.symm, B1.out⟩
              · go_wp2_with fail
                go_ret
                exact ⟨ret_i (a := 0) HR.out.symm, B1.out⟩
            · have l0 : decide ((s.size : Int) ≤ 1024) = false := by simp; omega
              have HR : Hid (R = 1) := by show _ = _; rw [← hR]; simp [V.okE, V.ok, hl]
              clear hR
              go_enter Tryd.func35, Tryd.ntmps35
              go_wp2_with fail
              go_ret
              exact ⟨ret_i (a := 1) HR.out.symm, (Below.refl _ w).alloc (Nat.le_refl _) _⟩
          · have HR : Hid (R = 1) := by show _ = _; rw [← hR]; simp [V.okE, V.ok]
            clear hR
            go_enter Tryd.func35, Tryd.ntmps35
            go_wp2_with fail
            go_ret
            exact ⟨ret_i (a := 1) HR.out.symm, (Below.refl _ w).alloc (Nat.le_refl _) _⟩
        · have q0 : (n == 0) = false := beq_eq_false_iff_ne.2 n0
          have HR : Hid (R = 1) := by show _ = _; rw [← hR]; simp [V.okE, V.ok, n0]
          clear hR
          go_enter Tryd.func35, Tryd.ntmps35
          go_wp2_with fail
          go_ret
          exact ⟨ret_i (a := 1) HR.out.symm, (Below.refl _ w).alloc (Nat.le_refl _) _⟩
      · have t1 : ((k : Int) == 1) = false := beq_eq_false_iff_ne.2 (by omega)
        have t2 : ((k : Int) == 2) = false := beq_eq_false_iff_ne.2 (by omega)
        have t3 : ((k : Int) == 3) = false := beq_eq_false_iff_ne.2 (by omega)
        have HR : Hid (R = 1) := by show _ = _; rw [← hR]; simp [V.okE, V.ok, k1, k2, k3]
        clear hR
        go_enter Tryd.func35, Tryd.ntmps35
        go_wp2_with fail
        go_ret
        exact ⟨ret_i (a := 1) HR.out.symm, (Below.refl _ w).alloc (Nat.le_refl _) _⟩
end Go.Proofs.YtohdifffdgoaaaaDoor
