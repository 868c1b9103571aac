/- The walks of the reference's functions on binds: Binds, Check at long texts, Find, CheckBinds. -/
import Derived.Test.YtohdifffdgoaaaaDoorVBindsW
import Derived.Test.YtohdifffdgoaaaaDoorVCmp
namespace Go.Proofs.YtohdifffdgoaaaaDoor
open Go.RowKit
open Go.Lib (hid)
open V
theorem cmp_refl (v : Val) : cmp v v = 0 := by simp [cmp]
set_option maxRecDepth 100000 in
set_option maxHeartbeats 2000000 in
theorem refBinds_yes (bs : List Bind) (sa sb : Value) (w : World) (ha : BIn w bs sa) (hb : BIn w bs sb) (hl : bs.length ≤ 10000000000000) :
    Calls Tryd.prog 30 #[sa, sb] w fun e w' => e = .returned (.bool true) ∧ Below w.heap.size w w' := by
  obtain ⟨n, hn⟩ : ∃ n, bs.length = n := ⟨_, rfl⟩
  obtain ⟨xa, ca, hsa⟩ := ha.shape
  obtain ⟨xb, cb, hsb⟩ := hb.shape
  rw [hn] at hsa hsb hl
  subst hsa hsb
  have HA := hid ha
  have HB := hid hb
  have HN := hid hn
  clear hn ha hb
  have t9 : ((n : Int) != (n : Int)) = false := by simp
  go_enter Tryd.func30, Tryd.ntmps30
  go_wp2_with fail
  go_loopw [5] (fun i wr => ∃ (k : Nat), k ≤ n ∧ i = .int .i64 k ∧ Hid (Below w.heap.size w wr)) (fun i _ => n - (intOf i).toNat)
  case atStart => exact ⟨0, by omega, rfl, Below.refl _ _⟩
  case round =>
    obtain ⟨k, hk, rfl, hb⟩ := hrel
    clear t9
    by_cases hlt : k < n
    · have hl0 : decide ((k : Int) < (n : Int)) = true := by simp; omega
      have hkp : k < bs.length := by have := HN.out; omega
      obtain ⟨b, o, _, hsv, hbl, c0, c1, c2, c3, c4⟩ := HA.out.cells hkp
      rw [HN.out] at hsv
      simp only [Value.slice.injEq, true_and] at hsv
      obtain ⟨rfl, rfl⟩ := hsv
      obtain ⟨b', o', _, hsv, hbl', d0, d1, d2, d3, d4⟩ := HB.out.cells hkp
      rw [HN.out] at hsv
      simp only [Value.slice.injEq, true_and] at hsv
      obtain ⟨rfl, rfl⟩ := hsv
      have hk0 : (0 : Int) ≤ (k : Int) := by omega
      have hk1 : (k : Int) < (n : Int) := by omega
      obtain ⟨p, hp⟩ : ∃ p, bs[k] = p := ⟨_, rfl⟩
      rw [hp] at c0 c1 c2 c3 c4 d0 d1 d2 d3 d4
      clear hp hkp
      obtain ⟨x, kk, nn, bb, ss⟩ := p
      simp only at c0 c1 c2 c3 c4 d0 d1 d2 d3 d4
      have cS := fun X => refCmp_any kk kk nn nn bb bb ss ss X
      rw [cmp_refl] at cS
      have HS := hid cS
      clear cS
      have t0 : (x.toList != x.toList) = false := by simp
      go_wp2_with fail
      refine quiet_lit (C := fun w' => Hid (Below w.heap.size w w')) (by kernel_rfl) (by kernel_rfl) (hid hb.out.drew) ?_
      repeat (first
        | go_big_quiet_skip
        | (go_big_quiet_want
           refine quiet_val (x := ?_) (fun vv hC => ?_) ?_
           rotate_left
           · skip
             have x0 := (hC.out.cell (p := ⟨b, _, none⟩) hbl).trans c0
             have x1 := (hC.out.cell (p := ⟨b, _, none⟩) hbl).trans c1
             have x2 := (hC.out.cell (p := ⟨b, _, none⟩) hbl).trans c2
             have x3 := (hC.out.cell (p := ⟨b, _, none⟩) hbl).trans c3
             have x4 := (hC.out.cell (p := ⟨b, _, none⟩) hbl).trans c4
             have y0 := (hC.out.cell (p := ⟨b', _, none⟩) hbl').trans d0
             have y1 := (hC.out.cell (p := ⟨b', _, none⟩) hbl').trans d1
             have y2 := (hC.out.cell (p := ⟨b', _, none⟩) hbl').trans d2
             have y3 := (hC.out.cell (p := ⟨b', _, none⟩) hbl').trans d3
             have y4 := (hC.out.cell (p := ⟨b', _, none⟩) hbl').trans d4
             clear hC
             go_simp
             with_reducible rfl
           go_big_quiet_on
           try simp only [Act.put, List.setIfInBounds_toArray, List.set_cons_zero, List.set_cons_succ])
        | (go_big_quiet_want
           refine quiet_call (f := ?_) (args := ?_) (x := ?_) (fun vv hC => ?_) (fun vv hC => ?_) ?_
           rotate_left 3
           · go_simp
             first | with_reducible rfl | (apply And.intro <;> with_reducible rfl)
           · first
               | (go_at_call 29; with_reducible refine (HS.out _).mono ?_; rintro e ww ⟨rfl, bb⟩; refine And.intro ?_ (hid (hC.out.trans (bb.mono hC.out.size))); with_reducible rfl)
           go_big_quiet_on
           try simp only [Act.put, List.setIfInBounds_toArray, List.set_cons_zero, List.set_cons_succ]))
      refine wpQuiet_nil ?_
      intro vq hq
      clear hb
      go_wp2_with fail
      go_roundw
      case rel => exact ⟨k + 1, by omega, by go_num, hq⟩
      case measure => simp [intOf]; omega
    · have hl0 : decide ((k : Int) < (n : Int)) = false := by simp; omega
      go_wp2_with fail
      go_ret
      exact ⟨rfl, hb.out⟩
set_option maxRecDepth 100000 in
set_option maxHeartbeats 2000000 in
theorem refCheck_wide (k : Nat) (n : Int) (b : Bool) (s : ByteArray) (w : World) (hs : s.size ≤ 9223372036854775807) :
    Calls Tryd.prog 35 #[.agg #[.int .u8 k, .int .i64 n, .bool b, .string s]] w fun e w' => e = .returned (.int .i64 (V.okE ⟨k, n, b, s⟩)) ∧ Below w.heap.size w w' := by
  by_cases hl : s.size ≤ 1024
  · exact refCheck_any k n b s w (by omega)
  · have hR : V.okE ⟨k, n, b, s⟩ = 1 := by
      have h0 : ¬ s.size = 0 := by omega
      simp [V.okE, V.ok, hl, h0]
    rw [hR]
    have hemp := emp_false (show ¬ s.size = 0 by omega)
    have l0 : decide ((s.size : Int) ≤ 1024) = false := by simp; omega
    clear hR
    by_cases k1 : k = 1
    · subst k1
      have t1 : (((1 : Nat) : Int) == 1) = true := rfl
      cases b
      all_goals
        go_enter Tryd.func35, Tryd.ntmps35
        go_wp2_with fail
        go_ret
        exact ⟨rfl, (Below.refl _ w).alloc (Nat.le_refl _) _⟩
    · by_cases k2 : k = 2
      · subst k2
        have t1 : (((2 : Nat) : Int) == 1) = false := rfl
        have t2 : (((2 : Nat) : Int) == 2) = true := rfl
        by_cases n0 : n = 0
        · subst n0
          go_enter Tryd.func35, Tryd.ntmps35
          go_wp2_with fail
          go_ret
          exact ⟨rfl, (Below.refl _ w).alloc (Nat.le_refl _) _⟩
        · have q0 : (n == 0) = false := beq_eq_false_iff_ne.2 n0
          go_enter Tryd.func35, Tryd.ntmps35
          go_wp2_with fail
          go_ret
          exact ⟨rfl, (Below.refl _ w).alloc (Nat.le_refl _) _⟩
      · by_cases k3 : k = 3
        · subst k3
          have t1 : (((3 : Nat) : Int) == 1) = false := rfl
          have t2 : (((3 : Nat) : Int) == 2) = false := rfl
          have t3 : (((3 : Nat) : Int) == 3) = true := rfl
          by_cases n0 : n = 0
          · subst n0
            cases b
            all_goals
              go_enter Tryd.func35, Tryd.ntmps35
              go_wp2_with fail
              go_ret
              exact ⟨rfl, (Below.refl _ w).alloc (Nat.le_refl _) _⟩
          · have q0 : (n == 0) = false := beq_eq_false_iff_ne.2 n0
            go_enter Tryd.func35, Tryd.ntmps35
            go_wp2_with fail
            go_ret
            exact ⟨rfl, (Below.refl _ w).alloc (Nat.le_refl _) _⟩
        · have t1 : ((k : Int) == 1) = false := beq_eq_false_iff_ne.2 (by omega)
          have t2 : ((k : Int) == 2) = false := beq_eq_false_iff_ne.2 (by omega)
          have t3 : ((k : Int) == 3) = false := beq_eq_false_iff_ne.2 (by omega)
          go_enter Tryd.func35, Tryd.ntmps35
          go_wp2_with fail
          go_ret
          exact ⟨rfl, (Below.refl _ w).alloc (Nat.le_refl _) _⟩
end Go.Proofs.YtohdifffdgoaaaaDoor
