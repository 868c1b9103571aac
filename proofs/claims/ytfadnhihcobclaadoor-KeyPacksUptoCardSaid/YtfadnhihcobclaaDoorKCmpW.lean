/- The walk of the library's CompareFunc at parts, and of key.Cmp. -/
import Derived.Test.YtfadnhihcobclaaDoorKParts
namespace Go.Proofs.YtfadnhihcobclaaDoor
open Go.RowKit
open Go.Lib (hid)
open K
namespace K
theorem cmpK_step (ps qs : List Part) (k : Nat) (h : k < ps.length) (h' : k < qs.length) : cmpK (ps.drop k) (qs.drop k) = if cmpP ps[k] qs[k] ≠ 0 then cmpP ps[k] qs[k] else cmpK (ps.drop (k + 1)) (qs.drop (k + 1)) := by
  rw [List.drop_eq_getElem_cons h, List.drop_eq_getElem_cons h', cmpK]
theorem cmpK_long (ps qs : List Part) (k : Nat) (h : k < ps.length) (h' : qs.length ≤ k) : cmpK (ps.drop k) (qs.drop k) = 1 := by
  rw [List.drop_eq_getElem_cons h, List.drop_of_length_le h', cmpK]
theorem cmpK_end (ps qs : List Part) : cmpK (ps.drop ps.length) (qs.drop ps.length) = if ps.length < qs.length then -1 else 0 := by
  rw [List.drop_of_length_le (Nat.le_refl _)]
  by_cases h : ps.length < qs.length
  · rw [List.drop_eq_getElem_cons h, if_pos h, cmpK]
  · rw [List.drop_of_length_le (by omega), if_neg h, cmpK]
end K
set_option maxRecDepth 100000 in
set_option maxHeartbeats 4000000 in
theorem compareFunc_any (ps qs : List Part) (sa sb : Value) (w : World) (ha : PIn w ps sa) (hb : PIn w qs sb) (hl : ps.length ≤ 1000000000) :
    Calls Tryd.prog 38 #[sa, sb, .func (.func 39) #[] #[]] w fun e w' => e = .returned (.int .i64 (cmpK ps qs)) ∧ Below w.heap.size w w' := by
  obtain ⟨n, hn⟩ : ∃ n, ps.length = n := ⟨_, rfl⟩
  obtain ⟨m, hm⟩ : ∃ m, qs.length = m := ⟨_, rfl⟩
  obtain ⟨xa, c, hsa⟩ := ha.shape
  obtain ⟨xb, c', hsb⟩ := hb.shape
  rw [hn] at hsa hl
  rw [hm] at hsb
  subst hsa hsb
  obtain ⟨R, hR⟩ : ∃ R, cmpK ps qs = R := ⟨_, rfl⟩
  rw [hR]
  have HA := hid ha
  have HB := hid hb
  have HN := hid hn
  have HM := hid hm
  have HR := hid hR
  clear ha hb hn hm hR
  go_enter Tryd.func38, Tryd.ntmps38
  go_wp2_with fail
  go_loopw [13] (fun i wr => ∃ (k : Nat), k ≤ n ∧ i = .int .i64 k ∧ Hid (Below w.heap.size w wr) ∧ Hid (R = cmpK (ps.drop k) (qs.drop k))) (fun i _ => n - (intOf i).toNat)
  case atStart => exact ⟨0, by omega, rfl, Below.refl _ _, HR.out.symm⟩
  case round =>
    obtain ⟨k, hk, rfl, hb, hI⟩ := hrel
    by_cases hlt : k < n
    · have hl0 : decide ((k : Int) < (n : Int)) = true := by simp; omega
      have hkp : k < ps.length := by have := HN.out; omega
      obtain ⟨b, o, c2, hsv, hbl, c0, c1, c2⟩ := HA.out.cells hkp
      rw [HN.out] at hsv
      simp only [Value.slice.injEq, true_and] at hsv
      obtain ⟨rfl, rfl⟩ := hsv
      rw [← hb.out.cell (p := ⟨b, _, none⟩) hbl] at c0 c1 c2
      have hk0 : (0 : Int) ≤ (k : Int) := by omega
      have hk1 : (k : Int) < (n : Int) := by omega
      have hwr := hb.out.size
      by_cases hlm : k < m
      · have hl1 : decide ((m : Int) ≤ (k : Int)) = false := by simp; omega
        have hkq : k < qs.length := by have := HM.out; omega
        have hst := hI.out.trans (cmpK_step ps qs k hkp hkq)
        obtain ⟨b', o', c3, hsv, hbl', d0, d1, d2⟩ := HB.out.cells hkq
        rw [HM.out] at hsv
        simp only [Value.slice.injEq, true_and] at hsv
        obtain ⟨rfl, rfl⟩ := hsv
        rw [← hb.out.cell (p := ⟨b', _, none⟩) hbl'] at d0 d1 d2
        have hk2 : (k : Int) < (m : Int) := by omega
        obtain ⟨p, hp⟩ : ∃ p, ps[k] = p := ⟨_, rfl⟩
        obtain ⟨q, hq⟩ : ∃ q, qs[k] = q := ⟨_, rfl⟩
        rw [hp] at c0 c1 c2 hst
        rw [hq] at d0 d1 d2 hst
        clear hp hq hkp hkq
        have bA := (Below.refl wr.heap.size wr).alloc (Nat.le_refl _) (.cells #[.bool p.text, .int .i64 p.n, .string p.say] 26)
        have g0 := (bA.cell (p := ⟨b', _, none⟩) (by show b' < _; omega)).trans d0
        have g1 := (bA.cell (p := ⟨b', _, none⟩) (by show b' < _; omega)).trans d1
        have g2 := (bA.cell (p := ⟨b', _, none⟩) (by show b' < _; omega)).trans d2
        clear bA d0 d1 d2
        have cC := cmpPart_any p q
        obtain ⟨r, hr⟩ : ∃ r, cmpP p q = r := ⟨_, rfl⟩
        rw [hr] at cC hst
        have HB1 := hid ((hb.out.alloc hwr (.cells #[.bool p.text, .int .i64 p.n, .string p.say] 26)).alloc (by simp; omega) (.cells #[.bool q.text, .int .i64 q.n, .string q.say] 26))
        by_cases h0 : r = 0
        · have t0 : (r != 0) = false := by simp [h0]
          have HI : Hid (R = cmpK (ps.drop (k + 1)) (qs.drop (k + 1))) := by
            show _ = _
            rw [hst, if_neg (by simp [h0])]
          clear hst hr h0 hI HR hb
          go_wp2_with fail
          refine (cC _).mono ?_
          rintro e w1 ⟨rfl, b1⟩
          have HB2 := hid (HB1.out.trans (b1.mono (by simp; omega)))
          clear b1
          go_wp2_with fail
          go_roundw
          case rel => exact ⟨k + 1, by omega, by go_num, HB2, HI⟩
          case measure => simp [intOf]; omega
        · have t0 : (r != 0) = true := by simp [h0]
          have HE : Hid (r = R) := by
            show _ = _
            rw [hst, if_pos h0]
          clear hst hr h0 hI HR hb
          go_wp2_with fail
          refine (cC _).mono ?_
          rintro e w1 ⟨rfl, b1⟩
          have HB2 := hid (HB1.out.trans (b1.mono (by simp; omega)))
          clear b1
          go_wp2_with fail
          go_ret
          exact ⟨ret_i HE.out, HB2.out⟩
      · have hl1 : decide ((m : Int) ≤ (k : Int)) = true := by simp; omega
        have HE : Hid (1 = R) := by
          show _ = _
          rw [hI.out, cmpK_long ps qs k hkp (by have := HM.out; omega)]
        have HB1 := hid (hb.out.alloc hwr (.cells #[.bool (ps[k]'hkp).text, .int .i64 (ps[k]'hkp).n, .string (ps[k]'hkp).say] 26))
        obtain ⟨p, hp⟩ : ∃ p, ps[k] = p := ⟨_, rfl⟩
        rw [hp] at c0 c1 c2 HB1
        clear hp hI HR hb hkp
        go_wp2_with fail
        go_ret
        exact ⟨ret_i HE.out, HB1.out⟩
    · have hl0 : decide ((k : Int) < (n : Int)) = false := by simp; omega
      obtain rfl : k = n := by omega
      have hE : R = if k < m then -1 else 0 := by
        have := cmpK_end ps qs
        rw [HN.out, HM.out] at this
        rw [hI.out, this]
      by_cases hkm : k < m
      · have t0 : decide ((k : Int) < (m : Int)) = true := by simp; omega
        rw [if_pos hkm] at hE
        have HE := hid hE
        clear hE hI HR
        go_wp2_with fail
        go_ret
        exact ⟨ret_i HE.out.symm, hb.out⟩
      · have t0 : decide ((k : Int) < (m : Int)) = false := by simp; omega
        rw [if_neg hkm] at hE
        have HE := hid hE
        clear hE hI HR
        go_wp2_with fail
        go_ret
        exact ⟨ret_i HE.out.symm, hb.out⟩
theorem keyCmp_any (ps qs : List Part) (sa sb : Value) (w : World) (ha : PIn w ps sa) (hb : PIn w qs sb) (hl : ps.length ≤ 1000000000) :
    Calls Tryd.prog 17 #[sa, sb] w fun e w' => e = .returned (.int .i64 (cmpK ps qs)) ∧ Below w.heap.size w w' := by
  have cC := compareFunc_any ps qs sa sb w ha hb hl
  obtain ⟨R, hR⟩ : ∃ R, cmpK ps qs = R := ⟨_, rfl⟩
  rw [hR] at cC ⊢
  clear hR ha hb
  go_enter Tryd.func17, Tryd.ntmps17
  go_wp2_with fail
  refine cC.mono ?_
  rintro e w' ⟨rfl, b⟩
  have HB := hid b
  clear b
  go_wp2_with fail
  go_ret
  exact ⟨rfl, HB.out⟩
end Go.Proofs.YtfadnhihcobclaaDoor
