/- The walk of the document's Cmp of keys. -/
import Derived.Test.YtfadnhihcobclaaDoorKCmpW
import Derived.Test.YtfadnhihcobclaaDoorKPlainO
import Derived.Deep.RegionHeld3
import Derived.Deep.DeepCutAuto
import Derived.WalkLawsBesides
import Derived.Laws.Cover1
namespace Go.Proofs.YtfadnhihcobclaaDoor
open Go.RowKit
open Go.Lib (hid)
open K
theorem two_new (w : World) (o o' : Obj) : ((w.alloc o).alloc o').heap[w.heap.size]? = some o ∧ ((w.alloc o).alloc o').heap[w.heap.size + 1]? = some o' := by
  have s1 : (w.alloc o).heap.size = w.heap.size + 1 := by simp
  refine ⟨?_, ?_⟩
  · rw [Lib.alloc_old _ _ _ (by omega)]; exact heap_alloc_new w _
  · rw [← s1]; exact heap_alloc_new _ _
set_option maxRecDepth 100000 in
set_option maxHeartbeats 8000000 in
theorem refCmpK_any (ps qs : List Part) (sa sb : Value) (w : World) (ha : PIn w ps sa) (hb : PIn w qs sb) (hl : ps.length ≤ 1000000000) (hl' : qs.length ≤ 1000000000) :
    Calls Tryd.prog 30 #[sa, sb] w fun e w' => e = .returned (.int .i64 (cmpK ps qs)) ∧ Below w.heap.size w w' := by
  obtain ⟨n, hn⟩ : ∃ n, ps.length = n := ⟨_, rfl⟩
  obtain ⟨m, hm⟩ : ∃ m, qs.length = m := ⟨_, rfl⟩
  obtain ⟨xa, c, hsa⟩ := ha.shape
  obtain ⟨xb, c', hsb⟩ := hb.shape
  rw [hn] at hsa hl
  rw [hm] at hsb hl'
  subst hsa hsb
  obtain ⟨R, hR⟩ : ∃ R, cmpK ps qs = R := ⟨_, rfl⟩
  rw [hR]
  have HA := hid ha
  have HB := hid hb
  have HN := hid hn
  have HM := hid hm
  have HR := hid hR
  clear ha hb hn hm hR
  go_enter Tryd.func30, Tryd.ntmps30
  go_wp2_with fail
  go_loopw [5] (fun i wr => ∃ (k : Nat), k ≤ n ∧ k ≤ m ∧ i = .int .i64 k ∧ Hid (Below w.heap.size w wr) ∧ Hid (R = cmpK (ps.drop k) (qs.drop k))) (fun i _ => n - (intOf i).toNat)
  case atStart => exact ⟨0, by omega, by omega, rfl, Below.refl _ _, HR.out.symm⟩
  case round =>
    obtain ⟨k, hk, hkm, rfl, hb, hI⟩ := hrel
    by_cases hlt : k < n ∧ k < m
    · have hl0 : decide ((k : Int) < (n : Int)) = true := by simp; omega
      have hl1 : decide ((k : Int) < (m : Int)) = true := by simp; omega
      have hkp : k < ps.length := by have := HN.out; omega
      have hkq : k < qs.length := by have := HM.out; omega
      have hst := hI.out.trans (cmpK_step ps qs k hkp hkq)
      obtain ⟨b, o, c2, hsv, hbl, c0, c1, c2⟩ := HA.out.cells hkp
      rw [HN.out] at hsv
      simp only [Value.slice.injEq, true_and] at hsv
      obtain ⟨rfl, rfl⟩ := hsv
      obtain ⟨b', o', c3, hsv, hbl', d0, d1, d2⟩ := HB.out.cells hkq
      rw [HM.out] at hsv
      simp only [Value.slice.injEq, true_and] at hsv
      obtain ⟨rfl, rfl⟩ := hsv
      rw [← hb.out.cell (p := ⟨b, _, none⟩) hbl] at c0 c1 c2
      rw [← hb.out.cell (p := ⟨b', _, none⟩) hbl'] at d0 d1 d2
      obtain ⟨p, hp⟩ : ∃ p, ps[k] = p := ⟨_, rfl⟩
      obtain ⟨q, hq⟩ : ∃ q, qs[k] = q := ⟨_, rfl⟩
      rw [hp] at c0 c1 c2 hst
      rw [hq] at d0 d1 d2 hst
      have HST := hid hst
      have hwr := hb.out.size
      have hk0 : (0 : Int) ≤ (k : Int) := by omega
      have hk1 : (k : Int) < (n : Int) := by omega
      have hk2 : (k : Int) < (m : Int) := by omega
      clear hp hq hkp hkq hst hI HR
      obtain ⟨t, x, s⟩ := p
      obtain ⟨t', x', s'⟩ := q
      simp only at c0 c1 c2 d0 d1 d2
      go_upto_region 4 with fail
      have hP := two_new wr (.cells #[.bool t, .int .i64 x, .string s] 70) (.cells #[.bool t', .int .i64 x', .string s'] 70)
      have hQ := two_new wr (.cells #[.bool t', .int .i64 x', .string s'] 70) (.cells #[.bool t, .int .i64 x, .string s] 70)
      have bP := ((hb.out.alloc hwr (.cells #[.bool t, .int .i64 x, .string s] 70)).alloc (by simp; omega) (.cells #[.bool t', .int .i64 x', .string s'] 70)).drew
      have bQ := ((hb.out.alloc hwr (.cells #[.bool t', .int .i64 x', .string s'] 70)).alloc (by simp; omega) (.cells #[.bool t, .int .i64 x, .string s] 70)).drew
      have HP := hid hP
      have HQ := hid hQ
      have BP := hid bP
      have BQ := hid bQ
      clear hP hQ bP bQ
      go_cut [6, 7] (fun s6 s7 wc => ∃ y z, s6 = .pointer (some ⟨y, 0, none⟩) ∧ s7 = .pointer (some ⟨z, 0, none⟩) ∧ Hid (wc.heap[y]? = some (.cells #[.bool t, .int .i64 x, .string s] 70 (0, 0)) ∧ wc.heap[z]? = some (.cells #[.bool t', .int .i64 x', .string s'] 70 (0, 0)) ∧ Below w.heap.size w wc))
      case first =>
        first | go_region_held3 (fun w' => w'.cell? ⟨b, o + k * 3, none⟩ = some (.bool t) ∧ w'.cell? ⟨b, o + k * 3 + 1, none⟩ = some (.int .i64 x) ∧ w'.cell? ⟨b, o + k * 3 + 2, none⟩ = some (.string s) ∧ w'.cell? ⟨b', o' + k * 3, none⟩ = some (.bool t') ∧ w'.cell? ⟨b', o' + k * 3 + 1, none⟩ = some (.int .i64 x') ∧ w'.cell? ⟨b', o' + k * 3 + 2, none⟩ = some (.string s'))
          (first | assumption | go_keep)
          (fail) | fail
        all_goals
          go_wp2_with fail
          go_meet
          first
            | exact ⟨wr.heap.size, wr.heap.size + 1, rfl, rfl, ⟨HP.out.1, HP.out.2, BP.out⟩⟩
            | exact ⟨wr.heap.size + 1, wr.heap.size, rfl, rfl, ⟨HQ.out.2, HQ.out.1, BQ.out⟩⟩
      case rest =>
        obtain ⟨y, z, rfl, rfl, hW⟩ := hcut
        obtain ⟨y0, y1, y2⟩ := row3 hW.out.1
        obtain ⟨z0, z1, z2⟩ := row3 hW.out.2.1
        have HBW := hid hW.out.2.2
        clear hW HP HQ BP BQ c0 c1 c2 d0 d1 d2 hb
        have stop : ∀ r : Int, r ≠ 0 → cmpP ⟨t, x, s⟩ ⟨t', x', s'⟩ = r → Hid (r = R) := fun r hr h => by
          show _ = _
          rw [HST.out, h, if_pos hr]
        have goon : cmpP ⟨t, x, s⟩ ⟨t', x', s'⟩ = 0 → Hid (R = cmpK (ps.drop (k + 1)) (qs.drop (k + 1))) := fun h => by
          show _ = _
          rw [HST.out, h, if_neg (by decide)]
        cases t <;> cases t'
        · rcases Int.lt_trichotomy x x' with h | h | h
          · have t0 : decide (x < x') = true := decide_eq_true h
            have HE := stop (-1) (by decide) (by simp [cmpP, ordI, h])
            clear stop goon HST h
            go_wp2_with fail
            go_ret
            exact ⟨ret_i HE.out, HBW.out⟩
          · subst h
            have t0 : decide (x < x) = false := by simp
            have HE := goon (by simp [cmpP, ordI])
            clear stop goon HST
            go_wp2_with fail
            go_roundw
            case rel => exact ⟨k + 1, by omega, by omega, by go_num, HBW, HE⟩
            case measure => simp [intOf]; omega
          · have t0 : decide (x < x') = false := decide_eq_false (by omega)
            have t1 : decide (x' < x) = true := decide_eq_true h
            have HE := stop 1 (by decide) (by simp [cmpP, ordI, h]; omega)
            clear stop goon HST h
            go_wp2_with fail
            go_ret
            exact ⟨ret_i HE.out, HBW.out⟩
        · have HE := stop (-1) (by decide) rfl
          clear stop goon HST
          go_wp2_with fail
          go_ret
          exact ⟨ret_i HE.out, HBW.out⟩
        · have HE := stop 1 (by decide) rfl
          clear stop goon HST
          go_wp2_with fail
          go_ret
          exact ⟨ret_i HE.out, HBW.out⟩
        · have g1 := cmp_less s.data.toList s'.data.toList
          have g2 : (s.toList == s'.toList) = decide (Lib.compareBytes s.data.toList s'.data.toList = 0) := by
            rw [Lib.toList_data, Lib.toList_data, list_beq]
            by_cases h : s.data.toList = s'.data.toList
            · rw [h, cmp_self]; simp
            · rw [decide_eq_false h]
              exact (decide_eq_false fun e => h (cmp_zero _ _ e)).symm
          rw [← Lib.toList_data s, ← Lib.toList_data s'] at g1
          rw [Lib.toList_data s, Lib.toList_data s'] at g1
          have g3 : Op.bytesLess s.toList s'.toList = decide (Lib.compareBytes s.data.toList s'.data.toList = -1) := by rw [Lib.toList_data, Lib.toList_data]; exact g1
          clear g1
          rcases cmp_three s.data.toList s'.data.toList with h | h | h
          · rw [h] at g2 g3
            replace g2 : (s.toList == s'.toList) = false := g2
            replace g3 : Op.bytesLess s.toList s'.toList = true := g3
            have HE := stop (-1) (by decide) (by simp [cmpP, h])
            clear stop goon HST h
            go_wp2_with fail
            go_ret
            exact ⟨ret_i HE.out, HBW.out⟩
          · rw [h] at g2 g3
            replace g2 : (s.toList == s'.toList) = true := g2
            replace g3 : Op.bytesLess s.toList s'.toList = false := g3
            have HE := goon (by simp [cmpP, h])
            clear stop goon HST h
            go_wp2_with fail
            go_roundw
            case rel => exact ⟨k + 1, by omega, by omega, by go_num, HBW, HE⟩
            case measure => simp [intOf]; omega
          · rw [h] at g2 g3
            replace g2 : (s.toList == s'.toList) = false := g2
            replace g3 : Op.bytesLess s.toList s'.toList = false := g3
            have HE := stop 1 (by decide) (by simp [cmpP, h])
            clear stop goon HST h
            go_wp2_with fail
            go_ret
            exact ⟨ret_i HE.out, HBW.out⟩
    · by_cases hkn : k < n
      · obtain rfl : k = m := by omega
        have l0 : decide ((k : Int) < (n : Int)) = true := by simp; omega
        have l1 : decide ((k : Int) < (k : Int)) = false := by simp
        have l2 : decide ((n : Int) < (k : Int)) = false := by simp; omega
        have HE : Hid (1 = R) := by
          show _ = _
          rw [hI.out, cmpK_long ps qs k (by have := HN.out; omega) (by have := HM.out; omega)]
        clear hI HR
        go_wp2_with fail
        go_ret
        exact ⟨ret_i HE.out, hb.out⟩
      · obtain rfl : k = n := by omega
        have l0 : decide ((k : Int) < (k : Int)) = false := by simp
        have hE : R = if k < m then -1 else 0 := by
          have := cmpK_end ps qs
          rw [HN.out, HM.out] at this
          rw [hI.out, this]
        by_cases hm : k < m
        · have l1 : decide ((k : Int) < (m : Int)) = true := by simp; omega
          rw [if_pos hm] at hE
          have HE := hid hE
          clear hE hI HR
          go_wp2_with fail
          go_ret
          exact ⟨ret_i HE.out.symm, hb.out⟩
        · obtain rfl : k = m := by omega
          rw [if_neg hm] at hE
          have HE := hid hE
          clear hE hI HR
          go_wp2_with fail
          go_ret
          exact ⟨ret_i HE.out.symm, hb.out⟩
end Go.Proofs.YtfadnhihcobclaaDoor
