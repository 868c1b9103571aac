/- The law MarkupPlaces: where an error is told, all ahead of it was read; elements' places rise. -/
import Derived.Test.YtakplnceiibmlaaGreatDoorMRises
import Derived.Test.YtakplnceiibmlaaGreatDoorMEnvD
import Derived.Test.YtakplnceiibmlaaGreatDoorVQuiet
namespace Go.Proofs.YtakplnceiibmlaaGreatDoor
open Go.RowKit
open Go.Lib (hid)
/-- the text's head with other bytes behind it -/
theorem cut_head {S T : List UInt8} {a : Nat} (h : S.take a = T.take a) : X.at_ S a = X.at_ T a := by
  unfold X.at_ X.lineOf X.colOf
  rw [h]
theorem head_app (s o : ByteArray) (a : Nat) (ha : a ≤ s.size) : (s.extract 0 a ++ o).data.toList.take a = s.data.toList.take a ∧ (s.extract 0 a ++ o).size = a + o.size := by
  have h1 : (s.extract 0 a).data.toList = s.data.toList.take a := by rw [cut_list]; simp
  have h2 : (s.extract 0 a ++ o).data.toList = s.data.toList.take a ++ o.data.toList := by
    rw [ByteArray.data_append, Array.toList_append, h1]
  constructor
  · rw [h2]
    rw [List.take_left']
    rw [List.length_take, ← Lib.size_eq]; omega
  · rw [Lib.size_eq, h2, List.length_append, List.length_take, ← Lib.size_eq, ← Lib.size_eq]; omega
theorem not_bef {a b : Nat × Nat} (h : b = a ∨ X.Ahead b a) : bef a b = false := by
  unfold bef
  rw [decide_eq_false]
  rcases h with rfl | h
  · omega
  · unfold X.Ahead at h; omega
theorem err_cases {e : Int} (h : X.Err e) : e = 80 ∨ e = 83 ∨ e = 6 ∨ e = 3 ∨ e = 84 ∨ e = 82 ∨ e = 81 := by unfold X.Err at h; omega
set_option maxRecDepth 100000 in
set_option maxHeartbeats 8000000 in
theorem places_walk (s o : ByteArray) (W : World) (z0 : s.size ≤ 140737488351232) (z1 : o.size ≤ 140737488351232) (hE : EnvM W) :
    Calls Tryz.prog 3 #[.string s, .string o] W fun e w' => e = .returned (.bool true) ∧ Below W.heap.size W w' := by
  by_cases hs : s.size ≤ 6000
  rotate_left
  · have cA := awake_any W hE.e hE.t
    have t0 : decide ((6000 : Int) < (s.size : Int)) = true := decide_eq_true (by omega)
    have t1 : decide (6000 < s.size) = true := decide_eq_true (by omega)
    clear hs hE
    go_enter Tryz.func3, Tryz.ntmps3
    go_wp2_with fail
    refine cA.mono ?_
    rintro e w1 ⟨rfl, hb⟩
    have HB := hid hb
    clear hb cA
    go_wp2_with fail
    go_ret
    exact ⟨rfl, HB.out⟩
  by_cases ho : o.size ≤ 6000
  rotate_left
  · have cA := awake_any W hE.e hE.t
    have t0 : decide ((6000 : Int) < (s.size : Int)) = false := decide_eq_false (by omega)
    have t1 : decide (6000 < s.size) = false := decide_eq_false (by omega)
    have t2 : decide ((6000 : Int) < (o.size : Int)) = true := decide_eq_true (by omega)
    have t3 : decide (6000 < o.size) = true := decide_eq_true (by omega)
    clear hs ho hE
    go_enter Tryz.func3, Tryz.ntmps3
    go_wp2_with fail
    refine cA.mono ?_
    rintro e w1 ⟨rfl, hb⟩
    have HB := hid hb
    clear hb cA
    go_wp2_with fail
    go_ret
    exact ⟨rfl, HB.out⟩
  have cA := awake_any W hE.e hE.t
  have t0 : decide ((6000 : Int) < (s.size : Int)) = false := decide_eq_false (by omega)
  have t1 : decide (6000 < s.size) = false := decide_eq_false (by omega)
  have t2 : decide ((6000 : Int) < (o.size : Int)) = false := decide_eq_false (by omega)
  have t3 : decide (6000 < o.size) = false := decide_eq_false (by omega)
  have HEN := hid hE
  clear hE
  go_enter Tryz.func3, Tryz.ntmps3
  go_wp2_with fail
  refine cA.mono ?_
  rintro e w1 ⟨rfl, hb⟩
  have HB1 := hid hb
  have cP := parse_any s (by omega) w1 (HEN.out.e.keep hb) (HEN.out.t.under hb)
  clear hb cA t0 t1 t2 t3
  go_wp2_with fail
  refine cP.mono ?_
  rintro e w2 (⟨ee, cs, hx, rfl, hh, hb⟩ | ⟨n, er, hx, rfl, hb⟩)
  · have hch := X.parse_chain hx
    obtain ⟨i, m, -, h60, hln, hcl, hch1, hch2⟩ := hch
    have hm : m ≤ s.size := by have : m ≤ s.data.toList.length := hch2; rw [← Lib.size_eq] at this; exact this
    obtain ⟨av, kv, rfl, hav, hkv⟩ := hh
    obtain ⟨ava, avc, rfl⟩ := hav.shape
    obtain ⟨kva, kvc, rfl⟩ := hkv.shape
    obtain ⟨D, hD⟩ : ∃ D, w2.heap.size = D := ⟨_, rfl⟩
    obtain ⟨w3, hw3⟩ : ∃ w3, (w2.alloc (.cells #[.string ee.sp, .string ee.lo, .slice ava (X.E.as ee).length avc, .slice kva ee.ks.length kvc, .string ee.tx, .int .i64 ee.ln, .int .i64 ee.cl] 28)).alloc (.cells #[.int .i64 0, .int .i64 0] 26) = w3 := ⟨_, rfl⟩
    have hb3 : Below w2.heap.size w2 w3 := by rw [← hw3]; exact ((Below.refl _ w2).alloc (Nat.le_refl _) _).alloc (by simp) _
    have hD3 : w3.heap[D]? = some (.cells #[.string ee.sp, .string ee.lo, .slice ava (X.E.as ee).length avc, .slice kva ee.ks.length kvc, .string ee.tx, .int .i64 ee.ln, .int .i64 ee.cl] 28 (0, 0)) := by
      rw [← hw3, Go.Lib.alloc_old _ _ D (by simp; omega), ← hD]
      exact heap_alloc_new w2 _
    have HB3 : Hid (Below W.heap.size W w3) := HB1.out.trans ((hb.trans (hb3.mono hb.size)).mono HB1.out.size)
    obtain ⟨y0, y1, y2, y3, y4, y5, y6⟩ := row7 hD3
    have cR := rises_any (s := s) (by omega) ee.ks.sz ee (Nat.le_refl _) w3 (OwnN w2 w1.heap.size none) _ (0, 0) i m ⟨_, _, rfl, X.AIn.keep (fun b h => h) (fun b h => hb3.block b h.2.1) hav, X.N.In.keep (fun b h => h) (fun b h => hb3.block b h.2.1) hkv⟩ (fun b h => Nat.lt_of_lt_of_le h.2.1 hb3.size) h60 hln hcl hch1 hm (Or.inl (X.line_pos _ _))
    unfold posAgg at cR
    have HW3 := hid hw3
    have HDE := hid hD
    clear hx hb hav hkv hb3 hD3 hw3 hD h60 hln hcl hch1 hch2 hm cP
    go_upto_region 4 with fail
    rw [HW3.out, HDE.out]
    clear HW3 HDE
    go_wp2_with fail
    refine cR.mono ?_
    rintro e w4 ⟨⟨j, -, -, rfl⟩, hb4⟩
    have HB4 : Hid (Below W.heap.size W w4) := HB3.out.trans (hb4.mono HB3.out.size)
    unfold X.at_
    have hlp := X.line_pos s.data.toList j
    obtain ⟨lj, hlj⟩ : ∃ lj, X.lineOf s.data.toList j = lj := ⟨_, rfl⟩
    obtain ⟨cj, hcj⟩ : ∃ cj, X.colOf s.data.toList j = cj := ⟨_, rfl⟩
    rw [hlj] at hlp ⊢
    rw [hcj]
    have q1 : ((lj : Int) == 0) = false := beq_eq_false_iff_ne.2 (by omega)
    clear hb4 cR hlp hlj hcj y0 y1 y2 y3 y4 y5 y6
    go_wp2_with fail
    go_ret
    exact ⟨rfl, HB4.out⟩
  · obtain ⟨hn, her, h80⟩ := X.parse_err _ _ _ hx
    rw [← Lib.size_eq] at hn
    obtain ⟨a0, ha0⟩ : ∃ a0, s.size - n = a0 := ⟨_, rfl⟩
    have ha0s : a0 ≤ s.size := by omega
    have h80' : er = 80 → a0 = s.size := fun h => by have := h80 h; omega
    rw [ha0]
    unfold posV zero7
    obtain ⟨lp, hlp⟩ : ∃ lp, X.lineOf s.data.toList a0 = lp := ⟨_, rfl⟩
    obtain ⟨cp, hcp⟩ : ∃ cp, X.colOf s.data.toList a0 = cp := ⟨_, rfl⟩
    rw [hlp, hcp]
    obtain ⟨D, hD⟩ : ∃ D, w2.heap.size = D := ⟨_, rfl⟩
    obtain ⟨w3, hw3⟩ : ∃ w3, (w2.alloc (.cells #[.string ⟨#[]⟩, .string ⟨#[]⟩, .slice none 0 0, .slice none 0 0, .string ⟨#[]⟩, .int .i64 0, .int .i64 0] 28)).alloc (.cells #[.int .i64 lp, .int .i64 cp] 26) = w3 := ⟨_, rfl⟩
    have hb3 : Below w2.heap.size w2 w3 := by rw [← hw3]; exact ((Below.refl _ w2).alloc (Nat.le_refl _) _).alloc (by simp) _
    have HP3 : Hid (w3.heap[D + 1]? = some (.cells #[.int .i64 lp, .int .i64 cp] 26 (0, 0))) := by
      have := heap_alloc_new (w2.alloc (.cells #[.string ⟨#[]⟩, .string ⟨#[]⟩, .slice none 0 0, .slice none 0 0, .string ⟨#[]⟩, .int .i64 0, .int .i64 0] 28)) (.cells #[.int .i64 lp, .int .i64 cp] 26)
      rw [hw3] at this
      show _ = _
      simpa [hD] using this
    have HB3 : Hid (Below W.heap.size W w3) := HB1.out.trans ((hb.trans (hb3.mono hb.size)).mono HB1.out.size)
    have q0 : (er == 0) = false := beq_eq_false_iff_ne.2 (by rcases err_cases her with h | h | h | h | h | h | h <;> omega)
    have HER := hid her
    have H80 := hid h80'
    have HW3 := hid hw3
    have HDE := hid hD
    have HLP := hid hlp
    have HCP := hid hcp
    clear hx hb hb3 hw3 hD cP hn her h80 h80' hlp hcp
    go_upto_region 4 with fail
    rw [HW3.out, HDE.out]
    clear HW3 HDE
    go_wp2_with fail
    go_loopw [8] (fun vi wr => ∃ (x : Nat), vi = .int .i64 x ∧ Hid (x ≤ a0) ∧ Hid (wr.heap[D + 1]? = some (.cells #[.int .i64 lp, .int .i64 cp] 26 (0, 0))) ∧ Hid (Below W.heap.size W wr)) (fun vi _ => a0 - (intOf vi).toNat)
    case atStart => exact ⟨0, rfl, hid (Nat.zero_le _), HP3, HB3⟩
    case round =>
      obtain ⟨x, rfl, HX, HPr, HBr⟩ := hrel
      clear HP3 HB3
      have hxa := HX.out
      have k0 : decide ((x : Int) ≤ (s.size : Int)) = true := decide_eq_true (by omega)
      have k1 : decide (x ≤ s.size) = true := decide_eq_true (by omega)
      have HPL : Hid (∀ U, Calls Tryz.prog 9 #[.string s, .int .i64 x] U fun en W' => en = .returned (.agg #[.int .i64 (X.lineOf s.data.toList x), .int .i64 (X.colOf s.data.toList x)]) ∧ Below U.heap.size U W') := fun U => refPlace_any s x (by omega) (by omega) U
      have hD1 : D + 1 < wr.heap.size := Go.lt_of_block HPr.out
      have HC0 : Hid (∀ w', Below wr.heap.size wr w' → w'.heap[D + 1]? = some (.cells #[.int .i64 lp, .int .i64 cp] 26 (0, 0))) := fun w' hb => (hb.block (D + 1) hD1).trans HPr.out
      by_cases hxe : x = a0
      · subst hxe
        rw [HLP.out, HCP.out] at HPL
        clear hD1
        go_wp2_with fail
        refine quiet_lit (C := (fun w1 => Below wr.heap.size wr w1)) (by kernel_rfl) (by kernel_rfl) ((Below.refl _ _).drew) ?_
        repeat (first
          | go_big_quiet_skip
          | (go_big_quiet_want
             refine quiet_val (x := ?_) (fun vv hC => ?_) ?_
             rotate_left
             · skip
               have c0 := rowCell (HC0.out _ hC) 0
               have c1 := rowCell (HC0.out _ hC) 1
               clear hC
               go_simp
               with_reducible rfl
             go_big_quiet_on
             try simp only [Act.put, List.setIfInBounds_toArray, List.set_cons_zero, List.set_cons_succ])
          | (go_big_quiet_want
             refine quiet_call (f := ?_) (args := ?_) (x := ?_) (fun vv hC => ?_) (fun vv hC => ?_) ?_
             rotate_left 3
             · go_simp
               first | with_reducible rfl | (apply And.intro <;> with_reducible rfl)
             · first
                 | (go_at_call 9; with_reducible refine (HPL.out _).mono ?_; rintro e ww ⟨rfl, bb⟩; refine And.intro ?_ (hC.trans (bb.mono hC.size)); with_reducible rfl)
             go_big_quiet_on
             try simp only [Act.put, List.setIfInBounds_toArray, List.set_cons_zero, List.set_cons_succ]))
        refine wpQuiet_nil ?_
        intro vq hq
        obtain ⟨w5, hw5⟩ : ∃ w5, vq = w5 := ⟨_, rfl⟩
        rw [hw5] at hq ⊢
        have HP5 : Hid (w5.heap[D + 1]? = some (.cells #[.int .i64 lp, .int .i64 cp] 26 (0, 0))) := HC0.out _ hq
        have HB5 : Hid (Below W.heap.size W w5) := HBr.out.trans (hq.mono HBr.out.size)
        have m0 : decide ((s.size : Int) < (x : Int)) = false := decide_eq_false (by omega)
        have m1 : decide (s.size < x) = false := decide_eq_false (by omega)
        have hap := head_app s o x ha0s
        obtain ⟨t, ht⟩ : ∃ t, s.extract 0 x ++ o = t := ⟨_, rfl⟩
        rw [ht] at hap
        have P0 : (0 : Int) ≤ (x : Int) := by omega
        have P1 : (x : Int) ≤ (s.size : Int) := by omega
        have HAP := hid hap
        have HT := hid ht
        have cP2 := parse_any t (by have := hap.2; omega) w5 (HEN.out.e.keep HB5.out) (HEN.out.t.under HB5.out)
        clear hq hw5 HC0 HPr HBr hap k0 k1 HPL
        have h9 : (er = 80 ∧ (er == 80) = true ∧ ((x : Int) != (s.size : Int)) = false) ∨ (er == 80) = false := by
          by_cases h : er = 80
          · exact Or.inl ⟨h, by rw [h]; rfl, by rw [H80.out h]; simp⟩
          · exact Or.inr (beq_eq_false_iff_ne.2 h)
        rcases h9 with ⟨-, r0, r1⟩ | r0
        all_goals
          go_upto_region 11 with fail
          clear m0 m1 r0
          go_wp2_with fail
          refine cP2.mono ?_
          rintro e w6 (⟨e2, cs, hx2, rfl, hh, hb6⟩ | ⟨n2, f, hx2, rfl, hb6⟩)
          · obtain ⟨av, kv, rfl, hav, hkv⟩ := hh
            obtain ⟨ava, avc, rfl⟩ := hav.shape
            obtain ⟨kva, kvc, rfl⟩ := hkv.shape
            obtain ⟨w7, hw7⟩ : ∃ w7, (w6.alloc (.cells #[.string e2.sp, .string e2.lo, .slice ava (X.E.as e2).length avc, .slice kva e2.ks.length kvc, .string e2.tx, .int .i64 e2.ln, .int .i64 e2.cl] 28)).alloc (.cells #[.int .i64 0, .int .i64 0] 26) = w7 := ⟨_, rfl⟩
            have hb7 : Below w6.heap.size w6 w7 := by rw [← hw7]; exact ((Below.refl _ w6).alloc (Nat.le_refl _) _).alloc (by simp) _
            have HB7 : Hid (Below W.heap.size W w7) := HB5.out.trans ((hb6.trans (hb7.mono hb6.size)).mono HB5.out.size)
            have HW7 := hid hw7
            clear hx2 hav hkv hb6 hb7 hw7 cP2
            go_upto_region 12 with fail
            rw [HW7.out]
            clear HW7
            go_wp2_with fail
            go_ret
            exact ⟨rfl, HB7.out⟩
          · obtain ⟨hn2, hf, hf80⟩ := X.parse_err _ _ _ hx2
            rw [← Lib.size_eq] at hn2
            obtain ⟨a2, ha2⟩ : ∃ a2, t.size - n2 = a2 := ⟨_, rfl⟩
            have HNB : Hid (f = 80 → bef (X.lineOf t.data.toList a2, X.colOf t.data.toList a2) (lp, cp) = false) := by
              intro h
              have h2 := hf80 h
              have h3 : a2 = t.size := by omega
              have h4 := HAP.out.2
              have h5 := cut_head HAP.out.1
              have h6 : ((lp, cp) : Nat × Nat) = X.at_ t.data.toList x := by
                rw [h5]
                exact Prod.ext HLP.out.symm HCP.out.symm
              refine not_bef ?_
              show ((lp, cp) : Nat × Nat) = X.at_ t.data.toList a2 ∨ X.Ahead (lp, cp) (X.at_ t.data.toList a2)
              rw [h6, h3]
              rcases Nat.eq_or_lt_of_le (show x ≤ t.size by omega) with h7 | h7
              · exact Or.inl (by rw [← h7])
              · exact Or.inr (X.ahead_of h7 (by rw [← Lib.size_eq]; exact Nat.le_refl _))
            rw [ha2]
            unfold posV zero7
            obtain ⟨lq, hlq⟩ : ∃ lq, X.lineOf t.data.toList a2 = lq := ⟨_, rfl⟩
            obtain ⟨cq, hcq⟩ : ∃ cq, X.colOf t.data.toList a2 = cq := ⟨_, rfl⟩
            rw [hlq, hcq] at HNB
            rw [hlq, hcq]
            obtain ⟨D2, hD2⟩ : ∃ D2, w6.heap.size = D2 := ⟨_, rfl⟩
            obtain ⟨w7, hw7⟩ : ∃ w7, (w6.alloc (.cells #[.string ⟨#[]⟩, .string ⟨#[]⟩, .slice none 0 0, .slice none 0 0, .string ⟨#[]⟩, .int .i64 0, .int .i64 0] 28)).alloc (.cells #[.int .i64 lq, .int .i64 cq] 26) = w7 := ⟨_, rfl⟩
            have hb7 : Below w6.heap.size w6 w7 := by rw [← hw7]; exact ((Below.refl _ w6).alloc (Nat.le_refl _) _).alloc (by simp) _
            have hq7 : w7.heap[D2 + 1]? = some (.cells #[.int .i64 lq, .int .i64 cq] 26 (0, 0)) := by
              have := heap_alloc_new (w6.alloc (.cells #[.string ⟨#[]⟩, .string ⟨#[]⟩, .slice none 0 0, .slice none 0 0, .string ⟨#[]⟩, .int .i64 0, .int .i64 0] 28)) (.cells #[.int .i64 lq, .int .i64 cq] 26)
              rw [hw7] at this
              simpa [hD2] using this
            have hb57 : Below w5.heap.size w5 w7 := hb6.trans (hb7.mono hb6.size)
            have HB7 : Hid (Below W.heap.size W w7) := HB5.out.trans (hb57.mono HB5.out.size)
            have hp7 : w7.heap[D + 1]? = some (.cells #[.int .i64 lp, .int .i64 cp] 26 (0, 0)) := (hb57.block (D + 1) (Go.lt_of_block HP5.out)).trans HP5.out
            obtain ⟨y0, y1⟩ := row2 hq7
            obtain ⟨x0, x1⟩ := row2 hp7
            have cB := before_any (lq, cq) (lp, cp) w7
            unfold posAgg at cB
            simp only at cB
            obtain ⟨b, hbe⟩ : ∃ b, bef (lq, cq) (lp, cp) = b := ⟨_, rfl⟩
            rw [hbe] at cB HNB
            have HW7 := hid hw7
            have HDE := hid hD2
            have HF := hid hf
            have HBE : Hid (∀ w', Below w7.heap.size w7 w' → Below W.heap.size W w') := fun w' h => HB7.out.trans (h.mono HB7.out.size)
            have f0 : (f == 0) = false := beq_eq_false_iff_ne.2 (by rcases err_cases hf with h | h | h | h | h | h | h <;> omega)
            clear hx2 hb6 hb7 hw7 hD2 hq7 hp7 hb57 hn2 hf hf80 ha2 hlq hcq hbe cP2
            go_upto_region 12 with fail
            rw [HW7.out, HDE.out]
            clear HW7 HDE
            cases b with
            | false =>
              clear HNB
              go_wp2_with fail
              refine cB.mono ?_
              rintro e w8 ⟨rfl, hb8⟩
              have HB8 := hid (HBE.out _ hb8)
              clear hb8 cB
              go_wp2_with fail
              go_ret
              exact ⟨rfl, HB8.out⟩
            | true =>
              have hf2 : f = 83 ∨ f = 6 ∨ f = 3 ∨ f = 84 ∨ f = 82 ∨ f = 81 := by
                rcases err_cases HF.out with h | h
                · have := HNB.out h; cases this
                · exact h
              clear HNB
              go_wp2_with fail
              refine cB.mono ?_
              rintro e w8 ⟨rfl, hb8⟩
              have HB8 := hid (HBE.out _ hb8)
              clear hb8 cB HBE y0 y1 x0 x1 f0
              by_cases g1 : er = 83
              · have u1 : (er == 83) = true := by rw [g1]; rfl
                clear g1 hf2
                go_wp2_with fail
                go_ret
                exact ⟨rfl, HB8.out⟩
              have u1 : (er == 83) = false := beq_eq_false_iff_ne.2 g1
              by_cases g2 : er = 6
              · have u2 : (er == 6) = true := by rw [g2]; rfl
                clear g1 g2 hf2
                go_wp2_with fail
                go_ret
                exact ⟨rfl, HB8.out⟩
              have u2 : (er == 6) = false := beq_eq_false_iff_ne.2 g2
              by_cases g3 : er = 3
              · have u3 : (er == 3) = true := by rw [g3]; rfl
                clear g1 g2 g3 hf2
                go_wp2_with fail
                go_ret
                exact ⟨rfl, HB8.out⟩
              have u3 : (er == 3) = false := beq_eq_false_iff_ne.2 g3
              clear g1 g2 g3
              rcases hf2 with rfl | rfl | rfl | rfl | rfl | rfl
              all_goals
                go_wp2_with fail
                go_ret
                exact ⟨rfl, HB8.out⟩
      · have hnel := at_ne_line (S := s.data.toList) (i := x) (j := a0) (by rw [← Lib.size_eq]; omega) (by rw [← Lib.size_eq]; omega) hxe
        rw [HLP.out, HCP.out] at hnel
        obtain ⟨lx, hlx⟩ : ∃ lx, X.lineOf s.data.toList x = lx := ⟨_, rfl⟩
        obtain ⟨cx, hcx⟩ : ∃ cx, X.colOf s.data.toList x = cx := ⟨_, rfl⟩
        rw [hlx, hcx] at hnel HPL
        obtain ⟨x1, hx1⟩ : ∃ x1, x + 1 = x1 := ⟨_, rfl⟩
        have e1 : IntKind.i64.wrap ((x : Int) + 1) = (x1 : Int) := by rw [IntKind.wrap_i64] <;> omega
        have HX1 : Hid (x1 ≤ a0 ∧ a0 - x1 < a0 - x) := by show _ ∧ _; omega
        have hcas : (¬ lx = lp) ∨ (lx = lp ∧ ¬ cx = cp) := by
          by_cases h : lx = lp
          · exact Or.inr ⟨h, hnel h⟩
          · exact Or.inl h
        clear hnel hlx hcx hx1 hxe hD1
        rcases hcas with h1 | ⟨h1, h2⟩
        · have q1 : ((lx : Int) == (lp : Int)) = false := beq_eq_false_iff_ne.2 (by omega)
          clear h1
          go_wp2_with fail
          refine quiet_lit (C := (fun w1 => Below wr.heap.size wr w1)) (by kernel_rfl) (by kernel_rfl) ((Below.refl _ _).drew) ?_
          repeat (first
            | go_big_quiet_skip
            | (go_big_quiet_want
               refine quiet_val (x := ?_) (fun vv hC => ?_) ?_
               rotate_left
               · skip
                 have c0 := rowCell (HC0.out _ hC) 0
                 have c1 := rowCell (HC0.out _ hC) 1
                 clear hC
                 go_simp
                 with_reducible rfl
               go_big_quiet_on
               try simp only [Act.put, List.setIfInBounds_toArray, List.set_cons_zero, List.set_cons_succ])
            | (go_big_quiet_want
               refine quiet_call (f := ?_) (args := ?_) (x := ?_) (fun vv hC => ?_) (fun vv hC => ?_) ?_
               rotate_left 3
               · go_simp
                 first | with_reducible rfl | (apply And.intro <;> with_reducible rfl)
               · first
                   | (go_at_call 9; with_reducible refine (HPL.out _).mono ?_; rintro e ww ⟨rfl, bb⟩; refine And.intro ?_ (hC.trans (bb.mono hC.size)); with_reducible rfl)
               go_big_quiet_on
               try simp only [Act.put, List.setIfInBounds_toArray, List.set_cons_zero, List.set_cons_succ]))
          refine wpQuiet_nil ?_
          intro vq hq
          have HP5 : Hid (vq.heap[D + 1]? = some (.cells #[.int .i64 lp, .int .i64 cp] 26 (0, 0))) := HC0.out _ hq
          have HB5 : Hid (Below W.heap.size W vq) := HBr.out.trans (hq.mono HBr.out.size)
          clear hq
          go_wp2_with fail
          go_roundw
          case rel => exact ⟨x1, rfl, hid HX1.out.1, HP5, HB5⟩
          case measure => simpa [intOf] using HX1.out.2
        · have q1 : ((lx : Int) == (lp : Int)) = true := by rw [h1]; simp
          have q2 : ((cx : Int) == (cp : Int)) = false := beq_eq_false_iff_ne.2 (by omega)
          clear h1 h2
          go_wp2_with fail
          refine quiet_lit (C := (fun w1 => Below wr.heap.size wr w1)) (by kernel_rfl) (by kernel_rfl) ((Below.refl _ _).drew) ?_
          repeat (first
            | go_big_quiet_skip
            | (go_big_quiet_want
               refine quiet_val (x := ?_) (fun vv hC => ?_) ?_
               rotate_left
               · skip
                 have c0 := rowCell (HC0.out _ hC) 0
                 have c1 := rowCell (HC0.out _ hC) 1
                 clear hC
                 go_simp
                 with_reducible rfl
               go_big_quiet_on
               try simp only [Act.put, List.setIfInBounds_toArray, List.set_cons_zero, List.set_cons_succ])
            | (go_big_quiet_want
               refine quiet_call (f := ?_) (args := ?_) (x := ?_) (fun vv hC => ?_) (fun vv hC => ?_) ?_
               rotate_left 3
               · go_simp
                 first | with_reducible rfl | (apply And.intro <;> with_reducible rfl)
               · first
                   | (go_at_call 9; with_reducible refine (HPL.out _).mono ?_; rintro e ww ⟨rfl, bb⟩; refine And.intro ?_ (hC.trans (bb.mono hC.size)); with_reducible rfl)
               go_big_quiet_on
               try simp only [Act.put, List.setIfInBounds_toArray, List.set_cons_zero, List.set_cons_succ]))
          refine wpQuiet_nil ?_
          intro vq hq
          have HP5 : Hid (vq.heap[D + 1]? = some (.cells #[.int .i64 lp, .int .i64 cp] 26 (0, 0))) := HC0.out _ hq
          have HB5 : Hid (Below W.heap.size W vq) := HBr.out.trans (hq.mono HBr.out.size)
          clear hq
          go_wp2_with fail
          go_roundw
          case rel => exact ⟨x1, rfl, hid HX1.out.1, HP5, HB5⟩
          case measure => simpa [intOf] using HX1.out.2
end Go.Proofs.YtakplnceiibmlaaGreatDoor
