/- The walk of the reference's Same. -/
import Derived.Test.YtfadnhihcobclaaDoorKLawS
import Derived.Test.YtfadnhihcobclaaDoorVQuiet
namespace Go.Proofs.YtfadnhihcobclaaDoor
open Go.RowKit
open Go.Lib (hid)
namespace K
/-- are items the same? -/
def sameI : Items → Items → Bool
  | .nil, .nil => true
  | .cons k n s l r, .cons k' n' s' l' r' => decide (k = k') && (decide (n = n') && (decide (s.data.toList = s'.data.toList) && (sameI l l' && sameI r r')))
  | .nil, .cons _ _ _ _ _ => false
  | .cons _ _ _ _ _, .nil => false
theorem sameI_cons (k k' : Nat) (n n' : Int) (s s' : ByteArray) (l l' r r' : Items) : sameI (.cons k n s l r) (.cons k' n' s' l' r') = (decide (k = k') && (decide (n = n') && (decide (s.data.toList = s'.data.toList) && (sameI l l' && sameI r r')))) := rfl
theorem sameI_length : ∀ (l m : Items), l.length ≠ m.length → sameI l m = false
  | .nil, .nil, h => absurd rfl h
  | .nil, .cons _ _ _ _ _, _ => rfl
  | .cons _ _ _ _ _, .nil, _ => rfl
  | .cons k n s l r, .cons k' n' s' l' r', h => by
    rw [sameI_cons, sameI_length r r' (fun e => h (by simp only [Items.length, e]))]
    simp
end K
set_option maxRecDepth 100000 in
set_option maxHeartbeats 8000000 in
theorem refSame_any : ∀ (N : Nat) (l m : K.Items) (_ : l.sz < N) (va vb : Value) (B : Nat) (w : World) (_ : l.In w B va) (_ : m.In w B vb) (_ : B ≤ w.heap.size) (_ : l.room ≤ 100000000000000) (_ : m.room ≤ 100000000000000),
    Calls Tryd.prog 24 #[va, vb] w fun e w' => e = .returned (.bool (K.sameI l m)) ∧ Below w.heap.size w w' := by
  intro N
  induction N with
  | zero => intro l m hN; omega
  | succ N ih =>
    intro l m hN va vb B w hva hvb hB hroom hroom2
    have IH := hid ih
    clear ih
    have HA := hid hva
    have HB := hid hvb
    obtain ⟨n, hn⟩ : ∃ n, l.length = n := ⟨_, rfl⟩
    obtain ⟨n2, hn2⟩ : ∃ n, m.length = n := ⟨_, rfl⟩
    obtain ⟨xa, ca, hsa⟩ : ∃ xa c, va = .slice xa n c := by
      rcases hva with ⟨a9, c9, rfl, rfl⟩ | ⟨b, o, c, rfl, _⟩
      · exact ⟨a9, c9, by rw [← hn]; rfl⟩
      · exact ⟨_, c, by rw [hn]⟩
    obtain ⟨xb, cb, hsb⟩ : ∃ xa c, vb = .slice xa n2 c := by
      rcases hvb with ⟨a9, c9, rfl, rfl⟩ | ⟨b, o, c, rfl, _⟩
      · exact ⟨a9, c9, by rw [← hn2]; rfl⟩
      · exact ⟨_, c, by rw [hn2]⟩
    subst hsa hsb
    have hlen : n ≤ 100000000000000 := by
      have := K.Items.room_length l
      omega
    by_cases hnn : n = n2
    · subst hnn
      have HN := hid hn
      have HN2 := hid hn2
      obtain ⟨R, hR⟩ : ∃ R, K.sameI l m = R := ⟨_, rfl⟩
      rw [hR]
      have HR := hid hR
      clear hn hn2 hva hvb hR
      go_enter Tryd.func24, Tryd.ntmps24
      go_wp2_with fail
      go_loopw [5] (fun i wr => ∃ (j : Nat), j ≤ n ∧ i = .int .i64 j ∧ Hid (Below w.heap.size w wr) ∧ Hid (R = K.sameI (l.drop j) (m.drop j))) (fun i _ => n - (intOf i).toNat)
      case atStart => exact ⟨0, by omega, rfl, Below.refl _ _, by show R = _; rw [show l.drop 0 = l from by cases l <;> rfl, show m.drop 0 = m from by cases m <;> rfl]; exact HR.out.symm⟩
      case round =>
        obtain ⟨j, hj, rfl, hb, hI⟩ := hrel
        clear HR
        by_cases hlt : j < n
        · have hl0 : decide ((j : Int) < (n : Int)) = true := by simp; omega
          have hj0 : (0 : Int) ≤ (j : Int) := by omega
          have hj1 : (j : Int) < (n : Int) := by omega
          obtain ⟨k, x, s, p, r, hcons⟩ := K.Items.cons_of_pos (l.drop j) (by rw [K.Items.drop_length]; have := HN.out; omega)
          obtain ⟨k', x', s', p', r', hcons'⟩ := K.Items.cons_of_pos (m.drop j) (by rw [K.Items.drop_length]; have := HN2.out; omega)
          have hsz : p.sz < N := by
            have h1 := K.Items.drop_sz l j
            rw [hcons] at h1
            simp only [K.Items.sz] at h1; omega
          have hml : p.room ≤ 100000000000000 := by
            have h1 := K.Items.drop_room l j
            rw [hcons] at h1
            simp only [K.Items.room] at h1; omega
          have hml2 : p'.room ≤ 100000000000000 := by
            have h1 := K.Items.drop_room m j
            rw [hcons'] at h1
            simp only [K.Items.room] at h1; omega
          rcases HA.out with ⟨_, _, e, h0⟩ | ⟨b, o, c', e, hA0⟩
          · have := HN.out; rw [h0] at this; simp [K.Items.length] at this; omega
          rcases HB.out with ⟨_, _, e2, h0⟩ | ⟨b', o', c2, e2, hB0⟩
          · have := HN2.out; rw [h0] at this; simp [K.Items.length] at this; omega
          simp only [Value.slice.injEq] at e e2
          obtain ⟨rfl, hnl, rfl⟩ := e
          obtain ⟨rfl, hnl2, rfl⟩ := e2
          clear hnl hnl2
          have hA := K.Items.At.drop l j o hA0
          have hBB := K.Items.At.drop m j o' hB0
          have hI2 := hI.out
          rw [hcons, hcons', K.sameI_cons] at hI2
          have hd1 := K.Items.drop_succ l j hcons
          have hd2 := K.Items.drop_succ m j hcons'
          rw [hcons] at hA
          rw [hcons'] at hBB
          obtain ⟨hbl, c0, c1, c2, ⟨mv, c3, hmv⟩, _⟩ := hA
          obtain ⟨hbl', d0, d1, d2, ⟨mv', d3, hmv'⟩, _⟩ := hBB
          rw [Nat.mul_comm 4 j] at c0 c1 c2 c3 d0 d1 d2 d3
          have hb1 : b < w.heap.size := by omega
          have hb2 : b' < w.heap.size := by omega
          have HM : Hid (p.In w B mv) := hmv
          have HM' : Hid (p'.In w B mv') := hmv'
          have cR := fun X (hX : Below w.heap.size w X) => IH.out p p' hsz mv mv' B X (K.Items.In.below (hX.mono hB) HM.out) (K.Items.In.below (hX.mono hB) HM'.out) (Nat.le_trans hB hX.size) hml hml2
          obtain ⟨q, hq⟩ : ∃ q, K.sameI p p' = q := ⟨_, rfl⟩
          rw [hq] at hI2 cR
          have HD1 := hid (p := l.drop (j + 1) = r) hd1
          have HD2 := hid (p := m.drop (j + 1) = r') hd2
          have HI := hid (p := R = _) hI2
          clear hcons hcons' hA0 hB0 hmv hmv' hsz hml hml2 hq hd1 hd2 hI2 hI
          by_cases e0 : k = k'
          · by_cases e1 : x = x'
            · by_cases e2 : s.data.toList = s'.data.toList
              · subst e0 e1
                have es : s.toList = s'.toList := by rw [Lib.toList_data, Lib.toList_data]; exact e2
                have t0 : ((k : Int) != (k : Int)) = false := by simp
                have t1 : (x != x) = false := by simp
                have t2 : (s.toList != s'.toList) = false := by rw [es]; simp
                have t3 : (s.toList == s'.toList) = true := by rw [es]; simp
                have HI2 : Hid (R = (q && K.sameI r r')) := by show _ = _; rw [HI.out]; simp [e2]
                clear es HI e2
                cases q
                · have HE : Hid (R = false) := by show _ = _; rw [HI2.out]; rfl
                  go_wp2_with fail
                  refine quiet_lit (C := fun w' => Hid (Below w.heap.size w w')) (by kernel_rfl) (by kernel_rfl) (hid hb.out.drew) ?_
                  repeat (first
                    | go_big_quiet_skip
                    | (go_big_quiet_want
                       refine quiet_val (x := ?_) (fun vv hC => ?_) ?_
                       rotate_left
                       · skip
                         have x0 := (hC.out.cell (p := ⟨b, _, none⟩) hb1).trans c0
                         have x1 := (hC.out.cell (p := ⟨b, _, none⟩) hb1).trans c1
                         have x2 := (hC.out.cell (p := ⟨b, _, none⟩) hb1).trans c2
                         have x3 := (hC.out.cell (p := ⟨b, _, none⟩) hb1).trans c3
                         have y0 := (hC.out.cell (p := ⟨b', _, none⟩) hb2).trans d0
                         have y1 := (hC.out.cell (p := ⟨b', _, none⟩) hb2).trans d1
                         have y2 := (hC.out.cell (p := ⟨b', _, none⟩) hb2).trans d2
                         have y3 := (hC.out.cell (p := ⟨b', _, none⟩) hb2).trans d3
                         clear hC
                         go_simp
                         with_reducible rfl
                       go_big_quiet_on
                       try simp only [Act.put, List.setIfInBounds_toArray, List.set_cons_zero, List.set_cons_succ])
                    | (go_big_quiet_want
                       refine quiet_call (f := ?_) (args := ?_) (x := ?_) (fun vv hC => ?_) (fun vv hC => ?_) ?_
                       rotate_left 3
                       · go_simp
                         first | with_reducible rfl | (apply And.intro <;> with_reducible rfl)
                       · first
                           | (go_at_call 24; with_reducible refine (cR _ hC.out).mono ?_; rintro e ww ⟨rfl, bb⟩; refine And.intro ?_ (hid (hC.out.trans (bb.mono hC.out.size))); with_reducible rfl)
                       go_big_quiet_on
                       try simp only [Act.put, List.setIfInBounds_toArray, List.set_cons_zero, List.set_cons_succ]))
                  refine wpQuiet_nil ?_
                  intro vq hq
                  go_wp2_with fail
                  go_ret
                  exact ⟨by rw [HE.out]; rfl, hq.out⟩
                · have HI3 : Hid (R = K.sameI (l.drop (j + 1)) (m.drop (j + 1))) := by show _ = _; rw [HI2.out, HD1.out, HD2.out]; rfl
                  go_wp2_with fail
                  refine quiet_lit (C := fun w' => Hid (Below w.heap.size w w')) (by kernel_rfl) (by kernel_rfl) (hid hb.out.drew) ?_
                  repeat (first
                    | go_big_quiet_skip
                    | (go_big_quiet_want
                       refine quiet_val (x := ?_) (fun vv hC => ?_) ?_
                       rotate_left
                       · skip
                         have x0 := (hC.out.cell (p := ⟨b, _, none⟩) hb1).trans c0
                         have x1 := (hC.out.cell (p := ⟨b, _, none⟩) hb1).trans c1
                         have x2 := (hC.out.cell (p := ⟨b, _, none⟩) hb1).trans c2
                         have x3 := (hC.out.cell (p := ⟨b, _, none⟩) hb1).trans c3
                         have y0 := (hC.out.cell (p := ⟨b', _, none⟩) hb2).trans d0
                         have y1 := (hC.out.cell (p := ⟨b', _, none⟩) hb2).trans d1
                         have y2 := (hC.out.cell (p := ⟨b', _, none⟩) hb2).trans d2
                         have y3 := (hC.out.cell (p := ⟨b', _, none⟩) hb2).trans d3
                         clear hC
                         go_simp
                         with_reducible rfl
                       go_big_quiet_on
                       try simp only [Act.put, List.setIfInBounds_toArray, List.set_cons_zero, List.set_cons_succ])
                    | (go_big_quiet_want
                       refine quiet_call (f := ?_) (args := ?_) (x := ?_) (fun vv hC => ?_) (fun vv hC => ?_) ?_
                       rotate_left 3
                       · go_simp
                         first | with_reducible rfl | (apply And.intro <;> with_reducible rfl)
                       · first
                           | (go_at_call 24; with_reducible refine (cR _ hC.out).mono ?_; rintro e ww ⟨rfl, bb⟩; refine And.intro ?_ (hid (hC.out.trans (bb.mono hC.out.size))); with_reducible rfl)
                       go_big_quiet_on
                       try simp only [Act.put, List.setIfInBounds_toArray, List.set_cons_zero, List.set_cons_succ]))
                  refine wpQuiet_nil ?_
                  intro vq hq
                  clear hb
                  go_wp2_with fail
                  go_roundw
                  case rel => exact ⟨j + 1, by omega, by go_num, hq, HI3⟩
                  case measure => simp [intOf]; omega
              · subst e0 e1
                have t0 : ((k : Int) != (k : Int)) = false := by simp
                have t1 : (x != x) = false := by simp
                have t2 : (s.toList != s'.toList) = true := by rw [Lib.toList_data, Lib.toList_data, bne_iff_ne]; exact e2
                have t3 : (s.toList == s'.toList) = false := by rw [Lib.toList_data, Lib.toList_data, beq_eq_false_iff_ne]; exact e2
                have HE : Hid (R = false) := by show _ = _; rw [HI.out]; simp [e2]
                clear HI
                go_wp2_with fail
                refine quiet_lit (C := fun w' => Hid (Below w.heap.size w w')) (by kernel_rfl) (by kernel_rfl) (hid hb.out.drew) ?_
                repeat (first
                  | go_big_quiet_skip
                  | (go_big_quiet_want
                     refine quiet_val (x := ?_) (fun vv hC => ?_) ?_
                     rotate_left
                     · skip
                       have x0 := (hC.out.cell (p := ⟨b, _, none⟩) hb1).trans c0
                       have x1 := (hC.out.cell (p := ⟨b, _, none⟩) hb1).trans c1
                       have x2 := (hC.out.cell (p := ⟨b, _, none⟩) hb1).trans c2
                       have x3 := (hC.out.cell (p := ⟨b, _, none⟩) hb1).trans c3
                       have y0 := (hC.out.cell (p := ⟨b', _, none⟩) hb2).trans d0
                       have y1 := (hC.out.cell (p := ⟨b', _, none⟩) hb2).trans d1
                       have y2 := (hC.out.cell (p := ⟨b', _, none⟩) hb2).trans d2
                       have y3 := (hC.out.cell (p := ⟨b', _, none⟩) hb2).trans d3
                       clear hC
                       go_simp
                       with_reducible rfl
                     go_big_quiet_on
                     try simp only [Act.put, List.setIfInBounds_toArray, List.set_cons_zero, List.set_cons_succ])
                  | (go_big_quiet_want
                     refine quiet_call (f := ?_) (args := ?_) (x := ?_) (fun vv hC => ?_) (fun vv hC => ?_) ?_
                     rotate_left 3
                     · go_simp
                       first | with_reducible rfl | (apply And.intro <;> with_reducible rfl)
                     · first
                         | (go_at_call 24; with_reducible refine (cR _ hC.out).mono ?_; rintro e ww ⟨rfl, bb⟩; refine And.intro ?_ (hid (hC.out.trans (bb.mono hC.out.size))); with_reducible rfl)
                     go_big_quiet_on
                     try simp only [Act.put, List.setIfInBounds_toArray, List.set_cons_zero, List.set_cons_succ]))
                refine wpQuiet_nil ?_
                intro vq hq
                go_wp2_with fail
                go_ret
                exact ⟨by rw [HE.out]; rfl, hq.out⟩
            · subst e0
              have t0 : ((k : Int) != (k : Int)) = false := by simp
              have t1 : (x != x') = true := by rw [bne_iff_ne]; exact e1
              have HE : Hid (R = false) := by show _ = _; rw [HI.out]; simp [e1]
              clear HI
              go_wp2_with fail
              refine quiet_lit (C := fun w' => Hid (Below w.heap.size w w')) (by kernel_rfl) (by kernel_rfl) (hid hb.out.drew) ?_
              repeat (first
                | go_big_quiet_skip
                | (go_big_quiet_want
                   refine quiet_val (x := ?_) (fun vv hC => ?_) ?_
                   rotate_left
                   · skip
                     have x0 := (hC.out.cell (p := ⟨b, _, none⟩) hb1).trans c0
                     have x1 := (hC.out.cell (p := ⟨b, _, none⟩) hb1).trans c1
                     have x2 := (hC.out.cell (p := ⟨b, _, none⟩) hb1).trans c2
                     have x3 := (hC.out.cell (p := ⟨b, _, none⟩) hb1).trans c3
                     have y0 := (hC.out.cell (p := ⟨b', _, none⟩) hb2).trans d0
                     have y1 := (hC.out.cell (p := ⟨b', _, none⟩) hb2).trans d1
                     have y2 := (hC.out.cell (p := ⟨b', _, none⟩) hb2).trans d2
                     have y3 := (hC.out.cell (p := ⟨b', _, none⟩) hb2).trans d3
                     clear hC
                     go_simp
                     with_reducible rfl
                   go_big_quiet_on
                   try simp only [Act.put, List.setIfInBounds_toArray, List.set_cons_zero, List.set_cons_succ])
                | (go_big_quiet_want
                   refine quiet_call (f := ?_) (args := ?_) (x := ?_) (fun vv hC => ?_) (fun vv hC => ?_) ?_
                   rotate_left 3
                   · go_simp
                     first | with_reducible rfl | (apply And.intro <;> with_reducible rfl)
                   · first
                       | (go_at_call 24; with_reducible refine (cR _ hC.out).mono ?_; rintro e ww ⟨rfl, bb⟩; refine And.intro ?_ (hid (hC.out.trans (bb.mono hC.out.size))); with_reducible rfl)
                   go_big_quiet_on
                   try simp only [Act.put, List.setIfInBounds_toArray, List.set_cons_zero, List.set_cons_succ]))
              refine wpQuiet_nil ?_
              intro vq hq
              go_wp2_with fail
              go_ret
              exact ⟨by rw [HE.out]; rfl, hq.out⟩
          · skip
            have t0 : ((k : Int) != (k' : Int)) = true := by rw [bne_iff_ne]; omega
            have HE : Hid (R = false) := by show _ = _; rw [HI.out]; simp [e0]
            clear HI
            go_wp2_with fail
            refine quiet_lit (C := fun w' => Hid (Below w.heap.size w w')) (by kernel_rfl) (by kernel_rfl) (hid hb.out.drew) ?_
            repeat (first
              | go_big_quiet_skip
              | (go_big_quiet_want
                 refine quiet_val (x := ?_) (fun vv hC => ?_) ?_
                 rotate_left
                 · skip
                   have x0 := (hC.out.cell (p := ⟨b, _, none⟩) hb1).trans c0
                   have x1 := (hC.out.cell (p := ⟨b, _, none⟩) hb1).trans c1
                   have x2 := (hC.out.cell (p := ⟨b, _, none⟩) hb1).trans c2
                   have x3 := (hC.out.cell (p := ⟨b, _, none⟩) hb1).trans c3
                   have y0 := (hC.out.cell (p := ⟨b', _, none⟩) hb2).trans d0
                   have y1 := (hC.out.cell (p := ⟨b', _, none⟩) hb2).trans d1
                   have y2 := (hC.out.cell (p := ⟨b', _, none⟩) hb2).trans d2
                   have y3 := (hC.out.cell (p := ⟨b', _, none⟩) hb2).trans d3
                   clear hC
                   go_simp
                   with_reducible rfl
                 go_big_quiet_on
                 try simp only [Act.put, List.setIfInBounds_toArray, List.set_cons_zero, List.set_cons_succ])
              | (go_big_quiet_want
                 refine quiet_call (f := ?_) (args := ?_) (x := ?_) (fun vv hC => ?_) (fun vv hC => ?_) ?_
                 rotate_left 3
                 · go_simp
                   first | with_reducible rfl | (apply And.intro <;> with_reducible rfl)
                 · first
                     | (go_at_call 24; with_reducible refine (cR _ hC.out).mono ?_; rintro e ww ⟨rfl, bb⟩; refine And.intro ?_ (hid (hC.out.trans (bb.mono hC.out.size))); with_reducible rfl)
                 go_big_quiet_on
                 try simp only [Act.put, List.setIfInBounds_toArray, List.set_cons_zero, List.set_cons_succ]))
            refine wpQuiet_nil ?_
            intro vq hq
            go_wp2_with fail
            go_ret
            exact ⟨by rw [HE.out]; rfl, hq.out⟩
        · have hl0 : decide ((j : Int) < (n : Int)) = false := by simp; omega
          have HE : Hid (R = true) := by
            show _ = _
            rw [hI.out]
            have hz : (l.drop j).length = 0 := by rw [K.Items.drop_length]; have := HN.out; omega
            have hz2 : (m.drop j).length = 0 := by rw [K.Items.drop_length]; have := HN2.out; omega
            cases hdl : l.drop j with
            | nil => cases hdm : m.drop j with
              | nil => rfl
              | cons k x s p r => rw [hdm] at hz2; simp [K.Items.length] at hz2
            | cons k x s p r => rw [hdl] at hz; simp [K.Items.length] at hz
          go_wp2_with fail
          go_ret
          exact ⟨by rw [HE.out]; rfl, hb.out⟩
    · have t0 : ((n : Int) != (n2 : Int)) = true := by rw [bne_iff_ne]; omega
      rw [K.sameI_length l m (by omega)]
      clear hn hn2 hva hvb
      go_enter Tryd.func24, Tryd.ntmps24
      go_wp2_with fail
      go_ret
      exact ⟨rfl, Below.refl _ _⟩
end Go.Proofs.YtfadnhihcobclaaDoor
