/- The walk of key.Same. -/
import Derived.Test.YtfadnhihcobclaaDoorKRefSame
import Derived.Test.YtfadnhihcobclaaDoorRow4
namespace Go.Proofs.YtfadnhihcobclaaDoor
open Go.RowKit
open Go.Lib (hid)
open K
/-- key.Same at these -/
def SameAt (N : Nat) : Prop := ∀ (l m : Items) (_ : l.sz < N) (va vb : Value) (B : Nat) (w : World) (_ : l.In w B va) (_ : m.In w B vb) (_ : B ≤ w.heap.size) (_ : l.room ≤ 100000000000000) (_ : m.room ≤ 100000000000000),
    Calls Tryd.prog 23 #[va, vb] w fun e w' => e = .returned (.bool (sameI l m)) ∧ Below w.heap.size w w'
theorem in_shape {l : Items} {w : World} {B : Nat} {v : Value} (h : l.In w B v) : ∃ a c, v = .slice a l.length c := by
  rcases h with ⟨a9, c9, rfl, rfl⟩ | ⟨b, o, c, rfl, _⟩
  · exact ⟨a9, c9, rfl⟩
  · exact ⟨_, _, rfl⟩
set_option maxRecDepth 100000 in
set_option maxHeartbeats 4000000 in
theorem same1_any (N : Nat) (IH : SameAt N) (k k' : Nat) (x x' : Int) (s s' : ByteArray) (m m' : Items) (mv mv' : Value) (B : Nat) (w : World) (hsz : m.sz < N) (hm : m.In w B mv) (hm' : m'.In w B mv') (hB : B ≤ w.heap.size) (hr : m.room ≤ 100000000000000) (hr' : m'.room ≤ 100000000000000) :
    Calls Tryd.prog 43 #[.agg #[.int .u8 k, .int .i64 x, .string s, mv], .agg #[.int .u8 k', .int .i64 x', .string s', mv']] w fun e w' => e = .returned (.bool (decide (k = k') && (decide (x = x') && (decide (s.data.toList = s'.data.toList) && sameI m m')))) ∧ Below w.heap.size w w' := by
  obtain ⟨a, c, rfl⟩ := in_shape hm
  obtain ⟨a', c', rfl⟩ := in_shape hm'
  obtain ⟨n, hn⟩ : ∃ n, m.length = n := ⟨_, rfl⟩
  obtain ⟨n', hn'⟩ : ∃ n, m'.length = n := ⟨_, rfl⟩
  rw [hn] at hm ⊢
  rw [hn'] at hm' ⊢
  have hb2 := (((Below.refl w.heap.size w).alloc (Nat.le_refl _) (.cells #[.int .u8 k, .int .i64 x, .string s, .slice a n c] 62)).alloc (by simp) (.cells #[.int .u8 k', .int .i64 x', .string s', .slice a' n' c'] 62))
  have cS := IH m m' hsz (.slice a n c) (.slice a' n' c') B _ (hm.below (hb2.mono hB)) (hm'.below (hb2.mono hB)) (Nat.le_trans hB hb2.size) hr hr'
  have HB := hid hb2
  clear hn hn' hb2 hm hm' IH
  by_cases e0 : k = k'
  · have q0 : ((k : Int) == (k' : Int)) = true := by simp [e0]
    have d0 : decide (k = k') = true := decide_eq_true e0
    by_cases e1 : x = x'
    · have q1 : (x == x') = true := by simp [e1]
      have d1 : decide (x = x') = true := decide_eq_true e1
      by_cases e2 : s.data.toList = s'.data.toList
      · have q2 : (s.toList == s'.toList) = true := by rw [Lib.toList_data, Lib.toList_data, e2]; simp
        have d2 : decide (s.data.toList = s'.data.toList) = true := decide_eq_true e2
        rw [d0, d1, d2, Bool.true_and, Bool.true_and, Bool.true_and]
        clear e0 e1 e2 d0 d1 d2
        go_enter Tryd.func43, Tryd.ntmps43
        go_wp2_with fail
        refine cS.mono ?_
        rintro e w1 ⟨rfl, b1⟩
        have HB1 := hid (HB.out.trans (b1.mono HB.out.size))
        clear b1 cS
        go_wp2_with fail
        go_ret
        exact ⟨rfl, HB1.out⟩
      · have q2 : (s.toList == s'.toList) = false := by rw [Lib.toList_data, Lib.toList_data, beq_eq_false_iff_ne]; exact e2
        have d2 : decide (s.data.toList = s'.data.toList) = false := decide_eq_false e2
        rw [d0, d1, d2, Bool.true_and, Bool.true_and, Bool.false_and]
        clear e0 e1 e2 d0 d1 d2 cS
        go_enter Tryd.func43, Tryd.ntmps43
        go_wp2_with fail
        go_ret
        exact ⟨rfl, HB.out⟩
    · have q1 : (x == x') = false := beq_eq_false_iff_ne.2 e1
      have d1 : decide (x = x') = false := decide_eq_false e1
      rw [d0, d1, Bool.true_and, Bool.false_and]
      clear e0 e1 d0 d1 cS
      go_enter Tryd.func43, Tryd.ntmps43
      go_wp2_with fail
      go_ret
      exact ⟨rfl, HB.out⟩
  · have q0 : ((k : Int) == (k' : Int)) = false := beq_eq_false_iff_ne.2 (by omega)
    have d0 : decide (k = k') = false := decide_eq_false e0
    rw [d0, Bool.false_and]
    clear e0 d0 cS
    go_enter Tryd.func43, Tryd.ntmps43
    go_wp2_with fail
    go_ret
    exact ⟨rfl, HB.out⟩
set_option maxRecDepth 100000 in
set_option maxHeartbeats 8000000 in
theorem equalFunc_any (N : Nat) (IH : SameAt N) (l m : Items) (hN : l.sz < N + 1) (va vb : Value) (B : Nat) (w : World) (hva : l.In w B va) (hvb : m.In w B vb) (hB : B ≤ w.heap.size) (hroom : l.room ≤ 100000000000000) (hroom2 : m.room ≤ 100000000000000) :
    Calls Tryd.prog 42 #[va, vb, .func (.func 43) #[] #[]] w fun e w' => e = .returned (.bool (sameI l m)) ∧ Below w.heap.size w w' := by
  have HA := hid hva
  have HB := hid hvb
  have HI0 := hid IH
  obtain ⟨xa, ca, hsa⟩ := in_shape hva
  obtain ⟨xb, cb, hsb⟩ := in_shape hvb
  obtain ⟨n, hn⟩ : ∃ n, l.length = n := ⟨_, rfl⟩
  obtain ⟨n2, hn2⟩ : ∃ n, m.length = n := ⟨_, rfl⟩
  rw [hn] at hsa
  rw [hn2] at hsb
  subst hsa hsb
  have hlen : n ≤ 100000000000000 := by
    have := K.Items.room_length l
    omega
  by_cases hnn : n = n2
  · subst hnn
    have HN := hid hn
    have HN2 := hid hn2
    obtain ⟨R, hR⟩ : ∃ R, K.sameI l m = R := ⟨_, rfl⟩
    rw [hR]
    have HR := hid hR
    clear hn hn2 hva hvb hR IH
    have t00 : ((n : Int) != (n : Int)) = false := by simp
    go_enter Tryd.func42, Tryd.ntmps42
    go_wp2_with fail
    go_loopw [17] (fun i wr => ∃ (j : Nat), j ≤ n ∧ i = .int .i64 j ∧ Hid (Below w.heap.size w wr) ∧ Hid (R = K.sameI (l.drop j) (m.drop j))) (fun i _ => n - (intOf i).toNat)
    case atStart => exact ⟨0, by omega, rfl, Below.refl _ _, by show R = _; rw [show l.drop 0 = l from by cases l <;> rfl, show m.drop 0 = m from by cases m <;> rfl]; exact HR.out.symm⟩
    case round =>
      obtain ⟨j, hj, rfl, hb, hI⟩ := hrel
      clear HR
      by_cases hlt : j < n
      · have hl0 : decide ((j : Int) < (n : Int)) = true := by simp; omega
        have hj0 : (0 : Int) ≤ (j : Int) := by omega
        have hj1 : (j : Int) < (n : Int) := by omega
        obtain ⟨k, x, s, p, r, hcons⟩ := K.Items.cons_of_pos (l.drop j) (by rw [K.Items.drop_length]; have := HN.out; omega)
        obtain ⟨k', x', s', p', r', hcons'⟩ := K.Items.cons_of_pos (m.drop j) (by rw [K.Items.drop_length]; have := HN2.out; omega)
        have hsz : p.sz < N := by
          have h1 := K.Items.drop_sz l j
          rw [hcons] at h1
          simp only [K.Items.sz] at h1; omega
        have hml : p.room ≤ 100000000000000 := by
          have h1 := K.Items.drop_room l j
          rw [hcons] at h1
          simp only [K.Items.room] at h1; omega
        have hml2 : p'.room ≤ 100000000000000 := by
          have h1 := K.Items.drop_room m j
          rw [hcons'] at h1
          simp only [K.Items.room] at h1; omega
        rcases HA.out with ⟨_, _, e, h0⟩ | ⟨b, o, c', e, hA0⟩
        · have := HN.out; rw [h0] at this; simp [K.Items.length] at this; omega
        rcases HB.out with ⟨_, _, e2, h0⟩ | ⟨b', o', c2, e2, hB0⟩
        · have := HN2.out; rw [h0] at this; simp [K.Items.length] at this; omega
        simp only [Value.slice.injEq] at e e2
        obtain ⟨rfl, hnl, rfl⟩ := e
        obtain ⟨rfl, hnl2, rfl⟩ := e2
        clear hnl hnl2
        have hbl := hb.out.mono hB
        have hA := K.Items.At.drop l j o (hA0.below hbl)
        have hBB := K.Items.At.drop m j o' (hB0.below hbl)
        have hI2 := hI.out
        rw [hcons, hcons', K.sameI_cons] at hI2
        have hd1 := K.Items.drop_succ l j hcons
        have hd2 := K.Items.drop_succ m j hcons'
        rw [hcons] at hA
        rw [hcons'] at hBB
        obtain ⟨hb1, a0, a1, a2, ⟨mv, a3, hmv⟩, _⟩ := hA
        obtain ⟨hb2, d0, d1, d2, ⟨mv', d3, hmv'⟩, _⟩ := hBB
        rw [Nat.mul_comm 4 j] at a0 a1 a2 a3 d0 d1 d2 d3
        have hwr := hb.out.size
        have hbw : b < wr.heap.size := by omega
        have hbw' : b' < wr.heap.size := by omega
        have hM : p.In wr B mv := hmv
        have hM' : p'.In wr B mv' := hmv'
        obtain ⟨pa, pc, rfl⟩ := in_shape hM
        obtain ⟨pa', pc', rfl⟩ := in_shape hM'
        obtain ⟨pn, hpn⟩ : ∃ pn, p.length = pn := ⟨_, rfl⟩
        obtain ⟨pn', hpn'⟩ : ∃ pn, p'.length = pn := ⟨_, rfl⟩
        rw [hpn] at a3 hM
        rw [hpn'] at d3 hM'
        have hbb := ((Below.refl wr.heap.size wr).alloc (Nat.le_refl _) (.cells #[.int .u8 k, .int .i64 x, .string s, .slice pa pn pc] 62)).alloc (by simp) (.cells #[.int .u8 k', .int .i64 x', .string s', .slice pa' pn' pc'] 62)
        have cS := same1_any N HI0.out k k' x x' s s' p p' (.slice pa pn pc) (.slice pa' pn' pc') B _ hsz (hM.below (hbb.mono (by omega))) (hM'.below (hbb.mono (by omega))) (Nat.le_trans (by omega) hbb.size) hml hml2
        have HBB := hid (hb.out.trans (hbb.mono hwr))
        have ga := ((Below.refl wr.heap.size wr).alloc (Nat.le_refl _) (.cells #[.int .u8 k, .int .i64 x, .string s, .slice pa pn pc] 62))
        have g0 := (ga.cell (p := ⟨b', o' + j * 4, none⟩) hbw').trans d0
        have g1 := (ga.cell (p := ⟨b', o' + j * 4 + 1, none⟩) hbw').trans d1
        have g2 := (ga.cell (p := ⟨b', o' + j * 4 + 2, none⟩) hbw').trans d2
        have g3 := (ga.cell (p := ⟨b', o' + j * 4 + 3, none⟩) hbw').trans d3
        clear ga
        obtain ⟨q, hq⟩ : ∃ q, (decide (k = k') && (decide (x = x') && (decide (s.data.toList = s'.data.toList) && sameI p p'))) = q := ⟨_, rfl⟩
        have hI3 : R = (q && K.sameI r r') := by
          rw [hI2, ← hq]
          simp only [Bool.and_assoc]
        rw [hq] at cS
        have HD1 := hid (p := l.drop (j + 1) = r) hd1
        have HD2 := hid (p := m.drop (j + 1) = r') hd2
        clear hcons hcons' hA0 hB0 hmv hmv' hsz hml hml2 hq hd1 hd2 hI2 hI hM hM' hpn hpn' hbb hbl hb
        cases q with
        | false =>
          have HE : Hid (R = false) := by show _ = _; rw [hI3]; rfl
          clear hI3
          go_wp2_with fail
          refine cS.mono ?_
          rintro e w1 ⟨rfl, b1⟩
          have HB1 := hid (HBB.out.trans (b1.mono HBB.out.size))
          clear b1 cS
          go_wp2_with fail
          go_ret
          exact ⟨by rw [HE.out]; rfl, HB1.out⟩
        | true =>
          have HE : Hid (R = K.sameI (l.drop (j + 1)) (m.drop (j + 1))) := by show _ = _; rw [hI3, HD1.out, HD2.out]; rfl
          clear hI3
          go_wp2_with fail
          refine cS.mono ?_
          rintro e w1 ⟨rfl, b1⟩
          have HB1 := hid (HBB.out.trans (b1.mono HBB.out.size))
          clear b1 cS
          go_wp2_with fail
          go_roundw
          case rel => exact ⟨j + 1, by omega, by go_num, HB1, HE⟩
          case measure => simp [intOf] <;> omega
      · have hl0 : decide ((j : Int) < (n : Int)) = false := by simp; omega
        have HE : Hid (R = true) := by
          show _ = _
          rw [hI.out]
          have hz : (l.drop j).length = 0 := by rw [K.Items.drop_length]; have := HN.out; omega
          have hz2 : (m.drop j).length = 0 := by rw [K.Items.drop_length]; have := HN2.out; omega
          cases hdl : l.drop j with
          | nil => cases hdm : m.drop j with
            | nil => rfl
            | cons k x s p r => rw [hdm] at hz2; simp [K.Items.length] at hz2
          | cons k x s p r => rw [hdl] at hz; simp [K.Items.length] at hz
        go_wp2_with fail
        go_ret
        exact ⟨by rw [HE.out]; rfl, hb.out⟩
  · have t0 : ((n : Int) != (n2 : Int)) = true := by rw [bne_iff_ne]; omega
    rw [K.sameI_length l m (by omega)]
    clear hn hn2 hva hvb IH
    go_enter Tryd.func42, Tryd.ntmps42
    go_wp2_with fail
    go_ret
    exact ⟨rfl, Below.refl _ _⟩
set_option maxRecDepth 100000 in
set_option maxHeartbeats 4000000 in
theorem keySame_any : ∀ (N : Nat), SameAt N := by
  intro N
  induction N with
  | zero => intro l m h; omega
  | succ N ih =>
    intro l m hN va vb B w hva hvb hB hr hr2
    have cE := equalFunc_any N ih l m hN va vb B w hva hvb hB hr hr2
    clear ih
    go_enter Tryd.func23, Tryd.ntmps23
    go_wp2_with fail
    refine cE.mono ?_
    rintro e w1 ⟨rfl, b1⟩
    have HB1 := hid b1
    clear cE b1
    go_wp2_with fail
    go_ret
    exact ⟨rfl, HB1.out⟩
end Go.Proofs.YtfadnhihcobclaaDoor
