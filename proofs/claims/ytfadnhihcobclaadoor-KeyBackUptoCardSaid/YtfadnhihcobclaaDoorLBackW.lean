/- The walk of KeyBack. -/
import Derived.Test.YtfadnhihcobclaaDoorKDec4
import Derived.Test.YtfadnhihcobclaaDoorKGiven
import Derived.Test.YtfadnhihcobclaaDoorKKSame
import Derived.Test.YtfadnhihcobclaaDoorKLawI
import Derived.Test.YtfadnhihcobclaaDoorKArgI
import Derived.Test.YtfadnhihcobclaaDoorKOwnPack
import Derived.Test.YtfadnhihcobclaaDoorKSame
import Derived.Test.YtfadnhihcobclaaDoorKPlainF
import Derived.Deep.DeepCutAuto
namespace Go.Proofs.YtfadnhihcobclaaDoor
open Go.RowKit
open Go.Lib (hid)
open K
namespace K
theorem sameI_refl : ∀ (l : Items), sameI l l = true
  | .nil => rfl
  | .cons k n s l r => by rw [sameI_cons, sameI_refl l, sameI_refl r]; simp
theorem sameI_eq : ∀ (l m : Items), sameI l m = true → l = m
  | .nil, .nil, _ => rfl
  | .nil, .cons _ _ _ _ _, h => by cases h
  | .cons _ _ _ _ _, .nil, h => by cases h
  | .cons k n s l r, .cons k' n' s' l' r', h => by
    rw [sameI_cons] at h
    simp only [Bool.and_eq_true, decide_eq_true_eq] at h
    obtain ⟨rfl, rfl, hs, hl, hr⟩ := h
    have e1 := sameI_eq l l' hl
    have e2 := sameI_eq r r' hr
    have e3 : s = s' := by
      rw [← ba_back s, ← ba_back s', hs]
    rw [e1, e2, e3]
theorem escL_le : ∀ (l : List UInt8), l.length ≤ (escL l).length
  | [] => Nat.le_refl _
  | c :: r => by
    have := escL_le r
    unfold escL
    split <;> simp only [List.length_cons] <;> omega
theorem say_le : ∀ (ps : List Part), anyBad ps = false → ∀ p ∈ ps, p.say.size ≤ (packL ps).length
  | [], _, p, h => by cases h
  | x :: r, hb, p, h => by
    simp only [anyBad, Bool.or_eq_false_iff] at hb
    rw [packL, List.length_append]
    rcases List.mem_cons.1 h with rfl | h
    · have e : p.say.data.toList.length = p.say.size := Array.length_toList
      cases ht : p.text with
      | true =>
        have := escL_le p.say.data.toList
        unfold Part.bytes
        rw [ht, if_pos rfl, esc_eq]
        simp only [List.length_cons, List.length_append]; omega
      | false =>
        have : p.say.size = 0 := by
          have h1 := hb.1
          unfold Part.bad at h1
          rw [ht] at h1
          simpa using h1
        omega
    · have := say_le r hb.2 p h
      omega
end K
theorem in_later {l : Items} {v : Value} {w r : World} (h : l.In w w.heap.size v) (hb : Below w.heap.size w r) : l.In r r.heap.size v := h.keep hb.size (fun b o h => hb.cell (p := ⟨b, o, none⟩) h)
set_option maxRecDepth 100000 in
set_option maxHeartbeats 32000000 in
theorem back_main (ps : List Part) (v0 : Value) (p : Items) (v1 : Value) (q : Items) (v2 : Value) (s : ByteArray) (w : World) (hi0 : PIn w ps v0) (hmay0 : ∀ x ∈ ps, x.may) (hv1 : p.In w w.heap.size v1) (hm1 : p.may) (hr1 : p.room ≤ 11534336) (hv2 : q.In w w.heap.size v2) (hm2 : q.may) (hr2 : q.room ≤ 11534336) (hM : Max w) (hlet : K.letters ps ≤ 1048576) (hl : ps.length ≤ 100) (hs : s.size ≤ 20000)
    (hA : 0 ≤ K.small p 2000 0) (hB : 0 ≤ K.small q 2000 0) :
    Calls Tryd.prog 8 #[v0, v1, v2, .string s] w fun e w' => e = .returned (.bool true) ∧ Below w.heap.size w w' := by
  have hls : s.data.toList.length = s.size := Array.length_toList
  have cA := small_any (p.sz + 1) p (Nat.lt_succ_self _) v1 2000 0 w.heap.size w hv1 (by omega) hm1 (by decide) (by decide) (by decide) (by decide)
  have cB := small_any (q.sz + 1) q (Nat.lt_succ_self _) v2 2000 0 w.heap.size w hv2 (by omega) hm2 (by decide) (by decide) (by decide) (by decide)
  obtain ⟨a, ha⟩ : ∃ a, K.small p 2000 0 = a := ⟨_, rfl⟩
  obtain ⟨b, hb⟩ : ∃ b, K.small q 2000 0 = b := ⟨_, rfl⟩
  rw [ha] at cA hA
  rw [hb] at cB hB
  have HI0 := hid hi0
  have HMAY := hid hmay0
  have HV1 := hid hv1
  have HV2 := hid hv2
  have HMX := hid hM
  have hsay : ∀ x ∈ ps, x.say.size ≤ 2000000 ∧ -9223372036854775808 ≤ x.n ∧ x.n ≤ 9223372036854775807 := fun x hx => ⟨by have := K.letters_mem ps x hx; omega, (hmay0 x hx).1, (hmay0 x hx).2⟩
  have HSAY := hid hsay
  have hpk : (K.packL ps).length ≤ 2099000 := by
    have := K.packL_length ps
    omega
  have HPK := hid hpk
  obtain ⟨n0, hn0⟩ : ∃ n, ps.length = n := ⟨_, rfl⟩
  obtain ⟨xa0, xc0, hsv0⟩ := hi0.shape
  rw [hn0] at hsv0
  subst hsv0
  have HN0 := hid hn0
  have hn0100 : n0 ≤ 100 := by omega
  have tl : decide ((100 : Int) < (n0 : Int)) = false := decide_eq_false (by omega)
  have ta : decide (a < 0) = false := decide_eq_false (by omega)
  have tb : decide (b < 0) = false := decide_eq_false (by omega)
  have ts : decide ((20000 : Int) < (s.size : Int)) = false := decide_eq_false (by omega)
  obtain ⟨P1, hP1⟩ : ∃ P1, (K.pack ps).1 = P1 := ⟨_, rfl⟩
  obtain ⟨P2, hP2⟩ : ∃ P2, (K.pack ps).2 = P2 := ⟨_, rfl⟩
  obtain ⟨E1, hE1⟩ : ∃ E1, (K.encode p).1 = E1 := ⟨_, rfl⟩
  obtain ⟨E2, hE2⟩ : ∃ E2, (K.encode p).2 = E2 := ⟨_, rfl⟩
  obtain ⟨F1, hF1⟩ : ∃ F1, (K.encode q).1 = F1 := ⟨_, rfl⟩
  obtain ⟨F2, hF2⟩ : ∃ F2, (K.encode q).2 = F2 := ⟨_, rfl⟩
  obtain ⟨T, hT⟩ : ∃ T : ByteArray, (⟨E1.toArray⟩ : ByteArray) = T := ⟨_, rfl⟩
  obtain ⟨V, hV⟩ : ∃ V : ByteArray, (⟨F1.toArray⟩ : ByteArray) = V := ⟨_, rfl⟩
  have HT := hid hT
  have HV := hid hV
  obtain ⟨D, hD⟩ : ∃ D, K.decode s.data.toList = D := ⟨_, rfl⟩
  obtain ⟨U, hU⟩ : ∃ U, K.unpack s.data.toList = U := ⟨_, rfl⟩
  have HP1 := hid hP1
  have HP2 := hid hP2
  have HE1 := hid hE1
  have HE2 := hid hE2
  have HF1 := hid hF1
  have HF2 := hid hF2
  have HD := hid hD
  have HU := hid hU
  clear hT hV ha hb hi0 hmay0 hv1 hv2 hM hsay hpk hn0 hP1 hP2 hE1 hE2 hF1 hF2 hD hU hls hlet hl
  go_enter Tryd.func8, Tryd.ntmps8
  have HB := hid (Below.refl w.heap.size w)
  go_wp2_with fail
  refine cA.mono ?_
  rintro e w0 ⟨rfl, hw0⟩
  have hw0x := hw0.out.symm
  subst hw0x
  clear hw0 cA
  go_wp2_with fail
  refine cB.mono ?_
  rintro e w0 ⟨rfl, hw0⟩
  have hw0x := hw0.out.symm
  subst hw0x
  clear hw0 cB
  go_wp2_with fail
  refine (awake_any w HMX.out).mono ?_
  rintro e w1 ⟨rfl, bb⟩
  have HBN := hid (HB.out.trans (bb.mono HB.out.size))
  clear HB
  have HB := hid HBN.out
  clear HBN
  clear bb
  go_wp2_with fail
  refine (theirs_any ps (.slice xa0 n0 xc0) w1 (HI0.out.keep (fun b o h => HB.out.cell (p := ⟨b, o, none⟩) h)) (by rw [HN0.out]; omega)).mono ?_
  rintro e w2 ⟨va, rfl, ga, bb⟩
  have GA := hid ga
  have HBN := hid (HB.out.trans (bb.mono HB.out.size))
  clear HB
  have HB := hid HBN.out
  clear HBN
  clear ga bb
  obtain ⟨a1, c1, hva⟩ := GA.out.is.shape
  rw [HN0.out] at hva
  subst hva
  have cE := packs_own GA.out HSAY.out (HMX.out.below HB.out) (by rw [HN0.out]; omega)
  rw [HP1.out, HP2.out] at cE
  go_wp2_with fail
  refine (cE).mono ?_
  rintro e w3 ⟨rfl, bb⟩
  have HBN := hid (HB.out.trans (bb.mono HB.out.size))
  clear HB
  have HB := hid HBN.out
  clear HBN
  clear bb cE GA
  go_upto_if 51 with fail
  go_cut [] (fun wc => Hid (Below w.heap.size w wc))
  case first =>
    by_cases e0 : P2 = 0
    · have q0 : (P2 == 0) = true := by simp [e0]
      have hup := K.unpack_pack ps HMAY.out (by rw [HP2.out]; exact e0)
      rw [HP1.out] at hup
      have hP1l : P1.length ≤ 2099000 := by
        have h1 := HP1.out
        have h2 := HPK.out
        unfold K.pack at h1
        rw [← h1]
        split
        · simp
        · split
          · simp
          · exact h2
      have cE := unpack_any ⟨P1.toArray⟩ w3 (by show P1.toArray.size ≤ _; rw [List.size_toArray]; omega)
      rw [show (⟨P1.toArray⟩ : ByteArray).data.toList = P1 from rfl, hup] at cE
      unfold UnOf at cE
      simp only at cE
      clear e0 hup
      go_wp2_with fail
      refine (cE).mono ?_
      rintro e w4 ⟨vx, rfl, gx, bb⟩
      have GX := hid gx
      have HBN := hid (HB.out.trans (bb.mono HB.out.size))
      clear HB
      have HB := hid HBN.out
      clear HBN
      clear gx bb cE
      obtain ⟨a2, c2, hvx⟩ := GX.out.is.shape
      rw [HN0.out] at hvx
      subst hvx
      go_wp2_with fail
      refine (parts_same ps (.slice a2 n0 c2) (.slice xa0 n0 xc0) w4 GX.out.is (HI0.out.keep (fun b o h => HB.out.cell (p := ⟨b, o, none⟩) h)) (by rw [HN0.out]; omega)).mono ?_
      rintro e w5 ⟨rfl, bb⟩
      have HBN := hid (HB.out.trans (bb.mono HB.out.size))
      clear HB
      have HB := hid HBN.out
      clear HBN
      clear bb GX
      go_wp2_with fail
      go_meet
      exact HB
    · have q0 : (P2 == 0) = false := beq_eq_false_iff_ne.2 e0
      clear e0
      go_wp2_with fail
      go_meet
      exact HB
  case rest =>
    clear HB
    rename World => x51
    have HB := hid hcut.out
    clear hcut
    have cE := unpack_any s x51 (by omega)
    rw [HU.out] at cE
    unfold UnOf at cE
    obtain ⟨U1, U2⟩ := U
    simp only at cE
    go_wp2_with fail
    refine (cE).mono ?_
    rintro e w6 ⟨vx, rfl, gx, bb⟩
    have GX := hid gx
    have HBN := hid (HB.out.trans (bb.mono HB.out.size))
    clear HB
    have HB := hid HBN.out
    clear HBN
    clear gx bb cE
    obtain ⟨a3, c3, hvx⟩ := GX.out.is.shape
    obtain ⟨n3, hn3⟩ : ∃ n, U1.length = n := ⟨_, rfl⟩
    rw [hn3] at hvx
    subst hvx
    clear hn3
    go_upto_if 71 with fail
    go_cut [] (fun wc => Hid (Below w.heap.size w wc))
    case first =>
      by_cases e0 : U2 = 0
      · have q0 : (U2 == 0) = true := by simp [e0]
        have hpu := K.pack_unpack s.data.toList (by rw [HU.out]; exact e0)
        rw [HU.out] at hpu
        simp only at hpu
        obtain ⟨hpu1, hpu2, hpu3⟩ := hpu
        have hbad : anyBad U1 = false ∧ (packL U1) = s.data.toList := by
          have h1 := hpu1
          unfold K.pack at h1
          rw [if_neg (by omega)] at h1
          cases hb : anyBad U1 with
          | true => rw [hb] at h1; simp at h1
          | false =>
            rw [hb] at h1
            simp only [Bool.false_eq_true, if_false, Prod.mk.injEq, and_true] at h1
            exact ⟨rfl, h1⟩
        have hsay2 : ∀ x ∈ U1, x.say.size ≤ 2000000 ∧ -9223372036854775808 ≤ x.n ∧ x.n ≤ 9223372036854775807 := fun x hx => ⟨by
          have h1 := K.say_le U1 hbad.1 x hx
          rw [hbad.2, Array.length_toList] at h1
          have : s.data.size = s.size := rfl
          omega, (hpu2 x hx).1, (hpu2 x hx).2⟩
        have cE := packs_own GX.out hsay2 (HMX.out.below HB.out) (by omega)
        rw [hpu1] at cE
        simp only at cE
        rw [K.ba_back s] at cE
        have eS : (s.toList == s.toList) = true := by simp
        have eS2 : (s.toList != s.toList) = false := by simp
        clear e0 hpu1 hpu2 hpu3 hbad hsay2
        go_wp2_with fail
        refine (cE).mono ?_
        rintro e w7 ⟨rfl, bb⟩
        have HBN := hid (HB.out.trans (bb.mono HB.out.size))
        clear HB
        have HB := hid HBN.out
        clear HBN
        clear bb cE GX
        go_wp2_with fail
        go_meet
        exact HB
      · have q0 : (U2 == 0) = false := beq_eq_false_iff_ne.2 e0
        clear e0
        go_wp2_with fail
        go_meet
        exact HB
    case rest =>
      clear HB
      rename World => x71
      have HB := hid hcut.out
      clear hcut
      try clear GX
      have cE := given_any (p.sz + 1) p (Nat.lt_succ_self _) v1 x71.heap.size x71 (in_later HV1.out HB.out) (Nat.le_refl _) (by omega)
      go_wp2_with fail
      refine (cE).mono ?_
      rintro e w8 ⟨vA, rfl, gA, bb⟩
      have GA := hid gA
      have HBN := hid (HB.out.trans (bb.mono HB.out.size))
      clear HB
      have HB := hid HBN.out
      clear HBN
      clear gA bb cE
      obtain ⟨a4, c4, hvA⟩ := GA.out.shape
      obtain ⟨n4, hn4⟩ : ∃ n, p.length = n := ⟨_, rfl⟩
      rw [hn4] at hvA
      subst hvA
      clear hn4
      have cE := encode_any p (.slice a4 n4 c4) w8 GA.out.inn hm1 (by omega)
      rw [HE1.out, HE2.out, HT.out] at cE
      go_wp2_with fail
      refine (cE).mono ?_
      rintro e w9 ⟨rfl, bb⟩
      have HBN := hid (HB.out.trans (bb.mono HB.out.size))
      clear HB
      have HB := hid HBN.out
      clear HBN
      clear bb cE GA
      go_upto_if 91 with fail
      go_cut [] (fun wc => Hid (Below w.heap.size w wc))
      case first =>
        by_cases e0 : E2 = 0
        · have q0 : (E2 == 0) = true := by simp [e0]
          have hde := K.decode_encode p hm1 (by rw [HE2.out]; exact e0)
          rw [HE1.out] at hde
          have hE1l : E1.length ≤ 100000 := by
            have h1 := HE1.out
            unfold K.encode at h1
            rw [← h1]
            split
            · simp
            · split
              · simp
              · show (K.enc p 0).1.length ≤ 100000
                omega
          have hTl : T.data.toList = E1 := by rw [← HT.out]
          have hTs : T.size ≤ 4000000 := by
            have e1 : T.data.toList.length = T.size := Array.length_toList
            rw [hTl] at e1
            omega
          have cE := decode_any T w9 hTs
          rw [hTl, hde] at cE
          unfold DecOf at cE
          simp only at cE
          clear e0 hde hTl hTs hE1l
          go_wp2_with fail
          refine (cE).mono ?_
          rintro e w10 ⟨vy, rfl, ly, bb⟩
          have Ly := hid ly
          have HBN := hid (HB.out.trans (bb.mono HB.out.size))
          clear HB
          have HB := hid HBN.out
          clear HBN
          clear ly bb cE
          obtain ⟨ay, ny, cy, hvy⟩ : ∃ a n c, vy = .slice a n c := by
            rcases Ly.out with ⟨h, _⟩ | ⟨b, o, c, h, _⟩
            · exact ⟨none, 0, 0, h⟩
            · exact ⟨_, _, _, h⟩
          subst hvy
          go_wp2_with fail
          refine (ritems_same (p.sz + 1) p (Nat.lt_succ_self _) (.slice ay ny cy) v1 w10.heap.size w10 (Ly.out.inn (fun b hb => hb.2)) (in_later HV1.out HB.out) (Nat.le_refl _) (by omega)).mono ?_
          rintro e w11 ⟨rfl, bb⟩
          have HBN := hid (HB.out.trans (bb.mono HB.out.size))
          clear HB
          have HB := hid HBN.out
          clear HBN
          clear bb Ly
          go_wp2_with fail
          go_meet
          exact HB
        · have q0 : (E2 == 0) = false := beq_eq_false_iff_ne.2 e0
          clear e0
          go_wp2_with fail
          go_meet
          exact HB
      case rest =>
        clear HB
        rename World => x91
        have HB := hid hcut.out
        clear hcut
        have cE := given_any (q.sz + 1) q (Nat.lt_succ_self _) v2 x91.heap.size x91 (in_later HV2.out HB.out) (Nat.le_refl _) (by omega)
        go_wp2_with fail
        refine (cE).mono ?_
        rintro e w12 ⟨vB, rfl, gB, bb⟩
        have GB := hid gB
        have HBN := hid (HB.out.trans (bb.mono HB.out.size))
        clear HB
        have HB := hid HBN.out
        clear HBN
        clear gB bb cE
        obtain ⟨a5, c5, hvB⟩ := GB.out.shape
        obtain ⟨n5, hn5⟩ : ∃ n, q.length = n := ⟨_, rfl⟩
        rw [hn5] at hvB
        subst hvB
        clear hn5
        have cE := encode_any q (.slice a5 n5 c5) w12 GB.out.inn hm2 (by omega)
        rw [HF1.out, HF2.out, HV.out] at cE
        go_wp2_with fail
        refine (cE).mono ?_
        rintro e w13 ⟨rfl, bb⟩
        have HBN := hid (HB.out.trans (bb.mono HB.out.size))
        clear HB
        have HB := hid HBN.out
        clear HBN
        clear bb cE GB
        go_upto_region 19 with fail
        go_cut [127] (fun s127 wc => s127 = .bool false ∧ Hid (Below w.heap.size w wc))
        case first =>
          by_cases e0 : E2 = 0
          · have q0 : (E2 == 0) = true := by simp [e0]
            by_cases f0 : F2 = 0
            · have q1 : (F2 == 0) = true := by simp [f0]
              obtain ⟨z, hz⟩ : ∃ z, sameI p q = z := ⟨_, rfl⟩
              have eTV : (T.toList == V.toList) = z := by
                rw [Lib.toList_data, Lib.toList_data, ← HT.out, ← HV.out]
                show (E1 == F1) = z
                cases z with
                | true =>
                  have := sameI_eq p q hz
                  subst this
                  rw [← HE1.out, ← HF1.out]; simp
                | false =>
                  rw [beq_eq_false_iff_ne]
                  intro e
                  have := K.encode_inj p q hm1 hm2 (by rw [HE2.out]; exact e0) (by rw [HF2.out]; exact f0) (by rw [HE1.out, HF1.out]; exact e)
                  subst this
                  rw [sameI_refl] at hz
                  cases hz
              have HZ := hid hz
              have ez : (z != z) = false := by simp
              clear e0 f0 hz
              have cE := given_any (p.sz + 1) p (Nat.lt_succ_self _) v1 w13.heap.size w13 (in_later HV1.out HB.out) (Nat.le_refl _) (by omega)
              go_wp2_with fail
              refine (cE).mono ?_
              rintro e w14 ⟨vA, rfl, gA, bb⟩
              have GA := hid gA
              have HBN := hid (HB.out.trans (bb.mono HB.out.size))
              clear HB
              have HB := hid HBN.out
              clear HBN
              clear gA bb cE
              obtain ⟨a6, c6, hvA⟩ := GA.out.shape
              obtain ⟨n6, hn6⟩ : ∃ n, p.length = n := ⟨_, rfl⟩
              rw [hn6] at hvA
              subst hvA
              clear hn6
              have cE := given_any (q.sz + 1) q (Nat.lt_succ_self _) v2 w14.heap.size w14 (in_later HV2.out HB.out) (Nat.le_refl _) (by omega)
              go_wp2_with fail
              refine (cE).mono ?_
              rintro e w15 ⟨vB, rfl, gB, bb⟩
              have GAN := hid (GA.out.below bb)
              clear GA
              have GA := hid GAN.out
              clear GAN
              have GB := hid gB
              have HBN := hid (HB.out.trans (bb.mono HB.out.size))
              clear HB
              have HB := hid HBN.out
              clear HBN
              clear gB bb cE
              obtain ⟨a7, c7, hvB⟩ := GB.out.shape
              obtain ⟨n7, hn7⟩ : ∃ n, q.length = n := ⟨_, rfl⟩
              rw [hn7] at hvB
              subst hvB
              clear hn7
              have cE := keySame_any (p.sz + 1) p q (Nat.lt_succ_self _) (.slice a6 n6 c6) (.slice a7 n7 c7) w15.heap.size w15 GA.out.inn GB.out.inn (Nat.le_refl _) (by omega) (by omega)
              rw [HZ.out] at cE
              go_wp2_with fail
              refine (cE).mono ?_
              rintro e w16 ⟨rfl, bb⟩
              have HBN := hid (HB.out.trans (bb.mono HB.out.size))
              clear HB
              have HB := hid HBN.out
              clear HBN
              clear bb cE GA GB
              go_wp2_with fail
              go_meet
              exact ⟨rfl, HB⟩
            · have q1 : (F2 == 0) = false := beq_eq_false_iff_ne.2 f0
              clear e0 f0
              go_wp2_with fail
              go_meet
              exact ⟨rfl, HB⟩
          · have q0 : (E2 == 0) = false := beq_eq_false_iff_ne.2 e0
            clear e0
            go_wp2_with fail
            go_meet
            exact ⟨rfl, HB⟩
        case rest =>
          obtain ⟨rfl, hc2⟩ := hcut
          clear HB
          rename World => x127
          have HB := hid hc2.out
          clear hc2
          have cE := decode_any s x127 (by omega)
          rw [HD.out] at cE
          unfold DecOf at cE
          go_wp2_with fail
          refine (cE).mono ?_
          rintro e w17 ⟨vy, rfl, ly, bb⟩
          have Ly := hid ly
          have HBN := hid (HB.out.trans (bb.mono HB.out.size))
          clear HB
          have HB := hid HBN.out
          clear HBN
          clear ly bb cE
          by_cases d0 : D.2 = 0
          · have qd : (D.2 != 0) = false := by simp [d0]
            have hed := K.encode_decode s.data.toList (by rw [HD.out]; exact d0)
            rw [HD.out] at hed
            obtain ⟨hed1, hed2, hed3⟩ := hed
            have hls : s.data.toList.length = s.size := Array.length_toList
            obtain ⟨ay, ny, cy, hvy⟩ : ∃ a n c, vy = .slice a n c := by
              rcases Ly.out with ⟨h, _⟩ | ⟨b, o, c, h, _⟩
              · exact ⟨none, 0, 0, h⟩
              · exact ⟨_, _, _, h⟩
            subst hvy
            have cE := encode_any D.1 (.slice ay ny cy) w17 (Ly.out.inn (fun b hb => hb.2)) hed2 (by omega)
            rw [hed1] at cE
            simp only at cE
            rw [K.ba_back s] at cE
            have eS : (s.toList == s.toList) = true := by simp
            clear d0 hed1 hed2 hed3 hls
            go_wp2_with fail
            refine (cE).mono ?_
            rintro e w18 ⟨rfl, bb⟩
            have HBN := hid (HB.out.trans (bb.mono HB.out.size))
            clear HB
            have HB := hid HBN.out
            clear HBN
            clear bb cE Ly
            go_wp2_with fail
            go_ret
            exact ⟨rfl, HB.out⟩
          · have qd : (D.2 != 0) = true := by rw [bne_iff_ne]; exact d0
            have hdn := K.decode_no s.data.toList (by rw [HD.out]; exact d0)
            rw [HD.out] at hdn
            have hl2 := Ly.out
            rw [hdn] at hl2
            obtain ⟨ay, cy, hvy⟩ : ∃ a c, vy = .slice a 0 c := by
              rcases hl2 with ⟨h, _⟩ | ⟨b, o, c, h, _⟩
              · exact ⟨none, 0, h⟩
              · exact ⟨_, _, h⟩
            subst hvy
            clear d0 hdn hl2 Ly
            go_wp2_with fail
            go_ret
            exact ⟨rfl, HB.out⟩
set_option maxRecDepth 100000 in
set_option maxHeartbeats 16000000 in
theorem back_awake (ps : List Part) (v0 : Value) (p : Items) (v1 : Value) (q : Items) (v2 : Value) (s : ByteArray) (w : World) (hi0 : PIn w ps v0) (_ : ∀ x ∈ ps, x.may) (hv1 : p.In w w.heap.size v1) (hm1 : p.may) (hr1 : p.room ≤ 11534336) (hv2 : q.In w w.heap.size v2) (hm2 : q.may) (hr2 : q.room ≤ 11534336) (hM : Max w) (hs : s.size ≤ 1048576) (hn : 100 < ps.length ∨ K.small p 2000 0 < 0 ∨ K.small q 2000 0 < 0 ∨ 20000 < s.size) :
    Calls Tryd.prog 8 #[v0, v1, v2, .string s] w fun e w' => e = .returned (.bool true) ∧ Below w.heap.size w w' := by
  have cA := small_any (p.sz + 1) p (Nat.lt_succ_self _) v1 2000 0 w.heap.size w hv1 (by omega) hm1 (by decide) (by decide) (by decide) (by decide)
  have cB := small_any (q.sz + 1) q (Nat.lt_succ_self _) v2 2000 0 w.heap.size w hv2 (by omega) hm2 (by decide) (by decide) (by decide) (by decide)
  obtain ⟨a, ha⟩ : ∃ a, K.small p 2000 0 = a := ⟨_, rfl⟩
  obtain ⟨b, hb⟩ : ∃ b, K.small q 2000 0 = b := ⟨_, rfl⟩
  rw [ha] at cA hn
  rw [hb] at cB hn
  have cW := awake_any w hM
  obtain ⟨n0, hn0⟩ : ∃ n, ps.length = n := ⟨_, rfl⟩
  obtain ⟨xa0, xc0, hsv0⟩ := hi0.shape
  rw [hn0] at hsv0 hn
  subst hsv0
  clear ha hb hi0 hv1 hv2 hM hn0
  by_cases hl : 100 < n0
  · have tl : decide ((100 : Int) < (n0 : Int)) = true := decide_eq_true (by omega)
    clear hn cA cB
    go_enter Tryd.func8, Tryd.ntmps8
    go_wp2_with fail
    refine cW.mono ?_
    rintro e w1 ⟨rfl, bb⟩
    have HB := hid bb
    clear bb cW
    go_wp2_with fail
    go_ret
    exact ⟨rfl, HB.out⟩
  · have tl : decide ((100 : Int) < (n0 : Int)) = false := decide_eq_false (by omega)
    by_cases ha : a < 0
    · have ta : decide (a < 0) = true := decide_eq_true ha
      clear hn cB
      go_enter Tryd.func8, Tryd.ntmps8
      go_wp2_with fail
      refine cA.mono ?_
      rintro e w0 ⟨rfl, hw0⟩
      have hw0x := hw0.out.symm
      subst hw0x
      clear hw0 cA
      go_wp2_with fail
      refine cW.mono ?_
      rintro e w1 ⟨rfl, bb⟩
      have HB := hid bb
      clear bb cW
      go_wp2_with fail
      go_ret
      exact ⟨rfl, HB.out⟩
    · have ta : decide (a < 0) = false := decide_eq_false ha
      by_cases hb : b < 0
      · have tb : decide (b < 0) = true := decide_eq_true hb
        clear hn
        go_enter Tryd.func8, Tryd.ntmps8
        go_wp2_with fail
        refine cA.mono ?_
        rintro e w0 ⟨rfl, hw0⟩
        have hw0x := hw0.out.symm
        subst hw0x
        clear hw0 cA
        go_wp2_with fail
        refine cB.mono ?_
        rintro e w0 ⟨rfl, hw0⟩
        have hw0x := hw0.out.symm
        subst hw0x
        clear hw0 cB
        go_wp2_with fail
        refine cW.mono ?_
        rintro e w1 ⟨rfl, bb⟩
        have HB := hid bb
        clear bb cW
        go_wp2_with fail
        go_ret
        exact ⟨rfl, HB.out⟩
      · have tb : decide (b < 0) = false := decide_eq_false hb
        have ts : decide ((20000 : Int) < (s.size : Int)) = true := decide_eq_true (by omega)
        clear hn
        go_enter Tryd.func8, Tryd.ntmps8
        go_wp2_with fail
        refine cA.mono ?_
        rintro e w0 ⟨rfl, hw0⟩
        have hw0x := hw0.out.symm
        subst hw0x
        clear hw0 cA
        go_wp2_with fail
        refine cB.mono ?_
        rintro e w0 ⟨rfl, hw0⟩
        have hw0x := hw0.out.symm
        subst hw0x
        clear hw0 cB
        go_wp2_with fail
        refine cW.mono ?_
        rintro e w1 ⟨rfl, bb⟩
        have HB := hid bb
        clear bb cW
        go_wp2_with fail
        go_ret
        exact ⟨rfl, HB.out⟩
theorem back_law (ps : List Part) (v0 : Value) (p : Items) (v1 : Value) (q : Items) (v2 : Value) (s : ByteArray) (w : World) (hi0 : PIn w ps v0) (hmay0 : ∀ x ∈ ps, x.may) (hv1 : p.In w w.heap.size v1) (hm1 : p.may) (hr1 : p.room ≤ 11534336) (hv2 : q.In w w.heap.size v2) (hm2 : q.may) (hr2 : q.room ≤ 11534336) (_ : s.size ≤ 140737488351232) (hM : Max w) (hc : s.size + K.letters ps ≤ 1048576) :
    Calls Tryd.prog 8 #[v0, v1, v2, .string s] w fun e w' => e = .returned (.bool true) ∧ Below w.heap.size w w' := by
  by_cases h : 100 < ps.length ∨ K.small p 2000 0 < 0 ∨ K.small q 2000 0 < 0 ∨ 20000 < s.size
  · exact back_awake ps v0 p v1 q v2 s w hi0 hmay0 hv1 hm1 hr1 hv2 hm2 hr2 hM (by omega) h
  · exact back_main ps v0 p v1 q v2 s w hi0 hmay0 hv1 hm1 hr1 hv2 hm2 hr2 hM (by omega) (by omega) (by omega) (by omega) (by omega)
end Go.Proofs.YtfadnhihcobclaaDoor
