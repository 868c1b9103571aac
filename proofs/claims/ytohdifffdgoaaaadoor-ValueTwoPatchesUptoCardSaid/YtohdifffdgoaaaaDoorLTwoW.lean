/- The walk of ValueTwoPatches. -/
import Derived.Test.YtohdifffdgoaaaaDoorLPatchW
namespace Go.Proofs.YtohdifffdgoaaaaDoor
open Go.RowKit
open Go.Lib (hid)
open V
theorem put_none {vars p : List Bind} (h : (put vars p).2 ≠ 0) : (put vars p).1 = [] := by
  rcases put_cases vars p with h' | ⟨_, _, _, h'⟩
  · exact h'.1
  · rw [h'] at h; exact absurd rfl h
theorem lone_size (p q : List Bind) : (V.lone p q).length ≤ p.length := List.length_filter_le _ _
theorem lone_in {p q : List Bind} {m : Nat} (h1 : ∀ b ∈ p, b.name.size ≤ m) (h2 : ∀ b ∈ q, b.name.size ≤ m) : ∀ b ∈ V.lone p q ++ q, b.name.size ≤ m := fun b hb => by
  rcases List.mem_append.1 hb with h | h
  · exact h1 b (List.mem_filter.1 h).1
  · exact h2 b h
theorem findV_none (l : List Bind) (x : List UInt8) : (findB l x).isNone = !(findV l x).2 := by
  unfold findV; cases findB l x <;> rfl
set_option maxRecDepth 100000 in
set_option maxHeartbeats 8000000 in
theorem two_walk (vars p q : List Bind) (sa sb sc : Value) (w : World) (ha : BIn w vars sa) (hb : BIn w p sb) (hc : BIn w q sc) (hE : VEnv w) (hl : vars.length ≤ 1048576) (hl' : p.length ≤ 1048576) (hl2 : q.length ≤ 1048576)
    (hz : ∀ b ∈ vars, b.name.size ≤ 9223372036854775807) (hz' : ∀ b ∈ p, b.name.size ≤ 9223372036854775807) (hz2 : ∀ b ∈ q, b.name.size ≤ 9223372036854775807) :
    Calls Tryd.prog 7 #[sa, sb, sc] w fun e w' => e = .returned (.bool true) ∧ Below w.heap.size w w' := by
  have cP := fun X (h1 : BIn X vars sa) (h2 : BIn X p sb) (hX : VEnv X) => vput_any vars p sa sb X h1 h2 hX.tabs (by omega) (by omega) hz hz'
  have HA := hid ha
  have HB := hid hb
  have HC := hid hc
  have HE := hid hE
  rcases put_cases vars p with ⟨e1, e2⟩ | ⟨h1, h2, hf, e⟩
  · obtain ⟨⟨l, r⟩, hR⟩ : ∃ R, put vars p = R := ⟨_, rfl⟩
    rw [hR] at e1 e2 cP
    simp only at e1 e2
    subst e1
    have t0 : (r != 0) = true := by rw [bne_iff_ne]; exact e2
    have cQ := fun so X (h1 : BIn X [] so) (h2 : BIn X q sc) (hX : VEnv X) => vput_any [] q so sc X h1 h2 hX.tabs (by simp) (by omega) (by simp) hz2
    obtain ⟨⟨l2, r2⟩, hR2⟩ : ∃ R, put [] q = R := ⟨_, rfl⟩
    rw [hR2] at cQ
    clear e2 hR hR2 ha hb hc hE hz hz' hz2
    go_enter Tryd.func7, Tryd.ntmps7
    go_wp2_with fail
    refine (works_any _ HE.out).mono ?_
    rintro e w1 ⟨rfl, b1⟩
    go_wp2_with fail
    refine (cP _ (HA.out.below b1) (HB.out.below b1) (HE.out.below b1)).mono ?_
    rintro e w2 ⟨v, rfl, O2, b2⟩
    have B2 := hid (b1.trans (b2.mono b1.size))
    have I2 := hid O2.is
    clear O2 b2 b1 cP
    simp only
    go_wp2_with fail
    refine (cQ _ _ I2.out (HC.out.below B2.out) (HE.out.below B2.out)).mono ?_
    rintro e w3 ⟨v', rfl, O3, b3⟩
    have B3 := hid (B2.out.trans (b3.mono B2.out.size))
    clear O3 b3 cQ B2 I2
    simp only
    go_wp2_with fail
    go_ret
    exact ⟨rfl, B3.out⟩
  · rw [e] at cP
    have hv := ((checkB_zero vars).1 h1).2
    have hck := checkB_upd h1 h2
    have hsz := upd_size hz hz'
    have hln : (vars.map (upd p)).length = vars.length := List.length_map _
    have hboth := fun h3 hg => put_both (q := q) h1 h2 h3 hf hg
    obtain ⟨out, ho⟩ : ∃ out, vars.map (upd p) = out := ⟨_, rfl⟩
    rw [ho] at cP hck hsz hln hboth
    have cQ := fun so X (h1 : BIn X out so) (h2 : BIn X q sc) (hX : VEnv X) => vput_any out q so sc X h1 h2 hX.tabs (by omega) (by omega) hsz hz2
    clear ho e
    rcases put_cases out q with ⟨e1, e2⟩ | ⟨h3, h4, hg, e⟩
    · obtain ⟨⟨l, r⟩, hR⟩ : ∃ R, put out q = R := ⟨_, rfl⟩
      rw [hR] at e1 e2 cQ
      simp only at e1 e2
      subst e1
      have t0 : (r != 0) = true := by rw [bne_iff_ne]; exact e2
      clear e2 hR ha hb hc hE hz hz' hz2 hboth hsz hck hv h1 h2 hf
      go_enter Tryd.func7, Tryd.ntmps7
      go_wp2_with fail
      refine (works_any _ HE.out).mono ?_
      rintro e w1 ⟨rfl, b1⟩
      go_wp2_with fail
      refine (cP _ (HA.out.below b1) (HB.out.below b1) (HE.out.below b1)).mono ?_
      rintro e w2 ⟨v, rfl, O2, b2⟩
      have B2 := hid (b1.trans (b2.mono b1.size))
      have I2 := hid O2.is
      clear O2 b2 b1 cP
      simp only
      go_wp2_with fail
      refine (cQ _ _ I2.out (HC.out.below B2.out) (HE.out.below B2.out)).mono ?_
      rintro e w3 ⟨v', rfl, O3, b3⟩
      have B3 := hid (B2.out.trans (b3.mono B2.out.size))
      clear O3 b3 cQ B2 I2
      simp only
      go_wp2_with fail
      go_ret
      exact ⟨rfl, B3.out⟩
    · rw [e] at cQ
      have hbb := hboth h4 hg
      have hzb := lone_in (p := p) (q := q) hz' hz2
      have hll := lone_size p q
      have hln2 : (out.map (upd q)).length = vars.length := by rw [List.length_map]; exact hln
      obtain ⟨fin, hfi⟩ : ∃ l, out.map (upd q) = l := ⟨_, rfl⟩
      rw [hfi] at cQ hbb hln2
      have cW := fun so X (h1 : BIn X vars sa) (h2 : BIn X (V.lone p q ++ q) so) (hX : VEnv X) => vput_any vars (V.lone p q ++ q) sa so X h1 h2 hX.tabs (by omega) (by rw [List.length_append]; omega) hz hzb
      rw [hbb] at cW
      have cS := fun so so' X (h1 : BIn X fin so) (h2 : BIn X fin so') => lsame_yes fin so so' X h1 h2 (by omega)
      obtain ⟨n, hn⟩ : ∃ n, p.length = n := ⟨_, rfl⟩
      obtain ⟨xb, cb, hsb⟩ := hb.shape
      rw [hn] at hsb
      subst hsb
      have HN := hid hn
      have HLQ := hid hl2
      have hl3 : n ≤ 1048576 := by omega
      clear e hfi hbb hzb hll hln2 hboth hsz hck hv h1 h2 h3 h4 hf hg hn hln ha hb hc hE hz hz' hz2 hl hl' hl2
      go_enter Tryd.func7, Tryd.ntmps7
      go_wp2_with fail
      refine (works_any _ HE.out).mono ?_
      rintro e w1 ⟨rfl, b1⟩
      go_wp2_with fail
      refine (cP _ (HA.out.below b1) (HB.out.below b1) (HE.out.below b1)).mono ?_
      rintro e w2 ⟨v, rfl, O2, b2⟩
      have B2 := hid (b1.trans (b2.mono b1.size))
      have I2 := hid O2.is
      clear O2 b2 b1 cP
      simp only
      go_wp2_with fail
      refine (cQ _ _ I2.out (HC.out.below B2.out) (HE.out.below B2.out)).mono ?_
      rintro e u ⟨v', rfl, O3, b3⟩
      have BU := hid (B2.out.trans (b3.mono B2.out.size))
      have IU := hid O3.is
      have HAU := hid (HA.out.below BU.out)
      have HBU := hid (HB.out.below BU.out)
      have HCU := hid (HC.out.below BU.out)
      have HEU := hid (HE.out.below BU.out)
      clear O3 b3 cQ B2 I2 HA HB HC HE
      simp only
      go_wp2_with fail
      go_loopw [11, 12] (fun s i wr => ∃ (k : Nat), k ≤ n ∧ i = .int .i64 k ∧ Hid (BOwn u.heap.size (V.lone (p.take k) q) s wr) ∧ Hid (Below u.heap.size u wr)) (fun _ i _ => n - (intOf i).toNat)
      case atStart => exact ⟨0, by omega, rfl, BOwn.nil _ _, Below.refl _ _⟩
      case round =>
        obtain ⟨k, hk, rfl, hr, hb⟩ := hrel
        by_cases hlt : k < n
        · have hl0 : decide ((k : Int) < (n : Int)) = true := by simp; omega
          have hkp : k < p.length := by have := HN.out; omega
          obtain ⟨b, o, _, hsv, hbl, c0, c1, c2, c3, c4⟩ := HBU.out.cells hkp
          rw [HN.out] at hsv
          simp only [Value.slice.injEq, true_and] at hsv
          obtain ⟨rfl, rfl⟩ := hsv
          have hk0 : (0 : Int) ≤ (k : Int) := by omega
          have hk1 : (k : Int) < (n : Int) := by omega
          have htk : p.take (k + 1) = p.take k ++ [p[k]] := List.take_succ_eq_append_getElem hkp
          have hlk := lone_size (p.take k) q
          rw [List.length_take, Nat.min_eq_left (by omega)] at hlk
          obtain ⟨y, hy⟩ : ∃ y, p[k] = y := ⟨_, rfl⟩
          rw [hy] at c0 c1 c2 c3 c4 htk
          obtain ⟨x, kk, nn, bb, ss⟩ := y
          simp only at c0 c1 c2 c3 c4
          have c0r := (hb.out.cell (p := ⟨b, _, none⟩) hbl).trans c0
          obtain ⟨⟨⟨k2, n2, b2, s2⟩, z⟩, hF⟩ : ∃ R, findV q x.data.toList = R := ⟨_, rfl⟩
          have hnx : V.lone (p.take (k + 1)) q = V.lone (p.take k) q ++ if z then [] else [⟨x, ⟨kk, nn, bb, ss⟩⟩] := by
            rw [htk, lone_snoc, findV_none]
            show _ ++ (if (!(findV q x.data.toList).2) = true then _ else _) = _
            rw [hF]
            cases z <;> rfl
          have cF := fun X (h : BIn X q sc) => find_is (nm := x) h (by have := HLQ.out; omega) hF
          have HNX := hid (p := V.lone (p.take (k + 1)) q = _) hnx
          have hsz := hb.out.size
          have HLK := hid (p := (V.lone (p.take k) q).length ≤ k) hlk
          clear hF htk hy hkp hnx hlk
          go_wp2_with fail
          refine (cF _ (HCU.out.below hb.out)).mono ?_
          rintro e w5 ⟨rfl, b5⟩
          have B5 := hb.out.trans (b5.mono hsz)
          have R5 := hr.out.below b5
          clear cF b5 c0r
          go_upto_region 12 with fail
          have B6 := hid (B5.alloc B5.size (.cells #[.int .u8 k2, .int .i64 n2, .bool b2, .string s2] 23))
          have R6 := hid (World.ownsRow.alloc R5 (.cells #[.int .u8 k2, .int .i64 n2, .bool b2, .string s2] 23))
          clear B5 R5 hr hb
          generalize World.alloc w5 _ = w6 at *
          cases z
          · rw [← B6.out.cell (p := ⟨b, _, none⟩) hbl] at c0 c1 c2 c3 c4
            have h6 := B6.out.size
            have hg := heap_alloc_new w6 (.cells #[.string x, .int .u8 kk, .int .i64 nn, .bool bb, .string ss] 43)
            have H1 := hid (BIn_one _ ⟨x, ⟨kk, nn, bb, ss⟩⟩ w6.heap.size hg)
            have R7 := hid (World.ownsRow.alloc R6.out (.cells #[.string x, .int .u8 kk, .int .i64 nn, .bool bb, .string ss] 43))
            clear hg
            go_wp2_with (at_builtin; refine wpList_app_binds rfl _ _ rfl u.heap.size (V.lone (p.take k) q) [⟨x, ⟨kk, nn, bb, ss⟩⟩] _ _ rfl R7.out rfl H1.out (by simp only [List.length_cons, List.length_nil]; have := HLK.out; omega) (by simp; omega) ?_; intro s' w8 hown hgrow)
            have R8 : Hid (BOwn u.heap.size (V.lone (p.take (k + 1)) q) s' w8) := by
              show BOwn _ _ _ _
              rw [HNX.out]; exact hown
            have B8 := hid ((B6.out.alloc h6 (.cells #[.string x, .int .u8 kk, .int .i64 nn, .bool bb, .string ss] 43)).grown hgrow (by simp; omega) (fun g hq => (World.ownsRow.lt R6.out g hq).1))
            clear hown hgrow
            go_wp2_with fail
            go_roundw
            case rel => exact ⟨k + 1, by omega, by go_num, R8, B8⟩
            case measure => simp [intOf]; omega
          · have R8 : Hid (BOwn u.heap.size (V.lone (p.take (k + 1)) q) u11 w6) := by
              show BOwn _ _ _ _
              rw [HNX.out]
              rw [if_pos rfl, List.append_nil]
              exact R6.out
            go_wp2_with fail
            go_roundw
            case rel => exact ⟨k + 1, by omega, by go_num, R8, B6⟩
            case measure => simp [intOf]; omega
        · have hl0 : decide ((k : Int) < (n : Int)) = false := by simp; omega
          have hfull : p.take k = p := List.take_of_length_le (by have := HN.out; omega)
          have hr2 := hr.out
          rw [hfull] at hr2
          have HR := hid hr2
          have hlk := lone_size p q
          have HLK := hid (p := (V.lone p q).length ≤ p.length) hlk
          have hsz := hb.out.size
          clear hr hr2 hfull hlk
          go_wp2_with (at_builtin; refine wpList_app_binds rfl _ _ rfl u.heap.size (V.lone p q) q _ _ rfl HR.out rfl (HCU.out.below hb.out) (by have := HLK.out; have := HLQ.out; have := HN.out; omega) hsz ?_; intro s' w8 hown hgrow)
          have B8 := hid (hb.out.grown hgrow hsz (fun g hq => (World.ownsRow.lt HR.out g hq).1))
          have I8 := hid hown.is
          clear hown hgrow
          go_wp2_with fail
          refine (cW _ _ (HAU.out.below B8.out) I8.out (HEU.out.below B8.out)).mono ?_
          rintro e w9 ⟨s9, rfl, O9, b9⟩
          have B9 := B8.out.trans (b9.mono B8.out.size)
          have I9 := O9.is
          have cS9 := cS _ _ w9 (IU.out.below B9) I9
          have HB9 := hid B9
          clear O9 b9 B9 I9 cW cS
          simp only
          go_wp2_with fail
          refine cS9.mono ?_
          rintro e w10 ⟨rfl, b10⟩
          have B10 := hid (BU.out.trans ((HB9.out.trans (b10.mono HB9.out.size)).mono BU.out.size))
          clear b10 cS9
          go_wp2_with fail
          go_ret
          exact ⟨rfl, B10.out⟩
theorem two_law (l0 : List Bind) (v0 : Value) (l1 : List Bind) (v1 : Value) (l2 : List Bind) (v2 : Value) (w : World) (i0 : BIn w l0 v0) (m0 : ∀ q ∈ l0, q.may) (_ : l0.length * 56 ≤ 140737488351232) (i1 : BIn w l1 v1) (m1 : ∀ q ∈ l1, q.may) (_ : l1.length * 56 ≤ 140737488351232)
    (i2 : BIn w l2 v2) (m2 : ∀ q ∈ l2, q.may) (_ : l2.length * 56 ≤ 140737488351232) (hE : VEnv w) (hc : l0.length + l1.length + l2.length ≤ 1048576) :
    Calls Tryd.prog 7 #[v0, v1, v2] w fun e w' => e = .returned (.bool true) ∧ Below w.heap.size w w' :=
  two_walk l0 l1 l2 v0 v1 v2 w i0 i1 i2 hE (by omega) (by omega) (by omega) (fun b hb => by have := (m0 b hb).1; unfold maxLen at this; omega) (fun b hb => by have := (m1 b hb).1; unfold maxLen at this; omega) (fun b hb => by have := (m2 b hb).1; unfold maxLen at this; omega)
end Go.Proofs.YtohdifffdgoaaaaDoor
