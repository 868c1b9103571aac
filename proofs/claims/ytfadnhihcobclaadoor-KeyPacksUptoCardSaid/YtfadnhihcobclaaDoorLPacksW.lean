/- The walk of KeyPacks. -/
import Derived.Test.YtfadnhihcobclaaDoorKRefUn
import Derived.Test.YtfadnhihcobclaaDoorKRefPack
import Derived.Test.YtfadnhihcobclaaDoorKRefAfter
import Derived.Test.YtfadnhihcobclaaDoorKRefCmp
import Derived.Test.YtfadnhihcobclaaDoorKCmpW
import Derived.Test.YtfadnhihcobclaaDoorKSame
import Derived.Test.YtfadnhihcobclaaDoorKSmall
import Derived.Test.YtfadnhihcobclaaDoorKAwake
import Derived.Test.YtfadnhihcobclaaDoorKNames
import Derived.Test.YtfadnhihcobclaaDoorKArg
import Derived.Laws.OwnMore
namespace Go.Proofs.YtfadnhihcobclaaDoor
open Go.RowKit
open Go.Lib (hid)
open K
theorem packs_own {B : Nat} {ps : List Part} {v : Value} {w : World} (h : POwn B ps v w) (hp : ∀ p ∈ ps, p.say.size ≤ 2000000 ∧ -9223372036854775808 ≤ p.n ∧ p.n ≤ 9223372036854775807) (hM : Max w) (hl : ps.length ≤ 1000000) :
    Calls Tryd.prog 14 #[v] w fun e w' => e = .returned (.tuple #[.string ⟨(K.pack ps).1.toArray⟩, .int .i64 (K.pack ps).2]) ∧ Below w.heap.size w w' := by
  have hc := fun g (hg : v.ownBlock = some g) => World.ownsRow.cells h hg
  rcases h.2 with ⟨rfl, h0⟩ | ⟨g, cap, cur, rfl, _⟩
  · obtain rfl := List.eq_nil_of_length_eq_zero h0
    exact pack_nil w
  · refine pack_any g ps.length cap ps rfl hl w (fun j u hj => ?_) hp hM
    have e : (⟨g, 0, none⟩ : Addr).add j = ⟨g, j, none⟩ := by cases j <;> simp [Addr.add]
    rw [← e]; exact hc g rfl j u hj
theorem res_short (U : Option (List Part)) : (resOf U).1.length ≤ 16 := by
  unfold resOf
  cases U with
  | none => simp
  | some p =>
    simp only
    split
    · simp
    · simp only; omega
/-- what the loop over x keeps -/
structure XW (B1 B2 B3 k : Nat) (R : List Part) (x y z : Value) (w r : World) : Prop where
  hb : Below w.heap.size w r
  x : ∃ xs, World.ownsRow r B1 26 3 x k xs
  y : QOwn B2 R y r
  z : POwn B3 R z r
theorem XW.store {B1 B2 B3 k g cap : Nat} {R : List Part} {y z : Value} {w r : World} (h : XW B1 B2 B3 k R (.slice (some ⟨g, 0, none⟩) k cap) y z w r) (h1 : w.heap.size ≤ B1) (h2 : g < B2) (h3 : g < B3) (j : Nat) (u : Value) :
    XW B1 B2 B3 k R (.slice (some ⟨g, 0, none⟩) k cap) y z w (r.setCell ⟨g, j, none⟩ u) := by
  obtain ⟨xs, hx⟩ := h.x
  have hs := World.ownsRow.stored hx j u
  have hg := (World.ownsRow.lt hx g rfl).1
  refine ⟨h.hb.setCell (p := ⟨g, j, none⟩) (by show _ ≤ g; omega) u, ⟨_, hs.1⟩, ?_, ?_⟩
  · refine World.ownsRow.kept h.y hs.2 ?_
    cases hv : y.ownBlock with
    | none => exact Or.inl rfl
    | some q => exact Or.inr (fun e => by have := (World.ownsRow.lt h.y q hv).1; have := Option.some.inj e; omega)
  · refine World.ownsRow.kept h.z hs.2 ?_
    cases hv : z.ownBlock with
    | none => exact Or.inl rfl
    | some q => exact Or.inr (fun e => by have := (World.ownsRow.lt h.z q hv).1; have := Option.some.inj e; omega)
theorem XW.at {B1 B2 B3 k g cap : Nat} {R : List Part} {y z : Value} {w r : World} (h : XW B1 B2 B3 k R (.slice (some ⟨g, 0, none⟩) k cap) y z w r) (i : Nat) (hi : i < k) :
    (∃ v, r.cell? ⟨g, i * 3 + 1, none⟩ = some v) ∧ r.frozen? ⟨g, i * 3 + 1, none⟩ = false := by
  obtain ⟨xs, hx⟩ := h.x
  refine ⟨?_, World.ownsRow.frozenAt hx _⟩
  have hl := hx.1
  have := World.ownsRow.cellAt hx (i * 3 + 1) (by omega)
  rw [this]
  exact ⟨_, List.getElem?_eq_getElem (by omega)⟩

set_option maxRecDepth 100000 in
set_option maxHeartbeats 4000000 in
theorem packs_long (n m : Nat) (xa xb : Option Addr) (c1 c2 : Nat) (s : ByteArray) (w : World) (hX : Max w) (h : 100 < n ∨ 100 < m ∨ 20000 < s.size) :
    Calls Tryd.prog 7 #[.slice xa n c1, .slice xb m c2, .string s] w fun e w' => e = .returned (.bool true) ∧ Below w.heap.size w w' := by
  have cA := awake_any w hX
  by_cases h1 : 100 < n
  · have t0 : decide ((100 : Int) < (n : Int)) = true := by simp; omega
    clear h
    go_enter Tryd.func7, Tryd.ntmps7
    go_wp2_with fail
    refine cA.mono ?_
    rintro e w1 ⟨rfl, b1⟩
    go_wp2_with fail
    go_ret
    exact ⟨rfl, b1⟩
  · have t0 : decide ((100 : Int) < (n : Int)) = false := by simp; omega
    by_cases h2 : 100 < m
    · have t1 : decide ((100 : Int) < (m : Int)) = true := by simp; omega
      clear h
      go_enter Tryd.func7, Tryd.ntmps7
      go_wp2_with fail
      refine cA.mono ?_
      rintro e w1 ⟨rfl, b1⟩
      go_wp2_with fail
      go_ret
      exact ⟨rfl, b1⟩
    · have t1 : decide ((100 : Int) < (m : Int)) = false := by simp; omega
      have t2 : decide ((20000 : Int) < (s.size : Int)) = true := by simp; omega
      clear h
      go_enter Tryd.func7, Tryd.ntmps7
      go_wp2_with fail
      refine cA.mono ?_
      rintro e w1 ⟨rfl, b1⟩
      go_wp2_with fail
      go_ret
      exact ⟨rfl, b1⟩

set_option maxRecDepth 100000 in
set_option maxHeartbeats 8000000 in
theorem packs_walk (ps qs : List Part) (sa sb : Value) (s : ByteArray) (w : World) (ha : PIn w ps sa) (hb : PIn w qs sb) (hl : ps.length ≤ 100) (hl' : qs.length ≤ 100) (hs : s.size ≤ 20000)
    (hps : ∀ p ∈ ps, p.say.size ≤ 2000000 ∧ -9223372036854775808 ≤ p.n ∧ p.n ≤ 9223372036854775807) (hqs : ∀ p ∈ qs, p.say.size ≤ 2000000 ∧ -9223372036854775808 ≤ p.n ∧ p.n ≤ 9223372036854775807) (hX : Max w) :
    Calls Tryd.prog 7 #[sa, sb, .string s] w fun e w' => e = .returned (.bool true) ∧ Below w.heap.size w w' := by
  obtain ⟨n, hn⟩ : ∃ n, ps.length = n := ⟨_, rfl⟩
  obtain ⟨m, hm⟩ : ∃ m, qs.length = m := ⟨_, rfl⟩
  obtain ⟨xa, c1, hsa⟩ := ha.shape
  obtain ⟨xb, c2, hsb⟩ := hb.shape
  rw [hn] at hsa hl
  rw [hm] at hsb hl'
  subst hsa hsb
  have HA := hid ha
  have HB := hid hb
  have HN := hid hn
  have HM := hid hm
  have HX := hid hX
  have HPS := hid hps
  have HQS := hid hqs
  clear ha hb hn hm hX hps hqs
  have t0 : decide ((100 : Int) < (n : Int)) = false := by simp; omega
  have t1 : decide ((100 : Int) < (m : Int)) = false := by simp; omega
  have t2 : decide ((20000 : Int) < (s.size : Int)) = false := by simp; omega
  obtain ⟨⟨S, e1⟩, hS⟩ : ∃ R, K.pack ps = R := ⟨_, rfl⟩
  obtain ⟨d1, hd1⟩ : ∃ d, cmpK ps qs = d := ⟨_, rfl⟩
  obtain ⟨d2, hd2⟩ : ∃ d, cmpK qs ps = d := ⟨_, rfl⟩
  have hshort := res_short (unpackF s.data.toList.length s.data.toList)
  obtain ⟨⟨R, e2⟩, hR⟩ : ∃ R, unpack s.data.toList = R := ⟨_, rfl⟩
  rw [show resOf (unpackF s.data.toList.length s.data.toList) = (R, e2) from hR] at hshort
  simp only at hshort
  have cU := fun X => unpack_any s X (by omega)
  have cV := fun X => refUnpack_any s X (by omega)
  rw [hR] at cU cV
  have cF := fun X => after_any s X (by omega)
  have cG := fun X => refAfter_any s X (by omega)
  obtain ⟨T, hT⟩ : ∃ T, K.afterL s.data.toList = T := ⟨_, rfl⟩
  rw [hT] at cF cG
  have HS := hid hS
  have HD1 := hid hd1
  have HD2 := hid hd2
  have HSH := hid hshort
  clear hS hd1 hd2 hR hT hshort
  have hne0 : ((⟨S.toArray⟩ : ByteArray).toList != (⟨S.toArray⟩ : ByteArray).toList) = false := by simp
  have hne1 : (e1 != e1) = false := by simp
  have hne2 : (e2 != e2) = false := by simp
  have hne3 : (d1 != d1) = false := by simp
  have hne4 : (d2 != d2) = false := by simp
  go_enter Tryd.func7, Tryd.ntmps7
  go_wp2_with fail
  refine (theirs_any ps _ _ HA.out (by have := HN.out; omega)).mono ?_
  rintro e w1 ⟨va, rfl, o1, b1⟩
  have HB1 := hid (HB.out.below b1)
  have O1 := hid o1
  have B1 := hid b1
  clear o1 b1
  go_wp2_with fail
  refine (theirs_any qs _ _ HB1.out (by have := HM.out; omega)).mono ?_
  rintro e u ⟨vb, rfl, o2, b2⟩
  have OA := hid (O1.out.below b2)
  have OB := hid o2
  have BU := hid (B1.out.trans (b2.mono B1.out.size))
  have HAU := hid (HA.out.below BU.out)
  have HBU := hid (HB.out.below BU.out)
  have HXU := hid (HX.out.below BU.out)
  clear o2 b2 HB1 O1 B1 HA HB HX t0 t1 t2
  have cP := packs_own OA.out HPS.out HXU.out (by have := HN.out; omega)
  rw [HS.out] at cP
  go_wp2_with fail
  refine cP.mono ?_
  rintro e w3 ⟨rfl, b3⟩
  have B3 := hid b3
  clear cP b3
  have cQ := refPack_any ps _ w3 (HAU.out.below B3.out) (by have := HN.out; omega) HPS.out
  rw [HS.out] at cQ
  simp only
  go_wp2_with fail
  refine cQ.mono ?_
  rintro e w4 ⟨rfl, b4⟩
  have B4 := hid (B3.out.trans (b4.mono B3.out.size))
  clear cQ b4 B3
  simp only
  go_wp2_with fail
  refine (parts_same ps _ _ w4 ((OA.out.below B4.out).is) (HAU.out.below B4.out) (by have := HN.out; omega)).mono ?_
  rintro e w5 ⟨rfl, b5⟩
  have B5 := hid (B4.out.trans (b5.mono B4.out.size))
  clear b5 B4
  go_wp2_with fail
  have cK := keyCmp_any ps qs _ _ w5 ((OA.out.below B5.out).is) ((OB.out.below B5.out).is) (by have := HN.out; omega)
  rw [HD1.out] at cK
  refine (cK).mono ?_
  rintro e w6 ⟨rfl, b6⟩
  have B6 := hid (B5.out.trans (b6.mono B5.out.size))
  clear b6 B5
  clear cK
  go_wp2_with fail
  have cK := refCmpK_any ps qs _ _ w6 (HAU.out.below B6.out) (HBU.out.below B6.out) (by have := HN.out; omega) (by have := HM.out; omega)
  rw [HD1.out] at cK
  refine (cK).mono ?_
  rintro e w7 ⟨rfl, b7⟩
  have B7 := hid (B6.out.trans (b7.mono B6.out.size))
  clear b7 B6
  clear cK
  go_wp2_with fail
  have cK := keyCmp_any qs ps _ _ w7 ((OB.out.below B7.out).is) ((OA.out.below B7.out).is) (by have := HM.out; omega)
  rw [HD2.out] at cK
  refine (cK).mono ?_
  rintro e w8 ⟨rfl, b8⟩
  have B8 := hid (B7.out.trans (b8.mono B7.out.size))
  clear b8 B7
  clear cK
  go_wp2_with fail
  have cK := refCmpK_any qs ps _ _ w8 (HBU.out.below B8.out) (HAU.out.below B8.out) (by have := HM.out; omega) (by have := HN.out; omega)
  rw [HD2.out] at cK
  refine (cK).mono ?_
  rintro e w9 ⟨rfl, b9⟩
  have B9 := hid (B8.out.trans (b9.mono B8.out.size))
  clear b9 B8
  clear cK
  go_wp2_with fail
  refine (cU _).mono ?_
  rintro e wx ⟨vx, rfl, ox, bx⟩
  have BX := hid (B9.out.trans (bx.mono B9.out.size))
  have OX := hid ox
  have hsx : u.heap.size ≤ w9.heap.size := B9.out.size
  clear bx ox B9
  simp only
  go_wp2_with fail
  refine (cV _).mono ?_
  rintro e wy ⟨vy, rfl, oy, bY⟩
  have BY := hid (BX.out.trans (bY.mono BX.out.size))
  have OXY := hid (POwn.below OX.out bY)
  have OY := hid oy
  have hxy := bY.size
  clear bY oy BX
  simp only
  go_wp2_with fail
  refine (cU _).mono ?_
  rintro e wz ⟨vz, rfl, oz, bz⟩
  have BZ := hid (BY.out.trans (bz.mono BY.out.size))
  have OXZ := hid (POwn.below OXY.out bz)
  have OYZ := hid (QOwn.below OY.out bz)
  have OZ := hid oz
  have hyz := bz.size
  clear bz oz BY OY OXY
  obtain ⟨k, hk⟩ : ∃ k, R.length = k := ⟨_, rfl⟩
  have hgx : ∀ g, vx.ownBlock = some g → g < wx.heap.size := fun g hg => (World.ownsRow.lt OX.out g hg).2
  have HK := hid hk
  have hk16 : k ≤ 16 := by have := HSH.out; omega
  clear hk OX
  simp only
  go_wp2_with fail
  refine (parts_same R _ _ wz (POwn.is OXZ.out) (QOwn.is OYZ.out) (by have := HK.out; omega)).mono ?_
  rintro e wp ⟨rfl, bp⟩
  have BP := hid (BZ.out.trans (bp.mono BZ.out.size))
  have hxw : Hid (XW w9.heap.size wx.heap.size wy.heap.size k R vx vy vz u wp) := by
    refine ⟨BP.out, ⟨rowOf R, ?_⟩, QOwn.below OYZ.out bp, POwn.below OZ.out bp⟩
    have := POwn.below OXZ.out bp
    unfold POwn at this
    rw [HK.out] at this
    exact this
  clear BZ bp OXZ OYZ OZ BP
  have hgx2 : ∀ g, vx.ownBlock = some g → g < wy.heap.size := fun g hg => by have := hgx g hg; omega
  obtain ⟨xs0, hx0⟩ := hxw.out.x
  have hform : vx = .slice none 0 0 ∧ k = 0 ∨ ∃ g cap, vx = .slice (some ⟨g, 0, none⟩) k cap := by
    rcases hx0.2 with ⟨h1, h2⟩ | ⟨g, cap, cur, h1, _⟩
    · exact Or.inl ⟨h1, h2⟩
    · exact Or.inr ⟨g, cap, h1⟩
  clear hx0
  rcases hform with ⟨rfl, rfl⟩ | ⟨g, cap, rfl⟩
  · go_wp2_with fail
    go_loopw [17] (fun i wr => i = .int .i64 0 ∧ Hid (XW w9.heap.size wx.heap.size wy.heap.size 0 R (.slice none 0 0) vy vz u wr)) (fun _ _ => 0)
    case atStart => exact ⟨rfl, hxw.out⟩
    case round =>
      obtain ⟨rfl, HW⟩ := hrel
      clear hxw
      go_wp2_with fail
      refine (parts_same R _ _ wr (POwn.is HW.out.z) (QOwn.is HW.out.y) (by have := HK.out; omega)).mono ?_
      rintro e w11 ⟨rfl, b11⟩
      have B11 := hid (HW.out.hb.trans (b11.mono HW.out.hb.size))
      clear b11
      go_wp2_with fail
      refine (cF _).mono ?_
      rintro e w12 ⟨rfl, b12⟩
      have B12 := hid (B11.out.trans (b12.mono B11.out.size))
      clear b12 B11
      go_wp2_with fail
      refine (cG _).mono ?_
      rintro e w13 ⟨rfl, b13⟩
      have B13 := hid (B12.out.trans (b13.mono B12.out.size))
      clear b13 B12
      go_wp2_with fail
      refine (awake_any _ (HXU.out.below B13.out)).mono ?_
      rintro e w14 ⟨rfl, b14⟩
      have B14 := hid (BU.out.trans ((B13.out.trans (b14.mono B13.out.size)).mono BU.out.size))
      clear b14 B13
      go_wp2_with fail
      go_ret
      exact ⟨rfl, B14.out⟩
  · have hg1 := hgx g rfl
    have hg2 := hgx2 g rfl
    clear hgx hgx2
    go_wp2_with fail
    go_loopw [17] (fun i wr => ∃ j : Nat, j ≤ k ∧ i = .int .i64 j ∧ Hid (XW w9.heap.size wx.heap.size wy.heap.size k R (.slice (some ⟨g, 0, none⟩) k cap) vy vz u wr)) (fun i _ => k - (intOf i).toNat)
    case atStart => exact ⟨0, by omega, rfl, hxw.out⟩
    case round =>
      obtain ⟨j, hj, rfl, HW⟩ := hrel
      clear hxw
      by_cases hjk : j < k
      · have hl0 : decide ((j : Int) < (k : Int)) = true := by simp; omega
        have hj0 : (0 : Int) ≤ (j : Int) := by omega
        have hj1 : (j : Int) < (k : Int) := by omega
        obtain ⟨⟨v0, a0⟩, f0⟩ := HW.out.at j hjk
        have HW2 := hid (HW.out.store hsx hg1 hg2 (j * 3 + 1) (.int .i64 99))
        go_wp2_with fail
        go_roundw
        case rel => exact ⟨j + 1, by omega, by go_num, HW2⟩
        case measure => simp [intOf]; omega
      · have hl0 : decide ((j : Int) < (k : Int)) = false := by simp; omega
        go_wp2_with fail
        refine (parts_same R _ _ wr (POwn.is HW.out.z) (QOwn.is HW.out.y) (by have := HK.out; omega)).mono ?_
        rintro e w11 ⟨rfl, b11⟩
        have B11 := hid (HW.out.hb.trans (b11.mono HW.out.hb.size))
        clear b11
        go_wp2_with fail
        refine (cF _).mono ?_
        rintro e w12 ⟨rfl, b12⟩
        have B12 := hid (B11.out.trans (b12.mono B11.out.size))
        clear b12 B11
        go_wp2_with fail
        refine (cG _).mono ?_
        rintro e w13 ⟨rfl, b13⟩
        have B13 := hid (B12.out.trans (b13.mono B12.out.size))
        clear b13 B12
        go_wp2_with fail
        refine (awake_any _ (HXU.out.below B13.out)).mono ?_
        rintro e w14 ⟨rfl, b14⟩
        have B14 := hid (BU.out.trans ((B13.out.trans (b14.mono B13.out.size)).mono BU.out.size))
        clear b14 B13
        go_wp2_with fail
        go_ret
        exact ⟨rfl, B14.out⟩
theorem packs_law (ps : List Part) (sa : Value) (qs : List Part) (sb : Value) (s : ByteArray) (w : World) (ha : PIn w ps sa) (mp : ∀ p ∈ ps, p.may) (hb : PIn w qs sb) (mq : ∀ p ∈ qs, p.may) (hs : s.size ≤ 140737488351232) (hX : Max w) (hL : s.size + K.letters ps + K.letters qs ≤ 1048576) :
    Calls Tryd.prog 7 #[sa, sb, .string s] w fun e w' => e = .returned (.bool true) ∧ Below w.heap.size w w' := by
  by_cases h : 100 < ps.length ∨ 100 < qs.length ∨ 20000 < s.size
  · obtain ⟨xa, c1, hsa⟩ := ha.shape
    obtain ⟨xb, c2, hsb⟩ := hb.shape
    rw [hsa, hsb]
    exact packs_long ps.length qs.length xa xb c1 c2 s w hX h
  · refine packs_walk ps qs sa sb s w ha hb (by omega) (by omega) (by omega) (fun p hp => ⟨?_, mp p hp⟩) (fun p hp => ⟨?_, mq p hp⟩) hX
    · have := K.letters_mem ps p hp; omega
    · have := K.letters_mem qs p hp; omega
end Go.Proofs.YtfadnhihcobclaaDoor
