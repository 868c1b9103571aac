/- The walk of KeyOrder. -/
import Derived.Test.YtfadnhihcobclaaDoorKTheirs
import Derived.Test.YtfadnhihcobclaaDoorKCmpW
import Derived.Test.YtfadnhihcobclaaDoorKPlainO
import Derived.Test.YtfadnhihcobclaaDoorKAfter
import Derived.Test.YtfadnhihcobclaaDoorKAwake
import Derived.Test.YtfadnhihcobclaaDoorKNames
import Derived.Test.YtfadnhihcobclaaDoorKArg
import Derived.WalkLawsBesides
import Derived.Laws.Cover1
namespace Go.Proofs.YtfadnhihcobclaaDoor
open Go.RowKit
open Go.Lib (hid)
open K
theorem K.POwn.form {B : Nat} {ps : List Part} {v : Value} {w : World} (h : POwn B ps v w) : (v = .slice none 0 0 ∧ ps = []) ∨ ∃ g cap, v = .slice (some ⟨g, 0, none⟩) ps.length cap ∧ ps.length ≤ cap := by
  rcases h.2 with ⟨rfl, h0⟩ | ⟨g, cap, cur, rfl, _, _, hcap, _⟩
  · exact Or.inl ⟨rfl, List.eq_nil_of_length_eq_zero h0⟩
  · exact Or.inr ⟨g, cap, rfl, by first | exact hcap | omega⟩
theorem K.POwn.takeIn {B : Nat} {qs : List Part} {a : Option Addr} {m c n : Nat} {w : World} (h : POwn B qs (.slice a m c) w) (hn : n ≤ qs.length) : PIn w (qs.take n) (.slice a n c) := by
  rcases h.form with ⟨e, rfl⟩ | ⟨g, cap, e, hc⟩
  · simp only [Value.slice.injEq] at e
    obtain ⟨rfl, rfl, rfl⟩ := e
    obtain rfl : n = 0 := by simpa using hn
    exact Or.inl ⟨rfl, none, 0, rfl, fun _ => rfl⟩
  · simp only [Value.slice.injEq] at e
    obtain ⟨rfl, rfl, rfl⟩ := e
    exact PIn.take h.is n hn
theorem pack_own {B : Nat} {ps : List Part} {v : Value} {w : World} (h : POwn B ps v w) (hp : ∀ p ∈ ps, p.say.size ≤ 2000000 ∧ -9223372036854775808 ≤ p.n ∧ p.n ≤ 9223372036854775807) (hM : Max w) (hl : ps.length ≤ 1000000) :
    Calls Tryd.prog 14 #[v] w fun e w' => e = .returned (.tuple #[.string ⟨(K.pack ps).1.toArray⟩, .int .i64 (K.pack ps).2]) ∧ Below w.heap.size w w' := by
  have hc := fun g (hg : v.ownBlock = some g) => World.ownsRow.cells h hg
  rcases h.2 with ⟨rfl, h0⟩ | ⟨g, cap, cur, rfl, _⟩
  · obtain rfl := List.eq_nil_of_length_eq_zero h0
    exact pack_nil w
  · refine pack_any g ps.length cap ps rfl hl w (fun j u hj => ?_) hp hM
    have e : (⟨g, 0, none⟩ : Addr).add j = ⟨g, j, none⟩ := by cases j <;> simp [Addr.add]
    rw [← e]; exact hc g rfl j u hj

set_option maxRecDepth 100000 in
set_option maxHeartbeats 4000000 in
theorem order_err (ps qs : List Part) (sa sb : Value) (w : World) (ha : PIn w ps sa) (hb : PIn w qs sb) (hl : ps.length ≤ 100) (hl' : qs.length ≤ 100)
    (hps : ∀ p ∈ ps, p.say.size ≤ 2000000 ∧ -9223372036854775808 ≤ p.n ∧ p.n ≤ 9223372036854775807) (hqs : ∀ p ∈ qs, p.say.size ≤ 2000000 ∧ -9223372036854775808 ≤ p.n ∧ p.n ≤ 9223372036854775807) (hX : Max w) (S T : List UInt8 × Int) (hP : K.pack ps = S) (hQ : K.pack qs = T) (h : S.2 ≠ 0 ∨ T.2 ≠ 0) :
    Calls Tryd.prog 5 #[sa, sb] w fun e w' => e = .returned (.bool true) ∧ Below w.heap.size w w' := by
  obtain ⟨n, hn⟩ : ∃ n, ps.length = n := ⟨_, rfl⟩
  obtain ⟨m, hm⟩ : ∃ m, qs.length = m := ⟨_, rfl⟩
  obtain ⟨xa, c1, hsa⟩ := ha.shape
  obtain ⟨xb, c2, hsb⟩ := hb.shape
  rw [hn] at hsa hl
  rw [hm] at hsb hl'
  subst hsa hsb
  have HA := hid ha
  have HB := hid hb
  have HN := hid hn
  have HM := hid hm
  have HX := hid hX
  have HPS := hid hps
  have HQS := hid hqs
  have HP := hid hP
  have HQ := hid hQ
  obtain ⟨S, e⟩ := S
  obtain ⟨T, f⟩ := T
  clear ha hb hn hm hX hps hqs hP hQ
  have t0 : decide ((100 : Int) < (n : Int)) = false := by simp; omega
  have t1 : decide ((100 : Int) < (m : Int)) = false := by simp; omega
  by_cases he : e = 0
  · have t2 : (e != 0) = false := by simp [he]
    have t3 : (f != 0) = true := by rcases h with h | h; exact absurd he h; simpa using h
    clear h he
    go_enter Tryd.func5, Tryd.ntmps5
    go_wp2_with fail
    refine (awake_any _ HX.out).mono ?_
    rintro e w1 ⟨rfl, b1⟩
    have HA1 := hid (HA.out.below b1)
    have HB1 := hid (HB.out.below b1)
    have HX1 := hid (HX.out.below b1)
    have B1 := hid b1
    clear b1 HA HB HX
    go_wp2_with fail
    refine (theirs_any ps _ _ HA1.out (by have := HN.out; omega)).mono ?_
    rintro e w2 ⟨va, rfl, o2, b2⟩
    have OA := hid o2
    have HB2 := hid (HB1.out.below b2)
    have HX2 := hid (HX1.out.below b2)
    have B2 := hid (B1.out.trans (b2.mono B1.out.size))
    clear o2 b2 HA1 HB1 HX1 B1
    go_wp2_with fail
    refine (theirs_any qs _ _ HB2.out (by have := HM.out; omega)).mono ?_
    rintro e w3 ⟨vb, rfl, o3, b3⟩
    have OB := hid o3
    have OA3 := hid (OA.out.below b3)
    have HX3 := hid (HX2.out.below b3)
    have B3 := hid (B2.out.trans (b3.mono B2.out.size))
    clear o3 b3 OA HB2 HX2 B2
    have cP := pack_own OA3.out HPS.out HX3.out (by have := HN.out; omega)
    rw [HP.out] at cP
    go_wp2_with fail
    refine cP.mono ?_
    rintro e w4 ⟨rfl, b4⟩
    have OA4 := hid (OA3.out.below b4)
    have OB4 := hid (OB.out.below b4)
    have HX4 := hid (HX3.out.below b4)
    have B4 := hid (B3.out.trans (b4.mono B3.out.size))
    clear cP b4 OA3 OB HX3 B3
    have cQ := pack_own OB4.out HQS.out HX4.out (by have := HM.out; omega)
    rw [HQ.out] at cQ
    go_wp2_with fail
    refine cQ.mono ?_
    rintro e w5 ⟨rfl, b5⟩
    have OA5 := hid (OA4.out.below b5)
    have OB5 := hid (OB4.out.below b5)
    have B5 := hid (B4.out.trans (b5.mono B4.out.size))
    clear cQ b5 OA4 OB4 HX4 B4
    go_wp2_with fail
    go_ret
    exact ⟨rfl, B5.out⟩
  · have t2 : (e != 0) = true := by simp [he]
    clear h he
    go_enter Tryd.func5, Tryd.ntmps5
    go_wp2_with fail
    refine (awake_any _ HX.out).mono ?_
    rintro e w1 ⟨rfl, b1⟩
    have HA1 := hid (HA.out.below b1)
    have HB1 := hid (HB.out.below b1)
    have HX1 := hid (HX.out.below b1)
    have B1 := hid b1
    clear b1 HA HB HX
    go_wp2_with fail
    refine (theirs_any ps _ _ HA1.out (by have := HN.out; omega)).mono ?_
    rintro e w2 ⟨va, rfl, o2, b2⟩
    have OA := hid o2
    have HB2 := hid (HB1.out.below b2)
    have HX2 := hid (HX1.out.below b2)
    have B2 := hid (B1.out.trans (b2.mono B1.out.size))
    clear o2 b2 HA1 HB1 HX1 B1
    go_wp2_with fail
    refine (theirs_any qs _ _ HB2.out (by have := HM.out; omega)).mono ?_
    rintro e w3 ⟨vb, rfl, o3, b3⟩
    have OB := hid o3
    have OA3 := hid (OA.out.below b3)
    have HX3 := hid (HX2.out.below b3)
    have B3 := hid (B2.out.trans (b3.mono B2.out.size))
    clear o3 b3 OA HB2 HX2 B2
    have cP := pack_own OA3.out HPS.out HX3.out (by have := HN.out; omega)
    rw [HP.out] at cP
    go_wp2_with fail
    refine cP.mono ?_
    rintro e w4 ⟨rfl, b4⟩
    have OA4 := hid (OA3.out.below b4)
    have OB4 := hid (OB.out.below b4)
    have HX4 := hid (HX3.out.below b4)
    have B4 := hid (B3.out.trans (b4.mono B3.out.size))
    clear cP b4 OA3 OB HX3 B3
    have cQ := pack_own OB4.out HQS.out HX4.out (by have := HM.out; omega)
    rw [HQ.out] at cQ
    go_wp2_with fail
    refine cQ.mono ?_
    rintro e w5 ⟨rfl, b5⟩
    have OA5 := hid (OA4.out.below b5)
    have OB5 := hid (OB4.out.below b5)
    have B5 := hid (B4.out.trans (b5.mono B4.out.size))
    clear cQ b5 OA4 OB4 HX4 B4
    go_wp2_with fail
    go_ret
    exact ⟨rfl, B5.out⟩

set_option maxRecDepth 100000 in
set_option maxHeartbeats 8000000 in
theorem order_a (ps qs : List Part) (sa sb : Value) (w : World) (ha : PIn w ps sa) (hb : PIn w qs sb) (hl : ps.length ≤ 100) (hl' : qs.length ≤ 100)
    (hps : ∀ p ∈ ps, p.say.size ≤ 2000000 ∧ -9223372036854775808 ≤ p.n ∧ p.n ≤ 9223372036854775807) (hqs : ∀ p ∈ qs, p.say.size ≤ 2000000 ∧ -9223372036854775808 ≤ p.n ∧ p.n ≤ 9223372036854775807) (hX : Max w) (s t E : ByteArray) (c c' d : Int) (lt eq lts nm hd e0 l0 h : Bool) (hP : K.pack ps = (s.data.toList, 0)) (hQ : K.pack qs = (t.data.toList, 0)) (hE : afterL s.data.toList = E.data.toList)
    (hc : cmpK ps qs = c) (hc' : cmpK qs ps = c') (hd' : cmpK (qs.take ps.length) ps = d) (hb' : beginsL t.data.toList s.data.toList = h) (hss : s.size ≤ 4000000) (hts : t.size ≤ 1000000000)
    (g1 : Op.bytesLess s.toList t.toList = lt) (g2 : (s.toList == t.toList) = eq) (g3 : Op.bytesLess t.toList s.toList = lts) (g4 : decide (ps.length ≤ qs.length) = nm) (g5 : (d == 0) = hd) (g6 : E.toList.isEmpty = e0) (g7 : Op.bytesLess t.toList E.toList = l0) (hvals : c = -1 ∧ c' = 1 ∧ lt = true ∧ eq = false ∧ lts = false ∧ nm = true ∧ hd = true ∧ e0 = false ∧ l0 = true ∧ h = true) :
    Calls Tryd.prog 5 #[sa, sb] w fun e w' => e = .returned (.bool true) ∧ Below w.heap.size w w' := by
  obtain ⟨rfl, rfl, rfl, rfl, rfl, rfl, rfl, rfl, rfl, rfl⟩ := hvals
  obtain ⟨n, hn⟩ : ∃ n, ps.length = n := ⟨_, rfl⟩
  obtain ⟨m, hm⟩ : ∃ m, qs.length = m := ⟨_, rfl⟩
  obtain ⟨xa, c1, hsa⟩ := ha.shape
  obtain ⟨xb, c2, hsb⟩ := hb.shape
  rw [hn] at hsa hl
  rw [hm] at hsb hl'
  subst hsa hsb
  have HA := hid ha
  have HB := hid hb
  have HN := hid hn
  have HM := hid hm
  have HX := hid hX
  have HPS := hid hps
  have HQS := hid hqs
  have HG := hid (And.intro g5 (And.intro g6 g7))
  clear HG
  have HP := hid hP
  have HQ := hid hQ
  have HE := hid hE
  have HC := hid hc
  have HC' := hid hc'
  have HD := hid hd'
  have HBG := hid hb'
  rw [hn, hm] at g4
  clear ha hb hn hm hX hps hqs hP hQ hE hc hc' hd' hb'
  have t0 : decide ((100 : Int) < (n : Int)) = false := by simp; omega
  have t1 : decide ((100 : Int) < (m : Int)) = false := by simp; omega
  have t4 : decide ((n : Int) ≤ (m : Int)) = true := by simpa using g4
  go_enter Tryd.func5, Tryd.ntmps5
  go_wp2_with fail
  refine (awake_any _ HX.out).mono ?_
  rintro e w1 ⟨rfl, b1⟩
  have HA1 := hid (HA.out.below b1)
  have HB1 := hid (HB.out.below b1)
  have HX1 := hid (HX.out.below b1)
  have B1 := hid b1
  clear b1 HA HB HX
  go_wp2_with fail
  refine (theirs_any ps _ _ HA1.out (by have := HN.out; omega)).mono ?_
  rintro e w2 ⟨va, rfl, o2, b2⟩
  have OA := hid o2
  have HB2 := hid (HB1.out.below b2)
  have HX2 := hid (HX1.out.below b2)
  have B2 := hid (B1.out.trans (b2.mono B1.out.size))
  clear o2 b2 HA1 HB1 HX1 B1
  go_wp2_with fail
  refine (theirs_any qs _ _ HB2.out (by have := HM.out; omega)).mono ?_
  rintro e w3 ⟨vb, rfl, o3, b3⟩
  have OB := hid o3
  have OA3 := hid (OA.out.below b3)
  have HX3 := hid (HX2.out.below b3)
  have B3 := hid (B2.out.trans (b3.mono B2.out.size))
  clear o3 b3 OA HB2 HX2 B2
  have cP := pack_own OA3.out HPS.out HX3.out (by have := HN.out; omega)
  rw [HP.out] at cP
  simp only at cP
  go_wp2_with fail
  refine cP.mono ?_
  rintro e w4 ⟨rfl, b4⟩
  have OA4 := hid (OA3.out.below b4)
  have OB4 := hid (OB.out.below b4)
  have HX4 := hid (HX3.out.below b4)
  have B4 := hid (B3.out.trans (b4.mono B3.out.size))
  clear cP b4 OA3 OB HX3 B3
  have cQ := pack_own OB4.out HQS.out HX4.out (by have := HM.out; omega)
  rw [HQ.out] at cQ
  simp only at cQ
  go_wp2_with fail
  refine cQ.mono ?_
  rintro e w5 ⟨rfl, b5⟩
  have OA5 := hid (OA4.out.below b5)
  have OB5 := hid (OB4.out.below b5)
  have B5 := hid (B4.out.trans (b5.mono B4.out.size))
  clear cQ b5 OA4 OB4 HX4 B4
  have cC := keyCmp_any ps qs va vb _ OA5.out.is OB5.out.is (by have := HN.out; omega)
  rw [HC.out] at cC
  obtain ⟨va', ca, hva⟩ := OA5.out.is.shape
  rw [HN.out] at hva
  subst hva
  obtain ⟨vb', cb, hvb⟩ := OB5.out.is.shape
  rw [HM.out] at hvb
  subst hvb
  go_wp2_with fail
  refine cC.mono ?_
  rintro e w6 ⟨rfl, b6⟩
  have OA6 := hid (OA5.out.below b6)
  have OB6 := hid (OB5.out.below b6)
  have B6 := hid (B5.out.trans (b6.mono B5.out.size))
  clear cC b6 OA5 OB5 B5
  have cC := keyCmp_any qs ps _ _ _ OB6.out.is OA6.out.is (by have := HM.out; omega)
  rw [HC'.out] at cC
  go_wp2_with fail
  refine cC.mono ?_
  rintro e w7 ⟨rfl, b7⟩
  have OA7 := hid (OA6.out.below b7)
  have OB7 := hid (OB6.out.below b7)
  have B7 := hid (B6.out.trans (b7.mono B6.out.size))
  clear cC b7 OA6 OB6 B6
  have hcb : m ≤ cb := by
    have := OB7.out.form
    rcases this with ⟨h, h0⟩ | ⟨g, c, h, h0⟩
    · have e := HM.out
      rw [h0] at e
      simp at e; omega
    · simp only [Value.slice.injEq] at h
      have := HM.out
      omega
  have hnm : n ≤ m := of_decide_eq_true g4
  have hnb : n ≤ cb := by omega
  have cC := keyCmp_any (qs.take n) ps _ _ _ (OB7.out.takeIn (by have := HM.out; omega)) OA7.out.is (by have := HM.out; simp; omega)
  have hD := HD.out
  rw [HN.out] at hD
  rw [hD] at cC
  clear hD
  go_wp2_with fail
  refine cC.mono ?_
  rintro e w8 ⟨rfl, b8⟩
  have B8 := hid (B7.out.trans (b8.mono B7.out.size))
  clear cC b8 OA7 OB7 B7
  have cA := fun X => after_any s X hss
  rw [HE.out] at cA
  go_wp2_with fail
  refine (cA _).mono ?_
  rintro e w9 ⟨rfl, b9⟩
  have B9 := hid (B8.out.trans (b9.mono B8.out.size))
  clear cA b9 B8
  have cG := fun X => begins_any t s X hts
  rw [HBG.out] at cG
  go_wp2_with fail
  refine (cG _).mono ?_
  rintro e w10 ⟨rfl, b10⟩
  have B10 := hid (B9.out.trans (b10.mono B9.out.size))
  clear cG b10 B9
  go_wp2_with fail
  go_ret
  exact ⟨rfl, B10.out⟩

set_option maxRecDepth 100000 in
set_option maxHeartbeats 8000000 in
theorem order_b (ps qs : List Part) (sa sb : Value) (w : World) (ha : PIn w ps sa) (hb : PIn w qs sb) (hl : ps.length ≤ 100) (hl' : qs.length ≤ 100)
    (hps : ∀ p ∈ ps, p.say.size ≤ 2000000 ∧ -9223372036854775808 ≤ p.n ∧ p.n ≤ 9223372036854775807) (hqs : ∀ p ∈ qs, p.say.size ≤ 2000000 ∧ -9223372036854775808 ≤ p.n ∧ p.n ≤ 9223372036854775807) (hX : Max w) (s t E : ByteArray) (c c' d : Int) (lt eq lts nm hd e0 l0 h : Bool) (hP : K.pack ps = (s.data.toList, 0)) (hQ : K.pack qs = (t.data.toList, 0)) (hE : afterL s.data.toList = E.data.toList)
    (hc : cmpK ps qs = c) (hc' : cmpK qs ps = c') (hd' : cmpK (qs.take ps.length) ps = d) (hb' : beginsL t.data.toList s.data.toList = h) (hss : s.size ≤ 4000000) (hts : t.size ≤ 1000000000)
    (g1 : Op.bytesLess s.toList t.toList = lt) (g2 : (s.toList == t.toList) = eq) (g3 : Op.bytesLess t.toList s.toList = lts) (g4 : decide (ps.length ≤ qs.length) = nm) (g5 : (d == 0) = hd) (g6 : E.toList.isEmpty = e0) (g7 : Op.bytesLess t.toList E.toList = l0) (hvals : c = -1 ∧ c' = 1 ∧ lt = true ∧ eq = false ∧ lts = false ∧ nm = true ∧ hd = true ∧ e0 = true ∧ h = true) :
    Calls Tryd.prog 5 #[sa, sb] w fun e w' => e = .returned (.bool true) ∧ Below w.heap.size w w' := by
  obtain ⟨rfl, rfl, rfl, rfl, rfl, rfl, rfl, rfl, rfl⟩ := hvals
  obtain ⟨n, hn⟩ : ∃ n, ps.length = n := ⟨_, rfl⟩
  obtain ⟨m, hm⟩ : ∃ m, qs.length = m := ⟨_, rfl⟩
  obtain ⟨xa, c1, hsa⟩ := ha.shape
  obtain ⟨xb, c2, hsb⟩ := hb.shape
  rw [hn] at hsa hl
  rw [hm] at hsb hl'
  subst hsa hsb
  have HA := hid ha
  have HB := hid hb
  have HN := hid hn
  have HM := hid hm
  have HX := hid hX
  have HPS := hid hps
  have HQS := hid hqs
  have HG := hid (And.intro g5 (And.intro g6 g7))
  clear HG
  have HP := hid hP
  have HQ := hid hQ
  have HE := hid hE
  have HC := hid hc
  have HC' := hid hc'
  have HD := hid hd'
  have HBG := hid hb'
  rw [hn, hm] at g4
  clear ha hb hn hm hX hps hqs hP hQ hE hc hc' hd' hb'
  have t0 : decide ((100 : Int) < (n : Int)) = false := by simp; omega
  have t1 : decide ((100 : Int) < (m : Int)) = false := by simp; omega
  have t4 : decide ((n : Int) ≤ (m : Int)) = true := by simpa using g4
  go_enter Tryd.func5, Tryd.ntmps5
  go_wp2_with fail
  refine (awake_any _ HX.out).mono ?_
  rintro e w1 ⟨rfl, b1⟩
  have HA1 := hid (HA.out.below b1)
  have HB1 := hid (HB.out.below b1)
  have HX1 := hid (HX.out.below b1)
  have B1 := hid b1
  clear b1 HA HB HX
  go_wp2_with fail
  refine (theirs_any ps _ _ HA1.out (by have := HN.out; omega)).mono ?_
  rintro e w2 ⟨va, rfl, o2, b2⟩
  have OA := hid o2
  have HB2 := hid (HB1.out.below b2)
  have HX2 := hid (HX1.out.below b2)
  have B2 := hid (B1.out.trans (b2.mono B1.out.size))
  clear o2 b2 HA1 HB1 HX1 B1
  go_wp2_with fail
  refine (theirs_any qs _ _ HB2.out (by have := HM.out; omega)).mono ?_
  rintro e w3 ⟨vb, rfl, o3, b3⟩
  have OB := hid o3
  have OA3 := hid (OA.out.below b3)
  have HX3 := hid (HX2.out.below b3)
  have B3 := hid (B2.out.trans (b3.mono B2.out.size))
  clear o3 b3 OA HB2 HX2 B2
  have cP := pack_own OA3.out HPS.out HX3.out (by have := HN.out; omega)
  rw [HP.out] at cP
  simp only at cP
  go_wp2_with fail
  refine cP.mono ?_
  rintro e w4 ⟨rfl, b4⟩
  have OA4 := hid (OA3.out.below b4)
  have OB4 := hid (OB.out.below b4)
  have HX4 := hid (HX3.out.below b4)
  have B4 := hid (B3.out.trans (b4.mono B3.out.size))
  clear cP b4 OA3 OB HX3 B3
  have cQ := pack_own OB4.out HQS.out HX4.out (by have := HM.out; omega)
  rw [HQ.out] at cQ
  simp only at cQ
  go_wp2_with fail
  refine cQ.mono ?_
  rintro e w5 ⟨rfl, b5⟩
  have OA5 := hid (OA4.out.below b5)
  have OB5 := hid (OB4.out.below b5)
  have B5 := hid (B4.out.trans (b5.mono B4.out.size))
  clear cQ b5 OA4 OB4 HX4 B4
  have cC := keyCmp_any ps qs va vb _ OA5.out.is OB5.out.is (by have := HN.out; omega)
  rw [HC.out] at cC
  obtain ⟨va', ca, hva⟩ := OA5.out.is.shape
  rw [HN.out] at hva
  subst hva
  obtain ⟨vb', cb, hvb⟩ := OB5.out.is.shape
  rw [HM.out] at hvb
  subst hvb
  go_wp2_with fail
  refine cC.mono ?_
  rintro e w6 ⟨rfl, b6⟩
  have OA6 := hid (OA5.out.below b6)
  have OB6 := hid (OB5.out.below b6)
  have B6 := hid (B5.out.trans (b6.mono B5.out.size))
  clear cC b6 OA5 OB5 B5
  have cC := keyCmp_any qs ps _ _ _ OB6.out.is OA6.out.is (by have := HM.out; omega)
  rw [HC'.out] at cC
  go_wp2_with fail
  refine cC.mono ?_
  rintro e w7 ⟨rfl, b7⟩
  have OA7 := hid (OA6.out.below b7)
  have OB7 := hid (OB6.out.below b7)
  have B7 := hid (B6.out.trans (b7.mono B6.out.size))
  clear cC b7 OA6 OB6 B6
  have hcb : m ≤ cb := by
    have := OB7.out.form
    rcases this with ⟨h, h0⟩ | ⟨g, c, h, h0⟩
    · have e := HM.out
      rw [h0] at e
      simp at e; omega
    · simp only [Value.slice.injEq] at h
      have := HM.out
      omega
  have hnm : n ≤ m := of_decide_eq_true g4
  have hnb : n ≤ cb := by omega
  have cC := keyCmp_any (qs.take n) ps _ _ _ (OB7.out.takeIn (by have := HM.out; omega)) OA7.out.is (by have := HM.out; simp; omega)
  have hD := HD.out
  rw [HN.out] at hD
  rw [hD] at cC
  clear hD
  go_wp2_with fail
  refine cC.mono ?_
  rintro e w8 ⟨rfl, b8⟩
  have B8 := hid (B7.out.trans (b8.mono B7.out.size))
  clear cC b8 OA7 OB7 B7
  have cA := fun X => after_any s X hss
  rw [HE.out] at cA
  go_wp2_with fail
  refine (cA _).mono ?_
  rintro e w9 ⟨rfl, b9⟩
  have B9 := hid (B8.out.trans (b9.mono B8.out.size))
  clear cA b9 B8
  have cG := fun X => begins_any t s X hts
  rw [HBG.out] at cG
  go_wp2_with fail
  refine (cG _).mono ?_
  rintro e w10 ⟨rfl, b10⟩
  have B10 := hid (B9.out.trans (b10.mono B9.out.size))
  clear cG b10 B9
  go_wp2_with fail
  go_ret
  exact ⟨rfl, B10.out⟩

set_option maxRecDepth 100000 in
set_option maxHeartbeats 8000000 in
theorem order_c (ps qs : List Part) (sa sb : Value) (w : World) (ha : PIn w ps sa) (hb : PIn w qs sb) (hl : ps.length ≤ 100) (hl' : qs.length ≤ 100)
    (hps : ∀ p ∈ ps, p.say.size ≤ 2000000 ∧ -9223372036854775808 ≤ p.n ∧ p.n ≤ 9223372036854775807) (hqs : ∀ p ∈ qs, p.say.size ≤ 2000000 ∧ -9223372036854775808 ≤ p.n ∧ p.n ≤ 9223372036854775807) (hX : Max w) (s t E : ByteArray) (c c' d : Int) (lt eq lts nm hd e0 l0 h : Bool) (hP : K.pack ps = (s.data.toList, 0)) (hQ : K.pack qs = (t.data.toList, 0)) (hE : afterL s.data.toList = E.data.toList)
    (hc : cmpK ps qs = c) (hc' : cmpK qs ps = c') (hd' : cmpK (qs.take ps.length) ps = d) (hb' : beginsL t.data.toList s.data.toList = h) (hss : s.size ≤ 4000000) (hts : t.size ≤ 1000000000)
    (g1 : Op.bytesLess s.toList t.toList = lt) (g2 : (s.toList == t.toList) = eq) (g3 : Op.bytesLess t.toList s.toList = lts) (g4 : decide (ps.length ≤ qs.length) = nm) (g5 : (d == 0) = hd) (g6 : E.toList.isEmpty = e0) (g7 : Op.bytesLess t.toList E.toList = l0) (hvals : c = -1 ∧ c' = 1 ∧ lt = true ∧ eq = false ∧ lts = false ∧ nm = true ∧ hd = false ∧ e0 = false ∧ l0 = false ∧ h = false) :
    Calls Tryd.prog 5 #[sa, sb] w fun e w' => e = .returned (.bool true) ∧ Below w.heap.size w w' := by
  obtain ⟨rfl, rfl, rfl, rfl, rfl, rfl, rfl, rfl, rfl, rfl⟩ := hvals
  obtain ⟨n, hn⟩ : ∃ n, ps.length = n := ⟨_, rfl⟩
  obtain ⟨m, hm⟩ : ∃ m, qs.length = m := ⟨_, rfl⟩
  obtain ⟨xa, c1, hsa⟩ := ha.shape
  obtain ⟨xb, c2, hsb⟩ := hb.shape
  rw [hn] at hsa hl
  rw [hm] at hsb hl'
  subst hsa hsb
  have HA := hid ha
  have HB := hid hb
  have HN := hid hn
  have HM := hid hm
  have HX := hid hX
  have HPS := hid hps
  have HQS := hid hqs
  have HG := hid (And.intro g5 (And.intro g6 g7))
  clear HG
  have HP := hid hP
  have HQ := hid hQ
  have HE := hid hE
  have HC := hid hc
  have HC' := hid hc'
  have HD := hid hd'
  have HBG := hid hb'
  rw [hn, hm] at g4
  clear ha hb hn hm hX hps hqs hP hQ hE hc hc' hd' hb'
  have t0 : decide ((100 : Int) < (n : Int)) = false := by simp; omega
  have t1 : decide ((100 : Int) < (m : Int)) = false := by simp; omega
  have t4 : decide ((n : Int) ≤ (m : Int)) = true := by simpa using g4
  go_enter Tryd.func5, Tryd.ntmps5
  go_wp2_with fail
  refine (awake_any _ HX.out).mono ?_
  rintro e w1 ⟨rfl, b1⟩
  have HA1 := hid (HA.out.below b1)
  have HB1 := hid (HB.out.below b1)
  have HX1 := hid (HX.out.below b1)
  have B1 := hid b1
  clear b1 HA HB HX
  go_wp2_with fail
  refine (theirs_any ps _ _ HA1.out (by have := HN.out; omega)).mono ?_
  rintro e w2 ⟨va, rfl, o2, b2⟩
  have OA := hid o2
  have HB2 := hid (HB1.out.below b2)
  have HX2 := hid (HX1.out.below b2)
  have B2 := hid (B1.out.trans (b2.mono B1.out.size))
  clear o2 b2 HA1 HB1 HX1 B1
  go_wp2_with fail
  refine (theirs_any qs _ _ HB2.out (by have := HM.out; omega)).mono ?_
  rintro e w3 ⟨vb, rfl, o3, b3⟩
  have OB := hid o3
  have OA3 := hid (OA.out.below b3)
  have HX3 := hid (HX2.out.below b3)
  have B3 := hid (B2.out.trans (b3.mono B2.out.size))
  clear o3 b3 OA HB2 HX2 B2
  have cP := pack_own OA3.out HPS.out HX3.out (by have := HN.out; omega)
  rw [HP.out] at cP
  simp only at cP
  go_wp2_with fail
  refine cP.mono ?_
  rintro e w4 ⟨rfl, b4⟩
  have OA4 := hid (OA3.out.below b4)
  have OB4 := hid (OB.out.below b4)
  have HX4 := hid (HX3.out.below b4)
  have B4 := hid (B3.out.trans (b4.mono B3.out.size))
  clear cP b4 OA3 OB HX3 B3
  have cQ := pack_own OB4.out HQS.out HX4.out (by have := HM.out; omega)
  rw [HQ.out] at cQ
  simp only at cQ
  go_wp2_with fail
  refine cQ.mono ?_
  rintro e w5 ⟨rfl, b5⟩
  have OA5 := hid (OA4.out.below b5)
  have OB5 := hid (OB4.out.below b5)
  have B5 := hid (B4.out.trans (b5.mono B4.out.size))
  clear cQ b5 OA4 OB4 HX4 B4
  have cC := keyCmp_any ps qs va vb _ OA5.out.is OB5.out.is (by have := HN.out; omega)
  rw [HC.out] at cC
  obtain ⟨va', ca, hva⟩ := OA5.out.is.shape
  rw [HN.out] at hva
  subst hva
  obtain ⟨vb', cb, hvb⟩ := OB5.out.is.shape
  rw [HM.out] at hvb
  subst hvb
  go_wp2_with fail
  refine cC.mono ?_
  rintro e w6 ⟨rfl, b6⟩
  have OA6 := hid (OA5.out.below b6)
  have OB6 := hid (OB5.out.below b6)
  have B6 := hid (B5.out.trans (b6.mono B5.out.size))
  clear cC b6 OA5 OB5 B5
  have cC := keyCmp_any qs ps _ _ _ OB6.out.is OA6.out.is (by have := HM.out; omega)
  rw [HC'.out] at cC
  go_wp2_with fail
  refine cC.mono ?_
  rintro e w7 ⟨rfl, b7⟩
  have OA7 := hid (OA6.out.below b7)
  have OB7 := hid (OB6.out.below b7)
  have B7 := hid (B6.out.trans (b7.mono B6.out.size))
  clear cC b7 OA6 OB6 B6
  have hcb : m ≤ cb := by
    have := OB7.out.form
    rcases this with ⟨h, h0⟩ | ⟨g, c, h, h0⟩
    · have e := HM.out
      rw [h0] at e
      simp at e; omega
    · simp only [Value.slice.injEq] at h
      have := HM.out
      omega
  have hnm : n ≤ m := of_decide_eq_true g4
  have hnb : n ≤ cb := by omega
  have cC := keyCmp_any (qs.take n) ps _ _ _ (OB7.out.takeIn (by have := HM.out; omega)) OA7.out.is (by have := HM.out; simp; omega)
  have hD := HD.out
  rw [HN.out] at hD
  rw [hD] at cC
  clear hD
  go_wp2_with fail
  refine cC.mono ?_
  rintro e w8 ⟨rfl, b8⟩
  have B8 := hid (B7.out.trans (b8.mono B7.out.size))
  clear cC b8 OA7 OB7 B7
  have cA := fun X => after_any s X hss
  rw [HE.out] at cA
  go_wp2_with fail
  refine (cA _).mono ?_
  rintro e w9 ⟨rfl, b9⟩
  have B9 := hid (B8.out.trans (b9.mono B8.out.size))
  clear cA b9 B8
  have cG := fun X => begins_any t s X hts
  rw [HBG.out] at cG
  go_wp2_with fail
  refine (cG _).mono ?_
  rintro e w10 ⟨rfl, b10⟩
  have B10 := hid (B9.out.trans (b10.mono B9.out.size))
  clear cG b10 B9
  go_wp2_with fail
  go_ret
  exact ⟨rfl, B10.out⟩

set_option maxRecDepth 100000 in
set_option maxHeartbeats 8000000 in
theorem order_d (ps qs : List Part) (sa sb : Value) (w : World) (ha : PIn w ps sa) (hb : PIn w qs sb) (hl : ps.length ≤ 100) (hl' : qs.length ≤ 100)
    (hps : ∀ p ∈ ps, p.say.size ≤ 2000000 ∧ -9223372036854775808 ≤ p.n ∧ p.n ≤ 9223372036854775807) (hqs : ∀ p ∈ qs, p.say.size ≤ 2000000 ∧ -9223372036854775808 ≤ p.n ∧ p.n ≤ 9223372036854775807) (hX : Max w) (s t E : ByteArray) (c c' d : Int) (lt eq lts nm hd e0 l0 h : Bool) (hP : K.pack ps = (s.data.toList, 0)) (hQ : K.pack qs = (t.data.toList, 0)) (hE : afterL s.data.toList = E.data.toList)
    (hc : cmpK ps qs = c) (hc' : cmpK qs ps = c') (hd' : cmpK (qs.take ps.length) ps = d) (hb' : beginsL t.data.toList s.data.toList = h) (hss : s.size ≤ 4000000) (hts : t.size ≤ 1000000000)
    (g1 : Op.bytesLess s.toList t.toList = lt) (g2 : (s.toList == t.toList) = eq) (g3 : Op.bytesLess t.toList s.toList = lts) (g4 : decide (ps.length ≤ qs.length) = nm) (g5 : (d == 0) = hd) (g6 : E.toList.isEmpty = e0) (g7 : Op.bytesLess t.toList E.toList = l0) (hvals : c = -1 ∧ c' = 1 ∧ lt = true ∧ eq = false ∧ lts = false ∧ nm = false ∧ e0 = false ∧ l0 = false ∧ h = false) :
    Calls Tryd.prog 5 #[sa, sb] w fun e w' => e = .returned (.bool true) ∧ Below w.heap.size w w' := by
  obtain ⟨rfl, rfl, rfl, rfl, rfl, rfl, rfl, rfl, rfl⟩ := hvals
  obtain ⟨n, hn⟩ : ∃ n, ps.length = n := ⟨_, rfl⟩
  obtain ⟨m, hm⟩ : ∃ m, qs.length = m := ⟨_, rfl⟩
  obtain ⟨xa, c1, hsa⟩ := ha.shape
  obtain ⟨xb, c2, hsb⟩ := hb.shape
  rw [hn] at hsa hl
  rw [hm] at hsb hl'
  subst hsa hsb
  have HA := hid ha
  have HB := hid hb
  have HN := hid hn
  have HM := hid hm
  have HX := hid hX
  have HPS := hid hps
  have HQS := hid hqs
  have HG := hid (And.intro g5 (And.intro g6 g7))
  clear HG
  have HP := hid hP
  have HQ := hid hQ
  have HE := hid hE
  have HC := hid hc
  have HC' := hid hc'
  have HD := hid hd'
  have HBG := hid hb'
  rw [hn, hm] at g4
  clear ha hb hn hm hX hps hqs hP hQ hE hc hc' hd' hb'
  have t0 : decide ((100 : Int) < (n : Int)) = false := by simp; omega
  have t1 : decide ((100 : Int) < (m : Int)) = false := by simp; omega
  have t4 : decide ((n : Int) ≤ (m : Int)) = false := by simpa using g4
  go_enter Tryd.func5, Tryd.ntmps5
  go_wp2_with fail
  refine (awake_any _ HX.out).mono ?_
  rintro e w1 ⟨rfl, b1⟩
  have HA1 := hid (HA.out.below b1)
  have HB1 := hid (HB.out.below b1)
  have HX1 := hid (HX.out.below b1)
  have B1 := hid b1
  clear b1 HA HB HX
  go_wp2_with fail
  refine (theirs_any ps _ _ HA1.out (by have := HN.out; omega)).mono ?_
  rintro e w2 ⟨va, rfl, o2, b2⟩
  have OA := hid o2
  have HB2 := hid (HB1.out.below b2)
  have HX2 := hid (HX1.out.below b2)
  have B2 := hid (B1.out.trans (b2.mono B1.out.size))
  clear o2 b2 HA1 HB1 HX1 B1
  go_wp2_with fail
  refine (theirs_any qs _ _ HB2.out (by have := HM.out; omega)).mono ?_
  rintro e w3 ⟨vb, rfl, o3, b3⟩
  have OB := hid o3
  have OA3 := hid (OA.out.below b3)
  have HX3 := hid (HX2.out.below b3)
  have B3 := hid (B2.out.trans (b3.mono B2.out.size))
  clear o3 b3 OA HB2 HX2 B2
  have cP := pack_own OA3.out HPS.out HX3.out (by have := HN.out; omega)
  rw [HP.out] at cP
  simp only at cP
  go_wp2_with fail
  refine cP.mono ?_
  rintro e w4 ⟨rfl, b4⟩
  have OA4 := hid (OA3.out.below b4)
  have OB4 := hid (OB.out.below b4)
  have HX4 := hid (HX3.out.below b4)
  have B4 := hid (B3.out.trans (b4.mono B3.out.size))
  clear cP b4 OA3 OB HX3 B3
  have cQ := pack_own OB4.out HQS.out HX4.out (by have := HM.out; omega)
  rw [HQ.out] at cQ
  simp only at cQ
  go_wp2_with fail
  refine cQ.mono ?_
  rintro e w5 ⟨rfl, b5⟩
  have OA5 := hid (OA4.out.below b5)
  have OB5 := hid (OB4.out.below b5)
  have B5 := hid (B4.out.trans (b5.mono B4.out.size))
  clear cQ b5 OA4 OB4 HX4 B4
  have cC := keyCmp_any ps qs va vb _ OA5.out.is OB5.out.is (by have := HN.out; omega)
  rw [HC.out] at cC
  obtain ⟨va', ca, hva⟩ := OA5.out.is.shape
  rw [HN.out] at hva
  subst hva
  obtain ⟨vb', cb, hvb⟩ := OB5.out.is.shape
  rw [HM.out] at hvb
  subst hvb
  go_wp2_with fail
  refine cC.mono ?_
  rintro e w6 ⟨rfl, b6⟩
  have OA6 := hid (OA5.out.below b6)
  have OB6 := hid (OB5.out.below b6)
  have B6 := hid (B5.out.trans (b6.mono B5.out.size))
  clear cC b6 OA5 OB5 B5
  have cC := keyCmp_any qs ps _ _ _ OB6.out.is OA6.out.is (by have := HM.out; omega)
  rw [HC'.out] at cC
  go_wp2_with fail
  refine cC.mono ?_
  rintro e w7 ⟨rfl, b7⟩
  have OA7 := hid (OA6.out.below b7)
  have OB7 := hid (OB6.out.below b7)
  have B7 := hid (B6.out.trans (b7.mono B6.out.size))
  clear cC b7 OA6 OB6 B6
  have hcb : m ≤ cb := by
    have := OB7.out.form
    rcases this with ⟨h, h0⟩ | ⟨g, c, h, h0⟩
    · have e := HM.out
      rw [h0] at e
      simp at e; omega
    · simp only [Value.slice.injEq] at h
      have := HM.out
      omega
  have B8 := hid B7.out
  clear OA7 OB7 B7
  have cA := fun X => after_any s X hss
  rw [HE.out] at cA
  go_wp2_with fail
  refine (cA _).mono ?_
  rintro e w9 ⟨rfl, b9⟩
  have B9 := hid (B8.out.trans (b9.mono B8.out.size))
  clear cA b9 B8
  have cG := fun X => begins_any t s X hts
  rw [HBG.out] at cG
  go_wp2_with fail
  refine (cG _).mono ?_
  rintro e w10 ⟨rfl, b10⟩
  have B10 := hid (B9.out.trans (b10.mono B9.out.size))
  clear cG b10 B9
  go_wp2_with fail
  go_ret
  exact ⟨rfl, B10.out⟩

set_option maxRecDepth 100000 in
set_option maxHeartbeats 8000000 in
theorem order_e (ps qs : List Part) (sa sb : Value) (w : World) (ha : PIn w ps sa) (hb : PIn w qs sb) (hl : ps.length ≤ 100) (hl' : qs.length ≤ 100)
    (hps : ∀ p ∈ ps, p.say.size ≤ 2000000 ∧ -9223372036854775808 ≤ p.n ∧ p.n ≤ 9223372036854775807) (hqs : ∀ p ∈ qs, p.say.size ≤ 2000000 ∧ -9223372036854775808 ≤ p.n ∧ p.n ≤ 9223372036854775807) (hX : Max w) (s t E : ByteArray) (c c' d : Int) (lt eq lts nm hd e0 l0 h : Bool) (hP : K.pack ps = (s.data.toList, 0)) (hQ : K.pack qs = (t.data.toList, 0)) (hE : afterL s.data.toList = E.data.toList)
    (hc : cmpK ps qs = c) (hc' : cmpK qs ps = c') (hd' : cmpK (qs.take ps.length) ps = d) (hb' : beginsL t.data.toList s.data.toList = h) (hss : s.size ≤ 4000000) (hts : t.size ≤ 1000000000)
    (g1 : Op.bytesLess s.toList t.toList = lt) (g2 : (s.toList == t.toList) = eq) (g3 : Op.bytesLess t.toList s.toList = lts) (g4 : decide (ps.length ≤ qs.length) = nm) (g5 : (d == 0) = hd) (g6 : E.toList.isEmpty = e0) (g7 : Op.bytesLess t.toList E.toList = l0) (hvals : c = 0 ∧ c' = 0 ∧ lt = false ∧ eq = true ∧ lts = false ∧ nm = true ∧ hd = true ∧ e0 = false ∧ l0 = true ∧ h = true) :
    Calls Tryd.prog 5 #[sa, sb] w fun e w' => e = .returned (.bool true) ∧ Below w.heap.size w w' := by
  obtain ⟨rfl, rfl, rfl, rfl, rfl, rfl, rfl, rfl, rfl, rfl⟩ := hvals
  obtain ⟨n, hn⟩ : ∃ n, ps.length = n := ⟨_, rfl⟩
  obtain ⟨m, hm⟩ : ∃ m, qs.length = m := ⟨_, rfl⟩
  obtain ⟨xa, c1, hsa⟩ := ha.shape
  obtain ⟨xb, c2, hsb⟩ := hb.shape
  rw [hn] at hsa hl
  rw [hm] at hsb hl'
  subst hsa hsb
  have HA := hid ha
  have HB := hid hb
  have HN := hid hn
  have HM := hid hm
  have HX := hid hX
  have HPS := hid hps
  have HQS := hid hqs
  have HG := hid (And.intro g5 (And.intro g6 g7))
  clear HG
  have HP := hid hP
  have HQ := hid hQ
  have HE := hid hE
  have HC := hid hc
  have HC' := hid hc'
  have HD := hid hd'
  have HBG := hid hb'
  rw [hn, hm] at g4
  clear ha hb hn hm hX hps hqs hP hQ hE hc hc' hd' hb'
  have t0 : decide ((100 : Int) < (n : Int)) = false := by simp; omega
  have t1 : decide ((100 : Int) < (m : Int)) = false := by simp; omega
  have t4 : decide ((n : Int) ≤ (m : Int)) = true := by simpa using g4
  go_enter Tryd.func5, Tryd.ntmps5
  go_wp2_with fail
  refine (awake_any _ HX.out).mono ?_
  rintro e w1 ⟨rfl, b1⟩
  have HA1 := hid (HA.out.below b1)
  have HB1 := hid (HB.out.below b1)
  have HX1 := hid (HX.out.below b1)
  have B1 := hid b1
  clear b1 HA HB HX
  go_wp2_with fail
  refine (theirs_any ps _ _ HA1.out (by have := HN.out; omega)).mono ?_
  rintro e w2 ⟨va, rfl, o2, b2⟩
  have OA := hid o2
  have HB2 := hid (HB1.out.below b2)
  have HX2 := hid (HX1.out.below b2)
  have B2 := hid (B1.out.trans (b2.mono B1.out.size))
  clear o2 b2 HA1 HB1 HX1 B1
  go_wp2_with fail
  refine (theirs_any qs _ _ HB2.out (by have := HM.out; omega)).mono ?_
  rintro e w3 ⟨vb, rfl, o3, b3⟩
  have OB := hid o3
  have OA3 := hid (OA.out.below b3)
  have HX3 := hid (HX2.out.below b3)
  have B3 := hid (B2.out.trans (b3.mono B2.out.size))
  clear o3 b3 OA HB2 HX2 B2
  have cP := pack_own OA3.out HPS.out HX3.out (by have := HN.out; omega)
  rw [HP.out] at cP
  simp only at cP
  go_wp2_with fail
  refine cP.mono ?_
  rintro e w4 ⟨rfl, b4⟩
  have OA4 := hid (OA3.out.below b4)
  have OB4 := hid (OB.out.below b4)
  have HX4 := hid (HX3.out.below b4)
  have B4 := hid (B3.out.trans (b4.mono B3.out.size))
  clear cP b4 OA3 OB HX3 B3
  have cQ := pack_own OB4.out HQS.out HX4.out (by have := HM.out; omega)
  rw [HQ.out] at cQ
  simp only at cQ
  go_wp2_with fail
  refine cQ.mono ?_
  rintro e w5 ⟨rfl, b5⟩
  have OA5 := hid (OA4.out.below b5)
  have OB5 := hid (OB4.out.below b5)
  have B5 := hid (B4.out.trans (b5.mono B4.out.size))
  clear cQ b5 OA4 OB4 HX4 B4
  have cC := keyCmp_any ps qs va vb _ OA5.out.is OB5.out.is (by have := HN.out; omega)
  rw [HC.out] at cC
  obtain ⟨va', ca, hva⟩ := OA5.out.is.shape
  rw [HN.out] at hva
  subst hva
  obtain ⟨vb', cb, hvb⟩ := OB5.out.is.shape
  rw [HM.out] at hvb
  subst hvb
  go_wp2_with fail
  refine cC.mono ?_
  rintro e w6 ⟨rfl, b6⟩
  have OA6 := hid (OA5.out.below b6)
  have OB6 := hid (OB5.out.below b6)
  have B6 := hid (B5.out.trans (b6.mono B5.out.size))
  clear cC b6 OA5 OB5 B5
  have cC := keyCmp_any qs ps _ _ _ OB6.out.is OA6.out.is (by have := HM.out; omega)
  rw [HC'.out] at cC
  go_wp2_with fail
  refine cC.mono ?_
  rintro e w7 ⟨rfl, b7⟩
  have OA7 := hid (OA6.out.below b7)
  have OB7 := hid (OB6.out.below b7)
  have B7 := hid (B6.out.trans (b7.mono B6.out.size))
  clear cC b7 OA6 OB6 B6
  have hcb : m ≤ cb := by
    have := OB7.out.form
    rcases this with ⟨h, h0⟩ | ⟨g, c, h, h0⟩
    · have e := HM.out
      rw [h0] at e
      simp at e; omega
    · simp only [Value.slice.injEq] at h
      have := HM.out
      omega
  have hnm : n ≤ m := of_decide_eq_true g4
  have hnb : n ≤ cb := by omega
  have cC := keyCmp_any (qs.take n) ps _ _ _ (OB7.out.takeIn (by have := HM.out; omega)) OA7.out.is (by have := HM.out; simp; omega)
  have hD := HD.out
  rw [HN.out] at hD
  rw [hD] at cC
  clear hD
  go_wp2_with fail
  refine cC.mono ?_
  rintro e w8 ⟨rfl, b8⟩
  have B8 := hid (B7.out.trans (b8.mono B7.out.size))
  clear cC b8 OA7 OB7 B7
  have cA := fun X => after_any s X hss
  rw [HE.out] at cA
  go_wp2_with fail
  refine (cA _).mono ?_
  rintro e w9 ⟨rfl, b9⟩
  have B9 := hid (B8.out.trans (b9.mono B8.out.size))
  clear cA b9 B8
  have cG := fun X => begins_any t s X hts
  rw [HBG.out] at cG
  go_wp2_with fail
  refine (cG _).mono ?_
  rintro e w10 ⟨rfl, b10⟩
  have B10 := hid (B9.out.trans (b10.mono B9.out.size))
  clear cG b10 B9
  go_wp2_with fail
  go_ret
  exact ⟨rfl, B10.out⟩

set_option maxRecDepth 100000 in
set_option maxHeartbeats 8000000 in
theorem order_f (ps qs : List Part) (sa sb : Value) (w : World) (ha : PIn w ps sa) (hb : PIn w qs sb) (hl : ps.length ≤ 100) (hl' : qs.length ≤ 100)
    (hps : ∀ p ∈ ps, p.say.size ≤ 2000000 ∧ -9223372036854775808 ≤ p.n ∧ p.n ≤ 9223372036854775807) (hqs : ∀ p ∈ qs, p.say.size ≤ 2000000 ∧ -9223372036854775808 ≤ p.n ∧ p.n ≤ 9223372036854775807) (hX : Max w) (s t E : ByteArray) (c c' d : Int) (lt eq lts nm hd e0 l0 h : Bool) (hP : K.pack ps = (s.data.toList, 0)) (hQ : K.pack qs = (t.data.toList, 0)) (hE : afterL s.data.toList = E.data.toList)
    (hc : cmpK ps qs = c) (hc' : cmpK qs ps = c') (hd' : cmpK (qs.take ps.length) ps = d) (hb' : beginsL t.data.toList s.data.toList = h) (hss : s.size ≤ 4000000) (hts : t.size ≤ 1000000000)
    (g1 : Op.bytesLess s.toList t.toList = lt) (g2 : (s.toList == t.toList) = eq) (g3 : Op.bytesLess t.toList s.toList = lts) (g4 : decide (ps.length ≤ qs.length) = nm) (g5 : (d == 0) = hd) (g6 : E.toList.isEmpty = e0) (g7 : Op.bytesLess t.toList E.toList = l0) (hvals : c = 0 ∧ c' = 0 ∧ lt = false ∧ eq = true ∧ lts = false ∧ nm = true ∧ hd = true ∧ e0 = true ∧ h = true) :
    Calls Tryd.prog 5 #[sa, sb] w fun e w' => e = .returned (.bool true) ∧ Below w.heap.size w w' := by
  obtain ⟨rfl, rfl, rfl, rfl, rfl, rfl, rfl, rfl, rfl⟩ := hvals
  obtain ⟨n, hn⟩ : ∃ n, ps.length = n := ⟨_, rfl⟩
  obtain ⟨m, hm⟩ : ∃ m, qs.length = m := ⟨_, rfl⟩
  obtain ⟨xa, c1, hsa⟩ := ha.shape
  obtain ⟨xb, c2, hsb⟩ := hb.shape
  rw [hn] at hsa hl
  rw [hm] at hsb hl'
  subst hsa hsb
  have HA := hid ha
  have HB := hid hb
  have HN := hid hn
  have HM := hid hm
  have HX := hid hX
  have HPS := hid hps
  have HQS := hid hqs
  have HG := hid (And.intro g5 (And.intro g6 g7))
  clear HG
  have HP := hid hP
  have HQ := hid hQ
  have HE := hid hE
  have HC := hid hc
  have HC' := hid hc'
  have HD := hid hd'
  have HBG := hid hb'
  rw [hn, hm] at g4
  clear ha hb hn hm hX hps hqs hP hQ hE hc hc' hd' hb'
  have t0 : decide ((100 : Int) < (n : Int)) = false := by simp; omega
  have t1 : decide ((100 : Int) < (m : Int)) = false := by simp; omega
  have t4 : decide ((n : Int) ≤ (m : Int)) = true := by simpa using g4
  go_enter Tryd.func5, Tryd.ntmps5
  go_wp2_with fail
  refine (awake_any _ HX.out).mono ?_
  rintro e w1 ⟨rfl, b1⟩
  have HA1 := hid (HA.out.below b1)
  have HB1 := hid (HB.out.below b1)
  have HX1 := hid (HX.out.below b1)
  have B1 := hid b1
  clear b1 HA HB HX
  go_wp2_with fail
  refine (theirs_any ps _ _ HA1.out (by have := HN.out; omega)).mono ?_
  rintro e w2 ⟨va, rfl, o2, b2⟩
  have OA := hid o2
  have HB2 := hid (HB1.out.below b2)
  have HX2 := hid (HX1.out.below b2)
  have B2 := hid (B1.out.trans (b2.mono B1.out.size))
  clear o2 b2 HA1 HB1 HX1 B1
  go_wp2_with fail
  refine (theirs_any qs _ _ HB2.out (by have := HM.out; omega)).mono ?_
  rintro e w3 ⟨vb, rfl, o3, b3⟩
  have OB := hid o3
  have OA3 := hid (OA.out.below b3)
  have HX3 := hid (HX2.out.below b3)
  have B3 := hid (B2.out.trans (b3.mono B2.out.size))
  clear o3 b3 OA HB2 HX2 B2
  have cP := pack_own OA3.out HPS.out HX3.out (by have := HN.out; omega)
  rw [HP.out] at cP
  simp only at cP
  go_wp2_with fail
  refine cP.mono ?_
  rintro e w4 ⟨rfl, b4⟩
  have OA4 := hid (OA3.out.below b4)
  have OB4 := hid (OB.out.below b4)
  have HX4 := hid (HX3.out.below b4)
  have B4 := hid (B3.out.trans (b4.mono B3.out.size))
  clear cP b4 OA3 OB HX3 B3
  have cQ := pack_own OB4.out HQS.out HX4.out (by have := HM.out; omega)
  rw [HQ.out] at cQ
  simp only at cQ
  go_wp2_with fail
  refine cQ.mono ?_
  rintro e w5 ⟨rfl, b5⟩
  have OA5 := hid (OA4.out.below b5)
  have OB5 := hid (OB4.out.below b5)
  have B5 := hid (B4.out.trans (b5.mono B4.out.size))
  clear cQ b5 OA4 OB4 HX4 B4
  have cC := keyCmp_any ps qs va vb _ OA5.out.is OB5.out.is (by have := HN.out; omega)
  rw [HC.out] at cC
  obtain ⟨va', ca, hva⟩ := OA5.out.is.shape
  rw [HN.out] at hva
  subst hva
  obtain ⟨vb', cb, hvb⟩ := OB5.out.is.shape
  rw [HM.out] at hvb
  subst hvb
  go_wp2_with fail
  refine cC.mono ?_
  rintro e w6 ⟨rfl, b6⟩
  have OA6 := hid (OA5.out.below b6)
  have OB6 := hid (OB5.out.below b6)
  have B6 := hid (B5.out.trans (b6.mono B5.out.size))
  clear cC b6 OA5 OB5 B5
  have cC := keyCmp_any qs ps _ _ _ OB6.out.is OA6.out.is (by have := HM.out; omega)
  rw [HC'.out] at cC
  go_wp2_with fail
  refine cC.mono ?_
  rintro e w7 ⟨rfl, b7⟩
  have OA7 := hid (OA6.out.below b7)
  have OB7 := hid (OB6.out.below b7)
  have B7 := hid (B6.out.trans (b7.mono B6.out.size))
  clear cC b7 OA6 OB6 B6
  have hcb : m ≤ cb := by
    have := OB7.out.form
    rcases this with ⟨h, h0⟩ | ⟨g, c, h, h0⟩
    · have e := HM.out
      rw [h0] at e
      simp at e; omega
    · simp only [Value.slice.injEq] at h
      have := HM.out
      omega
  have hnm : n ≤ m := of_decide_eq_true g4
  have hnb : n ≤ cb := by omega
  have cC := keyCmp_any (qs.take n) ps _ _ _ (OB7.out.takeIn (by have := HM.out; omega)) OA7.out.is (by have := HM.out; simp; omega)
  have hD := HD.out
  rw [HN.out] at hD
  rw [hD] at cC
  clear hD
  go_wp2_with fail
  refine cC.mono ?_
  rintro e w8 ⟨rfl, b8⟩
  have B8 := hid (B7.out.trans (b8.mono B7.out.size))
  clear cC b8 OA7 OB7 B7
  have cA := fun X => after_any s X hss
  rw [HE.out] at cA
  go_wp2_with fail
  refine (cA _).mono ?_
  rintro e w9 ⟨rfl, b9⟩
  have B9 := hid (B8.out.trans (b9.mono B8.out.size))
  clear cA b9 B8
  have cG := fun X => begins_any t s X hts
  rw [HBG.out] at cG
  go_wp2_with fail
  refine (cG _).mono ?_
  rintro e w10 ⟨rfl, b10⟩
  have B10 := hid (B9.out.trans (b10.mono B9.out.size))
  clear cG b10 B9
  go_wp2_with fail
  go_ret
  exact ⟨rfl, B10.out⟩

set_option maxRecDepth 100000 in
set_option maxHeartbeats 8000000 in
theorem order_g (ps qs : List Part) (sa sb : Value) (w : World) (ha : PIn w ps sa) (hb : PIn w qs sb) (hl : ps.length ≤ 100) (hl' : qs.length ≤ 100)
    (hps : ∀ p ∈ ps, p.say.size ≤ 2000000 ∧ -9223372036854775808 ≤ p.n ∧ p.n ≤ 9223372036854775807) (hqs : ∀ p ∈ qs, p.say.size ≤ 2000000 ∧ -9223372036854775808 ≤ p.n ∧ p.n ≤ 9223372036854775807) (hX : Max w) (s t E : ByteArray) (c c' d : Int) (lt eq lts nm hd e0 l0 h : Bool) (hP : K.pack ps = (s.data.toList, 0)) (hQ : K.pack qs = (t.data.toList, 0)) (hE : afterL s.data.toList = E.data.toList)
    (hc : cmpK ps qs = c) (hc' : cmpK qs ps = c') (hd' : cmpK (qs.take ps.length) ps = d) (hb' : beginsL t.data.toList s.data.toList = h) (hss : s.size ≤ 4000000) (hts : t.size ≤ 1000000000)
    (g1 : Op.bytesLess s.toList t.toList = lt) (g2 : (s.toList == t.toList) = eq) (g3 : Op.bytesLess t.toList s.toList = lts) (g4 : decide (ps.length ≤ qs.length) = nm) (g5 : (d == 0) = hd) (g6 : E.toList.isEmpty = e0) (g7 : Op.bytesLess t.toList E.toList = l0) (hvals : c = 1 ∧ c' = -1 ∧ lt = false ∧ eq = false ∧ lts = true ∧ nm = true ∧ hd = false ∧ h = false) :
    Calls Tryd.prog 5 #[sa, sb] w fun e w' => e = .returned (.bool true) ∧ Below w.heap.size w w' := by
  obtain ⟨rfl, rfl, rfl, rfl, rfl, rfl, rfl, rfl⟩ := hvals
  obtain ⟨n, hn⟩ : ∃ n, ps.length = n := ⟨_, rfl⟩
  obtain ⟨m, hm⟩ : ∃ m, qs.length = m := ⟨_, rfl⟩
  obtain ⟨xa, c1, hsa⟩ := ha.shape
  obtain ⟨xb, c2, hsb⟩ := hb.shape
  rw [hn] at hsa hl
  rw [hm] at hsb hl'
  subst hsa hsb
  have HA := hid ha
  have HB := hid hb
  have HN := hid hn
  have HM := hid hm
  have HX := hid hX
  have HPS := hid hps
  have HQS := hid hqs
  have HG := hid (And.intro g5 (And.intro g6 g7))
  clear HG
  have HP := hid hP
  have HQ := hid hQ
  have HE := hid hE
  have HC := hid hc
  have HC' := hid hc'
  have HD := hid hd'
  have HBG := hid hb'
  rw [hn, hm] at g4
  clear ha hb hn hm hX hps hqs hP hQ hE hc hc' hd' hb'
  have t0 : decide ((100 : Int) < (n : Int)) = false := by simp; omega
  have t1 : decide ((100 : Int) < (m : Int)) = false := by simp; omega
  have t4 : decide ((n : Int) ≤ (m : Int)) = true := by simpa using g4
  go_enter Tryd.func5, Tryd.ntmps5
  go_wp2_with fail
  refine (awake_any _ HX.out).mono ?_
  rintro e w1 ⟨rfl, b1⟩
  have HA1 := hid (HA.out.below b1)
  have HB1 := hid (HB.out.below b1)
  have HX1 := hid (HX.out.below b1)
  have B1 := hid b1
  clear b1 HA HB HX
  go_wp2_with fail
  refine (theirs_any ps _ _ HA1.out (by have := HN.out; omega)).mono ?_
  rintro e w2 ⟨va, rfl, o2, b2⟩
  have OA := hid o2
  have HB2 := hid (HB1.out.below b2)
  have HX2 := hid (HX1.out.below b2)
  have B2 := hid (B1.out.trans (b2.mono B1.out.size))
  clear o2 b2 HA1 HB1 HX1 B1
  go_wp2_with fail
  refine (theirs_any qs _ _ HB2.out (by have := HM.out; omega)).mono ?_
  rintro e w3 ⟨vb, rfl, o3, b3⟩
  have OB := hid o3
  have OA3 := hid (OA.out.below b3)
  have HX3 := hid (HX2.out.below b3)
  have B3 := hid (B2.out.trans (b3.mono B2.out.size))
  clear o3 b3 OA HB2 HX2 B2
  have cP := pack_own OA3.out HPS.out HX3.out (by have := HN.out; omega)
  rw [HP.out] at cP
  simp only at cP
  go_wp2_with fail
  refine cP.mono ?_
  rintro e w4 ⟨rfl, b4⟩
  have OA4 := hid (OA3.out.below b4)
  have OB4 := hid (OB.out.below b4)
  have HX4 := hid (HX3.out.below b4)
  have B4 := hid (B3.out.trans (b4.mono B3.out.size))
  clear cP b4 OA3 OB HX3 B3
  have cQ := pack_own OB4.out HQS.out HX4.out (by have := HM.out; omega)
  rw [HQ.out] at cQ
  simp only at cQ
  go_wp2_with fail
  refine cQ.mono ?_
  rintro e w5 ⟨rfl, b5⟩
  have OA5 := hid (OA4.out.below b5)
  have OB5 := hid (OB4.out.below b5)
  have B5 := hid (B4.out.trans (b5.mono B4.out.size))
  clear cQ b5 OA4 OB4 HX4 B4
  have cC := keyCmp_any ps qs va vb _ OA5.out.is OB5.out.is (by have := HN.out; omega)
  rw [HC.out] at cC
  obtain ⟨va', ca, hva⟩ := OA5.out.is.shape
  rw [HN.out] at hva
  subst hva
  obtain ⟨vb', cb, hvb⟩ := OB5.out.is.shape
  rw [HM.out] at hvb
  subst hvb
  go_wp2_with fail
  refine cC.mono ?_
  rintro e w6 ⟨rfl, b6⟩
  have OA6 := hid (OA5.out.below b6)
  have OB6 := hid (OB5.out.below b6)
  have B6 := hid (B5.out.trans (b6.mono B5.out.size))
  clear cC b6 OA5 OB5 B5
  have cC := keyCmp_any qs ps _ _ _ OB6.out.is OA6.out.is (by have := HM.out; omega)
  rw [HC'.out] at cC
  go_wp2_with fail
  refine cC.mono ?_
  rintro e w7 ⟨rfl, b7⟩
  have OA7 := hid (OA6.out.below b7)
  have OB7 := hid (OB6.out.below b7)
  have B7 := hid (B6.out.trans (b7.mono B6.out.size))
  clear cC b7 OA6 OB6 B6
  have hcb : m ≤ cb := by
    have := OB7.out.form
    rcases this with ⟨h, h0⟩ | ⟨g, c, h, h0⟩
    · have e := HM.out
      rw [h0] at e
      simp at e; omega
    · simp only [Value.slice.injEq] at h
      have := HM.out
      omega
  have hnm : n ≤ m := of_decide_eq_true g4
  have hnb : n ≤ cb := by omega
  have cC := keyCmp_any (qs.take n) ps _ _ _ (OB7.out.takeIn (by have := HM.out; omega)) OA7.out.is (by have := HM.out; simp; omega)
  have hD := HD.out
  rw [HN.out] at hD
  rw [hD] at cC
  clear hD
  go_wp2_with fail
  refine cC.mono ?_
  rintro e w8 ⟨rfl, b8⟩
  have B8 := hid (B7.out.trans (b8.mono B7.out.size))
  clear cC b8 OA7 OB7 B7
  have cA := fun X => after_any s X hss
  rw [HE.out] at cA
  go_wp2_with fail
  refine (cA _).mono ?_
  rintro e w9 ⟨rfl, b9⟩
  have B9 := hid (B8.out.trans (b9.mono B8.out.size))
  clear cA b9 B8
  have cG := fun X => begins_any t s X hts
  rw [HBG.out] at cG
  go_wp2_with fail
  refine (cG _).mono ?_
  rintro e w10 ⟨rfl, b10⟩
  have B10 := hid (B9.out.trans (b10.mono B9.out.size))
  clear cG b10 B9
  go_wp2_with fail
  go_ret
  exact ⟨rfl, B10.out⟩

set_option maxRecDepth 100000 in
set_option maxHeartbeats 8000000 in
theorem order_h (ps qs : List Part) (sa sb : Value) (w : World) (ha : PIn w ps sa) (hb : PIn w qs sb) (hl : ps.length ≤ 100) (hl' : qs.length ≤ 100)
    (hps : ∀ p ∈ ps, p.say.size ≤ 2000000 ∧ -9223372036854775808 ≤ p.n ∧ p.n ≤ 9223372036854775807) (hqs : ∀ p ∈ qs, p.say.size ≤ 2000000 ∧ -9223372036854775808 ≤ p.n ∧ p.n ≤ 9223372036854775807) (hX : Max w) (s t E : ByteArray) (c c' d : Int) (lt eq lts nm hd e0 l0 h : Bool) (hP : K.pack ps = (s.data.toList, 0)) (hQ : K.pack qs = (t.data.toList, 0)) (hE : afterL s.data.toList = E.data.toList)
    (hc : cmpK ps qs = c) (hc' : cmpK qs ps = c') (hd' : cmpK (qs.take ps.length) ps = d) (hb' : beginsL t.data.toList s.data.toList = h) (hss : s.size ≤ 4000000) (hts : t.size ≤ 1000000000)
    (g1 : Op.bytesLess s.toList t.toList = lt) (g2 : (s.toList == t.toList) = eq) (g3 : Op.bytesLess t.toList s.toList = lts) (g4 : decide (ps.length ≤ qs.length) = nm) (g5 : (d == 0) = hd) (g6 : E.toList.isEmpty = e0) (g7 : Op.bytesLess t.toList E.toList = l0) (hvals : c = 1 ∧ c' = -1 ∧ lt = false ∧ eq = false ∧ lts = true ∧ nm = false ∧ h = false) :
    Calls Tryd.prog 5 #[sa, sb] w fun e w' => e = .returned (.bool true) ∧ Below w.heap.size w w' := by
  obtain ⟨rfl, rfl, rfl, rfl, rfl, rfl, rfl⟩ := hvals
  obtain ⟨n, hn⟩ : ∃ n, ps.length = n := ⟨_, rfl⟩
  obtain ⟨m, hm⟩ : ∃ m, qs.length = m := ⟨_, rfl⟩
  obtain ⟨xa, c1, hsa⟩ := ha.shape
  obtain ⟨xb, c2, hsb⟩ := hb.shape
  rw [hn] at hsa hl
  rw [hm] at hsb hl'
  subst hsa hsb
  have HA := hid ha
  have HB := hid hb
  have HN := hid hn
  have HM := hid hm
  have HX := hid hX
  have HPS := hid hps
  have HQS := hid hqs
  have HG := hid (And.intro g5 (And.intro g6 g7))
  clear HG
  have HP := hid hP
  have HQ := hid hQ
  have HE := hid hE
  have HC := hid hc
  have HC' := hid hc'
  have HD := hid hd'
  have HBG := hid hb'
  rw [hn, hm] at g4
  clear ha hb hn hm hX hps hqs hP hQ hE hc hc' hd' hb'
  have t0 : decide ((100 : Int) < (n : Int)) = false := by simp; omega
  have t1 : decide ((100 : Int) < (m : Int)) = false := by simp; omega
  have t4 : decide ((n : Int) ≤ (m : Int)) = false := by simpa using g4
  go_enter Tryd.func5, Tryd.ntmps5
  go_wp2_with fail
  refine (awake_any _ HX.out).mono ?_
  rintro e w1 ⟨rfl, b1⟩
  have HA1 := hid (HA.out.below b1)
  have HB1 := hid (HB.out.below b1)
  have HX1 := hid (HX.out.below b1)
  have B1 := hid b1
  clear b1 HA HB HX
  go_wp2_with fail
  refine (theirs_any ps _ _ HA1.out (by have := HN.out; omega)).mono ?_
  rintro e w2 ⟨va, rfl, o2, b2⟩
  have OA := hid o2
  have HB2 := hid (HB1.out.below b2)
  have HX2 := hid (HX1.out.below b2)
  have B2 := hid (B1.out.trans (b2.mono B1.out.size))
  clear o2 b2 HA1 HB1 HX1 B1
  go_wp2_with fail
  refine (theirs_any qs _ _ HB2.out (by have := HM.out; omega)).mono ?_
  rintro e w3 ⟨vb, rfl, o3, b3⟩
  have OB := hid o3
  have OA3 := hid (OA.out.below b3)
  have HX3 := hid (HX2.out.below b3)
  have B3 := hid (B2.out.trans (b3.mono B2.out.size))
  clear o3 b3 OA HB2 HX2 B2
  have cP := pack_own OA3.out HPS.out HX3.out (by have := HN.out; omega)
  rw [HP.out] at cP
  simp only at cP
  go_wp2_with fail
  refine cP.mono ?_
  rintro e w4 ⟨rfl, b4⟩
  have OA4 := hid (OA3.out.below b4)
  have OB4 := hid (OB.out.below b4)
  have HX4 := hid (HX3.out.below b4)
  have B4 := hid (B3.out.trans (b4.mono B3.out.size))
  clear cP b4 OA3 OB HX3 B3
  have cQ := pack_own OB4.out HQS.out HX4.out (by have := HM.out; omega)
  rw [HQ.out] at cQ
  simp only at cQ
  go_wp2_with fail
  refine cQ.mono ?_
  rintro e w5 ⟨rfl, b5⟩
  have OA5 := hid (OA4.out.below b5)
  have OB5 := hid (OB4.out.below b5)
  have B5 := hid (B4.out.trans (b5.mono B4.out.size))
  clear cQ b5 OA4 OB4 HX4 B4
  have cC := keyCmp_any ps qs va vb _ OA5.out.is OB5.out.is (by have := HN.out; omega)
  rw [HC.out] at cC
  obtain ⟨va', ca, hva⟩ := OA5.out.is.shape
  rw [HN.out] at hva
  subst hva
  obtain ⟨vb', cb, hvb⟩ := OB5.out.is.shape
  rw [HM.out] at hvb
  subst hvb
  go_wp2_with fail
  refine cC.mono ?_
  rintro e w6 ⟨rfl, b6⟩
  have OA6 := hid (OA5.out.below b6)
  have OB6 := hid (OB5.out.below b6)
  have B6 := hid (B5.out.trans (b6.mono B5.out.size))
  clear cC b6 OA5 OB5 B5
  have cC := keyCmp_any qs ps _ _ _ OB6.out.is OA6.out.is (by have := HM.out; omega)
  rw [HC'.out] at cC
  go_wp2_with fail
  refine cC.mono ?_
  rintro e w7 ⟨rfl, b7⟩
  have OA7 := hid (OA6.out.below b7)
  have OB7 := hid (OB6.out.below b7)
  have B7 := hid (B6.out.trans (b7.mono B6.out.size))
  clear cC b7 OA6 OB6 B6
  have hcb : m ≤ cb := by
    have := OB7.out.form
    rcases this with ⟨h, h0⟩ | ⟨g, c, h, h0⟩
    · have e := HM.out
      rw [h0] at e
      simp at e; omega
    · simp only [Value.slice.injEq] at h
      have := HM.out
      omega
  have B8 := hid B7.out
  clear OA7 OB7 B7
  have cA := fun X => after_any s X hss
  rw [HE.out] at cA
  go_wp2_with fail
  refine (cA _).mono ?_
  rintro e w9 ⟨rfl, b9⟩
  have B9 := hid (B8.out.trans (b9.mono B8.out.size))
  clear cA b9 B8
  have cG := fun X => begins_any t s X hts
  rw [HBG.out] at cG
  go_wp2_with fail
  refine (cG _).mono ?_
  rintro e w10 ⟨rfl, b10⟩
  have B10 := hid (B9.out.trans (b10.mono B9.out.size))
  clear cG b10 B9
  go_wp2_with fail
  go_ret
  exact ⟨rfl, B10.out⟩

theorem pack_ok {ps : List Part} (h : (K.pack ps).2 = 0) : K.pack ps = (packL ps, 0) ∧ ps.length ≤ 16 := by
  unfold K.pack at h ⊢
  by_cases h1 : 16 < ps.length
  · rw [if_pos h1] at h; cases h
  · rw [if_neg h1] at h ⊢
    by_cases h2 : K.anyBad ps
    · rw [if_pos h2] at h; cases h
    · rw [if_neg h2]; exact ⟨rfl, by omega⟩
theorem list_beq2 (l m : List UInt8) : (l == m) = decide (Lib.compareBytes l m = 0) := by
  rw [K.list_beq]
  by_cases h : l = m
  · subst h; rw [cmp_self]; simp
  · rw [decide_eq_false h]
    exact (decide_eq_false fun e => h (cmp_zero _ _ e)).symm
theorem order_any (ps qs : List Part) (sa sb : Value) (w : World) (ha : PIn w ps sa) (hb : PIn w qs sb) (hl : ps.length ≤ 100) (hl' : qs.length ≤ 100)
    (hps : ∀ p ∈ ps, p.say.size ≤ 2000000 ∧ -9223372036854775808 ≤ p.n ∧ p.n ≤ 9223372036854775807) (hqs : ∀ p ∈ qs, p.say.size ≤ 2000000 ∧ -9223372036854775808 ≤ p.n ∧ p.n ≤ 9223372036854775807) (hX : Max w) (hL : K.letters ps ≤ 1048576) (hL' : K.letters qs ≤ 1048576) :
    Calls Tryd.prog 5 #[sa, sb] w fun e w' => e = .returned (.bool true) ∧ Below w.heap.size w w' := by
  by_cases hbad : (K.pack ps).2 ≠ 0 ∨ (K.pack qs).2 ≠ 0
  · exact order_err ps qs sa sb w ha hb hl hl' hps hqs hX _ _ rfl rfl hbad
  · have hok : (K.pack ps).2 = 0 ∧ (K.pack qs).2 = 0 := ⟨Classical.byContradiction fun h => hbad (Or.inl h), Classical.byContradiction fun h => hbad (Or.inr h)⟩
    obtain ⟨hP, hp16⟩ := pack_ok hok.1
    obtain ⟨hQ, hq16⟩ := pack_ok hok.2
    have mp : ∀ p ∈ ps, p.may := fun p hp => (hps p hp).2
    have mq : ∀ p ∈ qs, p.may := fun p hp => (hqs p hp).2
    have hcmp := cmp_pack ps qs mp mq
    have hcmp' := cmp_pack qs ps mq mp
    have hanti := cmp_anti (packL ps) (packL qs)
    have hB := begins_pack ps qs mp mq
    have hI := in_law (packL ps) (packL qs) (pack_head ps)
    have hS : (packL ps).length ≤ 4000000 := by have := packL_length ps; omega
    have hT : (packL qs).length ≤ 1000000000 := by have := packL_length qs; omega
    have three := cmp_three (packL ps) (packL qs)
    have hlt := cmp_less (packL ps) (packL qs)
    have hgt := cmp_less (packL qs) (packL ps)
    have heq := list_beq2 (packL ps) (packL qs)
    rw [hanti] at hgt hcmp'
    obtain ⟨c, hc⟩ : ∃ c, Lib.compareBytes (packL ps) (packL qs) = c := ⟨_, rfl⟩
    rw [hc] at hcmp hcmp' three hlt hgt heq
    obtain ⟨d, hd⟩ : ∃ d, cmpK (qs.take ps.length) ps = d := ⟨_, rfl⟩
    rw [hd, show decide (d = 0) = (d == 0) by by_cases h : d = 0 <;> simp [h]] at hB
    obtain ⟨s, hs⟩ : ∃ s : ByteArray, s.data.toList = packL ps := ⟨⟨(packL ps).toArray⟩, rfl⟩
    obtain ⟨t, ht⟩ : ∃ t : ByteArray, t.data.toList = packL qs := ⟨⟨(packL qs).toArray⟩, rfl⟩
    obtain ⟨E, hE⟩ : ∃ E : ByteArray, E.data.toList = afterL (packL ps) := ⟨⟨(afterL (packL ps)).toArray⟩, rfl⟩
    have hss : s.size ≤ 4000000 := by
      have : s.data.toList.length = s.size := Array.length_toList
      rw [hs] at this; omega
    have hts : t.size ≤ 1000000000 := by
      have : t.data.toList.length = t.size := Array.length_toList
      rw [ht] at this; omega
    rw [← hs] at hP hB hI hlt hgt heq hE
    rw [← ht] at hQ hB hI hlt hgt heq
    have he0 : E.toList.isEmpty = decide (afterL s.data.toList = []) := by
      rw [Lib.toList_data, hE]
      cases afterL s.data.toList <;> rfl
    rw [← he0, ← hE] at hI
    rw [← Lib.toList_data, ← Lib.toList_data] at hlt hgt heq
    have hI' : beginsL t.data.toList s.data.toList = (!Op.bytesLess t.toList s.toList && (E.toList.isEmpty || Op.bytesLess t.toList E.toList)) := by
      rw [Lib.toList_data, Lib.toList_data, Lib.toList_data]; rw [Lib.toList_data] at hI; exact hI
    clear hI he0
    obtain ⟨nm, g4⟩ : ∃ b, decide (ps.length ≤ qs.length) = b := ⟨_, rfl⟩
    obtain ⟨hdb, g5⟩ : ∃ b, (d == 0) = b := ⟨_, rfl⟩
    obtain ⟨e0, g6⟩ : ∃ b, E.toList.isEmpty = b := ⟨_, rfl⟩
    obtain ⟨l0, g7⟩ : ∃ b, Op.bytesLess t.toList E.toList = b := ⟨_, rfl⟩
    obtain ⟨h, hh⟩ : ∃ b, beginsL t.data.toList s.data.toList = b := ⟨_, rfl⟩
    rw [hh] at hB hI'
    rw [g4, g5] at hB
    rw [g6, g7] at hI'
    rcases three with rfl | rfl | rfl
    · rw [hgt, show decide (-(-1 : Int) = -1) = false by decide] at hI'
      cases nm
      · simp only [Bool.false_and] at hB
        subst hB
        cases e0 <;> cases l0 <;> simp only [Bool.not_false, Bool.true_and, Bool.or_false, Bool.or_true, Bool.false_eq_true] at hI'
        exact order_d ps qs sa sb w ha hb hl hl' hps hqs hX s t E (-1) 1 d true false false false hdb false false false hP hQ hE.symm hcmp.symm hcmp'.symm hd hh hss hts hlt heq hgt g4 g5 g6 g7 ⟨rfl, rfl, rfl, rfl, rfl, rfl, rfl, rfl, rfl⟩
      · cases hdb
        · simp only [Bool.and_false] at hB
          subst hB
          cases e0 <;> cases l0 <;> simp only [Bool.not_false, Bool.true_and, Bool.or_false, Bool.or_true, Bool.false_eq_true] at hI'
          exact order_c ps qs sa sb w ha hb hl hl' hps hqs hX s t E (-1) 1 d true false false true false false false false hP hQ hE.symm hcmp.symm hcmp'.symm hd hh hss hts hlt heq hgt g4 g5 g6 g7 ⟨rfl, rfl, rfl, rfl, rfl, rfl, rfl, rfl, rfl, rfl⟩
        · simp only [Bool.and_true] at hB
          subst hB
          cases e0
          · cases l0
            · simp only [Bool.not_false, Bool.true_and, Bool.or_false, Bool.true_eq_false] at hI'
            · exact order_a ps qs sa sb w ha hb hl hl' hps hqs hX s t E (-1) 1 d true false false true true false true true hP hQ hE.symm hcmp.symm hcmp'.symm hd hh hss hts hlt heq hgt g4 g5 g6 g7 ⟨rfl, rfl, rfl, rfl, rfl, rfl, rfl, rfl, rfl, rfl⟩
          · exact order_b ps qs sa sb w ha hb hl hl' hps hqs hX s t E (-1) 1 d true false false true true true l0 true hP hQ hE.symm hcmp.symm hcmp'.symm hd hh hss hts hlt heq hgt g4 g5 g6 g7 ⟨rfl, rfl, rfl, rfl, rfl, rfl, rfl, rfl, rfl⟩
    · have hst := cmp_zero _ _ hc
      have htrue : h = true := by
        rw [← hh, begins_iff]; exact ⟨[], by rw [hs, ht, hst]; simp⟩
      subst htrue
      rw [hgt, show decide (-(0 : Int) = -1) = false by decide] at hI'
      cases nm
      · simp only [Bool.false_and, Bool.true_eq_false] at hB
      · cases hdb
        · simp only [Bool.and_false, Bool.true_eq_false] at hB
        · cases e0
          · cases l0
            · simp only [Bool.not_false, Bool.true_and, Bool.or_false, Bool.true_eq_false] at hI'
            · exact order_e ps qs sa sb w ha hb hl hl' hps hqs hX s t E 0 0 d false true false true true false true true hP hQ hE.symm hcmp.symm hcmp'.symm hd hh hss hts hlt heq hgt g4 g5 g6 g7 ⟨rfl, rfl, rfl, rfl, rfl, rfl, rfl, rfl, rfl, rfl⟩
          · exact order_f ps qs sa sb w ha hb hl hl' hps hqs hX s t E 0 0 d false true false true true true l0 true hP hQ hE.symm hcmp.symm hcmp'.symm hd hh hss hts hlt heq hgt g4 g5 g6 g7 ⟨rfl, rfl, rfl, rfl, rfl, rfl, rfl, rfl, rfl⟩
    · rw [hgt, show decide (-(1 : Int) = -1) = true by decide] at hI'
      simp only [Bool.not_true, Bool.false_and] at hI'
      subst hI'
      cases nm
      · exact order_h ps qs sa sb w ha hb hl hl' hps hqs hX s t E 1 (-1) d false false true false hdb e0 l0 false hP hQ hE.symm hcmp.symm hcmp'.symm hd hh hss hts hlt heq hgt g4 g5 g6 g7 ⟨rfl, rfl, rfl, rfl, rfl, rfl, rfl⟩
      · cases hdb
        · exact order_g ps qs sa sb w ha hb hl hl' hps hqs hX s t E 1 (-1) d false false true true false e0 l0 false hP hQ hE.symm hcmp.symm hcmp'.symm hd hh hss hts hlt heq hgt g4 g5 g6 g7 ⟨rfl, rfl, rfl, rfl, rfl, rfl, rfl, rfl⟩
        · simp only [Bool.and_true, Bool.false_eq_true] at hB

set_option maxRecDepth 100000 in
set_option maxHeartbeats 4000000 in
theorem order_long (sa sb : Value) (n m : Nat) (w : World) (hX : Max w) (hs : ∃ a c, sa = .slice a n c) (hs' : ∃ a c, sb = .slice a m c) (h : 100 < n ∨ 100 < m) :
    Calls Tryd.prog 5 #[sa, sb] w fun e w' => e = .returned (.bool true) ∧ Below w.heap.size w w' := by
  obtain ⟨xa, c1, rfl⟩ := hs
  obtain ⟨xb, c2, rfl⟩ := hs'
  have HX := hid hX
  clear hX
  by_cases h1 : 100 < n
  · have t0 : decide ((100 : Int) < (n : Int)) = true := by simp; omega
    clear h
    go_enter Tryd.func5, Tryd.ntmps5
    go_wp2_with fail
    refine (awake_any _ HX.out).mono ?_
    rintro e w1 ⟨rfl, b1⟩
    have B1 := hid b1
    clear b1
    go_wp2_with fail
    go_ret
    exact ⟨rfl, B1.out⟩
  · have t0 : decide ((100 : Int) < (n : Int)) = false := by simp; omega
    have t1 : decide ((100 : Int) < (m : Int)) = true := by simp; omega
    clear h
    go_enter Tryd.func5, Tryd.ntmps5
    go_wp2_with fail
    refine (awake_any _ HX.out).mono ?_
    rintro e w1 ⟨rfl, b1⟩
    have B1 := hid b1
    clear b1
    go_wp2_with fail
    go_ret
    exact ⟨rfl, B1.out⟩
theorem order_law (ps : List Part) (sa : Value) (qs : List Part) (sb : Value) (w : World) (ha : PIn w ps sa) (mp : ∀ p ∈ ps, p.may) (hb : PIn w qs sb) (mq : ∀ p ∈ qs, p.may) (hX : Max w) (hL : K.letters ps + K.letters qs ≤ 1048576) :
    Calls Tryd.prog 5 #[sa, sb] w fun e w' => e = .returned (.bool true) ∧ Below w.heap.size w w' := by
  by_cases h : 100 < ps.length ∨ 100 < qs.length
  · exact order_long sa sb ps.length qs.length w hX ha.shape hb.shape h
  · refine order_any ps qs sa sb w ha hb (by omega) (by omega) (fun p hp => ⟨?_, mp p hp⟩) (fun p hp => ⟨?_, mq p hp⟩) hX (by omega) (by omega)
    · have := K.letters_mem ps p hp; omega
    · have := K.letters_mem qs p hp; omega
end Go.Proofs.YtfadnhihcobclaaDoor
