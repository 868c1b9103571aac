/- may: whether a value may be, but for how deep. -/
import Derived.Test.YtphjfighamadgaaGreatDoorJA7
import Derived.Test.YtphjfighamadgaaGreatDoorJA4
import Derived.Maps.Own
import Derived.Maps.OwnOps
import Derived.Maps.OwnSet
import Derived.Maps.Views
import Derived.Carry
namespace Go.Proofs.YtphjfighamadgaaGreatDoor
open Go.RowKit Go.Maps
open Go.Lib (hid validD)
set_option maxRecDepth 100000 in
theorem utf8J_any (s : ByteArray) (w : World) (hs : s.size ≤ 9223372036854775807) (hT : Tabs w) : Calls Tryz.prog 63 #[.string s] w fun e w' => e = .returned (.bool (validD s.data.toList)) ∧ Below w.heap.size w w' := by
  have cV := Tryz.utf8_ValidString s w hs hT
  obtain ⟨q, hq⟩ : ∃ q, validD s.data.toList = q := ⟨_, rfl⟩
  rw [hq] at cV ⊢
  clear hq hT
  go_enter Tryz.func63, Tryz.ntmps63
  go_wp2_with fail
  refine cV.mono ?_
  rintro e w' ⟨rfl, hb⟩
  have HB := hid hb
  clear hb cV
  go_wp2_with fail
  go_ret
  exact ⟨rfl, HB.out⟩
namespace J
/-- the names that were seen, as a map -/
def seenD (l : List (List UInt8)) : DataW Unit := l.foldl (fun D x => D.put (.string x) (.lit (.bool true))) (.map [])
theorem seenD_snoc (l : List (List UInt8)) (x : List UInt8) : seenD (l ++ [x]) = (seenD l).put (.string x) (.lit (.bool true)) := by simp [seenD]
theorem seen_at (x : List UInt8) : ∀ (l : List (List UInt8)) (D : DataW Unit), IsMap D → (l.foldl (fun D x => D.put (.string x) (.lit (.bool true))) D).atKey (.string x) (.lit (.bool false)) = if x ∈ l then .lit (.bool true) else D.atKey (.string x) (.lit (.bool false))
  | [], D, _ => by simp
  | y :: l, D, hD => by
    rw [List.foldl_cons, seen_at x l _ (hD.put _ _)]
    by_cases h : x ∈ l
    · rw [if_pos h, if_pos (by simp [h])]
    · rw [if_neg h]
      by_cases e : x = y
      · subst e
        rw [if_pos (by simp), atKey_put_same hD (by first | trivial | exact ⟨_, rfl⟩ | simp)]
      · rw [if_neg (by simp [h, e]), atKey_put_other (by simpa using e)]
theorem seenD_at (l : List (List UInt8)) (x : List UInt8) : (seenD l).atKey (.string x) (.lit (.bool false)) = .lit (.bool (decide (x ∈ l))) := by
  unfold seenD
  rw [seen_at x l _ ⟨_, rfl⟩]
  by_cases h : x ∈ l
  · simp [h]
  · rw [if_neg h, decide_eq_false h]; rfl
/-- strings are not longer than memory lets them be -/
def T.brief : T → Prop
  | .nil => True
  | .cons _ _ _ s l ns r => (s.size ≤ 1125899906842624 ∧ (∀ x ∈ ns, x.size ≤ 1125899906842624) ∧ l.brief) ∧ r.brief
def V.brief (x : V) : Prop := x.s.size ≤ 1125899906842624 ∧ (∀ y ∈ x.ns, y.size ≤ 1125899906842624) ∧ x.l.brief
theorem T.brief_app : ∀ (a b : T), (a.app b).brief → a.brief ∧ b.brief
  | .nil, _, h => ⟨trivial, h⟩
  | .cons _ _ _ _ _ _ r, b, h => ⟨⟨h.1, (T.brief_app r b h.2).1⟩, (T.brief_app r b h.2).2⟩
theorem seen_any (a : List ByteArray) (x : ByteArray) : (a.reverse.any fun y => decide (y.data.toList = x.data.toList)) = decide (x.data.toList ∈ a.map fun y => y.data.toList) := by
  rw [Bool.eq_iff_iff, List.any_eq_true, decide_eq_true_iff, List.mem_map]
  constructor
  · rintro ⟨y, h1, h2⟩
    exact ⟨y, List.mem_reverse.1 h1, of_decide_eq_true h2⟩
  · rintro ⟨y, h1, h2⟩
    exact ⟨y, List.mem_reverse.2 h1, decide_eq_true h2⟩
theorem mayT_app : ∀ (a b : T), mayT (a.app b) = (mayT a && mayT b)
  | .nil, b => by simp [T.app, mayT]
  | .cons _ _ _ _ _ _ r, b => by simp only [T.app, mayT, mayT_app r b, Bool.and_assoc]
theorem mayT_cons (k : Nat) (b : Bool) (n : Int) (s : ByteArray) (l : T) (ns : List ByteArray) (r : T) : mayT (.cons k b n s l ns r) = ((⟨k, b, n, s, l, ns⟩ : V).may && mayT r) := rfl
end J
theorem lawJ : Keyed Tryz.prog 9 := string_keyed Tryz.underlying9
theorem zeroBoolJ (w : World) : (zeroValue 4).run Tryz.prog w = .ok (.bool false) w := by kernel_rfl
theorem plainBoolJ {v : Value} {q : Bool} {ps : List MemPlace} (h : plainElem (H := Unit) Tryz.prog 4 v = some (.lit (.bool q), ps)) : v = .bool q := by
  cases v <;> simp [plainElem, Tryz.underlying4] at h
  rw [h.1]
theorem mapJ_below {P : Program} {k : TypeId} {R : Value → Option (DataW Unit × List MemPlace)} {b n : Nat} {D : DataW Unit} {w w' : World} (h : w.ownsMap P k R b n D) (hb : Below w.heap.size w w') : w'.ownsMap P k R b n D :=
  h.kept (row := none) ⟨hb.os, hb.tape, hb.output, hb.size, fun k hk _ => hb.block k hk⟩ (by simp)
theorem Tabs.under {w W : World} (h : Tabs w) (hb : Below w.heap.size w W) : Tabs W := h.below hb h.size.1 h.size.2
def MayC (x : J.V) : Prop := x.small → x.brief → ∀ (w : World) (P : Nat → Prop) (cs : List Value), Tabs w → x.Has w P cs → (∀ b, P b → b < w.heap.size) → Calls Tryz.prog 40 #[.agg cs.toArray] w fun e w' => e = .returned (.bool x.may) ∧ Below w.heap.size w w'
theorem enters65 : ∀ args W, (callFunc 65 args).run Tryz.prog W = .ok (.enter 65 args) W := enters_of Tryz.func65 (by kernel_rfl) rfl
set_option maxRecDepth 100000 in
theorem may1_any (x : J.V) (hC : MayC x) (h1 : x.small) (h2 : x.brief) (w : World) (P : Nat → Prop) (cs : List Value) (hT : Tabs w) (hh : x.Has w P cs) (hP : ∀ b, P b → b < w.heap.size) :
    Calls Tryz.prog 65 #[.agg cs.toArray] w fun e w' => e = .returned (.bool (!x.may)) ∧ Below w.heap.size w w' := by
  obtain ⟨k2, b2, n2, s2, a1, l2, c1, a2, m2, c2, rfl⟩ := Shape.of hh
  obtain ⟨w1, hw1⟩ : ∃ w1, w.alloc (.cells #[.int .u8 k2, .bool b2, .int .i64 n2, .string s2, .slice a1 l2 c1, .slice a2 m2 c2] 25) = w1 := ⟨_, rfl⟩
  have hb1 : Below w.heap.size w w1 := by rw [← hw1]; exact (Below.refl _ w).alloc (Nat.le_refl _) _
  have hv1 : w1.heap[w.heap.size]? = some (.cells #[.int .u8 k2, .bool b2, .int .i64 n2, .string s2, .slice a1 l2 c1, .slice a2 m2 c2] 25 (0, 0)) := by rw [← hw1]; exact heap_alloc_new w _
  have cM := hC h1 h2 w1 P [.int .u8 k2, .bool b2, .int .i64 n2, .string s2, .slice a1 l2 c1, .slice a2 m2 c2] (hT.under hb1) (J.V.Has.keep (fun _ h => h) (fun b h => hb1.block b (hP b h)) hh) (fun b h => Nat.lt_of_lt_of_le (hP b h) hb1.size)
  obtain ⟨q, hq⟩ : ∃ q, x.may = q := ⟨_, rfl⟩
  rw [hq] at cM ⊢
  have HB := hid hb1
  have HW1 := hid hw1
  obtain ⟨x0, x1, x2, x3, x4, x5⟩ := x6_of hv1
  clear hb1 hw1 hv1 hh hC hT hP hq
  go_enter Tryz.func65, Tryz.ntmps65
  go_upto_region 1 with fail
  rw [HW1.out]
  clear HW1
  go_wp2_with fail
  refine cM.mono ?_
  rintro e w2 ⟨rfl, hb⟩
  have HB2 := hid (HB.out.trans (hb.mono HB.out.size))
  clear hb cM
  go_wp2_with fail
  go_ret
  exact ⟨by cases q <;> rfl, HB2.out⟩
/-- the place of the first that may not be, or -1 -/
def FirstOf (b : Bool) (w : World) (e : Ending) (W : World) : Prop := ((∃ i : Nat, e = .returned (.int .i64 i) ∧ b = false) ∨ (e = .returned (.int .i64 (-1)) ∧ b = true)) ∧ Below w.heap.size w W
set_option maxRecDepth 100000 in
set_option maxHeartbeats 2000000 in
theorem indexFunc_any (l : J.T) (hall : l.All MayC) (h0 : l.length ≤ 100000000000) (h1 : l.small) (h2 : l.brief) (w : World) (P : Nat → Prop) (lv : Value) (hT : Tabs w) (hl : l.In w P lv) (hPP : ∀ b, P b → b < w.heap.size) :
    Calls Tryz.prog 83 #[lv, .func (.func 65) #[] #[]] w (FirstOf (J.mayT l) w) := by
  obtain ⟨la, lc, rfl⟩ := hl.shape
  obtain ⟨g, o, hgo⟩ := in_addr hl
  have HT : Hid ((l ≠ .nil → l.At w P g (o + 0 * 6)) ∧ Below w.heap.size w w) := ⟨fun hne => by rw [Nat.zero_mul, Nat.add_zero]; exact (hgo hne).2.2, Below.refl _ _⟩
  obtain ⟨len, hlen⟩ : ∃ len, l.length = len := ⟨_, rfl⟩
  have HGO := hid hgo
  rw [hlen] at h0 HGO ⊢
  have HLEN := hid hlen
  have HPP := hid hPP
  have HALL := hid hall
  have HSM := hid h1
  have HBR := hid h2
  have HTB := hid hT
  have hE := enters65
  clear hl hgo hlen hPP hall h1 h2 hT
  go_enter Tryz.func83, Tryz.ntmps83
  go_wp2_with fail
  go_loopw [8] (fun vi wr => ∃ (i : Nat), i ≤ len ∧ vi = .int .i64 i ∧ ∃ (t1 t2 : J.T), Hid (J.mayT t1 = true) ∧ Hid (t1.app t2 = l ∧ t1.length = i) ∧ Hid ((t2 ≠ .nil → t2.At wr P g (o + i * 6)) ∧ Below w.heap.size w wr)) (fun vi _ => len - (intOf vi).toNat)
  case atStart => exact ⟨0, Nat.zero_le _, rfl, .nil, l, rfl, hid ⟨rfl, rfl⟩, HT⟩
  case round =>
    obtain ⟨i, hi, rfl, t1, t2, HM, HA, HI⟩ := hrel
    clear HT
    by_cases hlt : i < len
    · have d0 : decide ((i : Int) < (len : Int)) = true := decide_eq_true (by omega)
      have d1 : decide (i < len) = true := decide_eq_true (by omega)
      have hlen2 : t1.length + t2.length = len := by rw [← HLEN.out, ← HA.out.1, J.T.app_length]
      cases t2 with
      | nil => have := HA.out.2; simp [J.T.length] at hlen2; omega
      | cons k1 b1 v1 s1 l1 ns1 r =>
        obtain ⟨_, y0, y1, y2, y3, ⟨lv1, y4, hl1⟩, ⟨nv1, y5, hn1⟩, hr⟩ := HI.out.1 (fun h => by cases h)
        have hl1' : l1.In wr P lv1 := by
          rcases hl1 with hl | ⟨g', o', c, h6, h7, h8, h9⟩
          · exact Or.inl hl
          · exact Or.inr ⟨g', o', c, h6, h7, h8, h9⟩
        obtain ⟨al, cl, rfl⟩ := hl1'.shape
        obtain ⟨an, cn, rfl⟩ := hn1.shape
        obtain ⟨hga, hgc, -⟩ := HGO.out (fun h => by have := HLEN.out; rw [h] at this; simp [J.T.length] at this; omega)
        subst hga
        have cM := may1_any ⟨k1, b1, v1, s1, l1, ns1⟩ (J.T.All.app (p := MayC) t1 (.cons k1 b1 v1 s1 l1 ns1 r) (by rw [HA.out.1]; exact HALL.out)).2.1 (J.T.small_app t1 (.cons k1 b1 v1 s1 l1 ns1 r) (by rw [HA.out.1]; exact HSM.out)).2.1 (J.T.brief_app t1 (.cons k1 b1 v1 s1 l1 ns1 r) (by rw [HA.out.1]; exact HBR.out)).2.1
          wr P [.int .u8 k1, .bool b1, .int .i64 v1, .string s1, .slice al l1.length cl, .slice an ns1.length cn] (HTB.out.under HI.out.2) ⟨_, _, rfl, hl1', hn1⟩ (fun j hj => Nat.lt_of_lt_of_le (HPP.out j hj) HI.out.2.size)
        obtain ⟨q, hq⟩ : ∃ q, (⟨k1, b1, v1, s1, l1, ns1⟩ : J.V).may = q := ⟨_, rfl⟩
        rw [hq] at cM
        have HQ := hid hq
        have HR := hid hr
        have hi0 : (0 : Int) ≤ (i : Int) := by omega
        have hi1 : (i : Int) < (len : Int) := by omega
        clear hl1 hl1' hn1 hr hlen2 hq
        cases q
        · rw [Bool.not_false] at cM
          go_wp2_with fail
          refine cM.mono ?_
          rintro e w2 ⟨rfl, hb⟩
          have HB := hid (HI.out.2.trans (hb.mono HI.out.2.size))
          clear hb cM y0 y1 y2 y3 y4 y5
          go_wp2_with fail
          go_ret
          exact ⟨Or.inl ⟨i, rfl, by rw [← HA.out.1, J.mayT_app, J.mayT_cons, HQ.out]; simp⟩, HB.out⟩
        · rw [Bool.not_true] at cM
          go_wp2_with fail
          refine cM.mono ?_
          rintro e w2 ⟨rfl, hb⟩
          have HB := hid (HI.out.2.trans (hb.mono HI.out.2.size))
          have HR2 := hid (J.T.At.keep (fun _ h => h) (fun j hj => hb.block j (Nat.lt_of_lt_of_le (HPP.out j hj) HI.out.2.size)) _ _ _ HR.out)
          clear hb cM y0 y1 y2 y3 y4 y5
          go_wp2_with fail
          go_roundw
          case rel =>
            refine ⟨i + 1, by omega, by go_num, t1.snoc ⟨k1, b1, v1, s1, l1, ns1⟩, r, ?_, hid ⟨?_, ?_⟩, hid ⟨fun _ => by rw [show o + (i + 1) * 6 = o + i * 6 + 6 by omega]; exact HR2.out, HB.out⟩⟩
            · show J.mayT _ = _
              unfold J.T.snoc
              rw [J.mayT_app, HM.out]
              unfold J.V.one
              rw [J.mayT_cons, HQ.out]; rfl
            · rw [← HA.out.1]; unfold J.T.snoc; rw [J.T.app_assoc]; rfl
            · rw [J.T.snoc_length, HA.out.2]
          case measure => simp [intOf]; omega
    · have d0 : decide ((i : Int) < (len : Int)) = false := decide_eq_false (by omega)
      have d1 : decide (i < len) = false := decide_eq_false (by omega)
      have ht2 : t2 = .nil := T_nil (by have := HA.out.2; have := HLEN.out; rw [← HA.out.1, J.T.app_length] at this; omega)
      subst ht2
      have hl : t1 = l := by rw [← HA.out.1, J.T.app_nil]
      have HF : Hid (J.mayT l = true) := by show _ = _; rw [← hl]; exact HM.out
      clear HA hl hlt
      go_wp2_with fail
      go_ret
      exact ⟨Or.inr ⟨rfl, HF.out⟩, HI.out.2⟩
set_option maxRecDepth 100000 in
theorem containsFunc_any (l : J.T) (hall : l.All MayC) (h0 : l.length ≤ 100000000000) (h1 : l.small) (h2 : l.brief) (w : World) (P : Nat → Prop) (lv : Value) (hT : Tabs w) (hl : l.In w P lv) (hPP : ∀ b, P b → b < w.heap.size) :
    Calls Tryz.prog 64 #[lv, .func (.func 65) #[] #[]] w fun e w' => e = .returned (.bool (!J.mayT l)) ∧ Below w.heap.size w w' := by
  have cI := indexFunc_any l hall h0 h1 h2 w P lv hT hl hPP
  obtain ⟨q, hq⟩ : ∃ q, J.mayT l = q := ⟨_, rfl⟩
  rw [hq] at cI ⊢
  clear hq hall hT hl hPP
  go_enter Tryz.func64, Tryz.ntmps64
  go_wp2_with fail
  refine cI.mono ?_
  rintro e w2 ⟨⟨i, rfl, rfl⟩ | ⟨rfl, rfl⟩, hb⟩
  · have d : decide ((0 : Int) ≤ (i : Int)) = true := decide_eq_true (by omega)
    have HB := hid hb
    clear hb cI
    go_wp2_with fail
    go_ret
    exact ⟨rfl, HB.out⟩
  · have HB := hid hb
    clear hb cI
    go_wp2_with fail
    go_ret
    exact ⟨rfl, HB.out⟩
end Go.Proofs.YtphjfighamadgaaGreatDoor
