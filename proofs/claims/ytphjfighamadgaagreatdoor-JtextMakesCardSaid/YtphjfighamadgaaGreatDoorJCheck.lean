/- may and Check: of any value. -/
import Derived.Test.YtphjfighamadgaaGreatDoorJMay2
import Derived.Test.YtphjfighamadgaaGreatDoorJMay3
import Derived.Test.YtphjfighamadgaaGreatDoorJMay4
namespace Go.Proofs.YtphjfighamadgaaGreatDoor
open Go.RowKit Go.Maps
open Go.Lib (hid validD)
theorem may_any (x : J.V) : MayC x := J.V.of (fun x hall => by
  obtain ⟨k, b, n, s, l, ns⟩ := x
  by_cases h1 : k < 1
  · exact may_low k b n s l ns hall h1
  by_cases h6 : 6 < k
  · exact may_high k b n s l ns hall h6
  rcases (by omega : k = 1 ∨ k = 2 ∨ k = 3 ∨ k = 4 ∨ k = 5 ∨ k = 6) with h | h | h | h | h | h
  · cases hb : b
    · exact may_1f k false n s l ns hall h rfl
    · exact may_b1 k true n s l ns hall h rfl
  · cases hb : b
    · exact may_2f k false n s l ns hall h rfl
    · exact may_2t k true n s l ns hall h rfl
  · cases hb : b
    · exact may_3f k false n s l ns hall h rfl
    · exact may_b3 k true n s l ns hall h rfl
  · cases hb : b
    · exact may_4f k false n s l ns hall h rfl
    · exact may_b4 k true n s l ns hall h rfl
  · cases hb : b
    · exact may_5f k false n s l ns hall h rfl
    · exact may_b5 k true n s l ns hall h rfl
  · cases hb : b
    · exact may_6f k false n s l ns hall h rfl
    · exact may_b6 k true n s l ns hall h rfl) x
set_option maxRecDepth 100000 in
/-- Check -/
theorem check_any (x : J.V) (h1 : x.small) (h2 : x.brief) (h3 : x.deep ≤ 1000000000) (w : World) (P : Nat → Prop) (cs : List Value) (hT : Tabs w) (hh : x.Has w P cs) (hP : ∀ b, P b → b < w.heap.size) :
    Calls Tryz.prog 24 #[.agg cs.toArray] w fun e w' => e = .returned (.int .i64 (J.check x)) ∧ Below w.heap.size w w' := by
  obtain ⟨k2, b2, n2, s2, a1, l2, c1, a2, m2, c2, rfl⟩ := Shape.of hh
  obtain ⟨w1, hw1⟩ : ∃ w1, w.alloc (.cells #[.int .u8 k2, .bool b2, .int .i64 n2, .string s2, .slice a1 l2 c1, .slice a2 m2 c2] 25) = w1 := ⟨_, rfl⟩
  have hb1 : Below w.heap.size w w1 := by rw [← hw1]; exact (Below.refl _ w).alloc (Nat.le_refl _) _
  have hv1 : w1.heap[w.heap.size]? = some (.cells #[.int .u8 k2, .bool b2, .int .i64 n2, .string s2, .slice a1 l2 c1, .slice a2 m2 c2] 25 (0, 0)) := by rw [← hw1]; exact heap_alloc_new w _
  have cM := may_any x h1 h2 w1 P [.int .u8 k2, .bool b2, .int .i64 n2, .string s2, .slice a1 l2 c1, .slice a2 m2 c2] (hT.under hb1) (J.V.Has.keep (fun _ h => h) (fun b h => hb1.block b (hP b h)) hh) (fun b h => Nat.lt_of_lt_of_le (hP b h) hb1.size)
  have HB := hid hb1
  have HH := hid hh
  have HP := hid hP
  have HW1 := hid hw1
  have HV := hid hv1
  have HC : Hid (J.check x = if x.may then (if 16 < x.deep then 84 else 0) else 1) := rfl
  obtain ⟨RES, hRES⟩ : ∃ r, J.check x = r := ⟨_, rfl⟩
  rw [hRES] at HC ⊢
  obtain ⟨q, hq⟩ : ∃ q, x.may = q := ⟨_, rfl⟩
  rw [hq] at cM HC
  obtain ⟨x0, x1, x2, x3, x4, x5⟩ := x6_of hv1
  clear hb1 hw1 hv1 hh hT hP hq hRES
  go_enter Tryz.func24, Tryz.ntmps24
  go_upto_region 1 with fail
  rw [HW1.out]
  clear HW1
  go_wp2_with fail
  refine cM.mono ?_
  rintro e w2 ⟨rfl, hb⟩
  have HB2 := hid (HB.out.trans (hb.mono HB.out.size))
  have hv2 := (hb.block _ (Go.lt_of_block HV.out)).trans HV.out
  clear hb cM x0 x1 x2 x3 x4 x5
  cases q
  · have HE : Hid (RES = 1) := HC.out
    clear hv2
    go_wp2_with fail
    go_ret
    exact ⟨by rw [HE.out]; rfl, HB2.out⟩
  · obtain ⟨x0, x1, x2, x3, x4, x5⟩ := x6_of hv2
    have cD := depth_any x h1 h3 w2 P [.int .u8 k2, .bool b2, .int .i64 n2, .string s2, .slice a1 l2 c1, .slice a2 m2 c2] (J.V.Has.keep (fun _ h => h) (fun b h => HB2.out.block b (HP.out b h)) HH.out) (fun b h => Nat.lt_of_lt_of_le (HP.out b h) HB2.out.size)
    obtain ⟨d, hd⟩ : ∃ d, x.deep = d := ⟨_, rfl⟩
    rw [hd] at cD HC
    clear hv2 hd
    by_cases h16 : 16 < d
    · have HE : Hid (RES = 84) := by show _ = _; rw [HC.out, if_pos rfl, if_pos h16]
      have t0 : decide ((16 : Int) < (d : Int)) = true := decide_eq_true (by omega)
      have t1 : decide (16 < d) = true := decide_eq_true h16
      go_wp2_with fail
      refine cD.mono ?_
      rintro e w3 ⟨rfl, hb⟩
      have HB3 := hid (HB2.out.trans (hb.mono HB2.out.size))
      clear hb cD
      go_wp2_with fail
      go_ret
      exact ⟨by rw [HE.out]; rfl, HB3.out⟩
    · have HE : Hid (RES = 0) := by show _ = _; rw [HC.out, if_pos rfl, if_neg h16]
      have t0 : decide ((16 : Int) < (d : Int)) = false := decide_eq_false (by omega)
      have t1 : decide (16 < d) = false := decide_eq_false h16
      go_wp2_with fail
      refine cD.mono ?_
      rintro e w3 ⟨rfl, hb⟩
      have HB3 := hid (HB2.out.trans (hb.mono HB2.out.size))
      clear hb cD
      go_wp2_with fail
      go_ret
      exact ⟨by rw [HE.out]; rfl, HB3.out⟩
end Go.Proofs.YtphjfighamadgaaGreatDoor
