/- Print: a value's text, or why there is none. -/
import Derived.Test.YtphjfighamadgaaGreatDoorJA9
import Derived.Test.YtphjfighamadgaaGreatDoorJCheck
import Derived.Lib.AppendIntMem
namespace Go.Proofs.YtphjfighamadgaaGreatDoor
open Go.RowKit
open Go.Lib (hid validD)
set_option maxRecDepth 100000 in
set_option maxHeartbeats 1000000 in
theorem len_any (B b : Nat) (l : List UInt8) (w : World) (h : Holds B b l w) :
    Calls Tryz.prog 35 #[.pointer (some ⟨b, 0, none⟩)] w fun e w' => e = .returned (.int .i64 l.length) ∧ w' = w := by
  obtain ⟨p, hB, v, hbk, hown, hne⟩ : ∃ p, Lib.BuilderAtF 69 5 B b p (Lib.byteCells l) w := by
    rcases h with h | h
    · exact ⟨_, h⟩
    · exact ⟨_, h⟩
  obtain ⟨ao, cap, rfl⟩ : ∃ ao cap, v = .slice ao l.length cap := by
    rcases hown.2 with ⟨hv, h0⟩ | ⟨g, cap, cur, fz, hv, _⟩
    · rw [Lib.byteCells_length] at h0; exact ⟨none, 0, by rw [hv, h0]⟩
    · rw [Lib.byteCells_length] at hv; exact ⟨_, _, hv⟩
  have c1 : w.cell? ⟨b, 1, none⟩ = some (.slice ao l.length cap) := by rw [Lib.cell_of_heap hbk]; rfl
  clear hne hown hbk hB h
  go_enter Tryz.func35, Tryz.ntmps35
  go_wp2_with fail
  go_ret
  exact ⟨rfl, rfl⟩
def PrintOf (x : J.V) (w : World) (e : Ending) (W : World) : Prop := e = .returned (.tuple #[.string ⟨x.print.1.toArray⟩, .int .i64 x.print.2]) ∧ Below w.heap.size w W
set_option maxRecDepth 100000 in
set_option maxHeartbeats 2000000 in
theorem print_any (x : J.V) (h1 : x.small) (h2 : x.brief) (h3 : x.deep ≤ 1000000000) (h4 : x.num) (h5 : 6 * x.show.length + 2 ≤ 10000000000000) (w : World) (P : Nat → Prop) (cs : List Value) (hT : Tabs w) (hZ : Tz w) (hW : Pw w) (hh : x.Has w P cs) (hP : ∀ b, P b → b < w.heap.size) :
    Calls Tryz.prog 13 #[.agg cs.toArray] w (PrintOf x w) := by
  obtain ⟨k2, b2, n2, s2, a1, l2, c1, a2, m2, c2, rfl⟩ := Shape.of hh
  obtain ⟨w1, hw1⟩ : ∃ w1, w.alloc (.cells #[.int .u8 k2, .bool b2, .int .i64 n2, .string s2, .slice a1 l2 c1, .slice a2 m2 c2] 25) = w1 := ⟨_, rfl⟩
  have hb1 : Below w.heap.size w w1 := by rw [← hw1]; exact (Below.refl _ w).alloc (Nat.le_refl _) _
  have hv1 : w1.heap[w.heap.size]? = some (.cells #[.int .u8 k2, .bool b2, .int .i64 n2, .string s2, .slice a1 l2 c1, .slice a2 m2 c2] 25 (0, 0)) := by rw [← hw1]; exact heap_alloc_new w _
  have hs1 : w1.heap.size = w.heap.size + 1 := by rw [← hw1]; simp
  have cC := check_any x h1 h2 h3 w1 P [.int .u8 k2, .bool b2, .int .i64 n2, .string s2, .slice a1 l2 c1, .slice a2 m2 c2] (hT.under hb1) (J.V.Has.keep (fun _ h => h) (fun b h => hb1.block b (hP b h)) hh) (fun b h => Nat.lt_of_lt_of_le (hP b h) hb1.size)
  have HB := hid hb1
  have HH := hid hh
  have HP := hid hP
  have HW1 := hid hw1
  have HV := hid hv1
  have HZ : Hid (∀ W, Below w.heap.size w W → Tz W ∧ Pw W) := fun W h => ⟨hZ.keep h, Lib.tabBelow_of_tabIs hW W h⟩
  obtain ⟨x0, x1, x2, x3, x4, x5⟩ := x6_of hv1
  have HC : Hid (x.print = (if J.check x = 0 then (if 65536 < x.show.length then ([], 3) else (x.show, 0)) else ([], J.check x))) := rfl
  have HCK : Hid (J.check x = if x.may then (if 16 < x.deep then 84 else 0) else 1) := rfl
  unfold PrintOf
  obtain ⟨RES, hRES⟩ : ∃ r, x.print = r := ⟨_, rfl⟩
  rw [hRES] at HC ⊢
  obtain ⟨q, hq⟩ : ∃ q, J.check x = q := ⟨_, rfl⟩
  rw [hq] at cC HC HCK
  clear hb1 hw1 hv1 hh hT hP hRES hZ hW hq
  go_enter Tryz.func13, Tryz.ntmps13
  go_upto_region 1 with fail
  rw [HW1.out]
  clear HW1
  go_wp2_with fail
  by_cases hm : ¬ x.may = true
  · have hq : q = 1 := by rw [HCK.out, if_neg hm]
    subst hq
    have HE : Hid (RES = ([], 1)) := by show _ = _; rw [HC.out]; rfl
    clear hm HCK
    refine cC.mono ?_
    rintro e w2 ⟨rfl, hb⟩
    have HB2 := hid (HB.out.trans (hb.mono HB.out.size))
    clear hb cC x0 x1 x2 x3 x4 x5
    go_wp2_with fail
    go_ret2
    exact ⟨by rw [HE.out]; rfl, HB2.out⟩
  have hm : x.may = true := Classical.byContradiction hm
  by_cases hd : 16 < x.deep
  · have hq : q = 84 := by rw [HCK.out, if_pos hm, if_pos hd]
    subst hq
    have HE : Hid (RES = ([], 84)) := by show _ = _; rw [HC.out]; rfl
    clear hm hd HCK
    refine cC.mono ?_
    rintro e w2 ⟨rfl, hb⟩
    have HB2 := hid (HB.out.trans (hb.mono HB.out.size))
    clear hb cC x0 x1 x2 x3 x4 x5
    go_wp2_with fail
    go_ret2
    exact ⟨by rw [HE.out]; rfl, HB2.out⟩
  have hq : q = 0 := by rw [HCK.out, if_pos hm, if_neg hd]
  subst hq
  have HM := hid hm
  have HE : Hid (RES = if 65536 < x.show.length then ([], 3) else (x.show, 0)) := by show _ = _; rw [HC.out, if_pos rfl]
  clear hm hd HCK HC
  refine cC.mono ?_
  rintro e w2 ⟨rfl, hb⟩
  have HB2 := hid (HB.out.trans (hb.mono HB.out.size))
  have HV2 := hid ((hb.block _ (Go.lt_of_block HV.out)).trans HV.out)
  have HS2 : Hid (w.heap.size + 1 ≤ w2.heap.size) := by show _ ≤ _; have := hb.size; omega
  clear hb cC x0 x1 x2 x3 x4 x5 hs1
  go_upto_region 5 with fail
  obtain ⟨w3, hw3⟩ : ∃ w3, w2.alloc (.cells #[.pointer none, .slice none 0 0] 69) = w3 := ⟨_, rfl⟩
  obtain ⟨B, hB⟩ : ∃ B, w2.heap.size = B := ⟨_, rfl⟩
  have HO3 : Hid (Holds B B [] w3) := by show Holds _ _ _ _; rw [← hw3, ← hB]; exact holds_fresh w2
  have hb3 : Below w2.heap.size w2 w3 := by rw [← hw3]; exact (Below.refl _ w2).alloc (Nat.le_refl _) _
  have HV3 := hid ((hb3.block _ (Go.lt_of_block HV2.out)).trans HV2.out)
  have HBB : Hid (w.heap.size + 1 ≤ B) := by show _ ≤ _; have := HS2.out; omega
  have HB3 := hid (HB2.out.trans (hb3.mono HB2.out.size))
  rw [hw3, hB]
  obtain ⟨x0, x1, x2, x3, x4, x5⟩ := x6_of HV3.out
  have cW := write_any x h1 h4 HM.out w3 B B [] P _ HO3.out (J.V.Has.keep (fun _ h => h) (fun b h => HB3.out.block b (HP.out b h)) HH.out) (fun b h => by have := HP.out b h; have := HBB.out; omega) (fun W hW => HZ.out W (HB3.out.trans (hW.mono (by have := HBB.out; omega)))) (by simp only [List.length_nil]; omega)
  clear hw3 hB hb3 HV2 HV
  go_wp2_with fail
  refine cW.mono ?_
  rintro e w4 ⟨rfl, h1', h2', h3'⟩
  rw [List.nil_append] at h1'
  have HO4 := hid h1'
  have HB4 := hid (HB3.out.trans (h2'.mono (by have := HBB.out; omega)))
  obtain ⟨SH, hSH⟩ : ∃ l, x.show = l := ⟨_, rfl⟩
  rw [hSH] at HO4 HE
  clear h1' h2' h3' cW x0 x1 x2 x3 x4 x5 hSH h5
  go_wp2_with fail
  refine (len_any B B SH w4 HO4.out).mono ?_
  rintro e w5 ⟨rfl, hw⟩
  rw [hw]
  clear hw
  by_cases hb : 65536 < SH.length
  · have t0 : decide ((65536 : Int) < (SH.length : Int)) = true := decide_eq_true (by omega)
    have t1 : decide (65536 < SH.length) = true := decide_eq_true hb
    have HE2 : Hid (RES = ([], 3)) := by show _ = _; rw [HE.out, if_pos hb]
    clear HE hb
    go_wp2_with fail
    go_ret2
    exact ⟨by rw [HE2.out]; rfl, HB4.out⟩
  · have t0 : decide ((65536 : Int) < (SH.length : Int)) = false := decide_eq_false (by omega)
    have t1 : decide (65536 < SH.length) = false := decide_eq_false hb
    have HE2 : Hid (RES = (SH, 0)) := by show _ = _; rw [HE.out, if_neg hb]
    clear HE hb
    have cS := string_any B B SH w4 HO4.out (Holds.bw HO4.out)
    go_wp2_with fail
    refine cS.mono ?_
    rintro e w6 ⟨rfl, h1', h2', h3'⟩
    have HB6 := hid (HB4.out.trans (h2'.mono (by have := HBB.out; omega)))
    clear h1' h2' h3' cS
    go_wp2_with fail
    go_ret2
    exact ⟨by rw [HE2.out]; rfl, HB6.out⟩
end Go.Proofs.YtphjfighamadgaaGreatDoor
