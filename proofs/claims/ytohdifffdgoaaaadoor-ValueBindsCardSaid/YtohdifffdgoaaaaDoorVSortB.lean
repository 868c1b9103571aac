/- Binds in order: the symmetric merge, the stable sort, value.Sorted. -/
import Derived.Test.YtohdifffdgoaaaaDoorVSortA
import Derived.Deep.DeepCutAuto
import Derived.Test.YtohdifffdgoaaaaDoorVClone
import Derived.Test.YtohdifffdgoaaaaDoorVBindsW
namespace Go.Proofs.YtohdifffdgoaaaaDoor
open Go.RowKit
open Go.Lib (hid)
open V Srt
set_option maxRecDepth 100000 in
set_option maxHeartbeats 2000000 in
theorem sym1_any (B g cap N a m b : Nat) (bs : List Bind) (w : World) (hN : bs.length = N) (hO : BOwn B bs (.slice (some ⟨g, 0, none⟩) N cap) w) (hm : a + 1 = m) (hmb : m < b) (hb : b ≤ N) (hl : N ≤ 10000000000000) (hR : On Bind.nm m b bs) :
    Calls Tryd.prog 99 #[(.slice (some ⟨g, 0, none⟩) N cap), .int .i64 a, .int .i64 m, .int .i64 b, (.func (.func 60) #[] #[])] w fun e w' =>
      e = .returned (.tuple #[]) ∧ Below B w w' ∧ ∃ cs, Mrg Bind.nm a b bs cs ∧ BOwn B cs (.slice (some ⟨g, 0, none⟩) N cap) w' := by
  have HN := hid hN
  have HO := hid hO
  have HB := hid (Below.refl B w)
  have HR := hid hR
  have hgB : B ≤ g := (World.ownsRow.lt hO g rfl).1
  have HM := hid hm
  clear hN hO hR
  have e1 : (m : Int) - (a : Int) = 1 := by omega
  have e2 : IntKind.i64.wrap ((m : Int) - (a : Int)) = 1 := by rw [IntKind.wrap_i64]; omega
  have ham : a < m := by omega
  clear hm
  go_enter Tryd.func99, Tryd.ntmps99
  go_wp2_with fail
  go_loopw [10, 11] (fun vi vj wr => ∃ (i j : Nat), vi = .int .i64 i ∧ vj = .int .i64 j ∧ m ≤ i ∧ i ≤ j ∧ j ≤ b ∧ Hid (S1 Bind.nm bs a b i j ∧ BOwn B bs (.slice (some ⟨g, 0, none⟩) N cap) wr ∧ Below B w wr)) (fun vi vj _ => (intOf vj).toNat - (intOf vi).toNat)
  case atStart => exact ⟨m, b, rfl, rfl, Nat.le_refl _, by omega, Nat.le_refl _, hid ⟨by have h := HM.out; subst h; exact S1.start, HO.out, HB.out⟩⟩
  case round =>
    obtain ⟨i, j, rfl, rfl, hmi, hij, hjb, hS⟩ := hrel
    clear HO HB e1 e2
    have HCN := hid HN.out
    by_cases hlt : i < j
    · have hl0 : decide ((i : Int) < (j : Int)) = true := by simp; omega
      obtain ⟨h, hh⟩ : ∃ h, (i + j) / 2 = h := ⟨_, rfl⟩
      have e3 : ((i : Int) + (j : Int)) / 2 = (h : Int) := by omega
      have hih : i ≤ h := by omega
      have hhj : h < j := by omega
      have e4 : IntKind.i64.wrap (h : Int) = (h : Int) := wrapN h (by omega)
      clear hh
      have HXI := hid (show h < N by omega)
      have HYI := hid (show a < N by omega)
      obtain ⟨⟨xn, ⟨xk, xi, xb, xs⟩⟩, hx⟩ : ∃ x, bs[h]? = some x := ⟨_, List.getElem?_eq_getElem (by rw [HCN.out]; exact HXI.out)⟩
      obtain ⟨⟨yn, ⟨yk, yi, yb, ys⟩⟩, hy⟩ : ∃ x, bs[a]? = some x := ⟨_, List.getElem?_eq_getElem (by rw [HCN.out]; exact HYI.out)⟩
      have hX := hid hx
      have hY := hid hy
      clear hx hy
      have P0 : (0 : Int) ≤ (h : Int) := by omega
      have Q0 : (0 : Int) ≤ (a : Int) := by omega
      have P1 : (h : Int) < (N : Int) := by omega
      have Q1 : (a : Int) < (N : Int) := by omega
      obtain ⟨R, hR⟩ : ∃ R, ordS xn yn = R := ⟨_, rfl⟩
      have hRn : decide (R < 0) = decide (Bind.nm ⟨xn, ⟨xk, xi, xb, xs⟩⟩ < Bind.nm ⟨yn, ⟨yk, yi, yb, ys⟩⟩) := by rw [← hR]; exact ordS_neg ⟨xn, ⟨xk, xi, xb, xs⟩⟩ ⟨yn, ⟨yk, yi, yb, ys⟩⟩
      have cB : ∀ U, Calls Tryd.prog 60 #[.agg #[.string xn, .int .u8 xk, .int .i64 xi, .bool xb, .string xs], .agg #[.string yn, .int .u8 yk, .int .i64 yi, .bool yb, .string ys]] U fun e w' => e = .returned (.int .i64 R) ∧ Below U.heap.size U w' := fun U => by
        have := byName_any ⟨xn, ⟨xk, xi, xb, xs⟩⟩ ⟨yn, ⟨yk, yi, yb, ys⟩⟩ U
        rw [hR] at this
        exact this
      have HRN := hid hRn
      have HCB := hid cB
      clear hR hRn cB
      go_upto_region 5 with fail
      refine quiet_lit (C := fun w' => Hid (BOwn B bs (.slice (some ⟨g, 0, none⟩) N cap) w' ∧ Below B w w')) (by kernel_rfl) (by kernel_rfl) (hid ⟨BOwn.drew hS.out.2.1, (hS.out.2.2).drew⟩) ?_
      repeat (first
        | go_big_quiet_skip
        | (go_big_quiet_want
           refine quiet_val (x := ?_) (fun vv hC => ?_) ?_
           rotate_left
           · skip
             obtain ⟨a0, a1, a2, a3, a4⟩ := bown_cells hC.out.1 HCN.out HXI.out hX.out
             obtain ⟨b0, b1, b2, b3, b4⟩ := bown_cells hC.out.1 HCN.out HYI.out hY.out
             clear hC
             go_simp
             with_reducible rfl
           go_big_quiet_on
           try simp only [Act.put, List.setIfInBounds_toArray, List.set_cons_zero, List.set_cons_succ])
        | (go_big_quiet_want
           refine quiet_call (f := ?_) (args := ?_) (x := ?_) (fun vv hC => ?_) (fun vv hC => ?_) ?_
           rotate_left 3
           · go_simp
             first | with_reducible rfl | (apply And.intro <;> with_reducible rfl)
           · first
               | (go_at_call 60; with_reducible refine (HCB.out _).mono ?_; rintro e ww ⟨rfl, bb⟩; refine And.intro ?_ (hid ⟨hC.out.1.below bb, hC.out.2.trans (bb.mono (bown_base hC.out.1))⟩); with_reducible rfl)
           go_big_quiet_on
           try simp only [Act.put, List.setIfInBounds_toArray, List.set_cons_zero, List.set_cons_succ]))
      refine wpQuiet_nil ?_
      intro vq hq
      by_cases hlt2 : Bind.nm ⟨xn, ⟨xk, xi, xb, xs⟩⟩ < Bind.nm ⟨yn, ⟨yk, yi, yb, ys⟩⟩
      · have t1 : decide (R < 0) = true := by rw [HRN.out]; exact decide_eq_true hlt2
        have t2 : R < 0 := of_decide_eq_true t1
        have HL := hid hlt2
        clear hlt2
        go_wp2_with fail
        go_roundw
        case rel => exact ⟨h + 1, j, by go_num, rfl, by omega, by omega, hjb, hid ⟨hS.out.1.up hX.out hY.out HL.out, hq.out.1, hq.out.2⟩⟩
        case measure => simp [intOf]; omega
      · have t1 : decide (R < 0) = false := by rw [HRN.out]; exact decide_eq_false hlt2
        have t2 : ¬ R < 0 := of_decide_eq_false t1
        have HL := hid hlt2
        clear hlt2
        go_wp2_with fail
        go_roundw
        case rel => exact ⟨i, h, rfl, rfl, hmi, hih, by omega, hid ⟨hS.out.1.down hX.out hY.out HL.out, hq.out.1, hq.out.2⟩⟩
        case measure => simp [intOf]; omega
    · have hl0 : decide ((i : Int) < (j : Int)) = false := by simp; omega
      obtain rfl : i = j := by omega
      obtain ⟨r, hr⟩ : ∃ r, i - 1 = r := ⟨_, rfl⟩
      have e3 : (i : Int) - 1 = (r : Int) := by omega
      have e4 : IntKind.i64.wrap (r : Int) = (r : Int) := wrapN r (by omega)
      go_wp2_with fail
      go_loopw [13] (fun vc wz => ∃ (c : Nat) (cs : List Bind), vc = .int .i64 c ∧ a ≤ c ∧ c ≤ r ∧ Hid (Rot a (a + 1) (c + 1) bs cs ∧ cs.length = N ∧ BOwn B cs (.slice (some ⟨g, 0, none⟩) N cap) wz ∧ Below B w wz)) (fun vc _ => r - (intOf vc).toNat)
      case atStart => exact ⟨a, bs, rfl, Nat.le_refl _, by omega, hid ⟨Rot.none (by omega) (by have := HN.out; omega), HN.out, hS.out.2⟩⟩
      case round =>
        obtain ⟨c, cs, rfl, hac, hcr, hT⟩ := hrel
        clear HCN
        have HCN := hid hT.out.2.1
        by_cases hcl : c < r
        · have hl1 : decide ((c : Int) < (r : Int)) = true := by simp; omega
          obtain ⟨q, hq⟩ : ∃ q, c + 1 = q := ⟨_, rfl⟩
          have e5 : (c : Int) + 1 = (q : Int) := by omega
          have e6 : IntKind.i64.wrap (q : Int) = (q : Int) := wrapN q (by omega)
          have HQ := hid hq
          have hqr : q ≤ r := by omega
          clear hq
          have HXI := hid (show c < N by omega)
          have HYI := hid (show q < N by omega)
          obtain ⟨⟨xn, ⟨xk, xi, xb, xs⟩⟩, hx⟩ : ∃ x, cs[c]? = some x := ⟨_, List.getElem?_eq_getElem (by rw [HCN.out]; exact HXI.out)⟩
          obtain ⟨⟨yn, ⟨yk, yi, yb, ys⟩⟩, hy⟩ : ∃ x, cs[q]? = some x := ⟨_, List.getElem?_eq_getElem (by rw [HCN.out]; exact HYI.out)⟩
          have hX := hid hx
          have hY := hid hy
          clear hx hy
          have P0 : (0 : Int) ≤ (c : Int) := by omega
          have Q0 : (0 : Int) ≤ (q : Int) := by omega
          have P1 : (c : Int) < (N : Int) := by omega
          have Q1 : (q : Int) < (N : Int) := by omega
          obtain ⟨a0, a1, a2, a3, a4⟩ := bown_cells hT.out.2.2.1 HCN.out HXI.out hX.out
          obtain ⟨b0, b1, b2, b3, b4⟩ := bown_cells hT.out.2.2.1 HCN.out HYI.out hY.out
          have hfz := bown_free hT.out.2.2.1 HCN.out
          have f0 := hfz (c * 5)
          have f1 := hfz (c * 5 + 1)
          have f2 := hfz (c * 5 + 2)
          have f3 := hfz (c * 5 + 3)
          have f4 := hfz (c * 5 + 4)
          have g0 := hfz (q * 5)
          have g1 := hfz (q * 5 + 1)
          have g2 := hfz (q * 5 + 2)
          have g3 := hfz (q * 5 + 3)
          have g4 := hfz (q * 5 + 4)
          clear hfz
          go_upto_region 11 with fail
          go_region
          go_wp2_with fail
          go_roundw
          case rel =>
            obtain rfl : c + 1 = q := HQ.out
            exact ⟨c + 1, _, by go_num, by omega, by omega, hid ⟨Rot.up hT.out.1 hac hX.out hY.out, by rw [List.length_set, List.length_set]; exact HCN.out, swap_own (x := ⟨xn, ⟨xk, xi, xb, xs⟩⟩) (y := ⟨yn, ⟨yk, yi, yb, ys⟩⟩) hT.out.2.2.1 HCN.out HXI.out HYI.out, swap_below (x := ⟨xn, ⟨xk, xi, xb, xs⟩⟩) (y := ⟨yn, ⟨yk, yi, yb, ys⟩⟩) hT.out.2.2.2 hgB⟩⟩
          case measure => simp [intOf]; omega
        · have hl1 : decide ((c : Int) < (r : Int)) = false := by simp; omega
          obtain rfl : c = r := by omega
          have HE : Hid (Mrg Bind.nm a b bs cs) := by
            have h := HM.out
            subst h
            have h1 : Rot a (a + 1) i bs cs := by
              have := hT.out.1
              rw [show c + 1 = i by omega] at this
              exact this
            exact hS.out.1.done (by rw [HN.out]; exact hb) hmi hjb HR.out h1
          go_wp2_with fail
          (try simp only [Exit.inBlock, Exit.then]); refine bodyPost_ret (results_none rfl _ _ _) rfl ?_
          exact ⟨rfl, hT.out.2.2.2, cs, HE.out, hT.out.2.2.1⟩
end Go.Proofs.YtohdifffdgoaaaaDoor
namespace Go.Proofs.YtohdifffdgoaaaaDoor
open Go.RowKit
open Go.Lib (hid)
open V Srt
set_option maxRecDepth 100000 in
set_option maxHeartbeats 2000000 in
theorem sym2_any (B g cap N a m b : Nat) (bs : List Bind) (w : World) (hN : bs.length = N) (hO : BOwn B bs (.slice (some ⟨g, 0, none⟩) N cap) w) (ham : a + 1 < m) (hm : m + 1 = b) (hb : b ≤ N) (hl : N ≤ 10000000000000) (hR : On Bind.nm a m bs) :
    Calls Tryd.prog 99 #[(.slice (some ⟨g, 0, none⟩) N cap), .int .i64 a, .int .i64 m, .int .i64 b, (.func (.func 60) #[] #[])] w fun e w' =>
      e = .returned (.tuple #[]) ∧ Below B w w' ∧ ∃ cs, Mrg Bind.nm a b bs cs ∧ BOwn B cs (.slice (some ⟨g, 0, none⟩) N cap) w' := by
  have HN := hid hN
  have HO := hid hO
  have HB := hid (Below.refl B w)
  have HR := hid hR
  have hgB : B ≤ g := (World.ownsRow.lt hO g rfl).1
  have HM := hid hm
  clear hN hO hR
  obtain ⟨d, hd⟩ : ∃ d, m - a = d := ⟨_, rfl⟩
  have e0 : (m : Int) - (a : Int) = (d : Int) := by omega
  have e1 : IntKind.i64.wrap (d : Int) = (d : Int) := wrapN d (by omega)
  have t0 : ((d : Int) == 1) = false := beq_eq_false_iff_ne.2 (by omega)
  have e2 : (b : Int) - (m : Int) = 1 := by omega
  have e3 : IntKind.i64.wrap ((b : Int) - (m : Int)) = 1 := by rw [IntKind.wrap_i64]; omega
  have hmb : m < b := by omega
  clear hm hd
  go_enter Tryd.func99, Tryd.ntmps99
  go_wp2_with fail
  go_loopw [14, 15] (fun vi vj wr => ∃ (i j : Nat), vi = .int .i64 i ∧ vj = .int .i64 j ∧ a ≤ i ∧ i ≤ j ∧ j ≤ m ∧ Hid (S2 Bind.nm bs a m i j ∧ BOwn B bs (.slice (some ⟨g, 0, none⟩) N cap) wr ∧ Below B w wr)) (fun vi vj _ => (intOf vj).toNat - (intOf vi).toNat)
  case atStart => exact ⟨a, m, rfl, rfl, Nat.le_refl _, by omega, Nat.le_refl _, hid ⟨S2.start, HO.out, HB.out⟩⟩
  case round =>
    obtain ⟨i, j, rfl, rfl, hmi, hij, hjb, hS⟩ := hrel
    clear HO HB e1 e2 e0 e3 t0
    have HCN := hid HN.out
    by_cases hlt : i < j
    · have hl0 : decide ((i : Int) < (j : Int)) = true := by simp; omega
      obtain ⟨h, hh⟩ : ∃ h, (i + j) / 2 = h := ⟨_, rfl⟩
      have e3 : ((i : Int) + (j : Int)) / 2 = (h : Int) := by omega
      have hih : i ≤ h := by omega
      have hhj : h < j := by omega
      have e4 : IntKind.i64.wrap (h : Int) = (h : Int) := wrapN h (by omega)
      clear hh
      have HXI := hid (show m < N by omega)
      have HYI := hid (show h < N by omega)
      obtain ⟨⟨xn, ⟨xk, xi, xb, xs⟩⟩, hx⟩ : ∃ x, bs[m]? = some x := ⟨_, List.getElem?_eq_getElem (by rw [HCN.out]; exact HXI.out)⟩
      obtain ⟨⟨yn, ⟨yk, yi, yb, ys⟩⟩, hy⟩ : ∃ x, bs[h]? = some x := ⟨_, List.getElem?_eq_getElem (by rw [HCN.out]; exact HYI.out)⟩
      have hX := hid hx
      have hY := hid hy
      clear hx hy
      have P0 : (0 : Int) ≤ (m : Int) := by omega
      have Q0 : (0 : Int) ≤ (h : Int) := by omega
      have P1 : (m : Int) < (N : Int) := by omega
      have Q1 : (h : Int) < (N : Int) := by omega
      obtain ⟨R, hR⟩ : ∃ R, ordS xn yn = R := ⟨_, rfl⟩
      have hRn : decide (R < 0) = decide (Bind.nm ⟨xn, ⟨xk, xi, xb, xs⟩⟩ < Bind.nm ⟨yn, ⟨yk, yi, yb, ys⟩⟩) := by rw [← hR]; exact ordS_neg ⟨xn, ⟨xk, xi, xb, xs⟩⟩ ⟨yn, ⟨yk, yi, yb, ys⟩⟩
      have cB : ∀ U, Calls Tryd.prog 60 #[.agg #[.string xn, .int .u8 xk, .int .i64 xi, .bool xb, .string xs], .agg #[.string yn, .int .u8 yk, .int .i64 yi, .bool yb, .string ys]] U fun e w' => e = .returned (.int .i64 R) ∧ Below U.heap.size U w' := fun U => by
        have := byName_any ⟨xn, ⟨xk, xi, xb, xs⟩⟩ ⟨yn, ⟨yk, yi, yb, ys⟩⟩ U
        rw [hR] at this
        exact this
      have HRN := hid hRn
      have HCB := hid cB
      clear hR hRn cB
      go_upto_region 17 with fail
      refine quiet_lit (C := fun w' => Hid (BOwn B bs (.slice (some ⟨g, 0, none⟩) N cap) w' ∧ Below B w w')) (by kernel_rfl) (by kernel_rfl) (hid ⟨BOwn.drew hS.out.2.1, (hS.out.2.2).drew⟩) ?_
      repeat (first
        | go_big_quiet_skip
        | (go_big_quiet_want
           refine quiet_val (x := ?_) (fun vv hC => ?_) ?_
           rotate_left
           · skip
             obtain ⟨a0, a1, a2, a3, a4⟩ := bown_cells hC.out.1 HCN.out HXI.out hX.out
             obtain ⟨b0, b1, b2, b3, b4⟩ := bown_cells hC.out.1 HCN.out HYI.out hY.out
             clear hC
             go_simp
             with_reducible rfl
           go_big_quiet_on
           try simp only [Act.put, List.setIfInBounds_toArray, List.set_cons_zero, List.set_cons_succ])
        | (go_big_quiet_want
           refine quiet_call (f := ?_) (args := ?_) (x := ?_) (fun vv hC => ?_) (fun vv hC => ?_) ?_
           rotate_left 3
           · go_simp
             first | with_reducible rfl | (apply And.intro <;> with_reducible rfl)
           · first
               | (go_at_call 60; with_reducible refine (HCB.out _).mono ?_; rintro e ww ⟨rfl, bb⟩; refine And.intro ?_ (hid ⟨hC.out.1.below bb, hC.out.2.trans (bb.mono (bown_base hC.out.1))⟩); with_reducible rfl)
           go_big_quiet_on
           try simp only [Act.put, List.setIfInBounds_toArray, List.set_cons_zero, List.set_cons_succ]))
      refine wpQuiet_nil ?_
      intro vq hq
      by_cases hlt2 : Bind.nm ⟨xn, ⟨xk, xi, xb, xs⟩⟩ < Bind.nm ⟨yn, ⟨yk, yi, yb, ys⟩⟩
      · have t1 : decide (R < 0) = true := by rw [HRN.out]; exact decide_eq_true hlt2
        have t2 : R < 0 := of_decide_eq_true t1
        have HL := hid hlt2
        clear hlt2
        simp only [t1, Bool.not_true]
        go_wp2_with fail
        go_roundw
        case rel => exact ⟨i, h, rfl, rfl, hmi, hih, by omega, hid ⟨hS.out.1.down hY.out hX.out HL.out, hq.out.1, hq.out.2⟩⟩
        case measure => simp [intOf]; omega
      · have t1 : decide (R < 0) = false := by rw [HRN.out]; exact decide_eq_false hlt2
        have t2 : ¬ R < 0 := of_decide_eq_false t1
        have HL := hid hlt2
        clear hlt2
        simp only [t1, Bool.not_false]
        go_wp2_with fail
        go_roundw
        case rel => exact ⟨h + 1, j, by go_num, rfl, by omega, by omega, hjb, hid ⟨hS.out.1.up hY.out hX.out HL.out, hq.out.1, hq.out.2⟩⟩
        case measure => simp [intOf]; omega
    · have hl0 : decide ((i : Int) < (j : Int)) = false := by simp; omega
      obtain rfl : i = j := by omega
      go_wp2_with fail
      go_loopw [17] (fun vc wz => ∃ (c : Nat) (cs : List Bind), vc = .int .i64 c ∧ i ≤ c ∧ c ≤ m ∧ Hid (Rot c m (m + 1) bs cs ∧ cs.length = N ∧ BOwn B cs (.slice (some ⟨g, 0, none⟩) N cap) wz ∧ Below B w wz)) (fun vc _ => (intOf vc).toNat)
      case atStart => exact ⟨m, bs, rfl, hjb, Nat.le_refl _, hid ⟨Rot.none' (by omega) (by have := HN.out; omega), HN.out, hS.out.2⟩⟩
      case round =>
        obtain ⟨c, cs, rfl, hac, hcr, hT⟩ := hrel
        clear HCN
        have HCN := hid hT.out.2.1
        by_cases hcl : i < c
        · have hl1 : decide ((i : Int) < (c : Int)) = true := by simp; omega
          obtain ⟨q, hq⟩ : ∃ q, c - 1 = q := ⟨_, rfl⟩
          have e5 : (c : Int) - 1 = (q : Int) := by omega
          have e6 : IntKind.i64.wrap (q : Int) = (q : Int) := wrapN q (by omega)
          have HQ := hid (show q + 1 = c by omega)
          have hqr : i ≤ q := by omega
          have hqc : q < c := by omega
          clear hq
          have HXI := hid (show c < N by omega)
          have HYI := hid (show q < N by omega)
          obtain ⟨⟨xn, ⟨xk, xi, xb, xs⟩⟩, hx⟩ : ∃ x, cs[c]? = some x := ⟨_, List.getElem?_eq_getElem (by rw [HCN.out]; exact HXI.out)⟩
          obtain ⟨⟨yn, ⟨yk, yi, yb, ys⟩⟩, hy⟩ : ∃ x, cs[q]? = some x := ⟨_, List.getElem?_eq_getElem (by rw [HCN.out]; exact HYI.out)⟩
          have hX := hid hx
          have hY := hid hy
          clear hx hy
          have P0 : (0 : Int) ≤ (c : Int) := by omega
          have Q0 : (0 : Int) ≤ (q : Int) := by omega
          have P1 : (c : Int) < (N : Int) := by omega
          have Q1 : (q : Int) < (N : Int) := by omega
          obtain ⟨a0, a1, a2, a3, a4⟩ := bown_cells hT.out.2.2.1 HCN.out HXI.out hX.out
          obtain ⟨b0, b1, b2, b3, b4⟩ := bown_cells hT.out.2.2.1 HCN.out HYI.out hY.out
          have hfz := bown_free hT.out.2.2.1 HCN.out
          have f0 := hfz (c * 5)
          have f1 := hfz (c * 5 + 1)
          have f2 := hfz (c * 5 + 2)
          have f3 := hfz (c * 5 + 3)
          have f4 := hfz (c * 5 + 4)
          have g0 := hfz (q * 5)
          have g1 := hfz (q * 5 + 1)
          have g2 := hfz (q * 5 + 2)
          have g3 := hfz (q * 5 + 3)
          have g4 := hfz (q * 5 + 4)
          clear hfz
          go_upto_region 23 with fail
          go_region
          go_wp2_with fail
          go_roundw
          case rel =>
            obtain rfl : q + 1 = c := HQ.out
            exact ⟨q, _, rfl, by omega, by omega, hid ⟨Rot.down hT.out.1 hX.out hY.out, by rw [List.length_set, List.length_set]; exact HCN.out, swap_own (x := ⟨xn, ⟨xk, xi, xb, xs⟩⟩) (y := ⟨yn, ⟨yk, yi, yb, ys⟩⟩) hT.out.2.2.1 HCN.out HXI.out HYI.out, swap_below (x := ⟨xn, ⟨xk, xi, xb, xs⟩⟩) (y := ⟨yn, ⟨yk, yi, yb, ys⟩⟩) hT.out.2.2.2 hgB⟩⟩
          case measure => simp [intOf]; omega
        · have hl1 : decide ((i : Int) < (c : Int)) = false := by simp; omega
          obtain rfl : i = c := by omega
          have HE : Hid (Mrg Bind.nm a b bs cs) := by
            have h := HM.out
            subst h
            exact hS.out.1.done (by rw [HN.out]; exact hb) hmi hjb HR.out hT.out.1
          go_wp2_with fail
          (try simp only [Exit.inBlock, Exit.then]); refine bodyPost_ret (results_none rfl _ _ _) rfl ?_
          exact ⟨rfl, hT.out.2.2.2, cs, HE.out, hT.out.2.2.1⟩
end Go.Proofs.YtohdifffdgoaaaaDoor
namespace Go.Proofs.YtohdifffdgoaaaaDoor
open Go.RowKit
open Go.Lib (hid)
open V Srt
/-- the code behind a region of plain statements -/
def afterR (n : Nat) : Code → Option Code
  | .seq (.region k _ _) b => if k = n then some b else afterR n b
  | .seq a b => match afterR n a with
    | some c => some c
    | none => afterR n b
  | .block _ c => afterR n c
  | .scope c => afterR n c
  | _ => none
def headR : Code → Option Nat
  | .region k _ _ => some k
  | .seq a _ => headR a
  | .block _ c => headR c
  | .scope c => headR c
  | _ => none
/-- the code behind the statement that begins with a region -/
def afterS (n : Nat) : Code → Option Code
  | .seq a b => if headR a = some n then some b else match afterS n a with
    | some c => some c
    | none => afterS n b
  | .block _ c => afterS n c
  | .scope c => afterS n c
  | _ => none
noncomputable def symTail (n : Nat) : Code := (Tryd.f99.body.bind (afterR n)).getD .skip
noncomputable def symRest (n : Nat) : Code := (Tryd.f99.body.bind (afterS n)).getD .skip
theorem post_mono {P : Program} {fn : Func} {R R' : Ending → World → Prop} (h : ∀ e w, R e w → R' e w) {ex : Exit} {a : Act} {w : World} (g : bodyPost P fn R ex a w) : bodyPost P fn R' ex a w := by
  cases ex with
  | normal => obtain ⟨h1, v, h2, h3⟩ := g; exact ⟨h1, v, h2, h _ _ h3⟩
  | ret => obtain ⟨h1, v, h2, h3⟩ := g; exact ⟨h1, v, h2, h _ _ h3⟩
  | panic c => exact ⟨g.1, h _ _ g.2⟩
  | outgrown => exact h _ _ g
  | _ => exact False.elim g
set_option maxRecDepth 100000 in
set_option maxHeartbeats 2000000 in
theorem sym_t3 (B g cap N n b q e : Nat) (w wc : World) (cs0 : List Bind) (hih : ∀ (a m b : Nat) (bs : List Bind) (w : World), b - a ≤ n → bs.length = N → BOwn B bs (.slice (some ⟨g, 0, none⟩) N cap) w → a < m → m < b → b ≤ N → On Bind.nm a m bs → On Bind.nm m b bs → Calls Tryd.prog 99 #[(.slice (some ⟨g, 0, none⟩) N cap), .int .i64 a, .int .i64 m, .int .i64 b, (.func (.func 60) #[] #[])] w fun e w' => e = .returned (.tuple #[]) ∧ Below B w w' ∧ ∃ cs, Mrg Bind.nm a b bs cs ∧ BOwn B cs (.slice (some ⟨g, 0, none⟩) N cap) w') (hn : b - q ≤ n) (hN : cs0.length = N) (hW : Hid (BOwn B cs0 (.slice (some ⟨g, 0, none⟩) N cap) wc ∧ Below B w wc)) (hqe : q ≤ e) (heb : e ≤ b) (hb : b ≤ N) (hL : On Bind.nm q e cs0) (hR : On Bind.nm e b cs0) (c1 c2 c5 c6 c7 c8 c9 c10 c11 c12 c13 c14 c15 c16 c17 c19 c20 c21 c22 c23 c25 c26 c27 c28 c29 c30 c31 c32 c33 c34 c35 c36 c37 c38 c39 c40 c41 c42 c43 c44 c45 c46 c47 c48 c49 c50 c51 c52 c53 c54 c55 c56 c57 c58 c59 c60 c61 c62 c63 c64 c65 c66 c67 c68 c69 c70 c71 c72 c73 c74 c75 c76 c77 c78 c79 c80 c81 c82 c83 c84 c85 c86 c87 c88 c89 c90 c91 c92 c93 c94 c95 c96 c97 c98 c99 c100 c101 c102 c103 c104 c105 c106 c107 c108 c109 c110 c111 c112 c113 c114 c115 c116 c117 c118 c119 c120 c121 c122 c123 c124 c125 c126 c127 c128 c129 c130 c131 c132 c133 c134 c135 c136 c137 c138 c139 c140 c141 c142 c143 c144 c145 c146 c147 c148 c149 c150 c151 c152 c153 c154 c155 c156 c157 c158 c159 c160 c161 c162 c163 c164 c165 c166 c167 c168 c169 c170 c171 c172 c173 c174 c175 c176 c177 c178 c179 c180 c181 c182 c183 c184 c185 c186 c187 c188 c189 c190 c191 c192 c193 c194 c195 c196 c197 c198 c199 c200 c201 c202 c203 c204 c205 c206 c207 c208 c209 c210 c211 c212 c213 c214 c215 c216 c217 c218 c219 : Value) :
    Code.wp Tryd.prog (symRest 41) (bodyPost Tryd.prog Tryd.f99 (fun e w' => e = .returned (.tuple #[]) ∧ Below B w w' ∧ ∃ cs, Mrg Bind.nm q b cs0 cs ∧ BOwn B cs (.slice (some ⟨g, 0, none⟩) N cap) w')) ⟨((.slice (some ⟨g, 0, none⟩) N cap) :: c1 :: c2 :: (.int .i64 b) :: (.func (.func 60) #[] #[]) :: c5 :: c6 :: c7 :: c8 :: c9 :: c10 :: c11 :: c12 :: c13 :: c14 :: c15 :: c16 :: c17 :: (.int .i64 q) :: c19 :: c20 :: c21 :: c22 :: c23 :: (.int .i64 e) :: c25 :: c26 :: c27 :: c28 :: c29 :: c30 :: c31 :: c32 :: c33 :: c34 :: c35 :: c36 :: c37 :: c38 :: c39 :: c40 :: c41 :: c42 :: c43 :: c44 :: c45 :: c46 :: c47 :: c48 :: c49 :: c50 :: c51 :: c52 :: c53 :: c54 :: c55 :: c56 :: c57 :: c58 :: c59 :: c60 :: c61 :: c62 :: c63 :: c64 :: c65 :: c66 :: c67 :: c68 :: c69 :: c70 :: c71 :: c72 :: c73 :: c74 :: c75 :: c76 :: c77 :: c78 :: c79 :: c80 :: c81 :: c82 :: c83 :: c84 :: c85 :: c86 :: c87 :: c88 :: c89 :: c90 :: c91 :: c92 :: c93 :: c94 :: c95 :: c96 :: c97 :: c98 :: c99 :: c100 :: c101 :: c102 :: c103 :: c104 :: c105 :: c106 :: c107 :: c108 :: c109 :: c110 :: c111 :: c112 :: c113 :: c114 :: c115 :: c116 :: c117 :: c118 :: c119 :: c120 :: c121 :: c122 :: c123 :: c124 :: c125 :: c126 :: c127 :: c128 :: c129 :: c130 :: c131 :: c132 :: c133 :: c134 :: c135 :: c136 :: c137 :: c138 :: c139 :: c140 :: c141 :: c142 :: c143 :: c144 :: c145 :: c146 :: c147 :: c148 :: c149 :: c150 :: c151 :: c152 :: c153 :: c154 :: c155 :: c156 :: c157 :: c158 :: c159 :: c160 :: c161 :: c162 :: c163 :: c164 :: c165 :: c166 :: c167 :: c168 :: c169 :: c170 :: c171 :: c172 :: c173 :: c174 :: c175 :: c176 :: c177 :: c178 :: c179 :: c180 :: c181 :: c182 :: c183 :: c184 :: c185 :: c186 :: c187 :: c188 :: c189 :: c190 :: c191 :: c192 :: c193 :: c194 :: c195 :: c196 :: c197 :: c198 :: c199 :: c200 :: c201 :: c202 :: c203 :: c204 :: c205 :: c206 :: c207 :: c208 :: c209 :: c210 :: c211 :: c212 :: c213 :: c214 :: c215 :: c216 :: c217 :: c218 :: c219 :: []).toArray, []⟩ wc := by
  have HIH := hid hih
  have HN := hid hN
  have HG := hid (And.intro hL hR)
  clear hih hN hL hR
  conv => arg 2; whnf
  obtain ⟨b3, hb3⟩ : ∃ x, decide (q < e ∧ e < b) = x := ⟨_, rfl⟩
  have Hb3 := hid hb3
  clear hb3
  go_upto_region 43 with fail
  go_cut [213] (fun sv wc => sv = .bool b3 ∧ Hid (BOwn B cs0 (.slice (some ⟨g, 0, none⟩) N cap) wc ∧ Below B w wc))
  case first =>
    by_cases h1 : q < e
    · have t1 : decide ((q : Int) < (e : Int)) = true := by simp; omega
      by_cases h2 : e < b
      · have t2 : decide ((e : Int) < (b : Int)) = true := by simp; omega
        have hb : true = b3 := by rw [← Hb3.out]; exact (decide_eq_true ⟨h1, h2⟩).symm
        have HBB := hid hb
        clear hb
        go_wp2_with fail
        go_meet
        exact ⟨congrArg Value.bool HBB.out, hid ⟨hW.out.1, hW.out.2⟩⟩
      · have t2 : decide ((e : Int) < (b : Int)) = false := by simp; omega
        have hb : false = b3 := by rw [← Hb3.out]; exact (decide_eq_false (fun h => h2 h.2)).symm
        have HBB := hid hb
        clear hb
        go_wp2_with fail
        go_meet
        exact ⟨congrArg Value.bool HBB.out, hid ⟨hW.out.1, hW.out.2⟩⟩
    · have t1 : decide ((q : Int) < (e : Int)) = false := by simp; omega
      have hb : false = b3 := by rw [← Hb3.out]; exact (decide_eq_false (fun h => h1 h.1)).symm
      have HBB := hid hb
      clear hb
      go_wp2_with fail
      go_meet
      exact ⟨congrArg Value.bool HBB.out, hid ⟨hW.out.1, hW.out.2⟩⟩
  case rest =>
    rename World => wx3
    obtain ⟨rfl, hW3⟩ := hcut
    by_cases h1 : q < e ∧ e < b
    · obtain rfl : b3 = true := Hb3.out.symm.trans (decide_eq_true h1)
      clear Hb3
      have HC := hid (HIH.out q e b cs0 wx3 (by omega) HN.out hW3.out.1 h1.1 h1.2 hb HG.out.1 HG.out.2)
      go_wp2_with fail
      refine HC.out.mono ?_
      rintro e' w' ⟨rfl, bb, ds, hr, hown⟩
      have HE := hid hr
      have HO2 := hid hown
      have HB2 := hid bb
      clear hr hown bb
      go_wp2_with fail
      go_end0
      exact ⟨rfl, hW3.out.2.trans HB2.out, ds, HE.out, HO2.out⟩
    · obtain rfl : b3 = false := Hb3.out.symm.trans (decide_eq_false h1)
      clear Hb3
      have HE := hid (Mrg.skip hqe heb (by rw [HN.out]; omega) HG.out.1 HG.out.2 h1)
      go_wp2_with fail
      go_end0
      exact ⟨rfl, hW3.out.2, cs0, HE.out, hW3.out.1⟩
set_option maxRecDepth 100000 in
set_option maxHeartbeats 2000000 in
theorem sym_t2 (B g cap N n a b q s e : Nat) (w wc : World) (cs0 : List Bind) (hih : ∀ (a m b : Nat) (bs : List Bind) (w : World), b - a ≤ n → bs.length = N → BOwn B bs (.slice (some ⟨g, 0, none⟩) N cap) w → a < m → m < b → b ≤ N → On Bind.nm a m bs → On Bind.nm m b bs → Calls Tryd.prog 99 #[(.slice (some ⟨g, 0, none⟩) N cap), .int .i64 a, .int .i64 m, .int .i64 b, (.func (.func 60) #[] #[])] w fun e w' => e = .returned (.tuple #[]) ∧ Below B w w' ∧ ∃ cs, Mrg Bind.nm a b bs cs ∧ BOwn B cs (.slice (some ⟨g, 0, none⟩) N cap) w') (hn : q - a ≤ n) (hn' : b - q ≤ n) (hN : cs0.length = N) (hW : Hid (BOwn B cs0 (.slice (some ⟨g, 0, none⟩) N cap) wc ∧ Below B w wc)) (has : a ≤ s) (hsq : s ≤ q) (hqe : q ≤ e) (heb : e ≤ b) (hb : b ≤ N) (hL : On Bind.nm a s cs0 ∧ On Bind.nm s q cs0) (hR : On Bind.nm q e cs0 ∧ On Bind.nm e b cs0) (c2 c5 c6 c7 c8 c9 c10 c11 c12 c13 c14 c15 c16 c17 c19 c21 c22 c23 c25 c26 c27 c28 c29 c30 c31 c32 c33 c34 c35 c36 c37 c38 c39 c40 c41 c42 c43 c44 c45 c46 c47 c48 c49 c50 c51 c52 c53 c54 c55 c56 c57 c58 c59 c60 c61 c62 c63 c64 c65 c66 c67 c68 c69 c70 c71 c72 c73 c74 c75 c76 c77 c78 c79 c80 c81 c82 c83 c84 c85 c86 c87 c88 c89 c90 c91 c92 c93 c94 c95 c96 c97 c98 c99 c100 c101 c102 c103 c104 c105 c106 c107 c108 c109 c110 c111 c112 c113 c114 c115 c116 c117 c118 c119 c120 c121 c122 c123 c124 c125 c126 c127 c128 c129 c130 c131 c132 c133 c134 c135 c136 c137 c138 c139 c140 c141 c142 c143 c144 c145 c146 c147 c148 c149 c150 c151 c152 c153 c154 c155 c156 c157 c158 c159 c160 c161 c162 c163 c164 c165 c166 c167 c168 c169 c170 c171 c172 c173 c174 c175 c176 c177 c178 c179 c180 c181 c182 c183 c184 c185 c186 c187 c188 c189 c190 c191 c192 c193 c194 c195 c196 c197 c198 c199 c200 c201 c202 c203 c204 c205 c206 c207 c208 c209 c210 c211 c212 c213 c214 c215 c216 c217 c218 c219 : Value) :
    Code.wp Tryd.prog (symRest 39) (bodyPost Tryd.prog Tryd.f99 (fun e w' => e = .returned (.tuple #[]) ∧ Below B w w' ∧ ∃ cs, (∃ cs1, Mrg Bind.nm a q cs0 cs1 ∧ Mrg Bind.nm q b cs1 cs) ∧ BOwn B cs (.slice (some ⟨g, 0, none⟩) N cap) w')) ⟨((.slice (some ⟨g, 0, none⟩) N cap) :: (.int .i64 a) :: c2 :: (.int .i64 b) :: (.func (.func 60) #[] #[]) :: c5 :: c6 :: c7 :: c8 :: c9 :: c10 :: c11 :: c12 :: c13 :: c14 :: c15 :: c16 :: c17 :: (.int .i64 q) :: c19 :: (.int .i64 s) :: c21 :: c22 :: c23 :: (.int .i64 e) :: c25 :: c26 :: c27 :: c28 :: c29 :: c30 :: c31 :: c32 :: c33 :: c34 :: c35 :: c36 :: c37 :: c38 :: c39 :: c40 :: c41 :: c42 :: c43 :: c44 :: c45 :: c46 :: c47 :: c48 :: c49 :: c50 :: c51 :: c52 :: c53 :: c54 :: c55 :: c56 :: c57 :: c58 :: c59 :: c60 :: c61 :: c62 :: c63 :: c64 :: c65 :: c66 :: c67 :: c68 :: c69 :: c70 :: c71 :: c72 :: c73 :: c74 :: c75 :: c76 :: c77 :: c78 :: c79 :: c80 :: c81 :: c82 :: c83 :: c84 :: c85 :: c86 :: c87 :: c88 :: c89 :: c90 :: c91 :: c92 :: c93 :: c94 :: c95 :: c96 :: c97 :: c98 :: c99 :: c100 :: c101 :: c102 :: c103 :: c104 :: c105 :: c106 :: c107 :: c108 :: c109 :: c110 :: c111 :: c112 :: c113 :: c114 :: c115 :: c116 :: c117 :: c118 :: c119 :: c120 :: c121 :: c122 :: c123 :: c124 :: c125 :: c126 :: c127 :: c128 :: c129 :: c130 :: c131 :: c132 :: c133 :: c134 :: c135 :: c136 :: c137 :: c138 :: c139 :: c140 :: c141 :: c142 :: c143 :: c144 :: c145 :: c146 :: c147 :: c148 :: c149 :: c150 :: c151 :: c152 :: c153 :: c154 :: c155 :: c156 :: c157 :: c158 :: c159 :: c160 :: c161 :: c162 :: c163 :: c164 :: c165 :: c166 :: c167 :: c168 :: c169 :: c170 :: c171 :: c172 :: c173 :: c174 :: c175 :: c176 :: c177 :: c178 :: c179 :: c180 :: c181 :: c182 :: c183 :: c184 :: c185 :: c186 :: c187 :: c188 :: c189 :: c190 :: c191 :: c192 :: c193 :: c194 :: c195 :: c196 :: c197 :: c198 :: c199 :: c200 :: c201 :: c202 :: c203 :: c204 :: c205 :: c206 :: c207 :: c208 :: c209 :: c210 :: c211 :: c212 :: c213 :: c214 :: c215 :: c216 :: c217 :: c218 :: c219 :: []).toArray, []⟩ wc := by
  have HIH := hid hih
  have HN := hid hN
  have HL := hid hL
  have HR := hid hR
  clear hih hN hL hR
  conv => arg 2; whnf
  obtain ⟨b2, hb2⟩ : ∃ x, decide (a < s ∧ s < q) = x := ⟨_, rfl⟩
  have Hb2 := hid hb2
  clear hb2
  go_upto_region 41 with fail
  go_cut [199] (fun sv wc => sv = .bool b2 ∧ Hid (BOwn B cs0 (.slice (some ⟨g, 0, none⟩) N cap) wc ∧ Below B w wc))
  case first =>
    by_cases h1 : a < s
    · have t1 : decide ((a : Int) < (s : Int)) = true := by simp; omega
      by_cases h2 : s < q
      · have t2 : decide ((s : Int) < (q : Int)) = true := by simp; omega
        have hb : true = b2 := by rw [← Hb2.out]; exact (decide_eq_true ⟨h1, h2⟩).symm
        have HBB := hid hb
        clear hb
        go_wp2_with fail
        go_meet
        exact ⟨congrArg Value.bool HBB.out, hid ⟨hW.out.1, hW.out.2⟩⟩
      · have t2 : decide ((s : Int) < (q : Int)) = false := by simp; omega
        have hb : false = b2 := by rw [← Hb2.out]; exact (decide_eq_false (fun h => h2 h.2)).symm
        have HBB := hid hb
        clear hb
        go_wp2_with fail
        go_meet
        exact ⟨congrArg Value.bool HBB.out, hid ⟨hW.out.1, hW.out.2⟩⟩
    · have t1 : decide ((a : Int) < (s : Int)) = false := by simp; omega
      have hb : false = b2 := by rw [← Hb2.out]; exact (decide_eq_false (fun h => h1 h.1)).symm
      have HBB := hid hb
      clear hb
      go_wp2_with fail
      go_meet
      exact ⟨congrArg Value.bool HBB.out, hid ⟨hW.out.1, hW.out.2⟩⟩
  case rest =>
    rename World => wx2
    obtain ⟨rfl, hW2⟩ := hcut
    go_upto_if 199 with fail
    go_cut [] (fun wc => Hid (∃ cs, Mrg Bind.nm a q cs0 cs ∧ BOwn B cs (.slice (some ⟨g, 0, none⟩) N cap) wc ∧ Below B w wc))
    case first =>
      by_cases h1 : a < s ∧ s < q
      · obtain rfl : b2 = true := Hb2.out.symm.trans (decide_eq_true h1)
        clear Hb2
        have HC := hid (HIH.out a s q cs0 wx2 hn HN.out hW2.out.1 h1.1 h1.2 (by omega) HL.out.1 HL.out.2)
        go_wp2_with fail
        refine HC.out.mono ?_
        rintro e' w' ⟨rfl, bb, ds, hr, hown⟩
        have HE := hid hr
        have HO2 := hid hown
        have HB2 := hid bb
        clear hr hown bb
        go_wp2_with fail
        go_meet
        exact hid ⟨ds, HE.out, HO2.out, hW2.out.2.trans HB2.out⟩
      · obtain rfl : b2 = false := Hb2.out.symm.trans (decide_eq_false h1)
        clear Hb2
        go_wp2_with fail
        go_meet
        exact hid ⟨cs0, Mrg.skip has hsq (by rw [HN.out]; omega) HL.out.1 HL.out.2 h1, hW2.out.1, hW2.out.2⟩
    case rest =>
      rename World => wy2
      obtain ⟨cs1, hV2⟩ : ∃ cs, Hid (Mrg Bind.nm a q cs0 cs ∧ BOwn B cs (.slice (some ⟨g, 0, none⟩) N cap) wy2 ∧ Below B w wy2) := hcut.out
      clear hcut hW2 Hb2
      have HN1 := hid (hV2.out.1.1.length.trans HN.out)
      have HG2 : Hid (On Bind.nm q e cs1 ∧ On Bind.nm e b cs1) := ⟨hV2.out.1.1.on_out (Or.inr (Nat.le_refl _)) HR.out.1, hV2.out.1.1.on_out (Or.inr hqe) HR.out.2⟩
      apply_assumption
      refine Code.wp_mono ?_ (sym_t3 B g cap N n b q e w wy2 cs1 HIH.out hn' HN1.out (hid hV2.out.2) hqe heb hb HG2.out.1 HG2.out.2 _ _ _ _ _ _ _ _ _ _ _ _ _ _ _ _ _ _ _ _ _ _ _ _ _ _ _ _ _ _ _ _ _ _ _ _ _ _ _ _ _ _ _ _ _ _ _ _ _ _ _ _ _ _ _ _ _ _ _ _ _ _ _ _ _ _ _ _ _ _ _ _ _ _ _ _ _ _ _ _ _ _ _ _ _ _ _ _ _ _ _ _ _ _ _ _ _ _ _ _ _ _ _ _ _ _ _ _ _ _ _ _ _ _ _ _ _ _ _ _ _ _ _ _ _ _ _ _ _ _ _ _ _ _ _ _ _ _ _ _ _ _ _ _ _ _ _ _ _ _ _ _ _ _ _ _ _ _ _ _ _ _ _ _ _ _ _ _ _ _ _ _ _ _ _ _ _ _ _ _ _ _ _ _ _ _ _ _ _ _ _ _ _ _ _ _ _ _ _ _ _ _ _ _ _ _ _ _ _ _ _ _ _ _ _)
      exact fun ex a w' h => post_mono (fun e w' ⟨h1, h2, ds', h3, h4⟩ => ⟨h1, h2, ds', ⟨cs1, hV2.out.1, h3⟩, h4⟩) h
set_option maxRecDepth 100000 in
set_option maxHeartbeats 2000000 in
theorem sym_t1 (B g cap N n a m b q s e : Nat) (w wc : World) (bs : List Bind) (hih : ∀ (a m b : Nat) (bs : List Bind) (w : World), b - a ≤ n → bs.length = N → BOwn B bs (.slice (some ⟨g, 0, none⟩) N cap) w → a < m → m < b → b ≤ N → On Bind.nm a m bs → On Bind.nm m b bs → Calls Tryd.prog 99 #[(.slice (some ⟨g, 0, none⟩) N cap), .int .i64 a, .int .i64 m, .int .i64 b, (.func (.func 60) #[] #[])] w fun e w' => e = .returned (.tuple #[]) ∧ Below B w w' ∧ ∃ cs, Mrg Bind.nm a b bs cs ∧ BOwn B cs (.slice (some ⟨g, 0, none⟩) N cap) w') (hn : b - a ≤ n + 1) (hN : bs.length = N) (hW : Hid (BOwn B bs (.slice (some ⟨g, 0, none⟩) N cap) wc ∧ Below B w wc)) (has : a ≤ s) (hsm : s ≤ m) (hme : m ≤ e) (heb : e ≤ b) (hsq : s ≤ q) (hqe : q ≤ e) (haq : a < q) (hqb : q < b) (hse : q = s + (e - m)) (hb : b ≤ N) (hl : N ≤ 10000000000000) (hL : On Bind.nm a m bs) (hR : On Bind.nm m b bs) (hc1 : ∀ x y, a < s → e < b → bs[s - 1]? = some x → bs[e]? = some y → Le Bind.nm x y) (hc2 : ∀ x y, s < m → m < e → bs[e - 1]? = some x → bs[s]? = some y → Bind.nm x < Bind.nm y) (c5 c6 c7 c8 c9 c10 c11 c12 c13 c14 c15 c16 c17 c19 c21 c22 c23 c25 c26 c27 c28 c29 c30 c31 c32 c33 c34 c35 c36 c37 c38 c39 c40 c41 c42 c43 c44 c45 c46 c47 c48 c49 c50 c51 c52 c53 c54 c55 c56 c57 c58 c59 c60 c61 c62 c63 c64 c65 c66 c67 c68 c69 c70 c71 c72 c73 c74 c75 c76 c77 c78 c79 c80 c81 c82 c83 c84 c85 c86 c87 c88 c89 c90 c91 c92 c93 c94 c95 c96 c97 c98 c99 c100 c101 c102 c103 c104 c105 c106 c107 c108 c109 c110 c111 c112 c113 c114 c115 c116 c117 c118 c119 c120 c121 c122 c123 c124 c125 c126 c127 c128 c129 c130 c131 c132 c133 c134 c135 c136 c137 c138 c139 c140 c141 c142 c143 c144 c145 c146 c147 c148 c149 c150 c151 c152 c153 c154 c155 c156 c157 c158 c159 c160 c161 c162 c163 c164 c165 c166 c167 c168 c169 c170 c171 c172 c173 c174 c175 c176 c177 c178 c179 c180 c181 c182 c183 c184 c185 c186 c187 c188 c189 c190 c191 c192 c193 c194 c195 c196 c197 c198 c199 c200 c201 c202 c203 c204 c205 c206 c207 c208 c209 c210 c211 c212 c213 c214 c215 c216 c217 c218 c219 : Value) :
    Code.wp Tryd.prog (symTail 38) (bodyPost Tryd.prog Tryd.f99 (fun e w' => e = .returned (.tuple #[]) ∧ Below B w w' ∧ ∃ cs, Mrg Bind.nm a b bs cs ∧ BOwn B cs (.slice (some ⟨g, 0, none⟩) N cap) w')) ⟨((.slice (some ⟨g, 0, none⟩) N cap) :: (.int .i64 a) :: (.int .i64 m) :: (.int .i64 b) :: (.func (.func 60) #[] #[]) :: c5 :: c6 :: c7 :: c8 :: c9 :: c10 :: c11 :: c12 :: c13 :: c14 :: c15 :: c16 :: c17 :: (.int .i64 q) :: c19 :: (.int .i64 s) :: c21 :: c22 :: c23 :: (.int .i64 e) :: c25 :: c26 :: c27 :: c28 :: c29 :: c30 :: c31 :: c32 :: c33 :: c34 :: c35 :: c36 :: c37 :: c38 :: c39 :: c40 :: c41 :: c42 :: c43 :: c44 :: c45 :: c46 :: c47 :: c48 :: c49 :: c50 :: c51 :: c52 :: c53 :: c54 :: c55 :: c56 :: c57 :: c58 :: c59 :: c60 :: c61 :: c62 :: c63 :: c64 :: c65 :: c66 :: c67 :: c68 :: c69 :: c70 :: c71 :: c72 :: c73 :: c74 :: c75 :: c76 :: c77 :: c78 :: c79 :: c80 :: c81 :: c82 :: c83 :: c84 :: c85 :: c86 :: c87 :: c88 :: c89 :: c90 :: c91 :: c92 :: c93 :: c94 :: c95 :: c96 :: c97 :: c98 :: c99 :: c100 :: c101 :: c102 :: c103 :: c104 :: c105 :: c106 :: c107 :: c108 :: c109 :: c110 :: c111 :: c112 :: c113 :: c114 :: c115 :: c116 :: c117 :: c118 :: c119 :: c120 :: c121 :: c122 :: c123 :: c124 :: c125 :: c126 :: c127 :: c128 :: c129 :: c130 :: c131 :: c132 :: c133 :: c134 :: c135 :: c136 :: c137 :: c138 :: c139 :: c140 :: c141 :: c142 :: c143 :: c144 :: c145 :: c146 :: c147 :: c148 :: c149 :: c150 :: c151 :: c152 :: c153 :: c154 :: c155 :: c156 :: c157 :: c158 :: c159 :: c160 :: c161 :: c162 :: c163 :: c164 :: c165 :: c166 :: c167 :: c168 :: c169 :: c170 :: c171 :: c172 :: c173 :: c174 :: c175 :: c176 :: c177 :: c178 :: c179 :: c180 :: c181 :: c182 :: c183 :: c184 :: c185 :: c186 :: c187 :: c188 :: c189 :: c190 :: c191 :: c192 :: c193 :: c194 :: c195 :: c196 :: c197 :: c198 :: c199 :: c200 :: c201 :: c202 :: c203 :: c204 :: c205 :: c206 :: c207 :: c208 :: c209 :: c210 :: c211 :: c212 :: c213 :: c214 :: c215 :: c216 :: c217 :: c218 :: c219 :: []).toArray, []⟩ wc := by
  have HIH := hid hih
  have HN := hid hN
  have HLR := hid (And.intro hL hR)
  have HC1 := hid hc1
  have HC2 := hid hc2
  have HSE := hid hse
  have HBS : Hid (∀ D, Rot s m e bs D → D.length = N) := fun D hD => (sym_rot (k := Bind.nm) (by rw [HN.out]; exact hb) HSE.out has hsm hme heb HLR.out.1 HLR.out.2 HC1.out HC2.out hD).1.length.trans HN.out
  clear hih hN hL hR hc1 hc2 hse
  conv => arg 2; whnf
  obtain ⟨b1, hb1⟩ : ∃ x, decide (s < m ∧ m < e) = x := ⟨_, rfl⟩
  have Hb1 := hid hb1
  clear hb1
  go_upto_region 39 with fail
  go_cut [185] (fun sv wc => sv = .bool b1 ∧ Hid (BOwn B bs (.slice (some ⟨g, 0, none⟩) N cap) wc ∧ Below B w wc))
  case first =>
    by_cases h1 : s < m
    · have t1 : decide ((s : Int) < (m : Int)) = true := by simp; omega
      by_cases h2 : m < e
      · have t2 : decide ((m : Int) < (e : Int)) = true := by simp; omega
        have hb : true = b1 := by rw [← Hb1.out]; exact (decide_eq_true ⟨h1, h2⟩).symm
        have HBB := hid hb
        clear hb
        go_wp2_with fail
        go_meet
        exact ⟨congrArg Value.bool HBB.out, hid ⟨hW.out.1, hW.out.2⟩⟩
      · have t2 : decide ((m : Int) < (e : Int)) = false := by simp; omega
        have hb : false = b1 := by rw [← Hb1.out]; exact (decide_eq_false (fun h => h2 h.2)).symm
        have HBB := hid hb
        clear hb
        go_wp2_with fail
        go_meet
        exact ⟨congrArg Value.bool HBB.out, hid ⟨hW.out.1, hW.out.2⟩⟩
    · have t1 : decide ((s : Int) < (m : Int)) = false := by simp; omega
      have hb : false = b1 := by rw [← Hb1.out]; exact (decide_eq_false (fun h => h1 h.1)).symm
      have HBB := hid hb
      clear hb
      go_wp2_with fail
      go_meet
      exact ⟨congrArg Value.bool HBB.out, hid ⟨hW.out.1, hW.out.2⟩⟩
  case rest =>
    rename World => wx1
    obtain ⟨rfl, hW1⟩ := hcut
    go_upto_if 185 with fail
    go_cut [] (fun wc => Hid (∃ cs, Rot s m e bs cs ∧ BOwn B cs (.slice (some ⟨g, 0, none⟩) N cap) wc ∧ Below B w wc))
    case first =>
      by_cases h1 : s < m ∧ m < e
      · obtain rfl : b1 = true := Hb1.out.symm.trans (decide_eq_true h1)
        clear Hb1
        have HC := hid (rotate_any B g cap N s m e bs (.func (.func 60) #[] #[]) wx1 HN.out hW1.out.1 h1.1 h1.2 (by omega) hl)
        go_wp2_with fail
        refine HC.out.mono ?_
        rintro e' w' ⟨rfl, bb, ds, hr, hown⟩
        have HE := hid hr
        have HO2 := hid hown
        have HB2 := hid bb
        clear hr hown bb
        go_wp2_with fail
        go_meet
        exact hid ⟨ds, HE.out, HO2.out, hW1.out.2.trans HB2.out⟩
      · obtain rfl : b1 = false := Hb1.out.symm.trans (decide_eq_false h1)
        clear Hb1
        go_wp2_with fail
        go_meet
        exact hid ⟨bs, (by by_cases g1 : s = m; (subst g1; exact Rot.none' hme (by rw [HN.out]; omega)); (have g2 : m = e := by omega); subst g2; exact Rot.none hsm (by rw [HN.out]; omega)), hW1.out.1, hW1.out.2⟩
    case rest =>
      rename World => wy1
      obtain ⟨cs1, hV1⟩ : ∃ cs, Hid (Rot s m e bs cs ∧ BOwn B cs (.slice (some ⟨g, 0, none⟩) N cap) wy1 ∧ Below B w wy1) := hcut.out
      clear hcut hW1 Hb1
      have HG := hid (sym_rot (k := Bind.nm) (by rw [HN.out]; exact hb) HSE.out has hsm hme heb HLR.out.1 HLR.out.2 HC1.out HC2.out hV1.out.1)
      have HN1 := hid (HBS.out _ hV1.out.1)
      apply_assumption
      refine Code.wp_mono ?_ (sym_t2 B g cap N n a b q s e w wy1 cs1 HIH.out (by omega) (by omega) HN1.out (hid hV1.out.2) has hsq hqe heb hb ⟨HG.out.2.1, HG.out.2.2.1⟩ ⟨HG.out.2.2.2.1, HG.out.2.2.2.2.1⟩ _ _ _ _ _ _ _ _ _ _ _ _ _ _ _ _ _ _ _ _ _ _ _ _ _ _ _ _ _ _ _ _ _ _ _ _ _ _ _ _ _ _ _ _ _ _ _ _ _ _ _ _ _ _ _ _ _ _ _ _ _ _ _ _ _ _ _ _ _ _ _ _ _ _ _ _ _ _ _ _ _ _ _ _ _ _ _ _ _ _ _ _ _ _ _ _ _ _ _ _ _ _ _ _ _ _ _ _ _ _ _ _ _ _ _ _ _ _ _ _ _ _ _ _ _ _ _ _ _ _ _ _ _ _ _ _ _ _ _ _ _ _ _ _ _ _ _ _ _ _ _ _ _ _ _ _ _ _ _ _ _ _ _ _ _ _ _ _ _ _ _ _ _ _ _ _ _ _ _ _ _ _ _ _ _ _ _ _ _ _ _ _ _ _ _ _ _ _ _ _ _ _ _ _ _ _ _ _ _ _ _ _ _)
      exact fun ex a w' h => post_mono (fun e w' ⟨h1, h2, ds', ⟨cs2, h3, h5⟩, h4⟩ => ⟨h1, h2, ds', sym_mid (by rw [HN.out]; exact hb) HSE.out has hsm hme heb HLR.out.1 HLR.out.2 HC1.out HC2.out hV1.out.1 h3 h5, h4⟩) h
end Go.Proofs.YtohdifffdgoaaaaDoor
namespace Go.Proofs.YtohdifffdgoaaaaDoor
open Go.RowKit
open Go.Lib (hid)
open V Srt
set_option maxRecDepth 100000 in
set_option maxHeartbeats 2000000 in
theorem sym3a_any (B g cap N n a m b : Nat) (bs : List Bind) (w : World) (hih : ∀ (a m b : Nat) (bs : List Bind) (w : World), b - a ≤ n → bs.length = N → BOwn B bs (.slice (some ⟨g, 0, none⟩) N cap) w → a < m → m < b → b ≤ N → On Bind.nm a m bs → On Bind.nm m b bs → Calls Tryd.prog 99 #[(.slice (some ⟨g, 0, none⟩) N cap), .int .i64 a, .int .i64 m, .int .i64 b, (.func (.func 60) #[] #[])] w fun e w' => e = .returned (.tuple #[]) ∧ Below B w w' ∧ ∃ cs, Mrg Bind.nm a b bs cs ∧ BOwn B cs (.slice (some ⟨g, 0, none⟩) N cap) w') (hn : b - a ≤ n + 1) (hN : bs.length = N) (hO : BOwn B bs (.slice (some ⟨g, 0, none⟩) N cap) w) (ham : a + 1 < m) (hmb : m + 1 < b) (hb : b ≤ N) (hl : N ≤ 10000000000000) (hqm : (a + b) / 2 < m) (hL : On Bind.nm a m bs) (hR : On Bind.nm m b bs) :
    Calls Tryd.prog 99 #[(.slice (some ⟨g, 0, none⟩) N cap), .int .i64 a, .int .i64 m, .int .i64 b, (.func (.func 60) #[] #[])] w fun e w' =>
      e = .returned (.tuple #[]) ∧ Below B w w' ∧ ∃ cs, Mrg Bind.nm a b bs cs ∧ BOwn B cs (.slice (some ⟨g, 0, none⟩) N cap) w' := by
  have HIH := hid hih
  have HN := hid hN
  have HO := hid hO
  have HB := hid (Below.refl B w)
  have HLR := hid (And.intro hL hR)
  clear hih hN hO hL hR
  obtain ⟨q, hq⟩ : ∃ q, (a + b) / 2 = q := ⟨_, rfl⟩
  rw [hq] at hqm
  obtain ⟨d, hd⟩ : ∃ d, m - a = d := ⟨_, rfl⟩
  obtain ⟨d', hd'⟩ : ∃ d', b - m = d' := ⟨_, rfl⟩
  obtain ⟨nn, hnn⟩ : ∃ nn, q + m = nn := ⟨_, rfl⟩
  obtain ⟨p, hp⟩ : ∃ p, nn - 1 = p := ⟨_, rfl⟩
  have d0 : (m : Int) - (a : Int) = (d : Int) := by omega
  have d1 : IntKind.i64.wrap (d : Int) = (d : Int) := wrapN d (by omega)
  have t0 : ((d : Int) == 1) = false := beq_eq_false_iff_ne.2 (by omega)
  have d2 : (b : Int) - (m : Int) = (d' : Int) := by omega
  have d3 : IntKind.i64.wrap (d' : Int) = (d' : Int) := by rw [IntKind.wrap_i64]; omega
  have t1 : ((d' : Int) == 1) = false := beq_eq_false_iff_ne.2 (by omega)
  have d4 : ((a : Int) + (b : Int)) / 2 = (q : Int) := by omega
  have d5 : IntKind.i64.wrap (q : Int) = (q : Int) := wrapN q (by omega)
  have d6 : (q : Int) + (m : Int) = (nn : Int) := by omega
  have d7 : IntKind.i64.wrap (nn : Int) = (nn : Int) := wrapN nn (by omega)
  have da : (nn : Int) - 1 = (p : Int) := by omega
  have db : IntKind.i64.wrap (p : Int) = (p : Int) := wrapN p (by omega)
  have q1 : 2 * q ≤ a + b := by omega
  have q2 : a + b ≤ 2 * q + 1 := by omega
  have q3 : q + m ≤ nn := by omega
  have q4 : nn ≤ q + m := by omega
  have q5 : p + 1 ≤ nn := by omega
  have q6 : nn ≤ p + 1 := by omega
  have HD := hid (And.intro hq (And.intro hnn hp))
  clear hd hd' hq hnn hp
  obtain ⟨s0, hs0⟩ : ∃ s0, nn - b = s0 := ⟨_, rfl⟩
  have d8 : (nn : Int) - (b : Int) = (s0 : Int) := by omega
  have d9 : IntKind.i64.wrap (s0 : Int) = (s0 : Int) := wrapN s0 (by omega)
  have tq : decide ((q : Int) < (m : Int)) = true := by simp; omega
  have s1 : s0 + b ≤ nn := by omega
  have s2 : nn ≤ s0 + b := by omega
  have HS0 := hid hs0
  clear hs0
  go_enter Tryd.func99, Tryd.ntmps99
  go_wp2_with fail
  go_loopw [20, 21] (fun vi vj wr => ∃ (s r : Nat), vi = .int .i64 s ∧ vj = .int .i64 r ∧ s0 ≤ s ∧ s ≤ r ∧ r ≤ q ∧ Hid (SI Bind.nm bs p s0 q s r ∧ BOwn B bs (.slice (some ⟨g, 0, none⟩) N cap) wr ∧ Below B w wr)) (fun vi vj _ => (intOf vj).toNat - (intOf vi).toNat)
  case atStart => exact ⟨s0, q, rfl, rfl, Nat.le_refl _, by omega, Nat.le_refl _, hid ⟨SI.start, HO.out, HB.out⟩⟩
  case round =>
    obtain ⟨s, r, rfl, rfl, h0s, hsr, hr0, hS⟩ := hrel
    clear HO HB d0 d1 d2 d3 d4 d5 d6 d7 da db t0 t1 tq d8 d9
    have HCN := hid HN.out
    by_cases hlt : s < r
    · have hl0 : decide ((s : Int) < (r : Int)) = true := by simp; omega
      obtain ⟨h, hh⟩ : ∃ h, (s + r) / 2 = h := ⟨_, rfl⟩
      have hsh : s ≤ h := by omega
      have hhr : h < r := by omega
      have e3 : ((s : Int) + (r : Int)) / 2 = (h : Int) := by omega
      have e4 : IntKind.i64.wrap (h : Int) = (h : Int) := wrapN h (by omega)
      clear hh
      obtain ⟨u, hu⟩ : ∃ u, p - h = u := ⟨_, rfl⟩
      have e5 : (p : Int) - (h : Int) = (u : Int) := by omega
      have e6 : IntKind.i64.wrap (u : Int) = (u : Int) := wrapN u (by omega)
      have huN : u < N := by omega
      have hhN : h < N := by omega
      have HU := hid hu
      clear hu
      have HXI := hid (show u < N by omega)
      have HYI := hid (show h < N by omega)
      obtain ⟨⟨xn, ⟨xk, xi, xb, xs⟩⟩, hx⟩ : ∃ x, bs[u]? = some x := ⟨_, List.getElem?_eq_getElem (by rw [HCN.out]; exact HXI.out)⟩
      obtain ⟨⟨yn, ⟨yk, yi, yb, ys⟩⟩, hy⟩ : ∃ x, bs[h]? = some x := ⟨_, List.getElem?_eq_getElem (by rw [HCN.out]; exact HYI.out)⟩
      have hX := hid hx
      have hY := hid hy
      clear hx hy
      have P0 : (0 : Int) ≤ (u : Int) := by omega
      have Q0 : (0 : Int) ≤ (h : Int) := by omega
      have P1 : (u : Int) < (N : Int) := by omega
      have Q1 : (h : Int) < (N : Int) := by omega
      obtain ⟨R, hR⟩ : ∃ R, ordS xn yn = R := ⟨_, rfl⟩
      have hRn : decide (R < 0) = decide (Bind.nm ⟨xn, ⟨xk, xi, xb, xs⟩⟩ < Bind.nm ⟨yn, ⟨yk, yi, yb, ys⟩⟩) := by rw [← hR]; exact ordS_neg ⟨xn, ⟨xk, xi, xb, xs⟩⟩ ⟨yn, ⟨yk, yi, yb, ys⟩⟩
      have cB : ∀ U, Calls Tryd.prog 60 #[.agg #[.string xn, .int .u8 xk, .int .i64 xi, .bool xb, .string xs], .agg #[.string yn, .int .u8 yk, .int .i64 yi, .bool yb, .string ys]] U fun e w' => e = .returned (.int .i64 R) ∧ Below U.heap.size U w' := fun U => by
        have := byName_any ⟨xn, ⟨xk, xi, xb, xs⟩⟩ ⟨yn, ⟨yk, yi, yb, ys⟩⟩ U
        rw [hR] at this
        exact this
      have HRN := hid hRn
      have HCB := hid cB
      clear hR hRn cB
      go_upto_region 35 with fail
      refine quiet_lit (C := fun w' => Hid (BOwn B bs (.slice (some ⟨g, 0, none⟩) N cap) w' ∧ Below B w w')) (by kernel_rfl) (by kernel_rfl) (hid ⟨BOwn.drew hS.out.2.1, (hS.out.2.2).drew⟩) ?_
      repeat (first
        | go_big_quiet_skip
        | (go_big_quiet_want
           refine quiet_val (x := ?_) (fun vv hC => ?_) ?_
           rotate_left
           · skip
             obtain ⟨a0, a1, a2, a3, a4⟩ := bown_cells hC.out.1 HCN.out HXI.out hX.out
             obtain ⟨b0, b1, b2, b3, b4⟩ := bown_cells hC.out.1 HCN.out HYI.out hY.out
             clear hC
             go_simp
             with_reducible rfl
           go_big_quiet_on
           try simp only [Act.put, List.setIfInBounds_toArray, List.set_cons_zero, List.set_cons_succ])
        | (go_big_quiet_want
           refine quiet_call (f := ?_) (args := ?_) (x := ?_) (fun vv hC => ?_) (fun vv hC => ?_) ?_
           rotate_left 3
           · go_simp
             first | with_reducible rfl | (apply And.intro <;> with_reducible rfl)
           · first
               | (go_at_call 60; with_reducible refine (HCB.out _).mono ?_; rintro e ww ⟨rfl, bb⟩; refine And.intro ?_ (hid ⟨hC.out.1.below bb, hC.out.2.trans (bb.mono (bown_base hC.out.1))⟩); with_reducible rfl)
           go_big_quiet_on
           try simp only [Act.put, List.setIfInBounds_toArray, List.set_cons_zero, List.set_cons_succ]))
      refine wpQuiet_nil ?_
      intro vq hq
      by_cases hlt2 : Bind.nm ⟨xn, ⟨xk, xi, xb, xs⟩⟩ < Bind.nm ⟨yn, ⟨yk, yi, yb, ys⟩⟩
      · have t1 : decide (R < 0) = true := by rw [HRN.out]; exact decide_eq_true hlt2
        have t2 : R < 0 := of_decide_eq_true t1
        have HL := hid hlt2
        clear hlt2
        simp only [t1, Bool.not_true]
        go_wp2_with fail
        go_roundw
        case rel => exact ⟨s, h, rfl, rfl, h0s, hsh, by omega, hid ⟨hS.out.1.down hY.out (by rw [HU.out]; exact hX.out) HL.out, hq.out.1, hq.out.2⟩⟩
        case measure => simp [intOf]; omega
      · have t1 : decide (R < 0) = false := by rw [HRN.out]; exact decide_eq_false hlt2
        have t2 : ¬ R < 0 := of_decide_eq_false t1
        have HL := hid hlt2
        clear hlt2
        simp only [t1, Bool.not_false]
        go_wp2_with fail
        go_roundw
        case rel => exact ⟨h + 1, r, by go_num, rfl, by omega, by omega, hr0, hid ⟨hS.out.1.up hY.out (by rw [HU.out]; exact hX.out) HL.out, hq.out.1, hq.out.2⟩⟩
        case measure => simp [intOf]; omega
    · have hl0 : decide ((s : Int) < (r : Int)) = false := by simp; omega
      obtain rfl : s = r := by omega
      obtain ⟨e, he⟩ : ∃ e, nn - s = e := ⟨_, rfl⟩
      have e3 : (nn : Int) - (s : Int) = (e : Int) := by omega
      have e4 : IntKind.i64.wrap (e : Int) = (e : Int) := wrapN e (by omega)
      have has : a ≤ s := by omega
      have hsm : s ≤ m := by omega
      have hme : m ≤ e := by omega
      have heb : e ≤ b := by omega
      have hsq : s ≤ q := by omega
      have hqe : q ≤ e := by omega
      have hqb : q ≤ b := by omega
      have hse : q = s + (e - m) := by omega
      have HC1 : Hid (∀ x y, a < s → e < b → bs[s - 1]? = some x → bs[e]? = some y → Le Bind.nm x y) := by
        have hx := SI.end1 (a := a) (m := m) (b := b) (q := q) hS.out.1 (by omega) h0s (Or.inl ⟨by omega, by omega, rfl⟩) hqb
        rw [show q + m - s = e by omega] at hx
        exact hx
      have HC2 : Hid (∀ x y, s < m → m < e → bs[e - 1]? = some x → bs[s]? = some y → Bind.nm x < Bind.nm y) := by
        have hx := SI.end2 (a := a) (m := m) (b := b) (q := q) hS.out.1 (by omega) hr0 (Or.inl ⟨by omega, by omega, rfl⟩)
        rw [show q + m - s = e by omega] at hx
        exact hx
      have HSE := hid hse
      clear he hse
      go_upto_region 38 with fail
      go_cut [24] (fun s24 wc => s24 = .int .i64 e ∧ Hid (BOwn B bs (.slice (some ⟨g, 0, none⟩) N cap) wc ∧ Below B w wc))
      case first =>
        go_wp2_with fail
        go_meet
        exact ⟨rfl, hid ⟨hS.out.2.1, hS.out.2.2⟩⟩
      case rest =>
        rename World => wx
        obtain ⟨rfl, hW⟩ := hcut
        apply_assumption
        exact sym_t1 B g cap N n a m b q s e w wx bs HIH.out (by omega) HN.out hW has hsm hme heb hsq hqe (by omega) (by omega) HSE.out hb hl HLR.out.1 HLR.out.2 HC1.out HC2.out _ _ _ _ _ _ _ _ _ _ _ _ _ _ _ _ _ _ _ _ _ _ _ _ _ _ _ _ _ _ _ _ _ _ _ _ _ _ _ _ _ _ _ _ _ _ _ _ _ _ _ _ _ _ _ _ _ _ _ _ _ _ _ _ _ _ _ _ _ _ _ _ _ _ _ _ _ _ _ _ _ _ _ _ _ _ _ _ _ _ _ _ _ _ _ _ _ _ _ _ _ _ _ _ _ _ _ _ _ _ _ _ _ _ _ _ _ _ _ _ _ _ _ _ _ _ _ _ _ _ _ _ _ _ _ _ _ _ _ _ _ _ _ _ _ _ _ _ _ _ _ _ _ _ _ _ _ _ _ _ _ _ _ _ _ _ _ _ _ _ _ _ _ _ _ _ _ _ _ _ _ _ _ _ _ _ _ _ _ _ _ _ _ _ _ _ _ _ _ _ _ _ _ _ _ _ _ _ _ _ _ _
end Go.Proofs.YtohdifffdgoaaaaDoor
namespace Go.Proofs.YtohdifffdgoaaaaDoor
open Go.RowKit
open Go.Lib (hid)
open V Srt
set_option maxRecDepth 100000 in
set_option maxHeartbeats 2000000 in
theorem sym3b_any (B g cap N n a m b : Nat) (bs : List Bind) (w : World) (hih : ∀ (a m b : Nat) (bs : List Bind) (w : World), b - a ≤ n → bs.length = N → BOwn B bs (.slice (some ⟨g, 0, none⟩) N cap) w → a < m → m < b → b ≤ N → On Bind.nm a m bs → On Bind.nm m b bs → Calls Tryd.prog 99 #[(.slice (some ⟨g, 0, none⟩) N cap), .int .i64 a, .int .i64 m, .int .i64 b, (.func (.func 60) #[] #[])] w fun e w' => e = .returned (.tuple #[]) ∧ Below B w w' ∧ ∃ cs, Mrg Bind.nm a b bs cs ∧ BOwn B cs (.slice (some ⟨g, 0, none⟩) N cap) w') (hn : b - a ≤ n + 1) (hN : bs.length = N) (hO : BOwn B bs (.slice (some ⟨g, 0, none⟩) N cap) w) (ham : a + 1 < m) (hmb : m + 1 < b) (hb : b ≤ N) (hl : N ≤ 10000000000000) (hqm : m ≤ (a + b) / 2) (hL : On Bind.nm a m bs) (hR : On Bind.nm m b bs) :
    Calls Tryd.prog 99 #[(.slice (some ⟨g, 0, none⟩) N cap), .int .i64 a, .int .i64 m, .int .i64 b, (.func (.func 60) #[] #[])] w fun e w' =>
      e = .returned (.tuple #[]) ∧ Below B w w' ∧ ∃ cs, Mrg Bind.nm a b bs cs ∧ BOwn B cs (.slice (some ⟨g, 0, none⟩) N cap) w' := by
  have HIH := hid hih
  have HN := hid hN
  have HO := hid hO
  have HB := hid (Below.refl B w)
  have HLR := hid (And.intro hL hR)
  clear hih hN hO hL hR
  obtain ⟨q, hq⟩ : ∃ q, (a + b) / 2 = q := ⟨_, rfl⟩
  rw [hq] at hqm
  obtain ⟨d, hd⟩ : ∃ d, m - a = d := ⟨_, rfl⟩
  obtain ⟨d', hd'⟩ : ∃ d', b - m = d' := ⟨_, rfl⟩
  obtain ⟨nn, hnn⟩ : ∃ nn, q + m = nn := ⟨_, rfl⟩
  obtain ⟨p, hp⟩ : ∃ p, nn - 1 = p := ⟨_, rfl⟩
  have d0 : (m : Int) - (a : Int) = (d : Int) := by omega
  have d1 : IntKind.i64.wrap (d : Int) = (d : Int) := wrapN d (by omega)
  have t0 : ((d : Int) == 1) = false := beq_eq_false_iff_ne.2 (by omega)
  have d2 : (b : Int) - (m : Int) = (d' : Int) := by omega
  have d3 : IntKind.i64.wrap (d' : Int) = (d' : Int) := by rw [IntKind.wrap_i64]; omega
  have t1 : ((d' : Int) == 1) = false := beq_eq_false_iff_ne.2 (by omega)
  have d4 : ((a : Int) + (b : Int)) / 2 = (q : Int) := by omega
  have d5 : IntKind.i64.wrap (q : Int) = (q : Int) := wrapN q (by omega)
  have d6 : (q : Int) + (m : Int) = (nn : Int) := by omega
  have d7 : IntKind.i64.wrap (nn : Int) = (nn : Int) := wrapN nn (by omega)
  have da : (nn : Int) - 1 = (p : Int) := by omega
  have db : IntKind.i64.wrap (p : Int) = (p : Int) := wrapN p (by omega)
  have q1 : 2 * q ≤ a + b := by omega
  have q2 : a + b ≤ 2 * q + 1 := by omega
  have q3 : q + m ≤ nn := by omega
  have q4 : nn ≤ q + m := by omega
  have q5 : p + 1 ≤ nn := by omega
  have q6 : nn ≤ p + 1 := by omega
  have HD := hid (And.intro hq (And.intro hnn hp))
  clear hd hd' hq hnn hp
  have tq : decide ((q : Int) < (m : Int)) = false := by simp; omega
  skip
  go_enter Tryd.func99, Tryd.ntmps99
  go_wp2_with fail
  go_loopw [20, 21] (fun vi vj wr => ∃ (s r : Nat), vi = .int .i64 s ∧ vj = .int .i64 r ∧ a ≤ s ∧ s ≤ r ∧ r ≤ m ∧ Hid (SI Bind.nm bs p a m s r ∧ BOwn B bs (.slice (some ⟨g, 0, none⟩) N cap) wr ∧ Below B w wr)) (fun vi vj _ => (intOf vj).toNat - (intOf vi).toNat)
  case atStart => exact ⟨a, m, rfl, rfl, Nat.le_refl _, by omega, Nat.le_refl _, hid ⟨SI.start, HO.out, HB.out⟩⟩
  case round =>
    obtain ⟨s, r, rfl, rfl, h0s, hsr, hr0, hS⟩ := hrel
    clear HO HB d0 d1 d2 d3 d4 d5 d6 d7 da db t0 t1 tq 
    have HCN := hid HN.out
    by_cases hlt : s < r
    · have hl0 : decide ((s : Int) < (r : Int)) = true := by simp; omega
      obtain ⟨h, hh⟩ : ∃ h, (s + r) / 2 = h := ⟨_, rfl⟩
      have hsh : s ≤ h := by omega
      have hhr : h < r := by omega
      have e3 : ((s : Int) + (r : Int)) / 2 = (h : Int) := by omega
      have e4 : IntKind.i64.wrap (h : Int) = (h : Int) := wrapN h (by omega)
      clear hh
      obtain ⟨u, hu⟩ : ∃ u, p - h = u := ⟨_, rfl⟩
      have e5 : (p : Int) - (h : Int) = (u : Int) := by omega
      have e6 : IntKind.i64.wrap (u : Int) = (u : Int) := wrapN u (by omega)
      have huN : u < N := by omega
      have hhN : h < N := by omega
      have HU := hid hu
      clear hu
      have HXI := hid (show u < N by omega)
      have HYI := hid (show h < N by omega)
      obtain ⟨⟨xn, ⟨xk, xi, xb, xs⟩⟩, hx⟩ : ∃ x, bs[u]? = some x := ⟨_, List.getElem?_eq_getElem (by rw [HCN.out]; exact HXI.out)⟩
      obtain ⟨⟨yn, ⟨yk, yi, yb, ys⟩⟩, hy⟩ : ∃ x, bs[h]? = some x := ⟨_, List.getElem?_eq_getElem (by rw [HCN.out]; exact HYI.out)⟩
      have hX := hid hx
      have hY := hid hy
      clear hx hy
      have P0 : (0 : Int) ≤ (u : Int) := by omega
      have Q0 : (0 : Int) ≤ (h : Int) := by omega
      have P1 : (u : Int) < (N : Int) := by omega
      have Q1 : (h : Int) < (N : Int) := by omega
      obtain ⟨R, hR⟩ : ∃ R, ordS xn yn = R := ⟨_, rfl⟩
      have hRn : decide (R < 0) = decide (Bind.nm ⟨xn, ⟨xk, xi, xb, xs⟩⟩ < Bind.nm ⟨yn, ⟨yk, yi, yb, ys⟩⟩) := by rw [← hR]; exact ordS_neg ⟨xn, ⟨xk, xi, xb, xs⟩⟩ ⟨yn, ⟨yk, yi, yb, ys⟩⟩
      have cB : ∀ U, Calls Tryd.prog 60 #[.agg #[.string xn, .int .u8 xk, .int .i64 xi, .bool xb, .string xs], .agg #[.string yn, .int .u8 yk, .int .i64 yi, .bool yb, .string ys]] U fun e w' => e = .returned (.int .i64 R) ∧ Below U.heap.size U w' := fun U => by
        have := byName_any ⟨xn, ⟨xk, xi, xb, xs⟩⟩ ⟨yn, ⟨yk, yi, yb, ys⟩⟩ U
        rw [hR] at this
        exact this
      have HRN := hid hRn
      have HCB := hid cB
      clear hR hRn cB
      go_upto_region 35 with fail
      refine quiet_lit (C := fun w' => Hid (BOwn B bs (.slice (some ⟨g, 0, none⟩) N cap) w' ∧ Below B w w')) (by kernel_rfl) (by kernel_rfl) (hid ⟨BOwn.drew hS.out.2.1, (hS.out.2.2).drew⟩) ?_
      repeat (first
        | go_big_quiet_skip
        | (go_big_quiet_want
           refine quiet_val (x := ?_) (fun vv hC => ?_) ?_
           rotate_left
           · skip
             obtain ⟨a0, a1, a2, a3, a4⟩ := bown_cells hC.out.1 HCN.out HXI.out hX.out
             obtain ⟨b0, b1, b2, b3, b4⟩ := bown_cells hC.out.1 HCN.out HYI.out hY.out
             clear hC
             go_simp
             with_reducible rfl
           go_big_quiet_on
           try simp only [Act.put, List.setIfInBounds_toArray, List.set_cons_zero, List.set_cons_succ])
        | (go_big_quiet_want
           refine quiet_call (f := ?_) (args := ?_) (x := ?_) (fun vv hC => ?_) (fun vv hC => ?_) ?_
           rotate_left 3
           · go_simp
             first | with_reducible rfl | (apply And.intro <;> with_reducible rfl)
           · first
               | (go_at_call 60; with_reducible refine (HCB.out _).mono ?_; rintro e ww ⟨rfl, bb⟩; refine And.intro ?_ (hid ⟨hC.out.1.below bb, hC.out.2.trans (bb.mono (bown_base hC.out.1))⟩); with_reducible rfl)
           go_big_quiet_on
           try simp only [Act.put, List.setIfInBounds_toArray, List.set_cons_zero, List.set_cons_succ]))
      refine wpQuiet_nil ?_
      intro vq hq
      by_cases hlt2 : Bind.nm ⟨xn, ⟨xk, xi, xb, xs⟩⟩ < Bind.nm ⟨yn, ⟨yk, yi, yb, ys⟩⟩
      · have t1 : decide (R < 0) = true := by rw [HRN.out]; exact decide_eq_true hlt2
        have t2 : R < 0 := of_decide_eq_true t1
        have HL := hid hlt2
        clear hlt2
        simp only [t1, Bool.not_true]
        go_wp2_with fail
        go_roundw
        case rel => exact ⟨s, h, rfl, rfl, h0s, hsh, by omega, hid ⟨hS.out.1.down hY.out (by rw [HU.out]; exact hX.out) HL.out, hq.out.1, hq.out.2⟩⟩
        case measure => simp [intOf]; omega
      · have t1 : decide (R < 0) = false := by rw [HRN.out]; exact decide_eq_false hlt2
        have t2 : ¬ R < 0 := of_decide_eq_false t1
        have HL := hid hlt2
        clear hlt2
        simp only [t1, Bool.not_false]
        go_wp2_with fail
        go_roundw
        case rel => exact ⟨h + 1, r, by go_num, rfl, by omega, by omega, hr0, hid ⟨hS.out.1.up hY.out (by rw [HU.out]; exact hX.out) HL.out, hq.out.1, hq.out.2⟩⟩
        case measure => simp [intOf]; omega
    · have hl0 : decide ((s : Int) < (r : Int)) = false := by simp; omega
      obtain rfl : s = r := by omega
      obtain ⟨e, he⟩ : ∃ e, nn - s = e := ⟨_, rfl⟩
      have e3 : (nn : Int) - (s : Int) = (e : Int) := by omega
      have e4 : IntKind.i64.wrap (e : Int) = (e : Int) := wrapN e (by omega)
      have has : a ≤ s := by omega
      have hsm : s ≤ m := by omega
      have hme : m ≤ e := by omega
      have heb : e ≤ b := by omega
      have hsq : s ≤ q := by omega
      have hqe : q ≤ e := by omega
      have hqb : q ≤ b := by omega
      have hse : q = s + (e - m) := by omega
      have HC1 : Hid (∀ x y, a < s → e < b → bs[s - 1]? = some x → bs[e]? = some y → Le Bind.nm x y) := by
        have hx := SI.end1 (a := a) (m := m) (b := b) (q := q) hS.out.1 (by omega) h0s (Or.inr ⟨by omega, rfl, rfl⟩) hqb
        rw [show q + m - s = e by omega] at hx
        exact hx
      have HC2 : Hid (∀ x y, s < m → m < e → bs[e - 1]? = some x → bs[s]? = some y → Bind.nm x < Bind.nm y) := by
        have hx := SI.end2 (a := a) (m := m) (b := b) (q := q) hS.out.1 (by omega) hr0 (Or.inr ⟨by omega, rfl, rfl⟩)
        rw [show q + m - s = e by omega] at hx
        exact hx
      have HSE := hid hse
      clear he hse
      go_upto_region 38 with fail
      go_cut [24] (fun s24 wc => s24 = .int .i64 e ∧ Hid (BOwn B bs (.slice (some ⟨g, 0, none⟩) N cap) wc ∧ Below B w wc))
      case first =>
        go_wp2_with fail
        go_meet
        exact ⟨rfl, hid ⟨hS.out.2.1, hS.out.2.2⟩⟩
      case rest =>
        rename World => wx
        obtain ⟨rfl, hW⟩ := hcut
        apply_assumption
        exact sym_t1 B g cap N n a m b q s e w wx bs HIH.out (by omega) HN.out hW has hsm hme heb hsq hqe (by omega) (by omega) HSE.out hb hl HLR.out.1 HLR.out.2 HC1.out HC2.out _ _ _ _ _ _ _ _ _ _ _ _ _ _ _ _ _ _ _ _ _ _ _ _ _ _ _ _ _ _ _ _ _ _ _ _ _ _ _ _ _ _ _ _ _ _ _ _ _ _ _ _ _ _ _ _ _ _ _ _ _ _ _ _ _ _ _ _ _ _ _ _ _ _ _ _ _ _ _ _ _ _ _ _ _ _ _ _ _ _ _ _ _ _ _ _ _ _ _ _ _ _ _ _ _ _ _ _ _ _ _ _ _ _ _ _ _ _ _ _ _ _ _ _ _ _ _ _ _ _ _ _ _ _ _ _ _ _ _ _ _ _ _ _ _ _ _ _ _ _ _ _ _ _ _ _ _ _ _ _ _ _ _ _ _ _ _ _ _ _ _ _ _ _ _ _ _ _ _ _ _ _ _ _ _ _ _ _ _ _ _ _ _ _ _ _ _ _ _ _ _ _ _ _ _ _ _ _ _ _ _ _
end Go.Proofs.YtohdifffdgoaaaaDoor
namespace Go.Proofs.YtohdifffdgoaaaaDoor
open Go.RowKit
open Go.Lib (hid)
open V Srt
theorem sym_any (B g cap N : Nat) (hl : N ≤ 10000000000000) : ∀ (n a m b : Nat) (bs : List Bind) (w : World), b - a ≤ n → bs.length = N → BOwn B bs (.slice (some ⟨g, 0, none⟩) N cap) w → a < m → m < b → b ≤ N → On Bind.nm a m bs → On Bind.nm m b bs → Calls Tryd.prog 99 #[(.slice (some ⟨g, 0, none⟩) N cap), .int .i64 a, .int .i64 m, .int .i64 b, (.func (.func 60) #[] #[])] w fun e w' => e = .returned (.tuple #[]) ∧ Below B w w' ∧ ∃ cs, Mrg Bind.nm a b bs cs ∧ BOwn B cs (.slice (some ⟨g, 0, none⟩) N cap) w'
  | 0, a, m, b, bs, w => fun h _ _ h1 h2 _ _ _ => absurd h1 (by omega)
  | n + 1, a, m, b, bs, w => fun h hN hO h1 h2 hb hL hR => by
    by_cases e1 : a + 1 = m
    · exact sym1_any B g cap N a m b bs w hN hO e1 h2 hb hl hR
    · by_cases e2 : m + 1 = b
      · exact sym2_any B g cap N a m b bs w hN hO (by omega) e2 hb hl hL
      · by_cases e3 : (a + b) / 2 < m
        · exact sym3a_any B g cap N n a m b bs w (sym_any B g cap N hl n) h hN hO (by omega) (by omega) hb hl e3 hL hR
        · exact sym3b_any B g cap N n a m b bs w (sym_any B g cap N hl n) h hN hO (by omega) (by omega) hb hl (by omega) hL hR
end Go.Proofs.YtohdifffdgoaaaaDoor
namespace Go.Proofs.YtohdifffdgoaaaaDoor
open Go.RowKit
open Go.Lib (hid)
open V Srt
theorem sym_call (B g cap N a m b : Nat) (bs : List Bind) (w : World) (hl : N ≤ 10000000000000) (hN : bs.length = N) (hO : BOwn B bs (.slice (some ⟨g, 0, none⟩) N cap) w) (h1 : a < m) (h2 : m < b) (hb : b ≤ N) (hL : On Bind.nm a m bs) (hR : On Bind.nm m b bs) :
    Calls Tryd.prog 99 #[(.slice (some ⟨g, 0, none⟩) N cap), .int .i64 a, .int .i64 m, .int .i64 b, (.func (.func 60) #[] #[])] w fun e w' => e = .returned (.tuple #[]) ∧ Below B w w' ∧ ∃ cs, Mrg Bind.nm a b bs cs ∧ BOwn B cs (.slice (some ⟨g, 0, none⟩) N cap) w' :=
  sym_any B g cap N hl (b - a) a m b bs w (Nat.le_refl _) hN hO h1 h2 hb hL hR
set_option maxRecDepth 100000 in
set_option maxHeartbeats 2000000 in
theorem stable_any (B g cap N : Nat) (bs : List Bind) (w : World) (hN : bs.length = N) (hO : BOwn B bs (.slice (some ⟨g, 0, none⟩) N cap) w) (hl : N ≤ 4000000000000) :
    Calls Tryd.prog 82 #[(.slice (some ⟨g, 0, none⟩) N cap), .int .i64 N, (.func (.func 60) #[] #[])] w fun e w' =>
      e = .returned (.tuple #[]) ∧ Below B w w' ∧ ∃ cs, Stab Bind.nm bs cs ∧ BOwn B cs (.slice (some ⟨g, 0, none⟩) N cap) w' := by
  have HN := hid hN
  have HO := hid hO
  have HB := hid (Below.refl B w)
  clear hN hO
  go_enter Tryd.func82, Tryd.ntmps82
  go_wp2_with fail
  go_loopw [7, 8] (fun va vb wr => ∃ (a c : Nat) (cs : List Bind), va = .int .i64 a ∧ vb = .int .i64 c ∧ a + 20 ≤ c ∧ c ≤ a + 20 ∧ a ≤ N ∧ Hid (20 ∣ a ∧ LS Bind.nm 20 N a cs ∧ Rng Bind.nm 0 N bs cs ∧ cs.length = N ∧ BOwn B cs (.slice (some ⟨g, 0, none⟩) N cap) wr ∧ Below B w wr)) (fun va _ _ => N - (intOf va).toNat)
  case atStart => exact ⟨0, 20, bs, rfl, rfl, by omega, by omega, by omega, hid ⟨Nat.dvd_zero _, LS.start, Rng.refl (Nat.zero_le _) (by rw [HN.out]; exact Nat.le_refl _), HN.out, HO.out, HB.out⟩⟩
  case round =>
    obtain ⟨a, c, cs, rfl, rfl, hac, hca, haN, hS⟩ := hrel
    clear HO HB
    by_cases hcN : c ≤ N
    · have hl0 : decide ((c : Int) ≤ (N : Int)) = true := by simp; omega
      obtain ⟨d, hd⟩ : ∃ d, c + 20 = d := ⟨_, rfl⟩
      have e1 : (c : Int) + 20 = (d : Int) := by omega
      have e2 : IntKind.i64.wrap (d : Int) = (d : Int) := by rw [IntKind.wrap_i64]; omega
      have hd1 : c + 20 ≤ d := by omega
      have hd2 : d ≤ c + 20 := by omega
      clear hd
      go_wp2_with fail
      refine (insertion_any B g cap N a c cs wr hS.out.2.2.2.1 hS.out.2.2.2.2.1 (by omega) hcN (by omega)).mono ?_
      rintro e w' ⟨rfl, bb, ds, hr, ho, hown⟩
      have HT : Hid (20 ∣ c ∧ LS Bind.nm 20 N c ds ∧ Rng Bind.nm 0 N bs ds ∧ ds.length = N ∧ BOwn B ds (.slice (some ⟨g, 0, none⟩) N cap) w' ∧ Below B w w') := by
        obtain rfl : a + 20 = c := by omega
        exact ⟨dvd_next hS.out.1, hS.out.2.1.step hS.out.1 hr ho, hS.out.2.2.1.trans (hr.mono (Nat.zero_le _) hcN (by rw [hS.out.2.2.2.1]; exact Nat.le_refl _)), hr.length.trans hS.out.2.2.2.1, hown, hS.out.2.2.2.2.2.trans bb⟩
      clear hS hr ho hown bb
      go_wp2_with fail
      go_roundw
      case rel => exact ⟨c, d, ds, rfl, rfl, hd1, hd2, hcN, HT⟩
      case measure => simp [intOf]; omega
    · have hl0 : decide ((c : Int) ≤ (N : Int)) = false := by simp; omega
      go_wp2_with fail
      refine (insertion_any B g cap N a N cs wr hS.out.2.2.2.1 hS.out.2.2.2.2.1 haN (Nat.le_refl _) (by omega)).mono ?_
      rintro e w' ⟨rfl, bb, ds, hr, ho, hown⟩
      have HT : Hid (RS Bind.nm 20 N 0 ds ∧ Rng Bind.nm 0 N bs ds ∧ ds.length = N ∧ BOwn B ds (.slice (some ⟨g, 0, none⟩) N cap) w' ∧ Below B w w') :=
        ⟨hS.out.2.1.last hS.out.1 (by omega) hr ho, hS.out.2.2.1.trans (hr.mono (Nat.zero_le _) (Nat.le_refl _) (by rw [hS.out.2.2.2.1]; exact Nat.le_refl _)), hr.length.trans hS.out.2.2.2.1, hown, hS.out.2.2.2.2.2.trans bb⟩
      clear hS hr ho hown bb
      go_wp2_with fail
      go_loopw [6] (fun vs wz => ∃ (z : Nat) (cs : List Bind), vs = .int .i64 z ∧ 20 ≤ z ∧ z ≤ 2 * N + 20 ∧ Hid (RS Bind.nm z N 0 cs ∧ Rng Bind.nm 0 N bs cs ∧ cs.length = N ∧ BOwn B cs (.slice (some ⟨g, 0, none⟩) N cap) wz ∧ Below B w wz)) (fun vs _ => N - (intOf vs).toNat)
      case atStart => exact ⟨20, ds, rfl, by omega, by omega, HT⟩
      case round =>
        obtain ⟨z, es, rfl, hz0, hzN, hU⟩ := hrel
        clear HT hl0
        by_cases hzl : z < N
        · have hl1 : decide ((z : Int) < (N : Int)) = true := by simp; omega
          obtain ⟨y, hy⟩ : ∃ y, 2 * z = y := ⟨_, rfl⟩
          have e1 : 2 * (z : Int) = (y : Int) := by omega
          have e2 : IntKind.i64.wrap (y : Int) = (y : Int) := by rw [IntKind.wrap_i64]; omega
          have e1' : (z : Int) * 2 = (y : Int) := by omega
          have y1 : 2 * z ≤ y := by omega
          have y2 : y ≤ 2 * z := by omega
          have HY := hid hy
          clear hy
          go_wp2_with fail
          rename_i wq _
          go_loopw [7, 8] (fun va vb wq => ∃ (a c : Nat) (cs : List Bind), va = .int .i64 a ∧ vb = .int .i64 c ∧ a + y ≤ c ∧ c ≤ a + y ∧ a ≤ N ∧ Hid (y ∣ a ∧ LS Bind.nm y N a cs ∧ RS Bind.nm z N a cs ∧ Rng Bind.nm 0 N bs cs ∧ cs.length = N ∧ BOwn B cs (.slice (some ⟨g, 0, none⟩) N cap) wq ∧ Below B w wq)) (fun va _ _ => N - (intOf va).toNat)
          case atStart => exact ⟨0, y, es, rfl, rfl, by omega, by omega, by omega, hid ⟨Nat.dvd_zero _, LS.start, hU.out.1, hU.out.2⟩⟩
          case round =>
            rename World => wk
            obtain ⟨a2, c2, fs, rfl, rfl, hac2, hca2, haN2, hV⟩ := hrel
            clear hU
            by_cases hcN2 : c2 ≤ N
            · have hl2 : decide ((c2 : Int) ≤ (N : Int)) = true := by simp; omega
              obtain ⟨m, hm⟩ : ∃ m, a2 + z = m := ⟨_, rfl⟩
              obtain ⟨d, hd⟩ : ∃ d, c2 + y = d := ⟨_, rfl⟩
              have e3 : (a2 : Int) + (z : Int) = (m : Int) := by omega
              have e4 : IntKind.i64.wrap (m : Int) = (m : Int) := by rw [IntKind.wrap_i64]; omega
              have e5 : (c2 : Int) + (y : Int) = (d : Int) := by omega
              have e6 : IntKind.i64.wrap (d : Int) = (d : Int) := by rw [IntKind.wrap_i64]; omega
              have m1 : a2 < m := by omega
              have m2 : m < c2 := by omega
              have d1 : c2 + y ≤ d := by omega
              have d2 : d ≤ c2 + y := by omega
              have HM := hid hm
              clear hm hd
              have HG : Hid (On Bind.nm a2 m fs ∧ On Bind.nm m c2 fs) := by
                obtain rfl := HM.out
                obtain rfl := HY.out
                exact ⟨hV.out.2.2.1 a2 _ (dvd_two hV.out.1) (Nat.le_refl _) (by omega) (by omega), hV.out.2.2.1 _ c2 (dvd_next (dvd_two hV.out.1)) (by omega) (by omega) hcN2⟩
              go_wp2_with fail
              refine (sym_call B g cap N a2 m c2 fs _ (by omega) hV.out.2.2.2.2.1 hV.out.2.2.2.2.2.1 m1 m2 hcN2 HG.out.1 HG.out.2).mono ?_
              rintro e w2 ⟨rfl, bb, gs, hr, hown⟩
              have HW : Hid (y ∣ c2 ∧ LS Bind.nm y N c2 gs ∧ RS Bind.nm z N c2 gs ∧ Rng Bind.nm 0 N bs gs ∧ gs.length = N ∧ BOwn B gs (.slice (some ⟨g, 0, none⟩) N cap) w2 ∧ Below B w w2) := by
                obtain rfl : a2 + y = c2 := by omega
                exact ⟨dvd_next hV.out.1, hV.out.2.1.step hV.out.1 hr.1 hr.2, hV.out.2.2.1.step (by omega) hr.1, hV.out.2.2.2.1.trans (hr.1.mono (Nat.zero_le _) hcN2 (by rw [hV.out.2.2.2.2.1]; exact Nat.le_refl _)), hr.1.length.trans hV.out.2.2.2.2.1, hown, hV.out.2.2.2.2.2.2.trans bb⟩
              clear hV hr hown bb HG
              go_wp2_with fail
              go_roundw
              case rel => exact ⟨c2, d, gs, rfl, rfl, d1, d2, hcN2, HW⟩
              case measure => simp [intOf]; omega
            · have hl2 : decide ((c2 : Int) ≤ (N : Int)) = false := by simp; omega
              obtain ⟨m, hm⟩ : ∃ m, a2 + z = m := ⟨_, rfl⟩
              have e3 : (a2 : Int) + (z : Int) = (m : Int) := by omega
              have e4 : IntKind.i64.wrap (m : Int) = (m : Int) := by rw [IntKind.wrap_i64]; omega
              have m1 : a2 < m := by omega
              have HM := hid hm
              clear hm
              by_cases hmN : m < N
              · have hl3 : decide ((m : Int) < (N : Int)) = true := by simp; omega
                have HG : Hid (On Bind.nm a2 m fs ∧ On Bind.nm m N fs) := by
                  obtain rfl := HM.out
                  obtain rfl := HY.out
                  exact ⟨hV.out.2.2.1 a2 _ (dvd_two hV.out.1) (Nat.le_refl _) (by omega) (by omega), hV.out.2.2.1 _ N (dvd_next (dvd_two hV.out.1)) (by omega) (by omega) (Nat.le_refl _)⟩
                go_wp2_with fail
                refine (sym_call B g cap N a2 m N fs _ (by omega) hV.out.2.2.2.2.1 hV.out.2.2.2.2.2.1 m1 hmN (Nat.le_refl _) HG.out.1 HG.out.2).mono ?_
                rintro e w2 ⟨rfl, bb, gs, hr, hown⟩
                have HW : Hid (RS Bind.nm y N 0 gs ∧ Rng Bind.nm 0 N bs gs ∧ gs.length = N ∧ BOwn B gs (.slice (some ⟨g, 0, none⟩) N cap) w2 ∧ Below B w w2) :=
                  ⟨hV.out.2.1.last hV.out.1 (by omega) hr.1 hr.2, hV.out.2.2.2.1.trans (hr.1.mono (Nat.zero_le _) (Nat.le_refl _) (by rw [hV.out.2.2.2.2.1]; exact Nat.le_refl _)), hr.1.length.trans hV.out.2.2.2.2.1, hown, hV.out.2.2.2.2.2.2.trans bb⟩
                clear hV hr hown bb HG
                go_wp2_with fail
                go_roundw
                case rel => exact ⟨y, gs, rfl, by omega, by omega, HW⟩
                case measure => simp [intOf]; omega
              · have hl3 : decide ((m : Int) < (N : Int)) = false := by simp; omega
                have HW : Hid (RS Bind.nm y N 0 fs ∧ Rng Bind.nm 0 N bs fs ∧ fs.length = N ∧ BOwn B fs (.slice (some ⟨g, 0, none⟩) N cap) wk ∧ Below B w wk) := by
                  refine ⟨hV.out.2.1.tail hV.out.1 (by omega) ?_, hV.out.2.2.2⟩
                  obtain rfl := HM.out
                  obtain rfl := HY.out
                  exact hV.out.2.2.1 a2 N (dvd_two hV.out.1) (Nat.le_refl _) (by omega) (Nat.le_refl _)
                clear hV
                go_wp2_with fail
                go_roundw
                case rel => exact ⟨y, fs, rfl, by omega, by omega, HW⟩
                case measure => simp [intOf]; omega
        · have hl1 : decide ((z : Int) < (N : Int)) = false := by simp; omega
          have HW : Hid (Stab Bind.nm bs es) := stab_of HN.out hU.out.2.1 (hU.out.1.whole (by omega))
          go_wp2_with fail
          go_end0
          exact ⟨rfl, hU.out.2.2.2.2, es, HW.out, hU.out.2.2.2.1⟩
set_option maxRecDepth 100000 in
theorem insertion_none (sv : Value) (w : World) :
    Calls Tryd.prog 98 #[sv, .int .i64 0, .int .i64 0, (.func (.func 60) #[] #[])] w fun e w' => e = .returned (.tuple #[]) ∧ w' = w := by
  go_enter Tryd.func98, Tryd.ntmps98
  go_wp2_with fail
  go_loopw [8] (fun vi wr => vi = .int .i64 1 ∧ wr = w) (fun vi _ => 0)
  case atStart => exact ⟨rfl, rfl⟩
  case round =>
    obtain ⟨rfl, rfl⟩ := hrel
    go_wp2_with fail
    go_end0
    exact ⟨rfl, rfl⟩
set_option maxRecDepth 100000 in
theorem stable_none (sv : Value) (w : World) :
    Calls Tryd.prog 82 #[sv, .int .i64 0, (.func (.func 60) #[] #[])] w fun e w' => e = .returned (.tuple #[]) ∧ w' = w := by
  go_enter Tryd.func82, Tryd.ntmps82
  go_wp2_with fail
  go_loopw [7, 8] (fun va vb wr => va = .int .i64 0 ∧ vb = .int .i64 20 ∧ wr = w) (fun _ _ _ => 0)
  case atStart => exact ⟨rfl, rfl, rfl⟩
  case round =>
    obtain ⟨rfl, rfl, rfl⟩ := hrel
    go_wp2_with fail
    refine (insertion_none sv _).mono ?_
    rintro e w' ⟨rfl, rfl⟩
    go_wp2_with fail
    go_loopw [6] (fun vs wz => vs = .int .i64 20 ∧ wz = w') (fun _ _ => 0)
    case atStart => exact ⟨rfl, rfl⟩
    case round =>
      obtain ⟨rfl, rfl⟩ := hrel
      go_wp2_with fail
      go_end0
      exact ⟨rfl, rfl⟩
end Go.Proofs.YtohdifffdgoaaaaDoor
namespace Go.Proofs.YtohdifffdgoaaaaDoor
open Go.RowKit
open Go.Lib (hid)
open V Srt
theorem sortS_any (B g cap N : Nat) (bs : List Bind) (w : World) (hN : bs.length = N) (hO : BOwn B bs (.slice (some ⟨g, 0, none⟩) N cap) w) (hl : N ≤ 4000000000000) :
    Calls Tryd.prog 59 #[.slice (some ⟨g, 0, none⟩) N cap, (.func (.func 60) #[] #[])] w fun e w' =>
      e = .returned (.tuple #[]) ∧ Below B w w' ∧ ∃ cs, Stab Bind.nm bs cs ∧ BOwn B cs (.slice (some ⟨g, 0, none⟩) N cap) w' := by
  have HC := hid (stable_any B g cap N bs w hN hO hl)
  clear hN hO
  go_enter Tryd.func59, Tryd.ntmps59
  go_wp2_with fail
  refine HC.out.mono ?_
  rintro e w' ⟨rfl, hb, cs, h1, h2⟩
  have H1 := hid h1
  have H2 := hid h2
  clear h1 h2
  go_wp2_with fail
  go_end0
  exact ⟨rfl, hb, cs, H1.out, H2.out⟩
theorem sortS_none (w : World) :
    Calls Tryd.prog 59 #[.slice none 0 0, (.func (.func 60) #[] #[])] w fun e w' => e = .returned (.tuple #[]) ∧ w' = w := by
  go_enter Tryd.func59, Tryd.ntmps59
  go_wp2_with fail
  refine (stable_none _ _).mono ?_
  rintro e w' ⟨rfl, rfl⟩
  go_wp2_with fail
  go_end0
  exact ⟨rfl, rfl⟩
def SortOf (bs : List Bind) (w : World) (e : Ending) (w' : World) : Prop := ∃ v cs, e = .returned v ∧ Stab Bind.nm bs cs ∧ BOwn w.heap.size cs v w' ∧ Below w.heap.size w w'
theorem sorted_any (bs : List Bind) (sv : Value) (w : World) (hin : BIn w bs sv) (hlen : bs.length * 56 ≤ 140737488355328) :
    Calls Tryd.prog 24 #[sv] w (SortOf bs w) := by
  have HC := hid (clone_any bs sv w hin hlen)
  clear hin
  go_enter Tryd.func24, Tryd.ntmps24
  go_wp2_with fail
  refine HC.out.mono ?_
  rintro e w1 ⟨v, rfl, hown, bb⟩
  rcases hown.form with ⟨rfl, rfl⟩ | ⟨g, cap, rfl, -, -⟩
  · have HB := hid bb
    clear HC hown bb
    go_wp2_with fail
    refine (sortS_none _).mono ?_
    rintro e w2 ⟨rfl, rfl⟩
    go_wp2_with fail
    go_ret
    exact ⟨_, [], rfl, ⟨rfl, StEq.refl _, List.Pairwise.nil⟩, BOwn.nil _ _, HB.out⟩
  · obtain ⟨n, hn⟩ : ∃ n, bs.length = n := ⟨_, rfl⟩
    rw [hn] at hown ⊢
    have HB := hid bb
    have HS := hid (sortS_any w.heap.size g cap n bs w1 hn hown (by omega))
    clear HC hown bb hn
    go_wp2_with fail
    refine HS.out.mono ?_
    rintro e w2 ⟨rfl, hb2, cs, h1, h2⟩
    have H1 := hid h1
    have HE : Hid (BOwn w.heap.size cs (.slice (some ⟨g, 0, none⟩) n cap) w2 ∧ Below w.heap.size w w2) := ⟨h2, HB.out.trans hb2⟩
    clear h1 h2 hb2 HB HS
    go_wp2_with fail
    go_ret
    exact ⟨_, cs, rfl, H1.out, HE.out.1, HE.out.2⟩
end Go.Proofs.YtohdifffdgoaaaaDoor
namespace Go.Proofs.YtohdifffdgoaaaaDoor
open V Srt
namespace V
theorem count_nm (x : List UInt8) : ∀ (l : List Bind), (l.map Bind.nm).count x = (l.filter fun b => decide (b.nm = x)).length
  | [] => rfl
  | b :: r => by
    rw [List.map_cons, List.count_cons, count_nm x r]
    by_cases h : b.nm = x
    · rw [List.filter_cons_of_pos (by simp [h]), if_pos (by simp [h])]; rfl
    · rw [List.filter_cons_of_neg (by simp [h]), if_neg (by simp [h])]; rfl
theorem findB_head (x : List UInt8) : ∀ (l : List Bind), findB l x = (l.filter fun b => decide (b.nm = x)).head?
  | [] => rfl
  | b :: r => by
    rw [findB_cons, findB_head x r]
    by_cases h : b.nm = x
    · rw [List.filter_cons_of_pos (by simp [h]), if_pos h]; rfl
    · rw [List.filter_cons_of_neg (by simp [h]), if_neg h]
theorem stab_find {bs cs : List Bind} (h : StEq Bind.nm bs cs) (x : List UInt8) : findB cs x = findB bs x := by
  rw [findB_head, findB_head, h x]
theorem stab_findV {bs cs : List Bind} (h : StEq Bind.nm bs cs) (x : List UInt8) : findV cs x = findV bs x := by
  unfold findV; rw [stab_find h]
theorem stab_zero {bs cs : List Bind} (h : StEq Bind.nm bs cs) : checkB cs = 0 ↔ checkB bs = 0 := by
  rw [checkB_zero, checkB_zero, List.nodup_iff_count, List.nodup_iff_count]
  constructor
  · rintro ⟨h1, h2⟩
    exact ⟨fun b hb => h1 b (h.mem hb), fun x => by have := h2 x; rw [count_nm] at this ⊢; rw [h x]; exact this⟩
  · rintro ⟨h1, h2⟩
    exact ⟨fun b hb => h1 b (h.symm.mem hb), fun x => by have := h2 x; rw [count_nm] at this ⊢; rw [← h x]; exact this⟩
theorem stab_check {bs cs : List Bind} (h : StEq Bind.nm bs cs) : (checkB cs == 0) = (checkB bs == 0) := by
  rw [Bool.eq_iff_iff, beq_iff_eq, beq_iff_eq]; exact stab_zero h
theorem stab_twice {bs cs ds : List Bind} (h : Stab Bind.nm bs cs) (g : Stab Bind.nm cs ds) : ds = cs := (sorted_unique cs ds h.2.2 g.2.2 g.2.1).symm
theorem stab_at {bs cs : List Bind} (h : Stab Bind.nm bs cs) {j k : Nat} {x y : Bind} (hjk : j < k) (hx : cs[j]? = some x) (hy : cs[k]? = some y) : Op.bytesLess x.name.toList y.name.toList = true ∨ (Op.bytesLess x.name.toList y.name.toList = false ∧ (x.name.toList == y.name.toList) = true) := by
  obtain ⟨hj, rfl⟩ := List.getElem?_eq_some_iff.1 hx
  obtain ⟨hk, rfl⟩ := List.getElem?_eq_some_iff.1 hy
  have hl : Le Bind.nm cs[j] cs[k] := List.pairwise_iff_getElem.1 h.2.2 j k hj hk hjk
  rw [bytesLess_eq, Lib.toList_data, Lib.toList_data]
  rcases le_cases hl with g | ⟨g, g2⟩
  · exact Or.inl (decide_eq_true g)
  · exact Or.inr ⟨decide_eq_false g, beq_iff_eq.2 g2⟩
end V
end Go.Proofs.YtohdifffdgoaaaaDoor
