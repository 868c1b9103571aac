/- JtextMakes: the walk of the statement. -/
import Derived.Test.YtphjfighamadgaaGreatDoorJAwake
import Derived.Test.YtphjfighamadgaaGreatDoorJRTwinW
import Derived.Test.YtphjfighamadgaaGreatDoorJSize
import Derived.Test.YtphjfighamadgaaGreatDoorJFlat
import Derived.Test.YtphjfighamadgaaGreatDoorJMakesP
namespace Go.Proofs.YtphjfighamadgaaGreatDoor
open Go.RowKit
open Go.Lib (hid validD)
theorem fld4 (k : Int) (b : Bool) (n : Int) (s : ByteArray) (u v : Value) (w : World) : (Instr.field 25 (.agg #[.int .u8 k, .bool b, .int .i64 n, .string s, u, v]) 4).run Tryz.prog w = .ok u w := by kernel_rfl
theorem infoPair : (Tryz.prog.info? 42).map (fun i => (i.zero, i.size, i.bytes)) = some (some (.agg #[.string ⟨#[]⟩, .int .u8 0, .bool false, .int .i64 0, .string ⟨#[]⟩, .slice none 0 0, .slice none 0 0]), 7, 96) := by kernel_rfl
set_option maxRecDepth 100000 in
set_option maxHeartbeats 4000000 in
theorem makes_walk (n : Int) (s : ByteArray) (b : Bool) (t : J.T) (lv : Value) (ns : List ByteArray) (nv : Value) (w : World) (hE : EnvJ w) (hl : t.In w (fun b => b < w.heap.size) lv) (hwd : t.wide) (hlen : t.length ≤ 9223372036854775807) (hn : J.SIn w (fun b => b < w.heap.size) ns nv) (hnl : ns.length ≤ 9223372036854775807) :
    Calls Tryz.prog 5 #[.int .i64 n, .string s, .bool b, lv, nv] w fun e w' => e = .returned (.bool true) ∧ Below w.heap.size w w' := by
  obtain ⟨la, lc, rfl⟩ := hl.shape
  obtain ⟨na, nc, rfl⟩ := hn.shape
  have cS := size_any ⟨0, false, 0, ⟨#[]⟩, t, []⟩ hwd hlen 600 0 (by decide) (by decide) (by decide) w (fun b => b < w.heap.size) _ hl (fun _ h => h)
  rw [if_neg (by decide)] at cS
  have HFEW := hid (J.sizeT_few t 600 0 (by decide))
  obtain ⟨sz, hsz⟩ : ∃ x, J.sizeT t 600 0 = x := ⟨_, rfl⟩
  simp only at cS
  rw [hsz] at cS HFEW
  have HE := hid hE
  have HL := hid hl
  have HN := hid hn
  obtain ⟨len, hle⟩ : ∃ x, t.length = x := ⟨_, rfl⟩
  obtain ⟨nn, hnn⟩ : ∃ x, ns.length = x := ⟨_, rfl⟩
  rw [hle] at cS hlen HFEW ⊢
  rw [hnn] at hnl ⊢
  have HLE := hid hle
  have HNN := hid hnn
  clear hE hl hn hsz hle hnn hwd
  go_enter Tryz.func5, Tryz.ntmps5
  by_cases h0 : sz < 0
  · have t0 : decide (sz < 0) = true := decide_eq_true h0
    go_wp2_with fail
    refine cS.mono ?_
    rintro e w1 ⟨rfl, hb⟩
    have HB1 := hid hb
    have cA := awake_any w1 (HE.out.under HB1.out)
    clear hb cS h0 HFEW
    go_wp2_with fail
    refine cA.mono ?_
    rintro e w2 ⟨rfl, hb⟩
    have HB2 := hid (HB1.out.trans (hb.mono HB1.out.size))
    clear hb cA
    go_wp2_with fail
    go_ret
    exact ⟨rfl, HB2.out⟩
  · have t0 : decide (sz < 0) = false := decide_eq_false h0
    by_cases h6 : 600 < nn
    · have t1 : decide ((600 : Int) < (nn : Int)) = true := decide_eq_true (by omega)
      have t2 : decide (600 < nn) = true := decide_eq_true h6
      go_wp2_with fail
      refine cS.mono ?_
      rintro e w1 ⟨rfl, hb⟩
      have HB1 := hid hb
      have cA := awake_any w1 (HE.out.under HB1.out)
      clear hb cS h0 HFEW h6
      go_wp2_with fail
      refine cA.mono ?_
      rintro e w2 ⟨rfl, hb⟩
      have HB2 := hid (HB1.out.trans (hb.mono HB1.out.size))
      clear hb cA
      go_wp2_with fail
      go_ret
      exact ⟨rfl, HB2.out⟩
    · have t1 : decide ((600 : Int) < (nn : Int)) = false := decide_eq_false (by omega)
      have t2 : decide (600 < nn) = false := decide_eq_false h6
      obtain ⟨hfew, hsm⟩ := HFEW.out (by omega)
      go_wp2_with fail
      refine cS.mono ?_
      rintro e w1 ⟨rfl, hb⟩
      have HB1 := hid hb
      have HSM := hid hsm
      have hlen6 : len ≤ 600 := by omega
      have hn6 : nn ≤ 600 := by omega
      have cT := rtwin_any ⟨0, false, 0, ⟨#[]⟩, t, []⟩ ⟨by show t.length ≤ _; rw [HLE.out]; omega, by show 0 ≤ _; omega, hsm⟩ w1 (fun b => b < w1.heap.size) [.int .u8 0, .bool false, .int .i64 0, .string ⟨#[]⟩, .slice la len lc, .slice none 0 0] ⟨_, _, rfl, by rw [← HLE.out]; exact J.T.In.keep (fun b h => Nat.lt_of_lt_of_le h HB1.out.size) (fun b h => HB1.out.block b h) HL.out, Or.inl ⟨rfl, none, 0, rfl, fun _ => rfl⟩⟩ (fun _ h => h)
      clear hb cS h0 HFEW h6 hfew hsm
      go_wp2_with fail
      refine cT.mono ?_
      rintro e w2 ⟨cs, rfl, hh, hb⟩
      obtain ⟨lv2, nv2, rfl, hin, hn2⟩ := hh
      have hn2 : J.SIn w2 (Own w2 w1.heap.size none) [] nv2 := hn2
      obtain ⟨na2, nc2, rfl⟩ := hn2.shape
      clear hn2
      have hin : t.In w2 (Own w2 w1.heap.size none) lv2 := hin
      obtain ⟨ia, ic, rfl⟩ := hin.shape
      obtain ⟨g, o, hgo⟩ := in_addr hin
      obtain ⟨m, p, hmp, hnat⟩ := HN.out.place
      have HBA := hid (HB1.out.trans (hb.mono HB1.out.size))
      have HGS : Hid (t ≠ .nil → w1.heap.size ≤ g ∧ g < w2.heap.size ∧ Spot w2 g (o + len * 6)) := fun hne => by
        obtain ⟨h1, h2, h3⟩ := hgo hne
        obtain ⟨h4, h5, _, cs, T, h6⟩ := J.T.At.own hne h3
        have := in_spot hne h3 h6
        rw [HLE.out] at this
        exact ⟨h4, h5, this⟩
      rw [HLE.out] at hgo hin ⊢
      rw [HNN.out] at hmp
      have HGO : Hid (t ≠ .nil → ia = some ⟨g, o, none⟩ ∧ len ≤ ic) := fun hne => ⟨(hgo hne).1, (hgo hne).2.1⟩
      have HMP := hid hmp
      have HNA := hid hnat
      have HIN : Hid (t.In w2 (fun b => b < w2.heap.size) (.slice ia len ic)) := hin.mono (fun b h => h.2.1)
      have HT : Hid (MK w2 (fun b => b < w2.heap.size) .nil t [] (.slice none 0 0) (.slice none 0 0) [] g (o + 0 * 6) w2) :=
        ⟨World.ownsRow_nil _ _ _ _, rfl, World.ownsRow_nil _ _ _ _, fun hne => by rw [Nat.zero_mul, Nat.add_zero]; exact J.T.At.keep (fun b h => h.2.1) (fun _ _ => rfl) _ _ _ (hgo hne).2.2, Below.refl _ _⟩
      have HS1 := hid HB1.out.size
      have HS2 := hid hb.size
      obtain ⟨q0, hq0, hq1, hq2, hq3⟩ := info_parts infoPair
      obtain ⟨j0, hj, hy0, hy1, hy2⟩ := info_parts infoStr2
      have HQ := hid (show _ ∧ _ ∧ _ ∧ _ from ⟨hq0, hq1, hq2, hq3⟩)
      have HJ := hid (show _ ∧ _ ∧ _ ∧ _ from ⟨hj, hy0, hy1, hy2⟩)
      clear hb cT t0 t1 t2 hin hgo hmp hnat hq0 hq1 hq2 hq3 hj hy0 hy1 hy2
      have hfd := fun W => fld4 0 false 0 ⟨#[]⟩ (.slice ia len ic) (.slice na2 0 nc2) W
      go_upto_region 7 with fail
      clear hfd
      go_loopw [12, 13, 14] (fun vp vn vi wr => ∃ (i : Nat) (pv nv : Value), i ≤ len ∧ i ≤ nn ∧ vi = .int .i64 i ∧ vp = pv ∧ vn = nv ∧ ∃ (t1 t2 : J.T) (n1 : List ByteArray) (cs : List Value), Hid (t1.app t2 = t ∧ n1 = ns.take i ∧ t1.length = i ∧ n1.length = i) ∧ Hid (MK w2 (fun b => b < w2.heap.size) t1 t2 n1 pv nv cs g (o + i * 6) wr)) (fun _ _ vi _ => len - (intOf vi).toNat)
      case atStart => exact ⟨0, _, _, Nat.zero_le _, Nat.zero_le _, rfl, rfl, rfl, .nil, t, [], [], hid ⟨rfl, rfl, rfl, rfl⟩, HT⟩
      case round =>
        obtain ⟨i, pv, nv, hi, hi2, rfl, rfl, rfl, t1, t2, n1, cs, HA, HI⟩ := hrel
        clear HT
        obtain ⟨pa, pc, hpv⟩ := own_shape HI.out.p
        rw [HA.out.2.2.1] at hpv
        subst hpv
        obtain ⟨wa, wc, hnv⟩ := own_shape HI.out.n
        rw [HA.out.2.2.2] at hnv
        subst hnv
        by_cases hlt : i < len
        · have d0 : decide ((i : Int) < (len : Int)) = true := decide_eq_true (by omega)
          have d1 : decide (i < len) = true := decide_eq_true (by omega)
          by_cases hnt : i < nn
          · have e0 : decide ((i : Int) < (nn : Int)) = true := decide_eq_true (by omega)
            have e1 : decide (i < nn) = true := decide_eq_true (by omega)
            cases t2 with
            | nil => have h1 := HA.out.2.2.1; have h2 := HLE.out; rw [← HA.out.1, J.T.app_nil] at h2; omega
            | cons k1 b1 v1 s1 l1 ns1 r =>
              obtain ⟨al, cl, an, cn, u0, u1, u2, u3, u4, u5, hh, hr⟩ := (HI.out.t (fun h => by cases h)).head
              obtain ⟨lv1, nv1, he, hl1, hn1⟩ := hh
              simp only [List.cons.injEq, and_true, true_and] at he
              obtain ⟨rfl, rfl⟩ := he
              have hlne : t ≠ .nil := fun h => by have := HLE.out; rw [h] at this; simp [J.T.length] at this; omega
              obtain ⟨hga, hgc⟩ := HGO.out hlne
              subst hga
              obtain ⟨hma, hmc⟩ := HMP.out (by omega)
              subst hma
              obtain ⟨nm, hnm⟩ : ∃ nm, ns[i]? = some nm := ⟨_, List.getElem?_eq_getElem (by have := HNN.out; omega)⟩
              have HNM := hid hnm
              have HBR : Hid (Below w.heap.size w wr) := HBA.out.trans (HI.out.b.mono HBA.out.size)
              have hm0 := HNA.out i nm hnm
              have y0 : wr.cell? ⟨m, p + i, none⟩ = some (.string nm) := (HBR.out.cell (p := ⟨m, p + i, none⟩) hm0.1).trans hm0.2
              have HM0 : Hid (m < w.heap.size) := hm0.1
              have HL1 := hid hl1
              have HN1 := hid hn1
              have hi0 : (0 : Int) ≤ (i : Int) := by omega
              have hi1 : (i : Int) < (len : Int) := by omega
              have hi2' : (i : Int) < (nn : Int) := by omega
              have HMB : Hid (i + 1 ≤ maxLen ∧ (i + 1) * 96 ≤ 140737488355328 ∧ (i + 1) * 16 ≤ 140737488355328) := by show _ ∧ _ ∧ _; unfold maxLen; omega
              have HON : Hid (∀ u ∈ ([.string nm, .int .u8 k1, .bool b1, .int .i64 v1, .string s1, .slice al l1.length cl, .slice an ns1.length cn] : List Value), u.oneCell' = true) := by
                intro u hu
                simp only [List.mem_cons, List.not_mem_nil, or_false] at hu
                rcases hu with rfl | rfl | rfl | rfl | rfl | rfl | rfl <;> rfl
              have HON1 : Hid (∀ u ∈ ([.string nm] : List Value), u.oneCell' = true) := by
                intro u hu
                simp only [List.mem_cons, List.not_mem_nil, or_false] at hu
                subst hu; rfl
              have HP9 : Hid ((wr.alloc (.cells #[.string nm, .int .u8 k1, .bool b1, .int .i64 v1, .string s1, .slice al l1.length cl, .slice an ns1.length cn] 42)).drew.ownsRow w2.heap.size 42 7 (.slice pa i pc) i cs) := by
                have := World.ownsRow.drew (World.ownsRow.alloc HI.out.p (.cells #[.string nm, .int .u8 k1, .bool b1, .int .i64 v1, .string s1, .slice al l1.length cl, .slice an ns1.length cn] 42))
                rw [HA.out.2.2.1] at this
                exact this
              have HNW := hid <| World.news_of_block (w := (wr.alloc (.cells #[.string nm, .int .u8 k1, .bool b1, .int .i64 v1, .string s1, .slice al l1.length cl, .slice an ns1.length cn] 42)).drew) (cs := #[.string nm, .int .u8 k1, .bool b1, .int .i64 v1, .string s1, .slice al l1.length cl, .slice an ns1.length cn]) (heap_alloc_new wr (.cells #[.string nm, .int .u8 k1, .bool b1, .int .i64 v1, .string s1, .slice al l1.length cl, .slice an ns1.length cn] 42))
              have HBW : Hid (w2.heap.size ≤ (wr.alloc (.cells #[.string nm, .int .u8 k1, .bool b1, .int .i64 v1, .string s1, .slice al l1.length cl, .slice an ns1.length cn] 42)).drew.heap.size) := by show _ ≤ (wr.alloc (.cells #[.string nm, .int .u8 k1, .bool b1, .int .i64 v1, .string s1, .slice al l1.length cl, .slice an ns1.length cn] 42)).heap.size; have := HI.out.b.size; simp; omega
              have HCE : Hid (∀ W : World, W.heap = wr.heap → ∀ (g i : Nat), W.cell? ⟨g, i, none⟩ = wr.cell? ⟨g, i, none⟩) := fun W h g i => World.cell?_of_block (w := wr) (by rw [h])
              clear hl1 hn1 hnm hm0 hlne hr
              go_upto_region 9 with fail
              refine wp_region_till (S := (fun W : World => W.heap = wr.heap)) 10 (by kernel_rfl) ?_
              have HS := hid (show ((fun W : World => W.heap = wr.heap)) _ from rfl)
              refine wpTill_any 0 (oi := ?oi1) (v := ?v1) ?ho1 (by kernel_rfl) (by kernel_rfl) (by kernel_rfl) (by kernel_rfl) ?hq1 (Or.inl ⟨?hw1, ?hy1⟩) (fun _ => HS.out) ?rest1
              case ho1 => simp only [List.getElem?_toArray, List.getElem?_cons_zero]; rfl
              case hw1 => rfl
              case hy1 => intro w; go_simp; try with_reducible rfl
              case hq1 => exact fun _ _ _ h => h
              try simp only [Act.put, List.setIfInBounds_toArray, List.set_cons_zero, List.set_cons_succ]
              refine wpTill_any 1 (oi := ?oi2) (v := ?v2) ?ho2 (by kernel_rfl) (by kernel_rfl) (by kernel_rfl) (by kernel_rfl) ?hq2 (Or.inl ⟨?hw2, ?hy2⟩) (fun _ => HS.out) ?rest2
              case ho2 => simp only [List.getElem?_toArray, List.getElem?_cons_succ, List.getElem?_cons_zero]; rfl
              case hw2 => rfl
              case hy2 => intro w; go_simp; try with_reducible rfl
              case hq2 => exact fun _ _ _ h => h
              try simp only [Act.put, List.setIfInBounds_toArray, List.set_cons_zero, List.set_cons_succ]
              refine wpTill_any 2 (oi := ?oi3) (v := ?v3) ?ho3 (by kernel_rfl) (by kernel_rfl) (by kernel_rfl) (by kernel_rfl) ?hq3 (Or.inl ⟨?hw3, ?hy3⟩) (fun _ => HS.out) ?rest3
              case ho3 => simp only [List.getElem?_toArray, List.getElem?_cons_succ, List.getElem?_cons_zero]; rfl
              case hw3 => rfl
              case hy3 => intro w; go_simp; try with_reducible rfl
              case hq3 => exact fun _ _ _ h => h
              try simp only [Act.put, List.setIfInBounds_toArray, List.set_cons_zero, List.set_cons_succ]
              refine wpTill_any 3 (oi := ?oi4) (v := ?v4) ?ho4 (by kernel_rfl) (by kernel_rfl) (by kernel_rfl) (by kernel_rfl) ?hq4 (Or.inl ⟨?hw4, ?hy4⟩) (fun _ => HS.out) ?rest4
              case ho4 => simp only [List.getElem?_toArray, List.getElem?_cons_succ, List.getElem?_cons_zero]; rfl
              case hw4 => rfl
              case hy4 => intro w; go_simp; try with_reducible rfl
              case hq4 => exact fun _ _ _ h => h
              try simp only [Act.put, List.setIfInBounds_toArray, List.set_cons_zero, List.set_cons_succ]
              refine wpTill_any 5 (oi := ?oi5) (v := ?v5) ?ho5 (by kernel_rfl) (by kernel_rfl) (by kernel_rfl) (by kernel_rfl) ?hq5 (Or.inl ⟨?hw5, ?hy5⟩) (fun _ => HS.out) ?rest5
              case ho5 => simp only [List.getElem?_toArray, List.getElem?_cons_succ, List.getElem?_cons_zero]; rfl
              case hw5 => rfl
              case hy5 => intro w; go_simp; try with_reducible rfl
              case hq5 => exact fun _ _ _ h => h
              try simp only [Act.put, List.setIfInBounds_toArray, List.set_cons_zero, List.set_cons_succ]
              refine wpTill_any 6 (oi := ?oi6) (v := ?v6) ?ho6 (by kernel_rfl) (by kernel_rfl) (by kernel_rfl) (by kernel_rfl) ?hq6 (Or.inl ⟨?hw6, ?hy6⟩) (fun _ => HS.out) ?rest6
              case ho6 => simp only [List.getElem?_toArray, List.getElem?_cons_succ, List.getElem?_cons_zero]; rfl
              case hw6 => rfl
              case hy6 => intro w; go_simp; try with_reducible rfl
              case hq6 => exact fun _ _ _ h => h
              try simp only [Act.put, List.setIfInBounds_toArray, List.set_cons_zero, List.set_cons_succ]
              refine wpTill_any 7 (oi := ?oi7) (v := ?v7) ?ho7 (by kernel_rfl) (by kernel_rfl) (by kernel_rfl) (by kernel_rfl) ?hq7 (Or.inl ⟨?hw7, ?hy7⟩) (fun _ => HS.out) ?rest7
              case ho7 => simp only [List.getElem?_toArray, List.getElem?_cons_succ, List.getElem?_cons_zero]; rfl
              case hw7 => rfl
              case hy7 => intro w; go_simp; try with_reducible rfl
              case hq7 => exact fun _ _ _ h => h
              try simp only [Act.put, List.setIfInBounds_toArray, List.set_cons_zero, List.set_cons_succ]
              refine wpTill_load 4 [4, 9, 10] (oi := ?oi8) (v := ?v8) ?ho8 (by kernel_rfl) (by kernel_rfl) (by kernel_rfl) (by kernel_rfl) ?hq8 (Or.inl ⟨?hw8, ?hy8⟩) HS.out ?rest8
              case ho8 => simp only [List.getElem?_toArray, List.getElem?_cons_succ, List.getElem?_cons_zero]; rfl
              case hw8 => rfl
              case hy8 =>
                intro w hSw
                have y0' := (HCE.out w hSw _ _ ).trans y0
                clear hSw
                go_simp
                try with_reducible rfl
              case hq8 => exact fun _ _ _ h => h
              try simp only [Act.put, List.setIfInBounds_toArray, List.set_cons_zero, List.set_cons_succ]
              refine wpTill_load 8 [8, 9, 10] (oi := ?oi9) (v := ?v9) ?ho9 (by kernel_rfl) (by kernel_rfl) (by kernel_rfl) (by kernel_rfl) ?hq9 (Or.inl ⟨?hw9, ?hy9⟩) HS.out ?rest9
              case ho9 => simp only [List.getElem?_toArray, List.getElem?_cons_succ, List.getElem?_cons_zero]; rfl
              case hw9 => rfl
              case hy9 =>
                intro w hSw
                have u0' := (HCE.out w hSw _ _ ).trans u0
                have u1' := (HCE.out w hSw _ _ ).trans u1
                have u2' := (HCE.out w hSw _ _ ).trans u2
                have u3' := (HCE.out w hSw _ _ ).trans u3
                have u4' := (HCE.out w hSw _ _ ).trans u4
                have u5' := (HCE.out w hSw _ _ ).trans u5
                clear hSw
                go_simp
                try with_reducible rfl
              case hq9 => exact fun _ _ _ h => h
              try simp only [Act.put, List.setIfInBounds_toArray, List.set_cons_zero, List.set_cons_succ]
              refine wpTill_any 9 (oi := ?oi10) (v := ?v10) ?ho10 (by kernel_rfl) (by kernel_rfl) (by kernel_rfl) (by kernel_rfl) ?hq10 (Or.inl ⟨?hw10, ?hy10⟩) (fun _ => HS.out) ?rest10
              case ho10 => simp only [List.getElem?_toArray, List.getElem?_cons_succ, List.getElem?_cons_zero]; rfl
              case hw10 => rfl
              case hy10 => intro w; go_simp; try with_reducible rfl
              case hq10 => exact fun _ _ _ h => h
              try simp only [Act.put, List.setIfInBounds_toArray, List.set_cons_zero, List.set_cons_succ]
              refine wpTill_ready (rs := [10]) (by kernel_rfl) (by decide) ?_
              refine AllTill.consH (o := ?oi11) ?ho11 (fun K hK => ?step11) ?more11
              case ho11 => simp only [List.getElem?_toArray, List.getElem?_cons_succ, List.getElem?_cons_zero]; rfl
              case step11 =>
                go_simp
                refine hK.out _ _ (fun hk => by cases (show true = false from hk)) (fun _ => ?_)
                clear hK K
                try simp only [Act.put, List.setIfInBounds_toArray, List.set_cons_zero, List.set_cons_succ]
                refine wpTill_ready (rs := [11]) (by kernel_rfl) (by decide) ?_
                refine AllTill.consH (o := ?oi12) ?ho12 (fun K hK => ?step12) ?more12
                case ho12 => simp only [List.getElem?_toArray, List.getElem?_cons_succ, List.getElem?_cons_zero]; rfl
                case step12 =>
                  refine step_append_lies _ (by rfl) (.tmp 45) (.tmp 55) 40 (by rfl) w2.heap.size 42 q0 _ 7 96 Tryz.underlying40 HQ.out.1 HQ.out.2.1 HQ.out.2.2.1 HQ.out.2.2.2 rfl (by decide) (.slice pa i pc) i cs (by rfl) HP9.out ⟨wr.heap.size, 0, none⟩ 1 1 [.string nm, .int .u8 k1, .bool b1, .int .i64 v1, .string s1, .slice al l1.length cl, .slice an ns1.length cn] (by rfl) rfl HNW.out HON.out (by decide) HMB.out.1 HMB.out.2.1 HBW.out _ rfl ?_
                  intro g1 cap1 w8 hown hgrow hat hlt8
                  have HO8 := hid hown
                  have HG8 := hid hgrow
                  have HA8 := hid hat
                  clear hown hgrow hat hlt8
                  try dsimp only
                  refine hK.out _ _ (fun hk => by cases (show true = false from hk)) (fun _ => ?_)
                  clear hK K
                  try simp only [Act.put, List.setIfInBounds_toArray, List.set_cons_zero, List.set_cons_succ]
                  refine wpTill_any 12 (oi := ?oi13) (v := ?v13) ?ho13 (by kernel_rfl) (by kernel_rfl) (by kernel_rfl) (by kernel_rfl) ?hq13 (Or.inl ⟨?hw13, ?hy13⟩) (fun hk => by cases (show true = false from hk)) ?rest13
                  case ho13 => simp only [List.getElem?_toArray, List.getElem?_cons_succ, List.getElem?_cons_zero]; rfl
                  case hw13 => rfl
                  case hy13 => intro w; go_simp; try with_reducible rfl
                  case hq13 => exact fun _ _ _ h => h
                  try simp only [Act.put, List.setIfInBounds_toArray, List.set_cons_zero, List.set_cons_succ]
                  refine wpTill_done (by kernel_rfl) ?_ _
                  clear u0 u1 u2 u3 u4 u5
                  have hpm : (Value.slice pa i pc).ownBlock ≠ some m := fun e => by have h1 := (World.ownsRow.lt HI.out.p m e).1; have h2 := HM0.out; have h3 := HBA.out.size; omega
                  have y1 : w8.cell? ⟨m, p + i, none⟩ = some (.string nm) := by
                    have e8 : w8.heap[m]? = wr.heap[m]? := (HG8.out.block m (by show m < (wr.alloc (.cells #[.string nm, .int .u8 k1, .bool b1, .int .i64 v1, .string s1, .slice al l1.length cl, .slice an ns1.length cn] 42)).heap.size; have := HM0.out; have := HBR.out.size; simp; omega) (fun e => hpm e.symm)).trans (Lib.alloc_old _ _ _ (by have := HM0.out; have := HBR.out.size; omega))
                    rw [World.cell?_of_block (w := wr) (a := ⟨m, p + i, none⟩) e8]
                    exact y0
                  have HN8 : Hid ((w8.alloc (.cells #[.string nm] 9)).ownsRow w2.heap.size 9 1 (.slice wa i wc) i (n1.map Value.string)) := by
                    show World.ownsRow _ _ _ _ _ _ _
                    have h1 := World.ownsRow.drew (World.ownsRow.alloc HI.out.n (.cells #[.string nm, .int .u8 k1, .bool b1, .int .i64 v1, .string s1, .slice al l1.length cl, .slice an ns1.length cn] 42))
                    rw [HA.out.2.2.2] at h1
                    refine World.ownsRow.alloc (World.ownsRow.kept h1 HG8.out ?_) _
                    rcases hpv : (Value.slice wa i wc).ownBlock with _ | k
                    · exact Or.inl rfl
                    · exact Or.inr fun e => HI.out.apart e.symm hpv
                  have HNW8 := hid <| World.news_of_block (cs := #[.string nm]) (heap_alloc_new w8 (.cells #[.string nm] 9))
                  have HBW8 : Hid (w2.heap.size ≤ (w8.alloc (.cells #[.string nm] 9)).heap.size) := by show _ ≤ _; have h1 := HI.out.b.size; have h2 := HG8.out.size; have h3 : (wr.alloc (.cells #[.string nm, .int .u8 k1, .bool b1, .int .i64 v1, .string s1, .slice al l1.length cl, .slice an ns1.length cn] 42)).drew.heap.size = wr.heap.size + 1 := (by show (wr.alloc (.cells #[.string nm, .int .u8 k1, .bool b1, .int .i64 v1, .string s1, .slice al l1.length cl, .slice an ns1.length cn] 42)).heap.size = _; simp); simp; omega
                  clear hpm y0
                  go_wp2_with (at_builtin; refine wpList_append_lies _ rfl _ _ 23 rfl w2.heap.size 9 j0 _ 1 16 Tryz.underlying23 HJ.out.1 HJ.out.2.1 HJ.out.2.2.1 HJ.out.2.2.2 rfl (by decide) (.slice wa i wc) i (n1.map Value.string) rfl HN8.out ⟨w8.heap.size, 0, none⟩ 1 1 [.string nm] rfl rfl HNW8.out HON1.out (by decide) HMB.out.1 HMB.out.2.2 HBW8.out _ rfl ?_)
                  intro g2 cap2 w9 hown hgrow hat hlt9
                  have HR9 := hid (MK.more HI.out (fun _ h => h) HA.out.2.2.1 HA.out.2.2.2 HL1.out HN1.out HG8.out HO8.out HA8.out hgrow hown)
                  clear hown hgrow hat hlt9 y1
                  go_wp2_with fail
                  go_roundw
                  case rel =>
                    refine ⟨i + 1, _, _, by omega, by omega, by go_num, rfl, rfl, t1.snoc ⟨k1, b1, v1, s1, l1, ns1⟩, r, n1 ++ [nm], _, hid ⟨?_, ?_, ?_, ?_⟩, by rw [show o + (i + 1) * 6 = o + i * 6 + 6 by omega]; exact HR9⟩
                    · rw [← HA.out.1]; unfold J.T.snoc; rw [J.T.app_assoc]; rfl
                    · rw [HA.out.2.1, List.take_add_one, HNM.out]; rfl
                    · rw [J.T.snoc_length, HA.out.2.2.1]
                    · rw [List.length_append, HA.out.2.2.2]; rfl
                  case measure => simp [intOf]; omega
                case more12 =>
                  exact AllTill.nil
              case more11 =>
                exact AllTill.nil
          · have e0 : decide ((i : Int) < (nn : Int)) = false := decide_eq_false (by omega)
            have e1 : decide (i < nn) = false := decide_eq_false (by omega)
            have hsm1 : t1.small := (J.T.small_app t1 t2 (by rw [HA.out.1]; exact HSM.out)).1
            have HSM1 := hid hsm1
            have hinr : t.In wr (fun b => b < wr.heap.size) (.slice ia len ic) := J.T.In.keep (fun b h => Nat.lt_of_lt_of_le h HI.out.b.size) (fun b h => HI.out.b.block b h) HIN.out
            have cL : Calls Tryz.prog 17 #[.slice ia len ic] wr (TwinOf ⟨5, false, 0, ⟨#[]⟩, t, []⟩ wr) := list_any (by rw [HLE.out]; omega) HSM.out hinr (fun _ h => h)
            clear hsm1 hinr
            go_wp2_with fail
            refine cL.mono ?_
            rintro e w4 ⟨ca, rfl, hha, hb4⟩
            have hpin : J.PIn w4 (fun b => b < w4.heap.size) t1 n1 (.slice pa i pc) := J.PCells.is (World.ownsRow.kept (row := none) HI.out.p ⟨hb4.os, hb4.tape, hb4.output, hb4.size, fun k hk _ => hb4.block k hk⟩ (Classical.em _)) rfl (J.PCells.keep (fun b hb => Nat.lt_of_lt_of_le hb (Nat.le_trans HI.out.b.size hb4.size)) (fun b hb => hb4.block b (Nat.lt_of_lt_of_le hb HI.out.b.size)) _ _ _ HI.out.c)
            have cO : Calls Tryz.prog 18 #[.slice pa i pc] w4 (TwinOf ⟨6, false, 0, ⟨#[]⟩, t1, n1⟩ w4) := obj_any (by rw [HA.out.2.2.1]; omega) HSM1.out hpin (fun _ h => h)
            obtain ⟨k2, b2, v2, s2, a1, l2, c1, a2, m2, c2, rfl⟩ := Shape.of hha
            have HHA := hid hha
            have HB4 := hid hb4
            clear hha hb4 hpin cL
            go_wp2_with fail
            refine cO.mono ?_
            rintro e w5 ⟨co, rfl, hho, hb5⟩
            obtain ⟨k3, b3, v3, s3, a3, l3, c3, a4, m4, c4, rfl⟩ := Shape.of hho
            have HHO := hid hho
            have HB5 := hid hb5
            clear hho hb5 cO
            go_upto_region 12 with fail
            obtain ⟨w6, hw6⟩ : ∃ w6, (w5.alloc (.cells #[.int .u8 k2, .bool b2, .int .i64 v2, .string s2, .slice a1 l2 c1, .slice a2 m2 c2] 25)).alloc (.cells #[.int .u8 k3, .bool b3, .int .i64 v3, .string s3, .slice a3 l3 c3, .slice a4 m4 c4] 25) = w6 := ⟨_, rfl⟩
            obtain ⟨X, hX⟩ : ∃ X, w5.heap.size = X := ⟨_, rfl⟩
            have HPS : Hid (∀ gp, (Value.slice pa i pc).ownBlock = some gp → w2.heap.size ≤ gp ∧ gp < X ∧ Spot w6 gp (i * 7)) := by
              show ∀ gp, _
              intro gp hgp
              have h1 := World.ownsRow.lt HI.out.p gp hgp
              have h2 := own_spot HI.out.p gp hgp
              rw [HA.out.2.2.1] at h2
              have h3 := HB4.out.size
              have h4 := HB5.out.size
              refine ⟨h1.1, by omega, ?_⟩
              obtain ⟨cs', T, h5, h6⟩ := h2
              exact ⟨cs', T, by rw [← hw6, Lib.alloc_old _ _ _ (by simp; omega), Lib.alloc_old _ _ _ (by omega), HB5.out.block _ (by omega), HB4.out.block _ h1.2]; exact h5, h6⟩
            have HGS6 : Hid (t ≠ .nil → w.heap.size ≤ g ∧ g < X ∧ Spot w6 g (o + len * 6)) := fun hne => by
              obtain ⟨h1, h2, cs', T, h5, h6⟩ := HGS.out hne
              have h0 := HS1.out
              have h7 := HI.out.b.size
              have h3 := HB4.out.size
              have h4 := HB5.out.size
              exact ⟨by omega, by omega, cs', T, by rw [← hw6, Lib.alloc_old _ _ _ (by simp; omega), Lib.alloc_old _ _ _ (by omega), HB5.out.block _ (by omega), HB4.out.block _ (by omega), HI.out.b.block _ h2]; exact h5, h6⟩
            have HMS : Hid (MZ w (fun b => b < X ∧ (t ≠ .nil → b ≠ g) ∧ (Value.slice pa i pc).ownBlock ≠ some b) X t t1 n1 (.slice la len lc) (.slice wa i wc) [.int .u8 k2, .bool b2, .int .i64 v2, .string s2, .slice a1 l2 c1, .slice a2 m2 c2] [.int .u8 k3, .bool b3, .int .i64 v3, .string s3, .slice a3 l3 c3, .slice a4 m4 c4] g (o + len * 6) (Value.slice pa i pc).ownBlock (i * 7) w6) := by
              show MZ _ _ _ _ _ _ _ _ _ _ _ _ _ _ _
              exact ⟨MS.first HI.out HBA.out (by rw [← HLE.out]; exact HL.out) (fun hne => ⟨Nat.le_trans HS1.out (HGS.out hne).1, (HGS.out hne).2.1⟩) HHA.out HB4.out HHO.out HB5.out hX hw6, fun hne => (HGS6.out hne).2.2, fun gp hp => (HPS.out gp hp).2.2⟩
            have HI2 := hid (Nat.le_trans HS1.out HS2.out)
            have HS5 : Hid ((⟨5, false, 0, ⟨#[]⟩, t, []⟩ : J.V).small) := ⟨by show t.length ≤ _; rw [HLE.out]; omega, by show 0 ≤ _; omega, HSM.out⟩
            have HS6 : Hid ((⟨6, false, 0, ⟨#[]⟩, t1, n1⟩ : J.V).small) := ⟨by show t1.length ≤ _; rw [HA.out.2.2.1]; omega, by show n1.length ≤ _; rw [HA.out.2.2.2]; omega, HSM1.out⟩
            have HCUT : Hid (∀ (W : World) (P : Nat → Prop), t.In W P (.slice la len lc) → t1.In W P (.slice la i lc)) := fun W P h => by
              rw [← HA.out.1] at h
              have := J.T.In.front h
              rw [HA.out.2.2.1] at this
              exact this
            have hcap : i ≤ lc := by
              have h1 := HL.out
              rcases h1 with ⟨h1, a, c, h2, h3⟩ | ⟨g', o', c, h2, h3, h4, _⟩
              · have h4 := HLE.out
                rw [h1] at h4
                simp only [J.T.length] at h4
                omega
              · simp only [Value.slice.injEq] at h2
                have h4 := HLE.out
                omega
            have hcap0 : (i : Int) ≤ (lc : Int) := by omega
            have HXE := hid hX
            rw [hw6, hX]
            clear hw6 hX HHA HB4 HHO HB5
            have HC5 : Hid (∀ vv, MZ w (fun b => b < X ∧ (t ≠ .nil → b ≠ g) ∧ (Value.slice pa i pc).ownBlock ≠ some b) X t t1 n1 (.slice la len lc) (.slice wa i wc) [.int .u8 k2, .bool b2, .int .i64 v2, .string s2, .slice a1 l2 c1, .slice a2 m2 c2] [.int .u8 k3, .bool b3, .int .i64 v3, .string s3, .slice a3 l3 c3, .slice a4 m4 c4] g (o + len * 6) (Value.slice pa i pc).ownBlock (i * 7) vv → Calls Tryz.prog 11 #[.agg #[.int .u8 k2, .bool b2, .int .i64 v2, .string s2, .slice a1 l2 c1, .slice a2 m2 c2], .agg #[.int .u8 5, .bool false, .int .i64 0, .string ⟨#[]⟩, .slice la len lc, .slice none 0 0]] vv fun e w'' => e = .returned (.bool true) ∧ Below vv.heap.size vv w'') :=
              fun vv hC => rsame_any ⟨5, false, 0, ⟨#[]⟩, t, []⟩ HS5.out vv (fun b => b < X ∧ (t ≠ .nil → b ≠ g) ∧ (Value.slice pa i pc).ownBlock ≠ some b) [.int .u8 k2, .bool b2, .int .i64 v2, .string s2, .slice a1 l2 c1, .slice a2 m2 c2] [.int .u8 5, .bool false, .int .i64 0, .string ⟨#[]⟩, .slice la len lc, .slice none 0 0] hC.m.ha ⟨_, _, rfl, hC.m.l, Or.inl ⟨rfl, none, 0, rfl, fun _ => rfl⟩⟩ (fun b hb => Nat.lt_trans hb.1 (Go.lt_of_block hC.m.a))
            have HC6 : Hid (∀ vv, MZ w (fun b => b < X ∧ (t ≠ .nil → b ≠ g) ∧ (Value.slice pa i pc).ownBlock ≠ some b) X t t1 n1 (.slice la len lc) (.slice wa i wc) [.int .u8 k2, .bool b2, .int .i64 v2, .string s2, .slice a1 l2 c1, .slice a2 m2 c2] [.int .u8 k3, .bool b3, .int .i64 v3, .string s3, .slice a3 l3 c3, .slice a4 m4 c4] g (o + len * 6) (Value.slice pa i pc).ownBlock (i * 7) vv → Calls Tryz.prog 11 #[.agg #[.int .u8 k3, .bool b3, .int .i64 v3, .string s3, .slice a3 l3 c3, .slice a4 m4 c4], .agg #[.int .u8 6, .bool false, .int .i64 0, .string ⟨#[]⟩, .slice la i lc, .slice wa i wc]] vv fun e w'' => e = .returned (.bool true) ∧ Below vv.heap.size vv w'') :=
              fun vv hC => rsame_any ⟨6, false, 0, ⟨#[]⟩, t1, n1⟩ HS6.out vv (fun b => b < X ∧ (t ≠ .nil → b ≠ g) ∧ (Value.slice pa i pc).ownBlock ≠ some b) [.int .u8 k3, .bool b3, .int .i64 v3, .string s3, .slice a3 l3 c3, .slice a4 m4 c4] [.int .u8 6, .bool false, .int .i64 0, .string ⟨#[]⟩, .slice la i lc, .slice wa i wc] hC.m.ho ⟨_, _, rfl, HCUT.out vv _ hC.m.l, hC.m.n⟩ (fun b hb => Nat.lt_trans hb.1 (Go.lt_of_block hC.m.a))
            refine quiet_lit (C := (fun W => MZ w (fun b => b < X ∧ (t ≠ .nil → b ≠ g) ∧ (Value.slice pa i pc).ownBlock ≠ some b) X t t1 n1 (.slice la len lc) (.slice wa i wc) [.int .u8 k2, .bool b2, .int .i64 v2, .string s2, .slice a1 l2 c1, .slice a2 m2 c2] [.int .u8 k3, .bool b3, .int .i64 v3, .string s3, .slice a3 l3 c3, .slice a4 m4 c4] g (o + len * 6) (Value.slice pa i pc).ownBlock (i * 7) W)) (by kernel_rfl) (by kernel_rfl) (HMS.out.after (fun b hb => hb.1) (Below.refl _ _).drew) ?_
            repeat (first
              | go_big_quiet_skip
              | (go_big_quiet_want
                 refine quiet_val (x := ?_) (fun vv hC => ?_) ?_
                 rotate_left
                 · skip
                   obtain ⟨x0, x1, x2, x3, x4, x5⟩ := x6_of (show vv.heap[X]? = some (.cells #[.int .u8 k2, .bool b2, .int .i64 v2, .string s2, .slice a1 l2 c1, .slice a2 m2 c2] 25 (0, 0)) from hC.m.a)
                   obtain ⟨y0, y1, y2, y3, y4, y5⟩ := x6_of (show vv.heap[X + 1]? = some (.cells #[.int .u8 k3, .bool b3, .int .i64 v3, .string s3, .slice a3 l3 c3, .slice a4 m4 c4] 25 (0, 0)) from hC.m.o)
                   clear hC
                   go_simp
                   with_reducible rfl
                 go_big_quiet_on
                 try simp only [Act.put, List.setIfInBounds_toArray, List.set_cons_zero, List.set_cons_succ])
              | (go_big_quiet_want
                 refine quiet_call (f := ?_) (args := ?_) (x := ?_) (fun vv hC => ?_) (fun vv hC => ?_) ?_
                 rotate_left 3
                 · go_simp
                   first | with_reducible rfl | (apply And.intro <;> with_reducible rfl)
                 · first
                     | (go_at_call 11; with_reducible refine (HC5.out vv hC).mono ?_; rintro e ww ⟨rfl, bb⟩; refine And.intro ?_ (hC.after (fun b hb => hb.1) bb); with_reducible rfl)
                     | (go_at_call 11; with_reducible refine (HC6.out vv hC).mono ?_; rintro e ww ⟨rfl, bb⟩; refine And.intro ?_ (hC.after (fun b hb => hb.1) bb); with_reducible rfl)
                 go_big_quiet_on
                 try simp only [Act.put, List.setIfInBounds_toArray, List.set_cons_zero, List.set_cons_succ]))
            refine wpQuiet_nil ?_
            intro vq hq
            have HM := hid hq
            clear hq HMS
            go_upto_region 14 with fail
            go_loopw [18] (fun vi wq => ∃ (j : Nat), j ≤ len ∧ vi = .int .i64 j ∧ Hid (MZ w (fun b => b < X ∧ (t ≠ .nil → b ≠ g) ∧ (Value.slice pa i pc).ownBlock ≠ some b) X t t1 n1 (.slice la len lc) (.slice wa i wc) [.int .u8 k2, .bool b2, .int .i64 v2, .string s2, .slice a1 l2 c1, .slice a2 m2 c2] [.int .u8 k3, .bool b3, .int .i64 v3, .string s3, .slice a3 l3 c3, .slice a4 m4 c4] g (o + len * 6) (Value.slice pa i pc).ownBlock (i * 7) wq)) (fun vi _ => len - (intOf vi).toNat)
            case atStart => exact ⟨0, Nat.zero_le _, rfl, HM⟩
            case round =>
              obtain ⟨j, hj, rfl, HM2⟩ := hrel
              clear HM
              by_cases hjt : j < len
              · have dd0 : decide ((j : Int) < (len : Int)) = true := decide_eq_true (by omega)
                have dd1 : decide (j < len) = true := decide_eq_true (by omega)
                have hne : t ≠ .nil := fun h => by have := HLE.out; rw [h] at this; simp [J.T.length] at this; omega
                obtain ⟨hga, -⟩ := HGO.out hne
                subst hga
                have hsp := HM2.out.s hne
                obtain ⟨z0, y0⟩ := hsp.cell (o + j * 6) (by omega)
                obtain ⟨z1, y1⟩ := hsp.cell (o + j * 6 + 1) (by omega)
                obtain ⟨z2, y2⟩ := hsp.cell (o + j * 6 + 2) (by omega)
                obtain ⟨z3, y3⟩ := hsp.cell (o + j * 6 + 3) (by omega)
                obtain ⟨z4, y4⟩ := hsp.cell (o + j * 6 + 4) (by omega)
                obtain ⟨z5, y5⟩ := hsp.cell (o + j * 6 + 5) (by omega)
                have f0 := hsp.free (o + j * 6)
                have f1 := hsp.free (o + j * 6 + 1)
                have f2 := hsp.free (o + j * 6 + 2)
                have f3 := hsp.free (o + j * 6 + 3)
                have f4 := hsp.free (o + j * 6 + 4)
                have f5 := hsp.free (o + j * 6 + 5)
                have hj0 : (0 : Int) ≤ (j : Int) := by omega
                have hj1 : (j : Int) < (len : Int) := by omega
                have HSP := hid (fun c0 c1 c2 c3 c4 c5 => HM2.out.spoil (fun b hb => ⟨hb.1, hb.2.1 hne⟩) ⟨(HGS6.out hne).2.1, (HGS6.out hne).1⟩ (st6_grown _ g (o + j * 6) c0 c1 c2 c3 c4 c5) (fun l hl => hl.six _ _ _ _ _ _ _))
                clear hsp hne
                go_wp2_with fail
                go_roundw
                case rel => exact ⟨j + 1, by omega, by go_num, hid (HSP.out _ _ _ _ _ _)⟩
                case measure => simp [intOf]; omega
              · have dd0 : decide ((j : Int) < (len : Int)) = false := decide_eq_false (by omega)
                have dd1 : decide (j < len) = false := decide_eq_false (by omega)
                clear hj hjt
                have HM := hid HM2.out
                clear HM2
                go_upto_region 18 with fail
                go_loopw [19] (fun vi wq => ∃ (j : Nat), j ≤ i ∧ vi = .int .i64 j ∧ Hid (MZ w (fun b => b < X ∧ (t ≠ .nil → b ≠ g) ∧ (Value.slice pa i pc).ownBlock ≠ some b) X t t1 n1 (.slice la len lc) (.slice wa i wc) [.int .u8 k2, .bool b2, .int .i64 v2, .string s2, .slice a1 l2 c1, .slice a2 m2 c2] [.int .u8 k3, .bool b3, .int .i64 v3, .string s3, .slice a3 l3 c3, .slice a4 m4 c4] g (o + len * 6) (Value.slice pa i pc).ownBlock (i * 7) wq)) (fun vi _ => i - (intOf vi).toNat)
                case atStart => exact ⟨0, Nat.zero_le _, rfl, HM⟩
                case round =>
                  obtain ⟨j3, hj3, rfl, HM2⟩ := hrel
                  clear HM
                  by_cases hjt : j3 < i
                  · have dd2 : decide ((j3 : Int) < (i : Int)) = true := decide_eq_true (by omega)
                    have dd3 : decide (j3 < i) = true := decide_eq_true (by omega)
                    obtain ⟨gp, hgp⟩ : ∃ gp, pa = some ⟨gp, 0, none⟩ := by
                      rcases HI.out.p.2 with ⟨h1, h2⟩ | ⟨g', cap, cur, h1, _⟩
                      · rw [HA.out.2.2.1] at h2; omega
                      · simp only [Value.slice.injEq] at h1; exact ⟨g', h1.1⟩
                    subst hgp
                    have hsp := HM2.out.p gp rfl
                    have hgp2 := HPS.out gp rfl
                    obtain ⟨z0, y0⟩ := hsp.cell (j3 * 7) (by omega)
                    obtain ⟨z1, y1⟩ := hsp.cell (j3 * 7 + 1) (by omega)
                    obtain ⟨z2, y2⟩ := hsp.cell (j3 * 7 + 2) (by omega)
                    obtain ⟨z3, y3⟩ := hsp.cell (j3 * 7 + 3) (by omega)
                    obtain ⟨z4, y4⟩ := hsp.cell (j3 * 7 + 4) (by omega)
                    obtain ⟨z5, y5⟩ := hsp.cell (j3 * 7 + 5) (by omega)
                    obtain ⟨z6, y6⟩ := hsp.cell (j3 * 7 + 6) (by omega)
                    have f0 := hsp.free (j3 * 7)
                    have f1 := hsp.free (j3 * 7 + 1)
                    have f2 := hsp.free (j3 * 7 + 2)
                    have f3 := hsp.free (j3 * 7 + 3)
                    have f4 := hsp.free (j3 * 7 + 4)
                    have f5 := hsp.free (j3 * 7 + 5)
                    have f6 := hsp.free (j3 * 7 + 6)
                    have hj0 : (0 : Int) ≤ (j3 : Int) := by omega
                    have hj1 : (j3 : Int) < (i : Int) := by omega
                    have HSP := hid (fun c0 c1 c2 c3 c4 c5 c6 => HM2.out.spoil (b0 := gp) (fun b hb => ⟨hb.1, fun e => hb.2.2 (by rw [e]; rfl)⟩) ⟨hgp2.2.1, Nat.le_trans HI2.out hgp2.1⟩ (st7_grown _ gp (j3 * 7) c0 c1 c2 c3 c4 c5 c6) (fun l hl => hl.seven _ _ _ _ _ _ _ _))
                    clear hsp hgp2
                    go_wp2_with fail
                    go_roundw
                    case rel => exact ⟨j3 + 1, by omega, by go_num, hid (HSP.out _ _ _ _ _ _ _)⟩
                    case measure => simp [intOf]; omega
                  · have dd2 : decide ((j3 : Int) < (i : Int)) = false := decide_eq_false (by omega)
                    have dd3 : decide (j3 < i) = false := decide_eq_false (by omega)
                    have HMS := hid HM2.out
                    clear hj3 hjt HM2
                    go_upto_region 21 with fail
                    refine quiet_lit (C := (fun W => MZ w (fun b => b < X ∧ (t ≠ .nil → b ≠ g) ∧ (Value.slice pa i pc).ownBlock ≠ some b) X t t1 n1 (.slice la len lc) (.slice wa i wc) [.int .u8 k2, .bool b2, .int .i64 v2, .string s2, .slice a1 l2 c1, .slice a2 m2 c2] [.int .u8 k3, .bool b3, .int .i64 v3, .string s3, .slice a3 l3 c3, .slice a4 m4 c4] g (o + len * 6) (Value.slice pa i pc).ownBlock (i * 7) W)) (by kernel_rfl) (by kernel_rfl) (HMS.out.after (fun b hb => hb.1) (Below.refl _ _).drew) ?_
                    repeat (first
                      | go_big_quiet_skip
                      | (go_big_quiet_want
                         refine quiet_val (x := ?_) (fun vv hC => ?_) ?_
                         rotate_left
                         · skip
                           obtain ⟨x0, x1, x2, x3, x4, x5⟩ := x6_of (show vv.heap[X]? = some (.cells #[.int .u8 k2, .bool b2, .int .i64 v2, .string s2, .slice a1 l2 c1, .slice a2 m2 c2] 25 (0, 0)) from hC.m.a)
                           obtain ⟨y0, y1, y2, y3, y4, y5⟩ := x6_of (show vv.heap[X + 1]? = some (.cells #[.int .u8 k3, .bool b3, .int .i64 v3, .string s3, .slice a3 l3 c3, .slice a4 m4 c4] 25 (0, 0)) from hC.m.o)
                           clear hC
                           go_simp
                           with_reducible rfl
                         go_big_quiet_on
                         try simp only [Act.put, List.setIfInBounds_toArray, List.set_cons_zero, List.set_cons_succ])
                      | (go_big_quiet_want
                         refine quiet_call (f := ?_) (args := ?_) (x := ?_) (fun vv hC => ?_) (fun vv hC => ?_) ?_
                         rotate_left 3
                         · go_simp
                           first | with_reducible rfl | (apply And.intro <;> with_reducible rfl)
                         · first
                             | (go_at_call 11; with_reducible refine (HC5.out vv hC).mono ?_; rintro e ww ⟨rfl, bb⟩; refine And.intro ?_ (hC.after (fun b hb => hb.1) bb); with_reducible rfl)
                             | (go_at_call 11; with_reducible refine (HC6.out vv hC).mono ?_; rintro e ww ⟨rfl, bb⟩; refine And.intro ?_ (hC.after (fun b hb => hb.1) bb); with_reducible rfl)
                         go_big_quiet_on
                         try simp only [Act.put, List.setIfInBounds_toArray, List.set_cons_zero, List.set_cons_succ]))
                    refine wpQuiet_nil ?_
                    intro vq hq
                    have HM := hid hq
                    clear hq HMS
                    go_upto_region 23 with fail
                    have HBZ := hid HM.out.m.b
                    clear HM
                    go_wp2_with fail
                    refine (null_any _).mono ?_
                    rintro e wz ⟨rfl, hbz⟩
                    have HBZ2 := hid (HBZ.out.trans (hbz.mono HBZ.out.size))
                    clear hbz HBZ
                    have HBZ := hid HBZ2.out
                    clear HBZ2
                    go_wp2_with fail
                    refine (same_flat 1 false 0 ⟨#[]⟩ wz).mono ?_
                    rintro e wy ⟨rfl, hbz⟩
                    have HBZ2 := hid (HBZ.out.trans (hbz.mono HBZ.out.size))
                    clear hbz HBZ
                    have HBZ := hid HBZ2.out
                    clear HBZ2
                    go_wp2_with fail
                    refine (yes_any b _).mono ?_
                    rintro e wz ⟨rfl, hbz⟩
                    have HBZ2 := hid (HBZ.out.trans (hbz.mono HBZ.out.size))
                    clear hbz HBZ
                    have HBZ := hid HBZ2.out
                    clear HBZ2
                    go_wp2_with fail
                    refine (same_flat 2 b 0 ⟨#[]⟩ wz).mono ?_
                    rintro e wy ⟨rfl, hbz⟩
                    have HBZ2 := hid (HBZ.out.trans (hbz.mono HBZ.out.size))
                    clear hbz HBZ
                    have HBZ := hid HBZ2.out
                    clear HBZ2
                    go_wp2_with fail
                    refine (int_any n _).mono ?_
                    rintro e wz ⟨rfl, hbz⟩
                    have HBZ2 := hid (HBZ.out.trans (hbz.mono HBZ.out.size))
                    clear hbz HBZ
                    have HBZ := hid HBZ2.out
                    clear HBZ2
                    go_wp2_with fail
                    refine (same_flat 3 false n ⟨#[]⟩ wz).mono ?_
                    rintro e wy ⟨rfl, hbz⟩
                    have HBZ2 := hid (HBZ.out.trans (hbz.mono HBZ.out.size))
                    clear hbz HBZ
                    have HBZ := hid HBZ2.out
                    clear HBZ2
                    go_wp2_with fail
                    refine (str_any s _).mono ?_
                    rintro e wz ⟨rfl, hbz⟩
                    have HBZ2 := hid (HBZ.out.trans (hbz.mono HBZ.out.size))
                    clear hbz HBZ
                    have HBZ := hid HBZ2.out
                    clear HBZ2
                    go_wp2_with fail
                    refine (same_flat 4 false 0 s wz).mono ?_
                    rintro e wy ⟨rfl, hbz⟩
                    have HBZ2 := hid (HBZ.out.trans (hbz.mono HBZ.out.size))
                    clear hbz HBZ
                    have HBZ := hid HBZ2.out
                    clear HBZ2
                    have cA := awake_any _ (HE.out.under HBZ.out)
                    go_wp2_with fail
                    refine cA.mono ?_
                    rintro e wx ⟨rfl, hbz⟩
                    have HBZ2 := hid (HBZ.out.trans (hbz.mono HBZ.out.size))
                    clear hbz cA HBZ
                    go_wp2_with fail
                    go_ret
                    exact ⟨rfl, HBZ2.out⟩
        · have d0 : decide ((i : Int) < (len : Int)) = false := decide_eq_false (by omega)
          have d1 : decide (i < len) = false := decide_eq_false (by omega)
          have hsm1 : t1.small := (J.T.small_app t1 t2 (by rw [HA.out.1]; exact HSM.out)).1
          have HSM1 := hid hsm1
          have hinr : t.In wr (fun b => b < wr.heap.size) (.slice ia len ic) := J.T.In.keep (fun b h => Nat.lt_of_lt_of_le h HI.out.b.size) (fun b h => HI.out.b.block b h) HIN.out
          have cL : Calls Tryz.prog 17 #[.slice ia len ic] wr (TwinOf ⟨5, false, 0, ⟨#[]⟩, t, []⟩ wr) := list_any (by rw [HLE.out]; omega) HSM.out hinr (fun _ h => h)
          clear hsm1 hinr
          go_wp2_with fail
          refine cL.mono ?_
          rintro e w4 ⟨ca, rfl, hha, hb4⟩
          have hpin : J.PIn w4 (fun b => b < w4.heap.size) t1 n1 (.slice pa i pc) := J.PCells.is (World.ownsRow.kept (row := none) HI.out.p ⟨hb4.os, hb4.tape, hb4.output, hb4.size, fun k hk _ => hb4.block k hk⟩ (Classical.em _)) rfl (J.PCells.keep (fun b hb => Nat.lt_of_lt_of_le hb (Nat.le_trans HI.out.b.size hb4.size)) (fun b hb => hb4.block b (Nat.lt_of_lt_of_le hb HI.out.b.size)) _ _ _ HI.out.c)
          have cO : Calls Tryz.prog 18 #[.slice pa i pc] w4 (TwinOf ⟨6, false, 0, ⟨#[]⟩, t1, n1⟩ w4) := obj_any (by rw [HA.out.2.2.1]; omega) HSM1.out hpin (fun _ h => h)
          obtain ⟨k2, b2, v2, s2, a1, l2, c1, a2, m2, c2, rfl⟩ := Shape.of hha
          have HHA := hid hha
          have HB4 := hid hb4
          clear hha hb4 hpin cL
          go_wp2_with fail
          refine cO.mono ?_
          rintro e w5 ⟨co, rfl, hho, hb5⟩
          obtain ⟨k3, b3, v3, s3, a3, l3, c3, a4, m4, c4, rfl⟩ := Shape.of hho
          have HHO := hid hho
          have HB5 := hid hb5
          clear hho hb5 cO
          go_upto_region 12 with fail
          obtain ⟨w6, hw6⟩ : ∃ w6, (w5.alloc (.cells #[.int .u8 k2, .bool b2, .int .i64 v2, .string s2, .slice a1 l2 c1, .slice a2 m2 c2] 25)).alloc (.cells #[.int .u8 k3, .bool b3, .int .i64 v3, .string s3, .slice a3 l3 c3, .slice a4 m4 c4] 25) = w6 := ⟨_, rfl⟩
          obtain ⟨X, hX⟩ : ∃ X, w5.heap.size = X := ⟨_, rfl⟩
          have HPS : Hid (∀ gp, (Value.slice pa i pc).ownBlock = some gp → w2.heap.size ≤ gp ∧ gp < X ∧ Spot w6 gp (i * 7)) := by
            show ∀ gp, _
            intro gp hgp
            have h1 := World.ownsRow.lt HI.out.p gp hgp
            have h2 := own_spot HI.out.p gp hgp
            rw [HA.out.2.2.1] at h2
            have h3 := HB4.out.size
            have h4 := HB5.out.size
            refine ⟨h1.1, by omega, ?_⟩
            obtain ⟨cs', T, h5, h6⟩ := h2
            exact ⟨cs', T, by rw [← hw6, Lib.alloc_old _ _ _ (by simp; omega), Lib.alloc_old _ _ _ (by omega), HB5.out.block _ (by omega), HB4.out.block _ h1.2]; exact h5, h6⟩
          have HGS6 : Hid (t ≠ .nil → w.heap.size ≤ g ∧ g < X ∧ Spot w6 g (o + len * 6)) := fun hne => by
            obtain ⟨h1, h2, cs', T, h5, h6⟩ := HGS.out hne
            have h0 := HS1.out
            have h7 := HI.out.b.size
            have h3 := HB4.out.size
            have h4 := HB5.out.size
            exact ⟨by omega, by omega, cs', T, by rw [← hw6, Lib.alloc_old _ _ _ (by simp; omega), Lib.alloc_old _ _ _ (by omega), HB5.out.block _ (by omega), HB4.out.block _ (by omega), HI.out.b.block _ h2]; exact h5, h6⟩
          have HMS : Hid (MZ w (fun b => b < X ∧ (t ≠ .nil → b ≠ g) ∧ (Value.slice pa i pc).ownBlock ≠ some b) X t t1 n1 (.slice la len lc) (.slice wa i wc) [.int .u8 k2, .bool b2, .int .i64 v2, .string s2, .slice a1 l2 c1, .slice a2 m2 c2] [.int .u8 k3, .bool b3, .int .i64 v3, .string s3, .slice a3 l3 c3, .slice a4 m4 c4] g (o + len * 6) (Value.slice pa i pc).ownBlock (i * 7) w6) := by
            show MZ _ _ _ _ _ _ _ _ _ _ _ _ _ _ _
            exact ⟨MS.first HI.out HBA.out (by rw [← HLE.out]; exact HL.out) (fun hne => ⟨Nat.le_trans HS1.out (HGS.out hne).1, (HGS.out hne).2.1⟩) HHA.out HB4.out HHO.out HB5.out hX hw6, fun hne => (HGS6.out hne).2.2, fun gp hp => (HPS.out gp hp).2.2⟩
          have HI2 := hid (Nat.le_trans HS1.out HS2.out)
          have HS5 : Hid ((⟨5, false, 0, ⟨#[]⟩, t, []⟩ : J.V).small) := ⟨by show t.length ≤ _; rw [HLE.out]; omega, by show 0 ≤ _; omega, HSM.out⟩
          have HS6 : Hid ((⟨6, false, 0, ⟨#[]⟩, t1, n1⟩ : J.V).small) := ⟨by show t1.length ≤ _; rw [HA.out.2.2.1]; omega, by show n1.length ≤ _; rw [HA.out.2.2.2]; omega, HSM1.out⟩
          have HCUT : Hid (∀ (W : World) (P : Nat → Prop), t.In W P (.slice la len lc) → t1.In W P (.slice la i lc)) := fun W P h => by
            rw [← HA.out.1] at h
            have := J.T.In.front h
            rw [HA.out.2.2.1] at this
            exact this
          have hcap : i ≤ lc := by
            have h1 := HL.out
            rcases h1 with ⟨h1, a, c, h2, h3⟩ | ⟨g', o', c, h2, h3, h4, _⟩
            · have h4 := HLE.out
              rw [h1] at h4
              simp only [J.T.length] at h4
              omega
            · simp only [Value.slice.injEq] at h2
              have h4 := HLE.out
              omega
          have hcap0 : (i : Int) ≤ (lc : Int) := by omega
          have HXE := hid hX
          rw [hw6, hX]
          clear hw6 hX HHA HB4 HHO HB5
          have HC5 : Hid (∀ vv, MZ w (fun b => b < X ∧ (t ≠ .nil → b ≠ g) ∧ (Value.slice pa i pc).ownBlock ≠ some b) X t t1 n1 (.slice la len lc) (.slice wa i wc) [.int .u8 k2, .bool b2, .int .i64 v2, .string s2, .slice a1 l2 c1, .slice a2 m2 c2] [.int .u8 k3, .bool b3, .int .i64 v3, .string s3, .slice a3 l3 c3, .slice a4 m4 c4] g (o + len * 6) (Value.slice pa i pc).ownBlock (i * 7) vv → Calls Tryz.prog 11 #[.agg #[.int .u8 k2, .bool b2, .int .i64 v2, .string s2, .slice a1 l2 c1, .slice a2 m2 c2], .agg #[.int .u8 5, .bool false, .int .i64 0, .string ⟨#[]⟩, .slice la len lc, .slice none 0 0]] vv fun e w'' => e = .returned (.bool true) ∧ Below vv.heap.size vv w'') :=
            fun vv hC => rsame_any ⟨5, false, 0, ⟨#[]⟩, t, []⟩ HS5.out vv (fun b => b < X ∧ (t ≠ .nil → b ≠ g) ∧ (Value.slice pa i pc).ownBlock ≠ some b) [.int .u8 k2, .bool b2, .int .i64 v2, .string s2, .slice a1 l2 c1, .slice a2 m2 c2] [.int .u8 5, .bool false, .int .i64 0, .string ⟨#[]⟩, .slice la len lc, .slice none 0 0] hC.m.ha ⟨_, _, rfl, hC.m.l, Or.inl ⟨rfl, none, 0, rfl, fun _ => rfl⟩⟩ (fun b hb => Nat.lt_trans hb.1 (Go.lt_of_block hC.m.a))
          have HC6 : Hid (∀ vv, MZ w (fun b => b < X ∧ (t ≠ .nil → b ≠ g) ∧ (Value.slice pa i pc).ownBlock ≠ some b) X t t1 n1 (.slice la len lc) (.slice wa i wc) [.int .u8 k2, .bool b2, .int .i64 v2, .string s2, .slice a1 l2 c1, .slice a2 m2 c2] [.int .u8 k3, .bool b3, .int .i64 v3, .string s3, .slice a3 l3 c3, .slice a4 m4 c4] g (o + len * 6) (Value.slice pa i pc).ownBlock (i * 7) vv → Calls Tryz.prog 11 #[.agg #[.int .u8 k3, .bool b3, .int .i64 v3, .string s3, .slice a3 l3 c3, .slice a4 m4 c4], .agg #[.int .u8 6, .bool false, .int .i64 0, .string ⟨#[]⟩, .slice la i lc, .slice wa i wc]] vv fun e w'' => e = .returned (.bool true) ∧ Below vv.heap.size vv w'') :=
            fun vv hC => rsame_any ⟨6, false, 0, ⟨#[]⟩, t1, n1⟩ HS6.out vv (fun b => b < X ∧ (t ≠ .nil → b ≠ g) ∧ (Value.slice pa i pc).ownBlock ≠ some b) [.int .u8 k3, .bool b3, .int .i64 v3, .string s3, .slice a3 l3 c3, .slice a4 m4 c4] [.int .u8 6, .bool false, .int .i64 0, .string ⟨#[]⟩, .slice la i lc, .slice wa i wc] hC.m.ho ⟨_, _, rfl, HCUT.out vv _ hC.m.l, hC.m.n⟩ (fun b hb => Nat.lt_trans hb.1 (Go.lt_of_block hC.m.a))
          refine quiet_lit (C := (fun W => MZ w (fun b => b < X ∧ (t ≠ .nil → b ≠ g) ∧ (Value.slice pa i pc).ownBlock ≠ some b) X t t1 n1 (.slice la len lc) (.slice wa i wc) [.int .u8 k2, .bool b2, .int .i64 v2, .string s2, .slice a1 l2 c1, .slice a2 m2 c2] [.int .u8 k3, .bool b3, .int .i64 v3, .string s3, .slice a3 l3 c3, .slice a4 m4 c4] g (o + len * 6) (Value.slice pa i pc).ownBlock (i * 7) W)) (by kernel_rfl) (by kernel_rfl) (HMS.out.after (fun b hb => hb.1) (Below.refl _ _).drew) ?_
          repeat (first
            | go_big_quiet_skip
            | (go_big_quiet_want
               refine quiet_val (x := ?_) (fun vv hC => ?_) ?_
               rotate_left
               · skip
                 obtain ⟨x0, x1, x2, x3, x4, x5⟩ := x6_of (show vv.heap[X]? = some (.cells #[.int .u8 k2, .bool b2, .int .i64 v2, .string s2, .slice a1 l2 c1, .slice a2 m2 c2] 25 (0, 0)) from hC.m.a)
                 obtain ⟨y0, y1, y2, y3, y4, y5⟩ := x6_of (show vv.heap[X + 1]? = some (.cells #[.int .u8 k3, .bool b3, .int .i64 v3, .string s3, .slice a3 l3 c3, .slice a4 m4 c4] 25 (0, 0)) from hC.m.o)
                 clear hC
                 go_simp
                 with_reducible rfl
               go_big_quiet_on
               try simp only [Act.put, List.setIfInBounds_toArray, List.set_cons_zero, List.set_cons_succ])
            | (go_big_quiet_want
               refine quiet_call (f := ?_) (args := ?_) (x := ?_) (fun vv hC => ?_) (fun vv hC => ?_) ?_
               rotate_left 3
               · go_simp
                 first | with_reducible rfl | (apply And.intro <;> with_reducible rfl)
               · first
                   | (go_at_call 11; with_reducible refine (HC5.out vv hC).mono ?_; rintro e ww ⟨rfl, bb⟩; refine And.intro ?_ (hC.after (fun b hb => hb.1) bb); with_reducible rfl)
                   | (go_at_call 11; with_reducible refine (HC6.out vv hC).mono ?_; rintro e ww ⟨rfl, bb⟩; refine And.intro ?_ (hC.after (fun b hb => hb.1) bb); with_reducible rfl)
               go_big_quiet_on
               try simp only [Act.put, List.setIfInBounds_toArray, List.set_cons_zero, List.set_cons_succ]))
          refine wpQuiet_nil ?_
          intro vq hq
          have HM := hid hq
          clear hq HMS
          go_upto_region 14 with fail
          go_loopw [18] (fun vi wq => ∃ (j : Nat), j ≤ len ∧ vi = .int .i64 j ∧ Hid (MZ w (fun b => b < X ∧ (t ≠ .nil → b ≠ g) ∧ (Value.slice pa i pc).ownBlock ≠ some b) X t t1 n1 (.slice la len lc) (.slice wa i wc) [.int .u8 k2, .bool b2, .int .i64 v2, .string s2, .slice a1 l2 c1, .slice a2 m2 c2] [.int .u8 k3, .bool b3, .int .i64 v3, .string s3, .slice a3 l3 c3, .slice a4 m4 c4] g (o + len * 6) (Value.slice pa i pc).ownBlock (i * 7) wq)) (fun vi _ => len - (intOf vi).toNat)
          case atStart => exact ⟨0, Nat.zero_le _, rfl, HM⟩
          case round =>
            obtain ⟨j, hj, rfl, HM2⟩ := hrel
            clear HM
            by_cases hjt : j < len
            · have dd0 : decide ((j : Int) < (len : Int)) = true := decide_eq_true (by omega)
              have dd1 : decide (j < len) = true := decide_eq_true (by omega)
              have hne : t ≠ .nil := fun h => by have := HLE.out; rw [h] at this; simp [J.T.length] at this; omega
              obtain ⟨hga, -⟩ := HGO.out hne
              subst hga
              have hsp := HM2.out.s hne
              obtain ⟨z0, y0⟩ := hsp.cell (o + j * 6) (by omega)
              obtain ⟨z1, y1⟩ := hsp.cell (o + j * 6 + 1) (by omega)
              obtain ⟨z2, y2⟩ := hsp.cell (o + j * 6 + 2) (by omega)
              obtain ⟨z3, y3⟩ := hsp.cell (o + j * 6 + 3) (by omega)
              obtain ⟨z4, y4⟩ := hsp.cell (o + j * 6 + 4) (by omega)
              obtain ⟨z5, y5⟩ := hsp.cell (o + j * 6 + 5) (by omega)
              have f0 := hsp.free (o + j * 6)
              have f1 := hsp.free (o + j * 6 + 1)
              have f2 := hsp.free (o + j * 6 + 2)
              have f3 := hsp.free (o + j * 6 + 3)
              have f4 := hsp.free (o + j * 6 + 4)
              have f5 := hsp.free (o + j * 6 + 5)
              have hj0 : (0 : Int) ≤ (j : Int) := by omega
              have hj1 : (j : Int) < (len : Int) := by omega
              have HSP := hid (fun c0 c1 c2 c3 c4 c5 => HM2.out.spoil (fun b hb => ⟨hb.1, hb.2.1 hne⟩) ⟨(HGS6.out hne).2.1, (HGS6.out hne).1⟩ (st6_grown _ g (o + j * 6) c0 c1 c2 c3 c4 c5) (fun l hl => hl.six _ _ _ _ _ _ _))
              clear hsp hne
              go_wp2_with fail
              go_roundw
              case rel => exact ⟨j + 1, by omega, by go_num, hid (HSP.out _ _ _ _ _ _)⟩
              case measure => simp [intOf]; omega
            · have dd0 : decide ((j : Int) < (len : Int)) = false := decide_eq_false (by omega)
              have dd1 : decide (j < len) = false := decide_eq_false (by omega)
              clear hj hjt
              have HM := hid HM2.out
              clear HM2
              go_upto_region 18 with fail
              go_loopw [19] (fun vi wq => ∃ (j : Nat), j ≤ i ∧ vi = .int .i64 j ∧ Hid (MZ w (fun b => b < X ∧ (t ≠ .nil → b ≠ g) ∧ (Value.slice pa i pc).ownBlock ≠ some b) X t t1 n1 (.slice la len lc) (.slice wa i wc) [.int .u8 k2, .bool b2, .int .i64 v2, .string s2, .slice a1 l2 c1, .slice a2 m2 c2] [.int .u8 k3, .bool b3, .int .i64 v3, .string s3, .slice a3 l3 c3, .slice a4 m4 c4] g (o + len * 6) (Value.slice pa i pc).ownBlock (i * 7) wq)) (fun vi _ => i - (intOf vi).toNat)
              case atStart => exact ⟨0, Nat.zero_le _, rfl, HM⟩
              case round =>
                obtain ⟨j3, hj3, rfl, HM2⟩ := hrel
                clear HM
                by_cases hjt : j3 < i
                · have dd2 : decide ((j3 : Int) < (i : Int)) = true := decide_eq_true (by omega)
                  have dd3 : decide (j3 < i) = true := decide_eq_true (by omega)
                  obtain ⟨gp, hgp⟩ : ∃ gp, pa = some ⟨gp, 0, none⟩ := by
                    rcases HI.out.p.2 with ⟨h1, h2⟩ | ⟨g', cap, cur, h1, _⟩
                    · rw [HA.out.2.2.1] at h2; omega
                    · simp only [Value.slice.injEq] at h1; exact ⟨g', h1.1⟩
                  subst hgp
                  have hsp := HM2.out.p gp rfl
                  have hgp2 := HPS.out gp rfl
                  obtain ⟨z0, y0⟩ := hsp.cell (j3 * 7) (by omega)
                  obtain ⟨z1, y1⟩ := hsp.cell (j3 * 7 + 1) (by omega)
                  obtain ⟨z2, y2⟩ := hsp.cell (j3 * 7 + 2) (by omega)
                  obtain ⟨z3, y3⟩ := hsp.cell (j3 * 7 + 3) (by omega)
                  obtain ⟨z4, y4⟩ := hsp.cell (j3 * 7 + 4) (by omega)
                  obtain ⟨z5, y5⟩ := hsp.cell (j3 * 7 + 5) (by omega)
                  obtain ⟨z6, y6⟩ := hsp.cell (j3 * 7 + 6) (by omega)
                  have f0 := hsp.free (j3 * 7)
                  have f1 := hsp.free (j3 * 7 + 1)
                  have f2 := hsp.free (j3 * 7 + 2)
                  have f3 := hsp.free (j3 * 7 + 3)
                  have f4 := hsp.free (j3 * 7 + 4)
                  have f5 := hsp.free (j3 * 7 + 5)
                  have f6 := hsp.free (j3 * 7 + 6)
                  have hj0 : (0 : Int) ≤ (j3 : Int) := by omega
                  have hj1 : (j3 : Int) < (i : Int) := by omega
                  have HSP := hid (fun c0 c1 c2 c3 c4 c5 c6 => HM2.out.spoil (b0 := gp) (fun b hb => ⟨hb.1, fun e => hb.2.2 (by rw [e]; rfl)⟩) ⟨hgp2.2.1, Nat.le_trans HI2.out hgp2.1⟩ (st7_grown _ gp (j3 * 7) c0 c1 c2 c3 c4 c5 c6) (fun l hl => hl.seven _ _ _ _ _ _ _ _))
                  clear hsp hgp2
                  go_wp2_with fail
                  go_roundw
                  case rel => exact ⟨j3 + 1, by omega, by go_num, hid (HSP.out _ _ _ _ _ _ _)⟩
                  case measure => simp [intOf]; omega
                · have dd2 : decide ((j3 : Int) < (i : Int)) = false := decide_eq_false (by omega)
                  have dd3 : decide (j3 < i) = false := decide_eq_false (by omega)
                  have HMS := hid HM2.out
                  clear hj3 hjt HM2
                  go_upto_region 21 with fail
                  refine quiet_lit (C := (fun W => MZ w (fun b => b < X ∧ (t ≠ .nil → b ≠ g) ∧ (Value.slice pa i pc).ownBlock ≠ some b) X t t1 n1 (.slice la len lc) (.slice wa i wc) [.int .u8 k2, .bool b2, .int .i64 v2, .string s2, .slice a1 l2 c1, .slice a2 m2 c2] [.int .u8 k3, .bool b3, .int .i64 v3, .string s3, .slice a3 l3 c3, .slice a4 m4 c4] g (o + len * 6) (Value.slice pa i pc).ownBlock (i * 7) W)) (by kernel_rfl) (by kernel_rfl) (HMS.out.after (fun b hb => hb.1) (Below.refl _ _).drew) ?_
                  repeat (first
                    | go_big_quiet_skip
                    | (go_big_quiet_want
                       refine quiet_val (x := ?_) (fun vv hC => ?_) ?_
                       rotate_left
                       · skip
                         obtain ⟨x0, x1, x2, x3, x4, x5⟩ := x6_of (show vv.heap[X]? = some (.cells #[.int .u8 k2, .bool b2, .int .i64 v2, .string s2, .slice a1 l2 c1, .slice a2 m2 c2] 25 (0, 0)) from hC.m.a)
                         obtain ⟨y0, y1, y2, y3, y4, y5⟩ := x6_of (show vv.heap[X + 1]? = some (.cells #[.int .u8 k3, .bool b3, .int .i64 v3, .string s3, .slice a3 l3 c3, .slice a4 m4 c4] 25 (0, 0)) from hC.m.o)
                         clear hC
                         go_simp
                         with_reducible rfl
                       go_big_quiet_on
                       try simp only [Act.put, List.setIfInBounds_toArray, List.set_cons_zero, List.set_cons_succ])
                    | (go_big_quiet_want
                       refine quiet_call (f := ?_) (args := ?_) (x := ?_) (fun vv hC => ?_) (fun vv hC => ?_) ?_
                       rotate_left 3
                       · go_simp
                         first | with_reducible rfl | (apply And.intro <;> with_reducible rfl)
                       · first
                           | (go_at_call 11; with_reducible refine (HC5.out vv hC).mono ?_; rintro e ww ⟨rfl, bb⟩; refine And.intro ?_ (hC.after (fun b hb => hb.1) bb); with_reducible rfl)
                           | (go_at_call 11; with_reducible refine (HC6.out vv hC).mono ?_; rintro e ww ⟨rfl, bb⟩; refine And.intro ?_ (hC.after (fun b hb => hb.1) bb); with_reducible rfl)
                       go_big_quiet_on
                       try simp only [Act.put, List.setIfInBounds_toArray, List.set_cons_zero, List.set_cons_succ]))
                  refine wpQuiet_nil ?_
                  intro vq hq
                  have HM := hid hq
                  clear hq HMS
                  go_upto_region 23 with fail
                  have HBZ := hid HM.out.m.b
                  clear HM
                  go_wp2_with fail
                  refine (null_any _).mono ?_
                  rintro e wz ⟨rfl, hbz⟩
                  have HBZ2 := hid (HBZ.out.trans (hbz.mono HBZ.out.size))
                  clear hbz HBZ
                  have HBZ := hid HBZ2.out
                  clear HBZ2
                  go_wp2_with fail
                  refine (same_flat 1 false 0 ⟨#[]⟩ wz).mono ?_
                  rintro e wy ⟨rfl, hbz⟩
                  have HBZ2 := hid (HBZ.out.trans (hbz.mono HBZ.out.size))
                  clear hbz HBZ
                  have HBZ := hid HBZ2.out
                  clear HBZ2
                  go_wp2_with fail
                  refine (yes_any b _).mono ?_
                  rintro e wz ⟨rfl, hbz⟩
                  have HBZ2 := hid (HBZ.out.trans (hbz.mono HBZ.out.size))
                  clear hbz HBZ
                  have HBZ := hid HBZ2.out
                  clear HBZ2
                  go_wp2_with fail
                  refine (same_flat 2 b 0 ⟨#[]⟩ wz).mono ?_
                  rintro e wy ⟨rfl, hbz⟩
                  have HBZ2 := hid (HBZ.out.trans (hbz.mono HBZ.out.size))
                  clear hbz HBZ
                  have HBZ := hid HBZ2.out
                  clear HBZ2
                  go_wp2_with fail
                  refine (int_any n _).mono ?_
                  rintro e wz ⟨rfl, hbz⟩
                  have HBZ2 := hid (HBZ.out.trans (hbz.mono HBZ.out.size))
                  clear hbz HBZ
                  have HBZ := hid HBZ2.out
                  clear HBZ2
                  go_wp2_with fail
                  refine (same_flat 3 false n ⟨#[]⟩ wz).mono ?_
                  rintro e wy ⟨rfl, hbz⟩
                  have HBZ2 := hid (HBZ.out.trans (hbz.mono HBZ.out.size))
                  clear hbz HBZ
                  have HBZ := hid HBZ2.out
                  clear HBZ2
                  go_wp2_with fail
                  refine (str_any s _).mono ?_
                  rintro e wz ⟨rfl, hbz⟩
                  have HBZ2 := hid (HBZ.out.trans (hbz.mono HBZ.out.size))
                  clear hbz HBZ
                  have HBZ := hid HBZ2.out
                  clear HBZ2
                  go_wp2_with fail
                  refine (same_flat 4 false 0 s wz).mono ?_
                  rintro e wy ⟨rfl, hbz⟩
                  have HBZ2 := hid (HBZ.out.trans (hbz.mono HBZ.out.size))
                  clear hbz HBZ
                  have HBZ := hid HBZ2.out
                  clear HBZ2
                  have cA := awake_any _ (HE.out.under HBZ.out)
                  go_wp2_with fail
                  refine cA.mono ?_
                  rintro e wx ⟨rfl, hbz⟩
                  have HBZ2 := hid (HBZ.out.trans (hbz.mono HBZ.out.size))
                  clear hbz cA HBZ
                  go_wp2_with fail
                  go_ret
                  exact ⟨rfl, HBZ2.out⟩
theorem makes_law {p q : Prop} (n : Int) (s : ByteArray) (b : Bool) (t : J.T) (lv : Value) (ns : List ByteArray) (nv : Value) (w : World) (_ : p) (_ : q) (hl : t.In w (fun b => b < w.heap.size) lv) (hwd : t.wide) (hlen : t.length ≤ 9223372036854775807) (hn : J.SIn w (fun b => b < w.heap.size) ns nv) (hnl : ns.length ≤ 9223372036854775807) (hE : EnvJ w) :
    Calls Tryz.prog 5 #[.int .i64 n, .string s, .bool b, lv, nv] w fun e w' => e = .returned (.bool true) ∧ Below w.heap.size w w' := makes_walk n s b t lv ns nv w hE hl hwd hlen hn hnl
end Go.Proofs.YtphjfighamadgaaGreatDoor
