/- The law's size: how many values there are, up to so many. -/
import Derived.Test.YtphjfighamadgaaGreatDoorJRSame
namespace Go.Proofs.YtphjfighamadgaaGreatDoor
open Go.RowKit
open Go.Lib (hid)
namespace J
/-- what is left behind these values, of which each may stand d deep -/
def sizeT : T → Int → Nat → Int
  | .nil, left, _ => left
  | .cons _ _ _ _ l ns r, left, d => if left < 0 then left else sizeT r (if 100 < d + 1 then -1 else sizeT l (left - 1 - ns.length) (d + 1)) d
def T.wide : T → Prop
  | .nil => True
  | .cons _ _ _ _ l ns r => (l.length ≤ 9223372036854775807 ∧ ns.length ≤ 9223372036854775807 ∧ l.wide) ∧ r.wide
def V.wide (x : V) : Prop := x.l.length ≤ 9223372036854775807 ∧ x.ns.length ≤ 9223372036854775807 ∧ x.l.wide
theorem T.wide_app : ∀ (a b : T), (a.app b).wide → a.wide ∧ b.wide
  | .nil, _, h => ⟨trivial, h⟩
  | .cons _ _ _ _ _ _ r, b, ⟨h1, h3⟩ => ⟨⟨h1, (T.wide_app r b h3).1⟩, (T.wide_app r b h3).2⟩
theorem sizeT_neg : ∀ (t : T) (left : Int) (d : Nat), left < 0 → sizeT t left d = left
  | .nil, _, _, _ => rfl
  | .cons _ _ _ _ _ _ _, left, d, h => by simp only [sizeT]; rw [if_pos h]
theorem sizeT_hi : ∀ (t : T) (left : Int) (d : Nat), left ≤ 600 → sizeT t left d ≤ 600
  | .nil, _, _, h => h
  | .cons _ _ _ _ l ns r, left, d, h => by
    simp only [sizeT]
    split
    · omega
    · apply sizeT_hi r
      split
      · omega
      · exact sizeT_hi l _ _ (by omega)
theorem sizeT_lo : ∀ (t : T) (left : Int) (d : Nat), t.wide → -9223372036854775808 ≤ left → -9223372036854775808 ≤ sizeT t left d
  | .nil, _, _, _, h => h
  | .cons _ _ _ _ l ns r, left, d, ⟨⟨_, h2, h3⟩, h4⟩, h => by
    simp only [sizeT]
    split
    · omega
    · apply sizeT_lo r _ _ h4
      split
      · omega
      · exact sizeT_lo l _ _ h3 (by omega)
/-- few values: few in each list -/
theorem sizeT_few : ∀ (t : T) (left : Int) (d : Nat), left ≤ 600 → 0 ≤ sizeT t left d → (t.length : Int) + sizeT t left d ≤ left ∧ t.small
  | .nil, _, _, _, _ => by simp only [T.length, sizeT]; exact ⟨by omega, trivial⟩
  | .cons _ _ _ _ l ns r, left, d, h, h0 => by
    simp only [sizeT] at h0 ⊢
    by_cases hl : left < 0
    · rw [if_pos hl] at h0; omega
    · rw [if_neg hl] at h0 ⊢
      by_cases hd : 100 < d + 1
      · rw [if_pos hd, sizeT_neg r _ _ (by omega)] at h0; omega
      · rw [if_neg hd] at h0 ⊢
        by_cases hi : sizeT l (left - 1 - ns.length) (d + 1) < 0
        · rw [sizeT_neg r _ _ hi] at h0; omega
        · have h1 := sizeT_few l (left - 1 - ns.length) (d + 1) (by omega) (by omega)
          have h2 := sizeT_few r (sizeT l (left - 1 - ns.length) (d + 1)) d (sizeT_hi l _ (d + 1) (by omega)) h0
          simp only [T.length]
          exact ⟨by omega, ⟨by omega, by omega, h1.2⟩, h2.2⟩
end J
def SizeC (x : J.V) : Prop := x.l.wide → x.l.length ≤ 9223372036854775807 → ∀ (left : Int) (d : Nat), -9223372036854775808 ≤ left → left ≤ 600 → d ≤ 101 → ∀ (w : World) (P : Nat → Prop) (lv : Value), x.l.In w P lv → (∀ b, P b → b < w.heap.size) →
  Calls Tryz.prog 15 #[lv, .int .i64 left, .int .i64 d] w fun e w' => e = .returned (.int .i64 (if 100 < d then -1 else J.sizeT x.l left d)) ∧ Below w.heap.size w w'
/-- values that stand somewhere, in a world that has grown -/
structure SZ (w : World) (P : Nat → Prop) (t : J.T) (g o : Nat) (W : World) : Prop where
  c : t ≠ .nil → t.At W P g o
  b : Below w.heap.size w W
set_option maxRecDepth 100000 in
set_option maxHeartbeats 4000000 in
theorem size_step (x : J.V) (hall : x.l.All SizeC) : SizeC x := by
  obtain ⟨k, b, n, s, l, ns⟩ := x
  intro hwd hln left d h1 h2 h3 w P lv hin hPP
  have hin : l.In w P lv := hin
  obtain ⟨la, lc, rfl⟩ := hin.shape
  obtain ⟨g, o, hgo⟩ := in_addr hin
  simp only at hwd hln ⊢
  obtain ⟨len, hle⟩ : ∃ len, l.length = len := ⟨_, rfl⟩
  have HGO := hid hgo
  rw [hle] at HGO hln ⊢
  have HLE := hid hle
  have HPP := hid hPP
  have HALL := hid hall
  have HWD := hid hwd
  have HT : Hid (SZ w P l g (o + 0 * 6) w) := ⟨fun hne => by rw [Nat.zero_mul, Nat.add_zero]; exact (hgo hne).2.2, Below.refl _ w⟩
  clear hin hgo hle hPP hall hwd
  by_cases hd : 100 < d
  · have t0 : decide ((100 : Int) < (d : Int)) = true := decide_eq_true (by omega)
    have t1 : decide (100 < d) = true := decide_eq_true hd
    have HB := hid HT.out.b
    rw [if_pos hd]
    clear hd
    go_enter Tryz.func15, Tryz.ntmps15
    go_wp2_with fail
    go_ret
    exact ⟨rfl, HB.out⟩
  · have t0 : decide ((100 : Int) < (d : Int)) = false := decide_eq_false (by omega)
    have t1 : decide (100 < d) = false := decide_eq_false hd
    rw [if_neg hd]
    obtain ⟨RES, hRES⟩ : ∃ r, J.sizeT l left d = r := ⟨_, rfl⟩
    rw [hRES]
    have HRES := hid hRES
    clear hRES
    go_enter Tryz.func15, Tryz.ntmps15
    go_upto_region 4 with fail
    clear t0 t1
    go_loopw [1, 7] (fun vl vi wr => ∃ (i : Nat) (lf : Int), i ≤ len ∧ vi = .int .i64 i ∧ vl = .int .i64 lf ∧ -9223372036854775808 ≤ lf ∧ lf ≤ 600 ∧ ∃ (t1 t2 : J.T), Hid (J.sizeT t2 lf d = RES) ∧ Hid (t1.app t2 = l ∧ t1.length = i) ∧ Hid (SZ w P t2 g (o + i * 6) wr)) (fun _ vi _ => len - (intOf vi).toNat)
    case atStart => exact ⟨0, left, Nat.zero_le _, rfl, rfl, h1, h2, .nil, l, HRES, hid ⟨rfl, rfl⟩, HT⟩
    case round =>
      obtain ⟨i, lf, hi, rfl, rfl, hf1, hf2, t1, t2, HRS, HA, HI⟩ := hrel
      clear HT HRES
      by_cases hlt : i < len
      · have d0 : decide ((i : Int) < (len : Int)) = true := decide_eq_true (by omega)
        have d1 : decide (i < len) = true := decide_eq_true (by omega)
        by_cases hlf : lf < 0
        · have e0 : decide ((0 : Int) ≤ lf) = false := decide_eq_false (by omega)
          have HE : Hid (lf = RES) := by show _ = _; rw [← HRS.out, J.sizeT_neg _ _ _ hlf]
          clear hlf HRS
          go_wp2_with fail
          go_ret
          exact ⟨by rw [HE.out]; rfl, HI.out.b⟩
        · have e0 : decide ((0 : Int) ≤ lf) = true := decide_eq_true (by omega)
          have hlen2 : t1.length + t2.length = len := by rw [← HLE.out, ← HA.out.1, J.T.app_length]
          cases t2 with
          | nil => have := HA.out.2; simp [J.T.length] at hlen2; omega
          | cons k1 b1 v1 s1 l1 ns1 r =>
            obtain ⟨al, cl, an, cn, -, -, -, -, u4, u5, ⟨lv1, nv1, hcs, hl1, -⟩, hr⟩ := (HI.out.c (fun h => by cases h)).head
            simp only [List.cons.injEq] at hcs
            obtain ⟨-, -, -, -, rfl, rfl, -⟩ := hcs
            have hl1 : l1.In wr P (.slice al l1.length cl) := hl1
            have hlne : l ≠ .nil := fun h => by have := HLE.out; rw [h] at this; simp [J.T.length] at this; omega
            obtain ⟨hga, hgc, -⟩ := HGO.out hlne
            subst hga
            have hw2 := (J.T.wide_app t1 (.cons k1 b1 v1 s1 l1 ns1 r) (by rw [HA.out.1]; exact HWD.out)).2
            have HC := hid (show SizeC ⟨k1, b1, v1, s1, l1, ns1⟩ from (J.T.All.app (p := SizeC) t1 (.cons k1 b1 v1 s1 l1 ns1 r) (by rw [HA.out.1]; exact HALL.out)).2.1)
            have hnl := hw2.1.2.1
            have cS := HC.out hw2.1.2.2 hw2.1.1 (lf - 1 - (ns1.length : Int)) (d + 1) (by omega) (by omega) (by omega) wr.drew P _ (J.T.In.keep (w := wr) (w' := wr.drew) (fun _ h => h) (fun _ _ => rfl) hl1) (fun j hj => Nat.lt_of_lt_of_le (HPP.out j hj) HI.out.b.size)
            have hlo := J.sizeT_lo l1 (lf - 1 - (ns1.length : Int)) (d + 1) hw2.1.2.2 (by omega)
            have hhi := J.sizeT_hi l1 (lf - 1 - (ns1.length : Int)) (d + 1) (by omega)
            have HR2 : Hid (J.sizeT r (if 100 < d + 1 then -1 else J.sizeT l1 (lf - 1 - (ns1.length : Int)) (d + 1)) d = RES) := by
              show _ = _
              rw [← HRS.out]
              conv => rhs; unfold J.sizeT
              rw [if_neg hlf]
            have hX : -9223372036854775808 ≤ (if 100 < d + 1 then -1 else J.sizeT l1 (lf - 1 - (ns1.length : Int)) (d + 1)) ∧ (if 100 < d + 1 then -1 else J.sizeT l1 (lf - 1 - (ns1.length : Int)) (d + 1)) ≤ 600 := by split <;> omega
            simp only at cS
            obtain ⟨lf2, hlf2⟩ : ∃ x, (if 100 < d + 1 then -1 else J.sizeT l1 (lf - 1 - (ns1.length : Int)) (d + 1)) = x := ⟨_, rfl⟩
            rw [hlf2] at cS HR2 hX
            obtain ⟨nl, hnle⟩ : ∃ x, ns1.length = x := ⟨_, rfl⟩
            rw [hnle] at cS hnl u5
            rw [show ((d + 1 : Nat) : Int) = (d : Int) + 1 by omega] at cS
            have w1 : IntKind.i64.wrap (lf - 1) = lf - 1 := by rw [IntKind.wrap_i64]; omega
            have w2 : IntKind.i64.wrap (lf - 1 - (nl : Int)) = lf - 1 - (nl : Int) := by rw [IntKind.wrap_i64]; omega
            have w3 : IntKind.i64.wrap ((d : Int) + 1) = (d : Int) + 1 := by rw [IntKind.wrap_i64]; omega
            have HRE := hid hr
            have hi0 : (0 : Int) ≤ (i : Int) := by omega
            have hi1 : (i : Int) < (len : Int) := by omega
            clear hlo hhi hlf2 hnle hr hw2 hl1 hlen2 hlne HRS
            have HCE : Hid (∀ W : World, W.heap = wr.heap → ∀ (g i : Nat), W.cell? ⟨g, i, none⟩ = wr.cell? ⟨g, i, none⟩) := fun W h g i => World.cell?_of_block (w := wr) (by rw [h])
            go_upto_region 6 with fail
            refine wp_region_till (S := (fun W : World => W.heap = wr.heap)) 16 (by kernel_rfl) ?_
            have HS := hid (show ((fun W : World => W.heap = wr.heap)) _ from rfl)
            refine wpTill_any 0 (oi := ?oi1) (v := ?v1) ?ho1 (by kernel_rfl) (by kernel_rfl) (by kernel_rfl) (by kernel_rfl) ?hq1 (Or.inl ⟨?hw1, ?hy1⟩) (fun _ => HS.out) ?rest1
            case ho1 => simp only [List.getElem?_toArray, List.getElem?_cons_zero]; rfl
            case hw1 => rfl
            case hy1 => intro w; go_simp; try with_reducible rfl
            case hq1 => exact fun _ _ _ h => h
            try simp only [Act.put, List.setIfInBounds_toArray, List.set_cons_zero, List.set_cons_succ]
            refine wpTill_any 1 (oi := ?oi2) (v := ?v2) ?ho2 (by kernel_rfl) (by kernel_rfl) (by kernel_rfl) (by kernel_rfl) ?hq2 (Or.inl ⟨?hw2, ?hy2⟩) (fun _ => HS.out) ?rest2
            case ho2 => simp only [List.getElem?_toArray, List.getElem?_cons_succ, List.getElem?_cons_zero]; rfl
            case hw2 => rfl
            case hy2 => intro w; go_simp; try with_reducible rfl
            case hq2 => exact fun _ _ _ h => h
            try simp only [Act.put, List.setIfInBounds_toArray, List.set_cons_zero, List.set_cons_succ]
            refine wpTill_any 2 (oi := ?oi3) (v := ?v3) ?ho3 (by kernel_rfl) (by kernel_rfl) (by kernel_rfl) (by kernel_rfl) ?hq3 (Or.inl ⟨?hw3, ?hy3⟩) (fun _ => HS.out) ?rest3
            case ho3 => simp only [List.getElem?_toArray, List.getElem?_cons_succ, List.getElem?_cons_zero]; rfl
            case hw3 => rfl
            case hy3 => intro w; go_simp; try with_reducible rfl
            case hq3 => exact fun _ _ _ h => h
            try simp only [Act.put, List.setIfInBounds_toArray, List.set_cons_zero, List.set_cons_succ]
            refine wpTill_any 3 (oi := ?oi4) (v := ?v4) ?ho4 (by kernel_rfl) (by kernel_rfl) (by kernel_rfl) (by kernel_rfl) ?hq4 (Or.inl ⟨?hw4, ?hy4⟩) (fun _ => HS.out) ?rest4
            case ho4 => simp only [List.getElem?_toArray, List.getElem?_cons_succ, List.getElem?_cons_zero]; rfl
            case hw4 => rfl
            case hy4 => intro w; go_simp; try with_reducible rfl
            case hq4 => exact fun _ _ _ h => h
            try simp only [Act.put, List.setIfInBounds_toArray, List.set_cons_zero, List.set_cons_succ]
            refine wpTill_any 5 (oi := ?oi5) (v := ?v5) ?ho5 (by kernel_rfl) (by kernel_rfl) (by kernel_rfl) (by kernel_rfl) ?hq5 (Or.inl ⟨?hw5, ?hy5⟩) (fun _ => HS.out) ?rest5
            case ho5 => simp only [List.getElem?_toArray, List.getElem?_cons_succ, List.getElem?_cons_zero]; rfl
            case hw5 => rfl
            case hy5 => intro w; go_simp; try with_reducible rfl
            case hq5 => exact fun _ _ _ h => h
            try simp only [Act.put, List.setIfInBounds_toArray, List.set_cons_zero, List.set_cons_succ]
            refine wpTill_any 6 (oi := ?oi6) (v := ?v6) ?ho6 (by kernel_rfl) (by kernel_rfl) (by kernel_rfl) (by kernel_rfl) ?hq6 (Or.inl ⟨?hw6, ?hy6⟩) (fun _ => HS.out) ?rest6
            case ho6 => simp only [List.getElem?_toArray, List.getElem?_cons_succ, List.getElem?_cons_zero]; rfl
            case hw6 => rfl
            case hy6 => intro w; go_simp; try with_reducible rfl
            case hq6 => exact fun _ _ _ h => h
            try simp only [Act.put, List.setIfInBounds_toArray, List.set_cons_zero, List.set_cons_succ]
            refine wpTill_any 7 (oi := ?oi7) (v := ?v7) ?ho7 (by kernel_rfl) (by kernel_rfl) (by kernel_rfl) (by kernel_rfl) ?hq7 (Or.inl ⟨?hw7, ?hy7⟩) (fun _ => HS.out) ?rest7
            case ho7 => simp only [List.getElem?_toArray, List.getElem?_cons_succ, List.getElem?_cons_zero]; rfl
            case hw7 => rfl
            case hy7 => intro w; go_simp; try with_reducible rfl
            case hq7 => exact fun _ _ _ h => h
            try simp only [Act.put, List.setIfInBounds_toArray, List.set_cons_zero, List.set_cons_succ]
            refine wpTill_any 8 (oi := ?oi8) (v := ?v8) ?ho8 (by kernel_rfl) (by kernel_rfl) (by kernel_rfl) (by kernel_rfl) ?hq8 (Or.inl ⟨?hw8, ?hy8⟩) (fun _ => HS.out) ?rest8
            case ho8 => simp only [List.getElem?_toArray, List.getElem?_cons_succ, List.getElem?_cons_zero]; rfl
            case hw8 => rfl
            case hy8 => intro w; go_simp; try with_reducible rfl
            case hq8 => exact fun _ _ _ h => h
            try simp only [Act.put, List.setIfInBounds_toArray, List.set_cons_zero, List.set_cons_succ]
            refine wpTill_any 9 (oi := ?oi9) (v := ?v9) ?ho9 (by kernel_rfl) (by kernel_rfl) (by kernel_rfl) (by kernel_rfl) ?hq9 (Or.inl ⟨?hw9, ?hy9⟩) (fun _ => HS.out) ?rest9
            case ho9 => simp only [List.getElem?_toArray, List.getElem?_cons_succ, List.getElem?_cons_zero]; rfl
            case hw9 => rfl
            case hy9 => intro w; go_simp; try with_reducible rfl
            case hq9 => exact fun _ _ _ h => h
            try simp only [Act.put, List.setIfInBounds_toArray, List.set_cons_zero, List.set_cons_succ]
            refine wpTill_any 10 (oi := ?oi10) (v := ?v10) ?ho10 (by kernel_rfl) (by kernel_rfl) (by kernel_rfl) (by kernel_rfl) ?hq10 (Or.inl ⟨?hw10, ?hy10⟩) (fun _ => HS.out) ?rest10
            case ho10 => simp only [List.getElem?_toArray, List.getElem?_cons_succ, List.getElem?_cons_zero]; rfl
            case hw10 => rfl
            case hy10 => intro w; go_simp; try with_reducible rfl
            case hq10 => exact fun _ _ _ h => h
            try simp only [Act.put, List.setIfInBounds_toArray, List.set_cons_zero, List.set_cons_succ]
            refine wpTill_any 14 (oi := ?oi11) (v := ?v11) ?ho11 (by kernel_rfl) (by kernel_rfl) (by kernel_rfl) (by kernel_rfl) ?hq11 (Or.inl ⟨?hw11, ?hy11⟩) (fun _ => HS.out) ?rest11
            case ho11 => simp only [List.getElem?_toArray, List.getElem?_cons_succ, List.getElem?_cons_zero]; rfl
            case hw11 => rfl
            case hy11 => intro w; go_simp; try with_reducible rfl
            case hq11 => exact fun _ _ _ h => h
            try simp only [Act.put, List.setIfInBounds_toArray, List.set_cons_zero, List.set_cons_succ]
            refine wpTill_any 15 (oi := ?oi12) (v := ?v12) ?ho12 (by kernel_rfl) (by kernel_rfl) (by kernel_rfl) (by kernel_rfl) ?hq12 (Or.inl ⟨?hw12, ?hy12⟩) (fun _ => HS.out) ?rest12
            case ho12 => simp only [List.getElem?_toArray, List.getElem?_cons_succ, List.getElem?_cons_zero]; rfl
            case hw12 => rfl
            case hy12 => intro w; go_simp; try with_reducible rfl
            case hq12 => exact fun _ _ _ h => h
            try simp only [Act.put, List.setIfInBounds_toArray, List.set_cons_zero, List.set_cons_succ]
            refine wpTill_load 4 [4, 16] (oi := ?oi13) (v := ?v13) ?ho13 (by kernel_rfl) (by kernel_rfl) (by kernel_rfl) (by kernel_rfl) ?hq13 (Or.inl ⟨?hw13, ?hy13⟩) HS.out ?rest13
            case ho13 => simp only [List.getElem?_toArray, List.getElem?_cons_succ, List.getElem?_cons_zero]; rfl
            case hw13 => rfl
            case hy13 =>
              intro w hSw
              have u4' := (HCE.out w hSw _ _ ).trans u4
              clear hSw
              go_simp
              try with_reducible rfl
            case hq13 => exact fun _ _ _ h => h
            try simp only [Act.put, List.setIfInBounds_toArray, List.set_cons_zero, List.set_cons_succ]
            refine wpTill_load 11 [11, 12, 13, 16] (oi := ?oi14) (v := ?v14) ?ho14 (by kernel_rfl) (by kernel_rfl) (by kernel_rfl) (by kernel_rfl) ?hq14 (Or.inl ⟨?hw14, ?hy14⟩) HS.out ?rest14
            case ho14 => simp only [List.getElem?_toArray, List.getElem?_cons_succ, List.getElem?_cons_zero]; rfl
            case hw14 => rfl
            case hy14 =>
              intro w hSw
              have u5' := (HCE.out w hSw _ _ ).trans u5
              clear hSw
              go_simp
              try with_reducible rfl
            case hq14 => exact fun _ _ _ h => h
            try simp only [Act.put, List.setIfInBounds_toArray, List.set_cons_zero, List.set_cons_succ]
            refine wpTill_any 12 (oi := ?oi15) (v := ?v15) ?ho15 (by kernel_rfl) (by kernel_rfl) (by kernel_rfl) (by kernel_rfl) ?hq15 (Or.inl ⟨?hw15, ?hy15⟩) (fun _ => HS.out) ?rest15
            case ho15 => simp only [List.getElem?_toArray, List.getElem?_cons_succ, List.getElem?_cons_zero]; rfl
            case hw15 => rfl
            case hy15 => intro w; go_simp; try with_reducible rfl
            case hq15 => exact fun _ _ _ h => h
            try simp only [Act.put, List.setIfInBounds_toArray, List.set_cons_zero, List.set_cons_succ]
            refine wpTill_any 13 (oi := ?oi16) (v := ?v16) ?ho16 (by kernel_rfl) (by kernel_rfl) (by kernel_rfl) (by kernel_rfl) ?hq16 (Or.inl ⟨?hw16, ?hy16⟩) (fun _ => HS.out) ?rest16
            case ho16 => simp only [List.getElem?_toArray, List.getElem?_cons_succ, List.getElem?_cons_zero]; rfl
            case hw16 => rfl
            case hy16 => intro w; go_simp; try with_reducible rfl
            case hq16 => exact fun _ _ _ h => h
            try simp only [Act.put, List.setIfInBounds_toArray, List.set_cons_zero, List.set_cons_succ]
            refine wpTill_ready (rs := [16]) (by kernel_rfl) (by decide) ?_
            refine AllTill.consH (o := ?oi17) ?ho17 (fun K hK => ?step17) ?more17
            case ho17 => simp only [List.getElem?_toArray, List.getElem?_cons_succ, List.getElem?_cons_zero]; rfl
            case step17 =>
              go_simp
              refine Calls.mono (by with_reducible exact cS) ?_
              intro e w6 hpost
              have he := hpost.1
              have hb6 := from_drew hpost.2
              clear hpost
              subst he
              have HR6 : Hid (SZ w P r g (o + i * 6 + 6) w6) := ⟨fun _ => J.T.At.keep (fun _ h => h) (fun j hj => hb6.block j (Nat.lt_of_lt_of_le (HPP.out j hj) HI.out.b.size)) _ _ _ HRE.out, HI.out.b.trans (hb6.mono HI.out.b.size)⟩
              clear hb6 cS u4 u5
              try dsimp only
              refine hK.out _ _ (fun hk => by cases (show true = false from hk)) (fun _ => ?_)
              clear hK K
              try simp only [Act.put, List.setIfInBounds_toArray, List.set_cons_zero, List.set_cons_succ]
              refine wpTill_any 17 (oi := ?oi18) (v := ?v18) ?ho18 (by kernel_rfl) (by kernel_rfl) (by kernel_rfl) (by kernel_rfl) ?hq18 (Or.inl ⟨?hw18, ?hy18⟩) (fun hk => by cases (show true = false from hk)) ?rest18
              case ho18 => simp only [List.getElem?_toArray, List.getElem?_cons_succ, List.getElem?_cons_zero]; rfl
              case hw18 => rfl
              case hy18 => intro w; go_simp; try with_reducible rfl
              case hq18 => exact fun _ _ _ h => h
              try simp only [Act.put, List.setIfInBounds_toArray, List.set_cons_zero, List.set_cons_succ]
              refine wpTill_done (by kernel_rfl) ?_ _
              go_wp2_with fail
              go_roundw
              case rel =>
                refine ⟨i + 1, lf2, by omega, by go_num, rfl, hX.1, hX.2, t1.snoc ⟨k1, b1, v1, s1, l1, ns1⟩, r, HR2, hid ⟨?_, ?_⟩, by rw [show o + (i + 1) * 6 = o + i * 6 + 6 by omega]; exact HR6⟩
                · rw [← HA.out.1]; unfold J.T.snoc; rw [J.T.app_assoc]; rfl
                · rw [J.T.snoc_length, HA.out.2]
              case measure => simp [intOf]; omega
            case more17 =>
              exact AllTill.nil
      · have d0 : decide ((i : Int) < (len : Int)) = false := decide_eq_false (by omega)
        have d1 : decide (i < len) = false := decide_eq_false (by omega)
        have ht2 : t2 = .nil := T_nil (by have := HA.out.2; have := HLE.out; rw [← HA.out.1, J.T.app_length] at this; omega)
        subst ht2
        have HE : Hid (lf = RES) := HRS.out
        clear hlt HRS HA
        go_wp2_with fail
        go_ret
        exact ⟨by rw [HE.out]; rfl, HI.out.b⟩
theorem size_any (x : J.V) : SizeC x := J.V.of size_step x
end Go.Proofs.YtphjfighamadgaaGreatDoor
