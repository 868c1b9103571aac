/- The walk of ValueSorted. -/
import Derived.Test.YtohdifffdgoaaaaDoorVWorks
import Derived.Test.YtohdifffdgoaaaaDoorVBindsW
import Derived.Test.YtohdifffdgoaaaaDoorVBArg
import Derived.Test.YtohdifffdgoaaaaDoorVSortB
namespace Go.Proofs.YtohdifffdgoaaaaDoor
open Go.RowKit
open Go.Lib (hid)
open V Srt
/-- an answer of Find whose value is known -/
theorem find_at {bs : List Bind} {sv : Value} {nm : ByteArray} {w : World} (hin : BIn w bs sv) (hl : bs.length ≤ 10000000000000) {k : Nat} {n : Int} {b q : Bool} {s : ByteArray} (h : findV bs nm.data.toList = (⟨k, n, b, s⟩, q)) :
    Calls Tryd.prog 22 #[sv, .string nm] w fun e w' => e = .returned (.tuple #[.agg #[.int .u8 k, .int .i64 n, .bool b, .string s], .bool q]) ∧ Below w.heap.size w w' :=
  (find_any bs sv nm w hin hl).mono fun e w' ⟨⟨k', n', b', s', q', h1, h2⟩, h3⟩ => by
    rw [h] at h1
    simp only [Prod.mk.injEq, Val.mk.injEq] at h1
    obtain ⟨⟨rfl, rfl, rfl, rfl⟩, rfl⟩ := h1
    exact ⟨h2, h3⟩
set_option maxRecDepth 100000 in
set_option maxHeartbeats 2000000 in
theorem sorted_walk (l : List Bind) (sv : Value) (nm : ByteArray) (w : World) (hin : BIn w l sv) (hE : VEnv w) (hl : l.length * 56 ≤ 140737488351232) (hz : ∀ b ∈ l, b.name.size ≤ 9223372036854775807) :
    Calls Tryd.prog 11 #[sv, .string nm] w fun e w' => e = .returned (.bool true) ∧ Below w.heap.size w w' := by
  have HI := hid hin
  have HE := hid hE
  have HZ := hid hz
  obtain ⟨n, hn⟩ : ∃ n, l.length = n := ⟨_, rfl⟩
  obtain ⟨a0, c0, hsv⟩ := hin.shape
  rw [hn] at hsv hl
  subst hsv
  have HN := hid hn
  clear hin hE hz hn
  go_enter Tryd.func11, Tryd.ntmps11
  go_wp2_with fail
  refine (works_any _ HE.out).mono ?_
  rintro e w1 ⟨rfl, b1⟩
  have B1 := hid b1
  clear b1
  go_wp2_with fail
  refine (sorted_any l _ _ (HI.out.below B1.out) (by rw [HN.out]; omega)).mono ?_
  rintro e w2 ⟨v, cs, rfl, hst, ho, bb⟩
  have HS := hid hst
  have I2 := hid ho.is
  have B2 := hid (B1.out.trans (bb.mono B1.out.size))
  have HCN : Hid (cs.length = n) := hst.1.trans HN.out
  clear hst ho bb B1
  obtain ⟨a1, c1, hv⟩ := I2.out.shape
  rw [HCN.out] at hv
  subst hv
  have t0 : ((n : Int) != (n : Int)) = false := by simp
  go_wp2_with fail
  refine (sorted_any cs _ _ I2.out (by rw [HCN.out]; omega)).mono ?_
  rintro e w3 ⟨v, ds, rfl, hst, ho, bb⟩
  have hds := stab_twice HS.out hst
  rw [hds] at ho
  have I3 := hid ho.is
  have J3 := hid (I2.out.below bb)
  have B3 := hid (B2.out.trans (bb.mono B2.out.size))
  clear hst ho bb hds B2 I2
  obtain ⟨a2, c2, hv⟩ := I3.out.shape
  rw [HCN.out] at hv
  subst hv
  go_wp2_with fail
  refine (lsame_yes cs _ _ _ J3.out I3.out (by rw [HCN.out]; omega)).mono ?_
  rintro e w4 ⟨rfl, bb⟩
  have J4 := hid (J3.out.below bb)
  have B4 := hid (B3.out.trans (bb.mono B3.out.size))
  clear bb J3 B3 I3
  obtain ⟨E1, hE1⟩ : ∃ x, checkB cs = x := ⟨_, rfl⟩
  obtain ⟨E2, hE2⟩ : ∃ x, checkB l = x := ⟨_, rfl⟩
  have hq := stab_check HS.out.2.1
  rw [hE1, hE2] at hq
  have HQ := hid hq
  have HE1 := hid hE1
  have HE2 := hid hE2
  clear hq hE1 hE2
  go_wp2_with fail
  refine (checkBinds_any cs _ _ J4.out (HE.out.below B4.out).tabs (by rw [HCN.out]; omega) (fun b hb => HZ.out b (HS.out.2.1.symm.mem hb))).mono ?_
  rintro e w5 ⟨rfl, bb⟩
  have J5 := hid (J4.out.below bb)
  have B5 := hid (B4.out.trans (bb.mono B4.out.size))
  clear bb J4 B4
  rw [HE1.out]
  obtain ⟨z, hz2⟩ : ∃ z, (E2 == 0) = z := ⟨_, rfl⟩
  have hz1 : (E1 == 0) = z := HQ.out.trans hz2
  go_wp2_with fail
  refine (checkBinds_any l _ _ (HI.out.below B5.out) (HE.out.below B5.out).tabs (by rw [HN.out]; omega) HZ.out).mono ?_
  rintro e w6 ⟨rfl, bb⟩
  have J6 := hid (J5.out.below bb)
  have B6 := hid (B5.out.trans (bb.mono B5.out.size))
  clear bb J5 B5
  rw [HE2.out]
  go_wp2_with fail
  go_loopw [6] (fun i wr => ∃ (k : Nat), 1 ≤ k ∧ (k ≤ n ∨ k = 1) ∧ i = .int .i64 k ∧ Hid (Below w6.heap.size w6 wr)) (fun i _ => n - (intOf i).toNat)
  case atStart => exact ⟨1, by omega, Or.inr rfl, rfl, Below.refl _ _⟩
  case round =>
    obtain ⟨k, hk1, hkn, rfl, hb⟩ := hrel
    have HKN := hid hkn
    clear hkn hz1 hz2
    by_cases hlt : k < n
    · have hl0 : decide ((k : Int) < (n : Int)) = true := by simp; omega
      obtain ⟨j, hj⟩ : ∃ j, k - 1 = j := ⟨_, rfl⟩
      have e1 : (k : Int) - 1 = (j : Int) := by omega
      have e2 : IntKind.i64.wrap (j : Int) = (j : Int) := wrapN j (by omega)
      have hjk : j < k := by omega
      clear hj
      have hkc : k < cs.length := by have := HCN.out; omega
      have hjc : j < cs.length := by have := HCN.out; omega
      obtain ⟨b, o, _, hsv, hbl, x0, -⟩ := J6.out.cells hkc
      rw [HCN.out] at hsv
      simp only [Value.slice.injEq, true_and] at hsv
      obtain ⟨rfl, rfl⟩ := hsv
      obtain ⟨b', o', _, hsv, hbl', y0, -⟩ := J6.out.cells hjc
      rw [HCN.out] at hsv
      simp only [Value.slice.injEq, true_and, Option.some.injEq, Addr.mk.injEq, and_true] at hsv
      obtain ⟨⟨rfl, rfl⟩, rfl⟩ := hsv
      have hat := stab_at HS.out hjk (List.getElem?_eq_getElem hjc) (List.getElem?_eq_getElem hkc)
      generalize cs[k].name = xk at *
      generalize cs[j].name = xj at *
      have x1 := (hb.out.cell (p := ⟨b, _, none⟩) hbl).trans x0
      have y1 := (hb.out.cell (p := ⟨b, _, none⟩) hbl).trans y0
      have hk0 : (0 : Int) ≤ (k : Int) := by omega
      have hk1' : (k : Int) < (n : Int) := by omega
      have hj0 : (0 : Int) ≤ (j : Int) := by omega
      have hj1 : (j : Int) < (n : Int) := by omega
      have HK1 := hid hk1
      clear x0 y0 hkc hjc hk1
      rcases hat with h1 | ⟨h1, h2⟩
      · go_wp2_with fail
        go_region
        go_wp2_with fail
        go_roundw
        case rel => exact ⟨k + 1, by omega, Or.inl (by omega), by go_num, hid hb.out.drew⟩
        case measure => simp [intOf]; omega
      · go_wp2_with fail
        go_region
        go_wp2_with fail
        go_roundw
        case rel => exact ⟨k + 1, by omega, Or.inl (by omega), by go_num, hid hb.out.drew⟩
        case measure => simp [intOf]; omega
    · have hl0 : decide ((k : Int) < (n : Int)) = false := by simp; omega
      have B7 := hid (B6.out.trans (hb.out.mono B6.out.size))
      have J7 := hid (J6.out.below hb.out)
      clear hb J6 B6
      obtain ⟨⟨⟨k', n', b', s'⟩, q'⟩, hF⟩ : ∃ F, findV l nm.data.toList = F := ⟨_, rfl⟩
      have hG := (stab_findV HS.out.2.1 nm.data.toList).trans hF
      have HF := hid hF
      have HG := hid hG
      clear hF hG
      go_wp2_with fail
      refine (find_at (HI.out.below B7.out) (by rw [HN.out]; omega) HF.out).mono ?_
      rintro e w8 ⟨rfl, bb⟩
      have B8 := hid (B7.out.trans (bb.mono B7.out.size))
      have J8 := hid (J7.out.below bb)
      clear bb B7 J7
      have hrow := heap_alloc_new w8 (.cells #[.int .u8 k', .int .i64 n', .bool b', .string s'] 23)
      have HR8 := hid hrow
      have BA := hid ((Below.refl w8.heap.size w8).alloc (Nat.le_refl _) (.cells #[.int .u8 k', .int .i64 n', .bool b', .string s'] 23))
      have hsz : w8.heap.size < (w8.alloc (.cells #[.int .u8 k', .int .i64 n', .bool b', .string s'] 23)).heap.size := by simp
      clear hrow
      go_upto_region 12 with fail
      generalize w8.alloc (.cells #[.int .u8 k', .int .i64 n', .bool b', .string s'] 23) = w9 at *
      obtain ⟨A, hA⟩ : ∃ A, w8.heap.size = A := ⟨_, rfl⟩
      have HB9 := hid (B8.out.trans (BA.out.mono B8.out.size))
      have HJ9 := hid (J8.out.below BA.out)
      rw [hA] at HR8 hsz ⊢
      clear hA BA B8 J8
      go_wp2_with fail
      refine (find_at HJ9.out (by rw [HCN.out]; omega) HG.out).mono ?_
      rintro e wa ⟨rfl, bb⟩
      have HRA := hid ((bb.block _ hsz).trans HR8.out)
      have hza : A < wa.heap.size := Nat.lt_of_lt_of_le hsz bb.size
      have HBA := hid (HB9.out.trans (bb.mono HB9.out.size))
      have HBB := hid ((Below.refl wa.heap.size wa).alloc (Nat.le_refl _) (.cells #[.int .u8 k', .int .i64 n', .bool b', .string s'] 23))
      have HRB := hid (heap_alloc_new wa (.cells #[.int .u8 k', .int .i64 n', .bool b', .string s'] 23))
      clear bb HB9 HJ9 hsz HR8
      go_upto_region 13 with fail
      generalize wa.alloc (.cells #[.int .u8 k', .int .i64 n', .bool b', .string s'] 23) = wb at *
      obtain ⟨x0, x1, x2, x3⟩ := row4 ((HBB.out.block _ hza).trans HRA.out)
      obtain ⟨y0, y1, y2, y3⟩ := row4 HRB.out
      obtain ⟨D, hD⟩ : ∃ D, wa.heap.size = D := ⟨_, rfl⟩
      have HBC := hid (HBA.out.trans (HBB.out.mono HBA.out.size))
      rw [hD] at y0 y1 y2 y3 ⊢
      have tq : (q' == q') = true := by simp
      clear hD HBA HBB HRA HRB hza
      go_wp2_with fail
      refine (same_any k' k' n' n' b' b' s' s' _).mono ?_
      rintro e wc ⟨rfl, bb⟩
      rw [sameB_refl]
      have HBD := hid (HBC.out.trans (bb.mono HBC.out.size))
      clear bb HBC x0 x1 x2 x3 y0 y1 y2 y3
      go_wp2_with fail
      go_ret
      exact ⟨rfl, HBD.out⟩
theorem sorted_law (l0 : List Bind) (v0 : Value) (nm : ByteArray) (w : World) (i0 : BIn w l0 v0) (m0 : ∀ q ∈ l0, q.may) (n0 : l0.length * 56 ≤ 140737488351232) (_ : nm.size ≤ 140737488351232) (hE : VEnv w) :
    Calls Tryd.prog 11 #[v0, .string nm] w fun e w' => e = .returned (.bool true) ∧ Below w.heap.size w w' :=
  sorted_walk l0 v0 nm w i0 hE n0 (fun b hb => by have := (m0 b hb).1; unfold maxLen at this; omega)
end Go.Proofs.YtohdifffdgoaaaaDoor
