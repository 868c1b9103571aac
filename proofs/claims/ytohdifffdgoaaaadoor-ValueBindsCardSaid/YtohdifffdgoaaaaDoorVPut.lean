/- The walk of value.Put. -/
import Derived.Test.YtohdifffdgoaaaaDoorVPutP
import Derived.Test.YtohdifffdgoaaaaDoorVClone
namespace Go.Proofs.YtohdifffdgoaaaaDoor
open Go.RowKit Go.Maps
open Go.Lib (hid)
open V
theorem zeroInt (w : World) : (zeroValue 3).run Tryd.prog w = .ok (.int .i64 0) w := by kernel_rfl
theorem plainInt_inv {v : Value} {q : Int} {ps : List MemPlace} (h : plainElem (H := Unit) Tryd.prog 3 v = some (.lit (.int .i64 q), ps)) : v = .int .i64 q := by
  obtain ⟨a, rfl, h1, _⟩ := plainElem_int_inv Tryd.underlying3 h
  simp only [Prod.mk.injEq, DataW.lit.injEq, Lit.int.injEq, true_and] at h1
  rw [h1.1]
/-- what Put answers -/
def PutOf (R : List Bind × Int) (w : World) (e : Ending) (w' : World) : Prop := ∃ v, e = .returned (.tuple #[v, .int .i64 R.2]) ∧ BOwn w.heap.size R.1 v w' ∧ Below w.heap.size w w'
theorem BOwn.mono {B B' : Nat} {bs : List Bind} {v : Value} {w : World} (h : BOwn B bs v w) (hB : B' ≤ B) : BOwn B' bs v w := by
  refine ⟨h.1, ?_⟩
  rcases h.2 with h | ⟨g, cap, cur, h1, h2, h3⟩
  · exact Or.inl h
  · exact Or.inr ⟨g, cap, cur, h1, by omega, h3⟩
theorem BOwn.drewN {B : Nat} {bs : List Bind} {v : Value} {w : World} (h : BOwn B bs v w) (n : Nat) : BOwn B bs v (w.drewN n) := h
theorem map_drewN {P : Program} {k : TypeId} {R : Value → Option (DataW Unit × List MemPlace)} {b n : Nat} {D : DataW Unit} {w : World} (h : w.ownsMap P k R b n D) (m : Nat) : (w.drewN m).ownsMap P k R b n D := h
theorem below_drewNP {B : Nat} {a w : World} (h : Below B a w) (n : Nat) : Below B a (w.drewN n) := by
  induction n with
  | zero => exact h
  | succ n ih => exact ih.drew
theorem map_set5 {P : Program} {k : TypeId} {R : Value → Option (DataW Unit × List MemPlace)} {b n g : Nat} {D : DataW Unit} {w : World} (h : w.ownsMap P k R b n D) (hg : b ≠ g) (i0 i1 i2 i3 i4 : Nat) (x y z u v : Value) :
    (((((w.setCell ⟨g, i0, none⟩ x).setCell ⟨g, i1, none⟩ y).setCell ⟨g, i2, none⟩ z).setCell ⟨g, i3, none⟩ u).setCell ⟨g, i4, none⟩ v).ownsMap P k R b n D :=
  ((((h.setCell (a := ⟨g, i0, none⟩) hg x).setCell (a := ⟨g, i1, none⟩) hg y).setCell (a := ⟨g, i2, none⟩) hg z).setCell (a := ⟨g, i3, none⟩) hg u).setCell (a := ⟨g, i4, none⟩) hg v
theorem below_set5 {B g : Nat} {a w : World} (h : Below B a w) (hb : B ≤ g) (i0 i1 i2 i3 i4 : Nat) (x y z u v : Value) :
    Below B a (((((w.setCell ⟨g, i0, none⟩ x).setCell ⟨g, i1, none⟩ y).setCell ⟨g, i2, none⟩ z).setCell ⟨g, i3, none⟩ u).setCell ⟨g, i4, none⟩ v) :=
  ((((h.setCell (p := ⟨g, i0, none⟩) hb x).setCell (p := ⟨g, i1, none⟩) hb y).setCell (p := ⟨g, i2, none⟩) hb z).setCell (p := ⟨g, i3, none⟩) hb u).setCell (p := ⟨g, i4, none⟩) hb v

set_option maxRecDepth 100000 in
set_option maxHeartbeats 4000000 in
theorem put_err (vars patch : List Bind) (sa sb : Value) (w : World) (ha : BIn w vars sa) (hb : BIn w patch sb) (hT : Tabs w) (hl : vars.length ≤ 10000000000000) (hl' : patch.length ≤ 10000000000000)
    (hz : ∀ b ∈ vars, b.name.size ≤ 9223372036854775807) (hz' : ∀ b ∈ patch, b.name.size ≤ 9223372036854775807) (he : or2 (checkB vars) (checkB patch) ≠ 0) :
    Calls Tryd.prog 25 #[sa, sb] w (PutOf ([], or2 (checkB vars) (checkB patch)) w) := by
  have cV := fun X (h : BIn X vars sa) (hX : Tabs X) => checkBinds_any vars sa X h hX hl hz
  have cP := fun X (h : BIn X patch sb) (hX : Tabs X) => checkBinds_any patch sb X h hX hl' hz'
  have cO := fun g X hg => or2_any g (checkB vars) (checkB patch) X hg
  obtain ⟨r, hr⟩ : ∃ r, or2 (checkB vars) (checkB patch) = r := ⟨_, rfl⟩
  rw [hr] at cO he ⊢
  obtain ⟨e1, he1⟩ : ∃ r, checkB vars = r := ⟨_, rfl⟩
  obtain ⟨e2, he2⟩ : ∃ r, checkB patch = r := ⟨_, rfl⟩
  rw [he1] at cV cO
  rw [he2] at cP cO
  have t0 : (r != 0) = true := by rw [bne_iff_ne]; exact he
  have HA := hid ha
  have HB := hid hb
  have HT := hid hT
  clear hr he1 he2 he ha hb hT hz hz'
  go_enter Tryd.func25, Tryd.ntmps25
  go_wp2_with fail
  refine (cV _ HA.out HT.out).mono ?_
  rintro e w1 ⟨rfl, b1⟩
  have B1 := hid b1
  have HB1 := hid (HB.out.below b1)
  have T1 := hid (Utf8Tabs_below HT.out b1)
  clear b1 cV
  go_wp2_with fail
  refine (cP _ HB1.out T1.out).mono ?_
  rintro e w2 ⟨rfl, b2⟩
  have B2 := hid (B1.out.trans (b2.mono B1.out.size))
  clear b2 cP B1 HB1 T1
  go_wp2_with fail
  refine (cO _ _ (heap_alloc_new w2 _)).mono ?_
  rintro e w3 ⟨rfl, rfl⟩
  have B3 := hid (B2.out.alloc B2.out.size (.cells #[.int .i64 e1, .int .i64 e2] 24))
  clear B2 cO
  go_wp2_with fail
  go_ret2
  exact ⟨_, rfl, BOwn.nil _ _, B3.out⟩
set_option maxRecDepth 100000 in
set_option maxHeartbeats 8000000 in
theorem put_ok (vars patch : List Bind) (sa sb : Value) (w : World) (ha : BIn w vars sa) (hb : BIn w patch sb) (hT : Tabs w) (hl : vars.length * 56 ≤ 140737488355328) (hl' : patch.length ≤ 10000000000000)
    (hz : ∀ b ∈ vars, b.name.size ≤ 9223372036854775807) (hz' : ∀ b ∈ patch, b.name.size ≤ 9223372036854775807) (he : checkB vars = 0) (he' : checkB patch = 0) :
    Calls Tryd.prog 25 #[sa, sb] w (PutOf (putL (vars.map Bind.nm) vars patch) w) := by
  obtain ⟨RES, hRES⟩ : ∃ R, putL (vars.map Bind.nm) vars patch = R := ⟨_, rfl⟩
  rw [hRES]
  have HRES := hid hRES
  clear hRES
  have cV := fun X (h : BIn X vars sa) (hX : Tabs X) => checkBinds_any vars sa X h hX (by omega) hz
  have cP := fun X (h : BIn X patch sb) (hX : Tabs X) => checkBinds_any patch sb X h hX hl' hz'
  have cL := fun X (h : BIn X vars sa) => clone_any vars sa X h hl
  rw [he] at cV
  rw [he'] at cP
  have cO := fun g X hg => or2_any g 0 0 X hg
  rw [show or2 0 0 = 0 from rfl] at cO
  obtain ⟨n, hn⟩ : ∃ n, vars.length = n := ⟨_, rfl⟩
  obtain ⟨m, hm⟩ : ∃ m, patch.length = m := ⟨_, rfl⟩
  obtain ⟨xa, ca, hsa⟩ := ha.shape
  obtain ⟨xb, cb, hsb⟩ := hb.shape
  rw [hn] at hsa hl
  rw [hm] at hsb hl'
  subst hsa hsb
  have HA := hid ha
  have HB := hid hb
  have HT := hid hT
  have HN := hid hn
  have HM := hid hm
  have HZ := hid hz
  have HZ' := hid hz'
  have hmm := @run_makeMap Tryd.prog
  clear he he' ha hb hT hn hm hz hz'
  go_enter Tryd.func25, Tryd.ntmps25
  go_wp2_with fail
  refine (cV _ HA.out HT.out).mono ?_
  rintro e w1 ⟨rfl, b1⟩
  have B1 := hid b1
  have HB1 := hid (HB.out.below b1)
  have T1 := hid (Utf8Tabs_below HT.out b1)
  clear b1 cV
  go_wp2_with fail
  refine (cP _ HB1.out T1.out).mono ?_
  rintro e w2 ⟨rfl, b2⟩
  have B2 := hid (B1.out.trans (b2.mono B1.out.size))
  clear b2 cP B1 HB1 T1
  go_wp2_with fail
  refine (cO _ _ (heap_alloc_new w2 _)).mono ?_
  rintro e w3 ⟨rfl, rfl⟩
  have b3 := B2.out.alloc B2.out.size (.cells #[.int .i64 0, .int .i64 0] 24)
  clear B2 cO
  go_upto_region 4 with fail
  generalize World.alloc w2 _ = w3 at *
  have B3 := hid b3
  have hb3 := b3.size
  have HM0 := hid (World.ownsMap_made w3 Tryd.prog 9 (plainElem (H := Unit) Tryd.prog 3))
  have B4 := hid (b3.alloc b3.size (.map #[] 0))
  clear b3 B3
  go_wp2_with fail
  clear hmm
  obtain ⟨mb, hmb⟩ : ∃ mb, w3.heap.size = mb := ⟨_, rfl⟩
  rw [hmb] at hb3 HM0 ⊢
  have hsz4 : mb < (w3.alloc (.map #[] 0)).heap.size := by simp; omega
  generalize World.alloc w3 _ = w4 at *
  clear hmb
  go_loopw [27] (fun i wr => ∃ (k : Nat), k ≤ n ∧ i = .int .i64 k ∧ Hid (Below w.heap.size w wr ∧ mb < wr.heap.size) ∧ Hid (wr.ownsMap Tryd.prog 9 (plainElem Tryd.prog 3) mb k (idxD ((vars.take k).map Bind.nm)))) (fun i _ => n - (intOf i).toNat)
  case atStart => exact ⟨0, by omega, rfl, ⟨B4.out, hsz4⟩, HM0.out⟩
  case round =>
    obtain ⟨k, hk, rfl, hB, hmap⟩ := hrel
    clear hsz4
    by_cases hlt : k < n
    · have hl0 : decide ((k : Int) < (n : Int)) = true := by simp; omega
      have hkp : k < vars.length := by have := HN.out; omega
      obtain ⟨b, o, c2, hsv, hbl, c0, c1, c2, c3, c4⟩ := HA.out.cells hkp
      rw [HN.out] at hsv
      simp only [Value.slice.injEq, true_and] at hsv
      obtain ⟨rfl, rfl⟩ := hsv
      rw [← hB.out.1.cell (p := ⟨b, _, none⟩) hbl] at c0 c1 c2 c3 c4
      have hk0 : (0 : Int) ≤ (k : Int) := by omega
      have hk1 : (k : Int) < (n : Int) := by omega
      have hwr := hB.out.1.size
      have hwm := hB.out.2
      have htk : (vars.take (k + 1)).map Bind.nm = (vars.take k).map Bind.nm ++ [vars[k].nm] := by rw [List.take_succ_eq_append_getElem hkp, List.map_append]; rfl
      have hlk : ((vars.take k).map Bind.nm).length = k := by simp; omega
      have hnz := HZ.out _ (List.getElem_mem hkp)
      obtain ⟨p, hp⟩ : ∃ p, vars[k] = p := ⟨_, rfl⟩
      rw [hp] at c0 c1 c2 c3 c4 hnz htk
      have HTK := hid htk
      have HLK := hid hlk
      clear hp htk hkp hlk
      obtain ⟨nm, kk, nn, bb, ss⟩ := p
      simp only at c0 c1 c2 c3 c4 hnz
      have hkey : keyOf Tryd.prog 9 (.string nm) = some (.string nm.data.toList) := Go.WideMaps.keyOf_string_mk Tryd.underlying9 (by unfold maxLen; omega)
      have hM1 := hmap.out.alloc (.cells #[.string nm, .int .u8 kk, .int .i64 nn, .bool bb, .string ss] 43)
      obtain ⟨w5, hput, hown5, hturn⟩ := hM1.store law Tryd.underlying80 (by unfold maxLen; omega) hkey (plainElem_int (H := Unit) Tryd.underlying3 (a := (k : Int)) (WalkArith.wf_i64 (by omega)))
      have HM5 : Hid (w5.ownsMap Tryd.prog 9 (plainElem Tryd.prog 3) mb (k + 1) (idxD ((vars.take (k + 1)).map Bind.nm))) := by
        show World.ownsMap _ _ _ _ _ _ _
        rw [HTK.out, idxD_snoc, HLK.out]; exact hown5
      have hB1 := hB.out.1.alloc hwr (.cells #[.string nm, .int .u8 kk, .int .i64 nn, .bool bb, .string ss] 43)
      have hB5 := hB1.grown hturn.grown hB1.size (fun q hq => by simp at hq; omega)
      have HB5 : Hid (Below w.heap.size w w5 ∧ mb < w5.heap.size) := ⟨hB5, hown5.lt⟩
      clear hkey hM1 hown5 hturn hB1 hB5 hmap hB HTK HLK
      go_wp2_with fail
      go_roundw
      case rel => exact ⟨k + 1, by omega, by go_num, HB5, HM5⟩
      case measure => simp [intOf]; omega
    · have hl0 : decide ((k : Int) < (n : Int)) = false := by simp; omega
      obtain rfl : k = n := by omega
      have hfull : vars.take k = vars := List.take_of_length_le (by have := HN.out; omega)
      have hM := hmap.out
      rw [hfull] at hM
      have HMP := hid hM
      have hwm := hB.out.2
      have hwr := hB.out.1.size
      clear hM hmap hfull
      go_wp2_with fail
      refine (cL _ (HA.out.below hB.out.1)).mono ?_
      rintro e w5 ⟨v, rfl, hv, b5⟩
      have HV := hid hv
      have HMP5 := hid (map_below HMP.out b5)
      have HB5 : Hid (Below w.heap.size w w5) := hB.out.1.trans (b5.mono hwr)
      have hbase : mb < wr.heap.size := hwm
      clear hv b5 cL HMP hB
      obtain ⟨B, hBe⟩ : ∃ B, wr.heap.size = B := ⟨_, rfl⟩
      rw [hBe] at HV hbase hwr
      clear hBe hwm
      have hlen : vars.length = k := HN.out
      have hI0 : RES = putL (vars.map Bind.nm) vars (patch.drop 0) := HRES.out.symm
      obtain ⟨names, hnames⟩ : ∃ l, vars.map Bind.nm = l := ⟨_, rfl⟩
      have hnl : names.length = k := by rw [← hnames]; simp [hlen]
      rw [hnames] at hI0
      have HI0 := hid hI0
      rw [hnames] at HMP5
      have HNL := hid hnl
      clear hnl hI0
      go_wp2_with fail
      go_loopw [41] (fun i wr => ∃ (j : Nat) (os : List Bind), j ≤ m ∧ i = .int .i64 j ∧ Hid (os.length = k ∧ BOwn B os v wr) ∧ Hid (wr.ownsMap Tryd.prog 9 (plainElem Tryd.prog 3) mb k (idxD names)) ∧ Hid (Below w.heap.size w wr) ∧ Hid (RES = putL names os (patch.drop j))) (fun i _ => m - (intOf i).toNat)
      case atStart => exact ⟨0, vars, by omega, rfl, ⟨hlen, HV.out⟩, HMP5.out, HB5.out, HI0.out⟩
      case round =>
        obtain ⟨j, os, hj, rfl, hos, hmap, hB, hI⟩ := hrel
        clear HI0 HV HMP5 HB5 hnames hlen HRES
        by_cases hlt : j < m
        · have hl1 : decide ((j : Int) < (m : Int)) = true := by simp; omega
          have hjp : j < patch.length := by have := HM.out; omega
          obtain ⟨b, o, c2, hsv, hbl, c0, c1, c2, c3, c4⟩ := HB.out.cells hjp
          rw [HM.out] at hsv
          simp only [Value.slice.injEq, true_and] at hsv
          obtain ⟨rfl, rfl⟩ := hsv
          rw [← hB.out.cell (p := ⟨b, _, none⟩) hbl] at c0 c1 c2 c3 c4
          have hk0 : (0 : Int) ≤ (j : Int) := by omega
          have hk1 : (j : Int) < (m : Int) := by omega
          have hwx := hB.out.size
          have hst : patch.drop j = patch[j] :: patch.drop (j + 1) := List.drop_eq_getElem_cons hjp
          have hnz := HZ'.out _ (List.getElem_mem hjp)
          obtain ⟨p, hp⟩ : ∃ p, patch[j] = p := ⟨_, rfl⟩
          rw [hp] at c0 c1 c2 c3 c4 hnz hst
          have hI2 := hI.out
          rw [hst] at hI2
          clear hst hI hp hjp
          obtain ⟨nm, kk, nn, bb, ss⟩ := p
          simp only at c0 c1 c2 c3 c4 hnz
          have hkey : keyOf Tryd.prog 9 (.string nm) = some (.string nm.data.toList) := Go.WideMaps.keyOf_string_mk Tryd.underlying9 (by unfold maxLen; omega)
          have hM1 := hmap.out.alloc (.cells #[.string nm, .int .u8 kk, .int .i64 nn, .bool bb, .string ss] 43)
          have hB1 := hB.out.alloc hwx (.cells #[.string nm, .int .u8 kk, .int .i64 nn, .bool bb, .string ss] 43)
          have hlook : (Instr.lookup 80 (.map (some mb)) (.string nm) true).run Tryd.prog (wr.alloc (.cells #[.string nm, .int .u8 kk, .int .i64 nn, .bool bb, .string ss] 43)) =
              .ok (.tuple #[.int .i64 (((lastIdx names nm.data.toList).getD 0 : Nat) : Int), .bool (lastIdx names nm.data.toList).isSome]) (wr.alloc (.cells #[.string nm, .int .u8 kk, .int .i64 nn, .bool bb, .string ss] 43)) := by
            obtain ⟨x, ps, h1, h2⟩ := hM1.look_ok law Tryd.underlying80 (zeroInt _) (plainElem_int Tryd.underlying3 (a := 0) (by decide)) hkey
            rw [idxD_at] at h2
            rw [plainInt_inv h2, idxD_has] at h1
            exact h1
          have HB1 := hid hB1
          have HM1 := hid hM1
          clear hkey hM1 hB1 hmap hB
          cases hx : lastIdx names nm.data.toList with
          | none =>
            rw [hx] at hlook
            have HE : Hid (RES = ([], 100)) := by
              show _ = _
              rw [hI2, putL]
              simp only [Bind.nm, hx]
            simp only [Option.getD_none, Option.isSome_none] at hlook
            clear hx hI2 hos
            go_wp2_with fail
            go_ret2
            exact ⟨.slice none 0 0, by rw [HE.out]; rfl, by rw [HE.out]; exact BOwn.nil _ _, HB1.out⟩
          | some i =>
            rw [hx] at hlook
            obtain ⟨hil, _⟩ := lastIdx_lt _ names nm.data.toList i rfl hx
            have hik : i < k := by have := HNL.out; omega
            simp only [Option.getD_some, Option.isSome_some] at hlook
            have hio : i < os.length := by have := hos.out.1; omega
            rcases hos.out.2.form with ⟨_, h0⟩ | ⟨g, cap, hv, hcap, hBg⟩
            · rw [h0] at hio; simp at hio
            · rw [hos.out.1] at hv hcap
              subst hv
              have hOW := hos.out.2
              have hgl := World.ownsRow.lt hOW g rfl
              have hOA : BOwn B os (.slice (some ⟨g, 0, none⟩) k cap) (wr.alloc (.cells #[.string nm, .int .u8 kk, .int .i64 nn, .bool bb, .string ss] 43)) := World.ownsRow.alloc hOW _
              have hca := fun q (hq : q < os.length * 5) => World.ownsRow.cellAt (n := os.length) (by have e := hos.out.1; rw [← e] at hOA; exact hOA) q hq
              have hfa := fun q => World.ownsRow.frozenAt (n := os.length) (by have e := hos.out.1; rw [← e] at hOA; exact hOA) q
              obtain ⟨⟨no, ko, no2, bo, so⟩, hpo⟩ : ∃ po, os[i]? = some po := ⟨_, List.getElem?_eq_getElem hio⟩
              obtain ⟨d0, d1, d2, d3, d4⟩ := rowB_got hpo
              simp only at d0 d1 d2 d3 d4
              have e0 := (hca (i * 5) (by omega)).trans d0
              have e1 := (hca (i * 5 + 1) (by omega)).trans d1
              have e2 := (hca (i * 5 + 2) (by omega)).trans d2
              have e3 := (hca (i * 5 + 3) (by omega)).trans d3
              have e4 := (hca (i * 5 + 4) (by omega)).trans d4
              have q0 := hfa (i * 5)
              have q1 := hfa (i * 5 + 1)
              have q2 := hfa (i * 5 + 2)
              have q3 := hfa (i * 5 + 3)
              have q4 := hfa (i * 5 + 4)
              have hi0 : (0 : Int) ≤ (i : Int) := by omega
              have hi1 : (i : Int) < (k : Int) := by omega
              have hne : g ≠ wr.heap.size := by omega
              have hmg : mb ≠ g := by omega
              rw [putL] at hI2
              simp only [Bind.nm, hx] at hI2
              have hget : (os[i]?.map fun o => o.v.k) = some ko := by rw [hpo]; rfl
              rw [hget] at hI2
              have HOA := hid hOA
              have HOL := hid hos.out.1
              have HIO := hid hio
              clear hca hfa d0 d1 d2 d3 d4 hOW hOA hos hx hget hio hpo
              by_cases hkk : ko = kk
              · have t0 : ((ko : Int) != (kk : Int)) = false := by rw [hkk]; simp
                have t1 : ((ko : Int) == (kk : Int)) = true := by rw [hkk]; simp
                have HI : Hid (RES = putL names (os.set i ⟨nm, ⟨kk, nn, bb, ss⟩⟩) (patch.drop (j + 1))) := by
                  show _ = _
                  rw [hI2, if_pos (by rw [hkk])]
                clear hI2 hkk
                go_wp2_with fail
                go_quiet (fail)
                go_wp2_with fail
                have HO2 := hid (BOwn_stored (by have e := HOL.out; have h := HOA.out; rw [← e] at h; exact h) i ⟨nm, ⟨kk, nn, bb, ss⟩⟩ HIO.out)
                rw [HOL.out] at HO2
                go_roundw
                case rel => exact ⟨j + 1, os.set i ⟨nm, ⟨kk, nn, bb, ss⟩⟩, by omega, by go_num, ⟨by rw [List.length_set]; exact HOL.out, HO2.out⟩, map_set5 (map_drewN HM1.out _) hmg _ _ _ _ _ _ _ _ _ _, below_set5 (below_drewNP HB1.out _) (by omega) _ _ _ _ _ _ _ _ _ _, HI⟩
                case measure => simp [intOf]; omega
              · have t0 : ((ko : Int) != (kk : Int)) = true := by rw [bne_iff_ne]; omega
                have t1 : ((ko : Int) == (kk : Int)) = false := by rw [beq_eq_false_iff_ne]; omega
                have HE : Hid (RES = ([], 90)) := by
                  show _ = _
                  rw [hI2, if_neg (by simpa using hkk)]
                clear hI2 hkk
                go_wp2_with fail
                go_quiet (fail)
                go_wp2_with fail
                go_ret2
                exact ⟨.slice none 0 0, by rw [HE.out]; rfl, by rw [HE.out]; exact BOwn.nil _ _, below_drewNP HB1.out _⟩
        · have hl1 : decide ((j : Int) < (m : Int)) = false := by simp; omega
          have hE : RES = (os, 0) := by
            rw [hI.out, List.drop_of_length_le (by have := HM.out; omega)]; rfl
          have HE := hid hE
          clear hE hI hmap
          go_wp2_with fail
          go_ret2
          exact ⟨v, by rw [HE.out]; rfl, by rw [HE.out]; exact BOwn.mono hos.out.2 hwr, hB.out⟩
theorem vput_any (vars patch : List Bind) (sa sb : Value) (w : World) (ha : BIn w vars sa) (hb : BIn w patch sb) (hT : Tabs w) (hl : vars.length * 56 ≤ 140737488355328) (hl' : patch.length ≤ 10000000000000)
    (hz : ∀ b ∈ vars, b.name.size ≤ 9223372036854775807) (hz' : ∀ b ∈ patch, b.name.size ≤ 9223372036854775807) :
    Calls Tryd.prog 25 #[sa, sb] w (PutOf (put vars patch) w) := by
  unfold put
  by_cases h1 : checkB vars = 0
  · rw [if_neg (by simp [h1])]
    by_cases h2 : checkB patch = 0
    · rw [if_neg (by simp [h2])]
      exact put_ok vars patch sa sb w ha hb hT hl hl' hz hz' h1 h2
    · rw [if_pos h2]
      have := put_err vars patch sa sb w ha hb hT (by omega) hl' hz hz' (by unfold or2; rw [if_neg (by simp [h1])]; exact h2)
      rw [show or2 (checkB vars) (checkB patch) = checkB patch by unfold or2; rw [if_neg (by simp [h1])]] at this
      exact this
  · rw [if_pos h1]
    have := put_err vars patch sa sb w ha hb hT (by omega) hl' hz hz' (by unfold or2; rw [if_pos h1]; exact h1)
    rw [show or2 (checkB vars) (checkB patch) = checkB vars by unfold or2; rw [if_pos h1]] at this
    exact this
end Go.Proofs.YtohdifffdgoaaaaDoor
