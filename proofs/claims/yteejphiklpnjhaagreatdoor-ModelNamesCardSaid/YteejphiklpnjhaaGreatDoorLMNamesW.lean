/- ModelNames: the walk of the statement. -/
import Derived.Test.YteejphiklpnjhaaGreatDoorOA5
namespace Go.Proofs.YteejphiklpnjhaaGreatDoor
open Go.RowKit Go.Maps
open Go.Lib (hid)
def O.rows : List (List UInt8 × Int) := [((O.calT [122]), 120), ((O.calT [112]), 84), ((O.calT [113]), 0), ((O.whoT [60, 98, 58, 116, 97, 115, 107, 32, 105, 100, 61, 34, 97, 34, 47, 62]), 121), ((O.whoT [60, 98, 58, 117, 115, 101, 114, 84, 97, 115, 107, 47, 62]), 121), ((O.whoT [60, 98, 58, 115, 101, 114, 118, 105, 99, 101, 84, 97, 115, 107, 32, 105, 100, 61, 34, 97, 34, 32, 116, 58, 116, 114, 105, 101, 115, 61, 34, 48, 51, 34, 47, 62]), 1), ((O.whoT [60, 98, 58, 117, 115, 101, 114, 84, 97, 115, 107, 32, 105, 100, 61, 34, 97, 34, 62, 120, 60, 47, 98, 58, 117, 115, 101, 114, 84, 97, 115, 107, 62]), 121), ([60, 97, 47, 62], 121), ([60, 97, 62], 80), (O.lastL, 121)]
def O.rowCells : Array Value := #[.string (X.ba (O.calT [122])), .int .i64 120, .string (X.ba (O.calT [112])), .int .i64 84, .string (X.ba (O.calT [113])), .int .i64 0, .string (X.ba (O.whoT [60, 98, 58, 116, 97, 115, 107, 32, 105, 100, 61, 34, 97, 34, 47, 62])), .int .i64 121, .string (X.ba (O.whoT [60, 98, 58, 117, 115, 101, 114, 84, 97, 115, 107, 47, 62])), .int .i64 121, .string (X.ba (O.whoT [60, 98, 58, 115, 101, 114, 118, 105, 99, 101, 84, 97, 115, 107, 32, 105, 100, 61, 34, 97, 34, 32, 116, 58, 116, 114, 105, 101, 115, 61, 34, 48, 51, 34, 47, 62])), .int .i64 1, .string (X.ba (O.whoT [60, 98, 58, 117, 115, 101, 114, 84, 97, 115, 107, 32, 105, 100, 61, 34, 97, 34, 62, 120, 60, 47, 98, 58, 117, 115, 101, 114, 84, 97, 115, 107, 62])), .int .i64 121, .string (X.ba [60, 97, 47, 62]), .int .i64 121, .string (X.ba [60, 97, 62]), .int .i64 80, .string (X.ba O.lastL), .int .i64 121]
theorem O.rows_fit : ∀ (i : Nat) (x : List UInt8 × Int), O.rows[i]? = some x → x.1.length ≤ 60000 ∧ O.fitT x.1 = true ∧ (O.text x.1 = some (.error x.2) ∧ x.2 ≠ 0 ∨ x.2 = 0 ∧ O.text x.1 = some (.ok O.qM)) := by
  intro i x h
  match i, h with
  | 0, h => cases h; exact ⟨of_decide_eq_true (by kernel_rfl), O.fit_0, Or.inl ⟨O.text_0, by decide⟩⟩
  | 1, h => cases h; exact ⟨of_decide_eq_true (by kernel_rfl), O.fit_1, Or.inl ⟨O.text_1, by decide⟩⟩
  | 2, h => cases h; exact ⟨of_decide_eq_true (by kernel_rfl), O.fit_2, Or.inr ⟨rfl, O.text_2⟩⟩
  | 3, h => cases h; exact ⟨of_decide_eq_true (by kernel_rfl), O.fit_3, Or.inl ⟨O.text_3, by decide⟩⟩
  | 4, h => cases h; exact ⟨of_decide_eq_true (by kernel_rfl), O.fit_4, Or.inl ⟨O.text_4, by decide⟩⟩
  | 5, h => cases h; exact ⟨of_decide_eq_true (by kernel_rfl), O.fit_5, Or.inl ⟨O.text_5, by decide⟩⟩
  | 6, h => cases h; exact ⟨of_decide_eq_true (by kernel_rfl), O.fit_6, Or.inl ⟨O.text_6, by decide⟩⟩
  | 7, h => cases h; exact ⟨of_decide_eq_true (by kernel_rfl), O.fit_7, Or.inl ⟨O.text_7, by decide⟩⟩
  | 8, h => cases h; exact ⟨of_decide_eq_true (by kernel_rfl), O.fit_8, Or.inl ⟨O.text_8, by decide⟩⟩
  | 9, h => cases h; exact ⟨of_decide_eq_true (by kernel_rfl), O.fit_9, Or.inl ⟨O.text_9, by decide⟩⟩
  | i + 10, h => simp [O.rows] at h
theorem O.rows_cells : ∀ (i : Nat) (x : List UInt8 × Int), O.rows[i]? = some x → O.rowCells[i * 2]? = some (.string (X.ba x.1)) ∧ O.rowCells[i * 2 + 1]? = some (.int .i64 x.2) := by
  intro i x h
  match i, h with
  | 0, h => cases h; exact ⟨rfl, rfl⟩
  | 1, h => cases h; exact ⟨rfl, rfl⟩
  | 2, h => cases h; exact ⟨rfl, rfl⟩
  | 3, h => cases h; exact ⟨rfl, rfl⟩
  | 4, h => cases h; exact ⟨rfl, rfl⟩
  | 5, h => cases h; exact ⟨rfl, rfl⟩
  | 6, h => cases h; exact ⟨rfl, rfl⟩
  | 7, h => cases h; exact ⟨rfl, rfl⟩
  | 8, h => cases h; exact ⟨rfl, rfl⟩
  | 9, h => cases h; exact ⟨rfl, rfl⟩
  | i + 10, h => simp [O.rows] at h
set_option maxRecDepth 100000 in
set_option maxHeartbeats 8000000 in
theorem mnames_walk (w : World) (hE : EnvO w) : Calls Tryz.prog 3 #[] w fun e w' => e = .returned (.bool true) ∧ Below w.heap.size w w' := by
  have HE := hid hE
  have c0 := fun U => call_any [122] (by decide) U
  have c1 := fun U => call_any [112] (by decide) U
  have c2 := fun U => call_any [113] (by decide) U
  have c3 := fun U => whole_any [60, 98, 58, 116, 97, 115, 107, 32, 105, 100, 61, 34, 97, 34, 47, 62] (by decide) U
  have c4 := fun U => whole_any [60, 98, 58, 117, 115, 101, 114, 84, 97, 115, 107, 47, 62] (by decide) U
  have c5 := fun U => whole_any [60, 98, 58, 115, 101, 114, 118, 105, 99, 101, 84, 97, 115, 107, 32, 105, 100, 61, 34, 97, 34, 32, 116, 58, 116, 114, 105, 101, 115, 61, 34, 48, 51, 34, 47, 62] (by decide) U
  have c6 := fun U => whole_any [60, 98, 58, 117, 115, 101, 114, 84, 97, 115, 107, 32, 105, 100, 61, 34, 97, 34, 62, 120, 60, 47, 98, 58, 117, 115, 101, 114, 84, 97, 115, 107, 62] (by decide) U
  clear hE
  go_enter Tryz.func3, Tryz.ntmps3
  go_wp2_with fail
  refine (c0 w).mono ?_
  rintro e w' ⟨rfl, hw⟩
  obtain rfl : w = w' := hw.symm
  clear c0
  go_wp2_with fail
  refine (c1 w).mono ?_
  rintro e w' ⟨rfl, hw⟩
  obtain rfl : w = w' := hw.symm
  clear c1
  go_wp2_with fail
  refine (c2 w).mono ?_
  rintro e w' ⟨rfl, hw⟩
  obtain rfl : w = w' := hw.symm
  clear c2
  go_wp2_with fail
  refine (c3 w).mono ?_
  rintro e w' ⟨rfl, hw⟩
  obtain rfl : w = w' := hw.symm
  clear c3
  go_wp2_with fail
  refine (c4 w).mono ?_
  rintro e w' ⟨rfl, hw⟩
  obtain rfl : w = w' := hw.symm
  clear c4
  go_wp2_with fail
  refine (c5 w).mono ?_
  rintro e w' ⟨rfl, hw⟩
  obtain rfl : w = w' := hw.symm
  clear c5
  go_wp2_with fail
  refine (c6 w).mono ?_
  rintro e w' ⟨rfl, hw⟩
  obtain rfl : w = w' := hw.symm
  clear c6
  go_upto_region 2 with fail
  obtain ⟨w1, hw1⟩ : ∃ w1, w.alloc (.cells O.rowCells 24) = w1 := ⟨_, rfl⟩
  have hb1 : Below w.heap.size w w1 := by rw [← hw1]; exact (Below.refl _ w).alloc (Nat.le_refl _) _
  obtain ⟨XR, hX⟩ : ∃ XR, w.heap.size = XR := ⟨_, rfl⟩
  have HR1 : Hid (w1.heap[XR]? = some (.cells O.rowCells 24 (0, 0)) ∧ Below w.heap.size w w1) := ⟨by rw [← hw1, ← hX]; exact heap_alloc_new w _, hb1⟩
  rw [show w.alloc (.cells #[.string (X.ba (O.calT [122])), .int .i64 120, .string (X.ba (O.calT [112])), .int .i64 84, .string (X.ba (O.calT [113])), .int .i64 0, .string (X.ba (O.whoT [60, 98, 58, 116, 97, 115, 107, 32, 105, 100, 61, 34, 97, 34, 47, 62])), .int .i64 121, .string (X.ba (O.whoT [60, 98, 58, 117, 115, 101, 114, 84, 97, 115, 107, 47, 62])), .int .i64 121, .string (X.ba (O.whoT [60, 98, 58, 115, 101, 114, 118, 105, 99, 101, 84, 97, 115, 107, 32, 105, 100, 61, 34, 97, 34, 32, 116, 58, 116, 114, 105, 101, 115, 61, 34, 48, 51, 34, 47, 62])), .int .i64 1, .string (X.ba (O.whoT [60, 98, 58, 117, 115, 101, 114, 84, 97, 115, 107, 32, 105, 100, 61, 34, 97, 34, 62, 120, 60, 47, 98, 58, 117, 115, 101, 114, 84, 97, 115, 107, 62])), .int .i64 121, .string (⟨#[60, 97, 47, 62]⟩), .int .i64 121, .string (⟨#[60, 97, 62]⟩), .int .i64 80, .string (⟨List.toArray (60 :: 98 :: 58 :: 100 :: 101 :: 102 :: 105 :: 110 :: 105 :: 116 :: 105 :: 111 :: 110 :: 115 :: 32 :: 120 :: 109 :: 108 :: 110 :: 115 :: 58 :: 98 :: 61 :: 34 :: 104 :: 116 :: 116 :: 112 :: 58 :: 47 :: 47 :: 119 :: 119 :: 119 :: 46 :: 111 :: 109 :: 103 :: 46 :: 111 :: 114 :: 103 :: 47 :: 115 :: 112 :: 101 :: 99 :: 47 :: 66 :: 80 :: 77 :: 78 :: 47 :: 50 :: 48 :: 49 :: 48 :: 48 :: 53 :: 50 :: 52 :: 47 :: 77 :: 79 :: 68 :: 69 :: 76 :: 34 :: 32 :: 120 :: 109 :: 108 :: 110 :: 115 :: 58 :: 116 :: 61 :: 34 :: 117 :: 114 :: 110 :: 58 :: 116 :: 111 :: 108 :: 108 :: 103 :: 97 :: 116 :: 101 :: 34 :: 62 :: 60 :: 47 :: 98 :: 58 :: 100 :: 101 :: 102 :: 105 :: 110 :: 105 :: 116 :: 105 :: 111 :: 110 :: 115 :: 62 :: [])⟩), .int .i64 121] 24) = w1 from hw1]
  rw [hX]
  clear hw1 hb1 hX
  go_loopw [28] (fun vi wr => ∃ (i : Nat), i ≤ 10 ∧ vi = .int .i64 i ∧ Hid (wr.heap[XR]? = some (.cells O.rowCells 24 (0, 0)) ∧ Below w.heap.size w wr)) (fun vi _ => 10 - (intOf vi).toNat)
  case atStart => exact ⟨0, by omega, rfl, HR1⟩
  case round =>
    obtain ⟨i, hi, rfl, HI⟩ := hrel
    clear HR1
    by_cases hlt : i < 10
    · have d0 : decide ((i : Int) < 10) = true := decide_eq_true (by omega)
      have d1 : decide (i < 10) = true := decide_eq_true (by omega)
      have hi0 : (0 : Int) ≤ (i : Int) := by omega
      have hi1 : (i : Int) < 10 := by omega
      obtain ⟨x, hx⟩ : ∃ x, O.rows[i]? = some x := ⟨_, List.getElem?_eq_getElem (by show i < 10; omega)⟩
      obtain ⟨hp1, hp2, hp3⟩ := O.rows_fit i x hx
      obtain ⟨h0, h1⟩ := O.rows_cells i x hx
      obtain ⟨l, er⟩ := x
      simp only at hp1 hp2 hp3 h0 h1
      have c0 : wr.cell? ⟨XR, i * 2, none⟩ = some (.string (X.ba l)) := by rw [Lib.cell_of_heap HI.out.1]; exact h0
      have c1 : wr.cell? ⟨XR, i * 2 + 1, none⟩ = some (.int .i64 er) := by rw [Lib.cell_of_heap HI.out.1]; exact h1
      obtain ⟨s, hs⟩ : ∃ s, X.ba l = s := ⟨_, rfl⟩
      rw [hs] at c0
      obtain ⟨w5, hw5⟩ : ∃ w5, wr.alloc (.cells #[.string s, .int .i64 er] 24) = w5 := ⟨_, rfl⟩
      obtain ⟨Y, hY⟩ : ∃ Y, wr.heap.size = Y := ⟨_, rfl⟩
      have hb5 : Below wr.heap.size wr w5 := by rw [← hw5]; exact (Below.refl _ wr).alloc (Nat.le_refl _) _
      have HY5 : Hid (w5.heap[Y]? = some (.cells #[.string s, .int .i64 er] 24 (0, 0))) := by show _ = _; rw [← hw5, ← hY]; exact heap_alloc_new wr _
      have HX5 := hid ((hb5.block XR (Go.lt_of_block HI.out.1)).trans HI.out.1)
      have HB5 := hid (HI.out.2.trans (hb5.mono HI.out.2.size))
      have HP3 := hid hp3
      have cE : ∀ RES, O.text l = some RES → Calls Tryz.prog 7 #[.string s] w5 (RdOf w5 RES) := fun RES hT => by
        have := read_known l hp1 hp2 hT w5 (HE.out.below HB5.out)
        rw [hs] at this
        exact this
      have HCE := hid cE
      have HW5 := hid hw5
      have HYE := hid hY
      clear hx hp1 hp2 hp3 h0 h1 hs hw5 hY hb5 cE
      go_upto_region 4 with fail
      rw [HW5.out, HYE.out]
      clear HW5 HYE c0 c1
      have y0 : w5.cell? ⟨Y, 0, none⟩ = some (.string s) := by rw [Lib.cell_of_heap HY5.out]; rfl
      rcases HP3.out with ⟨hT, hne⟩ | ⟨h0, hT⟩
      · have cA := HCE.out _ hT
        clear hT HCE HP3
        have HNE := hid hne
        clear hne
        go_wp2_with fail
        refine cA.mono ?_
        clear cA y0
        rintro e w6 (⟨m, vv, ev, fv, hx, -, -⟩ | ⟨e', p0, p1, hx, rfl, hb⟩)
        · cases hx
        obtain rfl : er = e' := by injection hx
        have HY6 := hid ((hb.block Y (Go.lt_of_block HY5.out)).trans HY5.out)
        have HX6 := hid ((hb.block XR (Go.lt_of_block HX5.out)).trans HX5.out)
        have HB6 := hid (HB5.out.trans (hb.mono HB5.out.size))
        obtain ⟨Z, hZ⟩ : ∃ Z, w6.heap.size = Z := ⟨_, rfl⟩
        obtain ⟨w7, hw7⟩ : ∃ w, (w6.alloc (.cells #[.string ⟨#[]⟩, .string ⟨#[]⟩, .slice none 0 0, .slice none 0 0, .slice none 0 0] 30)).alloc (.cells #[.int .i64 p0, .int .i64 p1] 32) = w := ⟨_, rfl⟩
        have hb7 : Below w6.heap.size w6 w7 := by rw [← hw7]; exact ((Below.refl _ w6).alloc (Nat.le_refl _) _).alloc (by simp) _
        have hd7 : w7.heap[Z]? = some (.cells #[.string ⟨#[]⟩, .string ⟨#[]⟩, .slice none 0 0, .slice none 0 0, .slice none 0 0] 30 (0, 0)) := by
          rw [← hw7, Go.Lib.alloc_old _ _ _ (by simp; omega), ← hZ]
          exact heap_alloc_new w6 _
        have z0 := rowCell hd7 0
        have HX7 := hid ((hb7.block XR (Go.lt_of_block HX6.out)).trans HX6.out)
        have HB7 := hid (HB6.out.trans (hb7.mono HB6.out.size))
        have hy7 := (hb7.block Y (Go.lt_of_block HY6.out)).trans HY6.out
        have y1 : w7.cell? ⟨Y, 1, none⟩ = some (.int .i64 er) := by rw [Lib.cell_of_heap hy7]; rfl
        have q1 : (er != er) = false := by simp
        have q2 : (er != 0) = true := bne_iff_ne.2 HNE.out
        have q3 : (er == 0) = false := beq_eq_false_iff_ne.2 HNE.out
        simp only [List.getElem?_toArray, List.getElem?_cons_zero] at z0
        have HW7 := hid hw7
        have HZE := hid hZ
        clear hx hb hZ hw7 hb7 hd7 hy7 HY5 HX5
        go_upto_region 5 with fail
        rw [HW7.out, HZE.out]
        clear HW7 HZE
        go_wp2_with fail
        go_roundw
        case rel => exact ⟨i + 1, by omega, by go_num, hid ⟨HX7.out, HB7.out⟩⟩
        case measure => simp [intOf]; omega
      · obtain rfl := h0
        have cA := HCE.out _ hT
        clear hT HCE HP3
        go_wp2_with fail
        refine cA.mono ?_
        clear cA y0
        rintro e w6 (⟨m, vv, ev, fv, hx, rfl, hv, heo, hfo, hb⟩ | ⟨e', p0, p1, hx, -, -⟩)
        rotate_left
        · cases hx
        obtain ⟨va, vl, vc, rfl⟩ : ∃ a l c, vv = .slice a l c := by obtain ⟨a, c, h⟩ := hv.shape; exact ⟨a, _, c, h⟩
        obtain ⟨ea, el, ec, rfl⟩ : ∃ a l c, ev = .slice a l c := by obtain ⟨a, c, h⟩ := own_form heo; exact ⟨a, _, c, h⟩
        obtain ⟨fa, fl, fc, rfl⟩ : ∃ a l c, fv = .slice a l c := by obtain ⟨a, c, h⟩ := own_form hfo; exact ⟨a, _, c, h⟩
        have HY6 := hid ((hb.block Y (Go.lt_of_block HY5.out)).trans HY5.out)
        have HX6 := hid ((hb.block XR (Go.lt_of_block HX5.out)).trans HX5.out)
        have HB6 := hid (HB5.out.trans (hb.mono HB5.out.size))
        obtain ⟨w7, hw7⟩ : ∃ w, (w6.alloc (.cells #[.string (X.ba m.id), .string (X.ba m.nm), .slice va vl vc, .slice ea el ec, .slice fa fl fc] 30)).alloc (.cells #[.int .i64 0, .int .i64 0] 32) = w := ⟨_, rfl⟩
        have hb7 : Below w6.heap.size w6 w7 := by rw [← hw7]; exact ((Below.refl _ w6).alloc (Nat.le_refl _) _).alloc (by simp) _
        have HX7 := hid ((hb7.block XR (Go.lt_of_block HX6.out)).trans HX6.out)
        have HB7 := hid (HB6.out.trans (hb7.mono HB6.out.size))
        have hy7 := (hb7.block Y (Go.lt_of_block HY6.out)).trans HY6.out
        have y1 : w7.cell? ⟨Y, 1, none⟩ = some (.int .i64 0) := by rw [Lib.cell_of_heap hy7]; rfl
        have HW7 := hid hw7
        clear hx hb hv heo hfo hw7 hb7 hy7 HY5 HX5
        go_upto_region 5 with fail
        rw [HW7.out]
        clear HW7
        go_wp2_with fail
        go_roundw
        case rel => exact ⟨i + 1, by omega, by go_num, hid ⟨HX7.out, HB7.out⟩⟩
        case measure => simp [intOf]; omega
    · have d0 : decide ((i : Int) < 10) = false := decide_eq_false (by omega)
      have d1 : decide (i < 10) = false := decide_eq_false (by omega)
      have HB := hid HI.out.2
      clear hlt HI hi
      have cQ := call_any [113] (by decide) wr
      have cR := read_known (O.calT [113]) (by decide) O.fit_2 O.text_2 wr (HE.out.below HB.out)
      obtain ⟨sQ, hsQ⟩ : ∃ s, X.ba (O.calT [113]) = s := ⟨_, rfl⟩
      rw [hsQ] at cQ cR
      clear hsQ
      go_wp2_with fail
      refine cQ.mono ?_
      rintro e w4 ⟨rfl, hw⟩
      obtain rfl : wr = w4 := hw.symm
      clear cQ
      go_wp2_with fail
      refine cR.mono ?_
      clear cR
      rintro e w6 (⟨m, vv, ev, fv, hx, rfl, hv, heo, hfo, hb⟩ | ⟨e', p0, p1, hx, -, -⟩)
      rotate_left
      · cases hx
      obtain rfl : O.qM = m := by injection hx
      obtain ⟨va, vl, vc, rfl⟩ : ∃ a l c, vv = .slice a l c := by obtain ⟨a, c, h⟩ := hv.shape; exact ⟨a, _, c, h⟩
      obtain ⟨ge, ec, rfl, hge, hec, hea⟩ := els_at heo (by decide)
      obtain ⟨fa, fl, fc, rfl⟩ : ∃ a l c, fv = .slice a l c := by obtain ⟨a, c, h⟩ := own_form hfo; exact ⟨a, _, c, h⟩
      rw [show O.qM.els.length = 2 from rfl] at hec ⊢
      rw [show X.ba O.qM.id = ⟨#[112]⟩ from rfl, show X.ba O.qM.nm = ⟨#[]⟩ from rfl]
      obtain ⟨D, hD⟩ : ∃ D, w6.heap.size = D := ⟨_, rfl⟩
      obtain ⟨w7, hw7⟩ : ∃ w, (w6.alloc (.cells #[.string ⟨#[112]⟩, .string ⟨#[]⟩, .slice va vl vc, .slice (some ⟨ge, 0, none⟩) 2 ec, .slice fa fl fc] 30)).alloc (.cells #[.int .i64 0, .int .i64 0] 32) = w := ⟨_, rfl⟩
      have hb7 : Below w6.heap.size w6 w7 := by rw [← hw7]; exact ((Below.refl _ w6).alloc (Nat.le_refl _) _).alloc (by simp) _
      have hd7 : w7.heap[D]? = some (.cells #[.string ⟨#[112]⟩, .string ⟨#[]⟩, .slice va vl vc, .slice (some ⟨ge, 0, none⟩) 2 ec, .slice fa fl fc] 30 (0, 0)) := by
        rw [← hw7, Go.Lib.alloc_old _ _ _ (by simp; omega), ← hD]
        exact heap_alloc_new w6 _
      obtain ⟨-, -, -, d3, -, -, -, -, -, -⟩ := rowN5 hd7
      have HB7 : Hid (Below w.heap.size w w7) := HB.out.trans ((hb.trans (hb7.mono hb.size)).mono HB.out.size)
      have cA := awake_any w7 (HE.out.below HB7.out)
      have a0 := (hb7.cell (p := ⟨ge, 0, none⟩) hge).trans (hea 0 (.string ⟨#[99]⟩) rfl)
      have a1 := (hb7.cell (p := ⟨ge, 1, none⟩) hge).trans (hea 1 (.string ⟨#[]⟩) rfl)
      have a2 := (hb7.cell (p := ⟨ge, 2, none⟩) hge).trans (hea 2 (.int .u8 10) rfl)
      have a3 := (hb7.cell (p := ⟨ge, 3, none⟩) hge).trans (hea 3 (.string ⟨#[]⟩) rfl)
      have a4 := (hb7.cell (p := ⟨ge, 4, none⟩) hge).trans (hea 4 (.string ⟨#[]⟩) rfl)
      have a5 := (hb7.cell (p := ⟨ge, 5, none⟩) hge).trans (hea 5 (.string ⟨#[]⟩) rfl)
      have a6 := (hb7.cell (p := ⟨ge, 6, none⟩) hge).trans (hea 6 (.int .u8 0) rfl)
      have a7 := (hb7.cell (p := ⟨ge, 7, none⟩) hge).trans (hea 7 (.string ⟨#[]⟩) rfl)
      have a8 := (hb7.cell (p := ⟨ge, 8, none⟩) hge).trans (hea 8 (.string ⟨#[]⟩) rfl)
      have a9 := (hb7.cell (p := ⟨ge, 9, none⟩) hge).trans (hea 9 (.int .i64 0) rfl)
      have a10 := (hb7.cell (p := ⟨ge, 10, none⟩) hge).trans (hea 10 (.int .i64 0) rfl)
      have a11 := (hb7.cell (p := ⟨ge, 11, none⟩) hge).trans (hea 11 (.string ⟨#[99, 46, 97]⟩) rfl)
      have a12 := (hb7.cell (p := ⟨ge, 12, none⟩) hge).trans (hea 12 (.string ⟨#[]⟩) rfl)
      have a13 := (hb7.cell (p := ⟨ge, 13, none⟩) hge).trans (hea 13 (.int .u8 3) rfl)
      have a14 := (hb7.cell (p := ⟨ge, 14, none⟩) hge).trans (hea 14 (.string ⟨#[99]⟩) rfl)
      have a15 := (hb7.cell (p := ⟨ge, 15, none⟩) hge).trans (hea 15 (.string ⟨#[]⟩) rfl)
      have a16 := (hb7.cell (p := ⟨ge, 16, none⟩) hge).trans (hea 16 (.string ⟨#[]⟩) rfl)
      have a17 := (hb7.cell (p := ⟨ge, 17, none⟩) hge).trans (hea 17 (.int .u8 0) rfl)
      have a18 := (hb7.cell (p := ⟨ge, 18, none⟩) hge).trans (hea 18 (.string ⟨#[]⟩) rfl)
      have a19 := (hb7.cell (p := ⟨ge, 19, none⟩) hge).trans (hea 19 (.string ⟨#[]⟩) rfl)
      have a20 := (hb7.cell (p := ⟨ge, 20, none⟩) hge).trans (hea 20 (.int .i64 0) rfl)
      have a21 := (hb7.cell (p := ⟨ge, 21, none⟩) hge).trans (hea 21 (.int .i64 0) rfl)
      have e0 : ∀ Z : World, (binOp .eql 36 (.agg #[.string ⟨#[99]⟩, .string ⟨#[]⟩, .int .u8 10, .string ⟨#[]⟩, .string ⟨#[]⟩, .string ⟨#[]⟩, .int .u8 0, .string ⟨#[]⟩, .string ⟨#[]⟩, .int .i64 0, .int .i64 0]) (.agg #[.string ⟨#[99]⟩, .string ⟨#[]⟩, .int .u8 10, .string ⟨#[]⟩, .string ⟨#[]⟩, .string ⟨#[]⟩, .int .u8 0, .string ⟨#[]⟩, .string ⟨#[]⟩, .int .i64 0, .int .i64 0])).run Tryz.prog Z = .ok (.bool true) Z := fun Z => (Em.eql ⟨⟨#[99]⟩, ⟨#[]⟩, 10, ⟨#[]⟩, ⟨#[]⟩, ⟨#[]⟩, 0, ⟨#[]⟩, ⟨#[]⟩, 0, 0⟩ ⟨⟨#[99]⟩, ⟨#[]⟩, 10, ⟨#[]⟩, ⟨#[]⟩, ⟨#[]⟩, 0, ⟨#[]⟩, ⟨#[]⟩, 0, 0⟩ Z).trans (by rw [decide_eq_true rfl])
      have e1 : ∀ Z : World, (binOp .eql 36 (.agg #[.string ⟨#[99, 46, 97]⟩, .string ⟨#[]⟩, .int .u8 3, .string ⟨#[99]⟩, .string ⟨#[]⟩, .string ⟨#[]⟩, .int .u8 0, .string ⟨#[]⟩, .string ⟨#[]⟩, .int .i64 0, .int .i64 0]) (.agg #[.string ⟨#[99, 46, 97]⟩, .string ⟨#[]⟩, .int .u8 3, .string ⟨#[99]⟩, .string ⟨#[]⟩, .string ⟨#[]⟩, .int .u8 0, .string ⟨#[]⟩, .string ⟨#[]⟩, .int .i64 0, .int .i64 0])).run Tryz.prog Z = .ok (.bool true) Z := fun Z => (Em.eql ⟨⟨#[99, 46, 97]⟩, ⟨#[]⟩, 3, ⟨#[99]⟩, ⟨#[]⟩, ⟨#[]⟩, 0, ⟨#[]⟩, ⟨#[]⟩, 0, 0⟩ ⟨⟨#[99, 46, 97]⟩, ⟨#[]⟩, 3, ⟨#[99]⟩, ⟨#[]⟩, ⟨#[]⟩, 0, ⟨#[]⟩, ⟨#[]⟩, 0, 0⟩ Z).trans (by rw [decide_eq_true rfl])
      have HW7 := hid hw7
      have HDE := hid hD
      have HCA := hid cA
      clear hx hv heo hfo hb hb7 hd7 hw7 hD hea hge cA
      go_upto_region 9 with fail
      rw [HW7.out, HDE.out]
      clear HW7 HDE
      go_wp2_with fail
      refine HCA.out.mono ?_
      rintro e w8 ⟨rfl, hb⟩
      have HB8 := hid (HB7.out.trans (hb.mono HB7.out.size))
      clear hb HCA
      go_wp2_with fail
      go_ret
      exact ⟨rfl, HB8.out⟩
end Go.Proofs.YteejphiklpnjhaaGreatDoor
