/- JtextNames: the walk of the statement. -/
import Derived.Test.YtphjfighamadgaaGreatDoorJAwake
import Derived.Laws.Concat
namespace Go.Proofs.YtphjfighamadgaaGreatDoor
open Go.RowKit
open Go.Lib (hid validD)
def nameRows : List (ByteArray × Int × Int) := [(⟨#[48, 49]⟩, 1, 4), (⟨#[49, 46, 53]⟩, 1, 4), (⟨#[91, 49, 44, 93]⟩, 3, 4), (⟨#[34, 92, 117, 100, 56, 48, 48, 34]⟩, 1, 4), (⟨#[123, 34, 97, 34, 58, 49, 44, 34, 97, 34, 58, 50, 125]⟩, 7, 6), (⟨#[57, 50, 50, 51, 51, 55, 50, 48, 51, 54, 56, 53, 52, 55, 55, 53, 56, 48, 56]⟩, 0, 91), (⟨#[45, 57, 50, 50, 51, 51, 55, 50, 48, 51, 54, 56, 53, 52, 55, 55, 53, 56, 48, 57]⟩, 0, 91), (⟨#[]⟩, 0, 4), (⟨#[45, 48]⟩, 1, 4), (⟨#[45]⟩, 1, 4), (⟨#[49, 101, 51]⟩, 1, 4), (⟨#[110, 117, 108]⟩, 3, 4), (⟨#[34, 1, 34]⟩, 1, 4), (⟨#[34, 255, 34]⟩, 1, 4), (⟨#[49, 32, 50]⟩, 2, 4)]
theorem nameRows_len : nameRows.length = 15 := rfl
theorem nameRows_parse : ∀ (i : Nat) (x : ByteArray × Int × Int), nameRows[i]? = some x → (J.parse x.1.data.toList).2 = x.2 := by
  intro i x h
  match i, h with
  | 0, h => cases h; exact J.text0
  | 1, h => cases h; exact J.text1
  | 2, h => cases h; exact J.text2
  | 3, h => cases h; exact J.text3
  | 4, h => cases h; exact J.text4
  | 5, h => cases h; exact J.text5
  | 6, h => cases h; exact J.text6
  | 7, h => cases h; exact J.text7
  | 8, h => cases h; exact J.text8
  | 9, h => cases h; exact J.text9
  | 10, h => cases h; exact J.text10
  | 11, h => cases h; exact J.text11
  | 12, h => cases h; exact J.text12
  | 13, h => cases h; exact J.text13
  | 14, h => cases h; exact J.text14
  | i + 15, h => simp [nameRows] at h
def nameCells : Array Value := #[.string ⟨#[48, 49]⟩, .int .i64 1, .int .i64 4, .string ⟨#[49, 46, 53]⟩, .int .i64 1, .int .i64 4, .string ⟨#[91, 49, 44, 93]⟩, .int .i64 3, .int .i64 4, .string ⟨#[34, 92, 117, 100, 56, 48, 48, 34]⟩, .int .i64 1, .int .i64 4, .string ⟨#[123, 34, 97, 34, 58, 49, 44, 34, 97, 34, 58, 50, 125]⟩, .int .i64 7, .int .i64 6, .string ⟨#[57, 50, 50, 51, 51, 55, 50, 48, 51, 54, 56, 53, 52, 55, 55, 53, 56, 48, 56]⟩, .int .i64 0, .int .i64 91, .string ⟨#[45, 57, 50, 50, 51, 51, 55, 50, 48, 51, 54, 56, 53, 52, 55, 55, 53, 56, 48, 57]⟩, .int .i64 0, .int .i64 91, .string ⟨#[]⟩, .int .i64 0, .int .i64 4, .string ⟨#[45, 48]⟩, .int .i64 1, .int .i64 4, .string ⟨#[45]⟩, .int .i64 1, .int .i64 4, .string ⟨#[49, 101, 51]⟩, .int .i64 1, .int .i64 4, .string ⟨#[110, 117, 108]⟩, .int .i64 3, .int .i64 4, .string ⟨#[34, 1, 34]⟩, .int .i64 1, .int .i64 4, .string ⟨#[34, 255, 34]⟩, .int .i64 1, .int .i64 4, .string ⟨#[49, 32, 50]⟩, .int .i64 2, .int .i64 4]
theorem nameRows_cells : ∀ (i : Nat) (x : ByteArray × Int × Int), nameRows[i]? = some x → nameCells[i * 3]? = some (.string x.1) ∧ nameCells[i * 3 + 1]? = some (.int .i64 x.2.1) ∧ nameCells[i * 3 + 2]? = some (.int .i64 x.2.2) := by
  intro i x h
  match i, h with
  | 0, h => cases h; exact ⟨rfl, rfl, rfl⟩
  | 1, h => cases h; exact ⟨rfl, rfl, rfl⟩
  | 2, h => cases h; exact ⟨rfl, rfl, rfl⟩
  | 3, h => cases h; exact ⟨rfl, rfl, rfl⟩
  | 4, h => cases h; exact ⟨rfl, rfl, rfl⟩
  | 5, h => cases h; exact ⟨rfl, rfl, rfl⟩
  | 6, h => cases h; exact ⟨rfl, rfl, rfl⟩
  | 7, h => cases h; exact ⟨rfl, rfl, rfl⟩
  | 8, h => cases h; exact ⟨rfl, rfl, rfl⟩
  | 9, h => cases h; exact ⟨rfl, rfl, rfl⟩
  | 10, h => cases h; exact ⟨rfl, rfl, rfl⟩
  | 11, h => cases h; exact ⟨rfl, rfl, rfl⟩
  | 12, h => cases h; exact ⟨rfl, rfl, rfl⟩
  | 13, h => cases h; exact ⟨rfl, rfl, rfl⟩
  | 14, h => cases h; exact ⟨rfl, rfl, rfl⟩
  | i + 15, h => simp [nameRows] at h
namespace J
theorem low_parts {v : V} (h : v.loose ⟨3, false, -9223372036854775808, ⟨#[]⟩, .nil, []⟩) : v = ⟨3, false, -9223372036854775808, ⟨#[]⟩, .nil, []⟩ := by
  obtain ⟨k, b, n, s, l, ns⟩ := v
  obtain ⟨h1, h2, h3, h4, h5, h6⟩ := h
  simp only at h1 h2 h3 h4 h5 h6
  subst h1 h2 h3 h4 h5
  rcases h6 with h6 | ⟨h, _⟩
  · rw [loose_nil h6]
  · exact absurd h (by decide)
theorem argV_small : argV.small := ⟨by decide, by decide, trivial⟩
theorem argV_brief : argV.brief := by simp [argV, V.brief, T.brief]; decide
theorem argV_num : argV.num := by simp [argV, V.num, T.num]
theorem strV_small : strV.small := ⟨by decide, by decide, trivial⟩
theorem strV_brief : strV.brief := by simp [strV, V.brief, T.brief]; decide
theorem strV_num : strV.num := by simp [strV, V.num, T.num]
end J
set_option maxRecDepth 100000 in
set_option maxHeartbeats 4000000 in
theorem names_walk (w : World) (hE : EnvJ w) : Calls Tryz.prog 4 #[] w fun e w' => e = .returned (.bool true) ∧ Below w.heap.size w w' := by
  have HE := hid hE
  clear hE
  go_enter Tryz.func4, Tryz.ntmps4
  go_upto_region 2 with fail
  obtain ⟨w1, hw1⟩ : ∃ w1, w.alloc (.cells nameCells 33) = w1 := ⟨_, rfl⟩
  have hb1 : Below w.heap.size w w1 := by rw [← hw1]; exact (Below.refl _ w).alloc (Nat.le_refl _) _
  obtain ⟨X, hX⟩ : ∃ X, w.heap.size = X := ⟨_, rfl⟩
  have HR1 : Hid (w1.heap[X]? = some (.cells nameCells 33 (0, 0)) ∧ Below w.heap.size w w1) := ⟨by rw [← hw1, ← hX]; exact heap_alloc_new w _, hb1⟩
  rw [show w.alloc (.cells #[.string ⟨#[48, 49]⟩, .int .i64 1, .int .i64 4, .string ⟨#[49, 46, 53]⟩, .int .i64 1, .int .i64 4, .string ⟨#[91, 49, 44, 93]⟩, .int .i64 3, .int .i64 4, .string ⟨#[34, 92, 117, 100, 56, 48, 48, 34]⟩, .int .i64 1, .int .i64 4, .string ⟨#[123, 34, 97, 34, 58, 49, 44, 34, 97, 34, 58, 50, 125]⟩, .int .i64 7, .int .i64 6, .string ⟨#[57, 50, 50, 51, 51, 55, 50, 48, 51, 54, 56, 53, 52, 55, 55, 53, 56, 48, 56]⟩, .int .i64 0, .int .i64 91, .string ⟨#[45, 57, 50, 50, 51, 51, 55, 50, 48, 51, 54, 56, 53, 52, 55, 55, 53, 56, 48, 57]⟩, .int .i64 0, .int .i64 91, .string ⟨#[]⟩, .int .i64 0, .int .i64 4, .string ⟨#[45, 48]⟩, .int .i64 1, .int .i64 4, .string ⟨#[45]⟩, .int .i64 1, .int .i64 4, .string ⟨#[49, 101, 51]⟩, .int .i64 1, .int .i64 4, .string ⟨#[110, 117, 108]⟩, .int .i64 3, .int .i64 4, .string ⟨#[34, 1, 34]⟩, .int .i64 1, .int .i64 4, .string ⟨#[34, 255, 34]⟩, .int .i64 1, .int .i64 4, .string ⟨#[49, 32, 50]⟩, .int .i64 2, .int .i64 4] 33) = w1 from hw1]
  rw [hX]
  clear hw1 hb1 hX
  go_loopw [35] (fun vi wr => ∃ (i : Nat), i ≤ 15 ∧ vi = .int .i64 i ∧ Hid (wr.heap[X]? = some (.cells nameCells 33 (0, 0)) ∧ Below w.heap.size w wr)) (fun vi _ => 15 - (intOf vi).toNat)
  case atStart => exact ⟨0, by omega, rfl, HR1⟩
  case round =>
    obtain ⟨i, hi, rfl, HI⟩ := hrel
    clear HR1
    by_cases hlt : i < 15
    · have d0 : decide ((i : Int) < 15) = true := decide_eq_true (by omega)
      have d1 : decide (i < 15) = true := decide_eq_true (by omega)
      have hi0 : (0 : Int) ≤ (i : Int) := by omega
      have hi1 : (i : Int) < 15 := by omega
      obtain ⟨x, hx⟩ : ∃ x, nameRows[i]? = some x := ⟨_, List.getElem?_eq_getElem (by rw [nameRows_len]; omega)⟩
      have hp := nameRows_parse i x hx
      obtain ⟨h0, h1, h2⟩ := nameRows_cells i x hx
      obtain ⟨s, pat, er⟩ := x
      simp only at hp h0 h1 h2
      have c0 : wr.cell? ⟨X, i * 3, none⟩ = some (.string s) := by rw [Lib.cell_of_heap HI.out.1]; exact h0
      have c1 : wr.cell? ⟨X, i * 3 + 1, none⟩ = some (.int .i64 pat) := by rw [Lib.cell_of_heap HI.out.1]; exact h1
      have c2 : wr.cell? ⟨X, i * 3 + 2, none⟩ = some (.int .i64 er) := by rw [Lib.cell_of_heap HI.out.1]; exact h2
      have HPP := hid hp
      clear hx hp h0 h1 h2
      go_upto_region 4 with fail
      obtain ⟨w5, hw5⟩ : ∃ w5, wr.alloc (.cells #[.string s, .int .i64 pat, .int .i64 er] 33) = w5 := ⟨_, rfl⟩
      obtain ⟨Y, hY⟩ : ∃ Y, wr.heap.size = Y := ⟨_, rfl⟩
      have hb5 : Below wr.heap.size wr w5 := by rw [← hw5]; exact (Below.refl _ wr).alloc (Nat.le_refl _) _
      have HY5 : Hid (w5.heap[Y]? = some (.cells #[.string s, .int .i64 pat, .int .i64 er] 33 (0, 0))) := by show _ = _; rw [← hw5, ← hY]; exact heap_alloc_new wr _
      have HX5 := hid ((hb5.block X (Go.lt_of_block HI.out.1)).trans HI.out.1)
      have HB5 := hid (HI.out.2.trans (hb5.mono HI.out.2.size))
      rw [hw5, hY]
      clear hw5 hY hb5 c0 c1 c2
      have y0 : w5.cell? ⟨Y, 0, none⟩ = some (.string s) := by rw [Lib.cell_of_heap HY5.out]; rfl
      have hE5 := HE.out.under HB5.out
      have cA := parse_any s w5 hE5.1 hE5.2.1
      clear hE5
      go_wp2_with fail
      refine cA.mono ?_
      rintro e w6 ⟨v, cs, -, rfl, hh, hb⟩
      rw [HPP.out]
      obtain ⟨k2, b2, n2, s2, a1, l2, e1, a2, m2, e2, rfl⟩ := Shape.of hh
      have HY6 := hid ((hb.block Y (Go.lt_of_block HY5.out)).trans HY5.out)
      have HX6 := hid ((hb.block X (Go.lt_of_block HX5.out)).trans HX5.out)
      have HB6 := hid (HB5.out.trans (hb.mono HB5.out.size))
      clear hb hh cA y0 HY5 HX5
      go_upto_region 5 with fail
      obtain ⟨w7, hw7⟩ : ∃ w7, w6.alloc (.cells #[.int .u8 k2, .bool b2, .int .i64 n2, .string s2, .slice a1 l2 e1, .slice a2 m2 e2] 25) = w7 := ⟨_, rfl⟩
      have hb7 : Below w6.heap.size w6 w7 := by rw [← hw7]; exact (Below.refl _ w6).alloc (Nat.le_refl _) _
      have HX7 := hid ((hb7.block X (Go.lt_of_block HX6.out)).trans HX6.out)
      have HB7 := hid (HB6.out.trans (hb7.mono HB6.out.size))
      have hy7 := (hb7.block Y (Go.lt_of_block HY6.out)).trans HY6.out
      have y1 : w7.cell? ⟨Y, 1, none⟩ = some (.int .i64 pat) := by rw [Lib.cell_of_heap hy7]; rfl
      have y2 : w7.cell? ⟨Y, 2, none⟩ = some (.int .i64 er) := by rw [Lib.cell_of_heap hy7]; rfl
      rw [hw7]
      clear hw7 hb7 hy7
      have q1 : (pat != pat) = false := by simp
      have q2 : (er != er) = false := by simp
      go_wp2_with fail
      go_roundw
      case rel => exact ⟨i + 1, by omega, by go_num, hid ⟨HX7.out, HB7.out⟩⟩
      case measure => simp [intOf]; omega
    · have d0 : decide ((i : Int) < 15) = false := decide_eq_false (by omega)
      have d1 : decide (i < 15) = false := decide_eq_false (by omega)
      have HB := hid HI.out.2
      clear hlt HI hi
      go_upto_region 10 with fail
      go_loopw [6, 7] (fun vd vj wx => ∃ (j : Nat) (D : ByteArray), j ≤ 16 ∧ vd = .string D ∧ vj = .int .i64 j ∧ Hid (D = ⟨(List.replicate j 91).toArray⟩) ∧ Hid (Below w.heap.size w wx)) (fun _ vj _ => 16 - (intOf vj).toNat)
      case atStart => exact ⟨0, ⟨#[]⟩, by omega, rfl, rfl, hid rfl, HB⟩
      case round =>
        obtain ⟨j, D, hj, rfl, rfl, HD, HB⟩ := hrel
        have hcat : ∀ Z : World, (Op.stringOp .add D (⟨#[91]⟩ : ByteArray)).run Tryz.prog Z = .ok (.string ⟨(List.replicate (j + 1) 91).toArray⟩) Z := fun Z => by
          rw [HD.out, List.replicate_succ']
          exact run_string_add_lists (P := Tryz.prog) Z (List.replicate j 91) [91] (by rw [List.length_replicate]; omega) (by decide)
        obtain ⟨D2, hD2⟩ : ∃ D2 : ByteArray, ⟨(List.replicate (j + 1) 91).toArray⟩ = D2 := ⟨_, rfl⟩
        rw [hD2] at hcat
        have HD2 := hid hD2.symm
        clear hD2 HD
        by_cases hlt : j < 16
        · have d0 : decide ((j : Int) < 16) = true := decide_eq_true (by omega)
          have d1 : decide (j < 16) = true := decide_eq_true (by omega)
          go_wp2_with fail
          go_roundw
          case rel => exact ⟨j + 1, D2, by omega, rfl, by go_num, HD2, HB⟩
          case measure => simp [intOf]; omega
        · have d0 : decide ((j : Int) < 16) = false := decide_eq_false (by omega)
          have d1 : decide (j < 16) = false := decide_eq_false (by omega)
          have hp : Hid ((J.parse D2.data.toList).2 = (16, 84)) := by
            show _ = _
            rw [HD2.out, show j = 16 by omega]
            exact J.text_deep
          have cA := parse_any D2 _ (HE.out.under HB.out).1 (HE.out.under HB.out).2.1
          clear hlt hj HD2
          go_wp2_with fail
          refine cA.mono ?_
          rintro e w6 ⟨v, cs, -, rfl, hh, hb⟩
          rw [hp.out]
          obtain ⟨k2, b2, n2, s2, a1, l2, e1, a2, m2, e2, rfl⟩ := Shape.of hh
          have HB6 := hid (HB.out.trans (hb.mono HB.out.size))
          clear hb hh cA HB hp
          go_upto_region 14 with fail
          obtain ⟨w7, hw7⟩ : ∃ w7, w6.alloc (.cells #[.int .u8 k2, .bool b2, .int .i64 n2, .string s2, .slice a1 l2 e1, .slice a2 m2 e2] 25) = w7 := ⟨_, rfl⟩
          have hb7 : Below w6.heap.size w6 w7 := by rw [← hw7]; exact (Below.refl _ w6).alloc (Nat.le_refl _) _
          have HB7 := hid (HB6.out.trans (hb7.mono HB6.out.size))
          rw [hw7]
          clear hw7 hb7
          have cA := parse_any ⟨#[45, 57, 50, 50, 51, 51, 55, 50, 48, 51, 54, 56, 53, 52, 55, 55, 53, 56, 48, 56]⟩ w7 (HE.out.under HB7.out).1 (HE.out.under HB7.out).2.1
          go_wp2_with fail
          refine cA.mono ?_
          rintro e w8 ⟨v, cs, hlo, rfl, hh, hb⟩
          rw [J.text_low] at hlo ⊢
          have HB8 := hid (HB7.out.trans (hb.mono HB7.out.size))
          rw [J.low_parts hlo] at hh
          obtain ⟨lv, nv, rfl, hl, hn⟩ := hh
          simp only at hl hn
          obtain ⟨la, lc, rfl⟩ := J.T.In.shape hl
          obtain ⟨na, nc, rfl⟩ := J.SIn.shape hn
          clear hb cA hl hn hlo
          go_upto_region 15 with fail
          have e5 : J.T.nil.length = 0 := rfl
          have e6 : ([] : List ByteArray).length = 0 := rfl
          simp only [e5]
          obtain ⟨w9, hw9⟩ : ∃ w9, w8.alloc (.cells #[.int .u8 3, .bool false, .int .i64 (-9223372036854775808), .string ⟨#[]⟩, .slice la 0 lc, .slice na 0 nc] 25) = w9 := ⟨_, rfl⟩
          have hb9 : Below w8.heap.size w8 w9 := by rw [← hw9]; exact (Below.refl _ w8).alloc (Nat.le_refl _) _
          have HZ9 : Hid (w9.heap[w8.heap.size]? = some (.cells #[.int .u8 3, .bool false, .int .i64 (-9223372036854775808), .string ⟨#[]⟩, .slice la 0 lc, .slice na 0 nc] 25 (0, 0))) := by show _ = _; rw [← hw9]; exact heap_alloc_new w8 _
          have HB9 := hid (HB8.out.trans (hb9.mono HB8.out.size))
          rw [hw9]
          obtain ⟨Z, hZ⟩ : ∃ Z, w8.heap.size = Z := ⟨_, rfl⟩
          rw [hZ] at HZ9 ⊢
          clear hw9 hb9 hZ e5 e6
          have cP := print_any J.argV J.argV_small J.argV_brief (by decide) J.argV_num (by decide +kernel) w9 (fun _ => False) _ (HE.out.under HB9.out).2.1 (HE.out.under HB9.out).2.2.1 (HE.out.under HB9.out).2.2.2 (has_flat w9 _ 3 false 0 ⟨#[120]⟩) (fun _ h => h.elim)
          go_wp2_with fail
          refine cP.mono ?_
          rintro e w10 ⟨rfl, hb⟩
          rw [J.print_arg]
          obtain ⟨PA, hPA⟩ : ∃ s : ByteArray, (⟨J.argV.print.1.toArray⟩ : ByteArray) = s := ⟨_, rfl⟩
          rw [hPA]
          have HZ10 := hid ((hb.block Z (Go.lt_of_block HZ9.out)).trans HZ9.out)
          have HB10 := hid (HB9.out.trans (hb.mono HB9.out.size))
          clear hb cP HZ9 hPA
          go_wp2_with fail
          refine (str_any ⟨#[97, 10, 1, 127]⟩ w10).mono ?_
          rintro e w11 ⟨rfl, hb⟩
          have HZ11 := hid ((hb.block Z (Go.lt_of_block HZ10.out)).trans HZ10.out)
          have HB11 := hid (HB10.out.trans (hb.mono HB10.out.size))
          clear hb HZ10
          have cP := print_any J.strV J.strV_small J.strV_brief (by decide) J.strV_num (by decide +kernel) w11 (fun _ => False) _ (HE.out.under HB11.out).2.1 (HE.out.under HB11.out).2.2.1 (HE.out.under HB11.out).2.2.2 (has_flat w11 _ 4 false 0 ⟨#[97, 10, 1, 127]⟩) (fun _ h => h.elim)
          go_wp2_with fail
          refine cP.mono ?_
          rintro e w12 ⟨rfl, hb⟩
          rw [J.print_str]
          have HB12 := hid (HB11.out.trans (hb.mono HB11.out.size))
          have hz12 := (hb.block Z (Go.lt_of_block HZ11.out)).trans HZ11.out
          obtain ⟨z0, z1, z2, z3, z4, z5⟩ := x6_of hz12
          clear hb cP HZ11 hz12 z0 z1 z3 z4 z5
          have cW := awake_any w12 (HE.out.under HB12.out)
          go_wp2_with fail
          refine cW.mono ?_
          rintro e w13 ⟨rfl, hb⟩
          have HB13 := hid (HB12.out.trans (hb.mono HB12.out.size))
          clear hb cW
          go_wp2_with fail
          go_ret
          exact ⟨rfl, HB13.out⟩
end Go.Proofs.YtphjfighamadgaaGreatDoor
