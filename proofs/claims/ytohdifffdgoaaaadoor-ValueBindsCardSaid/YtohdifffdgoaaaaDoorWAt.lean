/- The walks of the functions that say what begins at a place. (The four classes of a first byte: written by mkat.py.) -/
import Derived.Test.YtohdifffdgoaaaaDoorWChar
import Derived.Lib.Strings
namespace Go.Proofs.YtohdifffdgoaaaaDoor
open Go.RowKit
open Go.Lib (hid)

/-- three results: two numbers and a bool -/
def ret3 (p : Int × Int × Bool) : Ending := .returned (.tuple #[.int .i64 p.1, .int .i64 p.2.1, .bool p.2.2])
theorem ret3_eq {a b : Int} {c : Bool} {p : Int × Int × Bool} (h : p = (a, b, c)) : Ending.returned (.tuple #[.int .i64 a, .int .i64 b, .bool c]) = ret3 p := by rw [h]; rfl

namespace W
theorem getD_drop (s : ByteArray) (n k : Nat) (h : n + k < s.size) : ((s.data.toList.drop n).getD k 0).toNat = s[n + k].toNat := by
  congr 1
  rw [List.getD_eq_getElem?_getD, List.getElem?_drop]
  have h' : n + k < s.data.toList.length := by simpa using h
  rw [List.getElem?_eq_getElem h']
  rfl
theorem extract_eq (s : ByteArray) (n k : Nat) : s.extract n (n + k) = ⟨((s.data.toList.drop n).take k).toArray⟩ := by
  have := ByteArray.extract_mk s.data.toList n (n + k)
  rw [show (⟨s.data.toList.toArray⟩ : ByteArray) = s from rfl, show n + k - n = k by omega] at this
  exact this
theorem list_beq (l m : List UInt8) : (l == m) = decide (l = m) := by
  by_cases h : l = m
  · subst h; simp
  · rw [decide_eq_false h, beq_eq_false_iff_ne]; exact h
theorem refD_short (l : List UInt8) (w : Nat) (hw : refW (l.getD 0 0).toNat = w) (h : l.length < w) : refD l = (0, 0, false) := by
  unfold refD; simp only [hw]; rw [if_pos h]
theorem refD_good (l : List UInt8) (w : Nat) (hw : refW (l.getD 0 0).toNat = w) (h : ¬ l.length < w) (h1 : charOk (refC l (w - 1)) = true) (h2 : charL (refC l (w - 1)) = l.take w) : refD l = (refC l (w - 1), (w : Int), true) := by
  unfold refD; simp only [hw]; rw [if_neg h, if_pos (by simp [h1, h2])]
theorem refD_bad (l : List UInt8) (w : Nat) (hw : refW (l.getD 0 0).toNat = w) (h : ¬ l.length < w) (h1 : ¬ (charOk (refC l (w - 1)) = true ∧ charL (refC l (w - 1)) = l.take w)) : refD l = (0, 0, false) := by
  unfold refD; simp only [hw]; rw [if_neg h, if_neg (by simpa using h1)]
end W
theorem slice_at (s : ByteArray) (n k : Nat) (h : n + k ≤ s.size) (W : World) : (Instr.slice 9 (.string s) (some (.int .i64 (n : Int))) (some (.int .i64 ((n : Int) + (k : Int)))) none).run Tryd.prog W = .ok (.string (s.extract n (n + k))) W := by
  have := run_slice_string (P := Tryd.prog) W 9 s .i64 .i64 (n : Int) ((n : Int) + (k : Int)) Tryd.underlying9 (by omega) (by omega) (by omega)
  rw [show ((n : Int) + (k : Int)).toNat = n + k by omega, Int.toNat_natCast] at this
  exact this

set_option maxRecDepth 100000 in
set_option maxHeartbeats 2000000 in
theorem refAt_4 (s : ByteArray) (n : Nat) (w : World) (hs : s.size ≤ 9223372036854775803) (hn : n < s.size) (ha : 240 ≤ s[n].toNat) :
    Calls Tryd.prog 91 #[.string s, .int .i64 n] w fun e w' => e = ret3 (W.refD (s.data.toList.drop n)) ∧ Below w.heap.size w w' := by
  obtain ⟨l, hl⟩ : ∃ l, s.data.toList.drop n = l := ⟨_, rfl⟩
  rw [hl]
  have hg : ∀ k, (h : n + k < s.size) → (l.getD k 0).toNat = s[n + k].toNat := fun k h => by rw [← hl]; exact W.getD_drop s n k h
  have hlen : l.length = s.size - n := by rw [← hl]; simp
  have hb2 : s[n].toNat < 256 := s[n].toNat_lt
  have h00 : (l.getD 0 0).toNat = s[n].toNat := hg 0 (by omega)
  have hw : W.refW (l.getD 0 0).toNat = 4 := by rw [h00]; unfold W.refW; rw [if_pos (by omega)]
  have hv : W.refC l 0 = (s[n].toNat : Int) - 240 := by show W.refV (l.getD 0 0).toNat = _; rw [h00]; unfold W.refV; rw [if_pos (by omega)]
  have t0 : decide ((n : Int) < 0) = false := by simp
  have t1 : decide ((s.size : Int) ≤ (n : Int)) = false := by simp; omega
  have q0 : decide ((240 : Int) ≤ (s[n].toNat : Int)) = true := by simp; omega
  by_cases hN : n + 4 ≤ s.size
  · have t2 : decide ((s.size : Int) < (n : Int) + 4) = false := by simp; omega
    have HV := hid hv
    have HW := hid hw
    have HL := hid hlen
    have HS := hid (W.extract_eq s n 4)
    have hsl : ∀ W : World, (Instr.slice 9 (.string s) (some (.int .i64 (n : Int))) (some (.int .i64 ((n : Int) + 4))) none).run Tryd.prog W = .ok (.string (s.extract n (n + 4))) W := slice_at s n 4 hN
    have hlt : ¬ l.length < 4 := by omega
    have HX : Hid (¬ l.length < 4) := hlt
    have HT := hid hl
    clear hv hw hlen h00 hlt hl
    go_enter Tryd.func91, Tryd.ntmps91
    go_wp2_with fail
    go_loop [8, 9] (fun c k => ∃ j : Nat, j < 4 ∧ k = .int .i64 ((j : Int) + 1) ∧ c = .int .i64 (W.refC l j)) (fun _ k => 5 - (intOf k).toNat)
    case atStart => exact ⟨0, by omega, rfl, by rw [HV.out]⟩
    case round =>
      obtain ⟨j, hj, rfl, rfl⟩ := hrel
      obtain ⟨hB1, hB2⟩ := W.refC_bound l j (by omega)
      by_cases hlt : j + 1 < 4
      · have hx := hid (hg (j + 1) (by omega))
        have hj1 : (0 : Int) ≤ (n : Int) + ((j : Int) + 1) ∧ (n : Int) + ((j : Int) + 1) < (s.size : Int) := by omega
        have hy : s[n + (j + 1)].toNat < 256 := s[n + (j + 1)].toNat_lt
        go_wp2_with fail
        go_round
        case rel => exact ⟨j + 1, by omega, by go_num, by rw [W.refC, hx.out]⟩
        case measure => simp [intOf]; omega
      · obtain rfl : j = 3 := by omega
        clear hlt
        obtain ⟨ok, hok⟩ : ∃ ok, W.charOk (W.refC l 3) = ok := ⟨_, rfl⟩
        have HO := hid hok
        cases ok
        · have hR := hid (W.refD_bad l 4 HW.out HX.out (by show ¬ (W.charOk (W.refC l 3) = true ∧ _); rw [hok]; rintro ⟨h, _⟩; cases h))
          go_wp2_with (go_at_call 105; refine (refChar_any _ _).mono ?_; rintro e w' ⟨rfl, hb1⟩)
          go_ret3
          exact ⟨ret3_eq hR.out, hb1⟩
        · obtain ⟨q, hq⟩ : ∃ q, decide (W.charL (W.refC l 3) = l.take 4) = q := ⟨_, rfl⟩
          have hne : (W.charL (W.refC l 3) == (s.extract n (n + 4)).toList) = q := by rw [Lib.toList_data, HS.out, HT.out, W.list_beq]; exact hq
          have HQ := hid hq
          clear hq
          cases q
          · have hR := hid (W.refD_bad l 4 HW.out HX.out (by show ¬ (_ ∧ W.charL (W.refC l 3) = l.take 4); rintro ⟨_, h⟩; exact absurd h (of_decide_eq_false HQ.out)))
            go_wp2_with (go_at_call 105; refine (refChar_any _ _).mono ?_; rintro e w' ⟨rfl, hb1⟩)
            go_ret3
            exact ⟨ret3_eq hR.out, hb1⟩
          · have hR := hid (W.refD_good l 4 HW.out HX.out HO.out (of_decide_eq_true HQ.out))
            go_wp2_with (go_at_call 105; refine (refChar_any _ _).mono ?_; rintro e w' ⟨rfl, hb1⟩)
            go_ret3
            exact ⟨ret3_eq hR.out, hb1⟩
  · have t2 : decide ((s.size : Int) < (n : Int) + 4) = true := by simp; omega
    have hR := hid (W.refD_short l 4 hw (by omega))
    clear hl hg hlen h00 hw hv
    go_enter Tryd.func91, Tryd.ntmps91
    go_wp2_with fail
    go_ret3
    exact ⟨ret3_eq hR.out, Below.refl _ _⟩

set_option maxRecDepth 100000 in
set_option maxHeartbeats 2000000 in
theorem refAt_3 (s : ByteArray) (n : Nat) (w : World) (hs : s.size ≤ 9223372036854775803) (hn : n < s.size) (ha : 224 ≤ s[n].toNat) (hz : s[n].toNat < 240) :
    Calls Tryd.prog 91 #[.string s, .int .i64 n] w fun e w' => e = ret3 (W.refD (s.data.toList.drop n)) ∧ Below w.heap.size w w' := by
  obtain ⟨l, hl⟩ : ∃ l, s.data.toList.drop n = l := ⟨_, rfl⟩
  rw [hl]
  have hg : ∀ k, (h : n + k < s.size) → (l.getD k 0).toNat = s[n + k].toNat := fun k h => by rw [← hl]; exact W.getD_drop s n k h
  have hlen : l.length = s.size - n := by rw [← hl]; simp
  have hb2 : s[n].toNat < 256 := s[n].toNat_lt
  have h00 : (l.getD 0 0).toNat = s[n].toNat := hg 0 (by omega)
  have hw : W.refW (l.getD 0 0).toNat = 3 := by rw [h00]; unfold W.refW; rw [if_neg (by omega)]; rw [if_pos (by omega)]
  have hv : W.refC l 0 = (s[n].toNat : Int) - 224 := by show W.refV (l.getD 0 0).toNat = _; rw [h00]; unfold W.refV; rw [if_neg (by omega)]; rw [if_pos (by omega)]
  have t0 : decide ((n : Int) < 0) = false := by simp
  have t1 : decide ((s.size : Int) ≤ (n : Int)) = false := by simp; omega
  have q0 : decide ((240 : Int) ≤ (s[n].toNat : Int)) = false := by simp; omega
  have q1 : decide ((224 : Int) ≤ (s[n].toNat : Int)) = true := by simp; omega
  by_cases hN : n + 3 ≤ s.size
  · have t2 : decide ((s.size : Int) < (n : Int) + 3) = false := by simp; omega
    have HV := hid hv
    have HW := hid hw
    have HL := hid hlen
    have HS := hid (W.extract_eq s n 3)
    have hsl : ∀ W : World, (Instr.slice 9 (.string s) (some (.int .i64 (n : Int))) (some (.int .i64 ((n : Int) + 3))) none).run Tryd.prog W = .ok (.string (s.extract n (n + 3))) W := slice_at s n 3 hN
    have hlt : ¬ l.length < 3 := by omega
    have HX : Hid (¬ l.length < 3) := hlt
    have HT := hid hl
    clear hv hw hlen h00 hlt hl
    go_enter Tryd.func91, Tryd.ntmps91
    go_wp2_with fail
    go_loop [8, 9] (fun c k => ∃ j : Nat, j < 3 ∧ k = .int .i64 ((j : Int) + 1) ∧ c = .int .i64 (W.refC l j)) (fun _ k => 5 - (intOf k).toNat)
    case atStart => exact ⟨0, by omega, rfl, by rw [HV.out]⟩
    case round =>
      obtain ⟨j, hj, rfl, rfl⟩ := hrel
      obtain ⟨hB1, hB2⟩ := W.refC_bound l j (by omega)
      by_cases hlt : j + 1 < 3
      · have hx := hid (hg (j + 1) (by omega))
        have hj1 : (0 : Int) ≤ (n : Int) + ((j : Int) + 1) ∧ (n : Int) + ((j : Int) + 1) < (s.size : Int) := by omega
        have hy : s[n + (j + 1)].toNat < 256 := s[n + (j + 1)].toNat_lt
        go_wp2_with fail
        go_round
        case rel => exact ⟨j + 1, by omega, by go_num, by rw [W.refC, hx.out]⟩
        case measure => simp [intOf]; omega
      · obtain rfl : j = 2 := by omega
        clear hlt
        obtain ⟨ok, hok⟩ : ∃ ok, W.charOk (W.refC l 2) = ok := ⟨_, rfl⟩
        have HO := hid hok
        cases ok
        · have hR := hid (W.refD_bad l 3 HW.out HX.out (by show ¬ (W.charOk (W.refC l 2) = true ∧ _); rw [hok]; rintro ⟨h, _⟩; cases h))
          go_wp2_with (go_at_call 105; refine (refChar_any _ _).mono ?_; rintro e w' ⟨rfl, hb1⟩)
          go_ret3
          exact ⟨ret3_eq hR.out, hb1⟩
        · obtain ⟨q, hq⟩ : ∃ q, decide (W.charL (W.refC l 2) = l.take 3) = q := ⟨_, rfl⟩
          have hne : (W.charL (W.refC l 2) == (s.extract n (n + 3)).toList) = q := by rw [Lib.toList_data, HS.out, HT.out, W.list_beq]; exact hq
          have HQ := hid hq
          clear hq
          cases q
          · have hR := hid (W.refD_bad l 3 HW.out HX.out (by show ¬ (_ ∧ W.charL (W.refC l 2) = l.take 3); rintro ⟨_, h⟩; exact absurd h (of_decide_eq_false HQ.out)))
            go_wp2_with (go_at_call 105; refine (refChar_any _ _).mono ?_; rintro e w' ⟨rfl, hb1⟩)
            go_ret3
            exact ⟨ret3_eq hR.out, hb1⟩
          · have hR := hid (W.refD_good l 3 HW.out HX.out HO.out (of_decide_eq_true HQ.out))
            go_wp2_with (go_at_call 105; refine (refChar_any _ _).mono ?_; rintro e w' ⟨rfl, hb1⟩)
            go_ret3
            exact ⟨ret3_eq hR.out, hb1⟩
  · have t2 : decide ((s.size : Int) < (n : Int) + 3) = true := by simp; omega
    have hR := hid (W.refD_short l 3 hw (by omega))
    clear hl hg hlen h00 hw hv
    go_enter Tryd.func91, Tryd.ntmps91
    go_wp2_with fail
    go_ret3
    exact ⟨ret3_eq hR.out, Below.refl _ _⟩

set_option maxRecDepth 100000 in
set_option maxHeartbeats 2000000 in
theorem refAt_2 (s : ByteArray) (n : Nat) (w : World) (hs : s.size ≤ 9223372036854775803) (hn : n < s.size) (ha : 192 ≤ s[n].toNat) (hz : s[n].toNat < 224) :
    Calls Tryd.prog 91 #[.string s, .int .i64 n] w fun e w' => e = ret3 (W.refD (s.data.toList.drop n)) ∧ Below w.heap.size w w' := by
  obtain ⟨l, hl⟩ : ∃ l, s.data.toList.drop n = l := ⟨_, rfl⟩
  rw [hl]
  have hg : ∀ k, (h : n + k < s.size) → (l.getD k 0).toNat = s[n + k].toNat := fun k h => by rw [← hl]; exact W.getD_drop s n k h
  have hlen : l.length = s.size - n := by rw [← hl]; simp
  have hb2 : s[n].toNat < 256 := s[n].toNat_lt
  have h00 : (l.getD 0 0).toNat = s[n].toNat := hg 0 (by omega)
  have hw : W.refW (l.getD 0 0).toNat = 2 := by rw [h00]; unfold W.refW; rw [if_neg (by omega)]; rw [if_neg (by omega)]; rw [if_pos (by omega)]
  have hv : W.refC l 0 = (s[n].toNat : Int) - 192 := by show W.refV (l.getD 0 0).toNat = _; rw [h00]; unfold W.refV; rw [if_neg (by omega)]; rw [if_neg (by omega)]; rw [if_pos (by omega)]
  have t0 : decide ((n : Int) < 0) = false := by simp
  have t1 : decide ((s.size : Int) ≤ (n : Int)) = false := by simp; omega
  have q0 : decide ((240 : Int) ≤ (s[n].toNat : Int)) = false := by simp; omega
  have q1 : decide ((224 : Int) ≤ (s[n].toNat : Int)) = false := by simp; omega
  have q2 : decide ((192 : Int) ≤ (s[n].toNat : Int)) = true := by simp; omega
  by_cases hN : n + 2 ≤ s.size
  · have t2 : decide ((s.size : Int) < (n : Int) + 2) = false := by simp; omega
    have HV := hid hv
    have HW := hid hw
    have HL := hid hlen
    have HS := hid (W.extract_eq s n 2)
    have hsl : ∀ W : World, (Instr.slice 9 (.string s) (some (.int .i64 (n : Int))) (some (.int .i64 ((n : Int) + 2))) none).run Tryd.prog W = .ok (.string (s.extract n (n + 2))) W := slice_at s n 2 hN
    have hlt : ¬ l.length < 2 := by omega
    have HX : Hid (¬ l.length < 2) := hlt
    have HT := hid hl
    clear hv hw hlen h00 hlt hl
    go_enter Tryd.func91, Tryd.ntmps91
    go_wp2_with fail
    go_loop [8, 9] (fun c k => ∃ j : Nat, j < 2 ∧ k = .int .i64 ((j : Int) + 1) ∧ c = .int .i64 (W.refC l j)) (fun _ k => 5 - (intOf k).toNat)
    case atStart => exact ⟨0, by omega, rfl, by rw [HV.out]⟩
    case round =>
      obtain ⟨j, hj, rfl, rfl⟩ := hrel
      obtain ⟨hB1, hB2⟩ := W.refC_bound l j (by omega)
      by_cases hlt : j + 1 < 2
      · have hx := hid (hg (j + 1) (by omega))
        have hj1 : (0 : Int) ≤ (n : Int) + ((j : Int) + 1) ∧ (n : Int) + ((j : Int) + 1) < (s.size : Int) := by omega
        have hy : s[n + (j + 1)].toNat < 256 := s[n + (j + 1)].toNat_lt
        go_wp2_with fail
        go_round
        case rel => exact ⟨j + 1, by omega, by go_num, by rw [W.refC, hx.out]⟩
        case measure => simp [intOf]; omega
      · obtain rfl : j = 1 := by omega
        clear hlt
        obtain ⟨ok, hok⟩ : ∃ ok, W.charOk (W.refC l 1) = ok := ⟨_, rfl⟩
        have HO := hid hok
        cases ok
        · have hR := hid (W.refD_bad l 2 HW.out HX.out (by show ¬ (W.charOk (W.refC l 1) = true ∧ _); rw [hok]; rintro ⟨h, _⟩; cases h))
          go_wp2_with (go_at_call 105; refine (refChar_any _ _).mono ?_; rintro e w' ⟨rfl, hb1⟩)
          go_ret3
          exact ⟨ret3_eq hR.out, hb1⟩
        · obtain ⟨q, hq⟩ : ∃ q, decide (W.charL (W.refC l 1) = l.take 2) = q := ⟨_, rfl⟩
          have hne : (W.charL (W.refC l 1) == (s.extract n (n + 2)).toList) = q := by rw [Lib.toList_data, HS.out, HT.out, W.list_beq]; exact hq
          have HQ := hid hq
          clear hq
          cases q
          · have hR := hid (W.refD_bad l 2 HW.out HX.out (by show ¬ (_ ∧ W.charL (W.refC l 1) = l.take 2); rintro ⟨_, h⟩; exact absurd h (of_decide_eq_false HQ.out)))
            go_wp2_with (go_at_call 105; refine (refChar_any _ _).mono ?_; rintro e w' ⟨rfl, hb1⟩)
            go_ret3
            exact ⟨ret3_eq hR.out, hb1⟩
          · have hR := hid (W.refD_good l 2 HW.out HX.out HO.out (of_decide_eq_true HQ.out))
            go_wp2_with (go_at_call 105; refine (refChar_any _ _).mono ?_; rintro e w' ⟨rfl, hb1⟩)
            go_ret3
            exact ⟨ret3_eq hR.out, hb1⟩
  · have t2 : decide ((s.size : Int) < (n : Int) + 2) = true := by simp; omega
    have hR := hid (W.refD_short l 2 hw (by omega))
    clear hl hg hlen h00 hw hv
    go_enter Tryd.func91, Tryd.ntmps91
    go_wp2_with fail
    go_ret3
    exact ⟨ret3_eq hR.out, Below.refl _ _⟩

set_option maxRecDepth 100000 in
set_option maxHeartbeats 2000000 in
theorem refAt_1 (s : ByteArray) (n : Nat) (w : World) (hs : s.size ≤ 9223372036854775803) (hn : n < s.size) (hz : s[n].toNat < 192) :
    Calls Tryd.prog 91 #[.string s, .int .i64 n] w fun e w' => e = ret3 (W.refD (s.data.toList.drop n)) ∧ Below w.heap.size w w' := by
  obtain ⟨l, hl⟩ : ∃ l, s.data.toList.drop n = l := ⟨_, rfl⟩
  rw [hl]
  have hg : ∀ k, (h : n + k < s.size) → (l.getD k 0).toNat = s[n + k].toNat := fun k h => by rw [← hl]; exact W.getD_drop s n k h
  have hlen : l.length = s.size - n := by rw [← hl]; simp
  have hb2 : s[n].toNat < 256 := s[n].toNat_lt
  have h00 : (l.getD 0 0).toNat = s[n].toNat := hg 0 (by omega)
  have hw : W.refW (l.getD 0 0).toNat = 1 := by rw [h00]; unfold W.refW; rw [if_neg (by omega)]; rw [if_neg (by omega)]; rw [if_neg (by omega)]
  have hv : W.refC l 0 = (s[n].toNat : Int) := by show W.refV (l.getD 0 0).toNat = _; rw [h00]; unfold W.refV; rw [if_neg (by omega)]; rw [if_neg (by omega)]; rw [if_neg (by omega)]
  have t0 : decide ((n : Int) < 0) = false := by simp
  have t1 : decide ((s.size : Int) ≤ (n : Int)) = false := by simp; omega
  have q0 : decide ((240 : Int) ≤ (s[n].toNat : Int)) = false := by simp; omega
  have q1 : decide ((224 : Int) ≤ (s[n].toNat : Int)) = false := by simp; omega
  have q2 : decide ((192 : Int) ≤ (s[n].toNat : Int)) = false := by simp; omega
  by_cases hN : n + 1 ≤ s.size
  · have t2 : decide ((s.size : Int) < (n : Int) + 1) = false := by simp; omega
    have HV := hid hv
    have HW := hid hw
    have HL := hid hlen
    have HS := hid (W.extract_eq s n 1)
    have hsl : ∀ W : World, (Instr.slice 9 (.string s) (some (.int .i64 (n : Int))) (some (.int .i64 ((n : Int) + 1))) none).run Tryd.prog W = .ok (.string (s.extract n (n + 1))) W := slice_at s n 1 hN
    have hlt : ¬ l.length < 1 := by omega
    have HX : Hid (¬ l.length < 1) := hlt
    have HT := hid hl
    clear hv hw hlen h00 hlt hl
    go_enter Tryd.func91, Tryd.ntmps91
    go_wp2_with fail
    go_loop [8, 9] (fun c k => ∃ j : Nat, j < 1 ∧ k = .int .i64 ((j : Int) + 1) ∧ c = .int .i64 (W.refC l j)) (fun _ k => 5 - (intOf k).toNat)
    case atStart => exact ⟨0, by omega, rfl, by rw [HV.out]⟩
    case round =>
      obtain ⟨j, hj, rfl, rfl⟩ := hrel
      obtain ⟨hB1, hB2⟩ := W.refC_bound l j (by omega)
      · obtain rfl : j = 0 := by omega
        obtain ⟨ok, hok⟩ : ∃ ok, W.charOk (W.refC l 0) = ok := ⟨_, rfl⟩
        have HO := hid hok
        cases ok
        · have hR := hid (W.refD_bad l 1 HW.out HX.out (by show ¬ (W.charOk (W.refC l 0) = true ∧ _); rw [hok]; rintro ⟨h, _⟩; cases h))
          go_wp2_with (go_at_call 105; refine (refChar_any _ _).mono ?_; rintro e w' ⟨rfl, hb1⟩)
          go_ret3
          exact ⟨ret3_eq hR.out, hb1⟩
        · obtain ⟨q, hq⟩ : ∃ q, decide (W.charL (W.refC l 0) = l.take 1) = q := ⟨_, rfl⟩
          have hne : (W.charL (W.refC l 0) == (s.extract n (n + 1)).toList) = q := by rw [Lib.toList_data, HS.out, HT.out, W.list_beq]; exact hq
          have HQ := hid hq
          clear hq
          cases q
          · have hR := hid (W.refD_bad l 1 HW.out HX.out (by show ¬ (_ ∧ W.charL (W.refC l 0) = l.take 1); rintro ⟨_, h⟩; exact absurd h (of_decide_eq_false HQ.out)))
            go_wp2_with (go_at_call 105; refine (refChar_any _ _).mono ?_; rintro e w' ⟨rfl, hb1⟩)
            go_ret3
            exact ⟨ret3_eq hR.out, hb1⟩
          · have hR := hid (W.refD_good l 1 HW.out HX.out HO.out (of_decide_eq_true HQ.out))
            go_wp2_with (go_at_call 105; refine (refChar_any _ _).mono ?_; rintro e w' ⟨rfl, hb1⟩)
            go_ret3
            exact ⟨ret3_eq hR.out, hb1⟩
  · exact absurd (show n + 1 ≤ s.size by omega) hN

end Go.Proofs.YtohdifffdgoaaaaDoor
