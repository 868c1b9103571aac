/- Whether a text is UTF-8; what begins at a place: the walks of the document's answer and of the program, joined. -/
import Derived.Test.YtohdifffdgoaaaaDoorWAt
import Derived.Deep.DeepMust
namespace Go.Proofs.YtohdifffdgoaaaaDoor
open Go.RowKit
open Go.Lib (hid decodeL validD)

namespace W
theorem atD_in (l : List UInt8) (n : Nat) (h : n < l.length) : atD l n = headD (l.drop n) := by
  unfold atD; rw [if_pos (by omega), Int.toNat_natCast]
theorem atD_out (l : List UInt8) (i : Int) (h : i < 0 ∨ (l.length : Int) ≤ i) : atD l i = (0, 0, false) := by
  unfold atD; rw [if_neg (by omega)]
theorem refW_le (b : Nat) : refW b ≤ 4 := by
  unfold refW
  by_cases a4 : 240 ≤ b
  · rw [if_pos a4]; omega
  · rw [if_neg a4]
    by_cases a3 : 224 ≤ b
    · rw [if_pos a3]; omega
    · rw [if_neg a3]
      by_cases a2 : 192 ≤ b
      · rw [if_pos a2]; omega
      · rw [if_neg a2]; omega
/-- one step of the decoder -/
theorem head_cases (l : List UInt8) (hl : 0 < l.length) : (headD l = (0, 0, false) ∧ validD l = false) ∨ ∃ c k : Nat, headD l = ((c : Int), (k : Int), true) ∧ 1 ≤ k ∧ k ≤ 4 ∧ k ≤ l.length ∧ validD l = validD (l.drop k) ∧ c ≤ 1114111 := by
  have hne : l ≠ [] := by intro e; subst e; simp at hl
  have hs := Lib.validD_step l hne
  by_cases h : (decodeL l).1 = 65533 ∧ (decodeL l).2 = 1
  · left
    refine ⟨by unfold headD; rw [if_pos h], by rw [hs, if_pos h]⟩
  · right
    have hd : headD l = (((decodeL l).1 : Int), ((decodeL l).2 : Int), true) := by unfold headD; rw [if_neg h]
    have hw : (decodeL l).2 ≤ l.length ∧ (decodeL l).2 ≤ 4 := by
      have hr := refD_head l hl
      rw [hd] at hr
      unfold refD at hr
      have h4 := refW_le (l.getD 0 0).toNat
      generalize refW (l.getD 0 0).toNat = w at hr h4
      simp only at hr
      split at hr
      · simp at hr
      · split at hr
        · simp only [Prod.mk.injEq] at hr; omega
        · simp at hr
    exact ⟨_, _, hd, Lib.decodeL_width l, hw.2, hw.1, by rw [hs, if_neg h], Lib.decodeL_rune l⟩
end W

theorem refAt_any (s : ByteArray) (i : Int) (w : World) (hs : s.size ≤ 9223372036854775803) :
    Calls Tryd.prog 91 #[.string s, .int .i64 i] w fun e w' => e = ret3 (W.atD s.data.toList i) ∧ Below w.heap.size w w' := by
  by_cases h : 0 ≤ i ∧ i < s.size
  · obtain ⟨n, rfl⟩ := Int.eq_ofNat_of_zero_le h.1
    have hn : n < s.size := by omega
    have e : W.atD s.data.toList (n : Int) = W.refD (s.data.toList.drop n) := by
      rw [W.atD_in _ _ (by simpa using hn), W.refD_head _ (by simp; omega)]
    rw [e]
    by_cases h4 : 240 ≤ s[n].toNat
    · exact refAt_4 s n w hs hn h4
    by_cases h3 : 224 ≤ s[n].toNat
    · exact refAt_3 s n w hs hn h3 (by omega)
    by_cases h2 : 192 ≤ s[n].toNat
    · exact refAt_2 s n w hs hn h2 (by omega)
    exact refAt_1 s n w hs hn (by omega)
  · have hR := hid (W.atD_out s.data.toList i (by simp; omega))
    by_cases h0 : i < 0
    · have t0 : decide (i < 0) = true := by simpa using h0
      go_enter Tryd.func91, Tryd.ntmps91
      go_wp2_with fail
      go_ret3
      exact ⟨ret3_eq hR.out, Below.refl _ _⟩
    · have t0 : decide (i < 0) = false := by simpa using h0
      have t1 : decide ((s.size : Int) ≤ i) = true := by simp; omega
      go_enter Tryd.func91, Tryd.ntmps91
      go_wp2_with fail
      go_ret3
      exact ⟨ret3_eq hR.out, Below.refl _ _⟩

set_option maxHeartbeats 1000000 in
theorem refUtf8_any (s : ByteArray) (w : World) (hs : s.size ≤ 9223372036854775803) :
    Calls Tryd.prog 71 #[.string s] w fun e w' => e = .returned (.bool (validD s.data.toList)) ∧ Below w.heap.size w w' := by
  obtain ⟨V, hV⟩ : ∃ V, validD s.data.toList = V := ⟨_, rfl⟩
  rw [hV]
  have HV := hid hV
  clear hV
  go_enter Tryd.func71, Tryd.ntmps71
  go_wp2_with fail
  go_loopw [3] (fun i wr => ∃ k : Nat, k ≤ s.size ∧ i = .int .i64 k ∧ Below w.heap.size w wr ∧ Hid (validD (s.data.toList.drop k) = V)) (fun i _ => s.size - (intOf i).toNat)
  case atStart => exact ⟨0, by omega, rfl, Below.refl _ _, HV.out⟩
  case round =>
    obtain ⟨k, hk, rfl, hb, hR⟩ := hrel
    by_cases hlt : k < s.size
    · rcases W.head_cases (s.data.toList.drop k) (by simp; omega) with ⟨h1, h2⟩ | ⟨c, m, h1, h2, h3, h4, h5, h6⟩
      · have hA := refAt_any s (k : Int) wr hs
        rw [W.atD_in _ _ (by simpa using hlt), h1] at hA
        have hA' : Calls Tryd.prog 91 #[.string s, .int .i64 k] wr fun e w' => e = .returned (.tuple #[.int .i64 0, .int .i64 0, .bool false]) ∧ Below wr.heap.size wr w' := hA
        have H2 := hid (h2.symm.trans hR.out)
        clear h1 h2 hA
        go_wp2_with (go_at_call 91; refine hA'.mono ?_; rintro e w' ⟨rfl, hb1⟩)
        go_ret
        exact ⟨ret_bool H2.out, hb.trans (hb1.mono hb.size)⟩
      · have hA := refAt_any s (k : Int) wr hs
        rw [W.atD_in _ _ (by simpa using hlt), h1] at hA
        have hA' : Calls Tryd.prog 91 #[.string s, .int .i64 k] wr fun e w' => e = .returned (.tuple #[.int .i64 c, .int .i64 m, .bool true]) ∧ Below wr.heap.size wr w' := hA
        have H2 : Hid (validD (s.data.toList.drop (k + m)) = V) := by
          show _ = _
          rw [← hR.out, h5, List.drop_drop]
        have h4' : k + m ≤ s.size := by simp at h4; omega
        clear h1 h4 h5 hA
        go_wp2_with (go_at_call 91; refine hA'.mono ?_; rintro e w' ⟨rfl, hb1⟩)
        go_roundw
        case rel => exact ⟨k + m, by omega, by go_num, hb.trans (hb1.mono hb.size), H2⟩
        case measure => simp [intOf]; omega
    · obtain rfl : k = s.size := by omega
      have H2 : Hid (V = true) := by
        show _ = _
        rw [← hR.out, List.drop_of_length_le (by simp)]; rfl
      go_wp2_with fail
      go_ret
      exact ⟨ret_bool H2.out.symm, hb⟩

/-- the tables of unicode/utf8, as the row lists them -/
def Tabs (w : World) : Prop := Lib.Utf8Tabs 0 1 w

theorem Tabs.below {B : Nat} {w w' : World} (h : Tabs w) (hb : Below B w w') (h0 : 0 < B) (h1 : 1 < B) : Tabs w' := by
  refine ⟨fun c hc => ?_, fun i hi => ?_⟩
  · rw [hb.cell (p := ⟨0, c, none⟩) h0]; exact h.1 c hc
  · rw [hb.cell (p := ⟨1, 2 * i, none⟩) h1, hb.cell (p := ⟨1, 2 * i + 1, none⟩) h1]; exact h.2 i hi
theorem Tabs.size {w : World} (h : Tabs w) : 0 < w.heap.size ∧ 1 < w.heap.size :=
  ⟨block_lt_of_cell (h.1 0 (by omega)), block_lt_of_cell (h.2 0 (by omega)).1⟩

theorem utf8_any (s : ByteArray) (w : World) (hs : s.size ≤ 9223372036854775803) (hT : Tabs w) :
    Calls Tryd.prog 70 #[.string s] w fun e w' => e = .returned (.bool (validD s.data.toList)) ∧ Below w.heap.size w w' := by
  have cV : Calls Tryd.prog 90 #[.string s] w _ := Tryd.utf8_ValidString s w (by omega) hT
  generalize validD s.data.toList = V at cV ⊢
  go_enter Tryd.func70, Tryd.ntmps70
  go_wp2_with (go_at_call 90; refine cV.mono ?_; rintro e w' ⟨rfl, hb⟩)
  go_ret
  exact ⟨rfl, hb⟩
end Go.Proofs.YtohdifffdgoaaaaDoor
