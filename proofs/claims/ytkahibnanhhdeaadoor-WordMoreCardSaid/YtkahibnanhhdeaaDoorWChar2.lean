/- The program's own functions on characters: which number is one, its bytes; what begins at a place. -/
import Derived.Test.YtkahibnanhhdeaaDoorWUtf
namespace Go.Proofs.YtkahibnanhhdeaaDoor
open Go.RowKit
open Go.Lib (hid)

theorem validRune_ok (c : Int) : Lib.validRune c = W.charOk c := by
  unfold Lib.validRune W.charOk
  rw [Bool.eq_iff_iff]
  simp only [Bool.or_eq_true, decide_eq_true_eq]
  omega
theorem encode_charL (c : Int) (hok : W.charOk c = true) : Utf8.encode c = ⟨(W.charL c).toArray⟩ := by
  have h0 : 0 ≤ c := by
    simp only [W.charOk, Bool.or_eq_true, decide_eq_true_eq] at hok
    omega
  obtain ⟨n, rfl⟩ := Int.eq_ofNat_of_zero_le h0
  have e : W.charL (n : Int) = (Utf8.encode (n : Int)).data.toList := by
    unfold W.charL
    rw [if_pos hok, Int.toNat_natCast]
    exact (W.charN_encode n hok).symm
  obtain ⟨b, hb⟩ : ∃ b, Utf8.encode (n : Int) = b := ⟨_, rfl⟩
  rw [hb] at e ⊢
  obtain ⟨l, hl⟩ : ∃ l, W.charL (n : Int) = l := ⟨_, rfl⟩
  rw [hl] at e ⊢
  subst e
  exact ByteArray.ext (by simp)

set_option maxHeartbeats 1000000 in
theorem char_any (c : Int) (w : World) :
    Calls Tryd.prog 17 #[.int .i64 c] w fun e w' => e = .returned (.tuple #[.string ⟨(W.charL c).toArray⟩, .bool (W.charOk c)]) ∧ w = w' := by
  by_cases h : c < 0
  · have hok : W.charOk c = false := by simp [W.charOk]; omega
    have hL := hid (W.charL_bad c hok)
    have hO := hid hok
    clear hok
    have t0 : decide (c < 0) = true := by simpa using h
    go_enter Tryd.func17, Tryd.ntmps17
    go_wp2_with fail
    go_ret2
    exact ⟨ret_sb hL.out.symm hO.out.symm, rfl⟩
  · have t0 : decide (c < 0) = false := by simpa using h
    by_cases h' : 1114111 < c
    · have hok : W.charOk c = false := by simp [W.charOk]; omega
      have hL := hid (W.charL_bad c hok)
      have hO := hid hok
      clear hok
      have t1 : decide (1114111 < c) = true := by simpa using h'
      go_enter Tryd.func17, Tryd.ntmps17
      go_wp2_with fail
      go_ret2
      exact ⟨ret_sb hL.out.symm hO.out.symm, rfl⟩
    · have t1 : decide (1114111 < c) = false := by simpa using h'
      have hv := validRune_ok c
      go_enter Tryd.func17, Tryd.ntmps17
      go_wp2_with fail
      refine (Tryd.utf8_ValidRune _ _).mono ?_
      rintro e w' ⟨rfl, rfl⟩
      rw [hv]
      clear hv
      cases hok : W.charOk c
      · have hL := hid (W.charL_bad c hok)
        have hO := hid hok
        clear hok
        go_wp2_with fail
        go_ret2
        exact ⟨ret_sb hL.out.symm hO.out.symm, rfl⟩
      · have HE := hid (encode_charL c hok)
        have hO := hid hok
        clear hok
        go_wp2_with fail
        go_ret2
        exact ⟨by rw [hO.out, ← HE.out]; rfl, rfl⟩

namespace W
theorem decode_err (l : List UInt8) (h : (Lib.decodeL l).1 = 65533) : (Lib.decodeL l).2 = 1 ∨ (Lib.decodeL l).2 = 3 := by
  rw [decodeL_N] at h ⊢
  generalize (l.getD 0 0).toNat = b0 at h ⊢
  generalize (l.getD 1 0).toNat = b1 at h ⊢
  generalize (l.getD 2 0).toNat = b2 at h ⊢
  generalize (l.getD 3 0).toNat = b3 at h ⊢
  unfold Lib.decodeN at h ⊢
  by_cases a0 : b0 < 128
  · rw [if_pos a0]; left; rfl
  rw [if_neg a0] at h ⊢
  by_cases a1 : b0 / 32 = 6 ∧ (1 < l.length ∧ b1 / 64 = 2)
  · rw [if_pos a1] at h ⊢
    by_cases c : b0 % 32 * 64 + b1 % 64 ≥ 128
    · rw [if_pos c] at h; simp only at h; omega
    · rw [if_neg c]; left; rfl
  rw [if_neg a1] at h ⊢
  by_cases a2 : b0 / 16 = 14 ∧ (1 < l.length ∧ b1 / 64 = 2) ∧ (2 < l.length ∧ b2 / 64 = 2)
  · rw [if_pos a2]
    split
    · right; rfl
    · left; rfl
  rw [if_neg a2] at h ⊢
  by_cases a3 : b0 / 8 = 30 ∧ (1 < l.length ∧ b1 / 64 = 2) ∧ (2 < l.length ∧ b2 / 64 = 2) ∧ (3 < l.length ∧ b3 / 64 = 2)
  · rw [if_pos a3] at h ⊢
    split at h
    · rename_i c; simp only at h; omega
    · rename_i c; rw [if_neg c]; left; rfl
  · rw [if_neg a3]; left; rfl
theorem decodeGo_drop (s : ByteArray) (n : Nat) (h : n < s.size) : Lib.decodeGo (s.extract n s.size) = Lib.decodeL (s.data.toList.drop n) := by
  have e : s.extract n s.size = ⟨(s.data.toList.drop n).toArray⟩ := by
    have := W.extract_eq s n (s.size - n)
    rw [show n + (s.size - n) = s.size by omega] at this
    rw [this, List.take_of_length_le (by simp)]
  unfold Lib.decodeGo Lib.decodeL
  rw [if_neg (by rw [ByteArray.size_extract]; omega), e]
end W

set_option maxHeartbeats 1000000 in
theorem at_any (s : ByteArray) (i : Int) (w : World) (hT : Tabs w) :
    Calls Tryd.prog 19 #[.string s, .int .i64 i] w fun e w' => e = ret3 (W.atD s.data.toList i) ∧ Below w.heap.size w w' := by
  by_cases h : 0 ≤ i ∧ i < s.size
  · obtain ⟨n, rfl⟩ := Int.eq_ofNat_of_zero_le h.1
    have hn : n < s.size := by omega
    have hR := hid (W.atD_in s.data.toList n (by simpa using hn))
    have cD := Tryd.utf8_DecodeRuneInString (s.extract n s.size) w hT
    rw [W.decodeGo_drop s n hn] at cD
    have t0 : decide ((n : Int) < 0) = false := by simp
    have t1 : decide ((s.size : Int) ≤ (n : Int)) = false := by simp; omega
    have he := W.decode_err (s.data.toList.drop n)
    have hH : W.headD (s.data.toList.drop n) = if (Lib.decodeL (s.data.toList.drop n)).1 = 65533 ∧ (Lib.decodeL (s.data.toList.drop n)).2 = 1 then ((0 : Int), (0 : Int), false) else (((Lib.decodeL (s.data.toList.drop n)).1 : Int), ((Lib.decodeL (s.data.toList.drop n)).2 : Int), true) := rfl
    have hc := Lib.decodeL_rune (s.data.toList.drop n)
    generalize Lib.decodeL (s.data.toList.drop n) = d at cD he hH hc
    obtain ⟨c, k⟩ := d
    have HH := hid hH
    clear hH h
    simp only at he cD hc
    by_cases h1 : c = 65533
    · by_cases h2 : k = 1
      · subst h1 h2
        have hF := hid (show W.atD s.data.toList (n : Int) = (0, 0, false) by rw [hR.out, HH.out]; rfl)
        clear he
        go_enter Tryd.func19, Tryd.ntmps19
        go_wp2_with fail
        refine cD.mono ?_
        rintro e w1 ⟨rfl, hb⟩
        go_wp2_with fail
        go_ret3
        exact ⟨ret3_eq hF.out, hb⟩
      · have h3 : k = 3 := by rcases he h1 with h | h <;> omega
        subst h1 h3
        have hF := hid (show W.atD s.data.toList (n : Int) = (65533, 3, true) by rw [hR.out, HH.out]; rfl)
        clear he h2
        go_enter Tryd.func19, Tryd.ntmps19
        go_wp2_with fail
        refine cD.mono ?_
        rintro e w1 ⟨rfl, hb⟩
        go_wp2_with fail
        go_ret3
        exact ⟨ret3_eq hF.out, hb⟩
    · have hF := hid (show W.atD s.data.toList (n : Int) = ((c : Int), (k : Int), true) by rw [hR.out, HH.out]; exact if_neg (fun q => h1 q.1))
      have t2 : ((c : Int) == 65533) = false := beq_eq_false_iff_ne.2 (by omega)
      clear he h1
      go_enter Tryd.func19, Tryd.ntmps19
      go_wp2_with fail
      refine cD.mono ?_
      rintro e w1 ⟨rfl, hb⟩
      go_wp2_with fail
      go_ret3
      exact ⟨ret3_eq hF.out, hb⟩
  · have hR := hid (W.atD_out s.data.toList i (by simp; omega))
    by_cases h0 : i < 0
    · have t0 : decide (i < 0) = true := by simpa using h0
      go_enter Tryd.func19, Tryd.ntmps19
      go_wp2_with fail
      go_ret3
      exact ⟨ret3_eq hR.out, Below.refl _ _⟩
    · have t0 : decide (i < 0) = false := by simpa using h0
      have t1 : decide ((s.size : Int) ≤ i) = true := by simp; omega
      go_enter Tryd.func19, Tryd.ntmps19
      go_wp2_with fail
      go_ret3
      exact ⟨ret3_eq hR.out, Below.refl _ _⟩
end Go.Proofs.YtkahibnanhhdeaaDoor
