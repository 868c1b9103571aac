/- Plain: characters and what is read of them; the last byte of a character. -/
import Derived.Test.YtakplnceiibmlaaGreatDoorWChar
import Derived.Laws.RangeAny
import Derived.Lib.TrimAscii
import Derived.Deep.DeepMust
namespace Go.Proofs.YtakplnceiibmlaaGreatDoor
open Go.RowKit
open Go.Lib (hid)

theorem validRune_ok (c : Int) : Lib.validRune c = W.charOk c := by
  unfold Lib.validRune W.charOk
  rw [Bool.eq_iff_iff]
  simp only [Bool.or_eq_true, decide_eq_true_eq]
  omega
theorem encode_charL (c : Int) (hok : W.charOk c = true) : Utf8.encode c = ⟨(W.charL c).toArray⟩ := by
  have h0 : 0 ≤ c := by
    simp only [W.charOk, Bool.or_eq_true, decide_eq_true_eq] at hok
    omega
  obtain ⟨n, rfl⟩ := Int.eq_ofNat_of_zero_le h0
  have e : W.charL (n : Int) = (Utf8.encode (n : Int)).data.toList := by
    unfold W.charL
    rw [if_pos hok, Int.toNat_natCast]
    exact (W.charN_encode n hok).symm
  obtain ⟨b, hb⟩ : ∃ b, Utf8.encode (n : Int) = b := ⟨_, rfl⟩
  rw [hb] at e ⊢
  obtain ⟨l, hl⟩ : ∃ l, W.charL (n : Int) = l := ⟨_, rfl⟩
  rw [hl] at e ⊢
  subst e
  exact ByteArray.ext (by simp)

namespace W
theorem decode_err (l : List UInt8) (h : (Lib.decodeL l).1 = 65533) : (Lib.decodeL l).2 = 1 ∨ (Lib.decodeL l).2 = 3 := by
  rw [decodeL_N] at h ⊢
  generalize (l.getD 0 0).toNat = b0 at h ⊢
  generalize (l.getD 1 0).toNat = b1 at h ⊢
  generalize (l.getD 2 0).toNat = b2 at h ⊢
  generalize (l.getD 3 0).toNat = b3 at h ⊢
  unfold Lib.decodeN at h ⊢
  by_cases a0 : b0 < 128
  · rw [if_pos a0]; left; rfl
  rw [if_neg a0] at h ⊢
  by_cases a1 : b0 / 32 = 6 ∧ (1 < l.length ∧ b1 / 64 = 2)
  · rw [if_pos a1] at h ⊢
    by_cases c : b0 % 32 * 64 + b1 % 64 ≥ 128
    · rw [if_pos c] at h; simp only at h; omega
    · rw [if_neg c]; left; rfl
  rw [if_neg a1] at h ⊢
  by_cases a2 : b0 / 16 = 14 ∧ (1 < l.length ∧ b1 / 64 = 2) ∧ (2 < l.length ∧ b2 / 64 = 2)
  · rw [if_pos a2]
    split
    · right; rfl
    · left; rfl
  rw [if_neg a2] at h ⊢
  by_cases a3 : b0 / 8 = 30 ∧ (1 < l.length ∧ b1 / 64 = 2) ∧ (2 < l.length ∧ b2 / 64 = 2) ∧ (3 < l.length ∧ b3 / 64 = 2)
  · rw [if_pos a3] at h ⊢
    split at h
    · rename_i c; simp only at h; omega
    · rename_i c; rw [if_neg c]; left; rfl
  · rw [if_neg a3]; left; rfl
theorem extract_eq (s : ByteArray) (n k : Nat) : s.extract n (n + k) = ⟨((s.data.toList.drop n).take k).toArray⟩ := by
  have := ByteArray.extract_mk s.data.toList n (n + k)
  rw [show (⟨s.data.toList.toArray⟩ : ByteArray) = s from rfl, show n + k - n = k by omega] at this
  exact this
theorem decodeGo_drop (s : ByteArray) (n : Nat) (h : n < s.size) : Lib.decodeGo (s.extract n s.size) = Lib.decodeL (s.data.toList.drop n) := by
  have e : s.extract n s.size = ⟨(s.data.toList.drop n).toArray⟩ := by
    have := W.extract_eq s n (s.size - n)
    rw [show n + (s.size - n) = s.size by omega] at this
    rw [this, List.take_of_length_le (by simp)]
  unfold Lib.decodeGo Lib.decodeL
  rw [if_neg (by rw [ByteArray.size_extract]; omega), e]
end W
theorem enc_last {r : Int} (h : 128 ≤ r) (hok : W.charOk r = true) : ∃ (b : ByteArray) (l : Nat) (hl : l < b.size), Utf8.encode r = b ∧ b.size = l + 1 ∧ 1 ≤ l ∧ l ≤ 3 ∧ 128 ≤ (b[l]'hl).toNat := by
  rw [encode_charL r hok]
  have hm : 128 ≤ (UInt8.ofNat (128 + r % 64).toNat).toNat := by
    have h1 : (128 + r % 64).toNat < 256 := by omega
    rw [UInt8.toNat_ofNat_of_lt' h1]; omega
  by_cases h2 : r ≤ 2047
  · rw [W.charL_2 r h h2]
    exact ⟨_, 1, by show 1 < 2; omega, rfl, rfl, by omega, by omega, hm⟩
  · by_cases h3 : r ≤ 65535
    · rw [W.charL_3 r (by omega) h3 hok]
      exact ⟨_, 2, by show 2 < 3; omega, rfl, rfl, by omega, by omega, hm⟩
    · have h4 : r ≤ 1114111 := by simp only [W.charOk, Bool.or_eq_true, decide_eq_true_eq] at hok; omega
      rw [W.charL_4 r (by omega) h4]
      exact ⟨_, 3, by show 3 < 4; omega, rfl, rfl, by omega, by omega, hm⟩
theorem slice_at (s : ByteArray) (n k : Nat) (h : n + k ≤ s.size) (W : World) : (Instr.slice 9 (.string s) (some (.int .i64 (n : Int))) (some (.int .i64 ((n : Int) + (k : Int)))) none).run Tryz.prog W = .ok (.string (s.extract n (n + k))) W := by
  have := run_slice_string (P := Tryz.prog) W 9 s .i64 .i64 (n : Int) ((n : Int) + (k : Int)) Tryz.underlying9 (by omega) (by omega) (by omega)
  rw [show ((n : Int) + (k : Int)).toNat = n + k by omega, Int.toNat_natCast] at this
  exact this

end Go.Proofs.YtakplnceiibmlaaGreatDoor
