/- The document escape. -/
import Derived.Test.YtakplnceiibmlaaGreatDoorMEscA
import Derived.Test.YtakplnceiibmlaaGreatDoorMRd2
import Derived.Laws.BitsLemmas
namespace Go.Proofs.YtakplnceiibmlaaGreatDoor
open Go.RowKit
open Go.Lib (hid)
set_option maxRecDepth 100000 in
set_option maxHeartbeats 1000000 in
theorem refStands_any (c : Int) (W : World) : Calls Tryz.prog 44 #[.int .i64 c] W fun en W' => en = .returned (.bool (X.stands c)) ∧ W' = W := by
  have hc : c = 9 ∨ c = 10 ∨ c = 13 ∨ (32 ≤ c ∧ c ≤ 55295) ∨ (57344 ≤ c ∧ c ≤ 65533) ∨ (65536 ≤ c ∧ c ≤ 1114111) ∨ (c < 32 ∧ ¬ c = 9 ∧ ¬ c = 10 ∧ ¬ c = 13) ∨ (55295 < c ∧ c < 57344) ∨ (65533 < c ∧ c < 65536) ∨ 1114111 < c := by omega
  rcases hc with h | h | h | h | h | h | h | h | h | h
  · have hs : X.stands c = true := ((X.stands_iff c).2 (by omega))
    rw [hs]
    subst h
    clear hs
    go_enter Tryz.func44, Tryz.ntmps44
    go_wp2_with fail
    go_ret
    exact ⟨rfl, rfl⟩
  · have hs : X.stands c = true := ((X.stands_iff c).2 (by omega))
    rw [hs]
    subst h
    clear hs
    go_enter Tryz.func44, Tryz.ntmps44
    go_wp2_with fail
    go_ret
    exact ⟨rfl, rfl⟩
  · have hs : X.stands c = true := ((X.stands_iff c).2 (by omega))
    rw [hs]
    subst h
    clear hs
    go_enter Tryz.func44, Tryz.ntmps44
    go_wp2_with fail
    go_ret
    exact ⟨rfl, rfl⟩
  · have hs : X.stands c = true := ((X.stands_iff c).2 (by omega))
    rw [hs]
    have q9 : (c == 9) = false := beq_eq_false_iff_ne.2 (by omega)
    have q10 : (c == 10) = false := beq_eq_false_iff_ne.2 (by omega)
    have q13 : (c == 13) = false := beq_eq_false_iff_ne.2 (by omega)
    have g32 : decide ((32 : Int) ≤ c) = true := decide_eq_true (by omega)
    have l1 : decide (c ≤ (55295 : Int)) = true := decide_eq_true (by omega)
    have g2 : decide ((57344 : Int) ≤ c) = false := decide_eq_false (by omega)
    have l2 : decide (c ≤ (65533 : Int)) = true := decide_eq_true (by omega)
    have g3 : decide ((65536 : Int) ≤ c) = false := decide_eq_false (by omega)
    have l3 : decide (c ≤ (1114111 : Int)) = true := decide_eq_true (by omega)
    clear h
    clear hs
    go_enter Tryz.func44, Tryz.ntmps44
    go_wp2_with fail
    go_ret
    exact ⟨rfl, rfl⟩
  · have hs : X.stands c = true := ((X.stands_iff c).2 (by omega))
    rw [hs]
    have q9 : (c == 9) = false := beq_eq_false_iff_ne.2 (by omega)
    have q10 : (c == 10) = false := beq_eq_false_iff_ne.2 (by omega)
    have q13 : (c == 13) = false := beq_eq_false_iff_ne.2 (by omega)
    have g32 : decide ((32 : Int) ≤ c) = true := decide_eq_true (by omega)
    have l1 : decide (c ≤ (55295 : Int)) = false := decide_eq_false (by omega)
    have g2 : decide ((57344 : Int) ≤ c) = true := decide_eq_true (by omega)
    have l2 : decide (c ≤ (65533 : Int)) = true := decide_eq_true (by omega)
    have g3 : decide ((65536 : Int) ≤ c) = false := decide_eq_false (by omega)
    have l3 : decide (c ≤ (1114111 : Int)) = true := decide_eq_true (by omega)
    clear h
    clear hs
    go_enter Tryz.func44, Tryz.ntmps44
    go_wp2_with fail
    go_ret
    exact ⟨rfl, rfl⟩
  · have hs : X.stands c = true := ((X.stands_iff c).2 (by omega))
    rw [hs]
    have q9 : (c == 9) = false := beq_eq_false_iff_ne.2 (by omega)
    have q10 : (c == 10) = false := beq_eq_false_iff_ne.2 (by omega)
    have q13 : (c == 13) = false := beq_eq_false_iff_ne.2 (by omega)
    have g32 : decide ((32 : Int) ≤ c) = true := decide_eq_true (by omega)
    have l1 : decide (c ≤ (55295 : Int)) = false := decide_eq_false (by omega)
    have g2 : decide ((57344 : Int) ≤ c) = true := decide_eq_true (by omega)
    have l2 : decide (c ≤ (65533 : Int)) = false := decide_eq_false (by omega)
    have g3 : decide ((65536 : Int) ≤ c) = true := decide_eq_true (by omega)
    have l3 : decide (c ≤ (1114111 : Int)) = true := decide_eq_true (by omega)
    clear h
    clear hs
    go_enter Tryz.func44, Tryz.ntmps44
    go_wp2_with fail
    go_ret
    exact ⟨rfl, rfl⟩
  · have hs : X.stands c = false := ((X.stands_not c).2 (by omega))
    rw [hs]
    have q9 : (c == 9) = false := beq_eq_false_iff_ne.2 (by omega)
    have q10 : (c == 10) = false := beq_eq_false_iff_ne.2 (by omega)
    have q13 : (c == 13) = false := beq_eq_false_iff_ne.2 (by omega)
    have g32 : decide ((32 : Int) ≤ c) = false := decide_eq_false (by omega)
    have l1 : decide (c ≤ (55295 : Int)) = true := decide_eq_true (by omega)
    have g2 : decide ((57344 : Int) ≤ c) = false := decide_eq_false (by omega)
    have l2 : decide (c ≤ (65533 : Int)) = true := decide_eq_true (by omega)
    have g3 : decide ((65536 : Int) ≤ c) = false := decide_eq_false (by omega)
    have l3 : decide (c ≤ (1114111 : Int)) = true := decide_eq_true (by omega)
    clear h
    clear hs
    go_enter Tryz.func44, Tryz.ntmps44
    go_wp2_with fail
    go_ret
    exact ⟨rfl, rfl⟩
  · have hs : X.stands c = false := ((X.stands_not c).2 (by omega))
    rw [hs]
    have q9 : (c == 9) = false := beq_eq_false_iff_ne.2 (by omega)
    have q10 : (c == 10) = false := beq_eq_false_iff_ne.2 (by omega)
    have q13 : (c == 13) = false := beq_eq_false_iff_ne.2 (by omega)
    have g32 : decide ((32 : Int) ≤ c) = true := decide_eq_true (by omega)
    have l1 : decide (c ≤ (55295 : Int)) = false := decide_eq_false (by omega)
    have g2 : decide ((57344 : Int) ≤ c) = false := decide_eq_false (by omega)
    have l2 : decide (c ≤ (65533 : Int)) = true := decide_eq_true (by omega)
    have g3 : decide ((65536 : Int) ≤ c) = false := decide_eq_false (by omega)
    have l3 : decide (c ≤ (1114111 : Int)) = true := decide_eq_true (by omega)
    clear h
    clear hs
    go_enter Tryz.func44, Tryz.ntmps44
    go_wp2_with fail
    go_ret
    exact ⟨rfl, rfl⟩
  · have hs : X.stands c = false := ((X.stands_not c).2 (by omega))
    rw [hs]
    have q9 : (c == 9) = false := beq_eq_false_iff_ne.2 (by omega)
    have q10 : (c == 10) = false := beq_eq_false_iff_ne.2 (by omega)
    have q13 : (c == 13) = false := beq_eq_false_iff_ne.2 (by omega)
    have g32 : decide ((32 : Int) ≤ c) = true := decide_eq_true (by omega)
    have l1 : decide (c ≤ (55295 : Int)) = false := decide_eq_false (by omega)
    have g2 : decide ((57344 : Int) ≤ c) = true := decide_eq_true (by omega)
    have l2 : decide (c ≤ (65533 : Int)) = false := decide_eq_false (by omega)
    have g3 : decide ((65536 : Int) ≤ c) = false := decide_eq_false (by omega)
    have l3 : decide (c ≤ (1114111 : Int)) = true := decide_eq_true (by omega)
    clear h
    clear hs
    go_enter Tryz.func44, Tryz.ntmps44
    go_wp2_with fail
    go_ret
    exact ⟨rfl, rfl⟩
  · have hs : X.stands c = false := ((X.stands_not c).2 (by omega))
    rw [hs]
    have q9 : (c == 9) = false := beq_eq_false_iff_ne.2 (by omega)
    have q10 : (c == 10) = false := beq_eq_false_iff_ne.2 (by omega)
    have q13 : (c == 13) = false := beq_eq_false_iff_ne.2 (by omega)
    have g32 : decide ((32 : Int) ≤ c) = true := decide_eq_true (by omega)
    have l1 : decide (c ≤ (55295 : Int)) = false := decide_eq_false (by omega)
    have g2 : decide ((57344 : Int) ≤ c) = true := decide_eq_true (by omega)
    have l2 : decide (c ≤ (65533 : Int)) = false := decide_eq_false (by omega)
    have g3 : decide ((65536 : Int) ≤ c) = true := decide_eq_true (by omega)
    have l3 : decide (c ≤ (1114111 : Int)) = false := decide_eq_false (by omega)
    clear h
    clear hs
    go_enter Tryz.func44, Tryz.ntmps44
    go_wp2_with fail
    go_ret
    exact ⟨rfl, rfl⟩
theorem and192 (b : Nat) (h : b < 256) : (bits .and .u8 (b : Int) 192 != 128) = decide (b / 64 ≠ 2) := by
  have hf : ∀ y : Fin 256, (bits .and .u8 ((y.val : Nat) : Int) 192 != 128) = decide (y.val / 64 ≠ 2) := by decide +kernel
  exact hf ⟨b, h⟩
theorem wraps_i64' (n : Int) (h0 : 0 ≤ n) (h1 : n < 2 ^ 63) : IntKind.i64.wrap n = n := by rw [IntKind.wrap_i64] <;> omega
theorem or6 (v b : Nat) (hv : v < 100000000) : bits .or .i64 ((v : Int) * 64) ((b : Int) % 64) = ((v * 64 + b % 64 : Nat) : Int) := by
  rw [bits_join .i64 63 (by decide) wraps_i64' 6 ((v : Int) * 64) ((b : Int) % 64) (by omega) (by omega) (by omega) (by omega) (by omega) (by omega)]
  omega
theorem getD_rest {s : ByteArray} {p i : Nat} (h : p + i < s.size) : (rest s p).getD i 0 = s[p + i]'h := by
  unfold rest
  rw [List.getD_eq_getElem?_getD, List.getElem?_drop, List.getElem?_eq_getElem (by rw [← Lib.size_eq]; exact h)]
  rfl
/-- the number, with so many of the bytes behind the first -/
def contV (l : List UInt8) (v0 : Nat) : Nat → Nat
  | 0 => v0
  | k + 1 => contV l v0 k * 64 + (l.getD (k + 1) 0).toNat % 64
theorem contV_1 (l : List UInt8) (v0 : Nat) : contV l v0 1 = v0 * 64 + (l.getD 1 0).toNat % 64 := rfl
theorem contV_2 (l : List UInt8) (v0 : Nat) : contV l v0 2 = (v0 * 64 + (l.getD 1 0).toNat % 64) * 64 + (l.getD 2 0).toNat % 64 := rfl
theorem contV_3 (l : List UInt8) (v0 : Nat) : contV l v0 3 = ((v0 * 64 + (l.getD 1 0).toNat % 64) * 64 + (l.getD 2 0).toNat % 64) * 64 + (l.getD 3 0).toNat % 64 := rfl
theorem contV_le (l : List UInt8) (v0 : Nat) (h : v0 < 32) (k : Nat) (hk : k ≤ 3) : contV l v0 k < 10000000 := by
  have h1 : (l.getD 1 0).toNat % 64 < 64 := Nat.mod_lt _ (by decide)
  have h2 : (l.getD 2 0).toNat % 64 < 64 := Nat.mod_lt _ (by decide)
  have h3 : (l.getD 3 0).toNat % 64 < 64 := Nat.mod_lt _ (by decide)
  have hc : k = 0 ∨ k = 1 ∨ k = 2 ∨ k = 3 := by omega
  rcases hc with rfl | rfl | rfl | rfl
  · show v0 < _; omega
  · rw [contV_1]; omega
  · rw [contV_2]; omega
  · rw [contV_3]; omega
/-- what is told of a character of n bytes whose first gives m -/
def contR (l : List UInt8) (n m : Nat) : Nat :=
  if (∀ j, j < n - 1 → (l.getD (j + 1) 0).toNat / 64 = 2) then
    (if (n = 3 ∧ contV l m (n - 1) < 2048) ∨ (n = 4 ∧ contV l m (n - 1) < 65536) ∨ X.stands ((contV l m (n - 1) : Nat) : Int) = false then 0 else n) else 0
theorem contR_bad (l : List UInt8) (n m j : Nat) (hj : j < n - 1) (h : (l.getD (j + 1) 0).toNat / 64 ≠ 2) : contR l n m = 0 := by
  unfold contR; rw [if_neg (fun k => h (k j hj))]
theorem contR_good (l : List UInt8) (n m : Nat) (h : ∀ j, j < n - 1 → (l.getD (j + 1) 0).toNat / 64 = 2) :
    contR l n m = if (n = 3 ∧ contV l m (n - 1) < 2048) ∨ (n = 4 ∧ contV l m (n - 1) < 65536) ∨ X.stands ((contV l m (n - 1) : Nat) : Int) = false then 0 else n := by
  unfold contR; rw [if_pos h]
theorem refCh_2 (n b0 : Nat) (l : List UInt8) (hk : 194 ≤ b0 ∧ b0 ≤ 223) (hN : ¬ n < 2) : X.refCh n b0 (l.getD 1 0).toNat (l.getD 2 0).toNat (l.getD 3 0).toNat = contR l 2 (b0 % 32) := by
  unfold X.refCh
  rw [if_neg (by omega), if_pos hk]
  by_cases h1 : (l.getD 1 0).toNat / 64 = 2
  · have hg : ∀ j, j < 2 - 1 → (l.getD (j + 1) 0).toNat / 64 = 2 := by
      intro j hj
      have : j = 0 := by omega
      subst this; exact h1
    rw [contR_good _ _ _ hg, contV_1, if_neg (show ¬ (n < 2 ∨ (l.getD 1 0).toNat / 64 ≠ 2) by omega)]
    cases X.stands ((b0 % 32 * 64 + (l.getD 1 0).toNat % 64 : Nat) : Int) <;> rfl
  · rw [contR_bad l 2 _ 0 (by decide) h1, if_pos (Or.inr h1)]
theorem refCh_3 (n b0 : Nat) (l : List UInt8) (hk : 224 ≤ b0 ∧ b0 ≤ 239) (hN : ¬ n < 3) : X.refCh n b0 (l.getD 1 0).toNat (l.getD 2 0).toNat (l.getD 3 0).toNat = contR l 3 (b0 % 16) := by
  unfold X.refCh
  rw [if_neg (by omega), if_neg (by omega), if_pos hk]
  by_cases h1 : (l.getD 1 0).toNat / 64 = 2
  · by_cases h2 : (l.getD 2 0).toNat / 64 = 2
    · have hg : ∀ j, j < 3 - 1 → (l.getD (j + 1) 0).toNat / 64 = 2 := by
        intro j hj
        have : j = 0 ∨ j = 1 := by omega
        rcases this with rfl | rfl
        · exact h1
        · exact h2
      have e : contV l (b0 % 16) (3 - 1) = b0 % 16 * 4096 + (l.getD 1 0).toNat % 64 * 64 + (l.getD 2 0).toNat % 64 := by rw [contV_2]; omega
      rw [contR_good _ _ _ hg, e, if_neg (show ¬ (n < 3 ∨ (l.getD 1 0).toNat / 64 ≠ 2 ∨ (l.getD 2 0).toNat / 64 ≠ 2) by omega)]
      obtain ⟨v, hv⟩ : ∃ v, b0 % 16 * 4096 + (l.getD 1 0).toNat % 64 * 64 + (l.getD 2 0).toNat % 64 = v := ⟨_, rfl⟩
      rw [hv]
      by_cases hs : v < 2048 ∨ X.stands (v : Int) = false
      · rw [if_pos hs, if_pos (by rcases hs with h | h; exact Or.inl ⟨rfl, h⟩; exact Or.inr (Or.inr h))]
      · rw [if_neg hs, if_neg (by rintro (h | h | h); exact hs (Or.inl h.2); omega; exact hs (Or.inr h))]
    · rw [contR_bad l 3 _ 1 (by decide) h2, if_pos (Or.inr (Or.inr h2))]
  · rw [contR_bad l 3 _ 0 (by decide) h1, if_pos (Or.inr (Or.inl h1))]
theorem refCh_4 (n b0 : Nat) (l : List UInt8) (hk : 240 ≤ b0 ∧ b0 ≤ 244) (hN : ¬ n < 4) : X.refCh n b0 (l.getD 1 0).toNat (l.getD 2 0).toNat (l.getD 3 0).toNat = contR l 4 (b0 % 8) := by
  unfold X.refCh
  rw [if_neg (by omega), if_neg (by omega), if_neg (by omega), if_pos hk]
  by_cases h1 : (l.getD 1 0).toNat / 64 = 2
  · by_cases h2 : (l.getD 2 0).toNat / 64 = 2
    · by_cases h3 : (l.getD 3 0).toNat / 64 = 2
      · have hg : ∀ j, j < 4 - 1 → (l.getD (j + 1) 0).toNat / 64 = 2 := by
          intro j hj
          have : j = 0 ∨ j = 1 ∨ j = 2 := by omega
          rcases this with rfl | rfl | rfl
          · exact h1
          · exact h2
          · exact h3
        have e : contV l (b0 % 8) (4 - 1) = b0 % 8 * 262144 + (l.getD 1 0).toNat % 64 * 4096 + (l.getD 2 0).toNat % 64 * 64 + (l.getD 3 0).toNat % 64 := by rw [contV_3]; omega
        rw [contR_good _ _ _ hg, e, if_neg (show ¬ (n < 4 ∨ (l.getD 1 0).toNat / 64 ≠ 2 ∨ (l.getD 2 0).toNat / 64 ≠ 2 ∨ (l.getD 3 0).toNat / 64 ≠ 2) by omega)]
        obtain ⟨v, hv⟩ : ∃ v, b0 % 8 * 262144 + (l.getD 1 0).toNat % 64 * 4096 + (l.getD 2 0).toNat % 64 * 64 + (l.getD 3 0).toNat % 64 = v := ⟨_, rfl⟩
        rw [hv]
        by_cases hs : v < 65536 ∨ X.stands (v : Int) = false
        · rw [if_pos hs, if_pos (by rcases hs with h | h; exact Or.inr (Or.inl ⟨rfl, h⟩); exact Or.inr (Or.inr h))]
        · rw [if_neg hs, if_neg (by rintro (h | h | h); omega; exact hs (Or.inl h.2); exact hs (Or.inr h))]
      · rw [contR_bad l 4 _ 2 (by decide) h3, if_pos (Or.inr (Or.inr (Or.inr h3)))]
    · rw [contR_bad l 4 _ 1 (by decide) h2, if_pos (Or.inr (Or.inr (Or.inl h2)))]
  · rw [contR_bad l 4 _ 0 (by decide) h1, if_pos (Or.inr (Or.inl h1))]
set_option maxRecDepth 100000 in
set_option maxHeartbeats 4000000 in
theorem refChar_any (s : ByteArray) (p : Nat) (hp : p < s.size) (hs : s.size ≤ 1000000000) (W : World) :
    Calls Tryz.prog 27 #[.string s, .int .i64 p] W fun en W' => en = .returned (.int .i64 (X.charK (rest s p))) ∧ W' = W := by
  have hne : rest s p ≠ [] := fun h => by have := (rest_nil s p).1 h; omega
  rw [X.charK_ref _ hne]
  have hl : (rest s p).length = s.size - p := rest_len s p
  have hg0 : (rest s p).getD 0 0 = s[p]'hp := getD_rest (p := p) (i := 0) hp
  obtain ⟨b0, hb0⟩ : ∃ b0, (s[p]'hp).toNat = b0 := ⟨_, rfl⟩
  have hb0l : b0 < 256 := by rw [← hb0]; exact UInt8.toNat_lt _
  rw [hl, hg0, hb0]
  have t0 : decide ((s.size : Int) ≤ (p : Int)) = false := decide_eq_false (by omega)
  have t1 : decide (s.size ≤ p) = false := decide_eq_false (by omega)
  have P0 : (0 : Int) ≤ (p : Int) := by omega
  have P1 : (p : Int) < (s.size : Int) := by omega
  clear hg0 hne
  have hcas : b0 < 128 ∨ (194 ≤ b0 ∧ b0 ≤ 223) ∨ (224 ≤ b0 ∧ b0 ≤ 239) ∨ (240 ≤ b0 ∧ b0 ≤ 244) ∨ (128 ≤ b0 ∧ b0 < 194) ∨ 244 < b0 := by omega
  rcases hcas with hk | hk | hk | hk | hk | hk
  · have hr : X.refCh (s.size - p) b0 ((rest s p).getD 1 0).toNat ((rest s p).getD 2 0).toNat ((rest s p).getD 3 0).toNat = if X.stands b0 then 1 else 0 := by
      unfold X.refCh
      rw [if_pos hk]
    rw [hr]
    have lt128 : decide ((b0 : Int) < 128) = true := decide_eq_true (by omega)
    have n0 : decide ((p : Int) + 1 ≤ (s.size : Int)) = true := decide_eq_true (by omega)
    obtain ⟨st, hst⟩ : ∃ st, X.stands (b0 : Int) = st := ⟨_, rfl⟩
    have cS := fun U => refStands_any (b0 : Int) U
    rw [hst] at cS ⊢
    clear hr hk hst
    go_enter Tryz.func27, Tryz.ntmps27
    go_wp2_with fail
    go_loopw [7, 8] (fun vv vi wr => vv = .int .i64 b0 ∧ vi = .int .i64 1 ∧ wr = W) (fun _ _ _ => 0)
    case atStart => exact ⟨rfl, rfl, rfl⟩
    case round =>
      obtain ⟨rfl, rfl, rfl⟩ := hrel
      go_wp2_with fail
      refine (cS _).mono ?_
      rintro e w1 ⟨rfl, rfl⟩
      cases st
      all_goals
        go_wp2_with fail
        go_ret
        exact ⟨rfl, rfl⟩
  · obtain ⟨m, hm⟩ : ∃ m, b0 % 32 = m := ⟨_, rfl⟩
    have lt128 : decide ((b0 : Int) < 128) = false := decide_eq_false (by omega)
    have ge194 : decide ((194 : Int) ≤ (b0 : Int)) = true := decide_eq_true (by omega)
    have le223 : decide ((b0 : Int) ≤ 223) = true := decide_eq_true (by omega)
    have ge224 : decide ((224 : Int) ≤ (b0 : Int)) = false := decide_eq_false (by omega)
    have le239 : decide ((b0 : Int) ≤ 239) = true := decide_eq_true (by omega)
    have ge240 : decide ((240 : Int) ≤ (b0 : Int)) = false := decide_eq_false (by omega)
    have le244 : decide ((b0 : Int) ≤ 244) = true := decide_eq_true (by omega)
    by_cases hN : s.size - p < 2
    · have hr : X.refCh (s.size - p) b0 ((rest s p).getD 1 0).toNat ((rest s p).getD 2 0).toNat ((rest s p).getD 3 0).toNat = 0 := by
        unfold X.refCh
        rw [if_neg (by omega), if_pos hk, if_pos (Or.inl hN)]
      rw [hr]
      have n0 : decide ((p : Int) + 2 ≤ (s.size : Int)) = false := decide_eq_false (by omega)
      have n1 : decide ((s.size : Int) < (p : Int) + 2) = true := decide_eq_true (by omega)
      clear hr hk
      go_enter Tryz.func27, Tryz.ntmps27
      go_wp2_with fail
      go_ret
      exact ⟨rfl, rfl⟩
    · rw [refCh_2 _ _ _ hk hN, hm]
      have n0 : decide ((p : Int) + 2 ≤ (s.size : Int)) = true := decide_eq_true (by omega)
      have n1 : decide ((s.size : Int) < (p : Int) + 2) = false := decide_eq_false (by omega)
      have HM : Hid (((b0 : Int) % 32) = (m : Int) ∧ m < 32) := hid (by omega)
      clear hk hm
      go_enter Tryz.func27, Tryz.ntmps27
      go_wp2_with fail
      go_loopw [7, 8] (fun vv vi wr => ∃ i : Nat, vv = .int .i64 (contV (rest s p) m i : Nat) ∧ vi = .int .i64 ((i : Nat) + 1 : Int) ∧ Hid (i < 2) ∧ wr = W ∧ Hid (∀ j, j < i → ((rest s p).getD (j + 1) 0).toNat / 64 = 2)) (fun _ vi _ => 5 - (intOf vi).toNat)
      case atStart => exact ⟨0, (by rw [HM.out.1]; rfl), rfl, hid (by decide), rfl, hid (fun j hj => absurd hj (Nat.not_lt_zero j))⟩
      case round =>
        obtain ⟨i, rfl, rfl, hi, rfl, HC⟩ := hrel
        have HW : Hid True := hid trivial
        have hi := hi.out
        obtain ⟨v, hv⟩ : ∃ v, contV (rest s p) m i = v := ⟨_, rfl⟩
        have hvl : v < 10000000 := by rw [← hv]; exact contV_le _ _ HM.out.2 _ (by omega)
        rw [hv]
        by_cases hin : i + 1 < 2
        · have hps : p + (i + 1) < s.size := by omega
          obtain ⟨bi, hbi⟩ : ∃ bi, (s[p + (i + 1)]'hps).toNat = bi := ⟨_, rfl⟩
          have hbl : bi < 256 := by rw [← hbi]; exact UInt8.toNat_lt _
          have hgi : ((rest s p).getD (i + 1) 0).toNat = bi := by rw [getD_rest hps]; exact hbi
          have HV : Hid (contV (rest s p) m (i + 1) = v * 64 + bi % 64) := hid (by simp only [contV]; rw [hv, hgi])
          have g1 : decide ((i : Int) + 1 < 2) = true := decide_eq_true (by omega)
          have HG : Hid (((rest s p).getD (i + 1) 0).toNat = bi) := hid hgi
          clear hv hgi
          by_cases hb : bi / 64 = 2
          · have a1 : (bits .and .u8 (bi : Int) 192 != 128) = false := by rw [and192 _ hbl]; exact decide_eq_false (fun k => k hb)
            go_wp2_with fail
            go_roundw
            case rel =>
              refine ⟨i + 1, ?_, ?_, hid hin, trivial, ?_⟩
              · rw [or6 v bi (by omega), HV.out]
              · congr 1
              · show ∀ j, j < i + 1 → _
                intro j hj
                rcases Nat.lt_or_ge j i with h | h
                · exact HC.out j h
                · have : j = i := by omega
                  subst this; rw [HG.out]; exact hb
            case measure => simp only [intOf]; omega
          · have a1 : (bits .and .u8 (bi : Int) 192 != 128) = true := by rw [and192 _ hbl]; exact decide_eq_true hb
            go_wp2_with fail
            go_ret
            exact ⟨by rw [contR_bad _ _ _ i (by omega) (by rw [HG.out]; exact hb)]; rfl, rfl⟩
        · have hi1 : i = 2 - 1 := by omega
          have HR : Hid (contR (rest s p) 2 m = if (2 = 3 ∧ v < 2048) ∨ (2 = 4 ∧ v < 65536) ∨ X.stands (v : Int) = false then 0 else 2) := hid (by subst hi1; rw [contR_good _ _ _ HC.out, hv])
          obtain ⟨st, hst⟩ : ∃ st, X.stands (v : Int) = st := ⟨_, rfl⟩
          have cS := fun U => refStands_any (v : Int) U
          rw [hst] at cS HR
          have g1 : decide ((i : Int) + 1 < 2) = false := decide_eq_false (by omega)
          clear hst hv HC
          go_wp2_with fail
          refine (cS _).mono ?_
          rintro e w1 ⟨rfl, rfl⟩
          cases st
          all_goals
            go_wp2_with fail
            go_ret
            exact ⟨by rw [HR.out]; rfl, rfl⟩
  · obtain ⟨m, hm⟩ : ∃ m, b0 % 16 = m := ⟨_, rfl⟩
    have lt128 : decide ((b0 : Int) < 128) = false := decide_eq_false (by omega)
    have ge194 : decide ((194 : Int) ≤ (b0 : Int)) = true := decide_eq_true (by omega)
    have le223 : decide ((b0 : Int) ≤ 223) = false := decide_eq_false (by omega)
    have ge224 : decide ((224 : Int) ≤ (b0 : Int)) = true := decide_eq_true (by omega)
    have le239 : decide ((b0 : Int) ≤ 239) = true := decide_eq_true (by omega)
    have ge240 : decide ((240 : Int) ≤ (b0 : Int)) = false := decide_eq_false (by omega)
    have le244 : decide ((b0 : Int) ≤ 244) = true := decide_eq_true (by omega)
    by_cases hN : s.size - p < 3
    · have hr : X.refCh (s.size - p) b0 ((rest s p).getD 1 0).toNat ((rest s p).getD 2 0).toNat ((rest s p).getD 3 0).toNat = 0 := by
        unfold X.refCh
        rw [if_neg (by omega), if_neg (by omega), if_pos hk, if_pos (Or.inl hN)]
      rw [hr]
      have n0 : decide ((p : Int) + 3 ≤ (s.size : Int)) = false := decide_eq_false (by omega)
      have n1 : decide ((s.size : Int) < (p : Int) + 3) = true := decide_eq_true (by omega)
      clear hr hk
      go_enter Tryz.func27, Tryz.ntmps27
      go_wp2_with fail
      go_ret
      exact ⟨rfl, rfl⟩
    · rw [refCh_3 _ _ _ hk hN, hm]
      have n0 : decide ((p : Int) + 3 ≤ (s.size : Int)) = true := decide_eq_true (by omega)
      have n1 : decide ((s.size : Int) < (p : Int) + 3) = false := decide_eq_false (by omega)
      have HM : Hid (((b0 : Int) % 16) = (m : Int) ∧ m < 32) := hid (by omega)
      clear hk hm
      go_enter Tryz.func27, Tryz.ntmps27
      go_wp2_with fail
      go_loopw [7, 8] (fun vv vi wr => ∃ i : Nat, vv = .int .i64 (contV (rest s p) m i : Nat) ∧ vi = .int .i64 ((i : Nat) + 1 : Int) ∧ Hid (i < 3) ∧ wr = W ∧ Hid (∀ j, j < i → ((rest s p).getD (j + 1) 0).toNat / 64 = 2)) (fun _ vi _ => 5 - (intOf vi).toNat)
      case atStart => exact ⟨0, (by rw [HM.out.1]; rfl), rfl, hid (by decide), rfl, hid (fun j hj => absurd hj (Nat.not_lt_zero j))⟩
      case round =>
        obtain ⟨i, rfl, rfl, hi, rfl, HC⟩ := hrel
        have HW : Hid True := hid trivial
        have hi := hi.out
        obtain ⟨v, hv⟩ : ∃ v, contV (rest s p) m i = v := ⟨_, rfl⟩
        have hvl : v < 10000000 := by rw [← hv]; exact contV_le _ _ HM.out.2 _ (by omega)
        rw [hv]
        by_cases hin : i + 1 < 3
        · have hps : p + (i + 1) < s.size := by omega
          obtain ⟨bi, hbi⟩ : ∃ bi, (s[p + (i + 1)]'hps).toNat = bi := ⟨_, rfl⟩
          have hbl : bi < 256 := by rw [← hbi]; exact UInt8.toNat_lt _
          have hgi : ((rest s p).getD (i + 1) 0).toNat = bi := by rw [getD_rest hps]; exact hbi
          have HV : Hid (contV (rest s p) m (i + 1) = v * 64 + bi % 64) := hid (by simp only [contV]; rw [hv, hgi])
          have g1 : decide ((i : Int) + 1 < 3) = true := decide_eq_true (by omega)
          have HG : Hid (((rest s p).getD (i + 1) 0).toNat = bi) := hid hgi
          clear hv hgi
          by_cases hb : bi / 64 = 2
          · have a1 : (bits .and .u8 (bi : Int) 192 != 128) = false := by rw [and192 _ hbl]; exact decide_eq_false (fun k => k hb)
            go_wp2_with fail
            go_roundw
            case rel =>
              refine ⟨i + 1, ?_, ?_, hid hin, trivial, ?_⟩
              · rw [or6 v bi (by omega), HV.out]
              · congr 1
              · show ∀ j, j < i + 1 → _
                intro j hj
                rcases Nat.lt_or_ge j i with h | h
                · exact HC.out j h
                · have : j = i := by omega
                  subst this; rw [HG.out]; exact hb
            case measure => simp only [intOf]; omega
          · have a1 : (bits .and .u8 (bi : Int) 192 != 128) = true := by rw [and192 _ hbl]; exact decide_eq_true hb
            go_wp2_with fail
            go_ret
            exact ⟨by rw [contR_bad _ _ _ i (by omega) (by rw [HG.out]; exact hb)]; rfl, rfl⟩
        · have hi1 : i = 3 - 1 := by omega
          have HR : Hid (contR (rest s p) 3 m = if (3 = 3 ∧ v < 2048) ∨ (3 = 4 ∧ v < 65536) ∨ X.stands (v : Int) = false then 0 else 3) := hid (by subst hi1; rw [contR_good _ _ _ HC.out, hv])
          obtain ⟨st, hst⟩ : ∃ st, X.stands (v : Int) = st := ⟨_, rfl⟩
          have cS := fun U => refStands_any (v : Int) U
          rw [hst] at cS HR
          have g1 : decide ((i : Int) + 1 < 3) = false := decide_eq_false (by omega)
          clear hst hv HC
          by_cases hl : v < 2048
          · have hd : decide ((v : Int) < 2048) = true := decide_eq_true (by omega)
            have HR2 : Hid (contR (rest s p) 3 m = 0) := hid (by rw [HR.out, if_pos (Or.inl ⟨rfl, hl⟩)])
            go_wp2_with fail
            go_ret
            exact ⟨by rw [HR2.out]; rfl, rfl⟩
          · have hd : decide ((v : Int) < 2048) = false := decide_eq_false (by omega)
            have HR2 : Hid (contR (rest s p) 3 m = if st = false then 0 else 3) := hid (by rw [HR.out]; cases st; rw [if_pos (Or.inr (Or.inr rfl)), if_pos rfl]; rw [if_neg (by rintro (h | h | h); omega; omega; cases h), if_neg (by decide)])
            go_wp2_with fail
            refine (cS _).mono ?_
            rintro e w1 ⟨rfl, rfl⟩
            cases st
            all_goals
              go_wp2_with fail
              go_ret
              exact ⟨by rw [HR2.out]; rfl, rfl⟩
  · obtain ⟨m, hm⟩ : ∃ m, b0 % 8 = m := ⟨_, rfl⟩
    have lt128 : decide ((b0 : Int) < 128) = false := decide_eq_false (by omega)
    have ge194 : decide ((194 : Int) ≤ (b0 : Int)) = true := decide_eq_true (by omega)
    have le223 : decide ((b0 : Int) ≤ 223) = false := decide_eq_false (by omega)
    have ge224 : decide ((224 : Int) ≤ (b0 : Int)) = true := decide_eq_true (by omega)
    have le239 : decide ((b0 : Int) ≤ 239) = false := decide_eq_false (by omega)
    have ge240 : decide ((240 : Int) ≤ (b0 : Int)) = true := decide_eq_true (by omega)
    have le244 : decide ((b0 : Int) ≤ 244) = true := decide_eq_true (by omega)
    by_cases hN : s.size - p < 4
    · have hr : X.refCh (s.size - p) b0 ((rest s p).getD 1 0).toNat ((rest s p).getD 2 0).toNat ((rest s p).getD 3 0).toNat = 0 := by
        unfold X.refCh
        rw [if_neg (by omega), if_neg (by omega), if_neg (by omega), if_pos hk, if_pos (Or.inl hN)]
      rw [hr]
      have n0 : decide ((p : Int) + 4 ≤ (s.size : Int)) = false := decide_eq_false (by omega)
      have n1 : decide ((s.size : Int) < (p : Int) + 4) = true := decide_eq_true (by omega)
      clear hr hk
      go_enter Tryz.func27, Tryz.ntmps27
      go_wp2_with fail
      go_ret
      exact ⟨rfl, rfl⟩
    · rw [refCh_4 _ _ _ hk hN, hm]
      have n0 : decide ((p : Int) + 4 ≤ (s.size : Int)) = true := decide_eq_true (by omega)
      have n1 : decide ((s.size : Int) < (p : Int) + 4) = false := decide_eq_false (by omega)
      have HM : Hid (((b0 : Int) % 8) = (m : Int) ∧ m < 32) := hid (by omega)
      clear hk hm
      go_enter Tryz.func27, Tryz.ntmps27
      go_wp2_with fail
      go_loopw [7, 8] (fun vv vi wr => ∃ i : Nat, vv = .int .i64 (contV (rest s p) m i : Nat) ∧ vi = .int .i64 ((i : Nat) + 1 : Int) ∧ Hid (i < 4) ∧ wr = W ∧ Hid (∀ j, j < i → ((rest s p).getD (j + 1) 0).toNat / 64 = 2)) (fun _ vi _ => 5 - (intOf vi).toNat)
      case atStart => exact ⟨0, (by rw [HM.out.1]; rfl), rfl, hid (by decide), rfl, hid (fun j hj => absurd hj (Nat.not_lt_zero j))⟩
      case round =>
        obtain ⟨i, rfl, rfl, hi, rfl, HC⟩ := hrel
        have HW : Hid True := hid trivial
        have hi := hi.out
        obtain ⟨v, hv⟩ : ∃ v, contV (rest s p) m i = v := ⟨_, rfl⟩
        have hvl : v < 10000000 := by rw [← hv]; exact contV_le _ _ HM.out.2 _ (by omega)
        rw [hv]
        by_cases hin : i + 1 < 4
        · have hps : p + (i + 1) < s.size := by omega
          obtain ⟨bi, hbi⟩ : ∃ bi, (s[p + (i + 1)]'hps).toNat = bi := ⟨_, rfl⟩
          have hbl : bi < 256 := by rw [← hbi]; exact UInt8.toNat_lt _
          have hgi : ((rest s p).getD (i + 1) 0).toNat = bi := by rw [getD_rest hps]; exact hbi
          have HV : Hid (contV (rest s p) m (i + 1) = v * 64 + bi % 64) := hid (by simp only [contV]; rw [hv, hgi])
          have g1 : decide ((i : Int) + 1 < 4) = true := decide_eq_true (by omega)
          have HG : Hid (((rest s p).getD (i + 1) 0).toNat = bi) := hid hgi
          clear hv hgi
          by_cases hb : bi / 64 = 2
          · have a1 : (bits .and .u8 (bi : Int) 192 != 128) = false := by rw [and192 _ hbl]; exact decide_eq_false (fun k => k hb)
            go_wp2_with fail
            go_roundw
            case rel =>
              refine ⟨i + 1, ?_, ?_, hid hin, trivial, ?_⟩
              · rw [or6 v bi (by omega), HV.out]
              · congr 1
              · show ∀ j, j < i + 1 → _
                intro j hj
                rcases Nat.lt_or_ge j i with h | h
                · exact HC.out j h
                · have : j = i := by omega
                  subst this; rw [HG.out]; exact hb
            case measure => simp only [intOf]; omega
          · have a1 : (bits .and .u8 (bi : Int) 192 != 128) = true := by rw [and192 _ hbl]; exact decide_eq_true hb
            go_wp2_with fail
            go_ret
            exact ⟨by rw [contR_bad _ _ _ i (by omega) (by rw [HG.out]; exact hb)]; rfl, rfl⟩
        · have hi1 : i = 4 - 1 := by omega
          have HR : Hid (contR (rest s p) 4 m = if (4 = 3 ∧ v < 2048) ∨ (4 = 4 ∧ v < 65536) ∨ X.stands (v : Int) = false then 0 else 4) := hid (by subst hi1; rw [contR_good _ _ _ HC.out, hv])
          obtain ⟨st, hst⟩ : ∃ st, X.stands (v : Int) = st := ⟨_, rfl⟩
          have cS := fun U => refStands_any (v : Int) U
          rw [hst] at cS HR
          have g1 : decide ((i : Int) + 1 < 4) = false := decide_eq_false (by omega)
          clear hst hv HC
          by_cases hl : v < 65536
          · have hd : decide ((v : Int) < 65536) = true := decide_eq_true (by omega)
            have HR2 : Hid (contR (rest s p) 4 m = 0) := hid (by rw [HR.out, if_pos (Or.inr (Or.inl ⟨rfl, hl⟩))])
            go_wp2_with fail
            go_ret
            exact ⟨by rw [HR2.out]; rfl, rfl⟩
          · have hd : decide ((v : Int) < 65536) = false := decide_eq_false (by omega)
            have HR2 : Hid (contR (rest s p) 4 m = if st = false then 0 else 4) := hid (by rw [HR.out]; cases st; rw [if_pos (Or.inr (Or.inr rfl)), if_pos rfl]; rw [if_neg (by rintro (h | h | h); omega; omega; cases h), if_neg (by decide)])
            go_wp2_with fail
            refine (cS _).mono ?_
            rintro e w1 ⟨rfl, rfl⟩
            cases st
            all_goals
              go_wp2_with fail
              go_ret
              exact ⟨by rw [HR2.out]; rfl, rfl⟩
  · have hr : X.refCh (s.size - p) b0 ((rest s p).getD 1 0).toNat ((rest s p).getD 2 0).toNat ((rest s p).getD 3 0).toNat = 0 := by
      unfold X.refCh
      rw [if_neg (by omega), if_neg (by omega), if_neg (by omega), if_neg (by omega)]
    rw [hr]
    have lt128 : decide ((b0 : Int) < 128) = false := decide_eq_false (by omega)
    have ge194 : decide ((194 : Int) ≤ (b0 : Int)) = false := decide_eq_false (by omega)
    have le223 : decide ((b0 : Int) ≤ 223) = true := decide_eq_true (by omega)
    have ge224 : decide ((224 : Int) ≤ (b0 : Int)) = false := decide_eq_false (by omega)
    have le239 : decide ((b0 : Int) ≤ 239) = true := decide_eq_true (by omega)
    have ge240 : decide ((240 : Int) ≤ (b0 : Int)) = false := decide_eq_false (by omega)
    have le244 : decide ((b0 : Int) ≤ 244) = true := decide_eq_true (by omega)
    clear hr hk hb0l
    go_enter Tryz.func27, Tryz.ntmps27
    go_wp2_with fail
    go_ret
    exact ⟨rfl, rfl⟩
  · have hr : X.refCh (s.size - p) b0 ((rest s p).getD 1 0).toNat ((rest s p).getD 2 0).toNat ((rest s p).getD 3 0).toNat = 0 := by
      unfold X.refCh
      rw [if_neg (by omega), if_neg (by omega), if_neg (by omega), if_neg (by omega)]
    rw [hr]
    have lt128 : decide ((b0 : Int) < 128) = false := decide_eq_false (by omega)
    have ge194 : decide ((194 : Int) ≤ (b0 : Int)) = true := decide_eq_true (by omega)
    have le223 : decide ((b0 : Int) ≤ 223) = false := decide_eq_false (by omega)
    have ge224 : decide ((224 : Int) ≤ (b0 : Int)) = true := decide_eq_true (by omega)
    have le239 : decide ((b0 : Int) ≤ 239) = false := decide_eq_false (by omega)
    have ge240 : decide ((240 : Int) ≤ (b0 : Int)) = true := decide_eq_true (by omega)
    have le244 : decide ((b0 : Int) ≤ 244) = false := decide_eq_false (by omega)
    clear hr hk hb0l
    go_enter Tryz.func27, Tryz.ntmps27
    go_wp2_with fail
    go_ret
    exact ⟨rfl, rfl⟩
end Go.Proofs.YtakplnceiibmlaaGreatDoor
namespace Go.Proofs.YtakplnceiibmlaaGreatDoor
open Go.RowKit
open Go.Lib (hid)
set_option maxRecDepth 100000 in
set_option maxHeartbeats 4000000 in
theorem refEsc_any (s : ByteArray) (hs : s.size ≤ 8000) (W : World) :
    Calls Tryz.prog 12 #[.string s] W fun en W' => en = .returned (if X.okT (s.size + 1) s.data.toList then .tuple #[.string (X.ba (X.escL s.data.toList)), .bool true] else .tuple #[.string (X.ba []), .bool false]) ∧ W' = W := by
  obtain ⟨OK, hOK⟩ : ∃ OK, X.okT (s.size + 1) s.data.toList = OK := ⟨_, rfl⟩
  obtain ⟨RV, hRV⟩ : ∃ RV : Value, (if X.okT (s.size + 1) s.data.toList then .tuple #[.string (X.ba (X.escL s.data.toList)), .bool true] else .tuple #[.string (X.ba []), .bool false]) = RV := ⟨_, rfl⟩
  rw [hRV]
  have HRV : Hid ((OK = true → RV = .tuple #[.string (X.ba (X.escL s.data.toList)), .bool true]) ∧ (OK = false → RV = .tuple #[.string (X.ba []), .bool false])) := hid ⟨fun h => by rw [← hRV, hOK, h]; rfl, fun h => by rw [← hRV, hOK, h]; rfl⟩
  clear hRV
  have HO : Hid (X.okT (s.size + 1) s.data.toList = OK) := hid hOK
  clear hOK
  go_enter Tryz.func12, Tryz.ntmps12
  go_wp2_with fail
  go_loopw [4, 5, 6, 7] (fun vo vi _ _ wr => ∃ (i k : Nat), vo = .string (X.ba (X.escL (s.data.toList.take i))) ∧ vi = .int .i64 i ∧ Hid (i ≤ s.size ∧ s.size - i < k ∧ X.okT k (rest s i) = OK) ∧ Hid (wr = W)) (fun _ vi _ _ _ => s.size - (intOf vi).toNat)
  case atStart => exact ⟨0, s.size + 1, rfl, rfl, hid ⟨Nat.zero_le _, by omega, HO.out⟩, hid rfl⟩
  case round =>
    obtain ⟨i, k, rfl, rfl, HI, HW⟩ := hrel
    obtain ⟨o, ho⟩ : ∃ o, X.ba (X.escL (s.data.toList.take i)) = o := ⟨_, rfl⟩
    have HOO : Hid (X.ba (X.escL (s.data.toList.take i)) = o ∧ o.size ≤ 48000) := hid ⟨ho, by
      rw [← ho]
      show (X.escL (s.data.toList.take i)).length ≤ _
      have := X.escL_len (s.data.toList.take i)
      have h2 := List.length_take_le i s.data.toList
      have h3 : (s.data.toList.take i).length ≤ s.data.toList.length := List.length_take_le' i _
      rw [← Lib.size_eq] at h3
      omega⟩
    rw [ho]
    clear ho
    rcases Nat.lt_or_ge i s.size with hlt | hge
    · have hne : rest s i ≠ [] := fun h => by have := (rest_nil s i).1 h; omega
      obtain ⟨n, hn⟩ : ∃ n, X.charK (rest s i) = n := ⟨_, rfl⟩
      have g0 : decide ((i : Int) < (s.size : Int)) = true := decide_eq_true (by omega)
      have g1 : decide (i < s.size) = true := decide_eq_true hlt
      have cC := fun U => refChar_any s i hlt (by omega) U
      rw [hn] at cC
      by_cases h0 : n = 0
      · subst h0
        have HF : Hid (OK = false) := hid (by
          obtain ⟨k, rfl⟩ : ∃ k', k = k' + 1 := ⟨k - 1, by have := HI.out; omega⟩
          rw [← HI.out.2.2, X.okT_bad _ _ hne hn])
        go_wp2_with fail
        refine (cC _).mono ?_
        rintro e w1 ⟨rfl, rfl⟩
        go_wp2_with fail
        go_ret2
        exact ⟨by rw [HRV.out.2 HF.out]; rfl, HW.out⟩
      · have hle : i + n ≤ s.size := by
          have := X.charK_le (rest s i)
          rw [hn, rest_len] at this
          omega
        obtain ⟨a, ha⟩ : ∃ a, s.extract i (i + n) = a := ⟨_, rfl⟩
        have hat : (rest s i).take n = a.toList := by rw [← ha, rest_take]
        have HN : Hid (X.okT (k - 1) (rest s (i + n)) = OK) := hid (by
          obtain ⟨k, rfl⟩ : ∃ k', k = k' + 1 := ⟨k - 1, by have := HI.out; omega⟩
          rw [← HI.out.2.2, X.okT_go _ _ hne (by rw [hn]; exact h0), hn, rest_drop]
          rfl)
        have HT : Hid (s.data.toList.take (i + n) = s.data.toList.take i ++ a.toList) := hid (by rw [take_step, hat])
        have hcs := X.esc_case (rest s i) (by rw [hn]; exact h0) a.toList (by rw [hn]; exact hat)
        have n0 : ((n : Int) == 0) = false := beq_eq_false_iff_ne.2 (by omega)
        have P0 : (0 : Int) ≤ (i : Int) := by omega
        have P1 : (i : Int) ≤ (i : Int) + (n : Int) := by omega
        have P2 : (i : Int) + (n : Int) ≤ (s.size : Int) := by omega
        have HLE : Hid (i + n ≤ s.size ∧ 0 < n) := hid ⟨hle, by omega⟩
        have has : a.size ≤ 8000 := by
          rw [← ha, ByteArray.size_extract]
          omega
        clear hn hne hat
        rcases hcs with h | h | h | h | h | h | h | h
        · have HE : Hid (X.escL a.toList = [38, 108, 116, 59]) := hid h.2
          have e0 : (a.toList == [60]) = true := by rw [h.1]; rfl
          have hno : ¬ 9223372036854775807 < o.size + 4 := by have := HOO.out.2; omega
          clear h
          go_wp2_with fail
          refine (cC _).mono ?_
          rintro e w1 ⟨rfl, rfl⟩
          go_wp2_with fail
          refine ⟨⟨i + n, k - 1, ?_, ?_, hid ⟨HLE.out.1, by have := HI.out; have := HLE.out; omega, HN.out⟩, HW⟩, ?_⟩
          · rw [HT.out, X.escL_app, HE.out, ← X.ba_add, HOO.out.1]; rfl
          · congr 1
          · have := HLE.out
            simp only [intOf]
            omega
        · have HE : Hid (X.escL a.toList = [38, 103, 116, 59]) := hid h.2
          have e0 : (a.toList == [60]) = false := by rw [h.1]; rfl
          have e1 : (a.toList == [62]) = true := by rw [h.1]; rfl
          have hno : ¬ 9223372036854775807 < o.size + 4 := by have := HOO.out.2; omega
          clear h
          go_wp2_with fail
          refine (cC _).mono ?_
          rintro e w1 ⟨rfl, rfl⟩
          go_wp2_with fail
          refine ⟨⟨i + n, k - 1, ?_, ?_, hid ⟨HLE.out.1, by have := HI.out; have := HLE.out; omega, HN.out⟩, HW⟩, ?_⟩
          · rw [HT.out, X.escL_app, HE.out, ← X.ba_add, HOO.out.1]; rfl
          · congr 1
          · have := HLE.out
            simp only [intOf]
            omega
        · have HE : Hid (X.escL a.toList = [38, 97, 109, 112, 59]) := hid h.2
          have e0 : (a.toList == [60]) = false := by rw [h.1]; rfl
          have e1 : (a.toList == [62]) = false := by rw [h.1]; rfl
          have e2 : (a.toList == [38]) = true := by rw [h.1]; rfl
          have hno : ¬ 9223372036854775807 < o.size + 5 := by have := HOO.out.2; omega
          clear h
          go_wp2_with fail
          refine (cC _).mono ?_
          rintro e w1 ⟨rfl, rfl⟩
          go_wp2_with fail
          refine ⟨⟨i + n, k - 1, ?_, ?_, hid ⟨HLE.out.1, by have := HI.out; have := HLE.out; omega, HN.out⟩, HW⟩, ?_⟩
          · rw [HT.out, X.escL_app, HE.out, ← X.ba_add, HOO.out.1]; rfl
          · congr 1
          · have := HLE.out
            simp only [intOf]
            omega
        · have HE : Hid (X.escL a.toList = [38, 113, 117, 111, 116, 59]) := hid h.2
          have e0 : (a.toList == [60]) = false := by rw [h.1]; rfl
          have e1 : (a.toList == [62]) = false := by rw [h.1]; rfl
          have e2 : (a.toList == [38]) = false := by rw [h.1]; rfl
          have e3 : (a.toList == [34]) = true := by rw [h.1]; rfl
          have hno : ¬ 9223372036854775807 < o.size + 6 := by have := HOO.out.2; omega
          clear h
          go_wp2_with fail
          refine (cC _).mono ?_
          rintro e w1 ⟨rfl, rfl⟩
          go_wp2_with fail
          refine ⟨⟨i + n, k - 1, ?_, ?_, hid ⟨HLE.out.1, by have := HI.out; have := HLE.out; omega, HN.out⟩, HW⟩, ?_⟩
          · rw [HT.out, X.escL_app, HE.out, ← X.ba_add, HOO.out.1]; rfl
          · congr 1
          · have := HLE.out
            simp only [intOf]
            omega
        · have HE : Hid (X.escL a.toList = [38, 35, 57, 59]) := hid h.2
          have e0 : (a.toList == [60]) = false := by rw [h.1]; rfl
          have e1 : (a.toList == [62]) = false := by rw [h.1]; rfl
          have e2 : (a.toList == [38]) = false := by rw [h.1]; rfl
          have e3 : (a.toList == [34]) = false := by rw [h.1]; rfl
          have e4 : (a.toList == [9]) = true := by rw [h.1]; rfl
          have hno : ¬ 9223372036854775807 < o.size + 4 := by have := HOO.out.2; omega
          clear h
          go_wp2_with fail
          refine (cC _).mono ?_
          rintro e w1 ⟨rfl, rfl⟩
          go_wp2_with fail
          refine ⟨⟨i + n, k - 1, ?_, ?_, hid ⟨HLE.out.1, by have := HI.out; have := HLE.out; omega, HN.out⟩, HW⟩, ?_⟩
          · rw [HT.out, X.escL_app, HE.out, ← X.ba_add, HOO.out.1]; rfl
          · congr 1
          · have := HLE.out
            simp only [intOf]
            omega
        · have HE : Hid (X.escL a.toList = [38, 35, 49, 48, 59]) := hid h.2
          have e0 : (a.toList == [60]) = false := by rw [h.1]; rfl
          have e1 : (a.toList == [62]) = false := by rw [h.1]; rfl
          have e2 : (a.toList == [38]) = false := by rw [h.1]; rfl
          have e3 : (a.toList == [34]) = false := by rw [h.1]; rfl
          have e4 : (a.toList == [9]) = false := by rw [h.1]; rfl
          have e5 : (a.toList == [10]) = true := by rw [h.1]; rfl
          have hno : ¬ 9223372036854775807 < o.size + 5 := by have := HOO.out.2; omega
          clear h
          go_wp2_with fail
          refine (cC _).mono ?_
          rintro e w1 ⟨rfl, rfl⟩
          go_wp2_with fail
          refine ⟨⟨i + n, k - 1, ?_, ?_, hid ⟨HLE.out.1, by have := HI.out; have := HLE.out; omega, HN.out⟩, HW⟩, ?_⟩
          · rw [HT.out, X.escL_app, HE.out, ← X.ba_add, HOO.out.1]; rfl
          · congr 1
          · have := HLE.out
            simp only [intOf]
            omega
        · have HE : Hid (X.escL a.toList = [38, 35, 49, 51, 59]) := hid h.2
          have e0 : (a.toList == [60]) = false := by rw [h.1]; rfl
          have e1 : (a.toList == [62]) = false := by rw [h.1]; rfl
          have e2 : (a.toList == [38]) = false := by rw [h.1]; rfl
          have e3 : (a.toList == [34]) = false := by rw [h.1]; rfl
          have e4 : (a.toList == [9]) = false := by rw [h.1]; rfl
          have e5 : (a.toList == [10]) = false := by rw [h.1]; rfl
          have e6 : (a.toList == [13]) = true := by rw [h.1]; rfl
          have hno : ¬ 9223372036854775807 < o.size + 5 := by have := HOO.out.2; omega
          clear h
          go_wp2_with fail
          refine (cC _).mono ?_
          rintro e w1 ⟨rfl, rfl⟩
          go_wp2_with fail
          refine ⟨⟨i + n, k - 1, ?_, ?_, hid ⟨HLE.out.1, by have := HI.out; have := HLE.out; omega, HN.out⟩, HW⟩, ?_⟩
          · rw [HT.out, X.escL_app, HE.out, ← X.ba_add, HOO.out.1]; rfl
          · congr 1
          · have := HLE.out
            simp only [intOf]
            omega
        · have HE : Hid (X.escL a.toList = a.toList) := hid h.2
          have e0 : (a.toList == [60]) = false := beq_eq_false_iff_ne.2 h.1.1
          have e1 : (a.toList == [62]) = false := beq_eq_false_iff_ne.2 h.1.2.1
          have e2 : (a.toList == [38]) = false := beq_eq_false_iff_ne.2 h.1.2.2.1
          have e3 : (a.toList == [34]) = false := beq_eq_false_iff_ne.2 h.1.2.2.2.1
          have e4 : (a.toList == [9]) = false := beq_eq_false_iff_ne.2 h.1.2.2.2.2.1
          have e5 : (a.toList == [10]) = false := beq_eq_false_iff_ne.2 h.1.2.2.2.2.2.1
          have e6 : (a.toList == [13]) = false := beq_eq_false_iff_ne.2 h.1.2.2.2.2.2.2
          have hno : ¬ 9223372036854775807 < o.size + a.size := by have := HOO.out.2; omega
          clear h
          go_wp2_with fail
          refine (cC _).mono ?_
          rintro e w1 ⟨rfl, rfl⟩
          go_wp2_with fail
          refine ⟨⟨i + n, k - 1, ?_, ?_, hid ⟨HLE.out.1, by have := HI.out; have := HLE.out; omega, HN.out⟩, HW⟩, ?_⟩
          · rw [HT.out, X.escL_app, HE.out, ← X.ba_add, HOO.out.1]; rw [show X.ba a.toList = a by rw [ByteArray.toList_eq]; exact ba_self a]
          · congr 1
          · have := HLE.out
            simp only [intOf]
            omega
    · have g0 : decide ((i : Int) < (s.size : Int)) = false := decide_eq_false (by omega)
      have g1 : decide (i < s.size) = false := decide_eq_false (by omega)
      have HE : Hid (OK = true ∧ X.ba (X.escL s.data.toList) = o) := hid ⟨by rw [← HI.out.2.2, (rest_nil s i).2 hge, X.okT_nil], by rw [← HOO.out.1, List.take_of_length_le (by rw [← Lib.size_eq]; exact hge)]⟩
      go_wp2_with fail
      go_ret2
      exact ⟨by rw [HRV.out.1 HE.out.1, HE.out.2]; rfl, HW.out⟩
end Go.Proofs.YtakplnceiibmlaaGreatDoor
