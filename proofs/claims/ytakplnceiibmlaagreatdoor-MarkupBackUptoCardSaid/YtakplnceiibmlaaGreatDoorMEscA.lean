/- Plain: characters by the document reckoning; escapes. -/
import Derived.Test.YtakplnceiibmlaaGreatDoorMPlainB
import Derived.Test.YtakplnceiibmlaaGreatDoorWPlainB
import Derived.Test.YtakplnceiibmlaaGreatDoorMRd4
import Derived.Test.YtakplnceiibmlaaGreatDoorMResA
namespace Go.Proofs.YtakplnceiibmlaaGreatDoor
namespace X
open Go.Lib
/-- how long the character is, by the first four bytes; 0: there is none that may stand -/
def refCh (n b0 b1 b2 b3 : Nat) : Nat :=
  if b0 < 128 then (if stands b0 then 1 else 0)
  else if 194 ≤ b0 ∧ b0 ≤ 223 then
    if n < 2 ∨ b1 / 64 ≠ 2 then 0 else if stands ((b0 % 32 * 64 + b1 % 64 : Nat) : Int) then 2 else 0
  else if 224 ≤ b0 ∧ b0 ≤ 239 then
    if n < 3 ∨ b1 / 64 ≠ 2 ∨ b2 / 64 ≠ 2 then 0 else if b0 % 16 * 4096 + b1 % 64 * 64 + b2 % 64 < 2048 ∨ stands ((b0 % 16 * 4096 + b1 % 64 * 64 + b2 % 64 : Nat) : Int) = false then 0 else 3
  else if 240 ≤ b0 ∧ b0 ≤ 244 then
    if n < 4 ∨ b1 / 64 ≠ 2 ∨ b2 / 64 ≠ 2 ∨ b3 / 64 ≠ 2 then 0 else if b0 % 8 * 262144 + b1 % 64 * 4096 + b2 % 64 * 64 + b3 % 64 < 65536 ∨ stands ((b0 % 8 * 262144 + b1 % 64 * 4096 + b2 % 64 * 64 + b3 % 64 : Nat) : Int) = false then 0 else 4
  else 0
def decK (d : Nat × Nat) : Nat := if (d.1 = 65533 ∧ d.2 = 1) ∨ stands d.1 = false then 0 else d.2
theorem stands_iff (c : Int) : stands c = true ↔ (c = 9 ∨ c = 10 ∨ c = 13) ∨ (32 ≤ c ∧ c ≤ 55295) ∨ (57344 ≤ c ∧ c ≤ 65533) ∨ (65536 ≤ c ∧ c ≤ 1114111) := by
  unfold stands
  simp only [Bool.or_eq_true, decide_eq_true_eq, or_assoc]
theorem stands_not (c : Int) : stands c = false ↔ ¬ ((c = 9 ∨ c = 10 ∨ c = 13) ∨ (32 ≤ c ∧ c ≤ 55295) ∨ (57344 ≤ c ∧ c ≤ 65533) ∨ (65536 ≤ c ∧ c ≤ 1114111)) := by
  rw [← stands_iff]; simp
theorem refCh_dec (n b0 b1 b2 b3 : Nat) (h0 : b0 < 256) (_h1 : b1 < 256) (_h2 : b2 < 256) (_h3 : b3 < 256) : refCh n b0 b1 b2 b3 = decK (decodeN n b0 b1 b2 b3) := by
  have hbad : decK (65533, 1) = 0 := by unfold decK; rw [if_pos (Or.inl ⟨rfl, rfl⟩)]
  by_cases k1 : b0 < 128
  · unfold refCh decodeN
    rw [if_pos k1, if_pos k1]
    unfold decK
    simp only
    cases hs : stands (b0 : Int)
    · rw [if_neg (by decide), if_pos (Or.inr rfl)]
    · rw [if_pos rfl, if_neg]
      rintro (h | h)
      · omega
      · cases h
  · by_cases k2 : 194 ≤ b0 ∧ b0 ≤ 223
    · have hr : refCh n b0 b1 b2 b3 = if n < 2 ∨ b1 / 64 ≠ 2 then 0 else if stands ((b0 % 32 * 64 + b1 % 64 : Nat) : Int) then 2 else 0 := by unfold refCh; rw [if_neg k1, if_pos k2]
      rw [hr]
      by_cases c : n < 2 ∨ b1 / 64 ≠ 2
      · have hd : decodeN n b0 b1 b2 b3 = (65533, 1) := by unfold decodeN; rw [if_neg k1, if_neg (show ¬ (b0 / 32 = 6 ∧ (1 < n ∧ b1 / 64 = 2)) by omega), if_neg (show ¬ (b0 / 16 = 14 ∧ (1 < n ∧ b1 / 64 = 2) ∧ (2 < n ∧ b2 / 64 = 2)) by omega), if_neg (show ¬ (b0 / 8 = 30 ∧ (1 < n ∧ b1 / 64 = 2) ∧ (2 < n ∧ b2 / 64 = 2) ∧ (3 < n ∧ b3 / 64 = 2)) by omega)]
        rw [if_pos c, hd, hbad]
      · have hd : decodeN n b0 b1 b2 b3 = (b0 % 32 * 64 + b1 % 64, 2) := by unfold decodeN; rw [if_neg k1, if_pos (show (b0 / 32 = 6 ∧ (1 < n ∧ b1 / 64 = 2)) by omega), if_pos (by omega)]
        rw [if_neg c, hd]
        obtain ⟨v, hv⟩ : ∃ v, b0 % 32 * 64 + b1 % 64 = v := ⟨_, rfl⟩
        rw [hv]
        unfold decK
        simp only
        cases hs : stands (v : Int)
        · rw [if_neg (by decide), if_pos (Or.inr rfl)]
        · rw [if_pos rfl, if_neg]
          rintro (h | h)
          · omega
          · cases h
    · by_cases k3 : 224 ≤ b0 ∧ b0 ≤ 239
      · have hr : refCh n b0 b1 b2 b3 = if n < 3 ∨ b1 / 64 ≠ 2 ∨ b2 / 64 ≠ 2 then 0 else if b0 % 16 * 4096 + b1 % 64 * 64 + b2 % 64 < 2048 ∨ stands ((b0 % 16 * 4096 + b1 % 64 * 64 + b2 % 64 : Nat) : Int) = false then 0 else 3 := by unfold refCh; rw [if_neg k1, if_neg k2, if_pos k3]
        rw [hr]
        have n1 : ¬ (b0 / 32 = 6 ∧ (1 < n ∧ b1 / 64 = 2)) := by omega
        by_cases c : n < 3 ∨ b1 / 64 ≠ 2 ∨ b2 / 64 ≠ 2
        · have hd : decodeN n b0 b1 b2 b3 = (65533, 1) := by unfold decodeN; rw [if_neg k1, if_neg n1, if_neg (show ¬ (b0 / 16 = 14 ∧ (1 < n ∧ b1 / 64 = 2) ∧ (2 < n ∧ b2 / 64 = 2)) by omega), if_neg (show ¬ (b0 / 8 = 30 ∧ (1 < n ∧ b1 / 64 = 2) ∧ (2 < n ∧ b2 / 64 = 2) ∧ (3 < n ∧ b3 / 64 = 2)) by omega)]
          rw [if_pos c, hd, hbad]
        · have hd : decodeN n b0 b1 b2 b3 = if b0 % 16 * 4096 + b1 % 64 * 64 + b2 % 64 ≥ 2048 ∧ (b0 % 16 * 4096 + b1 % 64 * 64 + b2 % 64 < 55296 ∨ (57344 ≤ b0 % 16 * 4096 + b1 % 64 * 64 + b2 % 64 ∧ b0 % 16 * 4096 + b1 % 64 * 64 + b2 % 64 ≤ 1114111)) then (b0 % 16 * 4096 + b1 % 64 * 64 + b2 % 64, 3) else (65533, 1) := by unfold decodeN; rw [if_neg k1, if_neg n1, if_pos (show (b0 / 16 = 14 ∧ (1 < n ∧ b1 / 64 = 2) ∧ (2 < n ∧ b2 / 64 = 2)) by omega)]
          rw [if_neg c, hd]
          obtain ⟨v, hv⟩ : ∃ v, b0 % 16 * 4096 + b1 % 64 * 64 + b2 % 64 = v := ⟨_, rfl⟩
          rw [hv]
          by_cases hg : v ≥ 2048 ∧ (v < 55296 ∨ (57344 ≤ v ∧ v ≤ 1114111))
          · rw [if_pos hg]
            unfold decK
            simp only
            cases hs : stands (v : Int)
            · rw [if_pos (Or.inr rfl), if_pos (Or.inr rfl)]
            · rw [if_neg (by rintro (h | h); omega; cases h), if_neg (by rintro (h | h); omega; cases h)]
          · rw [if_neg hg, hbad, if_pos]
            by_cases hl : v < 2048
            · exact Or.inl hl
            · exact Or.inr ((stands_not _).2 (by omega))
      · by_cases k4 : 240 ≤ b0 ∧ b0 ≤ 244
        · have hr : refCh n b0 b1 b2 b3 = if n < 4 ∨ b1 / 64 ≠ 2 ∨ b2 / 64 ≠ 2 ∨ b3 / 64 ≠ 2 then 0 else if b0 % 8 * 262144 + b1 % 64 * 4096 + b2 % 64 * 64 + b3 % 64 < 65536 ∨ stands ((b0 % 8 * 262144 + b1 % 64 * 4096 + b2 % 64 * 64 + b3 % 64 : Nat) : Int) = false then 0 else 4 := by unfold refCh; rw [if_neg k1, if_neg k2, if_neg k3, if_pos k4]
          rw [hr]
          have n1 : ¬ (b0 / 32 = 6 ∧ (1 < n ∧ b1 / 64 = 2)) := by omega
          have n2 : ¬ (b0 / 16 = 14 ∧ (1 < n ∧ b1 / 64 = 2) ∧ (2 < n ∧ b2 / 64 = 2)) := by omega
          by_cases c : n < 4 ∨ b1 / 64 ≠ 2 ∨ b2 / 64 ≠ 2 ∨ b3 / 64 ≠ 2
          · have hd : decodeN n b0 b1 b2 b3 = (65533, 1) := by unfold decodeN; rw [if_neg k1, if_neg n1, if_neg n2, if_neg (show ¬ (b0 / 8 = 30 ∧ (1 < n ∧ b1 / 64 = 2) ∧ (2 < n ∧ b2 / 64 = 2) ∧ (3 < n ∧ b3 / 64 = 2)) by omega)]
            rw [if_pos c, hd, hbad]
          · have hd : decodeN n b0 b1 b2 b3 = if b0 % 8 * 262144 + b1 % 64 * 4096 + b2 % 64 * 64 + b3 % 64 ≥ 65536 ∧ (b0 % 8 * 262144 + b1 % 64 * 4096 + b2 % 64 * 64 + b3 % 64 < 55296 ∨ (57344 ≤ b0 % 8 * 262144 + b1 % 64 * 4096 + b2 % 64 * 64 + b3 % 64 ∧ b0 % 8 * 262144 + b1 % 64 * 4096 + b2 % 64 * 64 + b3 % 64 ≤ 1114111)) then (b0 % 8 * 262144 + b1 % 64 * 4096 + b2 % 64 * 64 + b3 % 64, 4) else (65533, 1) := by unfold decodeN; rw [if_neg k1, if_neg n1, if_neg n2, if_pos (show (b0 / 8 = 30 ∧ (1 < n ∧ b1 / 64 = 2) ∧ (2 < n ∧ b2 / 64 = 2) ∧ (3 < n ∧ b3 / 64 = 2)) by omega)]
            rw [if_neg c, hd]
            obtain ⟨v, hv⟩ : ∃ v, b0 % 8 * 262144 + b1 % 64 * 4096 + b2 % 64 * 64 + b3 % 64 = v := ⟨_, rfl⟩
            rw [hv]
            by_cases hg : v ≥ 65536 ∧ (v < 55296 ∨ (57344 ≤ v ∧ v ≤ 1114111))
            · rw [if_pos hg]
              unfold decK
              simp only
              cases hs : stands (v : Int)
              · rw [if_pos (Or.inr rfl), if_pos (Or.inr rfl)]
              · rw [if_neg (by rintro (h | h); omega; cases h), if_neg (by rintro (h | h); omega; cases h)]
            · rw [if_neg hg, hbad, if_pos]
              by_cases hl : v < 65536
              · exact Or.inl hl
              · exact Or.inr ((stands_not _).2 (by omega))
        · have hr : refCh n b0 b1 b2 b3 = 0 := by unfold refCh; rw [if_neg k1, if_neg k2, if_neg k3, if_neg k4]
          have hd : decodeN n b0 b1 b2 b3 = (65533, 1) := by
            unfold decodeN
            rw [if_neg k1]
            by_cases c : b0 / 32 = 6 ∧ (1 < n ∧ b1 / 64 = 2)
            · rw [if_pos c]; exact if_neg (by omega)
            · rw [if_neg c, if_neg (show ¬ (b0 / 16 = 14 ∧ (1 < n ∧ b1 / 64 = 2) ∧ (2 < n ∧ b2 / 64 = 2)) by omega)]
              by_cases c4 : b0 / 8 = 30 ∧ (1 < n ∧ b1 / 64 = 2) ∧ (2 < n ∧ b2 / 64 = 2) ∧ (3 < n ∧ b3 / 64 = 2)
              · rw [if_pos c4]; exact if_neg (by omega)
              · exact if_neg c4
          rw [hr, hd, hbad]
/-- the length of the character that begins a text -/
def charK (l : List UInt8) : Nat := if l = [] then 0 else decK (decodeL l)
theorem charK_ref (l : List UInt8) (hl : l ≠ []) : charK l = refCh l.length (l.getD 0 0).toNat (l.getD 1 0).toNat (l.getD 2 0).toNat (l.getD 3 0).toNat := by
  unfold charK
  rw [if_neg hl, W.decodeL_N, refCh_dec _ _ _ _ _ (UInt8.toNat_lt _) (UInt8.toNat_lt _) (UInt8.toNat_lt _) (UInt8.toNat_lt _)]
/-- the bytes that stand for a byte -/
def escB (c : UInt8) : List UInt8 :=
  if c = 60 then [38, 108, 116, 59] else if c = 62 then [38, 103, 116, 59] else if c = 38 then [38, 97, 109, 112, 59] else if c = 34 then [38, 113, 117, 111, 116, 59] else if c = 9 then [38, 35, 57, 59] else if c = 10 then [38, 35, 49, 48, 59] else if c = 13 then [38, 35, 49, 51, 59] else [c]
def escL (l : List UInt8) : List UInt8 := l.flatMap escB
/-- are these all characters? -/
def okT : Nat → List UInt8 → Bool
  | 0, _ => true
  | f + 1, l => if l = [] then true else if charK l = 0 then false else okT f (l.drop (charK l))
end X
end Go.Proofs.YtakplnceiibmlaaGreatDoor
namespace Go.Proofs.YtakplnceiibmlaaGreatDoor
namespace X
open Go.Lib
theorem mem_take_getD (l : List UInt8) (n : Nat) (b : UInt8) (h : b ∈ l.take n) : ∃ j, j < n ∧ l.getD j 0 = b := by
  obtain ⟨j, hj, e⟩ := List.getElem_of_mem h
  rw [List.getElem_take] at e
  rw [List.length_take] at hj
  exact ⟨j, by omega, by rw [List.getD_eq_getElem?_getD, List.getElem?_eq_getElem (by omega)]; exact e⟩
theorem escB_self (c : UInt8) (h : c ≠ 60 ∧ c ≠ 62 ∧ c ≠ 38 ∧ c ≠ 34 ∧ c ≠ 9 ∧ c ≠ 10 ∧ c ≠ 13) : escB c = [c] := by
  unfold escB
  rw [if_neg h.1, if_neg h.2.1, if_neg h.2.2.1, if_neg h.2.2.2.1, if_neg h.2.2.2.2.1, if_neg h.2.2.2.2.2.1, if_neg h.2.2.2.2.2.2]
theorem escB_high (c : UInt8) (h : 128 ≤ c.toNat) : escB c = [c] := by
  refine escB_self c ⟨?_, ?_, ?_, ?_, ?_, ?_, ?_⟩ <;> (rintro rfl; exact absurd h (by decide))
theorem escL_high (l : List UInt8) (h : ∀ b ∈ l, 128 ≤ b.toNat) : escL l = l := by
  induction l with
  | nil => rfl
  | cons a r ih =>
    show escB a ++ escL r = _
    rw [escB_high a (h a List.mem_cons_self), ih (fun b hb => h b (List.mem_cons_of_mem _ hb))]
    rfl
theorem escL_app (a b : List UInt8) : escL (a ++ b) = escL a ++ escL b := List.flatMap_append
theorem escB_len (c : UInt8) : (escB c).length ≤ 6 := by
  unfold escB
  repeat' split
  all_goals (simp only [List.length_cons, List.length_nil]; omega)
theorem escL_len (l : List UInt8) : (escL l).length ≤ 6 * l.length := by
  induction l with
  | nil => exact Nat.zero_le _
  | cons a r ih =>
    show (escB a ++ escL r).length ≤ _
    have := escB_len a
    rw [List.length_append, List.length_cons]
    omega
theorem charK_le (l : List UInt8) : charK l ≤ l.length := by
  unfold charK
  split
  · omega
  · rename_i h
    have := decodeL_le l h
    unfold decK
    split
    · omega
    · exact this
/-- one byte below 128, or several of 128 and more -/
theorem charK_case (l : List UInt8) (h : charK l ≠ 0) : (∃ b r, l = b :: r ∧ charK l = 1 ∧ b.toNat < 128) ∨ (∀ b ∈ l.take (charK l), 128 ≤ b.toNat) := by
  have hne : l ≠ [] := by rintro rfl; exact h rfl
  have hle := charK_le l
  have hr := charK_ref l hne
  match l, hne with
  | b0 :: r, _ =>
    rw [show (b0 :: r).getD 0 0 = b0 from rfl] at hr
    by_cases k1 : b0.toNat < 128
    · refine Or.inl ⟨b0, r, rfl, ?_, k1⟩
      rw [hr] at h ⊢
      unfold refCh at h ⊢
      rw [if_pos k1] at h ⊢
      cases hs : stands (b0.toNat : Int)
      · rw [hs] at h; exact absurd rfl h
      · rfl
    · refine Or.inr ?_
      rw [hr] at h hle ⊢
      unfold refCh at h hle ⊢
      rw [if_neg k1] at h hle ⊢
      have hb0 : 128 ≤ b0.toNat := by omega
      split at h
      · rename_i k2
        rw [if_pos k2] at hle ⊢
        split at h
        · exact absurd rfl h
        · rename_i k3
          rw [if_neg k3] at hle ⊢
          split at h
          · rename_i k4
            rw [if_pos k4] at hle ⊢
            intro b hb
            obtain ⟨j, hj, rfl⟩ := mem_take_getD _ _ _ hb
            have hj' : j = 0 ∨ j = 1 := by omega
            rcases hj' with rfl | rfl
            · exact hb0
            · omega
          · exact absurd rfl h
      · rename_i k2
        rw [if_neg k2] at hle ⊢
        split at h
        · rename_i k5
          rw [if_pos k5] at hle ⊢
          split at h
          · exact absurd rfl h
          · rename_i k3
            rw [if_neg k3] at hle ⊢
            split at h
            · exact absurd rfl h
            · rename_i k4
              rw [if_neg k4] at hle ⊢
              intro b hb
              obtain ⟨j, hj, rfl⟩ := mem_take_getD _ _ _ hb
              have hj' : j = 0 ∨ j = 1 ∨ j = 2 := by omega
              rcases hj' with rfl | rfl | rfl
              · exact hb0
              · omega
              · omega
        · rename_i k5
          rw [if_neg k5] at hle ⊢
          split at h
          · rename_i k6
            rw [if_pos k6] at hle ⊢
            split at h
            · exact absurd rfl h
            · rename_i k3
              rw [if_neg k3] at hle ⊢
              split at h
              · exact absurd rfl h
              · rename_i k4
                rw [if_neg k4] at hle ⊢
                intro b hb
                obtain ⟨j, hj, rfl⟩ := mem_take_getD _ _ _ hb
                have hj' : j = 0 ∨ j = 1 ∨ j = 2 ∨ j = 3 := by omega
                rcases hj' with rfl | rfl | rfl | rfl
                · exact hb0
                · omega
                · omega
                · omega
          · exact absurd rfl h
theorem esc_case (l : List UInt8) (h : charK l ≠ 0) (t : List UInt8) (ht : l.take (charK l) = t) :
    (t = [60] ∧ escL t = [38, 108, 116, 59]) ∨ (t = [62] ∧ escL t = [38, 103, 116, 59]) ∨ (t = [38] ∧ escL t = [38, 97, 109, 112, 59]) ∨ (t = [34] ∧ escL t = [38, 113, 117, 111, 116, 59]) ∨ (t = [9] ∧ escL t = [38, 35, 57, 59]) ∨ (t = [10] ∧ escL t = [38, 35, 49, 48, 59]) ∨ (t = [13] ∧ escL t = [38, 35, 49, 51, 59]) ∨
    ((t ≠ [60] ∧ t ≠ [62] ∧ t ≠ [38] ∧ t ≠ [34] ∧ t ≠ [9] ∧ t ≠ [10] ∧ t ≠ [13]) ∧ escL t = t) := by
  by_cases c1 : t = [60]
  · exact Or.inl ⟨c1, by rw [c1]; rfl⟩
  refine Or.inr ?_
  by_cases c2 : t = [62]
  · exact Or.inl ⟨c2, by rw [c2]; rfl⟩
  refine Or.inr ?_
  by_cases c3 : t = [38]
  · exact Or.inl ⟨c3, by rw [c3]; rfl⟩
  refine Or.inr ?_
  by_cases c4 : t = [34]
  · exact Or.inl ⟨c4, by rw [c4]; rfl⟩
  refine Or.inr ?_
  by_cases c5 : t = [9]
  · exact Or.inl ⟨c5, by rw [c5]; rfl⟩
  refine Or.inr ?_
  by_cases c6 : t = [10]
  · exact Or.inl ⟨c6, by rw [c6]; rfl⟩
  refine Or.inr ?_
  by_cases c7 : t = [13]
  · exact Or.inl ⟨c7, by rw [c7]; rfl⟩
  refine Or.inr ⟨⟨c1, c2, c3, c4, c5, c6, c7⟩, ?_⟩
  rcases charK_case l h with ⟨b, r, rfl, hk, hb⟩ | hh
  · rw [hk] at ht
    have e : t = [b] := ht.symm
    subst e
    show escB b ++ [] = _
    rw [List.append_nil, escB_self b ⟨fun k => c1 (by rw [k]), fun k => c2 (by rw [k]), fun k => c3 (by rw [k]), fun k => c4 (by rw [k]), fun k => c5 (by rw [k]), fun k => c6 (by rw [k]), fun k => c7 (by rw [k])⟩]
  · rw [← ht]; exact escL_high _ hh
theorem okT_nil (f : Nat) : okT f [] = true := by cases f <;> rfl
theorem okT_bad (f : Nat) (l : List UInt8) (hl : l ≠ []) (h : charK l = 0) : okT (f + 1) l = false := by
  show (if l = [] then true else if charK l = 0 then false else okT f (l.drop (charK l))) = _
  rw [if_neg hl, if_pos h]
theorem okT_go (f : Nat) (l : List UInt8) (hl : l ≠ []) (h : charK l ≠ 0) : okT (f + 1) l = okT f (l.drop (charK l)) := by
  show (if l = [] then true else if charK l = 0 then false else okT f (l.drop (charK l))) = _
  rw [if_neg hl, if_neg h]
/-- fuel beyond the length changes nothing -/
theorem okT_fuel : ∀ (n f g : Nat) (l : List UInt8), l.length ≤ n → l.length < f → l.length < g → okT f l = okT g l := by
  intro n
  induction n with
  | zero =>
    intro f g l h _ _
    have : l = [] := List.length_eq_zero_iff.1 (by omega)
    subst this
    rw [okT_nil, okT_nil]
  | succ n ih =>
    intro f g l h hf hg
    by_cases hl : l = []
    · subst hl; rw [okT_nil, okT_nil]
    · obtain ⟨f, rfl⟩ : ∃ f', f = f' + 1 := ⟨f - 1, by omega⟩
      obtain ⟨g, rfl⟩ : ∃ g', g = g' + 1 := ⟨g - 1, by omega⟩
      by_cases hc : charK l = 0
      · rw [okT_bad f l hl hc, okT_bad g l hl hc]
      · rw [okT_go f l hl hc, okT_go g l hl hc]
        have := charK_le l
        exact ih f g _ (by rw [List.length_drop]; omega) (by rw [List.length_drop]; omega) (by rw [List.length_drop]; omega)
theorem ba_add (a b : List UInt8) : ba a ++ ba b = ba (a ++ b) := by
  apply ByteArray.ext
  simp [ba]
end X
theorem rest_take (s : ByteArray) (i n : Nat) : (s.extract i (i + n)).toList = (rest s i).take n := by
  rw [W.extract_eq]
  exact ba_toList _
theorem take_step (s : ByteArray) (i n : Nat) : s.data.toList.take (i + n) = s.data.toList.take i ++ (rest s i).take n := by
  unfold rest
  exact List.take_add
end Go.Proofs.YtakplnceiibmlaaGreatDoor
