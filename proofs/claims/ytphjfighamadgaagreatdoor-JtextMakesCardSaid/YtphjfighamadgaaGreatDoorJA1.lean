/- Plain laws: what the reader and the printer of JSON compute. No program in sight. -/
import Derived.Lib.ValidLaws
import Derived.Lib.TrimU
import Derived.Lib.DecodeNEq
import Derived.Lib.ParseIntBTie
import Derived.Lib.ItoaLen
import Derived.RowKit
namespace Go.Proofs.YtphjfighamadgaaGreatDoor
namespace W

/-- a letter -/
def letter (n : Nat) : Bool := decide (97 ≤ n ∧ n ≤ 122) || decide (65 ≤ n ∧ n ≤ 90)
/-- what may stand behind the first place only -/
def other (n : Nat) : Bool := decide (48 ≤ n ∧ n ≤ 57) || decide (n = 45) || decide (n = 95) || decide (n = 46)
/-- may the byte stand at the place? -/
def stands (i n : Nat) : Bool := letter n || (other n && decide (i ≠ 0))
/-- do all bytes from a place on stand? -/
def standsAll : Nat → List UInt8 → Bool
  | _, [] => true
  | i, c :: r => stands i c.toNat && standsAll (i + 1) r
/-- a name -/
def nameB (l : List UInt8) : Bool := decide (1 ≤ l.length ∧ l.length ≤ 32) && standsAll 0 l

theorem standsAll_append : ∀ (l r : List UInt8) (i : Nat), standsAll i (l ++ r) = (standsAll i l && standsAll (i + l.length) r)
  | [], r, i => by simp [standsAll]
  | c :: l, r, i => by
    simp only [List.cons_append, standsAll, standsAll_append l r (i + 1), List.length_cons, Bool.and_assoc]
    rw [show i + 1 + l.length = i + (l.length + 1) from by omega]

theorem take_snoc (s : ByteArray) (k : Nat) (h : k < s.size) : s.data.toList.take (k + 1) = s.data.toList.take k ++ [s[k]] := by
  rw [List.take_succ_eq_append_getElem (by simpa using h)]; rfl
theorem drop_cons (s : ByteArray) (k : Nat) (h : k < s.size) : s.data.toList.drop k = s[k] :: s.data.toList.drop (k + 1) := by
  rw [List.drop_eq_getElem_cons (by simpa using h)]; rfl

/-- a round of the search -/
theorem stands_round (s : ByteArray) (k : Nat) (h : k < s.size) : standsAll k (s.data.toList.drop k) = (stands k s[k].toNat && standsAll (k + 1) (s.data.toList.drop (k + 1))) := by
  rw [drop_cons s k h]; rfl
theorem stands_end (s : ByteArray) : standsAll s.size (s.data.toList.drop s.size) = true := by
  rw [List.drop_of_length_le (by simp)]; rfl
theorem nameB_len (s : ByteArray) (h : ¬ (1 ≤ s.size ∧ s.size ≤ 32)) : nameB s.data.toList = false := by
  unfold nameB
  rw [decide_eq_false (by simpa using h)]; rfl
theorem nameB_of (s : ByteArray) (h : 1 ≤ s.size ∧ s.size ≤ 32) : nameB s.data.toList = standsAll 0 s.data.toList := by
  unfold nameB
  rw [decide_eq_true (by simpa using h)]; simp
/-- may all bytes stand somewhere? -/
def okAll : List UInt8 → Bool
  | [] => true
  | c :: r => (letter c.toNat || other c.toNat) && okAll r
theorem okAll_of : ∀ (l : List UInt8) (i : Nat), 0 < i → standsAll i l = okAll l
  | [], _, _ => rfl
  | c :: l, i, h => by
    have hi : i ≠ 0 := by omega
    simp only [standsAll, okAll, okAll_of l (i + 1) (by omega), stands, hi, ne_eq, not_false_eq_true, decide_true, Bool.and_true]
theorem stands_first (s : ByteArray) (h : 0 < s.size) : standsAll 0 s.data.toList = (letter s[0].toNat && okAll s.data.toList) := by
  have e : s.data.toList = s[0] :: s.data.toList.drop 1 := by have := drop_cons s 0 h; simpa using this
  rw [e]
  simp only [standsAll, okAll, okAll_of _ 1 (by omega), stands, ne_eq, not_true_eq_false, decide_false, Bool.and_false, Bool.or_false]
  cases letter s[0].toNat <;> simp
theorem ok_round (s : ByteArray) (k : Nat) (h : k < s.size) : okAll (s.data.toList.drop k) = ((letter s[k].toNat || other s[k].toNat) && okAll (s.data.toList.drop (k + 1))) := by
  rw [drop_cons s k h]; rfl
theorem ok_end (s : ByteArray) : okAll (s.data.toList.drop s.size) = true := by
  rw [List.drop_of_length_le (by simp)]; rfl
end W
end Go.Proofs.YtphjfighamadgaaGreatDoor
namespace Go.Proofs.YtphjfighamadgaaGreatDoor
namespace W
open Go.Lib

/-- may the number be a character? -/
def charOk (c : Int) : Bool := decide (0 ≤ c ∧ c ≤ 55295) || decide (57344 ≤ c ∧ c ≤ 1114111)
/-- the bytes of a character, as numbers -/
def charB (n : Nat) : List Nat :=
  if n ≤ 127 then [n]
  else if n ≤ 2047 then [192 + n / 64, 128 + n % 64]
  else if n ≤ 65535 then [224 + n / 4096, 128 + n / 64 % 64, 128 + n % 64]
  else [240 + n / 262144, 128 + n / 4096 % 64, 128 + n / 64 % 64, 128 + n % 64]
def charN (n : Nat) : List UInt8 := (charB n).map UInt8.ofNat
def charL (c : Int) : List UInt8 := if charOk c then charN c.toNat else []

theorem charB_lt (n : Nat) (h : n ≤ 1114111) : ∀ x ∈ charB n, x < 256 := by
  unfold charB
  repeat' split
  all_goals simp
  all_goals omega
theorem charN_toNat (n : Nat) (h : n ≤ 1114111) : (charN n).map UInt8.toNat = charB n := by
  unfold charN
  rw [List.map_map]
  conv => rhs; rw [← List.map_id (charB n)]
  apply List.map_congr_left
  intro x hx
  have := charB_lt n h x hx
  simp; omega
theorem toNat_inj : ∀ (l r : List UInt8), l.map UInt8.toNat = r.map UInt8.toNat → l = r
  | [], [], _ => rfl
  | [], _ :: _, h => by simp at h
  | _ :: _, [], h => by simp at h
  | a :: l, b :: r, h => by
    simp only [List.map_cons, List.cons.injEq] at h
    rw [UInt8.toNat_inj.1 h.1, toNat_inj l r h.2]
theorem charN_eq (n : Nat) (h : n ≤ 1114111) (l : List UInt8) : charN n = l ↔ charB n = l.map UInt8.toNat :=
  ⟨fun e => by rw [← e, charN_toNat n h], fun e => toNat_inj _ _ (by rw [charN_toNat n h, e])⟩
theorem charN_encode (n : Nat) (h : charOk n = true) : (Utf8.encode (n : Int)).data.toList = charN n := by
  simp only [charOk, Bool.or_eq_true, decide_eq_true_eq] at h
  have hv : Utf8.valid (n : Int) = true := by simp [Utf8.valid]; omega
  unfold Utf8.encode charN charB
  simp only [hv, ite_true, Int.toNat_natCast]
  by_cases h1 : n ≤ 127
  · rw [if_pos (by omega), if_pos h1]; rfl
  · rw [if_neg (by omega), if_neg h1]
    by_cases h2 : n ≤ 2047
    · rw [if_pos (by omega), if_pos h2]; rfl
    · rw [if_neg (by omega), if_neg h2]
      by_cases h3 : n ≤ 65535
      · rw [if_pos (by omega), if_pos h3]; rfl
      · rw [if_neg (by omega), if_neg h3]; rfl

/-- what begins at the head of bytes: the character, its width, whether there is one -/
def headD (l : List UInt8) : Int × Int × Bool :=
  if (decodeL l).1 = 65533 ∧ (decodeL l).2 = 1 then (0, 0, false) else ((decodeL l).1, (decodeL l).2, true)
/-- what begins at a place -/
def atD (l : List UInt8) (i : Int) : Int × Int × Bool := if 0 ≤ i ∧ i < l.length then headD (l.drop i.toNat) else (0, 0, false)

/-- the document's answer: how many bytes the first one tells, and what is left of it -/
def refW (b : Nat) : Nat := if 240 ≤ b then 4 else if 224 ≤ b then 3 else if 192 ≤ b then 2 else 1
def refV (b : Nat) : Int := if 240 ≤ b then (b : Int) - 240 else if 224 ≤ b then (b : Int) - 224 else if 192 ≤ b then (b : Int) - 192 else b
/-- with so many bytes taken -/
def refC (l : List UInt8) : Nat → Int
  | 0 => refV (l.getD 0 0).toNat
  | k + 1 => refC l k * 64 + ((l.getD (k + 1) 0).toNat : Int) - 128
def refD (l : List UInt8) : Int × Int × Bool :=
  let n := refW (l.getD 0 0).toNat
  if l.length < n then (0, 0, false)
  else if charOk (refC l (n - 1)) && decide (charL (refC l (n - 1)) = l.take n) then (refC l (n - 1), n, true) else (0, 0, false)

theorem refC_bound (l : List UInt8) (k : Nat) (h : k ≤ 3) : -1000000 ≤ refC l k ∧ refC l k ≤ 100000000 := by
  have hb : ∀ j, (l.getD j 0).toNat < 256 := fun j => UInt8.toNat_lt _
  have h0 := hb 0
  have h1 := hb 1
  have h2 := hb 2
  have h3 := hb 3
  have hv : -1 ≤ refV (l.getD 0 0).toNat ∧ refV (l.getD 0 0).toNat ≤ 255 := by unfold refV; repeat' split <;> omega
  match k, h with
  | 0, _ => simp only [refC]; omega
  | 1, _ => simp only [refC, Nat.zero_add]; omega
  | 2, _ => simp only [refC, Nat.zero_add, Nat.reduceAdd]; omega
  | 3, _ => simp only [refC, Nat.zero_add, Nat.reduceAdd]; omega

theorem decodeL_N (l : List UInt8) : decodeL l = decodeN l.length (l.getD 0 0).toNat (l.getD 1 0).toNat (l.getD 2 0).toNat (l.getD 3 0).toNat := by
  have hg : ∀ i, ((⟨l.toArray⟩ : ByteArray).get! i) = l.getD i 0 := by
    intro i
    show l.toArray[i]! = _
    by_cases h : i < l.length
    · simp [h]
    · simp [h]
      rfl
  unfold decodeL
  rw [decode_at]
  simp only [hg, Nat.zero_add, Nat.sub_zero]
  congr 1

theorem take_getD : ∀ (l : List UInt8) (n : Nat), n ≤ l.length → l.take n = (List.range n).map fun i => l.getD i 0 := by
  intro l n h
  apply List.ext_getElem?
  intro i
  by_cases hi : i < n
  · rw [List.getElem?_take_of_lt hi]
    simp [hi, show i < l.length by omega]
  · rw [List.getElem?_eq_none (by simp; omega), List.getElem?_eq_none (by simp; omega)]

theorem charL_eq (c : Int) (l : List UInt8) (h : charOk c = true) : charL c = l ↔ charB c.toNat = l.map UInt8.toNat := by
  unfold charL
  rw [if_pos h]
  refine charN_eq _ ?_ l
  simp only [charOk, Bool.or_eq_true, decide_eq_true_eq] at h
  omega

theorem two_iff (b0 b1 : Nat) (c : Int) (h0 : 192 ≤ b0 ∧ b0 < 224) (h1 : b1 < 256) (hc : c = ((b0 : Int) - 192) * 64 + (b1 : Int) - 128) :
    (charOk c = true ∧ charB c.toNat = [b0, b1]) ↔ (b1 / 64 = 2 ∧ 128 ≤ b0 % 32 * 64 + b1 % 64 ∧ c = ((b0 % 32 * 64 + b1 % 64 : Nat) : Int)) := by
  simp only [charOk, Bool.or_eq_true, decide_eq_true_eq, charB]
  by_cases a1 : c.toNat ≤ 127
  · simp [a1]; omega
  · by_cases a2 : c.toNat ≤ 2047
    · simp [a1, a2]; omega
    · by_cases a3 : c.toNat ≤ 65535
      · simp [a1, a2, a3]; omega
      · simp [a1, a2, a3]; omega
theorem three_iff (b0 b1 b2 : Nat) (c : Int) (_h0 : 224 ≤ b0 ∧ b0 < 240) (h1 : b1 < 256) (h2 : b2 < 256) (hc : c = (((b0 : Int) - 224) * 64 + (b1 : Int) - 128) * 64 + (b2 : Int) - 128) :
    (charOk c = true ∧ charB c.toNat = [b0, b1, b2]) ↔ (b1 / 64 = 2 ∧ b2 / 64 = 2 ∧ 2048 ≤ b0 % 16 * 4096 + b1 % 64 * 64 + b2 % 64 ∧ (b0 % 16 * 4096 + b1 % 64 * 64 + b2 % 64 < 55296 ∨ (57344 ≤ b0 % 16 * 4096 + b1 % 64 * 64 + b2 % 64 ∧ b0 % 16 * 4096 + b1 % 64 * 64 + b2 % 64 ≤ 1114111)) ∧ c = ((b0 % 16 * 4096 + b1 % 64 * 64 + b2 % 64 : Nat) : Int)) := by
  simp only [charOk, Bool.or_eq_true, decide_eq_true_eq, charB]
  by_cases a1 : c.toNat ≤ 127
  · simp [a1]; omega
  · by_cases a2 : c.toNat ≤ 2047
    · simp [a1, a2]; omega
    · by_cases a3 : c.toNat ≤ 65535
      · simp [a1, a2, a3]; omega
      · simp [a1, a2, a3]; omega
theorem four_iff (b0 b1 b2 b3 : Nat) (c : Int) (h0 : 240 ≤ b0 ∧ b0 < 256) (h1 : b1 < 256) (h2 : b2 < 256) (h3 : b3 < 256) (hc : c = ((((b0 : Int) - 240) * 64 + (b1 : Int) - 128) * 64 + (b2 : Int) - 128) * 64 + (b3 : Int) - 128) :
    (charOk c = true ∧ charB c.toNat = [b0, b1, b2, b3]) ↔ (b0 / 8 = 30 ∧ b1 / 64 = 2 ∧ b2 / 64 = 2 ∧ b3 / 64 = 2 ∧ 65536 ≤ b0 % 8 * 262144 + b1 % 64 * 4096 + b2 % 64 * 64 + b3 % 64 ∧ b0 % 8 * 262144 + b1 % 64 * 4096 + b2 % 64 * 64 + b3 % 64 ≤ 1114111 ∧ c = ((b0 % 8 * 262144 + b1 % 64 * 4096 + b2 % 64 * 64 + b3 % 64 : Nat) : Int)) := by
  simp only [charOk, Bool.or_eq_true, decide_eq_true_eq, charB]
  by_cases a1 : c.toNat ≤ 127
  · simp [a1]; omega
  · by_cases a2 : c.toNat ≤ 2047
    · simp [a1, a2]; omega
    · by_cases a3 : c.toNat ≤ 65535
      · simp [a1, a2, a3]; omega
      · simp [a1, a2, a3]; omega
theorem one_iff (b0 : Nat) (c : Int) (h0 : b0 < 192) (hc : c = (b0 : Int)) : (charOk c = true ∧ charB c.toNat = [b0]) ↔ b0 < 128 := by
  subst hc
  simp only [charOk, Bool.or_eq_true, decide_eq_true_eq, charB, Int.toNat_natCast]
  by_cases a1 : b0 ≤ 127
  · simp [a1]; omega
  · simp [a1, show b0 ≤ 2047 by omega]; omega
/-- the test that the document's answer makes -/
theorem test_iff (c : Int) (l : List UInt8) : (charOk c && decide (charL c = l)) = true ↔ (charOk c = true ∧ charB c.toNat = l.map UInt8.toNat) := by
  rw [Bool.and_eq_true, decide_eq_true_eq]
  constructor
  · rintro ⟨a, b⟩; exact ⟨a, (charL_eq c l a).1 b⟩
  · rintro ⟨a, b⟩; exact ⟨a, (charL_eq c l a).2 b⟩

set_option maxHeartbeats 2000000 in
/-- THE DOCUMENT's ANSWER IS THE DECODER's -/
theorem refD_head (l : List UInt8) (hl : 0 < l.length) : refD l = headD l := by
  have hb : ∀ j, (l.getD j 0).toNat < 256 := fun j => UInt8.toNat_lt _
  have h0 := hb 0
  have h1 := hb 1
  have h2 := hb 2
  have h3 := hb 3
  have T1 : 1 ≤ l.length → (l.take 1).map UInt8.toNat = [(l.getD 0 0).toNat] := fun h => by rw [take_getD l 1 h]; rfl
  have T2 : 2 ≤ l.length → (l.take 2).map UInt8.toNat = [(l.getD 0 0).toNat, (l.getD 1 0).toNat] := fun h => by rw [take_getD l 2 h]; rfl
  have T3 : 3 ≤ l.length → (l.take 3).map UInt8.toNat = [(l.getD 0 0).toNat, (l.getD 1 0).toNat, (l.getD 2 0).toNat] := fun h => by rw [take_getD l 3 h]; rfl
  have T4 : 4 ≤ l.length → (l.take 4).map UInt8.toNat = [(l.getD 0 0).toNat, (l.getD 1 0).toNat, (l.getD 2 0).toNat, (l.getD 3 0).toNat] := fun h => by rw [take_getD l 4 h]; rfl
  have C0 : refC l 0 = refV (l.getD 0 0).toNat := rfl
  have C1 : refC l 1 = refV (l.getD 0 0).toNat * 64 + ((l.getD 1 0).toNat : Int) - 128 := rfl
  have C2 : refC l 2 = (refV (l.getD 0 0).toNat * 64 + ((l.getD 1 0).toNat : Int) - 128) * 64 + ((l.getD 2 0).toNat : Int) - 128 := rfl
  have C3 : refC l 3 = ((refV (l.getD 0 0).toNat * 64 + ((l.getD 1 0).toNat : Int) - 128) * 64 + ((l.getD 2 0).toNat : Int) - 128) * 64 + ((l.getD 3 0).toNat : Int) - 128 := rfl
  have I : ∀ n, (charOk (refC l (n - 1)) && decide (charL (refC l (n - 1)) = l.take n)) = true ↔ (charOk (refC l (n - 1)) = true ∧ charB (refC l (n - 1)).toNat = (l.take n).map UInt8.toNat) := fun n => test_iff _ _
  unfold headD refD
  rw [decodeL_N]
  generalize (l.getD 0 0).toNat = b0 at *
  generalize (l.getD 1 0).toNat = b1 at *
  generalize (l.getD 2 0).toNat = b2 at *
  generalize (l.getD 3 0).toNat = b3 at *
  have bad : decodeN l.length b0 b1 b2 b3 = (65533, 1) → (if (decodeN l.length b0 b1 b2 b3).1 = 65533 ∧ (decodeN l.length b0 b1 b2 b3).2 = 1 then ((0 : Int), (0 : Int), false) else (((decodeN l.length b0 b1 b2 b3).1 : Int), ((decodeN l.length b0 b1 b2 b3).2 : Int), true)) = (0, 0, false) := fun e => by rw [e]; simp
  have good : ∀ c n : Nat, decodeN l.length b0 b1 b2 b3 = (c, n) → ¬ (c = 65533 ∧ n = 1) → (if (decodeN l.length b0 b1 b2 b3).1 = 65533 ∧ (decodeN l.length b0 b1 b2 b3).2 = 1 then ((0 : Int), (0 : Int), false) else (((decodeN l.length b0 b1 b2 b3).1 : Int), ((decodeN l.length b0 b1 b2 b3).2 : Int), true)) = ((c : Int), (n : Int), true) := fun c n e h => by rw [e]; exact if_neg h
  have e4 := I 4
  have e3 := I 3
  have e2 := I 2
  have e1 := I 1
  clear I
  by_cases k4 : 240 ≤ b0
  · have hw : refW b0 = 4 := by unfold refW; rw [if_pos k4]
    have hv : refV b0 = (b0 : Int) - 240 := by unfold refV; rw [if_pos k4]
    simp only [hw]
    by_cases hN : l.length < 4
    · rw [if_pos hN]
      exact (bad (by unfold decodeN; rw [if_neg (by omega), if_neg (by omega), if_neg (by omega), if_neg (by omega)])).symm
    · rw [if_neg hN]
      rw [T4 (by omega)] at e4
      have F := e4.trans (four_iff b0 b1 b2 b3 _ ⟨k4, h0⟩ h1 h2 h3 (by show refC l 3 = _; rw [C3, hv]))
      by_cases hT : (charOk (refC l (4 - 1)) && decide (charL (refC l (4 - 1)) = l.take 4)) = true
      · rw [if_pos hT]
        obtain ⟨f1, f2, f3, f4, f5, f6, f7⟩ := F.1 hT
        rw [good _ 4 (by unfold decodeN; rw [if_neg (by omega), if_neg (by omega), if_neg (by omega), if_pos (by omega), if_pos (by omega)]) (by omega), f7]
      · rw [if_neg hT]
        refine (bad ?_).symm
        unfold decodeN
        rw [if_neg (by omega), if_neg (by omega), if_neg (by omega)]
        by_cases hc : b0 / 8 = 30 ∧ (1 < l.length ∧ b1 / 64 = 2) ∧ (2 < l.length ∧ b2 / 64 = 2) ∧ (3 < l.length ∧ b3 / 64 = 2)
        · rw [if_pos hc]
          exact if_neg (fun hq => hT (F.2 ⟨hc.1, hc.2.1.2, hc.2.2.1.2, hc.2.2.2.2, by omega, by omega, by show refC l 3 = _; rw [C3, hv]; omega⟩))
        · exact if_neg hc
  · by_cases k3 : 224 ≤ b0
    · have hw : refW b0 = 3 := by unfold refW; rw [if_neg k4, if_pos k3]
      have hv : refV b0 = (b0 : Int) - 224 := by unfold refV; rw [if_neg k4, if_pos k3]
      simp only [hw]
      by_cases hN : l.length < 3
      · rw [if_pos hN]
        exact (bad (by unfold decodeN; rw [if_neg (by omega), if_neg (by omega), if_neg (by omega), if_neg (by omega)])).symm
      · rw [if_neg hN]
        rw [T3 (by omega)] at e3
        have F := e3.trans (three_iff b0 b1 b2 _ ⟨k3, by omega⟩ h1 h2 (by show refC l 2 = _; rw [C2, hv]))
        by_cases hT : (charOk (refC l (3 - 1)) && decide (charL (refC l (3 - 1)) = l.take 3)) = true
        · rw [if_pos hT]
          obtain ⟨f2, f3, f4, f5, f7⟩ := F.1 hT
          rw [good _ 3 (by unfold decodeN; rw [if_neg (by omega), if_neg (by omega), if_pos (by omega), if_pos ⟨f4, f5⟩]) (by omega), f7]
        · rw [if_neg hT]
          refine (bad ?_).symm
          unfold decodeN
          rw [if_neg (by omega), if_neg (by omega)]
          by_cases hc : b0 / 16 = 14 ∧ (1 < l.length ∧ b1 / 64 = 2) ∧ (2 < l.length ∧ b2 / 64 = 2)
          · rw [if_pos hc]
            exact if_neg (fun hq => hT (F.2 ⟨hc.2.1.2, hc.2.2.2, hq.1, hq.2, by show refC l 2 = _; rw [C2, hv]; omega⟩))
          · rw [if_neg hc]
            exact if_neg (by omega)
    · by_cases k2 : 192 ≤ b0
      · have hw : refW b0 = 2 := by unfold refW; rw [if_neg k4, if_neg k3, if_pos k2]
        have hv : refV b0 = (b0 : Int) - 192 := by unfold refV; rw [if_neg k4, if_neg k3, if_pos k2]
        simp only [hw]
        by_cases hN : l.length < 2
        · rw [if_pos hN]
          exact (bad (by unfold decodeN; rw [if_neg (by omega), if_neg (by omega), if_neg (by omega), if_neg (by omega)])).symm
        · rw [if_neg hN]
          rw [T2 (by omega)] at e2
          have F := e2.trans (two_iff b0 b1 _ ⟨k2, by omega⟩ h1 (by show refC l 1 = _; rw [C1, hv]))
          by_cases hT : (charOk (refC l (2 - 1)) && decide (charL (refC l (2 - 1)) = l.take 2)) = true
          · rw [if_pos hT]
            obtain ⟨f2, f4, f7⟩ := F.1 hT
            rw [good _ 2 (by unfold decodeN; rw [if_neg (by omega), if_pos (by omega), if_pos (by omega)]) (by omega), f7]
          · rw [if_neg hT]
            refine (bad ?_).symm
            unfold decodeN
            rw [if_neg (by omega)]
            by_cases hc : b0 / 32 = 6 ∧ (1 < l.length ∧ b1 / 64 = 2)
            · rw [if_pos hc]
              exact if_neg (fun hq => hT (F.2 ⟨hc.2.2, by omega, by show refC l 1 = _; rw [C1, hv]; omega⟩))
            · rw [if_neg hc, if_neg (by omega)]
              exact if_neg (by omega)
      · have hw : refW b0 = 1 := by unfold refW; rw [if_neg k4, if_neg k3, if_neg k2]
        have hv : refV b0 = (b0 : Int) := by unfold refV; rw [if_neg k4, if_neg k3, if_neg k2]
        simp only [hw]
        rw [if_neg (show ¬ l.length < 1 by omega)]
        rw [T1 (by omega)] at e1
        have F := e1.trans (one_iff b0 _ (by omega) (by show refC l 0 = _; rw [C0, hv]))
        by_cases hT : (charOk (refC l (1 - 1)) && decide (charL (refC l (1 - 1)) = l.take 1)) = true
        · rw [if_pos hT]
          have f := F.1 hT
          rw [good b0 1 (by unfold decodeN; rw [if_pos f]) (by omega), show refC l (1 - 1) = (b0 : Int) by show refC l 0 = _; rw [C0, hv]]
        · rw [if_neg hT]
          refine (bad ?_).symm
          have G := fun r => hT (F.2 r)
          unfold decodeN
          rw [if_neg G, if_neg (by omega), if_neg (by omega)]
          exact if_neg (by omega)
end W
end Go.Proofs.YtphjfighamadgaaGreatDoor
namespace Go.Proofs.YtphjfighamadgaaGreatDoor
namespace J
/-- JSON values one behind the other: kind, truth, number, text, the values in it, their names; the rest -/
inductive T where
  | nil
  | cons (k : Nat) (b : Bool) (n : Int) (s : ByteArray) (l : T) (ns : List ByteArray) (r : T)
/-- one value -/
structure V where
  k : Nat
  b : Bool
  n : Int
  s : ByteArray
  l : T
  ns : List ByteArray
def T.length : T → Nat
  | .nil => 0
  | .cons _ _ _ _ _ _ r => r.length + 1
def T.app : T → T → T
  | .nil, m => m
  | .cons k b n s l ns r, m => .cons k b n s l ns (r.app m)
def V.one (v : V) : T := .cons v.k v.b v.n v.s v.l v.ns .nil
def T.snoc (t : T) (v : V) : T := t.app v.one
theorem T.app_length : ∀ (a b : T), (a.app b).length = a.length + b.length
  | .nil, b => by simp [T.app, T.length]
  | .cons _ _ _ _ _ _ r, b => by simp only [T.app, T.length, T.app_length r b]; omega
theorem T.app_nil : ∀ (a : T), a.app .nil = a
  | .nil => rfl
  | .cons _ _ _ _ _ _ r => by simp only [T.app, T.app_nil r]
theorem T.app_assoc : ∀ (a b c : T), (a.app b).app c = a.app (b.app c)
  | .nil, _, _ => rfl
  | .cons _ _ _ _ _ _ r, b, c => by simp only [T.app, T.app_assoc r b c]
def V.zero : V := ⟨0, false, 0, ⟨#[]⟩, .nil, []⟩
/-- what is read, and the rest; or how much was left where it fell, and the error -/
abbrev Res (α : Type) := Except (Nat × Int) (α × List UInt8)
/-- what was read, turned -/
def on {α β : Type} (f : α → β) : Res α → Res β
  | .ok (a, r) => .ok (f a, r)
  | .error e => .error e
def blank (c : UInt8) : Bool := c == 32 || c == 9 || c == 10 || c == 13
def skip : List UInt8 → List UInt8
  | [] => []
  | c :: r => if blank c then skip r else c :: r
theorem skip_length : ∀ (l : List UInt8), (skip l).length ≤ l.length
  | [] => Nat.le_refl _
  | c :: r => by
    unfold skip
    split
    · have := skip_length r; simp; omega
    · exact Nat.le_refl _
theorem skip_suffix : ∀ (l : List UInt8), ∃ k, k ≤ l.length ∧ skip l = l.drop k
  | [] => ⟨0, Nat.le_refl _, rfl⟩
  | c :: r => by
    unfold skip
    split
    · obtain ⟨k, h1, h2⟩ := skip_suffix r
      exact ⟨k + 1, by simp; omega, h2⟩
    · exact ⟨0, Nat.zero_le _, rfl⟩
def word : List UInt8 → List UInt8 → Res Unit
  | [], l => .ok ((), l)
  | _ :: _, [] => .error (0, 4)
  | c :: w, d :: l => if d = c then word w l else .error (l.length + 1, 4)
def dig (c : UInt8) : Bool := decide (48 ≤ c.toNat ∧ c.toNat ≤ 57)
def numV (ds : List UInt8) : Nat := ds.foldl (fun a c => 10 * a + (c.toNat - 48)) 0
def num (l : List UInt8) : Res Int :=
  let neg := l.head? == some 45
  let l1 := if neg then l.drop 1 else l
  let ds := l1.takeWhile dig
  let rest := l1.dropWhile dig
  match ds with
  | [] => .error (l1.length, 4)
  | d :: more =>
    if d = 48 ∧ more ≠ [] then .error (l1.length - 1, 4)
    else if neg = true ∧ d = 48 then .error (l1.length, 4)
    else if neg = true then (if numV ds ≤ 9223372036854775808 then .ok (-(numV ds : Nat), rest) else .error (l.length, 91))
    else if numV ds ≤ 9223372036854775807 then .ok ((numV ds : Nat), rest) else .error (l.length, 91)
def hexV (c : UInt8) : Option Nat :=
  if 48 ≤ c.toNat ∧ c.toNat ≤ 57 then some (c.toNat - 48)
  else if 97 ≤ c.toNat ∧ c.toNat ≤ 102 then some (c.toNat - 87)
  else if 65 ≤ c.toNat ∧ c.toNat ≤ 70 then some (c.toNat - 55) else none
def four : List UInt8 → Option Nat
  | a :: b :: c :: d :: _ => match hexV a, hexV b, hexV c, hexV d with
    | some x, some y, some z, some u => some (((x * 16 + y) * 16 + z) * 16 + u)
    | _, _, _, _ => none
  | _ => none
/-- a sign behind a backslash that stands for one byte -/
def sign (c : UInt8) : Option UInt8 :=
  if c = 34 then some 34 else if c = 92 then some 92 else if c = 47 then some 47 else if c = 98 then some 8 else if c = 102 then some 12 else if c = 110 then some 10 else if c = 114 then some 13 else if c = 116 then some 9 else none
/-- the number of a unit and perhaps of a second one, and what is left; r: behind the backslash and the u -/
def unit (r : List UInt8) : Option (Int × List UInt8) :=
  match four r with
  | none => none
  | some v =>
    if 55296 ≤ v ∧ v ≤ 56319 then
      match r.drop 4 with
      | 92 :: 117 :: r2 => match four r2 with
        | some lo => if 56320 ≤ lo ∧ lo ≤ 57343 then some (65536 + ((v : Int) - 55296) * 1024 + (lo : Int) - 56320, r2.drop 4) else none
        | none => none
      | _ => none
    else some ((v : Int), r.drop 4)
/-- l begins with a backslash -/
def esc (l : List UInt8) : Res (List UInt8) :=
  match l.drop 1 with
  | [] => .error (l.length, 4)
  | c :: r => match sign c with
    | some d => .ok ([d], r)
    | none =>
      if c = 117 then
        match unit r with
        | some (v, rest) => if W.charOk v then .ok (W.charL v, rest) else .error (l.length, 4)
        | none => .error (l.length, 4)
      else .error (l.length, 4)
/-- what stands behind a string's first quote -/
def str : Nat → List UInt8 → Res (List UInt8)
  | 0, l => .error (l.length, 4)
  | _ + 1, [] => .error (0, 4)
  | f + 1, c :: r =>
    if c = 34 then .ok ([], r)
    else if c = 92 then
      match esc (c :: r) with
      | .error e => .error e
      | .ok (u, r1) => match str f r1 with
        | .error e => .error e
        | .ok (t, r2) => .ok (u ++ t, r2)
    else if c.toNat < 32 then .error (r.length + 1, 4)
    else if (W.headD (c :: r)).2.2 then
      match str f ((c :: r).drop (W.headD (c :: r)).2.1.toNat) with
      | .error e => .error e
      | .ok (t, r2) => .ok ((c :: r).take (W.headD (c :: r)).2.1.toNat ++ t, r2)
    else .error (r.length + 1, 4)
/-- a string; blanks are passed already -/
def text (l : List UInt8) : Res (List UInt8) :=
  match l with
  | 34 :: r => str (r.length + 1) r
  | _ => .error (l.length, 4)
/-- a name and the colon behind it; the names that were there -/
def name (ns : List ByteArray) (l : List UInt8) : Res ByteArray :=
  match text l with
  | .error e => .error e
  | .ok (t, l2) =>
    if t ∈ ns.map (fun x => x.data.toList) then .error (l.length, 6)
    else match skip l2 with
      | 58 :: l3 => .ok (⟨t.toArray⟩, l3)
      | l3 => .error (l3.length, 4)
/-- what stands in brackets: values one behind the other, with names or without -/
def elems (val : List UInt8 → Res V) (obj : Bool) : Nat → T → List ByteArray → List UInt8 → Res (T × List ByteArray)
  | 0, _, _, l => .error (l.length, 4)
  | f + 1, t, ns, l =>
    match (if obj then (match name ns (skip l) with | .error e => .error e | .ok (x, r) => .ok (ns ++ [x], r)) else .ok (ns, skip l) : Res (List ByteArray)) with
    | .error e => .error e
    | .ok (ns', l4) => match val l4 with
      | .error e => .error e
      | .ok (v, l5) => match skip l5 with
        | [] => .error (0, 4)
        | c :: l6 =>
          if c = (if obj then 125 else 93) then .ok ((t.snoc v, ns'), l6)
          else if c = 44 then elems val obj f (t.snoc v) ns' l6
          else .error (l6.length + 1, 4)
/-- a list or an object; l begins with the bracket -/
def inside (val : List UInt8 → Res V) (obj : Bool) (l : List UInt8) : Res V :=
  match skip (l.drop 1) with
  | [] => on (fun p => ⟨if obj then 6 else 5, false, 0, ⟨#[]⟩, p.1, p.2⟩) (elems val obj (l.length + 1) .nil [] [])
  | c :: r =>
    if c = (if obj then 125 else 93) then .ok (⟨if obj then 6 else 5, false, 0, ⟨#[]⟩, .nil, []⟩, r)
    else on (fun p => ⟨if obj then 6 else 5, false, 0, ⟨#[]⟩, p.1, p.2⟩) (elems val obj (l.length + 1) .nil [] (c :: r))
/-- a value; d: how many brackets more may stand in one another -/
def val : Nat → List UInt8 → Res V
  | d, l =>
    match skip l with
    | [] => .error (0, 4)
    | c :: r =>
      if c = 110 then on (fun _ => ⟨1, false, 0, ⟨#[]⟩, .nil, []⟩) (word [110, 117, 108, 108] (c :: r))
      else if c = 116 then on (fun _ => ⟨2, true, 0, ⟨#[]⟩, .nil, []⟩) (word [116, 114, 117, 101] (c :: r))
      else if c = 102 then on (fun _ => ⟨2, false, 0, ⟨#[]⟩, .nil, []⟩) (word [102, 97, 108, 115, 101] (c :: r))
      else if c = 45 ∨ dig c = true then on (fun n => ⟨3, false, n, ⟨#[]⟩, .nil, []⟩) (num (c :: r))
      else if c = 34 then on (fun t => ⟨4, false, 0, ⟨t.toArray⟩, .nil, []⟩) (text (c :: r))
      else if c = 91 ∨ c = 123 then
        match d with
        | 0 => .error (r.length + 1, 84)
        | d + 1 => inside (val d) (c == 123) (c :: r)
      else .error (r.length + 1, 4)
/-- the value of a text, the place and the error -/
def parse (s : List UInt8) : V × Int × Int :=
  if 65536 < s.length then (V.zero, 0, 3)
  else match val 16 s with
    | .error (n, e) => (V.zero, ((s.length - n : Nat) : Int), e)
    | .ok (v, r) => match skip r with
      | [] => (v, 0, 0)
      | _ :: r => (V.zero, ((s.length - (r.length + 1) : Nat) : Int), 4)
end J
end Go.Proofs.YtphjfighamadgaaGreatDoor
namespace Go.Proofs.YtphjfighamadgaaGreatDoor
namespace J
/-- whatever is read: what is left is an end of the text; an error is one, and stands in the text -/
def Fair {α : Type} (l : List UInt8) (x : Res α) : Prop := (∀ a r, x = .ok (a, r) → r <:+ l) ∧ (∀ n e, x = .error (n, e) → n ≤ l.length ∧ (e = 4 ∨ e = 6 ∨ e = 84 ∨ e = 91))
theorem Fair.ok {α : Type} {l r : List UInt8} {a : α} (h : r <:+ l) : Fair l (.ok (a, r) : Res α) := ⟨(fun _ _ e => by cases e; exact h), (fun _ _ e => by cases e)⟩
theorem Fair.err {α : Type} {l : List UInt8} {n : Nat} {e : Int} (h : n ≤ l.length) (he : e = 4 ∨ e = 6 ∨ e = 84 ∨ e = 91) : Fair l (.error (n, e) : Res α) := ⟨(fun _ _ e => by cases e), (fun _ _ e => by cases e; exact ⟨h, he⟩)⟩
theorem Fair.suf {α : Type} {l m : List UInt8} {x : Res α} (h : Fair m x) (g : m <:+ l) : Fair l x :=
  ⟨fun a r e => (h.1 a r e).trans g, fun n e h' => ⟨Nat.le_trans (h.2 n e h').1 g.length_le, (h.2 n e h').2⟩⟩
theorem Fair.map {α β : Type} {l : List UInt8} {x : Res α} (f : α → β) (h : Fair l x) : Fair l (on f x) := by
  cases x with
  | error p => exact Fair.err (h.2 p.1 p.2 rfl).1 (h.2 p.1 p.2 rfl).2
  | ok p => exact Fair.ok (h.1 p.1 p.2 rfl)
theorem skip_suf : ∀ (l : List UInt8), skip l <:+ l
  | [] => List.suffix_refl _
  | c :: r => by
    unfold skip
    split
    · exact (skip_suf r).trans (List.suffix_cons c r)
    · exact List.suffix_refl _
theorem skip_skip : ∀ (l : List UInt8), skip (skip l) = skip l
  | [] => rfl
  | c :: r => by
    by_cases h : blank c = true
    · have e : skip (c :: r) = skip r := by rw [skip, if_pos h]
      rw [e]; exact skip_skip r
    · have e : skip (c :: r) = c :: r := by rw [skip, if_neg h]
      rw [e, e]
theorem word_fair : ∀ (w l : List UInt8), Fair l (word w l)
  | [], l => Fair.ok (List.suffix_refl _)
  | _ :: _, [] => Fair.err (Nat.le_refl _) (Or.inl rfl)
  | c :: w, d :: l => by
    unfold word
    split
    · exact (word_fair w l).suf (List.suffix_cons d l)
    · exact Fair.err (by simp) (Or.inl rfl)
theorem drop_suf (l : List UInt8) (k : Nat) : l.drop k <:+ l := List.drop_suffix k l
theorem num_fair (l : List UInt8) : Fair l (num l) := by
  unfold num
  have h1 : (if (l.head? == some 45) = true then l.drop 1 else l) <:+ l := by
    split
    · exact drop_suf l 1
    · exact List.suffix_refl _
  generalize (l.head? == some 45) = neg at *
  simp only
  generalize (if neg = true then l.drop 1 else l) = l1 at *
  have h2 : l1.dropWhile dig <:+ l := (List.dropWhile_suffix dig).trans h1
  have h3 := h1.length_le
  cases l1.takeWhile dig with
  | nil => exact Fair.err h3 (Or.inl rfl)
  | cons d more =>
    simp only
    split
    · exact Fair.err (by omega) (Or.inl rfl)
    · split
      · exact Fair.err h3 (Or.inl rfl)
      · split
        · split
          · exact Fair.ok h2
          · exact Fair.err (Nat.le_refl _) (Or.inr (Or.inr (Or.inr rfl)))
        · split
          · exact Fair.ok h2
          · exact Fair.err (Nat.le_refl _) (Or.inr (Or.inr (Or.inr rfl)))
theorem unit_suf {r rest : List UInt8} {v : Int} (h : unit r = some (v, rest)) : rest <:+ r := by
  unfold unit at h
  split at h
  · cases h
  · split at h
    · split at h
      · rename_i r2 e
        split at h
        · split at h
          · simp only [Option.some.injEq, Prod.mk.injEq] at h
            rw [← h.2]
            have h1 : 92 :: 117 :: r2 <:+ r := by rw [← e]; exact drop_suf r 4
            have h2 : r2 <:+ 92 :: 117 :: r2 := ⟨[92, 117], rfl⟩
            exact (drop_suf r2 4).trans (h2.trans h1)
          · cases h
        · cases h
      · cases h
    · simp only [Option.some.injEq, Prod.mk.injEq] at h
      rw [← h.2]
      exact drop_suf r 4
theorem esc_fair (l : List UInt8) : Fair l (esc l) := by
  unfold esc
  split
  · exact Fair.err (Nat.le_refl _) (Or.inl rfl)
  · rename_i c r e
    have h1 : c :: r <:+ l := by rw [← e]; exact drop_suf l 1
    have h2 : r <:+ l := (List.suffix_cons c r).trans h1
    split
    · exact Fair.ok h2
    · split
      · split
        · rename_i v rest hu
          split
          · exact Fair.ok ((unit_suf hu).trans h2)
          · exact Fair.err (Nat.le_refl _) (Or.inl rfl)
        · exact Fair.err (Nat.le_refl _) (Or.inl rfl)
      · exact Fair.err (Nat.le_refl _) (Or.inl rfl)
theorem str_fair : ∀ (f : Nat) (l : List UInt8), Fair l (str f l)
  | 0, l => Fair.err (Nat.le_refl _) (Or.inl rfl)
  | f + 1, [] => Fair.err (Nat.le_refl _) (Or.inl rfl)
  | f + 1, c :: r => by
    unfold str
    split
    · exact Fair.ok (List.suffix_cons c r)
    · split
      · have he := esc_fair (c :: r)
        cases hx : esc (c :: r) with
        | error p => rw [hx] at he; exact Fair.err (he.2 p.1 p.2 rfl).1 (he.2 p.1 p.2 rfl).2
        | ok p =>
          rw [hx] at he
          have h1 := he.1 p.1 p.2 rfl
          have ih := (str_fair f p.2).suf h1
          simp only
          cases hy : str f p.2 with
          | error q => rw [hy] at ih; exact Fair.err (ih.2 q.1 q.2 rfl).1 (ih.2 q.1 q.2 rfl).2
          | ok q => rw [hy] at ih; exact Fair.ok (ih.1 q.1 q.2 rfl)
      · split
        · exact Fair.err (by simp) (Or.inl rfl)
        · split
          · have ih := (str_fair f ((c :: r).drop (W.headD (c :: r)).2.1.toNat)).suf (drop_suf _ _)
            cases hy : str f ((c :: r).drop (W.headD (c :: r)).2.1.toNat) with
            | error q => rw [hy] at ih; exact Fair.err (ih.2 q.1 q.2 rfl).1 (ih.2 q.1 q.2 rfl).2
            | ok q => rw [hy] at ih; exact Fair.ok (ih.1 q.1 q.2 rfl)
          · exact Fair.err (by simp) (Or.inl rfl)
theorem text_fair (l : List UInt8) : Fair l (text l) := by
  unfold text
  split
  · exact (str_fair _ _).suf (List.suffix_cons _ _)
  · exact Fair.err (Nat.le_refl _) (Or.inl rfl)
theorem name_fair (ns : List ByteArray) (l : List UInt8) : Fair l (name ns l) := by
  unfold name
  have h := text_fair l
  cases hx : text l with
  | error p => rw [hx] at h; exact Fair.err (h.2 p.1 p.2 rfl).1 (h.2 p.1 p.2 rfl).2
  | ok p =>
    rw [hx] at h
    have h1 := h.1 p.1 p.2 rfl
    simp only
    split
    · exact Fair.err (Nat.le_refl _) (Or.inr (Or.inl rfl))
    · have h2 := (skip_suf p.2).trans h1
      split
      · rename_i l3 e
        rw [e] at h2
        exact Fair.ok ((List.suffix_cons _ l3).trans h2)
      · exact Fair.err h2.length_le (Or.inl rfl)
theorem elems_fair {V : List UInt8 → Res V} (hV : ∀ l, Fair l (V l)) (obj : Bool) : ∀ (f : Nat) (t : T) (ns : List ByteArray) (l : List UInt8), Fair l (elems V obj f t ns l)
  | 0, _, _, l => Fair.err (Nat.le_refl _) (Or.inl rfl)
  | f + 1, t, ns, l => by
    unfold elems
    have h0 : Fair l (if obj then (match name ns (skip l) with | .error e => .error e | .ok (x, r) => .ok (ns ++ [x], r)) else .ok (ns, skip l) : Res (List ByteArray)) := by
      split
      · have h := (name_fair ns (skip l)).suf (skip_suf l)
        cases hx : name ns (skip l) with
        | error p => rw [hx] at h; exact Fair.err (h.2 p.1 p.2 rfl).1 (h.2 p.1 p.2 rfl).2
        | ok p => rw [hx] at h; exact Fair.ok (h.1 p.1 p.2 rfl)
      · exact Fair.ok (skip_suf l)
    generalize (if obj then (match name ns (skip l) with | .error e => .error e | .ok (x, r) => .ok (ns ++ [x], r)) else .ok (ns, skip l) : Res (List ByteArray)) = X at h0
    cases X with
    | error p => exact Fair.err (h0.2 p.1 p.2 rfl).1 (h0.2 p.1 p.2 rfl).2
    | ok p =>
      have h1 := h0.1 p.1 p.2 rfl
      simp only
      have h2 := (hV p.2).suf h1
      cases hy : V p.2 with
      | error q => rw [hy] at h2; exact Fair.err (h2.2 q.1 q.2 rfl).1 (h2.2 q.1 q.2 rfl).2
      | ok q =>
        rw [hy] at h2
        have h3 := (skip_suf q.2).trans (h2.1 q.1 q.2 rfl)
        simp only
        split
        · exact Fair.err (Nat.zero_le _) (Or.inl rfl)
        · rename_i c l6 e
          rw [e] at h3
          generalize (if obj = true then (125 : UInt8) else 93) = en
          have h4 : l6 <:+ l := (List.suffix_cons c l6).trans h3
          split
          · exact Fair.ok h4
          · split
            · exact (elems_fair hV obj f _ _ l6).suf h4
            · exact Fair.err (by have := h3.length_le; simpa using this) (Or.inl rfl)
theorem inside_fair {V : List UInt8 → Res V} (hV : ∀ l, Fair l (V l)) (obj : Bool) (l : List UInt8) : Fair l (inside V obj l) := by
  unfold inside
  have h1 : skip (l.drop 1) <:+ l := (skip_suf _).trans (drop_suf l 1)
  split
  · rename_i e
    rw [e] at h1
    exact ((elems_fair hV obj _ _ _ _).suf h1).map _
  · rename_i c r e
    rw [e] at h1
    generalize (if obj = true then (125 : UInt8) else 93) = en
    split
    · exact Fair.ok ((List.suffix_cons c r).trans h1)
    · exact ((elems_fair hV obj _ _ _ _).suf h1).map _
theorem val_fair : ∀ (d : Nat) (l : List UInt8), Fair l (val d l) := by
  intro d
  induction d with
  | zero =>
    intro l
    unfold val
    have h1 := skip_suf l
    split
    · exact Fair.err (Nat.zero_le _) (Or.inl rfl)
    · rename_i c r e
      rw [e] at h1
      have hl := h1.length_le
      simp only [List.length_cons] at hl
      split
      · exact ((word_fair _ _).suf h1).map _
      · split
        · exact ((word_fair _ _).suf h1).map _
        · split
          · exact ((word_fair _ _).suf h1).map _
          · split
            · exact ((num_fair _).suf h1).map _
            · split
              · exact ((text_fair _).suf h1).map _
              · split
                · exact Fair.err hl (Or.inr (Or.inr (Or.inl rfl)))
                · exact Fair.err hl (Or.inl rfl)
  | succ d ih =>
    intro l
    unfold val
    have h1 := skip_suf l
    split
    · exact Fair.err (Nat.zero_le _) (Or.inl rfl)
    · rename_i c r e
      rw [e] at h1
      have hl := h1.length_le
      simp only [List.length_cons] at hl
      split
      · exact ((word_fair _ _).suf h1).map _
      · split
        · exact ((word_fair _ _).suf h1).map _
        · split
          · exact ((word_fair _ _).suf h1).map _
          · split
            · exact ((num_fair _).suf h1).map _
            · split
              · exact ((text_fair _).suf h1).map _
              · split
                · exact (inside_fair ih _ _).suf h1
                · exact Fair.err hl (Or.inl rfl)
/-- the same values? -/
def sameN : List ByteArray → List ByteArray → Bool
  | [], [] => true
  | a :: r, b :: s => decide (a.data.toList = b.data.toList) && sameN r s
  | _, _ => false
def same : T → T → Bool
  | .nil, .nil => true
  | .cons k b n s l ns r, .cons k' b' n' s' l' ns' r' => decide (k = k') && (decide (b = b') && (decide (n = n') && (decide (s.data.toList = s'.data.toList) && (sameN ns ns' && (same l l' && same r r')))))
  | _, _ => false
theorem sameN_refl : ∀ (a : List ByteArray), sameN a a = true
  | [] => rfl
  | a :: r => by simp [sameN, sameN_refl r]
theorem same_refl : ∀ (t : T), same t t = true
  | .nil => rfl
  | .cons k b n s l ns r => by simp [same, sameN_refl, same_refl l, same_refl r]
end J
end Go.Proofs.YtphjfighamadgaaGreatDoor
namespace Go.Proofs.YtphjfighamadgaaGreatDoor
namespace J
/-- the first is the second, but that lists in it may be empty -/
def T.loose : T → T → Prop
  | .nil, .nil => True
  | .cons k b n s l ns r, .cons k' b' n' s' l' ns' r' => k = k' ∧ b = b' ∧ n = n' ∧ s = s' ∧ ns = ns' ∧ (l.loose l' ∨ (k = 5 ∧ l = .nil)) ∧ r.loose r'
  | _, _ => False
def V.loose (x y : V) : Prop := x.k = y.k ∧ x.b = y.b ∧ x.n = y.n ∧ x.s = y.s ∧ x.ns = y.ns ∧ (x.l.loose y.l ∨ (x.k = 5 ∧ x.l = .nil))
theorem T.loose_refl : ∀ (t : T), t.loose t
  | .nil => trivial
  | .cons _ _ _ _ l _ r => ⟨rfl, rfl, rfl, rfl, rfl, Or.inl (T.loose_refl l), T.loose_refl r⟩
theorem V.loose_refl (x : V) : x.loose x := ⟨rfl, rfl, rfl, rfl, rfl, Or.inl (T.loose_refl _)⟩
theorem V.loose_one {x y : V} (h : x.loose y) : x.one.loose y.one := ⟨h.1, h.2.1, h.2.2.1, h.2.2.2.1, h.2.2.2.2.1, h.2.2.2.2.2, trivial⟩
theorem T.loose_app : ∀ {a b c d : T}, a.loose b → c.loose d → (a.app c).loose (b.app d)
  | .nil, .nil, _, _, _, h => h
  | .cons .., .cons .., _, _, ⟨h1, h2, h3, h4, h5, h6, h7⟩, h => ⟨h1, h2, h3, h4, h5, h6, T.loose_app h7 h⟩
  | .nil, .cons .., _, _, h, _ => h.elim
  | .cons .., .nil, _, _, h, _ => h.elim
theorem T.loose_snoc {a b : T} {x y : V} (h : a.loose b) (g : x.loose y) : (a.snoc x).loose (b.snoc y) := T.loose_app h (V.loose_one g)
theorem T.loose_len : ∀ {a b : T}, a.loose b → a.length = b.length
  | .nil, .nil, _ => rfl
  | .cons .., .cons .., ⟨_, _, _, _, _, _, h⟩ => by simp only [T.length, T.loose_len h]
  | .nil, .cons .., h => h.elim
  | .cons .., .nil, h => h.elim
/-- the kinds that a reader gives -/
abbrev Step := (T × List ByteArray) → List UInt8 → Res (T × List ByteArray)
def stepL (val : List UInt8 → Res V) : Step := fun p l => match val l with
  | .error e => .error e
  | .ok (v, r) => .ok ((p.1.snoc v, p.2), r)
def stepO (val : List UInt8 → Res V) : Step := fun p l => match name p.2 (skip l) with
  | .error e => .error e
  | .ok (x, r) => match val r with
    | .error e => .error e
    | .ok (v, r') => .ok ((p.1.snoc v, p.2 ++ [x]), r')
/-- one by one, until the bracket that ends it -/
def run (one : Step) (en : UInt8) : Nat → (T × List ByteArray) → List UInt8 → Res (T × List ByteArray)
  | 0, _, l => .error (l.length, 4)
  | f + 1, p, l => match one p l with
    | .error e => .error e
    | .ok (p', l5) => match skip l5 with
      | [] => .error (0, 4)
      | c :: l6 => if c = en then .ok (p', l6) else if c = 44 then run one en f p' l6 else .error (l6.length + 1, 4)
theorem val_skip (d : Nat) (l : List UInt8) : val d (skip l) = val d l := by
  rw [val, val, skip_skip]
theorem elems_list (d : Nat) : ∀ (f : Nat) (t : T) (ns : List ByteArray) (l : List UInt8), elems (val d) false f t ns l = run (stepL (val d)) 93 f (t, ns) l
  | 0, _, _, _ => rfl
  | f + 1, t, ns, l => by
    rw [elems, run, stepL]
    simp only [Bool.false_eq_true, if_false, val_skip]
    cases val d l with
    | error e => rfl
    | ok p =>
      simp only
      cases skip p.2 with
      | nil => rfl
      | cons c l6 =>
        simp only
        by_cases h1 : c = 93
        · rw [if_pos h1, if_pos h1]
        · rw [if_neg h1, if_neg h1]
          by_cases h2 : c = 44
          · rw [if_pos h2, if_pos h2]; exact elems_list d f _ _ _
          · rw [if_neg h2, if_neg h2]
theorem elems_obj (d : Nat) : ∀ (f : Nat) (t : T) (ns : List ByteArray) (l : List UInt8), elems (val d) true f t ns l = run (stepO (val d)) 125 f (t, ns) l
  | 0, _, _, _ => rfl
  | f + 1, t, ns, l => by
    rw [elems, run, stepO]
    simp only [if_true]
    cases name ns (skip l) with
    | error e => rfl
    | ok q =>
      simp only
      cases val d q.2 with
      | error e => rfl
      | ok p =>
        simp only
        cases skip p.2 with
        | nil => rfl
        | cons c l6 =>
          simp only
          by_cases h1 : c = 125
          · rw [if_pos h1, if_pos h1]
          · rw [if_neg h1, if_neg h1]
            by_cases h2 : c = 44
            · rw [if_pos h2, if_pos h2]; exact elems_obj d f _ _ _
            · rw [if_neg h2, if_neg h2]
/-- what stands behind a bracket -/
def inR (one : Step) (en : UInt8) (l : List UInt8) : Res (T × List ByteArray) := match skip (l.drop 1) with
  | [] => run one en (l.length + 1) (.nil, []) []
  | c :: r => if c = en then .ok ((.nil, []), r) else run one en (l.length + 1) (.nil, []) (c :: r)
theorem inside_list (d : Nat) (l : List UInt8) : inside (val d) false l = on (fun p => ⟨5, false, 0, ⟨#[]⟩, p.1, p.2⟩) (inR (stepL (val d)) 93 l) := by
  unfold inside inR
  cases skip (l.drop 1) with
  | nil => simp only [elems_list]; rfl
  | cons c r =>
    simp only [Bool.false_eq_true, if_false]
    by_cases h : c = 93
    · rw [if_pos h, if_pos h]; rfl
    · rw [if_neg h, if_neg h, elems_list]
theorem inside_obj (d : Nat) (l : List UInt8) : inside (val d) true l = on (fun p => ⟨6, false, 0, ⟨#[]⟩, p.1, p.2⟩) (inR (stepO (val d)) 125 l) := by
  unfold inside inR
  cases skip (l.drop 1) with
  | nil => simp only [elems_obj]; rfl
  | cons c r =>
    simp only [if_true]
    by_cases h : c = 125
    · rw [if_pos h, if_pos h]; rfl
    · rw [if_neg h, if_neg h, elems_obj]
/-- a step takes something, or falls inside the text -/
def Steps (one : Step) : Prop := ∀ p l, (∀ p' r, one p l = .ok (p', r) → (∃ a, l = a ++ r) ∧ p'.1.length ≤ p.1.length + 1 ∧ p'.2.length ≤ p.2.length + 1) ∧ (∀ n e, one p l = .error (n, e) → n ≤ l.length ∧ e ≠ 0)
theorem fair_steps {α : Type} {l : List UInt8} {x : Res α} (h : Fair l x) : (∀ a r, x = .ok (a, r) → ∃ b, l = b ++ r) ∧ (∀ n e, x = .error (n, e) → n ≤ l.length ∧ e ≠ 0) :=
  ⟨fun a r e => by obtain ⟨b, hb⟩ := h.1 a r e; exact ⟨b, hb.symm⟩, fun n e he => ⟨(h.2 n e he).1, by rcases (h.2 n e he).2 with h | h | h | h <;> omega⟩⟩
theorem T.snoc_length (t : T) (v : V) : (t.snoc v).length = t.length + 1 := by unfold T.snoc; rw [T.app_length]; rfl
theorem stepL_steps (d : Nat) : Steps (stepL (val d)) := fun p l => by
  have hf := fair_steps (val_fair d l)
  unfold stepL
  cases hx : val d l with
  | error q => exact ⟨(fun _ _ h => by cases h), (fun n e h => by cases h; exact hf.2 _ _ hx)⟩
  | ok q => exact ⟨(fun _ _ h => by cases h; exact ⟨hf.1 _ _ hx, by rw [T.snoc_length]; exact Nat.le_refl _, Nat.le_succ _⟩), (fun _ _ h => by cases h)⟩
theorem stepO_steps (d : Nat) : Steps (stepO (val d)) := fun p l => by
  have hf := (name_fair p.2 (skip l)).suf (skip_suf l)
  unfold stepO
  cases hx : name p.2 (skip l) with
  | error q => exact ⟨(fun _ _ h => by cases h), (fun n e h => by cases h; exact (fair_steps hf).2 _ _ hx)⟩
  | ok q =>
    simp only
    have hv := fair_steps ((val_fair d q.2).suf (hf.1 q.1 q.2 hx))
    cases hy : val d q.2 with
    | error u => exact ⟨(fun _ _ h => by cases h), (fun n e h => by cases h; exact hv.2 _ _ hy)⟩
    | ok u => exact ⟨(fun _ _ h => by cases h; exact ⟨hv.1 _ _ hy, by rw [T.snoc_length]; exact Nat.le_refl _, by rw [List.length_append]; exact Nat.le_refl _⟩), (fun _ _ h => by cases h)⟩
end J
end Go.Proofs.YtphjfighamadgaaGreatDoor
namespace Go.Proofs.YtphjfighamadgaaGreatDoor
namespace W
open Go.Lib Go.RowKit

def isDig (c : UInt8) : Bool := decide (48 ≤ c.toNat ∧ c.toNat ≤ 57)
/-- one digit more, as an int64 -/
def step (m : Bool) (acc : Int) (c : UInt8) : Int := if m then wrap64 (10 * acc - ((c.toNat : Int) - 48)) else wrap64 (10 * acc + ((c.toNat : Int) - 48))
/-- digit by digit -/
def scan (m : Bool) : Int → List UInt8 → Option Int
  | acc, [] => some acc
  | acc, c :: r => if isDig c then scan m (step m acc c) r else none
def minus (l : List UInt8) : Bool := decide (l.head? = some 45)
/-- what the digits come to must be written as it stands -/
def holdTo (l : List UInt8) : Option Int → Int × Bool
  | some n => if itoa n = l then (n, true) else (0, false)
  | none => (0, false)
def refP (l : List UInt8) : Int × Bool := if 20 < l.length then (0, false) else holdTo l (scan (minus l) 0 (if minus l then l.drop 1 else l))
/-- the library's answer -/
def libP (l : List UInt8) : Option Int := match parseIntB 64 l with | .ok v => some v | _ => none
def parseW (l : List UInt8) : Int × Bool := holdTo l (libP l)

def Fits (n : Int) : Prop := -9223372036854775808 ≤ n ∧ n ≤ 9223372036854775807

theorem wrap_fits (x : Int) : Fits (wrap64 x) := by unfold wrap64 Fits; omega
theorem wrap_id (x : Int) (h : Fits x) : wrap64 x = x := by unfold Fits at h; unfold wrap64; omega
theorem step_fits (m : Bool) (acc : Int) (c : UInt8) : Fits (step m acc c) := by unfold step; split <;> exact wrap_fits _
theorem scan_fits (m : Bool) : ∀ (l : List UInt8) (acc n : Int), Fits acc → scan m acc l = some n → Fits n
  | [], acc, n, h, e => by simp only [scan, Option.some.injEq] at e; subst e; exact h
  | c :: l, acc, n, h, e => by
    simp only [scan] at e
    split at e
    · exact scan_fits m l _ n (step_fits m acc c) e
    · cases e
theorem scan_append (m : Bool) : ∀ (l r : List UInt8) (acc : Int), scan m acc (l ++ r) = (scan m acc l).bind fun a => scan m a r
  | [], r, acc => rfl
  | c :: l, r, acc => by
    simp only [List.cons_append, scan]
    split
    · exact scan_append m l r _
    · rfl
theorem dig_ofNat (k : Nat) (h : k < 10) : (UInt8.ofNat (48 + k)).toNat = 48 + k := by simp; omega
theorem scan_one (m : Bool) (a : Int) (k : Nat) (h : k < 10) : scan m a [UInt8.ofNat (48 + k)] = some (wrap64 (10 * a + if m then -(k : Int) else k)) := by
  have hd := dig_ofNat k h
  have : isDig (UInt8.ofNat (48 + k)) = true := by unfold isDig; rw [hd]; simp; omega
  simp only [scan, this, ite_true, step, hd]
  cases m
  · simp only [Bool.false_eq_true, ite_false]; congr 2; omega
  · simp only [ite_true]; congr 2; omega
theorem scan_dec (m : Bool) (u : Nat) : scan m 0 (decDigits u) = some (wrap64 (if m then -(u : Int) else u)) := by
  induction u using Nat.strongRecOn with
  | ind u ih =>
    rw [decDigits]
    by_cases h : u < 10
    · rw [dif_pos h, scan_one m 0 u h]; congr 2; omega
    · rw [dif_neg h, scan_append, ih (u / 10) (by omega)]
      simp only [Option.bind_some]
      rw [scan_one m _ (u % 10) (by omega)]
      congr 1
      cases m
      · simp only [Bool.false_eq_true, ite_false]; unfold wrap64; omega
      · simp only [ite_true]; unfold wrap64; omega
theorem dec_head (u : Nat) : ∃ k r, k < 10 ∧ decDigits u = UInt8.ofNat (48 + k) :: r := by
  induction u using Nat.strongRecOn with
  | ind u ih =>
    rw [decDigits]
    by_cases h : u < 10
    · rw [dif_pos h]; exact ⟨u, [], h, rfl⟩
    · rw [dif_neg h]
      obtain ⟨k, r, hk, e⟩ := ih (u / 10) (by omega)
      rw [e]; exact ⟨k, r ++ [UInt8.ofNat (48 + u % 10)], hk, rfl⟩
theorem dec_minus (u : Nat) : minus (decDigits u) = false := by
  obtain ⟨k, r, hk, e⟩ := dec_head u
  rw [e]
  unfold minus
  simp only [List.head?_cons, Option.some.injEq, decide_eq_false_iff_not]
  intro h
  have := congrArg UInt8.toNat h
  rw [dig_ofNat k hk] at this
  have e45 : (45 : UInt8).toNat = 45 := rfl
  omega
theorem nDigits_le : ∀ (k u : Nat), 1 ≤ k → u < 10 ^ k → nDigits u ≤ k
  | 0, _, h, _ => by omega
  | k + 1, u, _, h => by
    by_cases h1 : u < 10
    · rw [nDigits_small h1]; omega
    · rw [nDigits_big h1]
      have h2 : u / 10 < 10 ^ k := by rw [Nat.div_lt_iff_lt_mul (by omega)]; rw [Nat.pow_succ] at h; exact h
      by_cases hk : 1 ≤ k
      · have := nDigits_le k (u / 10) hk h2; omega
      · obtain rfl : k = 0 := by omega
        simp at h2; omega
/-- what is written is read as it was, by the document's way -/
theorem ref_itoa (n : Int) (h : Fits n) : refP (itoa n) = (n, true) := by
  have hl := itoa_length_le n h.1 h.2
  unfold Fits at h
  unfold refP
  have hs : ¬ 20 < (itoa n).length := by
    unfold itoa
    split
    · simp only [List.length_cons, decDigits_length]
      have : nDigits n.natAbs ≤ 19 := nDigits_le 19 n.natAbs (by omega) (by omega)
      omega
    · rw [decDigits_length]
      have := nDigits_le20 n.toNat (by omega)
      omega
  rw [if_neg hs]
  by_cases hn : n < 0
  · have e : itoa n = 45 :: decDigits n.natAbs := by unfold itoa; rw [if_pos hn]
    have hm : minus (itoa n) = true := by rw [e]; simp [minus]
    rw [hm, if_pos rfl]
    have e2 : (itoa n).drop 1 = decDigits n.natAbs := by rw [e]; rfl
    rw [e2, scan_dec, if_pos rfl]
    have e3 : wrap64 (-(n.natAbs : Int)) = n := by rw [wrap_id _ (by unfold Fits; omega)]; omega
    rw [e3]
    show (if itoa n = itoa n then _ else _) = _
    rw [if_pos rfl]
  · have e : itoa n = decDigits n.toNat := by unfold itoa; rw [if_neg hn]
    have hm : minus (itoa n) = false := by rw [e]; exact dec_minus _
    rw [hm, if_neg (by simp)]
    have e2 : scan false 0 (itoa n) = some n := by
      rw [e, scan_dec, if_neg (by simp), wrap_id _ (by unfold Fits; omega)]; congr 1; omega
    rw [e2]
    show (if itoa n = itoa n then _ else _) = _
    rw [if_pos rfl]
theorem pUM_append (M : Nat) : ∀ (l r : List UInt8) (acc a : Nat), parseUintM M acc l = .ok a → parseUintM M acc (l ++ r) = parseUintM M a r
  | [], r, acc, a, h => by simp only [parseUintM] at h; cases h; rfl
  | c :: l, r, acc, a, h => by
    simp only [parseUintM] at h
    split at h
    · rename_i hd
      split at h
      · cases h
      · rename_i h1
        split at h
        · cases h
        · rename_i h2
          simp only [List.cons_append, parseUintM]
          rw [if_pos hd, if_neg h1, if_neg h2]
          exact pUM_append M l r _ a h
    · cases h
theorem pUM_dec (u : Nat) (hu : u ≤ 18446744073709551615) : parseUintM 18446744073709551615 0 (decDigits u) = .ok u := by
  induction u using Nat.strongRecOn with
  | ind u ih =>
    rw [decDigits]
    by_cases h : u < 10
    · rw [dif_pos h]
      simp only [parseUintM, dig_ofNat u h]
      rw [if_pos (by omega), if_neg (by omega), if_neg (by omega)]
      congr 1; omega
    · rw [dif_neg h, pUM_append _ _ _ _ _ (ih (u / 10) (by omega) (by omega))]
      simp only [parseUintM, dig_ofNat (u % 10) (by omega)]
      rw [if_pos (by omega), if_neg (by omega), if_neg (by omega)]
      congr 1; omega
/-- what is written is read as it was, by the library -/
theorem lib_itoa (n : Int) (h : Fits n) : libP (itoa n) = some n := by
  unfold Fits at h
  unfold libP
  by_cases hn : n < 0
  · have e : itoa n = 45 :: decDigits n.natAbs := by unfold itoa; rw [if_pos hn]
    obtain ⟨k, r, hk, e1⟩ := dec_head n.natAbs
    have hne : decDigits n.natAbs ≠ [] := by rw [e1]; simp
    have hp : parseUintB 64 (decDigits n.natAbs) = .ok n.natAbs := by
      unfold parseUintB
      rw [if_neg hne]
      exact pUM_dec _ (by omega)
    rw [e]
    have e45 : (45 : UInt8).toNat = 45 := rfl
    simp only [parseIntB, e45, or_true, ite_true, hp, not_true_eq_false, false_and, ite_false, true_and]
    rw [if_neg (by show ¬ (2 ^ 63 < n.natAbs); omega)]
    simp only; congr 1; omega
  · have e : itoa n = decDigits n.toNat := by unfold itoa; rw [if_neg hn]
    obtain ⟨k, r, hk, e1⟩ := dec_head n.toNat
    have hne : decDigits n.toNat ≠ [] := by rw [e1]; simp
    have hp : parseUintB 64 (decDigits n.toNat) = .ok n.toNat := by
      unfold parseUintB
      rw [if_neg hne]
      exact pUM_dec _ (by omega)
    rw [e]
    rw [e1] at hp ⊢
    have hd := dig_ofNat k hk
    simp only [parseIntB, hd]
    rw [if_neg (by omega), hp]
    simp only
    rw [if_neg (by rintro ⟨_, h2⟩; have : (2 : Nat) ^ 63 ≤ n.toNat := h2; omega), if_neg (by omega), if_neg (by omega)]
    simp only; congr 1; omega
theorem lib_fits (l : List UInt8) (n : Int) (h : libP l = some n) : Fits n := by
  unfold libP at h
  split at h
  · rename_i v hv
    cases h
    have := parseIntB_bounds hv
    unfold Fits
    have e : (2 ^ (64 - 1) : Nat) = 9223372036854775808 := by decide
    rw [e] at this
    omega
  · cases h
/-- ONE FUNCTION -/
theorem refP_eq (l : List UInt8) : refP l = parseW l := by
  by_cases hE : ∃ n, Fits n ∧ itoa n = l
  · obtain ⟨n, hn, rfl⟩ := hE
    rw [ref_itoa n hn]
    unfold parseW
    rw [lib_itoa n hn]
    show _ = if itoa n = itoa n then _ else _
    rw [if_pos rfl]
  · have h1 : parseW l = (0, false) := by
      unfold parseW
      cases hp : libP l with
      | none => rfl
      | some n =>
        show (if itoa n = l then _ else _) = _
        rw [if_neg (fun e => hE ⟨n, lib_fits l n hp, e⟩)]
    have h2 : refP l = (0, false) := by
      unfold refP
      split
      · rfl
      · cases hp : scan (minus l) 0 (if minus l then l.drop 1 else l) with
        | none => rfl
        | some n =>
          show (if itoa n = l then _ else _) = _
          rw [if_neg (fun e => hE ⟨n, scan_fits _ _ 0 n (by unfold Fits; omega) hp, e⟩)]
    rw [h1, h2]
end W
end Go.Proofs.YtphjfighamadgaaGreatDoor
namespace Go.Proofs.YtphjfighamadgaaGreatDoor
namespace W

/-- a digit of base sixteen -/
def hexD (n : Nat) : UInt8 := if n < 10 then UInt8.ofNat (48 + n) else UInt8.ofNat (87 + n)
/-- how a byte is quoted -/
def byteQ (c : UInt8) : List UInt8 :=
  if c.toNat = 34 ∨ c.toNat = 92 then [92, c]
  else if c.toNat = 10 then [92, 110]
  else if c.toNat < 32 ∨ 126 < c.toNat then [92, 120, hexD (c.toNat / 16), hexD (c.toNat % 16)]
  else [c]
def quoteIn : List UInt8 → List UInt8
  | [] => []
  | c :: r => byteQ c ++ quoteIn r
/-- a text quoted -/
def quoteL (l : List UInt8) : List UInt8 := 34 :: (quoteIn l ++ [34])

theorem quoteIn_append : ∀ (a b : List UInt8), quoteIn (a ++ b) = quoteIn a ++ quoteIn b
  | [], b => rfl
  | c :: a, b => by simp only [List.cons_append, quoteIn, quoteIn_append a b, List.append_assoc]
theorem byteQ_length (c : UInt8) : 1 ≤ (byteQ c).length ∧ (byteQ c).length ≤ 4 := by
  unfold byteQ
  repeat' split
  all_goals simp
theorem quoteIn_length : ∀ (l : List UInt8), (quoteIn l).length ≤ 4 * l.length
  | [] => by simp [quoteIn]
  | c :: l => by
    have := quoteIn_length l
    have := (byteQ_length c).2
    simp only [quoteIn, List.length_append, List.length_cons]
    omega
end W
end Go.Proofs.YtphjfighamadgaaGreatDoor
namespace Go.Proofs.YtphjfighamadgaaGreatDoor
namespace W

theorem u8eq {a b : UInt8} (h : a.toNat = b.toNat) : a = b := UInt8.toNat_inj.1 h
/-- what a byte's quoting begins with -/
theorem byteQ_cases (c : UInt8) :
    ((c.toNat = 34 ∨ c.toNat = 92) ∧ byteQ c = [92, c])
    ∨ (c = 10 ∧ byteQ c = [92, 110])
    ∨ ((c.toNat < 32 ∨ 126 < c.toNat) ∧ byteQ c = [92, 120, hexD (c.toNat / 16), hexD (c.toNat % 16)])
    ∨ (c.toNat ≠ 34 ∧ c.toNat ≠ 92 ∧ byteQ c = [c]) := by
  unfold byteQ
  by_cases h1 : c.toNat = 34 ∨ c.toNat = 92
  · left; exact ⟨h1, by rw [if_pos h1]⟩
  · right
    by_cases h2 : c.toNat = 10
    · left; exact ⟨u8eq h2, by rw [if_neg h1, if_pos h2]⟩
    · right
      by_cases h3 : c.toNat < 32 ∨ 126 < c.toNat
      · left; exact ⟨h3, by rw [if_neg h1, if_neg h2, if_pos h3]⟩
      · right; exact ⟨by omega, by omega, by rw [if_neg h1, if_neg h2, if_neg h3]⟩
theorem n92 : (92 : UInt8).toNat = 92 := rfl
theorem n34 : (34 : UInt8).toNat = 34 := rfl
theorem n110 : (110 : UInt8).toNat = 110 := rfl
theorem n120 : (120 : UInt8).toNat = 120 := rfl
theorem ne_of_nat {a b : UInt8} (h : a.toNat ≠ b.toNat) : a ≠ b := fun e => h (by rw [e])

/-- what is left of a quoting, seen from its first bytes -/
theorem in_plain (t : List UInt8) (a : UInt8) (r : List UInt8) (ha : a.toNat ≠ 92) (h : quoteIn t = a :: r) : ∃ t', t = a :: t' ∧ quoteIn t' = r := by
  cases t with
  | nil => cases h
  | cons c t =>
    simp only [quoteIn] at h
    rcases byteQ_cases c with ⟨_, e⟩ | ⟨_, e⟩ | ⟨_, e⟩ | ⟨_, _, e⟩
    all_goals
      rw [e] at h
      simp only [List.cons_append, List.nil_append, List.cons.injEq] at h
    · exact absurd (by rw [← h.1]; rfl) ha
    · exact absurd (by rw [← h.1]; rfl) ha
    · exact absurd (by rw [← h.1]; rfl) ha
    · exact ⟨t, by rw [h.1], h.2⟩
theorem in_line (t : List UInt8) (r : List UInt8) (h : quoteIn t = 92 :: 110 :: r) : ∃ t', t = 10 :: t' ∧ quoteIn t' = r := by
  cases t with
  | nil => cases h
  | cons c t =>
    simp only [quoteIn] at h
    rcases byteQ_cases c with ⟨hc, e⟩ | ⟨hc, e⟩ | ⟨_, e⟩ | ⟨_, hc, e⟩
    all_goals
      rw [e] at h
      simp only [List.cons_append, List.nil_append, List.cons.injEq, true_and] at h
    · rw [h.1] at hc; rw [n110] at hc; omega
    · exact ⟨t, by rw [hc], h⟩
    · exact absurd h.1 (by decide)
    · rw [h.1] at hc; exact absurd rfl hc
theorem in_hex (t : List UInt8) (a b : UInt8) (r : List UInt8) (h : quoteIn t = 92 :: 120 :: a :: b :: r) : ∃ c t', t = c :: t' ∧ a = hexD (c.toNat / 16) ∧ b = hexD (c.toNat % 16) ∧ quoteIn t' = r := by
  cases t with
  | nil => cases h
  | cons c t =>
    simp only [quoteIn] at h
    rcases byteQ_cases c with ⟨hc, e⟩ | ⟨hc, e⟩ | ⟨_, e⟩ | ⟨_, hc, e⟩
    all_goals
      rw [e] at h
      simp only [List.cons_append, List.nil_append, List.cons.injEq, true_and] at h
    · rw [h.1] at hc; rw [n120] at hc; omega
    · exact absurd h.1 (by decide)
    · exact ⟨c, t, rfl, h.1.symm, h.2.1.symm, h.2.2⟩
    · rw [h.1] at hc; exact absurd rfl hc
theorem in_back (t : List UInt8) (d : UInt8) (r : List UInt8) (h : quoteIn t = 92 :: d :: r) (h1 : d.toNat ≠ 110) (h2 : d.toNat ≠ 120 ∨ r.length < 2) : ∃ t', t = d :: t' ∧ quoteIn t' = r := by
  cases t with
  | nil => cases h
  | cons c t =>
    simp only [quoteIn] at h
    rcases byteQ_cases c with ⟨hc, e⟩ | ⟨hc, e⟩ | ⟨_, e⟩ | ⟨_, hc, e⟩
    all_goals
      rw [e] at h
      simp only [List.cons_append, List.nil_append, List.cons.injEq, true_and] at h
    · exact ⟨t, by rw [h.1], h.2⟩
    · rw [← h.1, n110] at h1; omega
    · have := congrArg List.length h.2
      simp only [List.length_cons] at this
      rw [← h.1, n120] at h2
      omega
    · rw [h.1] at hc; exact absurd rfl hc
theorem in_alone (t : List UInt8) (h : quoteIn t = [92]) : False := by
  cases t with
  | nil => cases h
  | cons c t =>
    simp only [quoteIn] at h
    rcases byteQ_cases c with ⟨hc, e⟩ | ⟨hc, e⟩ | ⟨_, e⟩ | ⟨_, hc, e⟩
    all_goals
      rw [e] at h
      simp only [List.cons_append, List.nil_append, List.cons.injEq, true_and] at h
    · cases h
    · cases h
    · cases h
    · rw [h.1] at hc; exact absurd rfl hc
theorem in_end (t : List UInt8) (h : quoteIn t = []) : t = [] := by
  cases t with
  | nil => rfl
  | cons c t =>
    exfalso
    have := congrArg List.length h
    simp only [quoteIn, List.length_append, List.length_nil] at this
    have := (byteQ_length c).1
    omega

/-- a digit of base sixteen, read -/
def hexV (c : UInt8) : Option Nat :=
  if 48 ≤ c.toNat ∧ c.toNat ≤ 57 then some (c.toNat - 48)
  else if 97 ≤ (c.toNat ||| 32) ∧ (c.toNat ||| 32) ≤ 102 then some ((c.toNat ||| 32) - 87) else none
theorem hexV_hexD (k : Nat) (h : k < 16) : hexV (hexD k) = some k := by
  have : ∀ y : Fin 16, hexV (hexD y.val) = some y.val := by decide +kernel
  exact this ⟨k, h⟩
theorem hexV_lt (c : UInt8) (x : Nat) (h : hexV c = some x) : x < 16 := by
  unfold hexV at h
  split at h
  · cases h; omega
  · split at h
    · cases h; omega
    · cases h
/-- digits of base sixteen, one behind the other -/
def hexP : Nat → List UInt8 → Option Nat
  | acc, [] => some acc
  | acc, c :: r => match hexV c with
    | some d => hexP (acc * 16 + d) r
    | none => none
theorem hexP_none (acc : Nat) (c : UInt8) (r : List UInt8) (h : hexV c = none) : hexP acc (c :: r) = none := by simp only [hexP, h]
theorem hexP_some (acc : Nat) (c : UInt8) (r : List UInt8) (d : Nat) (h : hexV c = some d) : hexP acc (c :: r) = hexP (acc * 16 + d) r := by simp only [hexP, h]
theorem hexP_of (c : UInt8) : hexP 0 [hexD (c.toNat / 16), hexD (c.toNat % 16)] = some c.toNat := by
  have := c.toNat_lt
  rw [hexP_some _ _ _ _ (hexV_hexD (c.toNat / 16) (by omega)), hexP_some _ _ _ _ (hexV_hexD (c.toNat % 16) (by omega))]
  simp only [hexP]; congr 1; omega

/-- what is left to read of a quoting's inside l, when out is read -/
def Left (l out r : List UInt8) : Prop := ∀ t, quoteIn t = l → ∃ t', t = out ++ t' ∧ quoteIn t' = r
theorem Left.start (l : List UInt8) : Left l [] l := fun t h => ⟨t, rfl, h⟩
theorem Left.next {l out r r' : List UInt8} {c : UInt8} (h : Left l out r) (hs : ∀ t, quoteIn t = r → ∃ t', t = c :: t' ∧ quoteIn t' = r') : Left l (out ++ [c]) r' := by
  intro t ht
  obtain ⟨t', e, h'⟩ := h t ht
  obtain ⟨t'', e', h''⟩ := hs t' h'
  exact ⟨t'', by rw [e, e']; simp, h''⟩
theorem Left.none {l out r : List UInt8} (h : Left l out r) (hs : ∀ t, quoteIn t = r → False) (t : List UInt8) (ht : quoteIn t = l) : False := by
  obtain ⟨t', _, h'⟩ := h t ht
  exact hs t' h'
theorem Left.stop {l out : List UInt8} (h : Left l out []) (t : List UInt8) (ht : quoteIn t = l) : t = out := by
  obtain ⟨t', e, h'⟩ := h t ht
  rw [e, in_end t' h', List.append_nil]

/-- what is quoted is read as one text -/
theorem quoteIn_inj : ∀ (a b : List UInt8), quoteIn a = quoteIn b → a = b
  | [], b, h => (in_end b h.symm).symm
  | c :: a, b, h => by
    simp only [quoteIn] at h
    rcases byteQ_cases c with ⟨hc, e⟩ | ⟨hc, e⟩ | ⟨hc, e⟩ | ⟨_, hc, e⟩
    all_goals
      rw [e] at h
      simp only [List.cons_append, List.nil_append] at h
    · obtain ⟨t', e', h'⟩ := in_back b c _ h.symm (by omega) (by omega)
      rw [e', quoteIn_inj a t' h'.symm]
    · obtain ⟨t', e', h'⟩ := in_line b _ h.symm
      rw [e', hc, quoteIn_inj a t' h'.symm]
    · obtain ⟨d, t', e', h1, h2, h'⟩ := in_hex b _ _ _ h.symm
      have hd : d = c := by
        have e1 := hexP_of c
        have e2 := hexP_of d
        rw [h1, h2, e2] at e1
        exact u8eq (Option.some.inj e1)
      rw [e', hd, quoteIn_inj a t' h'.symm]
    · obtain ⟨t', e', h'⟩ := in_plain b c _ hc h.symm
      rw [e', quoteIn_inj a t' h'.symm]
theorem quoteL_in {a : List UInt8} {l : List UInt8} (h : quoteL a = 34 :: (l ++ [34])) : quoteIn a = l := by
  unfold quoteL at h
  have := (List.cons.inj h).2
  exact List.append_cancel_right this
theorem quoteL_inj (a b : List UInt8) (h : quoteL a = quoteL b) : a = b := quoteIn_inj a b (quoteL_in h)

open Classical in
/-- what a quoted text is read as -/
noncomputable def unqL (l : List UInt8) : List UInt8 × Bool := if h : ∃ t, quoteL t = l then (h.choose, true) else ([], false)
theorem unqL_yes (t : List UInt8) : unqL (quoteL t) = (t, true) := by
  have h : ∃ t', quoteL t' = quoteL t := ⟨t, rfl⟩
  unfold unqL
  rw [dif_pos h, quoteL_inj _ _ h.choose_spec]
theorem unqL_of {l t : List UInt8} (h : quoteL t = l) : unqL l = (t, true) := by rw [← h]; exact unqL_yes t
theorem unqL_no {l : List UInt8} (h : ∀ t, quoteL t = l → False) : unqL l = ([], false) := by
  unfold unqL
  rw [dif_neg (fun ⟨t, e⟩ => h t e)]

/-- a prefix that is a quoting's inside stays one -/
theorem in_prefix : ∀ (o t r : List UInt8), quoteIn t ++ [34] = quoteIn o ++ r → ∃ t', t = o ++ t' ∧ quoteIn t' ++ [34] = r
  | [], t, r, h => ⟨t, rfl, h⟩
  | c :: o, t, r, h => by
    cases t with
    | nil =>
      exfalso
      simp only [quoteIn, List.nil_append, List.append_assoc] at h
      rcases byteQ_cases c with ⟨hc, e⟩ | ⟨hc, e⟩ | ⟨hc, e⟩ | ⟨hc, _, e⟩
      all_goals
        rw [e] at h
        simp only [List.cons_append, List.nil_append, List.cons.injEq] at h
      · exact absurd h.1 (by decide)
      · exact absurd h.1 (by decide)
      · exact absurd h.1 (by decide)
      · rw [← h.1] at hc; exact absurd rfl hc
    | cons d t =>
      simp only [quoteIn, List.append_assoc] at h
      have key : d = c ∧ quoteIn t ++ [34] = quoteIn o ++ r := by
        rcases byteQ_cases c with ⟨hc, e⟩ | ⟨hc, e⟩ | ⟨hc, e⟩ | ⟨hc, hc', e⟩ <;>
          rcases byteQ_cases d with ⟨hd, f⟩ | ⟨hd, f⟩ | ⟨hd, f⟩ | ⟨hd, hd', f⟩
        all_goals
          rw [e, f] at h
          simp only [List.cons_append, List.nil_append, List.cons.injEq, true_and] at h
        · exact h
        · rw [← h.1, n110] at hc; omega
        · rw [← h.1, n120] at hc; omega
        · rw [h.1] at hd'; exact absurd rfl hd'
        · rw [h.1, n110] at hd; omega
        · exact ⟨by rw [hc, hd], h⟩
        · exact absurd h.1 (by decide)
        · rw [h.1] at hd'; exact absurd rfl hd'
        · rw [h.1, n120] at hd; omega
        · exact absurd h.1 (by decide)
        · obtain ⟨h1, h2, h3⟩ := h
          refine ⟨?_, h3⟩
          have e1 := hexP_of c
          have e2 := hexP_of d
          rw [h1, h2, e1] at e2
          exact (u8eq (Option.some.inj e2)).symm
        · rw [h.1] at hd'; exact absurd rfl hd'
        · rw [← h.1] at hc'; exact absurd rfl hc'
        · rw [← h.1] at hc'; exact absurd rfl hc'
        · rw [← h.1] at hc'; exact absurd rfl hc'
        · exact h
      obtain ⟨t', e', h'⟩ := in_prefix o t r key.2
      exact ⟨t', by rw [key.1, e']; rfl, h'⟩
/-- no byte that could be quoted so begins there: no text is quoted so -/
theorem no_byte {l o r : List UInt8} (hl : l = 34 :: (quoteIn o ++ r)) (hr : r.head? ≠ some 34) (hn : ∀ c, ¬ ∃ x, r = byteQ c ++ x) (t : List UInt8) (ht : quoteL t = l) : False := by
  subst hl
  obtain ⟨t', _, h'⟩ := in_prefix o t r (List.cons.inj ht).2
  cases t' with
  | nil => rw [← h'] at hr; exact hr rfl
  | cons c t' =>
    simp only [quoteIn, List.append_assoc] at h'
    exact hn c ⟨_, h'.symm⟩
/-- where a quotation mark stands, or nothing, the text must be at its end -/
theorem at_mark {l o r : List UInt8} (hl : l = 34 :: (quoteIn o ++ r)) (hr : r = [] ∨ r.head? = some 34) (hn : r ≠ [34]) (t : List UInt8) (ht : quoteL t = l) : False := by
  subst hl
  obtain ⟨t', _, h'⟩ := in_prefix o t r (List.cons.inj ht).2
  cases t' with
  | nil => exact hn h'.symm
  | cons c t' =>
    simp only [quoteIn, List.append_assoc] at h'
    rcases hr with rfl | hr
    · have := congrArg List.length h'
      simp only [List.length_append, List.length_cons, List.length_nil] at this
      omega
    · rw [← h'] at hr
      rcases byteQ_cases c with ⟨hc, e⟩ | ⟨hc, e⟩ | ⟨hc, e⟩ | ⟨hc, _, e⟩
      all_goals
        rw [e] at hr
        simp only [List.cons_append, List.nil_append, List.head?_cons, Option.some.injEq] at hr
      · exact absurd hr (by decide)
      · exact absurd hr (by decide)
      · exact absurd hr (by decide)
      · rw [hr] at hc; exact absurd rfl hc
end W
end Go.Proofs.YtphjfighamadgaaGreatDoor
