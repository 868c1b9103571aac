/- Plain: what a name is, over the bytes of a text. No program in sight. Written by hand for this claim. -/
import Derived.Lib.ValidLaws
namespace Go.Proofs.YtakplnceiibmlaaGreatDoor
namespace W

/-- a letter -/
def letter (n : Nat) : Bool := decide (97 ≤ n ∧ n ≤ 122) || decide (65 ≤ n ∧ n ≤ 90)
/-- what may stand behind the first place only -/
def other (n : Nat) : Bool := decide (48 ≤ n ∧ n ≤ 57) || decide (n = 45) || decide (n = 95) || decide (n = 46)
/-- may the byte stand at the place? -/
def stands (i n : Nat) : Bool := letter n || (other n && decide (i ≠ 0))
/-- do all bytes from a place on stand? -/
def standsAll : Nat → List UInt8 → Bool
  | _, [] => true
  | i, c :: r => stands i c.toNat && standsAll (i + 1) r
/-- a name -/
def nameB (l : List UInt8) : Bool := decide (1 ≤ l.length ∧ l.length ≤ 32) && standsAll 0 l

theorem standsAll_append : ∀ (l r : List UInt8) (i : Nat), standsAll i (l ++ r) = (standsAll i l && standsAll (i + l.length) r)
  | [], r, i => by simp [standsAll]
  | c :: l, r, i => by
    simp only [List.cons_append, standsAll, standsAll_append l r (i + 1), List.length_cons, Bool.and_assoc]
    rw [show i + 1 + l.length = i + (l.length + 1) from by omega]

theorem take_snoc (s : ByteArray) (k : Nat) (h : k < s.size) : s.data.toList.take (k + 1) = s.data.toList.take k ++ [s[k]] := by
  rw [List.take_succ_eq_append_getElem (by simpa using h)]; rfl
theorem drop_cons (s : ByteArray) (k : Nat) (h : k < s.size) : s.data.toList.drop k = s[k] :: s.data.toList.drop (k + 1) := by
  rw [List.drop_eq_getElem_cons (by simpa using h)]; rfl

/-- a round of the search -/
theorem stands_round (s : ByteArray) (k : Nat) (h : k < s.size) : standsAll k (s.data.toList.drop k) = (stands k s[k].toNat && standsAll (k + 1) (s.data.toList.drop (k + 1))) := by
  rw [drop_cons s k h]; rfl
theorem stands_end (s : ByteArray) : standsAll s.size (s.data.toList.drop s.size) = true := by
  rw [List.drop_of_length_le (by simp)]; rfl
theorem nameB_len (s : ByteArray) (h : ¬ (1 ≤ s.size ∧ s.size ≤ 32)) : nameB s.data.toList = false := by
  unfold nameB
  rw [decide_eq_false (by simpa using h)]; rfl
theorem nameB_of (s : ByteArray) (h : 1 ≤ s.size ∧ s.size ≤ 32) : nameB s.data.toList = standsAll 0 s.data.toList := by
  unfold nameB
  rw [decide_eq_true (by simpa using h)]; simp
/-- may all bytes stand somewhere? -/
def okAll : List UInt8 → Bool
  | [] => true
  | c :: r => (letter c.toNat || other c.toNat) && okAll r
theorem okAll_of : ∀ (l : List UInt8) (i : Nat), 0 < i → standsAll i l = okAll l
  | [], _, _ => rfl
  | c :: l, i, h => by
    have hi : i ≠ 0 := by omega
    simp only [standsAll, okAll, okAll_of l (i + 1) (by omega), stands, hi, ne_eq, not_false_eq_true, decide_true, Bool.and_true]
theorem stands_first (s : ByteArray) (h : 0 < s.size) : standsAll 0 s.data.toList = (letter s[0].toNat && okAll s.data.toList) := by
  have e : s.data.toList = s[0] :: s.data.toList.drop 1 := by have := drop_cons s 0 h; simpa using this
  rw [e]
  simp only [standsAll, okAll, okAll_of _ 1 (by omega), stands, ne_eq, not_true_eq_false, decide_false, Bool.and_false, Bool.or_false]
  cases letter s[0].toNat <;> simp
theorem ok_round (s : ByteArray) (k : Nat) (h : k < s.size) : okAll (s.data.toList.drop k) = ((letter s[k].toNat || other s[k].toNat) && okAll (s.data.toList.drop (k + 1))) := by
  rw [drop_cons s k h]; rfl
theorem ok_end (s : ByteArray) : okAll (s.data.toList.drop s.size) = true := by
  rw [List.drop_of_length_le (by simp)]; rfl
end W
end Go.Proofs.YtakplnceiibmlaaGreatDoor
