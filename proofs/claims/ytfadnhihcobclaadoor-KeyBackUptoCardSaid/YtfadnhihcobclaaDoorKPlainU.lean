/- Plain: a key of bytes. No program in sight. -/
import Derived.Test.YtfadnhihcobclaaDoorKPlainP
namespace Go.Proofs.YtfadnhihcobclaaDoor
open Go.RowKit
namespace K
/-- a text taken off bytes: the text, what is left -/
def textL : List UInt8 → Option (List UInt8 × List UInt8)
  | [] => none
  | [_] => none
  | c :: d :: r => if c = 0 then (if d = 0 then some ([], r) else if d = 255 then (textL r).map fun p => (0 :: p.1, p.2) else none) else (textL (d :: r)).map fun p => (c :: p.1, p.2)
def joinT (acc : List UInt8) (o : Option (List UInt8 × List UInt8)) : Option (List UInt8 × List UInt8) := o.map fun p => (acc ++ p.1, p.2)
theorem joinT_nil (o : Option (List UInt8 × List UInt8)) : joinT [] o = o := by cases o <;> rfl
theorem joinT_more (acc : List UInt8) (c : UInt8) (o : Option (List UInt8 × List UInt8)) : joinT acc (o.map fun p => (c :: p.1, p.2)) = joinT (acc ++ [c]) o := by
  cases o with
  | none => rfl
  | some p => simp [joinT]
theorem textL_byte (c : UInt8) (r : List UInt8) (h : c ≠ 0) : textL (c :: r) = (textL r).map fun p => (c :: p.1, p.2) := by
  cases r with
  | nil => rfl
  | cons d r => rw [textL, if_neg h]
theorem textL_end (r : List UInt8) : textL (0 :: 0 :: r) = some ([], r) := by rw [textL, if_pos rfl, if_pos rfl]
theorem textL_zero (r : List UInt8) : textL (0 :: 255 :: r) = (textL r).map fun p => (0 :: p.1, p.2) := by rw [textL, if_pos rfl, if_neg (by decide), if_pos rfl]
theorem textL_no (d : UInt8) (r : List UInt8) (h : d ≠ 0) (h' : d ≠ 255) : textL (0 :: d :: r) = none := by rw [textL, if_pos rfl, if_neg h, if_neg h']
theorem textL_length : ∀ (n : Nat) (l : List UInt8), l.length ≤ n → ∀ p, textL l = some p → p.1.length + p.2.length < l.length
  | 0, l, hn, p, h => by
    rw [List.eq_nil_of_length_eq_zero (by omega : l.length = 0)] at h
    simp [textL] at h
  | n + 1, [], _, p, h => by simp [textL] at h
  | n + 1, [c], _, p, h => by simp [textL] at h
  | n + 1, c :: d :: r, hn, p, h => by
    simp only [List.length_cons] at hn
    rw [textL] at h
    by_cases hc : c = 0
    · rw [if_pos hc] at h
      by_cases hd : d = 0
      · rw [if_pos hd] at h
        obtain rfl := Option.some.inj h
        simp only [List.length_cons, List.length_nil]; omega
      · rw [if_neg hd] at h
        by_cases hd2 : d = 255
        · rw [if_pos hd2] at h
          obtain ⟨q, hq, rfl⟩ := Option.map_eq_some_iff.1 h
          have := textL_length n r (by omega) q hq
          simp only [List.length_cons]; omega
        · rw [if_neg hd2] at h; cases h
    · rw [if_neg hc] at h
      obtain ⟨q, hq, rfl⟩ := Option.map_eq_some_iff.1 h
      have := textL_length n (d :: r) (by simp only [List.length_cons]; omega) q hq
      simp only [List.length_cons] at this ⊢; omega
/-- the number of bytes, the highest first -/
def numL (l : List UInt8) : Nat := l.foldl (fun n c => n * 256 + c.toNat) 0
theorem numL_snoc (l : List UInt8) (c : UInt8) : numL (l ++ [c]) = numL l * 256 + c.toNat := by simp [numL]
theorem numL_lt : ∀ (n : Nat) (l : List UInt8), l.length = n → numL l < 256 ^ n := by
  intro n
  induction n with
  | zero =>
    intro l hl
    rw [List.eq_nil_of_length_eq_zero hl]; decide
  | succ n ih =>
    intro l hl
    rcases List.eq_nil_or_concat l with rfl | ⟨r, y, rfl⟩
    · simp at hl
    · rw [List.concat_eq_append] at *
      rw [numL_snoc]
      have := ih r (by simpa using hl)
      have hy := y.toNat_lt
      rw [Nat.pow_succ]; omega
def numP (g : Nat) : Part := ⟨false, wrap64 (bits .xor .u64 (g : Int) 9223372036854775808), ⟨#[]⟩⟩
def textP (t : List UInt8) : Part := ⟨true, 0, ⟨t.toArray⟩⟩
/-- the parts of bytes -/
def unpackF : Nat → List UInt8 → Option (List Part)
  | _, [] => some []
  | 0, _ :: _ => none
  | f + 1, c :: r => if c = 1 ∧ 8 ≤ r.length then (unpackF f (r.drop 8)).map (numP (numL (r.take 8)) :: ·)
    else if c = 2 then (match textL r with | none => none | some p => (unpackF f p.2).map (textP p.1 :: ·)) else none
def resOf : Option (List Part) → List Part × Int
  | none => ([], 4)
  | some ps => if 16 < ps.length then ([], 4) else (ps, 0)
def unpack (l : List UInt8) : List Part × Int := resOf (unpackF l.length l)
def joinP (acc : List Part) (o : Option (List Part)) : Option (List Part) := o.map (acc ++ ·)
theorem joinP_nil (o : Option (List Part)) : joinP [] o = o := by cases o <;> rfl
theorem joinP_more (acc : List Part) (p : Part) (o : Option (List Part)) : joinP acc (o.map (p :: ·)) = joinP (acc ++ [p]) o := by
  cases o with
  | none => rfl
  | some q => simp [joinP]
/-- what is left to be read: r, behind the parts acc; U is the whole -/
def Left (U : Option (List Part)) (acc : List Part) (r : List UInt8) : Prop := ∃ f, r.length ≤ f ∧ U = joinP acc (unpackF f r)
theorem Left.start (l : List UInt8) : Left (unpackF l.length l) [] l := ⟨_, Nat.le_refl _, (joinP_nil _).symm⟩
theorem Left.num {U : Option (List Part)} {acc : List Part} {r : List UInt8} (h : Left U acc (1 :: r)) (h8 : 8 ≤ r.length) : Left U (acc ++ [numP (numL (r.take 8))]) (r.drop 8) := by
  obtain ⟨f, hf, e⟩ := h
  cases f with
  | zero => simp at hf
  | succ f =>
    rw [unpackF, if_pos ⟨rfl, h8⟩, joinP_more] at e
    exact ⟨f, by simp only [List.length_cons, List.length_drop] at hf ⊢; omega, e⟩
theorem Left.short {U : Option (List Part)} {acc : List Part} {r : List UInt8} (h : Left U acc (1 :: r)) (h8 : ¬ 8 ≤ r.length) : U = none := by
  obtain ⟨f, hf, e⟩ := h
  cases f with
  | zero => simp at hf
  | succ f =>
    rw [unpackF, if_neg (fun e => h8 e.2), if_neg (by decide)] at e
    exact e
theorem Left.other {U : Option (List Part)} {acc : List Part} {c : UInt8} {r : List UInt8} (h : Left U acc (c :: r)) (h1 : c ≠ 1) (h2 : c ≠ 2) : U = none := by
  obtain ⟨f, hf, e⟩ := h
  cases f with
  | zero => simp at hf
  | succ f =>
    rw [unpackF, if_neg (fun e => h1 e.1), if_neg h2] at e
    exact e
theorem Left.no {U : Option (List Part)} {acc : List Part} {r : List UInt8} (h : Left U acc (2 :: r)) (ht : textL r = none) : U = none := by
  obtain ⟨f, hf, e⟩ := h
  cases f with
  | zero => simp at hf
  | succ f =>
    rw [unpackF, if_neg (fun e => absurd e.1 (by decide)), if_pos rfl, ht] at e
    exact e
theorem Left.text {U : Option (List Part)} {acc : List Part} {r : List UInt8} (h : Left U acc (2 :: r)) {p : List UInt8 × List UInt8} (ht : textL r = some p) : Left U (acc ++ [textP p.1]) p.2 := by
  obtain ⟨f, hf, e⟩ := h
  have hl := textL_length _ r (Nat.le_refl _) p ht
  cases f with
  | zero => simp at hf
  | succ f =>
    rw [unpackF, if_neg (fun e => absurd e.1 (by decide)), if_pos rfl, ht] at e
    simp only at e
    rw [joinP_more] at e
    exact ⟨f, by simp only [List.length_cons] at hf; omega, e⟩
theorem Left.done {U : Option (List Part)} {acc : List Part} (h : Left U acc []) : U = some acc := by
  obtain ⟨f, _, e⟩ := h
  rw [e]
  cases f <;> simp [unpackF, joinP]
theorem drop_cons (s : ByteArray) (n : Nat) (h : n < s.size) : s.data.toList.drop n = s[n] :: s.data.toList.drop (n + 1) := by
  have h' : n < s.data.toList.length := by rw [Array.length_toList]; exact h
  rw [List.drop_eq_getElem_cons h']
  rfl
theorem u8eq {a b : UInt8} (h : a.toNat = b.toNat) : a = b := UInt8.toNat_inj.1 h
end K
end Go.Proofs.YtfadnhihcobclaaDoor
