/- Plain: After stands behind all that begins so, and nothing less does. No program in sight. Written by hand for this claim. -/
import Derived.Test.YtfadnhihcobclaaDoorKPlainA
namespace Go.Proofs.YtfadnhihcobclaaDoor
namespace K
open Go.Op (bytesLess)

theorem less_append : ∀ (r a b : List UInt8), bytesLess (r ++ a) (r ++ b) = bytesLess a b
  | [], a, b => rfl
  | c :: r, a, b => by
    simp only [List.cons_append, bytesLess, less_append r a b]
    simp
theorem less_irrefl : ∀ (a : List UInt8), bytesLess a a = false
  | [] => rfl
  | c :: a => by simp [bytesLess, less_irrefl a]
theorem plus_one (x : UInt8) (h : x ≠ 255) : (x + 1).toNat = x.toNat + 1 := by
  have h1 : x.toNat ≠ 255 := fun e => h (UInt8.toNat_inj.1 e)
  have := x.toNat_lt
  rw [UInt8.toNat_add]
  show (x.toNat + 1) % 256 = _
  omega
theorem lt_plus (x : UInt8) (h : x ≠ 255) : x < x + 1 := by rw [UInt8.lt_iff_toNat_lt, plus_one x h]; omega
theorem not_plus_lt (x : UInt8) (h : x ≠ 255) : ¬ x + 1 < x := by rw [UInt8.lt_iff_toNat_lt, plus_one x h]; omega
theorem plus_ne (x : UInt8) (h : x ≠ 255) : x + 1 ≠ x := by
  intro e
  have := congrArg UInt8.toNat e
  rw [plus_one x h] at this; omega

/-- the end stands behind -/
theorem end_not (r : List UInt8) (x : UInt8) (a : List UInt8) (h : x ≠ 255) : bytesLess (r ++ [x + 1]) (r ++ x :: a) = false := by
  rw [less_append]
  simp only [bytesLess, Bool.or_eq_false_iff, decide_eq_false_iff_not, Bool.and_eq_false_iff]
  exact ⟨not_plus_lt x h, Or.inl (beq_eq_false_iff_ne.2 (plus_ne x h))⟩
theorem end_ne (r : List UInt8) (x : UInt8) (a : List UInt8) (h : x ≠ 255) : r ++ [x + 1] ≠ r ++ x :: a := by
  intro e
  have := List.append_cancel_left e
  exact plus_ne x h (List.cons.inj this).1
/-- what begins so stands ahead of it -/
theorem begins_less (r : List UInt8) (x : UInt8) (a u : List UInt8) (h : x ≠ 255) : bytesLess (r ++ x :: a ++ u) (r ++ [x + 1]) = true := by
  rw [List.append_assoc, less_append]
  simp only [List.cons_append, bytesLess, Bool.or_eq_true, decide_eq_true_eq]
  exact Or.inl (lt_plus x h)
theorem less_full : ∀ (k : Nat) (t : List UInt8), bytesLess (List.replicate k 255) t = true → ∃ u, t = List.replicate k 255 ++ u
  | 0, t, _ => ⟨t, rfl⟩
  | k + 1, [], h => by simp [List.replicate_succ, bytesLess] at h
  | k + 1, z :: t, h => by
    rw [List.replicate_succ] at h ⊢
    simp only [bytesLess, Bool.or_eq_true, decide_eq_true_eq, Bool.and_eq_true, beq_iff_eq] at h
    rcases h with h | ⟨h, h'⟩
    · exfalso
      rw [UInt8.lt_iff_toNat_lt] at h
      have := z.toNat_lt
      have e : (255 : UInt8).toNat = 255 := rfl
      omega
    · obtain ⟨u, e⟩ := less_full k t h'
      exact ⟨u, by rw [← h, e]; rfl⟩
theorem between : ∀ (r : List UInt8) (x : UInt8) (k : Nat) (t : List UInt8), x ≠ 255 → bytesLess (r ++ x :: List.replicate k 255) t = true → bytesLess t (r ++ [x + 1]) = true → ∃ u, t = r ++ x :: List.replicate k 255 ++ u
  | [], x, k, [], _, h, _ => by simp [bytesLess] at h
  | [], x, k, y :: t, hx, h1, h2 => by
    simp only [List.nil_append, bytesLess, Bool.or_eq_true, decide_eq_true_eq, Bool.and_eq_true, beq_iff_eq, Bool.false_eq_true, and_false, or_false] at h1 h2
    rw [UInt8.lt_iff_toNat_lt, plus_one x hx] at h2
    rcases h1 with h1 | ⟨h1, h'⟩
    · exfalso; rw [UInt8.lt_iff_toNat_lt] at h1; omega
    · obtain ⟨u, e⟩ := less_full k t h'
      exact ⟨u, by rw [← h1, e]; simp⟩
  | c :: r, x, k, [], _, h, _ => by simp [bytesLess] at h
  | c :: r, x, k, y :: t, hx, h1, h2 => by
    simp only [List.cons_append, bytesLess, Bool.or_eq_true, decide_eq_true_eq, Bool.and_eq_true, beq_iff_eq] at h1 h2
    rcases h1 with h1 | ⟨h1, h'⟩
    · rcases h2 with h2 | ⟨h2, _⟩
      · exfalso; rw [UInt8.lt_iff_toNat_lt] at h1 h2; omega
      · exfalso; subst h2; rw [UInt8.lt_iff_toNat_lt] at h1; omega
    · subst h1
      rcases h2 with h2 | ⟨_, h2'⟩
      · exfalso; rw [UInt8.lt_iff_toNat_lt] at h2; omega
      · obtain ⟨u, e⟩ := between r x k t hx h' h2'
        exact ⟨u, by rw [e]; simp⟩
/-- does one text begin with another one? -/
def beginsL (t s : List UInt8) : Bool := decide (s.length ≤ t.length) && decide (t.take s.length = s)
theorem begins_iff (t s : List UInt8) : beginsL t s = true ↔ ∃ u, t = s ++ u := by
  unfold beginsL
  simp only [Bool.and_eq_true, decide_eq_true_eq]
  constructor
  · rintro ⟨_, e⟩; exact ⟨t.drop s.length, by conv => lhs; rw [← List.take_append_drop s.length t, e]⟩
  · rintro ⟨u, rfl⟩; exact ⟨by simp, by simp⟩
/-- THE LAW -/
theorem after_law (s t : List UInt8) (h : afterL s ≠ []) :
    bytesLess (afterL s) s = false ∧ afterL s ≠ s ∧ (beginsL t s = true → bytesLess t (afterL s) = true) ∧ (bytesLess s t = true → bytesLess t (afterL s) = true → beginsL t s = true) := by
  obtain ⟨r, x, k, hx, e1, e2⟩ := after_some s.length s (Nat.le_refl _) h
  rw [e2]
  refine ⟨?_, ?_, ?_, ?_⟩
  · conv => lhs; rw [e1]
    exact end_not r x _ hx
  · intro e; rw [e1] at e; exact end_ne r x _ hx e
  · intro hb
    obtain ⟨u, e⟩ := (begins_iff t s).1 hb
    rw [e, e1]
    exact begins_less r x _ u hx
  · intro h1 h2
    rw [e1] at h1
    rw [begins_iff]
    obtain ⟨u, e⟩ := between r x k t hx h1 h2
    exact ⟨u, by rw [e, ← e1]⟩
end K
end Go.Proofs.YtfadnhihcobclaaDoor
