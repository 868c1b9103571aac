/- Plain: keys' bytes stand in the keys' order. -/
import Derived.Test.YtfadnhihcobclaaDoorKParts
import Derived.Test.YtfadnhihcobclaaDoorKPlainB
import Derived.Test.YtfadnhihcobclaaDoorKEsc
import Derived.Laws.Bits64
namespace Go.Proofs.YtfadnhihcobclaaDoor
namespace K
open Go.Lib (compareBytes)
theorem cmp_eq_cons (c : UInt8) (x y : List UInt8) : compareBytes (c :: x) (c :: y) = compareBytes x y := by
  rw [compareBytes, if_neg (UInt8.lt_irrefl c), if_neg (UInt8.lt_irrefl c)]
theorem cmp_lt {a b : UInt8} (h : a < b) (x y : List UInt8) : compareBytes (a :: x) (b :: y) = -1 := by rw [compareBytes, if_pos h]
theorem cmp_gt {a b : UInt8} (h : b < a) (x y : List UInt8) : compareBytes (a :: x) (b :: y) = 1 := by
  rw [compareBytes, if_neg (UInt8.not_lt.2 (UInt8.le_of_lt h)), if_pos h]
theorem cmp_nil_pos (c : UInt8) (y : List UInt8) : compareBytes [] (c :: y) = -1 := rfl
theorem cmp_pos_nil (c : UInt8) (y : List UInt8) : compareBytes (c :: y) [] = 1 := rfl
theorem trich (a b : UInt8) : a < b ∨ a = b ∨ b < a := by
  rcases UInt8.lt_or_lt_of_ne (a := a) (b := b) |> fun f => Classical.em (a = b) with h | h
  · exact Or.inr (Or.inl h)
  · rcases UInt8.lt_or_lt_of_ne h with h | h
    · exact Or.inl h
    · exact Or.inr (Or.inr h)
theorem cmp_self : ∀ (l : List UInt8), compareBytes l l = 0
  | [] => rfl
  | c :: l => by rw [cmp_eq_cons]; exact cmp_self l
theorem cmp_anti : ∀ (a b : List UInt8), compareBytes b a = - compareBytes a b
  | [], [] => rfl
  | [], _ :: _ => rfl
  | _ :: _, [] => rfl
  | a :: x, b :: y => by
    rcases trich a b with h | rfl | h
    · rw [cmp_lt h, cmp_gt h]; rfl
    · rw [cmp_eq_cons, cmp_eq_cons]; exact cmp_anti x y
    · rw [cmp_lt h, cmp_gt h]
theorem cmp_zero : ∀ (a b : List UInt8), compareBytes a b = 0 → a = b
  | [], [], _ => rfl
  | [], _ :: _, h => by rw [cmp_nil_pos] at h; cases h
  | _ :: _, [], h => by rw [cmp_pos_nil] at h; cases h
  | a :: x, b :: y, h => by
    rcases trich a b with h1 | rfl | h1
    · rw [cmp_lt h1] at h; cases h
    · rw [cmp_eq_cons] at h; rw [cmp_zero x y h]
    · rw [cmp_gt h1] at h; cases h
theorem cmp_three : ∀ (a b : List UInt8), compareBytes a b = -1 ∨ compareBytes a b = 0 ∨ compareBytes a b = 1
  | [], [] => Or.inr (Or.inl rfl)
  | [], _ :: _ => Or.inl rfl
  | _ :: _, [] => Or.inr (Or.inr rfl)
  | a :: x, b :: y => by
    rcases trich a b with h1 | rfl | h1
    · exact Or.inl (cmp_lt h1 _ _)
    · rw [cmp_eq_cons]; exact cmp_three x y
    · exact Or.inr (Or.inr (cmp_gt h1 _ _))
theorem cmp_less : ∀ (a b : List UInt8), Op.bytesLess a b = decide (compareBytes a b = -1)
  | [], [] => rfl
  | [], _ :: _ => rfl
  | _ :: _, [] => rfl
  | a :: x, b :: y => by
    rw [Op.bytesLess, cmp_less x y]
    rcases trich a b with h | rfl | h
    · rw [cmp_lt h]; simp [h]
    · rw [cmp_eq_cons]; simp [UInt8.lt_irrefl]
    · rw [cmp_gt h]
      have h1 : ¬ a < b := UInt8.not_lt.2 (UInt8.le_of_lt h)
      have h2 : ¬ a = b := fun e => by subst e; exact UInt8.lt_irrefl a h
      simp [h1, h2]
/-- a list of bytes as a number, the highest first -/
def val : List UInt8 → Nat
  | [] => 0
  | c :: r => c.toNat * 256 ^ r.length + val r
theorem val_lt : ∀ (l : List UInt8), val l < 256 ^ l.length
  | [] => by simp [val]
  | c :: r => by
    have h1 := val_lt r
    have h2 : c.toNat + 1 ≤ 256 := c.toNat_lt
    have h3 := Nat.mul_le_mul_right (256 ^ r.length) h2
    rw [val, List.length_cons, Nat.pow_succ, Nat.mul_comm (256 ^ r.length) 256]
    rw [Nat.add_mul, Nat.one_mul] at h3
    omega
theorem cmp_val : ∀ (l m x y : List UInt8), l.length = m.length → compareBytes (l ++ x) (m ++ y) = if val l < val m then -1 else if val m < val l then 1 else compareBytes x y
  | [], [], x, y, _ => by simp [val]
  | [], _ :: _, _, _, h => by simp at h
  | _ :: _, [], _, _, h => by simp at h
  | a :: l, b :: m, x, y, h => by
    have hl : l.length = m.length := by simpa using h
    have h1 := val_lt l
    have h2 := val_lt m
    rw [List.cons_append, List.cons_append, val, val, hl]
    rw [hl] at h1
    rcases trich a b with hc | rfl | hc
    · have h3 := Nat.mul_le_mul_right (256 ^ m.length) (show a.toNat + 1 ≤ b.toNat from UInt8.lt_iff_toNat_lt.1 hc)
      rw [Nat.add_mul, Nat.one_mul] at h3
      rw [cmp_lt hc, if_pos (by omega)]
    · rw [cmp_eq_cons, cmp_val l m x y hl]
      rcases Nat.lt_trichotomy (val l) (val m) with hv | hv | hv
      · rw [if_pos hv, if_pos (show a.toNat * 256 ^ m.length + val l < a.toNat * 256 ^ m.length + val m by omega)]
      · rw [hv]; simp
      · rw [if_neg (show ¬ val l < val m by omega), if_pos hv, if_neg (show ¬ a.toNat * 256 ^ m.length + val l < a.toNat * 256 ^ m.length + val m by omega), if_pos (show a.toNat * 256 ^ m.length + val m < a.toNat * 256 ^ m.length + val l by omega)]
    · have h3 := Nat.mul_le_mul_right (256 ^ m.length) (show b.toNat + 1 ≤ a.toNat from UInt8.lt_iff_toNat_lt.1 hc)
      rw [Nat.add_mul, Nat.one_mul] at h3
      rw [cmp_gt hc, if_neg (by omega), if_pos (by omega)]
theorem val_beN (u : Nat) (h : u < 18446744073709551616) : val (beN u 8) = u := by
  simp only [beN, List.range_succ, List.range_zero, List.nil_append, List.cons_append, List.map_cons, List.map_nil, val, List.length_cons, List.length_nil, UInt8.toNat_ofNat']
  omega
theorem xor_top (u : Nat) (h : u < 18446744073709551616) : u ^^^ 9223372036854775808 = if u < 9223372036854775808 then u + 9223372036854775808 else u - 9223372036854775808 := by
  have e1 : (u ^^^ 9223372036854775808) / 9223372036854775808 = (u / 9223372036854775808) ^^^ 1 := by
    have := Nat.xor_div_two_pow (a := u) (b := 9223372036854775808) (n := 63)
    simpa using this
  have e2 : (u ^^^ 9223372036854775808) % 9223372036854775808 = u % 9223372036854775808 := by
    have := Nat.xor_mod_two_pow (a := u) (b := 9223372036854775808) (n := 63)
    simpa using this
  have e3 := Nat.div_add_mod (u ^^^ 9223372036854775808) 9223372036854775808
  rw [e1, e2] at e3
  by_cases hu : u < 9223372036854775808
  · have : u / 9223372036854775808 = 0 := by omega
    rw [this] at e3
    rw [if_pos hu, ← e3, show (0 ^^^ 1 : Nat) = 1 from rfl]
    omega
  · have : u / 9223372036854775808 = 1 := by omega
    rw [this] at e3
    rw [if_neg hu, ← e3, show (1 ^^^ 1 : Nat) = 0 from rfl]
    omega
theorem flip_at (x : Int) (h0 : -9223372036854775808 ≤ x) (h1 : x ≤ 9223372036854775807) : (flipN x : Int) = x + 9223372036854775808 := by
  obtain ⟨u, hu⟩ : ∃ u : Nat, IntKind.u64.wrap x = (u : Int) := ⟨(IntKind.u64.wrap x).toNat, by rw [IntKind.wrap_u64]; omega⟩
  have hu2 : (u : Int) = x % 18446744073709551616 := by rw [← hu, IntKind.wrap_u64]
  have hlt : u < 18446744073709551616 := by omega
  unfold flipN
  rw [hu, show (9223372036854775808 : Int) = ((9223372036854775808 : Nat) : Int) from rfl, Go.bits_xor_u64_nat u 9223372036854775808 hlt (by decide), Int.toNat_natCast, xor_top u hlt]
  split <;> omega
theorem flip_lt (x : Int) (h0 : -9223372036854775808 ≤ x) (h1 : x ≤ 9223372036854775807) : flipN x < 18446744073709551616 := by
  have := flip_at x h0 h1
  omega
theorem cmp_num (x y : Int) (a b : List UInt8) (hx : -9223372036854775808 ≤ x ∧ x ≤ 9223372036854775807) (hy : -9223372036854775808 ≤ y ∧ y ≤ 9223372036854775807) :
    compareBytes (beN (flipN x) 8 ++ a) (beN (flipN y) 8 ++ b) = if ordI x y ≠ 0 then ordI x y else compareBytes a b := by
  rw [cmp_val _ _ _ _ (by rw [beN_length, beN_length]), val_beN _ (flip_lt x hx.1 hx.2), val_beN _ (flip_lt y hy.1 hy.2)]
  have e1 := flip_at x hx.1 hx.2
  have e2 := flip_at y hy.1 hy.2
  unfold ordI
  rcases Int.lt_trichotomy x y with h | h | h
  · rw [if_pos (show flipN x < flipN y by omega), if_pos h]; rfl
  · subst h; simp
  · rw [if_neg (show ¬ flipN x < flipN y by omega), if_pos (show flipN y < flipN x by omega), if_neg (show ¬ x < y by omega), if_pos h]; rfl
theorem zero_lt {c : UInt8} (h : c ≠ 0) : 0 < c := by
  rcases trich 0 c with h1 | h1 | h1
  · exact h1
  · exact absurd h1.symm h
  · rw [UInt8.lt_iff_toNat_lt] at h1; simp at h1
theorem cmp_esc : ∀ (s t a b : List UInt8), compareBytes (escL s ++ 0 :: 0 :: a) (escL t ++ 0 :: 0 :: b) = if compareBytes s t ≠ 0 then compareBytes s t else compareBytes a b
  | [], [], a, b => by
    rw [show compareBytes [] [] = 0 from rfl, if_neg (by decide)]
    show compareBytes (0 :: 0 :: a) (0 :: 0 :: b) = _
    rw [cmp_eq_cons, cmp_eq_cons]
  | [], c :: t, a, b => by
    rw [cmp_nil_pos, if_pos (by decide)]
    unfold escL
    by_cases h : c = 0
    · rw [if_pos h]
      show compareBytes (0 :: 0 :: a) (0 :: 255 :: (escL t ++ 0 :: 0 :: b)) = _
      rw [cmp_eq_cons, cmp_lt (by decide)]
    · rw [if_neg h]
      exact cmp_lt (zero_lt h) _ _
  | c :: s, [], a, b => by
    rw [cmp_pos_nil, if_pos (by decide)]
    unfold escL
    by_cases h : c = 0
    · rw [if_pos h]
      show compareBytes (0 :: 255 :: (escL s ++ 0 :: 0 :: a)) (0 :: 0 :: b) = _
      rw [cmp_eq_cons, cmp_gt (by decide)]
    · rw [if_neg h]
      exact cmp_gt (zero_lt h) _ _
  | c :: s, d :: t, a, b => by
    have ih := cmp_esc s t a b
    unfold escL
    rcases trich c d with h | rfl | h
    · rw [cmp_lt h, if_pos (show (-1 : Int) ≠ 0 by decide)]
      have hd : d ≠ 0 := fun e => by subst e; rw [UInt8.lt_iff_toNat_lt] at h; simp at h
      rw [if_neg hd]
      by_cases hc : c = 0
      · subst hc; rw [if_pos rfl]; exact cmp_lt h _ _
      · rw [if_neg hc]; exact cmp_lt h _ _
    · rw [cmp_eq_cons]
      by_cases hc : c = 0
      · rw [if_pos hc, if_pos hc]
        show compareBytes (0 :: 255 :: (escL s ++ 0 :: 0 :: a)) (0 :: 255 :: (escL t ++ 0 :: 0 :: b)) = _
        rw [cmp_eq_cons, cmp_eq_cons]; exact ih
      · rw [if_neg hc, if_neg hc]
        show compareBytes (c :: (escL s ++ 0 :: 0 :: a)) (c :: (escL t ++ 0 :: 0 :: b)) = _
        rw [cmp_eq_cons]; exact ih
    · rw [cmp_gt h, if_pos (show (1 : Int) ≠ 0 by decide)]
      have hd : c ≠ 0 := fun e => by subst e; rw [UInt8.lt_iff_toNat_lt] at h; simp at h
      rw [if_neg hd]
      by_cases hc : d = 0
      · subst hc; rw [if_pos rfl]; exact cmp_gt h _ _
      · rw [if_neg hc]; exact cmp_gt h _ _
def Part.may (p : Part) : Prop := -9223372036854775808 ≤ p.n ∧ p.n ≤ 9223372036854775807
theorem cmp_part (p q : Part) (a b : List UInt8) (hp : p.may) (hq : q.may) : compareBytes (p.bytes ++ a) (q.bytes ++ b) = if cmpP p q ≠ 0 then cmpP p q else compareBytes a b := by
  obtain ⟨t, n, s⟩ := p
  obtain ⟨t', n', s'⟩ := q
  cases t <;> cases t'
  · show compareBytes (1 :: (beN (flipN n) 8 ++ a)) (1 :: (beN (flipN n') 8 ++ b)) = _
    rw [cmp_eq_cons]
    exact cmp_num n n' a b hp hq
  · show compareBytes (1 :: _) (2 :: _) = _
    rw [cmp_lt (by decide)]; rfl
  · show compareBytes (2 :: _) (1 :: _) = _
    rw [cmp_gt (by decide)]; rfl
  · show compareBytes (2 :: (esc s.data.toList ++ [0, 0] ++ a)) (2 :: (esc s'.data.toList ++ [0, 0] ++ b)) = _
    rw [cmp_eq_cons, esc_eq, esc_eq, List.append_assoc, List.append_assoc]
    exact cmp_esc s.data.toList s'.data.toList a b
theorem bytes_pos (p : Part) (a : List UInt8) : ∃ c r, p.bytes ++ a = c :: r := by
  unfold Part.bytes
  split
  · exact ⟨_, _, rfl⟩
  · exact ⟨_, _, rfl⟩
theorem cmp_pack : ∀ (ps qs : List Part), (∀ p ∈ ps, p.may) → (∀ q ∈ qs, q.may) → compareBytes (packL ps) (packL qs) = cmpK ps qs
  | [], [], _, _ => rfl
  | [], q :: qs, _, _ => by
    obtain ⟨c, r, h⟩ := bytes_pos q (packL qs)
    show compareBytes [] (q.bytes ++ packL qs) = -1
    rw [h]; rfl
  | p :: ps, [], _, _ => by
    obtain ⟨c, r, h⟩ := bytes_pos p (packL ps)
    show compareBytes (p.bytes ++ packL ps) [] = 1
    rw [h]; rfl
  | p :: ps, q :: qs, hp, hq => by
    show compareBytes (p.bytes ++ packL ps) (q.bytes ++ packL qs) = _
    rw [cmp_part p q _ _ (hp p (by simp)) (hq q (by simp)), cmpK, cmp_pack ps qs (fun x hx => hp x (by simp [hx])) (fun x hx => hq x (by simp [hx]))]
/-- what begins with a key begins with its parts -/
theorem begins_parts : ∀ (ps qs : List Part) (r : List UInt8), (∀ p ∈ ps, p.may) → (∀ q ∈ qs, q.may) → compareBytes (packL ps ++ r) (packL qs) = 0 → ps.length ≤ qs.length ∧ cmpK (qs.take ps.length) ps = 0
  | [], qs, r, _, _, _ => ⟨Nat.zero_le _, by simp [cmpK]⟩
  | p :: ps, [], r, _, _, h => by
    obtain ⟨c, x, e⟩ := bytes_pos p (packL ps ++ r)
    rw [show packL (p :: ps) ++ r = p.bytes ++ (packL ps ++ r) from List.append_assoc _ _ _, e] at h
    cases h
  | p :: ps, q :: qs, r, hp, hq, h => by
    rw [show packL (p :: ps) ++ r = p.bytes ++ (packL ps ++ r) from List.append_assoc _ _ _, show packL (q :: qs) = q.bytes ++ packL qs from rfl, cmp_part p q _ _ (hp p (by simp)) (hq q (by simp))] at h
    by_cases h0 : cmpP p q = 0
    · rw [if_neg (by simp [h0])] at h
      obtain ⟨h1, h2⟩ := begins_parts ps qs r (fun x hx => hp x (by simp [hx])) (fun x hx => hq x (by simp [hx])) h
      refine ⟨by simp; omega, ?_⟩
      have e : cmpP q p = 0 := by
        have h3 := cmp_part p q [] [] (hp p (by simp)) (hq q (by simp))
        rw [if_neg (by simp [h0]), List.append_nil, List.append_nil] at h3
        have h4 := cmp_part q p [] [] (hq q (by simp)) (hp p (by simp))
        rw [List.append_nil, List.append_nil, cmp_anti, h3] at h4
        by_cases h5 : cmpP q p = 0
        · exact h5
        · rw [if_pos h5] at h4; rw [← h4]; rfl
      rw [List.length_cons, List.take_succ_cons, cmpK, if_neg (by simp [e])]
      exact h2
    · rw [if_pos h0] at h; exact absurd h h0
theorem begins_pack (ps qs : List Part) (hp : ∀ p ∈ ps, p.may) (hq : ∀ q ∈ qs, q.may) : beginsL (packL qs) (packL ps) = (decide (ps.length ≤ qs.length) && decide (cmpK (qs.take ps.length) ps = 0)) := by
  rw [Bool.eq_iff_iff, begins_iff, Bool.and_eq_true, decide_eq_true_eq, decide_eq_true_eq]
  constructor
  · rintro ⟨u, hu⟩
    refine begins_parts ps qs u hp hq ?_
    rw [← hu]; exact cmp_self _
  · rintro ⟨h1, h2⟩
    have h3 := cmp_pack (qs.take ps.length) ps (fun x hx => hq x (List.mem_of_mem_take hx)) hp
    rw [h2] at h3
    have h4 := cmp_zero _ _ h3
    refine ⟨packL (qs.drop ps.length), ?_⟩
    rw [← h4, ← packL_append, List.take_append_drop]
theorem less_nil (t : List UInt8) : Op.bytesLess t [] = false := by cases t <;> rfl
/-- what stands at a key's head, or behind, ahead of its end -/
theorem in_law (s t : List UInt8) (hs : ∀ c r, s = c :: r → c ≠ 255) : beginsL t s = (!Op.bytesLess t s && (decide (afterL s = []) || Op.bytesLess t (afterL s))) := by
  by_cases he : afterL s = []
  · have hall := after_nil s.length s (Nat.le_refl _) he
    have : s = [] := by
      cases s with
      | nil => rfl
      | cons c r => exact absurd (hall c (by simp)) (hs c r rfl)
    subst this
    rw [less_nil, he]
    rw [show beginsL t [] = true from (begins_iff t []).2 ⟨t, rfl⟩]
    rfl
  · obtain ⟨_, _, h3, h4⟩ := after_law s t he
    rw [decide_eq_false he, Bool.false_or]
    cases hb : beginsL t s
    · cases hl : Op.bytesLess t s
      · cases ha : Op.bytesLess t (afterL s)
        · rfl
        · have hst : Op.bytesLess s t = true := by
            rw [cmp_less]
            rw [cmp_less] at hl
            have h5 := cmp_three t s
            have h6 := cmp_anti t s
            rw [decide_eq_false_iff_not] at hl
            rw [decide_eq_true_eq]
            rcases h5 with h5 | h5 | h5
            · exact absurd h5 hl
            · have e := cmp_zero _ _ h5
              subst e
              exact absurd ((begins_iff t t).2 ⟨[], by simp⟩) (by rw [hb]; decide)
            · rw [h6, h5]
          have := h4 hst ha
          rw [hb] at this; cases this
      · rfl
    · obtain ⟨u, hu⟩ := (begins_iff t s).1 hb
      rw [h3 hb]
      have : Op.bytesLess t s = false := by
        rw [hu]
        have := less_append s u []
        rw [List.append_nil] at this
        rw [this, less_nil]
      rw [this]; rfl
theorem pack_head (ps : List Part) : ∀ c r, packL ps = c :: r → c ≠ 255 := by
  intro c r h
  cases ps with
  | nil => cases h
  | cons p ps =>
    unfold packL Part.bytes at h
    split at h
    · cases h; decide
    · cases h; decide
end K
end Go.Proofs.YtfadnhihcobclaaDoor
