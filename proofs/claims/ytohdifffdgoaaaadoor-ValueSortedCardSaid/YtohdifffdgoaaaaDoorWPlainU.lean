/- Plain: what a quoted text is read as: the one text that is quoted so. No program in sight. Written by hand for this claim. -/
import Derived.Test.YtohdifffdgoaaaaDoorWPlainQ
namespace Go.Proofs.YtohdifffdgoaaaaDoor
namespace W

theorem u8eq {a b : UInt8} (h : a.toNat = b.toNat) : a = b := UInt8.toNat_inj.1 h
/-- what a byte's quoting begins with -/
theorem byteQ_cases (c : UInt8) :
    ((c.toNat = 34 ∨ c.toNat = 92) ∧ byteQ c = [92, c])
    ∨ (c = 10 ∧ byteQ c = [92, 110])
    ∨ ((c.toNat < 32 ∨ 126 < c.toNat) ∧ byteQ c = [92, 120, hexD (c.toNat / 16), hexD (c.toNat % 16)])
    ∨ (c.toNat ≠ 34 ∧ c.toNat ≠ 92 ∧ byteQ c = [c]) := by
  unfold byteQ
  by_cases h1 : c.toNat = 34 ∨ c.toNat = 92
  · left; exact ⟨h1, by rw [if_pos h1]⟩
  · right
    by_cases h2 : c.toNat = 10
    · left; exact ⟨u8eq h2, by rw [if_neg h1, if_pos h2]⟩
    · right
      by_cases h3 : c.toNat < 32 ∨ 126 < c.toNat
      · left; exact ⟨h3, by rw [if_neg h1, if_neg h2, if_pos h3]⟩
      · right; exact ⟨by omega, by omega, by rw [if_neg h1, if_neg h2, if_neg h3]⟩
theorem n92 : (92 : UInt8).toNat = 92 := rfl
theorem n34 : (34 : UInt8).toNat = 34 := rfl
theorem n110 : (110 : UInt8).toNat = 110 := rfl
theorem n120 : (120 : UInt8).toNat = 120 := rfl
theorem ne_of_nat {a b : UInt8} (h : a.toNat ≠ b.toNat) : a ≠ b := fun e => h (by rw [e])

/-- what is left of a quoting, seen from its first bytes -/
theorem in_plain (t : List UInt8) (a : UInt8) (r : List UInt8) (ha : a.toNat ≠ 92) (h : quoteIn t = a :: r) : ∃ t', t = a :: t' ∧ quoteIn t' = r := by
  cases t with
  | nil => cases h
  | cons c t =>
    simp only [quoteIn] at h
    rcases byteQ_cases c with ⟨_, e⟩ | ⟨_, e⟩ | ⟨_, e⟩ | ⟨_, _, e⟩
    all_goals
      rw [e] at h
      simp only [List.cons_append, List.nil_append, List.cons.injEq] at h
    · exact absurd (by rw [← h.1]; rfl) ha
    · exact absurd (by rw [← h.1]; rfl) ha
    · exact absurd (by rw [← h.1]; rfl) ha
    · exact ⟨t, by rw [h.1], h.2⟩
theorem in_line (t : List UInt8) (r : List UInt8) (h : quoteIn t = 92 :: 110 :: r) : ∃ t', t = 10 :: t' ∧ quoteIn t' = r := by
  cases t with
  | nil => cases h
  | cons c t =>
    simp only [quoteIn] at h
    rcases byteQ_cases c with ⟨hc, e⟩ | ⟨hc, e⟩ | ⟨_, e⟩ | ⟨_, hc, e⟩
    all_goals
      rw [e] at h
      simp only [List.cons_append, List.nil_append, List.cons.injEq, true_and] at h
    · rw [h.1] at hc; rw [n110] at hc; omega
    · exact ⟨t, by rw [hc], h⟩
    · exact absurd h.1 (by decide)
    · rw [h.1] at hc; exact absurd rfl hc
theorem in_hex (t : List UInt8) (a b : UInt8) (r : List UInt8) (h : quoteIn t = 92 :: 120 :: a :: b :: r) : ∃ c t', t = c :: t' ∧ a = hexD (c.toNat / 16) ∧ b = hexD (c.toNat % 16) ∧ quoteIn t' = r := by
  cases t with
  | nil => cases h
  | cons c t =>
    simp only [quoteIn] at h
    rcases byteQ_cases c with ⟨hc, e⟩ | ⟨hc, e⟩ | ⟨_, e⟩ | ⟨_, hc, e⟩
    all_goals
      rw [e] at h
      simp only [List.cons_append, List.nil_append, List.cons.injEq, true_and] at h
    · rw [h.1] at hc; rw [n120] at hc; omega
    · exact absurd h.1 (by decide)
    · exact ⟨c, t, rfl, h.1.symm, h.2.1.symm, h.2.2⟩
    · rw [h.1] at hc; exact absurd rfl hc
theorem in_back (t : List UInt8) (d : UInt8) (r : List UInt8) (h : quoteIn t = 92 :: d :: r) (h1 : d.toNat ≠ 110) (h2 : d.toNat ≠ 120 ∨ r.length < 2) : ∃ t', t = d :: t' ∧ quoteIn t' = r := by
  cases t with
  | nil => cases h
  | cons c t =>
    simp only [quoteIn] at h
    rcases byteQ_cases c with ⟨hc, e⟩ | ⟨hc, e⟩ | ⟨_, e⟩ | ⟨_, hc, e⟩
    all_goals
      rw [e] at h
      simp only [List.cons_append, List.nil_append, List.cons.injEq, true_and] at h
    · exact ⟨t, by rw [h.1], h.2⟩
    · rw [← h.1, n110] at h1; omega
    · have := congrArg List.length h.2
      simp only [List.length_cons] at this
      rw [← h.1, n120] at h2
      omega
    · rw [h.1] at hc; exact absurd rfl hc
theorem in_alone (t : List UInt8) (h : quoteIn t = [92]) : False := by
  cases t with
  | nil => cases h
  | cons c t =>
    simp only [quoteIn] at h
    rcases byteQ_cases c with ⟨hc, e⟩ | ⟨hc, e⟩ | ⟨_, e⟩ | ⟨_, hc, e⟩
    all_goals
      rw [e] at h
      simp only [List.cons_append, List.nil_append, List.cons.injEq, true_and] at h
    · cases h
    · cases h
    · cases h
    · rw [h.1] at hc; exact absurd rfl hc
theorem in_end (t : List UInt8) (h : quoteIn t = []) : t = [] := by
  cases t with
  | nil => rfl
  | cons c t =>
    exfalso
    have := congrArg List.length h
    simp only [quoteIn, List.length_append, List.length_nil] at this
    have := (byteQ_length c).1
    omega

/-- a digit of base sixteen, read -/
def hexV (c : UInt8) : Option Nat :=
  if 48 ≤ c.toNat ∧ c.toNat ≤ 57 then some (c.toNat - 48)
  else if 97 ≤ (c.toNat ||| 32) ∧ (c.toNat ||| 32) ≤ 102 then some ((c.toNat ||| 32) - 87) else none
theorem hexV_hexD (k : Nat) (h : k < 16) : hexV (hexD k) = some k := by
  have : ∀ y : Fin 16, hexV (hexD y.val) = some y.val := by decide +kernel
  exact this ⟨k, h⟩
theorem hexV_lt (c : UInt8) (x : Nat) (h : hexV c = some x) : x < 16 := by
  unfold hexV at h
  split at h
  · cases h; omega
  · split at h
    · cases h; omega
    · cases h
/-- digits of base sixteen, one behind the other -/
def hexP : Nat → List UInt8 → Option Nat
  | acc, [] => some acc
  | acc, c :: r => match hexV c with
    | some d => hexP (acc * 16 + d) r
    | none => none
theorem hexP_none (acc : Nat) (c : UInt8) (r : List UInt8) (h : hexV c = none) : hexP acc (c :: r) = none := by simp only [hexP, h]
theorem hexP_some (acc : Nat) (c : UInt8) (r : List UInt8) (d : Nat) (h : hexV c = some d) : hexP acc (c :: r) = hexP (acc * 16 + d) r := by simp only [hexP, h]
theorem hexP_of (c : UInt8) : hexP 0 [hexD (c.toNat / 16), hexD (c.toNat % 16)] = some c.toNat := by
  have := c.toNat_lt
  rw [hexP_some _ _ _ _ (hexV_hexD (c.toNat / 16) (by omega)), hexP_some _ _ _ _ (hexV_hexD (c.toNat % 16) (by omega))]
  simp only [hexP]; congr 1; omega

/-- what is left to read of a quoting's inside l, when out is read -/
def Left (l out r : List UInt8) : Prop := ∀ t, quoteIn t = l → ∃ t', t = out ++ t' ∧ quoteIn t' = r
theorem Left.start (l : List UInt8) : Left l [] l := fun t h => ⟨t, rfl, h⟩
theorem Left.next {l out r r' : List UInt8} {c : UInt8} (h : Left l out r) (hs : ∀ t, quoteIn t = r → ∃ t', t = c :: t' ∧ quoteIn t' = r') : Left l (out ++ [c]) r' := by
  intro t ht
  obtain ⟨t', e, h'⟩ := h t ht
  obtain ⟨t'', e', h''⟩ := hs t' h'
  exact ⟨t'', by rw [e, e']; simp, h''⟩
theorem Left.none {l out r : List UInt8} (h : Left l out r) (hs : ∀ t, quoteIn t = r → False) (t : List UInt8) (ht : quoteIn t = l) : False := by
  obtain ⟨t', _, h'⟩ := h t ht
  exact hs t' h'
theorem Left.stop {l out : List UInt8} (h : Left l out []) (t : List UInt8) (ht : quoteIn t = l) : t = out := by
  obtain ⟨t', e, h'⟩ := h t ht
  rw [e, in_end t' h', List.append_nil]

/-- what is quoted is read as one text -/
theorem quoteIn_inj : ∀ (a b : List UInt8), quoteIn a = quoteIn b → a = b
  | [], b, h => (in_end b h.symm).symm
  | c :: a, b, h => by
    simp only [quoteIn] at h
    rcases byteQ_cases c with ⟨hc, e⟩ | ⟨hc, e⟩ | ⟨hc, e⟩ | ⟨_, hc, e⟩
    all_goals
      rw [e] at h
      simp only [List.cons_append, List.nil_append] at h
    · obtain ⟨t', e', h'⟩ := in_back b c _ h.symm (by omega) (by omega)
      rw [e', quoteIn_inj a t' h'.symm]
    · obtain ⟨t', e', h'⟩ := in_line b _ h.symm
      rw [e', hc, quoteIn_inj a t' h'.symm]
    · obtain ⟨d, t', e', h1, h2, h'⟩ := in_hex b _ _ _ h.symm
      have hd : d = c := by
        have e1 := hexP_of c
        have e2 := hexP_of d
        rw [h1, h2, e2] at e1
        exact u8eq (Option.some.inj e1)
      rw [e', hd, quoteIn_inj a t' h'.symm]
    · obtain ⟨t', e', h'⟩ := in_plain b c _ hc h.symm
      rw [e', quoteIn_inj a t' h'.symm]
theorem quoteL_in {a : List UInt8} {l : List UInt8} (h : quoteL a = 34 :: (l ++ [34])) : quoteIn a = l := by
  unfold quoteL at h
  have := (List.cons.inj h).2
  exact List.append_cancel_right this
theorem quoteL_inj (a b : List UInt8) (h : quoteL a = quoteL b) : a = b := quoteIn_inj a b (quoteL_in h)

open Classical in
/-- what a quoted text is read as -/
noncomputable def unqL (l : List UInt8) : List UInt8 × Bool := if h : ∃ t, quoteL t = l then (h.choose, true) else ([], false)
theorem unqL_yes (t : List UInt8) : unqL (quoteL t) = (t, true) := by
  have h : ∃ t', quoteL t' = quoteL t := ⟨t, rfl⟩
  unfold unqL
  rw [dif_pos h, quoteL_inj _ _ h.choose_spec]
theorem unqL_of {l t : List UInt8} (h : quoteL t = l) : unqL l = (t, true) := by rw [← h]; exact unqL_yes t
theorem unqL_no {l : List UInt8} (h : ∀ t, quoteL t = l → False) : unqL l = ([], false) := by
  unfold unqL
  rw [dif_neg (fun ⟨t, e⟩ => h t e)]

/-- a prefix that is a quoting's inside stays one -/
theorem in_prefix : ∀ (o t r : List UInt8), quoteIn t ++ [34] = quoteIn o ++ r → ∃ t', t = o ++ t' ∧ quoteIn t' ++ [34] = r
  | [], t, r, h => ⟨t, rfl, h⟩
  | c :: o, t, r, h => by
    cases t with
    | nil =>
      exfalso
      simp only [quoteIn, List.nil_append, List.append_assoc] at h
      rcases byteQ_cases c with ⟨hc, e⟩ | ⟨hc, e⟩ | ⟨hc, e⟩ | ⟨hc, _, e⟩
      all_goals
        rw [e] at h
        simp only [List.cons_append, List.nil_append, List.cons.injEq] at h
      · exact absurd h.1 (by decide)
      · exact absurd h.1 (by decide)
      · exact absurd h.1 (by decide)
      · rw [← h.1] at hc; exact absurd rfl hc
    | cons d t =>
      simp only [quoteIn, List.append_assoc] at h
      have key : d = c ∧ quoteIn t ++ [34] = quoteIn o ++ r := by
        rcases byteQ_cases c with ⟨hc, e⟩ | ⟨hc, e⟩ | ⟨hc, e⟩ | ⟨hc, hc', e⟩ <;>
          rcases byteQ_cases d with ⟨hd, f⟩ | ⟨hd, f⟩ | ⟨hd, f⟩ | ⟨hd, hd', f⟩
        all_goals
          rw [e, f] at h
          simp only [List.cons_append, List.nil_append, List.cons.injEq, true_and] at h
        · exact h
        · rw [← h.1, n110] at hc; omega
        · rw [← h.1, n120] at hc; omega
        · rw [h.1] at hd'; exact absurd rfl hd'
        · rw [h.1, n110] at hd; omega
        · exact ⟨by rw [hc, hd], h⟩
        · exact absurd h.1 (by decide)
        · rw [h.1] at hd'; exact absurd rfl hd'
        · rw [h.1, n120] at hd; omega
        · exact absurd h.1 (by decide)
        · obtain ⟨h1, h2, h3⟩ := h
          refine ⟨?_, h3⟩
          have e1 := hexP_of c
          have e2 := hexP_of d
          rw [h1, h2, e1] at e2
          exact (u8eq (Option.some.inj e2)).symm
        · rw [h.1] at hd'; exact absurd rfl hd'
        · rw [← h.1] at hc'; exact absurd rfl hc'
        · rw [← h.1] at hc'; exact absurd rfl hc'
        · rw [← h.1] at hc'; exact absurd rfl hc'
        · exact h
      obtain ⟨t', e', h'⟩ := in_prefix o t r key.2
      exact ⟨t', by rw [key.1, e']; rfl, h'⟩
/-- no byte that could be quoted so begins there: no text is quoted so -/
theorem no_byte {l o r : List UInt8} (hl : l = 34 :: (quoteIn o ++ r)) (hr : r.head? ≠ some 34) (hn : ∀ c, ¬ ∃ x, r = byteQ c ++ x) (t : List UInt8) (ht : quoteL t = l) : False := by
  subst hl
  obtain ⟨t', _, h'⟩ := in_prefix o t r (List.cons.inj ht).2
  cases t' with
  | nil => rw [← h'] at hr; exact hr rfl
  | cons c t' =>
    simp only [quoteIn, List.append_assoc] at h'
    exact hn c ⟨_, h'.symm⟩
/-- where a quotation mark stands, or nothing, the text must be at its end -/
theorem at_mark {l o r : List UInt8} (hl : l = 34 :: (quoteIn o ++ r)) (hr : r = [] ∨ r.head? = some 34) (hn : r ≠ [34]) (t : List UInt8) (ht : quoteL t = l) : False := by
  subst hl
  obtain ⟨t', _, h'⟩ := in_prefix o t r (List.cons.inj ht).2
  cases t' with
  | nil => exact hn h'.symm
  | cons c t' =>
    simp only [quoteIn, List.append_assoc] at h'
    rcases hr with rfl | hr
    · have := congrArg List.length h'
      simp only [List.length_append, List.length_cons, List.length_nil] at this
      omega
    · rw [← h'] at hr
      rcases byteQ_cases c with ⟨hc, e⟩ | ⟨hc, e⟩ | ⟨hc, e⟩ | ⟨hc, _, e⟩
      all_goals
        rw [e] at hr
        simp only [List.cons_append, List.nil_append, List.head?_cons, Option.some.injEq] at hr
      · exact absurd hr (by decide)
      · exact absurd hr (by decide)
      · exact absurd hr (by decide)
      · rw [hr] at hc; exact absurd rfl hc
end W
end Go.Proofs.YtohdifffdgoaaaaDoor
