/- Plain: what the outright laws of words say. No program in sight. Written by hand for this claim. -/
import Derived.Test.YtohdifffdgoaaaaDoorWPlainU
import Derived.Test.YtohdifffdgoaaaaDoorWPlainN
import Derived.Test.YtohdifffdgoaaaaDoorWUtf
namespace Go.Proofs.YtohdifffdgoaaaaDoor
namespace W
open Go.Lib (itoa decodeL validD)

/-- numbers come back -/
theorem parse_itoa (n : Int) (h : Fits n) : parseW (itoa n) = (n, true) := by rw [← refP_eq]; exact ref_itoa n h
theorem parse_true (l : List UInt8) (c : Int) (h : parseW l = (c, true)) : itoa c = l ∧ Fits c := by
  unfold parseW at h
  cases hp : libP l with
  | none => rw [hp] at h; cases h
  | some n =>
    rw [hp] at h
    simp only [holdTo] at h
    by_cases e : itoa n = l
    · rw [if_pos e] at h
      cases h
      exact ⟨e, lib_fits l _ hp⟩
    · rw [if_neg e] at h; cases h
theorem unq_true (l t : List UInt8) (h : unqL l = (t, true)) : quoteL t = l := by
  unfold unqL at h
  split at h
  · rename_i hx
    cases h
    exact hx.choose_spec
  · cases h

/-- plain bytes -/
def plainB (c : UInt8) : Prop := 32 ≤ c.toNat ∧ c.toNat ≤ 126
theorem hexD_plain (k : Nat) (h : k < 16) : plainB (hexD k) := by
  have : ∀ y : Fin 16, 32 ≤ (hexD y.val).toNat ∧ (hexD y.val).toNat ≤ 126 := by decide +kernel
  exact this ⟨k, h⟩
theorem byteQ_plain (c x : UInt8) (h : x ∈ byteQ c) : plainB x := by
  have hc := c.toNat_lt
  unfold byteQ at h
  split at h
  · rename_i h1
    simp only [List.mem_cons, List.not_mem_nil, or_false] at h
    rcases h with rfl | rfl
    · exact ⟨by decide, by decide⟩
    · unfold plainB; omega
  · split at h
    · simp only [List.mem_cons, List.not_mem_nil, or_false] at h
      rcases h with rfl | rfl
      · exact ⟨by decide, by decide⟩
      · exact ⟨by decide, by decide⟩
    · split at h
      · simp only [List.mem_cons, List.not_mem_nil, or_false] at h
        rcases h with rfl | rfl | rfl | rfl
        · exact ⟨by decide, by decide⟩
        · exact ⟨by decide, by decide⟩
        · exact hexD_plain _ (by omega)
        · exact hexD_plain _ (by omega)
      · simp only [List.mem_cons, List.not_mem_nil, or_false] at h
        subst h
        unfold plainB; omega
theorem quoteIn_plain : ∀ (l : List UInt8) (x : UInt8), x ∈ quoteIn l → plainB x
  | [], x, h => by cases h
  | c :: l, x, h => by
    simp only [quoteIn, List.mem_append] at h
    rcases h with h | h
    · exact byteQ_plain c x h
    · exact quoteIn_plain l x h
theorem quoteL_plain (l : List UInt8) (x : UInt8) (h : x ∈ quoteL l) : plainB x := by
  unfold quoteL at h
  simp only [List.mem_cons, List.mem_append, List.not_mem_nil, or_false] at h
  rcases h with rfl | h | rfl
  · exact ⟨by decide, by decide⟩
  · exact quoteIn_plain l x h
  · exact ⟨by decide, by decide⟩
theorem quoteL_length (l : List UInt8) : (quoteL l).length = (quoteIn l).length + 2 := by simp [quoteL]
/-- no beginning of a quoted text is one -/
theorem quote_cut (l : List UInt8) (k : Nat) (h : k < (quoteL l).length) : unqL ((quoteL l).take k) = ([], false) := by
  refine unqL_no (fun t ht => ?_)
  have e : quoteL l = quoteL t ++ (quoteL l).drop k := by rw [ht]; exact (List.take_append_drop _ _).symm
  have e2 : quoteIn l ++ [34] = quoteIn t ++ ([34] ++ (quoteL l).drop k) := by
    have := e
    conv at this => lhs; unfold quoteL
    conv at this => rhs; lhs; unfold quoteL
    rw [List.cons_append, List.append_assoc] at this
    exact (List.cons.inj this).2
  obtain ⟨t', _, e3⟩ := in_prefix t l _ e2
  cases t' with
  | nil =>
    have := congrArg List.length e3
    simp only [quoteIn, List.nil_append, List.length_append, List.length_cons, List.length_nil, List.length_drop] at this
    omega
  | cons c t' =>
    simp only [quoteIn, List.append_assoc, List.cons_append, List.nil_append] at e3
    rcases byteQ_cases c with ⟨hc, e⟩ | ⟨hc, e⟩ | ⟨hc, e⟩ | ⟨hc, _, e⟩
    all_goals
      rw [e] at e3
      simp only [List.cons_append, List.nil_append, List.cons.injEq] at e3
    · exact absurd e3.1 (by decide)
    · exact absurd e3.1 (by decide)
    · exact absurd e3.1 (by decide)
    · rw [e3.1] at hc; exact absurd rfl hc

/-- a character that begins at the head: it is written so -/
theorem head_good (l : List UInt8) (hl : 0 < l.length) (c k : Int) (h : headD l = (c, k, true)) : charOk c = true ∧ charL c = l.take k.toNat ∧ k = refW (l.getD 0 0).toNat ∧ 1 ≤ k ∧ k ≤ 4 ∧ k ≤ l.length := by
  have hk : 1 ≤ k ∧ k ≤ 4 ∧ k ≤ l.length := by
    rcases head_cases l hl with ⟨h1, _⟩ | ⟨c', k', h1, a, b, d, _⟩
    · rw [h1] at h; cases h
    · rw [h1] at h; cases h; omega
  have hr := refD_head l hl
  rw [h] at hr
  unfold refD at hr
  simp only at hr
  split at hr
  · cases hr
  · split at hr
    · rename_i h1 h2
      simp only [Bool.and_eq_true, decide_eq_true_eq] at h2
      simp only [Prod.mk.injEq, and_true] at hr
      obtain ⟨rfl, rfl⟩ := hr
      exact ⟨h2.1, by rw [Int.toNat_natCast]; exact h2.2, rfl, hk⟩
    · cases hr
theorem getD_append (a r : List UInt8) (i : Nat) (h : i < a.length) : (a ++ r).getD i 0 = a.getD i 0 := by
  rw [List.getD_eq_getElem?_getD, List.getD_eq_getElem?_getD, List.getElem?_append_left h]
theorem refC_append (a r : List UInt8) : ∀ k, k < a.length → refC (a ++ r) k = refC a k
  | 0, h => by unfold refC; rw [getD_append a r 0 h]
  | k + 1, h => by unfold refC; rw [getD_append a r (k + 1) h, refC_append a r k (by omega)]
theorem refW_pos (b : Nat) : 1 ≤ refW b := by
  unfold refW
  by_cases a4 : 240 ≤ b
  · rw [if_pos a4]; omega
  · rw [if_neg a4]
    by_cases a3 : 224 ≤ b
    · rw [if_pos a3]; omega
    · rw [if_neg a3]
      by_cases a2 : 192 ≤ b
      · rw [if_pos a2]; omega
      · rw [if_neg a2]; omega
theorem refD_append (a r : List UInt8) (ha : 0 < a.length) (h : refW (a.getD 0 0).toNat ≤ a.length) : refD (a ++ r) = refD a := by
  have hw := refW_pos (a.getD 0 0).toNat
  unfold refD
  rw [getD_append a r 0 ha]
  simp only
  rw [if_neg (show ¬ (a ++ r).length < refW (a.getD 0 0).toNat by rw [List.length_append]; omega), if_neg (show ¬ a.length < refW (a.getD 0 0).toNat by omega), refC_append a r _ (by omega), List.take_append_of_le_length h]
theorem head_append (a r : List UInt8) (ha : 0 < a.length) (h : refW (a.getD 0 0).toNat ≤ a.length) : headD (a ++ r) = headD a := by
  rw [← refD_head (a ++ r) (by rw [List.length_append]; omega), ← refD_head a ha, refD_append a r ha h]

/-- texts that are UTF-8, and what stands behind them -/
theorem valid_append : ∀ (m : Nat) (a r : List UInt8), a.length ≤ m → validD a = true → validD (a ++ r) = validD r
  | m, [], r, _, _ => rfl
  | 0, c :: a, r, h, _ => by simp at h
  | m + 1, c :: a, r, h, hv => by
    have ha : 0 < (c :: a).length := by simp
    rcases head_cases (c :: a) ha with ⟨_, h2⟩ | ⟨x, k, h1, k1, k4, kl, h5, _⟩
    · rw [h2] at hv; cases hv
    · have hg := head_good _ ha _ _ h1
      have hw : refW ((c :: a).getD 0 0).toNat ≤ (c :: a).length := by have := hg.2.2.1; omega
      have e := head_append (c :: a) r ha hw
      rw [h1] at e
      rcases head_cases (c :: a ++ r) (by simp) with ⟨h6, _⟩ | ⟨x', k', h6, _, _, _, h7, _⟩
      · rw [h6] at e; cases e
      · rw [h6] at e
        simp only [Prod.mk.injEq, and_true] at e
        have hk : k' = k := by omega
        rw [h7, hk, List.drop_append_of_le_length kl]
        refine valid_append m _ r ?_ (by rw [← h5]; exact hv)
        rw [List.length_drop]
        simp only [List.length_cons] at h ⊢
        omega
theorem valid_nil : validD [] = true := rfl
/-- one character -/
theorem valid_take (l : List UInt8) (hl : 0 < l.length) (c k : Int) (h : headD l = (c, k, true)) : validD (l.take k.toNat) = true := by
  obtain ⟨_, _, hw, k1, k4, kl⟩ := head_good l hl c k h
  have hlen : (l.take k.toNat).length = k.toNat := by rw [List.length_take]; omega
  have h0 : (l.take k.toNat).getD 0 0 = l.getD 0 0 := by
    rw [List.getD_eq_getElem?_getD, List.getD_eq_getElem?_getD, List.getElem?_take_of_lt (by omega)]
  have e : headD (l.take k.toNat) = (c, k, true) := by
    rw [← head_append (l.take k.toNat) (l.drop k.toNat) (by omega) (by rw [h0]; omega), List.take_append_drop, h]
  rcases head_cases (l.take k.toNat) (by omega) with ⟨h6, _⟩ | ⟨x', k', h6, _, _, _, h7, _⟩
  · rw [h6] at e; cases e
  · rw [h6] at e
    simp only [Prod.mk.injEq, and_true] at e
    rw [h7, List.drop_of_length_le (by omega)]; rfl
/-- behind its first byte a character's bytes begin none -/
theorem charB_tail (n k : Nat) (h1 : 1 ≤ k) (h2 : k < (charB n).length) : 128 ≤ (charB n).getD k 0 ∧ (charB n).getD k 0 < 192 := by
  unfold charB at h2 ⊢
  split at h2 <;> rename_i c1
  · simp at h2; omega
  · rw [if_neg c1]
    split at h2 <;> rename_i c2
    · rw [if_pos c2]
      simp at h2
      obtain rfl : k = 1 := by omega
      simp; omega
    · rw [if_neg c2]
      split at h2 <;> rename_i c3
      · rw [if_pos c3]
        simp at h2
        rcases (by omega : k = 1 ∨ k = 2) with rfl | rfl <;> simp <;> omega
      · rw [if_neg c3]
        simp at h2
        rcases (by omega : k = 1 ∨ k = 2 ∨ k = 3) with rfl | rfl | rfl <;> simp <;> omega
theorem head_mid (l : List UInt8) (b : UInt8) (r : List UInt8) (hl : l = b :: r) (h : 128 ≤ b.toNat ∧ b.toNat < 192) : headD l = (0, 0, false) := by
  subst hl
  rw [← refD_head _ (by simp)]
  unfold refD
  have hw : refW ((b :: r).getD 0 0).toNat = 1 := by
    show refW b.toNat = 1
    unfold refW; rw [if_neg (by omega), if_neg (by omega), if_neg (by omega)]
  rw [hw]
  simp only
  rw [if_neg (by simp)]
  rw [if_neg]
  simp only [Bool.and_eq_true, decide_eq_true_eq, not_and]
  intro hok e
  have hc : refC (b :: r) (1 - 1) = (b.toNat : Int) := by
    show refV b.toNat = _
    unfold refV; rw [if_neg (by omega), if_neg (by omega), if_neg (by omega)]
  rw [hc] at e hok
  have := congrArg List.length e
  unfold charL at this
  rw [if_pos hok] at this
  unfold charN charB at this
  rw [Int.toNat_natCast, if_neg (by omega), if_pos (by omega)] at this
  simp at this

/-- CUT: a text that is UTF-8 is cut in two that are just where a character begins, or at its end -/
theorem cut_valid : ∀ (m : Nat) (l : List UInt8) (k : Nat), l.length ≤ m → k ≤ l.length → validD l = true → (validD (l.take k) && validD (l.drop k)) = ((atD l k).2.2 || decide (k = l.length))
  | 0, l, k, hm, hk, _ => by
    obtain rfl : l = [] := List.eq_nil_of_length_eq_zero (by omega)
    simp only [List.length_nil] at hk
    obtain rfl : k = 0 := by omega
    simp [valid_nil]
  | m + 1, l, k, hm, hk, hv => by
    by_cases hl : 0 < l.length
    · rcases head_cases l hl with ⟨_, h2⟩ | ⟨x, n, h1, n1, n4, nl, h5, _⟩
      · rw [h2] at hv; cases hv
      · have hg := head_good l hl _ _ h1
        by_cases hk0 : k = 0
        · subst hk0
          have : atD l (0 : Nat) = headD (l.drop 0) := atD_in l 0 hl
          rw [this, List.drop_zero, h1, hv, List.take_zero, valid_nil]; rfl
        · by_cases hkn : n ≤ k
          · have ih := cut_valid m (l.drop n) (k - n) (by rw [List.length_drop]; omega) (by rw [List.length_drop]; omega) (by rw [← h5]; exact hv)
            have e1 : l.take k = l.take n ++ (l.drop n).take (k - n) := by
              rw [← List.take_add, show n + (k - n) = k by omega]
            have e2 : (l.drop n).drop (k - n) = l.drop k := by rw [List.drop_drop, show n + (k - n) = k by omega]
            have hvt := valid_take l hl _ _ h1
            rw [Int.toNat_natCast] at hvt
            rw [e1, valid_append n _ _ (by rw [List.length_take]; omega) hvt, ← e2, ih]
            congr 1
            · by_cases hkl : k < l.length
              · rw [atD_in l k hkl, atD_in (l.drop n) (k - n) (by rw [List.length_drop]; omega), e2]
              · rw [atD_out l k (by omega), atD_out (l.drop n) _ (by rw [List.length_drop]; omega)]
            · rw [List.length_drop, decide_eq_decide]; omega
          · -- in the midst of a character
            have hkl : k < l.length := by omega
            have hc := hg.2.1
            rw [Int.toNat_natCast] at hc
            have hxm : (x : Int) ≤ 1114111 ∧ 0 ≤ (x : Int) := by
              have := hg.1; simp only [charOk, Bool.or_eq_true, decide_eq_true_eq] at this; omega
            have hb := (charL_eq x (l.take n) hg.1).1 hc
            rw [Int.toNat_natCast] at hb
            have hlen : (charB x).length = n := by rw [hb, List.length_map, List.length_take]; omega
            have ht := charB_tail x k (by omega) (by omega)
            rw [hb] at ht
            have hget : ((l.take n).map UInt8.toNat).getD k 0 = l[k].toNat := by
              rw [List.getD_eq_getElem?_getD, List.getElem?_map, List.getElem?_take_of_lt (by omega), List.getElem?_eq_getElem hkl]; rfl
            rw [hget] at ht
            have hd : l.drop k = l[k] :: l.drop (k + 1) := List.drop_eq_getElem_cons hkl
            have hm := head_mid _ _ _ hd ht
            have hvd : validD (l.drop k) = false := by
              rcases head_cases (l.drop k) (by rw [List.length_drop]; omega) with ⟨_, h⟩ | ⟨_, _, h, _⟩
              · exact h
              · rw [hm] at h; cases h
            rw [hvd, atD_in l k hkl, hm, Bool.and_false, decide_eq_false (by omega)]; rfl
    · obtain rfl : l = [] := List.eq_nil_of_length_eq_zero (by omega)
      simp only [List.length_nil] at hk
      obtain rfl : k = 0 := by omega
      simp [valid_nil]

/-- names -/
theorem stands_up (i n : Nat) (h : stands 0 n = true) : stands i n = true := by
  simp only [stands, ne_eq, not_true_eq_false, decide_false, Bool.and_false, Bool.or_false] at h
  simp only [stands, h, Bool.true_or]
theorem all_up : ∀ (l : List UInt8) (i : Nat), standsAll 0 l = true → standsAll (i + 1) l = true
  | [], _, _ => rfl
  | c :: l, i, h => by
    simp only [standsAll, Bool.and_eq_true] at h ⊢
    exact ⟨stands_up _ _ h.1, by rw [okAll_of l _ (by omega)]; rw [okAll_of l _ (by omega)] at h; exact h.2⟩
theorem all_pos (l : List UInt8) (i j : Nat) (hi : 0 < i) (hj : 0 < j) : standsAll i l = standsAll j l := by rw [okAll_of l i hi, okAll_of l j hj]
theorem name_iff (l : List UInt8) : nameB l = true ↔ (1 ≤ l.length ∧ l.length ≤ 32) ∧ standsAll 0 l = true := by
  simp only [nameB, Bool.and_eq_true, decide_eq_true_eq]
theorem name_a (r : List UInt8) : nameB (97 :: r) = (decide (r.length ≤ 31) && standsAll 1 r) := by
  unfold nameB
  have : stands 0 (97 : UInt8).toNat = true := by decide
  simp only [standsAll, this, Bool.true_and, List.length_cons, Nat.zero_add]
  congr 1
  rw [decide_eq_decide]; omega
theorem name_one (c : UInt8) : nameB [c] = stands 0 c.toNat := by simp [nameB, standsAll]
theorem name_two (c : UInt8) : nameB [97, c] = stands 1 c.toNat := by rw [name_a]; simp [standsAll]
theorem name_none (c : UInt8) (r : List UInt8) (h : nameB (c :: r) = false) (hr : (c :: r).length ≤ 32) : nameB (97 :: r) = false ∨ nameB [c] = false := by
  rw [name_a, name_one]
  simp only [List.length_cons] at hr
  rw [decide_eq_true (by omega), Bool.true_and]
  unfold nameB at h
  simp only [List.length_cons] at h
  rw [decide_eq_true (by omega), Bool.true_and] at h
  simp only [standsAll, Bool.and_eq_false_iff] at h
  rcases h with h | h
  · exact Or.inr h
  · exact Or.inl h
theorem name_twice (l : List UInt8) (h : nameB l = true) : nameB (l ++ l) = decide (2 * l.length ≤ 32) := by
  obtain ⟨⟨h1, _⟩, h2⟩ := (name_iff l).1 h
  unfold nameB
  rw [standsAll_append, h2, Nat.zero_add]
  obtain ⟨n, hn⟩ : ∃ n, l.length = n + 1 := ⟨l.length - 1, by omega⟩
  have h3 := all_up l n h2
  rw [List.length_append]
  rw [hn]
  rw [h3, Bool.and_true, Bool.and_true, decide_eq_decide]; omega
theorem name_take (l : List UInt8) (k : Nat) (h : nameB l = true) (hk : k < l.length) : nameB (l.take (k + 1)) = true := by
  obtain ⟨⟨h1, h3⟩, h2⟩ := (name_iff l).1 h
  rw [name_iff, List.length_take]
  refine ⟨by omega, ?_⟩
  rw [← List.take_append_drop (k + 1) l, standsAll_append, Bool.and_eq_true] at h2
  exact h2.1
theorem name_put (l : List UInt8) (c : UInt8) (k : Nat) (h : nameB l = true) (hk : k < l.length) : nameB (l.take (k + 1) ++ [c] ++ l.drop (k + 1)) = (decide (l.length + 1 ≤ 32) && stands 1 c.toNat) := by
  obtain ⟨⟨h1, h3⟩, h2⟩ := (name_iff l).1 h
  have hl : (l.take (k + 1)).length = k + 1 := by rw [List.length_take]; omega
  rw [← List.take_append_drop (k + 1) l, standsAll_append, Bool.and_eq_true, hl] at h2
  unfold nameB
  rw [List.append_assoc, standsAll_append, standsAll_append, h2.1, hl]
  simp only [List.length_append, hl, List.length_cons, List.length_nil, List.length_drop, standsAll, Bool.and_true, Bool.true_and, Nat.zero_add]
  rw [all_pos (l.drop (k + 1)) (k + 1 + (0 + 1)) (0 + (k + 1)) (by omega) (by omega), h2.2, Bool.and_true]
  have hs : stands (k + 1) c.toNat = stands 1 c.toNat := by simp [stands]
  rw [hs]
  congr 1
  rw [decide_eq_decide]; omega
end W
end Go.Proofs.YtohdifffdgoaaaaDoor
