/- Plain: what is written is read back. -/
import Derived.Test.YtakplnceiibmlaaGreatDoorMEscA
namespace Go.Proofs.YtakplnceiibmlaaGreatDoor
namespace X
open Go.Lib
theorem getD_app (a r : List UInt8) (i : Nat) (h : i < a.length) : (a ++ r).getD i 0 = a.getD i 0 := by
  rw [List.getD_eq_getElem?_getD, List.getD_eq_getElem?_getD, List.getElem?_append_left h]
theorem refC_app (a r : List UInt8) : ∀ k, k < a.length → W.refC (a ++ r) k = W.refC a k
  | 0, h => by unfold W.refC; rw [getD_app a r 0 h]
  | k + 1, h => by unfold W.refC; rw [getD_app a r (k + 1) h, refC_app a r k (by omega)]
theorem refW_one (b : Nat) : 1 ≤ W.refW b := by
  unfold W.refW
  repeat' split
  all_goals omega
theorem refD_app (a r : List UInt8) (ha : 0 < a.length) (h : W.refW (a.getD 0 0).toNat ≤ a.length) : W.refD (a ++ r) = W.refD a := by
  have hw := refW_one (a.getD 0 0).toNat
  unfold W.refD
  rw [getD_app a r 0 ha]
  simp only
  rw [if_neg (show ¬ (a ++ r).length < W.refW (a.getD 0 0).toNat by rw [List.length_append]; omega), if_neg (show ¬ a.length < W.refW (a.getD 0 0).toNat by omega), refC_app a r _ (by omega), List.take_append_of_le_length h]
theorem head_app (a r : List UInt8) (ha : 0 < a.length) (h : W.refW (a.getD 0 0).toNat ≤ a.length) : W.headD (a ++ r) = W.headD a := by
  rw [← W.refD_head (a ++ r) (by rw [List.length_append]; omega), ← W.refD_head a ha, refD_app a r ha h]
/-- a character is read and written, whatever stands behind it -/
theorem char_back (l : List UInt8) (h : charK l ≠ 0) : ∃ c : Int, stands c = true ∧ W.charL c = l.take (charK l) ∧ ∀ r, char (l.take (charK l) ++ r) = .ok (c, r) := by
  have hne : l ≠ [] := by rintro rfl; exact h rfl
  have hpos : 0 < l.length := List.length_pos_iff.2 hne
  have hle := charK_le l
  unfold charK at h hle ⊢
  rw [if_neg hne] at h hle ⊢
  unfold decK at h hle ⊢
  by_cases hb : ((decodeL l).1 = 65533 ∧ (decodeL l).2 = 1) ∨ stands (decodeL l).1 = false
  · rw [if_pos hb] at h; exact absurd rfl h
  · rw [if_neg hb] at h hle ⊢
    have hs : stands (decodeL l).1 = true := by
      cases hq : stands ((decodeL l).1 : Int)
      · exact absurd (Or.inr hq) hb
      · rfl
    have hn : ¬ ((decodeL l).1 = 65533 ∧ (decodeL l).2 = 1) := fun e => hb (Or.inl e)
    have hh : W.headD l = (((decodeL l).1 : Int), ((decodeL l).2 : Int), true) := by unfold W.headD; rw [if_neg hn]
    have hr := W.refD_head l hpos
    rw [hh] at hr
    have hr' := hr
    unfold W.refD at hr'
    simp only at hr'
    split at hr'
    · exact absurd (congrArg (fun x : Int × Int × Bool => x.2.2) hr') (by simp)
    · rename_i h1
      split at hr'
      · rename_i h2
        simp only [Bool.and_eq_true, decide_eq_true_eq] at h2
        simp only [Prod.mk.injEq, and_true] at hr'
        have hk : W.refW (l.getD 0 0).toNat = (decodeL l).2 := by omega
        refine ⟨((decodeL l).1 : Int), hs, ?_, fun r => ?_⟩
        · rw [← hr'.1, h2.2, hk]
        · generalize ht : l.take (decodeL l).2 = t at *
          have htl : t.length = (decodeL l).2 := by rw [← ht, List.length_take]; omega
          have hl : l = t ++ l.drop (decodeL l).2 := by rw [← ht]; exact (List.take_append_drop _ _).symm
          have ht0 : 0 < t.length := by omega
          have hg : t.getD 0 0 = l.getD 0 0 := by
            rw [hl]; exact (getD_app t _ 0 ht0).symm
          have hw : W.refW (t.getD 0 0).toNat ≤ t.length := by rw [hg]; omega
          have e1 : W.headD (t ++ r) = (((decodeL l).1 : Int), ((decodeL l).2 : Int), true) := by
            rw [head_app t r ht0 hw, ← hh]
            rw [hl]
            exact (head_app t _ ht0 hw).symm.trans (by rw [← hl])
          have e2 : ¬ ((decodeL (t ++ r)).1 = 65533 ∧ (decodeL (t ++ r)).2 = 1) ∧ (decodeL (t ++ r)).1 = (decodeL l).1 ∧ (decodeL (t ++ r)).2 = (decodeL l).2 := by
            unfold W.headD at e1
            split at e1
            · exact absurd (congrArg (fun x : Int × Int × Bool => x.2.2) e1) (by simp)
            · rename_i g
              simp only [Prod.mk.injEq, and_true] at e1
              exact ⟨g, by omega, by omega⟩
          unfold char
          rw [if_neg (by intro e; have := congrArg List.length e; rw [List.length_append, List.length_nil] at this; omega), e2.2.1, e2.2.2, if_neg hb, ← htl]
          simp
      · exact absurd (congrArg (fun x : Int × Int × Bool => x.2.2) hr') (by simp)
/-- a character as it is escaped: a reference, or itself -/
theorem esc_back (l : List UInt8) (h : charK l ≠ 0) (t : List UInt8) (ht : l.take (charK l) = t) :
    (∃ c x, escL t = 38 :: x ∧ W.charL c = t ∧ ∀ r, ref (escL t ++ r) = .ok (c, r)) ∨
    (∃ (c : Int) (b : UInt8) (x : List UInt8), t = b :: x ∧ escL t = t ∧ b ≠ 38 ∧ b ≠ 60 ∧ b ≠ 62 ∧ b ≠ 34 ∧ 32 ≤ c ∧ W.charL c = t ∧ (b.toNat < 128 → x = []) ∧ ∀ r, char (t ++ r) = .ok (c, r)) := by
  obtain ⟨c, hs, hc, hr⟩ := char_back l h
  rw [ht] at hc hr
  have hcase := charK_case l h
  rcases esc_case l h t ht with ⟨rfl, e⟩ | ⟨rfl, e⟩ | ⟨rfl, e⟩ | ⟨rfl, e⟩ | ⟨rfl, e⟩ | ⟨rfl, e⟩ | ⟨rfl, e⟩ | ⟨hn, e⟩
  · exact Or.inl ⟨60, _, e, by rfl, fun r => by rw [e]; rfl⟩
  · exact Or.inl ⟨62, _, e, by rfl, fun r => by rw [e]; rfl⟩
  · exact Or.inl ⟨38, _, e, by rfl, fun r => by rw [e]; rfl⟩
  · exact Or.inl ⟨34, _, e, by rfl, fun r => by rw [e]; rfl⟩
  · exact Or.inl ⟨9, _, e, by rfl, fun r => by rw [e]; rfl⟩
  · exact Or.inl ⟨10, _, e, by rfl, fun r => by rw [e]; rfl⟩
  · exact Or.inl ⟨13, _, e, by rfl, fun r => by rw [e]; rfl⟩
  · refine Or.inr ?_
    have hlt : t ≠ [] := by
      intro e0
      have h1 := congrArg List.length ht
      have h2 := charK_le l
      rw [e0, List.length_take] at h1
      simp only [List.length_nil] at h1
      omega
    have h32 : 32 ≤ c := by
      have hst := (stands_iff c).1 hs
      by_cases h9 : c = 9
      · subst h9; exact absurd hc.symm hn.2.2.2.2.1
      by_cases h10 : c = 10
      · subst h10; exact absurd hc.symm hn.2.2.2.2.2.1
      by_cases h13 : c = 13
      · subst h13; exact absurd hc.symm hn.2.2.2.2.2.2
      omega
    match t, hlt with
    | b :: x, _ =>
      have hx : b.toNat < 128 → x = [] := by
        intro hb
        rcases hcase with ⟨b', r', rfl, hk, _⟩ | hh
        · rw [hk] at ht
          have := List.cons.inj ht
          exact this.2.symm
        · have := hh b (by rw [ht]; exact List.mem_cons_self)
          omega
      have hne : ∀ v : UInt8, v.toNat < 128 → (b :: x) ≠ [v] → b ≠ v := by
        intro v hv hn' e0
        subst e0
        exact hn' (by rw [hx hv])
      exact ⟨c, b, x, rfl, e, hne 38 (by decide) hn.2.2.1, hne 60 (by decide) hn.1, hne 62 (by decide) hn.2.1, hne 34 (by decide) hn.2.2.2.1, h32, hc, hx, hr⟩
/-- nothing that ends a CDATA begins here -/
def Open (l : List UInt8) : Prop := [93, 93, 62].isPrefixOf l = false ∧ [93, 62].isPrefixOf l = false ∧ [62].isPrefixOf l = false
theorem open_cons (b : UInt8) (hb : b ≠ 62) (r : List UInt8) (h : Open r) : Open (b :: r) := by
  obtain ⟨_, h2, h3⟩ := h
  refine ⟨?_, ?_, ?_⟩
  · rw [List.isPrefixOf_cons_cons, h2, Bool.and_false]
  · rw [List.isPrefixOf_cons_cons, h3, Bool.and_false]
  · rw [List.isPrefixOf_cons_cons, beq_eq_false_iff_ne.2 (fun e => hb e.symm), Bool.false_and]
theorem open_app : ∀ (t r : List UInt8), (∀ b ∈ t, b ≠ 62) → Open r → Open (t ++ r)
  | [], _, _, h => h
  | b :: t, r, hb, h => open_cons b (hb b List.mem_cons_self) _ (open_app t r (fun x hx => hb x (List.mem_cons_of_mem _ hx)) h)
theorem escB_no (c : UInt8) : ∀ b ∈ escB c, b ≠ 62 ∧ b ≠ 60 ∧ b ≠ 34 := by
  unfold escB
  intro b hb
  repeat' split at hb
  all_goals
    simp only [List.mem_cons, List.not_mem_nil, or_false] at hb
  all_goals first
    | (rcases hb with rfl | rfl | rfl | rfl | rfl | rfl <;> decide)
    | (rcases hb with rfl | rfl | rfl | rfl | rfl <;> decide)
    | (rcases hb with rfl | rfl | rfl | rfl <;> decide)
    | (subst hb; rename_i h1 h2 h3 h4 h5 h6 h7; exact ⟨h2, h1, h4⟩)
theorem escL_no (l : List UInt8) : ∀ b ∈ escL l, b ≠ 62 ∧ b ≠ 60 ∧ b ≠ 34 := by
  intro b hb
  obtain ⟨c, _, h⟩ := List.mem_flatMap.1 hb
  exact escB_no c b h
/-- all are characters -/
def allOk (l : List UInt8) : Bool := okT (l.length + 1) l
/-- by characters -/
theorem by_chars {motive : List UInt8 → Prop} (h0 : motive []) (h1 : ∀ t l r, charK l ≠ 0 → l.take (charK l) = t → t ≠ [] → motive r → motive (t ++ r)) : ∀ (n : Nat) (l : List UInt8), l.length ≤ n → allOk l = true → motive l := by
  intro n
  induction n with
  | zero =>
    intro l hl _
    have : l = [] := List.length_eq_zero_iff.1 (by omega)
    rw [this]; exact h0
  | succ n ih =>
    intro l hl ha
    by_cases hne : l = []
    · rw [hne]; exact h0
    · have hp := List.length_pos_iff.2 hne
      by_cases hk : charK l = 0
      · unfold allOk at ha; rw [okT_bad _ _ hne hk] at ha; cases ha
      · have hle := charK_le l
        have hd : allOk (l.drop (charK l)) = true := by
          unfold allOk at ha ⊢
          rw [okT_go _ _ hne hk] at ha
          rw [okT_fuel _ _ l.length _ (Nat.le_refl _) (Nat.lt_succ_self _) (by rw [List.length_drop]; omega)]
          exact ha
        have := h1 (l.take (charK l)) l (l.drop (charK l)) hk rfl (by
          intro e
          have h2 := congrArg List.length e
          rw [List.length_take, List.length_nil] at h2
          omega) (ih _ (by rw [List.length_drop]; omega) hd)
        rwa [List.take_append_drop] at this
theorem pre_no {q b : UInt8} (h : b ≠ q) (r : List UInt8) : [q].isPrefixOf (b :: r) = false := by
  rw [List.isPrefixOf_cons_cons, beq_eq_false_iff_ne.2 (fun e => h e.symm), Bool.false_and]
theorem pre_no2 {q b : UInt8} (h : b ≠ q) (x r : List UInt8) : (q :: x).isPrefixOf (b :: r) = false := by
  rw [List.isPrefixOf_cons_cons, beq_eq_false_iff_ne.2 (fun e => h e.symm), Bool.false_and]
theorem pre_yes (q : UInt8) (r : List UInt8) : [q].isPrefixOf (q :: r) = true := by
  rw [List.isPrefixOf_cons_cons, beq_self_eq_true, Bool.true_and]; rfl
/-- a value that is escaped -/
theorem val_back (q : UInt8) (hq : q ≠ 38 ∧ q ≠ 60) (v : List UInt8) (hv : allOk v = true) (hn : q ∉ escL v) : ∀ acc r f, (escL v ++ q :: r).length < f → valIn q f acc (escL v ++ q :: r) = .ok (acc ++ v, r) := by
  revert hn
  refine by_chars (motive := fun v => q ∉ escL v → ∀ acc r f, (escL v ++ q :: r).length < f → valIn q f acc (escL v ++ q :: r) = .ok (acc ++ v, r)) ?_ ?_ v.length v (Nat.le_refl _) hv
  · intro _ acc r f hf
    obtain ⟨f, rfl⟩ : ∃ f', f = f' + 1 := ⟨f - 1, by omega⟩
    show valIn q (f + 1) acc (q :: r) = _
    unfold valIn
    rw [if_pos (pre_yes q r), List.append_nil]
    rfl
  · intro t l v hk ht htn ih hn acc r f hf
    rw [escL_app] at hn hf ⊢
    have hn1 : q ∉ escL t := fun h => hn (List.mem_append_left _ h)
    have hn2 : q ∉ escL v := fun h => hn (List.mem_append_right _ h)
    rw [List.append_assoc] at hf ⊢
    obtain ⟨f, rfl⟩ : ∃ f', f = f' + 1 := ⟨f - 1, by omega⟩
    rw [← List.append_assoc acc t v]
    rcases esc_back l hk t ht with ⟨c, x, e, hc, hr⟩ | ⟨c, b, x, e, he, h38, h60, h62, h34, h32, hc, hx, hr⟩
    · have hr' := hr (escL v ++ q :: r)
      rw [e] at hr' hf ⊢
      rw [List.cons_append] at hr' hf ⊢
      unfold valIn
      rw [if_neg (by rw [pre_no (fun h => hq.1 h.symm)]; decide), if_neg (by rw [pre_no (by decide)]; decide), if_pos (pre_yes 38 _), hr']
      simp only
      rw [hc]
      exact ih hn2 _ r f (by simp only [List.length_cons, List.length_append] at hf ⊢; omega)
    · have hr' := hr (escL v ++ q :: r)
      rw [he] at hf hn1 ⊢
      rw [e] at hr' hf hn1 ⊢
      have hbq : b ≠ q := fun h => hn1 (by rw [h]; exact List.mem_cons_self)
      rw [List.cons_append] at hr' hf ⊢
      unfold valIn
      rw [if_neg (by rw [pre_no hbq]; decide), if_neg (by rw [pre_no h60]; decide), if_neg (by rw [pre_no h38]; decide), hr']
      simp only
      rw [if_neg (show ¬ c < 32 by omega), hc, e]
      exact ih hn2 _ r f (by simp only [List.length_cons, List.length_append] at hf ⊢; omega)
/-- a text that is escaped, in an element -/
theorem text_back (el : Nat → List UInt8 → Res (E × Nat)) (tag : List UInt8 × List UInt8) (cnt : Nat) (ks : N) (rest : List UInt8) (ho : Open rest) (R : Res ((List UInt8 × N) × Nat)) (v : List UInt8) (hv : allOk v = true) :
    ∀ tx, (∀ f, rest.length < f → inside el tag f cnt (tx ++ v) ks rest = R) → ∀ f, (escL v ++ rest).length < f → inside el tag f cnt tx ks (escL v ++ rest) = R := by
  refine by_chars (motive := fun v => ∀ tx, (∀ f, rest.length < f → inside el tag f cnt (tx ++ v) ks rest = R) → ∀ f, (escL v ++ rest).length < f → inside el tag f cnt tx ks (escL v ++ rest) = R) ?_ ?_ v.length v (Nat.le_refl _) hv
  · intro tx H f hf
    have := H f hf
    rwa [List.append_nil] at this
  · intro t l v hk ht htn ih tx H f hf
    rw [escL_app] at hf ⊢
    rw [List.append_assoc] at hf ⊢
    have hov : Open (escL t ++ (escL v ++ rest)) := by
      rw [← List.append_assoc, ← escL_app]
      exact open_app _ _ (fun b hb => (escL_no _ b hb).1) ho
    obtain ⟨f, rfl⟩ : ∃ f', f = f' + 1 := ⟨f - 1, by omega⟩
    have ih' := ih (tx ++ t) (fun f hf => by have := H f hf; rwa [← List.append_assoc] at this)
    rcases esc_back l hk t ht with ⟨c, x, e, hc, hr⟩ | ⟨c, b, x, e, he, h38, h60, h62, h34, h32, hc, hx, hr⟩
    · have hr' := hr (escL v ++ rest)
      rw [e] at hr' hf hov ⊢
      rw [List.cons_append] at hr' hf hov ⊢
      unfold inside
      rw [if_neg (by rw [pre_no2 (by decide)]; decide), if_neg (by rw [pre_no2 (by decide)]; decide), if_neg (by rw [pre_no2 (by decide)]; decide), hov.1, if_neg (by rw [pre_no2 (by decide), pre_no2 (by decide)]; decide), if_neg (by rw [pre_no (by decide)]; decide), if_pos (pre_yes 38 _), hr']
      simp only
      rw [hc]
      exact ih' f (by simp only [List.length_cons, List.length_append] at hf ⊢; omega)
    · have hr' := hr (escL v ++ rest)
      rw [he] at hf hov ⊢
      rw [e] at hr' hf hov ⊢
      rw [List.cons_append] at hr' hf hov ⊢
      unfold inside
      rw [if_neg (by rw [pre_no2 h60]; decide), if_neg (by rw [pre_no2 h60]; decide), if_neg (by rw [pre_no2 h60]; decide), hov.1, if_neg (by rw [pre_no2 h60, pre_no2 h60]; decide), if_neg (by rw [pre_no h60]; decide), if_neg (by rw [pre_no h38]; decide), hr']
      simp only
      rw [hc]
      rw [e] at ih' ⊢
      exact ih' f (by simp only [List.length_cons, List.length_append] at hf ⊢; omega)
end X
end Go.Proofs.YtakplnceiibmlaaGreatDoor
namespace Go.Proofs.YtakplnceiibmlaaGreatDoor
namespace X
open Go.Lib
/-- a name's part -/
def Part (w : List UInt8) : Prop := ∃ c r, w = c :: r ∧ letter c = true ∧ (∀ b ∈ r, other b = true) ∧ w.length ≤ 32
/-- a name ends here -/
def Stop (r : List UInt8) : Prop := ∀ c x, r = c :: x → other c = false ∧ c ≠ 58
theorem tw_stop {p : UInt8 → Bool} : ∀ (w r : List UInt8), (∀ b ∈ w, p b = true) → (∀ c x, r = c :: x → p c = false) → (w ++ r).takeWhile p = w
  | [], [], _, _ => rfl
  | [], c :: x, _, h => by
    show (c :: x).takeWhile p = []
    rw [List.takeWhile_cons, h c x rfl]; rfl
  | b :: w, r, hb, h => by
    show (b :: (w ++ r)).takeWhile p = _
    rw [List.takeWhile_cons, hb b List.mem_cons_self, if_pos rfl, tw_stop w r (fun x hx => hb x (List.mem_cons_of_mem _ hx)) h]
theorem part_back (w r : List UInt8) (hw : Part w) (hr : ∀ c x, r = c :: x → other c = false) : part (w ++ r) = .ok (w, r) := by
  obtain ⟨c, x, rfl, hc, hx, hl⟩ := hw
  have e : partL (c :: x ++ r) = c :: x := by
    show (if letter c then c :: (x ++ r).takeWhile other else []) = _
    rw [if_pos hc, tw_stop x r hx hr]
  unfold part
  rw [e, if_neg (by simp), if_neg (by omega)]
  simp
/-- a name as it is written -/
def nmT (pre loc : List UInt8) : List UInt8 := if pre = [] then loc else pre ++ 58 :: loc
theorem name_back (pre loc r : List UInt8) (hp : pre = [] ∨ Part pre) (hl : Part loc) (hr : Stop r) : name (nmT pre loc ++ r) = .ok ((pre, loc), r) := by
  rcases hp with rfl | hp
  · show name (loc ++ r) = _
    unfold name
    rw [part_back loc r hl (fun c x e => (hr c x e).1)]
    simp only
    rw [if_neg]
    intro h
    cases r with
    | nil => simp at h
    | cons c x => rw [pre_no (hr c x rfl).2] at h; cases h
  · have hne : pre ≠ [] := by obtain ⟨c, x, rfl, _⟩ := hp; simp
    unfold nmT
    rw [if_neg hne, List.append_assoc, List.cons_append]
    unfold name
    rw [part_back pre (58 :: (loc ++ r)) hp (fun c x e => by cases e; decide)]
    simp only
    rw [if_pos (pre_yes 58 _), List.drop_one, List.tail_cons, part_back loc r hl (fun c x e => (hr c x e).1)]
/-- blanks -/
def Blanks (sep : List UInt8) : Prop := sep ≠ [] ∧ ∀ b ∈ sep, blank b = true
theorem skip_app : ∀ (sep r : List UInt8), (∀ b ∈ sep, blank b = true) → skip (sep ++ r) = skip r
  | [], _, _ => rfl
  | b :: sep, r, h => by
    show (b :: (sep ++ r)).dropWhile blank = _
    rw [List.dropWhile_cons, if_pos (h b List.mem_cons_self)]
    exact skip_app sep r (fun x hx => h x (List.mem_cons_of_mem _ hx))
theorem skip_self (c : UInt8) (r : List UInt8) (h : blank c = false) : skip (c :: r) = c :: r := by
  unfold skip
  rw [List.dropWhile_cons, h]; rfl
theorem letter_blank (c : UInt8) (h : letter c = true) : blank c = false := by
  unfold letter at h
  unfold blank
  simp only [Bool.or_eq_true, decide_eq_true_eq] at h
  have h32 : c ≠ 32 := by rintro rfl; revert h; decide
  have h9 : c ≠ 9 := by rintro rfl; revert h; decide
  have h13 : c ≠ 13 := by rintro rfl; revert h; decide
  have h10 : c ≠ 10 := by rintro rfl; revert h; decide
  simp [h32, h9, h13, h10]
theorem letter_other (c : UInt8) (h : letter c = true) : other c = true := by unfold other; rw [h]; rfl
/-- an attribute that is written: quote, prefix, name, value -/
structure T where
  q : UInt8
  pre : List UInt8
  loc : List UInt8
  val : List UInt8
def T.Good (x : T) : Prop := (x.q = 34 ∨ x.q = 39) ∧ (x.pre = [] ∨ Part x.pre) ∧ Part x.loc ∧ allOk x.val = true ∧ x.q ∉ escL x.val
def T.text (x : T) : List UInt8 := nmT x.pre x.loc ++ 61 :: x.q :: (escL x.val ++ [x.q])
/-- a written name begins with a letter -/
theorem nmT_first (pre loc : List UInt8) (hp : pre = [] ∨ Part pre) (hl : Part loc) : ∃ c x, nmT pre loc = c :: x ∧ letter c = true := by
  rcases hp with rfl | hp
  · obtain ⟨c, x, rfl, hc, _⟩ := hl
    exact ⟨c, x, rfl, hc⟩
  · obtain ⟨c, x, rfl, hc, _⟩ := hp
    exact ⟨c, x ++ 58 :: loc, rfl, hc⟩
theorem attr_back (out : List Raw) (x : T) (hg : x.Good) (hno : ∀ y ∈ out, ¬ (y.pre = x.pre ∧ y.loc = x.loc)) (r : List UInt8) : attr out (x.text ++ r) = .ok (⟨x.pre, x.loc, (x.text ++ r).length, x.val⟩, r) := by
  obtain ⟨hq, hp, hl, hv, hn⟩ := hg
  have hany : out.any (fun y => decide (y.pre = x.pre ∧ y.loc = x.loc)) = false := by
    rw [List.any_eq_false]
    intro y hy
    rw [decide_eq_true_eq]
    exact hno y hy
  have e : x.text ++ r = nmT x.pre x.loc ++ 61 :: x.q :: (escL x.val ++ x.q :: r) := by
    unfold T.text; simp
  generalize hL : (x.text ++ r).length = L
  unfold attr
  rw [hL, e, name_back x.pre x.loc _ hp hl (fun c y h => by cases h; decide)]
  simp only
  rw [hany]
  have hs1 : skip (61 :: x.q :: (escL x.val ++ x.q :: r)) = 61 :: x.q :: (escL x.val ++ x.q :: r) := skip_self _ _ (by decide)
  have hqb : blank x.q = false := by rcases hq with h | h <;> rw [h] <;> decide
  have hs2 : skip (x.q :: (escL x.val ++ x.q :: r)) = x.q :: (escL x.val ++ x.q :: r) := skip_self _ _ hqb
  have hm : must [61] (61 :: x.q :: (escL x.val ++ x.q :: r)) = .ok ((), x.q :: (escL x.val ++ x.q :: r)) := by
    unfold must
    rw [if_pos (pre_yes 61 _)]; rfl
  have hval : value (x.q :: (escL x.val ++ x.q :: r)) = .ok (x.val, r) := by
    unfold value
    rcases hq with h | h
    · rw [h] at hn ⊢
      rw [if_pos (pre_yes 34 _), List.drop_one, List.tail_cons, val_back 34 (by decide) x.val hv hn [] r _ (by simp only [List.length_cons]; omega)]
      rfl
    · rw [h] at hn ⊢
      rw [if_neg (by rw [pre_no (by decide)]; decide), if_pos (pre_yes 39 _), List.drop_one, List.tail_cons, val_back 39 (by decide) x.val hv hn [] r _ (by simp only [List.length_cons]; omega)]
      rfl
  rw [if_neg (by decide), hs1, hm]
  simp only
  rw [hs2, hval]
def Raw.key (x : Raw) : List UInt8 × List UInt8 := (x.pre, x.loc)
def T.key (x : T) : List UInt8 × List UInt8 := (x.pre, x.loc)
/-- what was read is what was written -/
def Took : List Raw → List T → Prop
  | [], [] => True
  | y :: l, x :: m => (y.pre = x.pre ∧ y.loc = x.loc ∧ y.val = x.val) ∧ Took l m
  | _, _ => False
def texts (sep : List UInt8) : List T → List UInt8
  | [] => []
  | x :: l => sep ++ (x.text ++ texts sep l)
theorem attrs_back (sep : List UInt8) (hs : Blanks sep) (r : List UInt8) : ∀ (l : List T) (out : List Raw), (∀ x ∈ l, x.Good) → (∀ x ∈ l, ∀ y ∈ out, y.key ≠ x.key) → (l.map T.key).Nodup → out.length + l.length ≤ 32 →
    ∃ raws, Took raws l ∧ ∀ f, (texts sep l ++ 62 :: r).length < f → attrs f out (texts sep l ++ 62 :: r) = .ok ((out ++ raws, true), r)
  | [], out, _, _, _, _ => ⟨[], trivial, fun f hf => by
    obtain ⟨f, rfl⟩ : ∃ f', f = f' + 1 := ⟨f - 1, by omega⟩
    show attrs (f + 1) out (62 :: r) = _
    unfold attrs
    rw [skip_self 62 r (by decide), if_pos (pre_yes 62 r), List.append_nil]
    rfl⟩
  | x :: l, out, hg, hd, hnd, hlen => by
    have hgx := hg x List.mem_cons_self
    rw [List.map_cons, List.nodup_cons] at hnd
    simp only [List.length_cons] at hlen
    generalize hraw : Raw.mk x.pre x.loc (x.text ++ (texts sep l ++ 62 :: r)).length x.val = y
    have hk : y.key = x.key := by rw [← hraw]; rfl
    obtain ⟨raws, h1, h2⟩ := attrs_back sep hs r l (out ++ [y]) (fun z hz => hg z (List.mem_cons_of_mem _ hz)) (by
      intro z hz u hu
      rcases List.mem_append.1 hu with h | h
      · exact hd z (List.mem_cons_of_mem _ hz) u h
      · rw [List.mem_singleton] at h
        subst h
        rw [hk]
        intro e
        exact hnd.1 (by rw [e]; exact List.mem_map_of_mem hz)) hnd.2 (by simp only [List.length_append, List.length_cons, List.length_nil]; omega)
    refine ⟨y :: raws, ⟨by rw [← hraw]; exact ⟨rfl, rfl, rfl⟩, h1⟩, fun f hf => ?_⟩
    obtain ⟨f, rfl⟩ : ∃ f', f = f' + 1 := ⟨f - 1, by omega⟩
    have e0 : texts sep (x :: l) ++ 62 :: r = sep ++ (x.text ++ (texts sep l ++ 62 :: r)) := by
      show sep ++ (x.text ++ texts sep l) ++ 62 :: r = _
      simp
    rw [e0] at hf ⊢
    obtain ⟨c, z, hfirst, hc⟩ := nmT_first x.pre x.loc hgx.2.1 hgx.2.2.1
    have hrest : ∃ z', x.text ++ (texts sep l ++ 62 :: r) = c :: z' := by
      unfold T.text; rw [hfirst]; exact ⟨_, rfl⟩
    obtain ⟨z', hz'⟩ := hrest
    have hsk : skip (sep ++ (x.text ++ (texts sep l ++ 62 :: r))) = x.text ++ (texts sep l ++ 62 :: r) := by
      rw [skip_app sep _ hs.2, hz', skip_self c z' (letter_blank c hc)]
    have hat := attr_back out x hgx (fun u hu h => hd x List.mem_cons_self u hu (by show (u.pre, u.loc) = (x.pre, x.loc); rw [h.1, h.2])) (texts sep l ++ 62 :: r)
    rw [hraw] at hat
    have hsl : 0 < sep.length := List.length_pos_iff.2 hs.1
    have n62 : c ≠ 62 := by rintro rfl; revert hc; decide
    have n47 : c ≠ 47 := by rintro rfl; revert hc; decide
    unfold attrs
    rw [hsk]
    rw [if_neg (show ¬ [62].isPrefixOf (x.text ++ (texts sep l ++ 62 :: r)) = true by rw [hz', pre_no n62]; decide), if_neg (show ¬ [47].isPrefixOf (x.text ++ (texts sep l ++ 62 :: r)) = true by rw [hz', pre_no n47]; decide), if_neg (by
      rintro (h | h)
      · simp only [List.length_append] at h; omega
      · rw [hz'] at h; have : letter c = false := h; rw [this] at hc; cases hc), if_neg (by omega), hat]
    simp only
    rw [h2 f (by simp only [List.length_append] at hf ⊢; omega), List.append_assoc]
    rfl
/-- what prefixes stand for, in what was read -/
theorem binds_plain (k : K) : ∀ (raws : List Raw), (∀ x ∈ raws, x.ofSpaces = false) → binds raws k = .ok k
  | [], _ => rfl
  | x :: r, h => by
    unfold binds
    rw [if_pos (h x List.mem_cons_self)]
    exact binds_plain k r (fun y hy => h y (List.mem_cons_of_mem _ hy))
theorem binds_space (x : Raw) (r : List Raw) (k : K) (h1 : x.pre = xmlns) (h2 : x.val ≠ []) (h3 : x.loc ≠ xmlns) (h4 : x.loc ≠ xml) : binds (x :: r) k = binds r ((x.loc, x.val) :: k) := by
  have h0 : x.ofSpaces = true := by unfold Raw.ofSpaces; rw [h1]; rfl
  show (if x.ofSpaces = false then binds r k else if x.pre = [] then binds r (([], x.val) :: k) else if x.val = [] ∨ x.loc = xmlns ∨ x.loc = xml then .error (x.n, 83) else binds r ((x.loc, x.val) :: k)) = _
  rw [if_neg (by rw [h0]; decide), if_neg (by rw [h1]; decide), if_neg (by rintro (h | h | h); exact h2 h; exact h3 h; exact h4 h)]
theorem plain_skip (k : K) (x : Raw) (r : List Raw) (out : List A) (h : x.ofSpaces = true) : plainAttrs k (x :: r) out = plainAttrs k r out := by
  show (if x.ofSpaces then plainAttrs k r out else _) = _
  rw [if_pos h]
/-- attributes and what they are -/
def Are (k : K) : List T → List A → Prop
  | [], [] => True
  | x :: l, a :: m => (∃ sp, (if x.pre = [] then some [] else look k x.pre) = some sp ∧ a = ⟨ba sp, ba x.loc, ba x.val⟩) ∧ Are k l m
  | _, _ => False
def A.key (a : A) : ByteArray × ByteArray := (a.sp, a.lo)
theorem plain_back (k : K) : ∀ (raws : List Raw) (l : List T) (m out : List A), Took raws l → Are k l m → (∀ x ∈ raws, x.ofSpaces = false) → (∀ a ∈ m, ∀ b ∈ out, b.key ≠ a.key) → (m.map A.key).Nodup → plainAttrs k raws out = .ok (out ++ m)
  | [], [], [], out, _, _, _, _, _ => by rw [List.append_nil]; rfl
  | y :: raws, x :: l, a :: m, out, ht, ha, hs, hd, hn => by
    obtain ⟨⟨e1, e2, e3⟩, ht⟩ := ht
    obtain ⟨⟨sp, g1, g2⟩, ha⟩ := ha
    rw [List.map_cons, List.nodup_cons] at hn
    have hany : out.any (fun b => decide (b.sp = ba sp ∧ b.lo = ba y.loc)) = false := by
      rw [List.any_eq_false]
      intro b hb
      rw [decide_eq_true_eq]
      intro h
      refine hd a List.mem_cons_self b hb ?_
      show (b.sp, b.lo) = (a.sp, a.lo)
      rw [h.1, h.2, g2, e2]
    have ih := plain_back k raws l m (out ++ [a]) ht ha (fun z hz => hs z (List.mem_cons_of_mem _ hz)) (by
      intro c hc b hb
      rcases List.mem_append.1 hb with h | h
      · exact hd c (List.mem_cons_of_mem _ hc) b h
      · rw [List.mem_singleton] at h
        subst h
        intro e
        exact hn.1 (by rw [e]; exact List.mem_map_of_mem hc)) hn.2
    show (if y.ofSpaces then plainAttrs k raws out else match (if y.pre = [] then some [] else look k y.pre) with
      | none => .error (y.n, 83)
      | some sp => if out.any (fun b => decide (b.sp = ba sp ∧ b.lo = ba y.loc)) then .error (y.n, 6) else plainAttrs k raws (out ++ [⟨ba sp, ba y.loc, ba y.val⟩])) = _
    rw [if_neg (by rw [hs y List.mem_cons_self]; decide), e1, g1]
    simp only
    rw [hany, if_neg (by decide), e2, e3, ← g2, ih, List.append_assoc]
    rfl
  | [], _ :: _, _, _, ht, _, _, _, _ => ht.elim
  | [], [], _ :: _, _, _, ha, _, _, _ => ha.elim
  | _ :: _, [], _, _, ht, _, _, _, _ => ht.elim
  | _ :: _, _ :: _, [], _, _, ha, _, _, _ => ha.elim
end X
end Go.Proofs.YtakplnceiibmlaaGreatDoor
namespace Go.Proofs.YtakplnceiibmlaaGreatDoor
namespace X
open Go.Lib
/-- an attribute to be written -/
structure Say where
  sp : Nat
  lo : Nat
  va : ByteArray
def Say.key (x : Say) : Nat × Nat := (x.sp % 4, x.lo % 26)
def nm (n : Nat) : List UInt8 := [110, UInt8.ofNat (97 + n % 26)]
def spc (n : Nat) : List UInt8 := match n % 4 with
  | 0 => []
  | 1 => [117, 58, 111, 110, 101]
  | 2 => [116, 119, 111]
  | _ => [104, 116, 116, 112, 58, 47, 47, 120, 47]
/-- the first of each name -/
def keep : List Say → List Say → List Say
  | out, [] => out
  | out, x :: r => if out.any (fun y => decide (y.key = x.key)) then keep out r else keep (out ++ [x]) r
theorem keep_mem : ∀ (l out : List Say) (x : Say), x ∈ keep out l → x ∈ out ∨ x ∈ l
  | [], _, _, h => Or.inl h
  | y :: l, out, x, h => by
    unfold keep at h
    split at h
    · rcases keep_mem l out x h with h | h
      · exact Or.inl h
      · exact Or.inr (List.mem_cons_of_mem _ h)
    · rcases keep_mem l _ x h with h | h
      · rcases List.mem_append.1 h with h | h
        · exact Or.inl h
        · rw [List.mem_singleton] at h; rw [h]; exact Or.inr List.mem_cons_self
      · exact Or.inr (List.mem_cons_of_mem _ h)
theorem keep_len : ∀ (l out : List Say), (keep out l).length ≤ out.length + l.length
  | [], out => Nat.le_refl _
  | y :: l, out => by
    unfold keep
    split
    · have := keep_len l out; simp only [List.length_cons]; omega
    · have := keep_len l (out ++ [y]); simp only [List.length_append, List.length_cons, List.length_nil] at this ⊢; omega
theorem keep_nodup : ∀ (l out : List Say), (out.map Say.key).Nodup → ((keep out l).map Say.key).Nodup
  | [], _, h => h
  | y :: l, out, h => by
    unfold keep
    split
    · exact keep_nodup l out h
    · rename_i hc
      refine keep_nodup l _ ?_
      rw [List.map_append, List.nodup_append]
      refine ⟨h, by simp, ?_⟩
      intro a ha b hb e
      simp only [List.map_cons, List.map_nil, List.mem_singleton] at hb
      obtain ⟨z, hz, rfl⟩ := List.mem_map.1 ha
      refine hc (List.any_eq_true.2 ⟨z, hz, ?_⟩)
      rw [decide_eq_true_eq, e, hb]
theorem nm_letter (n : Nat) : letter (UInt8.ofNat (97 + n % 26)) = true := by
  unfold letter
  have : (UInt8.ofNat (97 + n % 26)).toNat = 97 + n % 26 := by rw [UInt8.toNat_ofNat']; omega
  rw [this, decide_eq_true (show 97 ≤ 97 + n % 26 ∧ 97 + n % 26 ≤ 122 by omega)]
  rfl
theorem nm_part (n : Nat) : Part (nm n) := ⟨110, [UInt8.ofNat (97 + n % 26)], rfl, by decide, fun b hb => by
  rw [List.mem_singleton] at hb
  rw [hb]; exact letter_other _ (nm_letter n), by simp [nm]⟩
theorem nm_inj {a b : Nat} (h : nm a = nm b) : a % 26 = b % 26 := by
  have h1 := (List.cons.inj (List.cons.inj h).2).1
  have h2 := congrArg UInt8.toNat h1
  rw [UInt8.toNat_ofNat', UInt8.toNat_ofNat'] at h2
  omega
theorem spc_mod (a : Nat) : spc (a % 4) = spc a := by unfold spc; rw [Nat.mod_mod]
theorem spc_inj {a b : Nat} (h : spc a = spc b) : a % 4 = b % 4 := by
  rw [← spc_mod a, ← spc_mod b] at h
  generalize hx : a % 4 = x at *
  generalize hy : b % 4 = y at *
  have hx4 : x = 0 ∨ x = 1 ∨ x = 2 ∨ x = 3 := by omega
  have hy4 : y = 0 ∨ y = 1 ∨ y = 2 ∨ y = 3 := by omega
  rcases hx4 with rfl | rfl | rfl | rfl <;> rcases hy4 with rfl | rfl | rfl | rfl <;> first | rfl | (revert h; decide)
theorem ba_inj {a b : List UInt8} (h : ba a = ba b) : a = b := by
  have := congrArg (fun z : ByteArray => z.data.toList) h
  simpa [ba] using this
theorem ba_data (s : ByteArray) : ba s.data.toList = s := by
  apply ByteArray.ext
  simp [ba]
/-- prefixes that may be written -/
structure Pre (P : List (List UInt8)) : Prop where
  p0 : P.getD 0 [] = []
  part : ∀ i, 1 ≤ i → i < 4 → Part (P.getD i [])
  inj : ∀ i j, i < 4 → j < 4 → P.getD i [] = P.getD j [] → i = j
  ns : ∀ i, 1 ≤ i → i < 4 → P.getD i [] ≠ xmlns ∧ P.getD i [] ≠ xml
def Knows (P : List (List UInt8)) (k : K) : Prop := look k [] = some [] ∧ ∀ i, 1 ≤ i → i < 4 → look k (P.getD i []) = some (spc i)
def Pn (P : List (List UInt8)) (sp : Nat) : List UInt8 := P.getD (sp % 4) []
theorem Pre.pn {P : List (List UInt8)} (h : Pre P) (sp : Nat) : Pn P sp = [] ∨ Part (Pn P sp) := by
  by_cases h0 : sp % 4 = 0
  · refine Or.inl ?_
    unfold Pn; rw [h0]; exact h.p0
  · exact Or.inr (h.part _ (by omega) (by omega))
theorem Pre.look {P : List (List UInt8)} (h : Pre P) {k : K} (hk : Knows P k) (sp : Nat) : X.look k (Pn P sp) = some (spc sp) := by
  by_cases h0 : sp % 4 = 0
  · have e1 : Pn P sp = [] := by unfold Pn; rw [h0]; exact h.p0
    have e2 : spc sp = [] := by unfold spc; rw [h0]; rfl
    rw [e1, e2]; exact hk.1
  · rw [← spc_mod]
    exact hk.2 _ (by omega) (by omega)
def sayT (P : List (List UInt8)) (x : Say) : T := ⟨34, Pn P x.sp, nm x.lo, x.va.data.toList⟩
def sayA (x : Say) : A := ⟨ba (spc x.sp), ba (nm x.lo), x.va⟩
def oks (s : ByteArray) : Bool := allOk s.data.toList
theorem sayT_good {P : List (List UInt8)} (h : Pre P) (x : Say) (hv : oks x.va = true) : (sayT P x).Good := ⟨Or.inl rfl, h.pn _, nm_part _, hv, fun hm => (escL_no _ _ hm).2.2 rfl⟩
theorem sayT_key {P : List (List UInt8)} (h : Pre P) {x y : Say} (e : (sayT P x).key = (sayT P y).key) : x.key = y.key := by
  have h1 := congrArg Prod.fst e
  have h2 := congrArg Prod.snd e
  show (x.sp % 4, x.lo % 26) = _
  rw [h.inj (x.sp % 4) (y.sp % 4) (by omega) (by omega) h1, nm_inj h2]
  rfl
theorem sayA_key {x y : Say} (e : (sayA x).key = (sayA y).key) : x.key = y.key := by
  have h1 := ba_inj (congrArg Prod.fst e)
  have h2 := ba_inj (congrArg Prod.snd e)
  show (x.sp % 4, x.lo % 26) = _
  rw [spc_inj h1, nm_inj h2]
  rfl
theorem nodup_map {α β γ : Type} {f : α → β} {g : α → γ} (hfg : ∀ x y, g x = g y → f x = f y) : ∀ (l : List α), (l.map f).Nodup → (l.map g).Nodup
  | [], _ => List.nodup_nil
  | x :: l, h => by
    rw [List.map_cons, List.nodup_cons] at h ⊢
    refine ⟨fun hm => ?_, nodup_map hfg l h.2⟩
    obtain ⟨y, hy, e⟩ := List.mem_map.1 hm
    exact h.1 (by rw [← hfg _ _ e]; exact List.mem_map_of_mem hy)
theorem say_plain {P : List (List UInt8)} (h : Pre P) : ∀ (l : List Say) (raws : List Raw), Took raws (l.map (sayT P)) → ∀ y ∈ raws, y.ofSpaces = false
  | [], [], _, y, hy => by cases hy
  | x :: l, z :: raws, ht, y, hy => by
    obtain ⟨⟨e1, e2, _⟩, ht⟩ := ht
    rcases List.mem_cons.1 hy with rfl | hy
    · have g1 : y.pre ≠ xmlns := by
        rw [e1]
        show Pn P x.sp ≠ xmlns
        by_cases h0 : x.sp % 4 = 0
        · have : Pn P x.sp = [] := by unfold Pn; rw [h0]; exact h.p0
          rw [this]; decide
        · exact (h.ns _ (by omega) (by omega)).1
      have g2 : y.loc ≠ xmlns := by
        rw [e2]
        show nm x.lo ≠ xmlns
        intro e
        have := congrArg List.length e
        revert this
        show ¬ 2 = 5
        decide
      unfold Raw.ofSpaces
      rw [decide_eq_false g1, decide_eq_false (fun e => g2 e.2)]
      rfl
    · exact say_plain h l raws ht y hy
  | [], _ :: _, ht, _, _ => ht.elim
  | _ :: _, [], ht, _, _ => ht.elim
theorem say_are {P : List (List UInt8)} (h : Pre P) {k : K} (hk : Knows P k) : ∀ (l : List Say), Are k (l.map (sayT P)) (l.map sayA)
  | [] => trivial
  | x :: l => ⟨⟨spc x.sp, by
      show (if Pn P x.sp = [] then some [] else X.look k (Pn P x.sp)) = _
      by_cases h0 : Pn P x.sp = []
      · rw [if_pos h0]
        have := h.look hk x.sp
        rw [h0, hk.1] at this
        exact this
      · rw [if_neg h0]; exact h.look hk x.sp, by show sayA x = _; unfold sayA sayT; rw [ba_data]⟩, say_are h hk l⟩
/-- trees to be written, one behind the other -/
inductive WT where
  | nil
  | cons (sp lo : Nat) (al : List Say) (tx : List ByteArray) (ks r : WT)
def first (txs : List ByteArray) : List UInt8 := match txs with
  | [] => []
  | t :: _ => t.data.toList
def firstOk (txs : List ByteArray) : Bool := match txs with
  | [] => true
  | t :: _ => oks t
def asOk (al : List Say) : Bool := (al.take 20).all (fun x => oks x.va)
def kept (al : List Say) : List Say := keep [] (al.take 20)
def okC : WT → Nat → List ByteArray → Bool
  | .nil, _, txs => firstOk txs
  | .cons _ _ al tx ks r, d, txs => firstOk txs && ((if d < 15 then asOk al && okC ks (d + 1) tx else true) && okC r d txs.tail)
def nodes : WT → Nat → Nat
  | .nil, _ => 0
  | .cons _ _ _ _ ks r, d => (if d < 15 then 1 + nodes ks (d + 1) else 0) + nodes r d
def plainT : WT → List ByteArray → List UInt8
  | .nil, txs => first txs
  | .cons _ _ _ _ _ r, txs => first txs ++ plainT r txs.tail
def kids : WT → Nat → N
  | .nil, _ => .nil
  | .cons sp lo al tx ks r, d => if d < 15 then .cons (ba (spc sp)) (ba (nm lo)) ((kept al).map sayA) (kids ks (d + 1)) (ba (plainT ks tx)) 0 0 (kids r d) else kids r d
def tagT (P : List (List UInt8)) (sp lo : Nat) : List UInt8 := nmT (Pn P sp) (nm lo)
def closeT (P : List (List UInt8)) (sep : List UInt8) (sp lo : Nat) : List UInt8 := 60 :: 47 :: (tagT P sp lo ++ (sep ++ [62]))
def rootT (P : List (List UInt8)) (d : Nat) : List T := if d = 0 then [⟨39, xmlns, P.getD 1 [], spc 1⟩, ⟨39, xmlns, P.getD 2 [], spc 2⟩, ⟨39, xmlns, P.getD 3 [], spc 3⟩] else []
def openT (P : List (List UInt8)) (sep : List UInt8) (d sp lo : Nat) (al : List Say) : List UInt8 := 60 :: (tagT P sp lo ++ (texts sep (rootT P d) ++ (texts sep ((kept al).map (sayT P)) ++ [62])))
def cont (P : List (List UInt8)) (sep : List UInt8) : WT → Nat → List ByteArray → List UInt8
  | .nil, _, txs => escL (first txs)
  | .cons sp lo al tx ks r, d, txs => escL (first txs) ++ ((if d < 15 then openT P sep (d + 1) sp lo al ++ (cont P sep ks (d + 1) tx ++ closeT P sep sp lo) else []) ++ cont P sep r d txs.tail)
def elemT (P : List (List UInt8)) (sep : List UInt8) (d sp lo : Nat) (al : List Say) (tx : List ByteArray) (ks : WT) : List UInt8 := openT P sep d sp lo al ++ (cont P sep ks d tx ++ closeT P sep sp lo)
/-- alike but for places -/
def Alike : N → N → Prop
  | .nil, .nil => True
  | .cons a b c ks t _ _ r, .cons a' b' c' ks' t' _ _ r' => (a = a' ∧ b = b' ∧ c = c' ∧ t = t') ∧ Alike ks ks' ∧ Alike r r'
  | _, _ => False
theorem first_ok {txs : List ByteArray} (h : firstOk txs = true) : allOk (first txs) = true := by
  cases txs with
  | nil => rfl
  | cons t r => exact h
theorem open_lt (r : List UInt8) : Open (60 :: r) := ⟨pre_no2 (by decide) _ _, pre_no2 (by decide) _ _, pre_no (by decide) _⟩
theorem cont_open (P : List (List UInt8)) (sep rest : List UInt8) (ho : Open rest) : ∀ (w : WT) (d : Nat) (txs : List ByteArray), Open (cont P sep w d txs ++ rest)
  | .nil, d, txs => open_app _ _ (fun b hb => (escL_no _ b hb).1) ho
  | .cons sp lo al tx ks r, d, txs => by
    unfold cont
    rw [List.append_assoc]
    refine open_app _ _ (fun b hb => (escL_no _ b hb).1) ?_
    by_cases hd : d < 15
    · rw [if_pos hd]
      unfold openT
      exact open_lt _
    · rw [if_neg hd]
      exact cont_open P sep rest ho r d txs.tail
theorem texts_app (sep : List UInt8) : ∀ (a b : List T), texts sep (a ++ b) = texts sep a ++ texts sep b
  | [], _ => rfl
  | x :: a, b => by
    show sep ++ (x.text ++ texts sep (a ++ b)) = sep ++ (x.text ++ texts sep a) ++ texts sep b
    rw [texts_app sep a b]
    simp
theorem sep_stop {sep : List UInt8} (hs : Blanks sep) (r : List UInt8) : Stop (sep ++ r) := by
  intro c x e
  obtain ⟨h1, h2⟩ := hs
  match sep, h1 with
  | b :: s, _ =>
    have hb := h2 b List.mem_cons_self
    have : c = b := (List.cons.inj e).1.symm
    subst this
    unfold blank at hb
    simp only [Bool.or_eq_true, beq_iff_eq] at hb
    rcases hb with ((rfl | rfl) | rfl) | rfl <;> decide
theorem texts_stop {sep : List UInt8} (hs : Blanks sep) (l : List T) (r : List UInt8) : Stop (texts sep l ++ 62 :: r) := by
  cases l with
  | nil => intro c x e; cases e; decide
  | cons y l =>
    show Stop (sep ++ (y.text ++ texts sep l) ++ 62 :: r)
    rw [List.append_assoc]
    exact sep_stop hs _
/-- the end of an element -/
theorem end_back {P : List (List UInt8)} (hP : Pre P) {sep : List UInt8} (hs : Blanks sep) (el : Nat → List UInt8 → Res (E × Nat)) (sp lo cnt : Nat) (tx : List UInt8) (ks : N) (r : List UInt8) (f : Nat) (hf : 0 < f) : inside el (Pn P sp, nm lo) f cnt tx ks (closeT P sep sp lo ++ r) = .ok (((tx, ks), cnt), r) := by
  obtain ⟨f, rfl⟩ : ∃ f', f = f' + 1 := ⟨f - 1, by omega⟩
  have e : closeT P sep sp lo ++ r = 60 :: 47 :: (tagT P sp lo ++ (sep ++ 62 :: r)) := by unfold closeT; simp
  rw [e]
  unfold inside
  rw [if_pos (show [60, 47].isPrefixOf (60 :: 47 :: (tagT P sp lo ++ (sep ++ 62 :: r))) = true from rfl)]
  have hc : close (Pn P sp, nm lo) ((60 :: 47 :: (tagT P sp lo ++ (sep ++ 62 :: r))).drop 2) = .ok ((), r) := by
    show close (Pn P sp, nm lo) (tagT P sp lo ++ (sep ++ 62 :: r)) = _
    unfold close tagT
    rw [name_back _ _ _ (hP.pn sp) (nm_part lo) (sep_stop hs _)]
    simp only
    rw [if_neg (by simp), skip_app sep _ hs.2, skip_self 62 r (by decide)]
    unfold must
    rw [if_pos (pre_yes 62 r)]
    rfl
  rw [hc]
/-- an element that is open: what is told of its beginning -/
theorem open_back (S : List UInt8) {sep : List UInt8} (hs : Blanks sep) (D : Nat) (known k : K) (cnt : Nat) (hc : cnt < 1024) (pre loc sp : List UInt8) (hp : pre = [] ∨ Part pre) (hl : Part loc) (l : List T) (m : List A) (r : List UInt8)
    (hg : ∀ x ∈ l, x.Good) (hn : (l.map T.key).Nodup) (hlen : l.length ≤ 32) (hr : ∀ n raws, Took raws l → resolve n (pre, loc) raws known = .ok (sp, m, k)) (L : List UInt8) (hL : 60 :: (nmT pre loc ++ (texts sep l ++ 62 :: r)) = L) :
    elem S (D + 1) known cnt L = match inside (elem S D k) (pre, loc) (r.length + 1) (cnt + 1) [] .nil r with
      | .error e => .error e
      | .ok (((tx, ks), cnt'), l4) => .ok ((⟨ba sp, ba loc, m, ks, ba tx, lineOf S (S.length - L.length), colOf S (S.length - L.length)⟩, cnt'), l4) := by
  obtain ⟨raws, h1, h2⟩ := attrs_back sep hs r l [] hg (fun _ _ _ h => by cases h) hn (by simpa using hlen)
  have hm : must [60] L = .ok ((), nmT pre loc ++ (texts sep l ++ 62 :: r)) := by
    rw [← hL]
    unfold must
    rw [if_pos (pre_yes 60 _)]; rfl
  unfold elem
  rw [if_neg (by omega), hm]
  simp only
  rw [name_back pre loc _ hp hl (texts_stop hs l r)]
  simp only
  rw [h2 _ (Nat.lt_succ_self _)]
  simp only [List.nil_append]
  rw [hr _ raws h1]
  simp only [if_true]
  rcases inside (elem S D k) (pre, loc) (r.length + 1) (cnt + 1) [] .nil r with e | ⟨⟨⟨tx, ks⟩, c⟩, l4⟩ <;> rfl
theorem spc_ok : ∀ i, 1 ≤ i → i < 4 → allOk (spc i) = true ∧ (39 : UInt8) ∉ escL (spc i) ∧ spc i ≠ [] := by
  intro i h1 h4
  have : i = 1 ∨ i = 2 ∨ i = 3 := by omega
  rcases this with rfl | rfl | rfl <;> decide
theorem xmlns_part : Part xmlns := ⟨120, [109, 108, 110, 115], rfl, by decide, by decide, by decide⟩
theorem Took.split : ∀ (a b : List T) (raws : List Raw), Took raws (a ++ b) → ∃ u v, raws = u ++ v ∧ Took u a ∧ Took v b
  | [], b, raws, h => ⟨[], raws, rfl, trivial, h⟩
  | x :: a, b, [], h => h.elim
  | x :: a, b, y :: raws, h => by
    obtain ⟨u, v, e, h1, h2⟩ := Took.split a b raws h.2
    exact ⟨y :: u, v, by rw [e]; rfl, ⟨h.1, h1⟩, h2⟩
/-- within: what the prefixes stand for is known -/
theorem res_in {P : List (List UInt8)} (hP : Pre P) {k : K} (hk : Knows P k) (sp lo : Nat) (al : List Say) (n : Nat) (raws : List Raw) (ht : Took raws ((kept al).map (sayT P))) : resolve n (Pn P sp, nm lo) raws k = .ok (spc sp, (kept al).map sayA, k) := by
  have hpl := say_plain hP _ raws ht
  unfold resolve
  rw [binds_plain k raws hpl]
  simp only
  rw [hP.look hk sp]
  simp only
  have hnd : (((kept al).map sayA).map A.key).Nodup := by
    rw [List.map_map]
    exact nodup_map (fun x y e => sayA_key e) _ (keep_nodup _ [] List.nodup_nil)
  rw [plain_back k raws _ ((kept al).map sayA) [] ht (say_are hP hk _) hpl (fun _ _ _ h => by cases h) hnd, List.nil_append]
/-- the root: the prefixes are told -/
def rootK (P : List (List UInt8)) : K := (P.getD 3 [], spc 3) :: (P.getD 2 [], spc 2) :: (P.getD 1 [], spc 1) :: known0
theorem root_knows {P : List (List UInt8)} (hP : Pre P) : Knows P (rootK P) := by
  have hne : ∀ i, 1 ≤ i → i < 4 → P.getD i [] ≠ [] := by
    intro i h1 h4 e
    obtain ⟨c, r, h, _⟩ := hP.part i h1 h4
    rw [e] at h; cases h
  refine ⟨?_, ?_⟩
  · unfold rootK
    unfold look; rw [if_neg (hne 3 (by omega) (by omega))]
    unfold look; rw [if_neg (hne 2 (by omega) (by omega))]
    unfold look; rw [if_neg (hne 1 (by omega) (by omega))]
    rfl
  · intro i h1 h4
    have h : i = 3 ∨ i = 2 ∨ i = 1 := by omega
    rcases h with rfl | rfl | rfl
    · unfold rootK look; rw [if_pos rfl]
    · unfold rootK look; rw [if_neg (fun e => by have := hP.inj 3 2 (by omega) (by omega) e; omega)]
      unfold look; rw [if_pos rfl]
    · unfold rootK look; rw [if_neg (fun e => by have := hP.inj 3 1 (by omega) (by omega) e; omega)]
      unfold look; rw [if_neg (fun e => by have := hP.inj 2 1 (by omega) (by omega) e; omega)]
      unfold look; rw [if_pos rfl]
theorem res_root {P : List (List UInt8)} (hP : Pre P) (sp lo : Nat) (al : List Say) (n : Nat) (raws : List Raw) (ht : Took raws (rootT P 0 ++ (kept al).map (sayT P))) : resolve n (Pn P sp, nm lo) raws known0 = .ok (spc sp, (kept al).map sayA, rootK P) := by
  obtain ⟨u, v, rfl, h1, h2⟩ := Took.split _ _ _ ht
  match u, h1 with
  | [x, y, z], ⟨⟨x1, x2, x3⟩, ⟨y1, y2, y3⟩, ⟨z1, z2, z3⟩, _⟩ =>
    have hpl := say_plain hP _ v h2
    have hsp : ∀ w : Raw, w.pre = xmlns → w.ofSpaces = true := fun w e => by unfold Raw.ofSpaces; rw [e]; rfl
    have n1 := hP.ns 1 (by omega) (by omega)
    have n2 := hP.ns 2 (by omega) (by omega)
    have n3 := hP.ns 3 (by omega) (by omega)
    simp only at x1 x2 x3 y1 y2 y3 z1 z2 z3
    have hb : binds ([x, y, z] ++ v) known0 = .ok (rootK P) := by
      show binds (x :: y :: z :: v) known0 = _
      rw [binds_space x _ _ x1 (by rw [x3]; decide) (by rw [x2]; exact n1.1) (by rw [x2]; exact n1.2), binds_space y _ _ y1 (by rw [y3]; decide) (by rw [y2]; exact n2.1) (by rw [y2]; exact n2.2), binds_space z _ _ z1 (by rw [z3]; decide) (by rw [z2]; exact n3.1) (by rw [z2]; exact n3.2), binds_plain _ v hpl, x2, x3, y2, y3, z2, z3]
      rfl
    unfold resolve
    rw [hb]
    simp only
    rw [hP.look (root_knows hP) sp]
    simp only
    have hnd : (((kept al).map sayA).map A.key).Nodup := by
      rw [List.map_map]
      exact nodup_map (fun x y e => sayA_key e) _ (keep_nodup _ [] List.nodup_nil)
    have hpa : plainAttrs (rootK P) ([x, y, z] ++ v) [] = .ok ((kept al).map sayA) := by
      show plainAttrs (rootK P) (x :: y :: z :: v) [] = _
      rw [plain_skip _ x _ _ (hsp x x1), plain_skip _ y _ _ (hsp y y1), plain_skip _ z _ _ (hsp z z1), plain_back (rootK P) v _ ((kept al).map sayA) [] h2 (say_are hP (root_knows hP) _) hpl (fun _ _ _ h => by cases h) hnd, List.nil_append]
    rw [hpa]
/-- the attributes that are written may be read -/
theorem as_good {P : List (List UInt8)} (hP : Pre P) (al : List Say) (h : asOk al = true) : (∀ x ∈ (kept al).map (sayT P), x.Good) ∧ (((kept al).map (sayT P)).map T.key).Nodup ∧ ((kept al).map (sayT P)).length ≤ 20 := by
  refine ⟨?_, ?_, ?_⟩
  · intro x hx
    obtain ⟨y, hy, rfl⟩ := List.mem_map.1 hx
    rcases keep_mem _ _ _ hy with h0 | h0
    · cases h0
    · exact sayT_good hP y (List.all_eq_true.1 h y h0)
  · rw [List.map_map]
    exact nodup_map (fun x y e => sayT_key hP e) _ (keep_nodup _ [] List.nodup_nil)
  · rw [List.length_map]
    have := keep_len (al.take 20) []
    rw [List.length_take] at this
    unfold kept
    simp only [List.length_nil] at this
    omega
theorem root_good {P : List (List UInt8)} (hP : Pre P) (al : List Say) (h : asOk al = true) : (∀ x ∈ rootT P 0 ++ (kept al).map (sayT P), x.Good) ∧ ((rootT P 0 ++ (kept al).map (sayT P)).map T.key).Nodup ∧ (rootT P 0 ++ (kept al).map (sayT P)).length ≤ 32 := by
  obtain ⟨g1, g2, g3⟩ := as_good hP al h
  have hx : ∀ i, 1 ≤ i → i < 4 → T.Good ⟨39, xmlns, P.getD i [], spc i⟩ := fun i h1 h4 => ⟨Or.inr rfl, Or.inr xmlns_part, hP.part i h1 h4, (spc_ok i h1 h4).1, (spc_ok i h1 h4).2.1⟩
  refine ⟨?_, ?_, ?_⟩
  · intro x hm
    rcases List.mem_append.1 hm with hm | hm
    · unfold rootT at hm
      simp only [if_true, List.mem_cons, List.not_mem_nil, or_false] at hm
      rcases hm with rfl | rfl | rfl
      · exact hx 1 (by omega) (by omega)
      · exact hx 2 (by omega) (by omega)
      · exact hx 3 (by omega) (by omega)
    · exact g1 x hm
  · rw [List.map_append, List.nodup_append]
    refine ⟨?_, g2, ?_⟩
    · have h12 : P.getD 1 [] ≠ P.getD 2 [] := fun e => by have := hP.inj 1 2 (by omega) (by omega) e; omega
      have h13 : P.getD 1 [] ≠ P.getD 3 [] := fun e => by have := hP.inj 1 3 (by omega) (by omega) e; omega
      have h23 : P.getD 2 [] ≠ P.getD 3 [] := fun e => by have := hP.inj 2 3 (by omega) (by omega) e; omega
      show [((xmlns, P.getD 1 []) : List UInt8 × List UInt8), (xmlns, P.getD 2 []), (xmlns, P.getD 3 [])].Nodup
      simp only [List.nodup_cons, List.mem_cons, List.not_mem_nil, or_false, Prod.mk.injEq, true_and, List.nodup_nil, and_true, not_or]
      exact ⟨⟨h12, h13⟩, h23, fun h => h⟩
    · intro a ha b hb e
      have h1 : a.1 = xmlns := by
        obtain ⟨x, hm, rfl⟩ := List.mem_map.1 ha
        unfold rootT at hm
        simp only [if_true, List.mem_cons, List.not_mem_nil, or_false] at hm
        rcases hm with rfl | rfl | rfl <;> rfl
      obtain ⟨x, hm, rfl⟩ := List.mem_map.1 hb
      obtain ⟨y, hy, rfl⟩ := List.mem_map.1 hm
      have h2 : a.1 = Pn P y.sp := by rw [e]; rfl
      rw [h1] at h2
      by_cases h0 : y.sp % 4 = 0
      · have : Pn P y.sp = [] := by unfold Pn; rw [h0]; exact hP.p0
        rw [this] at h2; revert h2; decide
      · exact (hP.ns _ (by omega) (by omega)).1 h2.symm
  · rw [List.length_append]
    have : (rootT P 0).length = 3 := rfl
    omega
theorem alike_cons {e : E} {ks' : N} {sp lo : ByteArray} {al : List A} {ks r : N} {tx : ByteArray} (h1 : e.sp = sp ∧ e.lo = lo ∧ e.as = al ∧ e.tx = tx) (h2 : Alike e.ks ks) (h3 : Alike ks' r) : Alike (e.one.app ks') (.cons sp lo al ks tx 0 0 r) := ⟨h1, h2, h3⟩
/-- what stands in an element is read back -/
theorem cont_back (S : List UInt8) {P : List (List UInt8)} (hP : Pre P) {sep : List UInt8} (hs : Blanks sep) {k : K} (hk : Knows P k) : ∀ (w : WT) (d D : Nat) (txs : List ByteArray) (tag : List UInt8 × List UInt8) (cnt : Nat) (tx : List UInt8) (ks : N) (rest : List UInt8), d + D = 15 → okC w d txs = true → cnt + nodes w d ≤ 1024 → Open rest →
    ∃ ks', Alike ks' (kids w d) ∧ ∀ R, (∀ f, rest.length < f → inside (elem S D k) tag f (cnt + nodes w d) (tx ++ plainT w txs) (ks.app ks') rest = R) → ∀ f, (cont P sep w d txs ++ rest).length < f → inside (elem S D k) tag f cnt tx ks (cont P sep w d txs ++ rest) = R
  | .nil, d, D, txs, tag, cnt, tx, ks, rest, hd, hok, hc, ho => by
    refine ⟨.nil, trivial, fun R H f hf => ?_⟩
    refine text_back (elem S D k) tag cnt ks rest ho R (first txs) (first_ok hok) tx (fun f hf => ?_) f hf
    have := H f hf
    rwa [N.app_nil] at this
  | .cons sp lo al txk kk r, d, D, txs, tag, cnt, tx, ks, rest, hd, hok, hc, ho => by
    unfold okC at hok
    simp only [Bool.and_eq_true] at hok
    obtain ⟨h1, h2, h3⟩ := hok
    by_cases h15 : d < 15
    · rw [if_pos h15] at h2
      obtain ⟨D, rfl⟩ : ∃ D', D = D' + 1 := ⟨D - 1, by omega⟩
      have hn : nodes (.cons sp lo al txk kk r) d = 1 + nodes kk (d + 1) + nodes r d := by
        show (if d < 15 then 1 + nodes kk (d + 1) else 0) + nodes r d = _
        rw [if_pos h15]
      have ek : kids (.cons sp lo al txk kk r) d = .cons (ba (spc sp)) (ba (nm lo)) ((kept al).map sayA) (kids kk (d + 1)) (ba (plainT kk txk)) 0 0 (kids r d) := by
        show (if d < 15 then _ else _) = _
        rw [if_pos h15]
      rw [hn] at hc
      simp only [Bool.and_eq_true] at h2
      obtain ⟨g1, g2, g3⟩ := as_good hP al h2.1
      have ec : cont P sep (.cons sp lo al txk kk r) d txs ++ rest = escL (first txs) ++ (60 :: (nmT (Pn P sp) (nm lo) ++ (texts sep ((kept al).map (sayT P)) ++ 62 :: (cont P sep kk (d + 1) txk ++ (closeT P sep sp lo ++ (cont P sep r d txs.tail ++ rest)))))) := by
        show escL (first txs) ++ ((if d < 15 then openT P sep (d + 1) sp lo al ++ (cont P sep kk (d + 1) txk ++ closeT P sep sp lo) else []) ++ cont P sep r d txs.tail) ++ rest = _
        rw [if_pos h15]
        unfold openT tagT rootT
        rw [if_neg (by omega)]
        simp [texts]
      generalize hR3 : cont P sep r d txs.tail ++ rest = rest3 at *
      generalize hL : 60 :: (nmT (Pn P sp) (nm lo) ++ (texts sep ((kept al).map (sayT P)) ++ 62 :: (cont P sep kk (d + 1) txk ++ (closeT P sep sp lo ++ rest3)))) = L at *
      obtain ⟨kk', ha, hin⟩ := cont_back S hP hs hk kk (d + 1) D txk (Pn P sp, nm lo) (cnt + 1) [] .nil (closeT P sep sp lo ++ rest3) (by omega) h2.2 (by omega) (open_lt _)
      have hel := open_back S hs D k k cnt (by omega) (Pn P sp) (nm lo) (spc sp) (hP.pn sp) (nm_part lo) ((kept al).map (sayT P)) ((kept al).map sayA) (cont P sep kk (d + 1) txk ++ (closeT P sep sp lo ++ rest3)) g1 g2 (by omega) (fun n raws ht => res_in hP hk sp lo al n raws ht) L hL
      rw [hin _ (fun f hf => end_back hP hs (elem S D k) sp lo _ _ _ rest3 f (by omega)) _ (Nat.lt_succ_self _)] at hel
      simp only at hel
      generalize he : E.mk (ba (spc sp)) (ba (nm lo)) ((kept al).map sayA) (N.nil.app kk') (ba ([] ++ plainT kk txk)) (lineOf S (S.length - L.length)) (colOf S (S.length - L.length)) = e at hel
      obtain ⟨ks', hb, hrec⟩ := cont_back S hP hs hk r d (D + 1) txs.tail tag (cnt + 1 + nodes kk (d + 1)) (tx ++ first txs) (ks.snoc e) rest hd h3 (by omega) ho
      refine ⟨e.one.app ks', ?_, fun R H f hf => ?_⟩
      · rw [ek]
        refine alike_cons ⟨by rw [← he], by rw [← he], by rw [← he], by rw [← he]; rfl⟩ (by rw [← he]; exact ha) hb
      · rw [ec] at hf ⊢
        refine text_back (elem S (D + 1) k) tag cnt ks L (by rw [← hL]; exact open_lt _) R (first txs) (first_ok h1) tx (fun f hf => ?_) f hf
        obtain ⟨f, rfl⟩ : ∃ f', f = f' + 1 := ⟨f - 1, by omega⟩
        obtain ⟨c, z, hz, hcl⟩ := nmT_first (Pn P sp) (nm lo) (hP.pn sp) (nm_part lo)
        have hL2 : ∃ z', L = 60 :: c :: z' := by rw [← hL, hz]; exact ⟨_, rfl⟩
        obtain ⟨z', hz'⟩ := hL2
        have n47 : c ≠ 47 := by rintro rfl; revert hcl; decide
        have n33 : c ≠ 33 := by rintro rfl; revert hcl; decide
        have n63 : c ≠ 63 := by rintro rfl; revert hcl; decide
        have p2 : ∀ (q : UInt8) (x : List UInt8), c ≠ q → (60 :: q :: x).isPrefixOf L = false := fun q x h => by
          rw [hz', List.isPrefixOf_cons_cons, pre_no2 h, Bool.and_false]
        unfold inside
        rw [if_neg (by rw [p2 47 [] n47]; decide), if_neg (by rw [p2 33 _ n33]; decide), if_neg (by rw [p2 33 _ n33]; decide), if_neg (by rw [p2 33 _ n33, p2 63 _ n63, hz', pre_no2 (by decide)]; decide), if_pos (by rw [hz']; exact pre_yes 60 _), hel]
        simp only
        have hr3 : rest3.length < f := by
          rw [← hL] at hf
          simp only [List.length_cons, List.length_append] at hf
          omega
        rw [← hR3] at hr3 ⊢
        refine hrec R (fun f hf => ?_) f hr3
        have := H f hf
        rw [hn] at this
        rw [show cnt + (1 + nodes kk (d + 1) + nodes r d) = cnt + 1 + nodes kk (d + 1) + nodes r d by omega] at this
        rw [show plainT (.cons sp lo al txk kk r) txs = first txs ++ plainT r txs.tail from rfl] at this
        unfold N.snoc
        rw [N.app_assoc, List.append_assoc]
        exact this
    · have hn : nodes (.cons sp lo al txk kk r) d = nodes r d := by
        show (if d < 15 then 1 + nodes kk (d + 1) else 0) + nodes r d = _
        rw [if_neg h15]; omega
      have ek : kids (.cons sp lo al txk kk r) d = kids r d := by
        show (if d < 15 then _ else _) = _
        rw [if_neg h15]
      rw [hn] at hc
      obtain ⟨ks', hb, hrec⟩ := cont_back S hP hs hk r d D txs.tail tag cnt (tx ++ first txs) ks rest hd h3 hc ho
      refine ⟨ks', by rw [ek]; exact hb, fun R H f hf => ?_⟩
      have ec : cont P sep (.cons sp lo al txk kk r) d txs ++ rest = escL (first txs) ++ (cont P sep r d txs.tail ++ rest) := by
        show escL (first txs) ++ ((if d < 15 then openT P sep (d + 1) sp lo al ++ (cont P sep kk (d + 1) txk ++ closeT P sep sp lo) else []) ++ cont P sep r d txs.tail) ++ rest = _
        rw [if_neg h15]
        simp
      rw [ec] at hf ⊢
      refine text_back (elem S D k) tag cnt ks _ (cont_open P sep rest ho r d txs.tail) R (first txs) (first_ok h1) tx (fun f hf => ?_) f hf
      refine hrec R (fun f hf => ?_) f hf
      have := H f hf
      rw [hn] at this
      rw [show plainT (.cons sp lo al txk kk r) txs = first txs ++ plainT r txs.tail from rfl, ← List.append_assoc] at this
      exact this
/-- the root is read back -/
theorem elem_back (S : List UInt8) {P : List (List UInt8)} (hP : Pre P) {sep : List UInt8} (hs : Blanks sep) (sp lo : Nat) (al : List Say) (tx : List ByteArray) (ks : WT) (rest : List UInt8) (ha : asOk al = true) (hok : okC ks 0 tx = true) (hn : nodes ks 0 ≤ 1000) :
    ∃ e n, Alike e.one (.cons (ba (spc sp)) (ba (nm lo)) ((kept al).map sayA) (kids ks 0) (ba (plainT ks tx)) 0 0 .nil) ∧ elem S 16 known0 0 (elemT P sep 0 sp lo al tx ks ++ rest) = .ok ((e, n), rest) := by
  obtain ⟨g1, g2, g3⟩ := root_good hP al ha
  have ec : elemT P sep 0 sp lo al tx ks ++ rest = 60 :: (nmT (Pn P sp) (nm lo) ++ (texts sep (rootT P 0 ++ (kept al).map (sayT P)) ++ 62 :: (cont P sep ks 0 tx ++ (closeT P sep sp lo ++ rest)))) := by
    unfold elemT openT tagT
    rw [texts_app]
    simp
  generalize hL : elemT P sep 0 sp lo al tx ks ++ rest = L at *
  obtain ⟨kk', hal, hin⟩ := cont_back S hP hs (root_knows hP) ks 0 15 tx (Pn P sp, nm lo) 1 [] .nil (closeT P sep sp lo ++ rest) (by omega) hok (by omega) (open_lt _)
  have hel := open_back S hs 15 known0 (rootK P) 0 (by omega) (Pn P sp) (nm lo) (spc sp) (hP.pn sp) (nm_part lo) (rootT P 0 ++ (kept al).map (sayT P)) ((kept al).map sayA) (cont P sep ks 0 tx ++ (closeT P sep sp lo ++ rest)) g1 g2 g3 (fun n raws ht => res_root hP sp lo al n raws ht) L ec.symm
  rw [hin _ (fun f hf => end_back hP hs (elem S 15 (rootK P)) sp lo _ _ _ rest f (by omega)) _ (Nat.lt_succ_self _)] at hel
  exact ⟨_, _, ⟨⟨rfl, rfl, rfl, rfl⟩, hal, trivial⟩, hel⟩
end X
end Go.Proofs.YtakplnceiibmlaaGreatDoor
