/- Plain: places in a text rise; an element's place is where its < stands. No program in sight. -/
import Derived.Test.YtakplnceiibmlaaGreatDoorMPlainB
namespace Go.Proofs.YtakplnceiibmlaaGreatDoor
namespace X
theorem line_zero (S : List UInt8) : lineOf S 0 = 1 := by simp [lineOf]
theorem col_zero (S : List UInt8) : colOf S 0 = 1 := by simp [colOf]
theorem take_next {S : List UInt8} {i : Nat} {c : UInt8} (h : S[i]? = some c) : S.take (i + 1) = S.take i ++ [c] := by
  rw [List.take_add_one, h]; rfl
theorem line_next {S : List UInt8} {i : Nat} {c : UInt8} (h : S[i]? = some c) : lineOf S (i + 1) = if c = 10 then lineOf S i + 1 else lineOf S i := by
  unfold lineOf
  rw [take_next h, List.count_append, List.count_cons, List.count_nil]
  by_cases hc : c = 10
  · subst hc; simp
  · rw [if_neg hc]; simp [hc]
theorem col_next {S : List UInt8} {i : Nat} {c : UInt8} (h : S[i]? = some c) : colOf S (i + 1) = if c = 10 then 1 else colOf S i + 1 := by
  unfold colOf
  rw [take_next h, List.reverse_append]
  by_cases hc : c = 10
  · subst hc; simp
  · rw [if_neg hc]; simp [hc]
theorem col_pos (S : List UInt8) (i : Nat) : 1 ≤ colOf S i := by unfold colOf; omega
theorem line_pos (S : List UInt8) (i : Nat) : 1 ≤ lineOf S i := by unfold lineOf; omega
theorem line_le (S : List UInt8) (i : Nat) : lineOf S i ≤ i + 1 := by
  unfold lineOf
  have h1 := List.count_le_length (a := (10 : UInt8)) (l := S.take i)
  rw [List.length_take] at h1; omega
theorem col_le (S : List UInt8) (i : Nat) : colOf S i ≤ i + 1 := by
  unfold colOf
  have h1 := (List.takeWhile_sublist (l := (S.take i).reverse) (fun c : UInt8 => c != 10)).length_le
  rw [List.length_reverse, List.length_take] at h1; omega
/-- one place ahead of another -/
def Ahead (a b : Nat × Nat) : Prop := a.1 < b.1 ∨ (a.1 = b.1 ∧ a.2 < b.2)
theorem Ahead.trans {a b c : Nat × Nat} (h : Ahead a b) (g : Ahead b c) : Ahead a c := by unfold Ahead at *; omega
def at_ (S : List UInt8) (i : Nat) : Nat × Nat := (lineOf S i, colOf S i)
theorem ahead_next {S : List UInt8} {i : Nat} (h : i < S.length) : Ahead (at_ S i) (at_ S (i + 1)) := by
  have hc : S[i]? = some S[i] := List.getElem?_eq_getElem h
  unfold Ahead at_
  simp only
  rw [line_next hc, col_next hc]
  split <;> omega
theorem ahead_of {S : List UInt8} {i : Nat} : ∀ {j : Nat}, i < j → j ≤ S.length → Ahead (at_ S i) (at_ S j)
  | 0, h, _ => by omega
  | j + 1, h, g => by
    rcases Nat.lt_or_ge i j with h1 | h1
    · exact (ahead_of h1 (by omega)).trans (ahead_next (by omega))
    · have : i = j := by omega
      subst this
      exact ahead_next (by omega)
theorem at_inj {S : List UInt8} {i j : Nat} (hi : i ≤ S.length) (hj : j ≤ S.length) (h : at_ S i = at_ S j) : i = j := by
  rcases Nat.lt_trichotomy i j with h1 | h1 | h1
  · have := ahead_of h1 hj; rw [h] at this; unfold Ahead at this; omega
  · exact h1
  · have := ahead_of h1 hi; rw [h] at this; unfold Ahead at this; omega
/-- elements' places rise from lo on and lie ahead of hi, each where a < stands -/
def Chain (S : List UInt8) : Nat → N → Nat → Prop
  | lo, .nil, hi => lo ≤ hi
  | lo, .cons _ _ _ ks _ ln cl r, hi => ∃ i m, lo ≤ i ∧ S[i]? = some 60 ∧ ln = lineOf S i ∧ cl = colOf S i ∧ Chain S (i + 1) ks m ∧ Chain S m r hi
theorem Chain.le {S : List UInt8} : ∀ {ks : N} {lo hi : Nat}, Chain S lo ks hi → lo ≤ hi
  | .nil, _, _, h => h
  | .cons _ _ _ ks _ _ _ r, _, _, ⟨i, m, h1, _, _, _, h2, h3⟩ => by
    have := Chain.le h2
    have := Chain.le h3
    omega
theorem Chain.up {S : List UInt8} : ∀ {ks : N} {lo hi hi' : Nat}, Chain S lo ks hi → hi ≤ hi' → Chain S lo ks hi'
  | .nil, _, _, _, h, g => Nat.le_trans h g
  | .cons .., _, _, _, ⟨i, m, h1, h2, h3, h4, h5, h6⟩, g => ⟨i, m, h1, h2, h3, h4, h5, h6.up g⟩
theorem Chain.app {S : List UInt8} : ∀ {a b : N} {lo m hi : Nat}, Chain S lo a m → Chain S m b hi → Chain S lo (a.app b) hi
  | .nil, .nil, _, _, _, h, g => Nat.le_trans h g
  | .nil, .cons .., _, _, _, h, ⟨i, m', h1, h2⟩ => ⟨i, m', Nat.le_trans h h1, h2⟩
  | .cons .., _, _, _, _, ⟨i, m', h1, h2, h3, h4, h5, h6⟩, g => ⟨i, m', h1, h2, h3, h4, h5, h6.app g⟩
theorem Chain.down {S : List UInt8} : ∀ {ks : N} {lo lo' hi : Nat}, Chain S lo ks hi → lo' ≤ lo → Chain S lo' ks hi
  | .nil, _, _, _, h, g => Nat.le_trans g h
  | .cons .., _, _, _, ⟨i, m, h1, h2⟩, g => ⟨i, m, Nat.le_trans g h1, h2⟩
theorem pre_first {c : UInt8} {l : List UInt8} (h : [c].isPrefixOf l = true) : ∃ r, l = c :: r := by
  obtain ⟨r, hr⟩ := List.isPrefixOf_iff_prefix.1 h
  exact ⟨r, hr.symm⟩
theorem suf_at {S l r : List UInt8} {c : UInt8} (h : Suf l S) (g : l = c :: r) : S[S.length - l.length]? = some c := by
  obtain ⟨b, rfl⟩ := h
  subst g
  rw [List.length_append, Nat.add_sub_cancel, List.getElem?_append_right (Nat.le_refl _), Nat.sub_self]; rfl
theorem inside_chain {S : List UInt8} {el : Nat → List UInt8 → Res (E × Nat)} (hf : ∀ c l, Fair 1 l (el c l)) (hel : ∀ c l e c' r, Suf l S → el c l = .ok ((e, c'), r) → Chain S (S.length - l.length) e.one (S.length - r.length)) (tag : List UInt8 × List UInt8) {lo : Nat} :
    ∀ (f cnt : Nat) (tx : List UInt8) (ks : N) (l : List UInt8), Suf l S → Chain S lo ks (S.length - l.length) → ∀ tx' ks' cnt' r, inside el tag f cnt tx ks l = .ok (((tx', ks'), cnt'), r) → Chain S lo ks' (S.length - r.length)
  | 0, _, _, _, _, _, _, _, _, _, _, h => by cases h
  | f + 1, cnt, tx, ks, l, hs, hc, tx', ks', cnt', r, h => by
    have keep : ∀ t : List UInt8, Suf t l → Chain S lo ks (S.length - t.length) := fun t ht => hc.up (by have := ht.len; omega)
    unfold inside at h
    split at h
    · have h1 := (close_fair tag (l.drop 2)).suf (Suf.drop 2 l)
      cases hx : close tag (l.drop 2) with
      | error q => rw [hx] at h; cases h
      | ok q =>
        rw [hx] at h
        cases h
        exact keep _ (h1.1 q.1 q.2 hx).1
    · split at h
      · have h1 := (comment_fair (l.length + 1) (l.drop 4)).suf (Suf.drop 4 l)
        cases hx : comment (l.length + 1) (l.drop 4) with
        | error q => rw [hx] at h; cases h
        | ok q =>
          rw [hx] at h
          have g := (h1.1 q.1 q.2 hx).1
          exact inside_chain hf hel tag f _ _ _ _ (g.trans hs) (keep _ g) _ _ _ _ h
      · split at h
        · have h1 := (cdata_fair (l.length + 1) tx (l.drop 9)).suf (Suf.drop 9 l)
          cases hx : cdata (l.length + 1) tx (l.drop 9) with
          | error q => rw [hx] at h; cases h
          | ok q =>
            rw [hx] at h
            have g := (h1.1 q.1 q.2 hx).1
            exact inside_chain hf hel tag f _ _ _ _ (g.trans hs) (keep _ g) _ _ _ _ h
        · split at h
          · cases h
          · split at h
            · have h1 := hf cnt l
              cases hx : el cnt l with
              | error q => rw [hx] at h; cases h
              | ok q =>
                obtain ⟨⟨e, c2⟩, t⟩ := q
                rw [hx] at h
                have g := (h1.1 _ _ hx).1
                exact inside_chain hf hel tag f _ _ _ _ (g.trans hs) (hc.app (hel cnt l e c2 t hs hx)) _ _ _ _ h
            · split at h
              · have h1 := ref_fair l
                cases hx : ref l with
                | error q => rw [hx] at h; cases h
                | ok q =>
                  rw [hx] at h
                  have g := (h1.1 q.1 q.2 hx).1
                  exact inside_chain hf hel tag f _ _ _ _ (g.trans hs) (keep _ g) _ _ _ _ h
              · have h1 := char_fair l
                cases hx : char l with
                | error q => rw [hx] at h; cases h
                | ok q =>
                  rw [hx] at h
                  have g := (h1.1 q.1 q.2 hx).1
                  exact inside_chain hf hel tag f _ _ _ _ (g.trans hs) (keep _ g) _ _ _ _ h
theorem elem_chain {S : List UInt8} : ∀ (d : Nat) (known : K) (cnt : Nat) (l : List UInt8) (e : E) (c : Nat) (r : List UInt8), Suf l S → elem S d known cnt l = .ok ((e, c), r) → Chain S (S.length - l.length) e.one (S.length - r.length)
  | 0, _, _, _, _, _, _, _, h => by cases h
  | d + 1, known, cnt, l, e, c, r, hs, h => by
    unfold elem at h
    split at h
    · cases h
    · by_cases hp : [60].isPrefixOf l = true
      · rw [show must [60] l = .ok ((), l.drop [60].length) from if_pos hp] at h
        obtain ⟨t, ht⟩ := pre_first hp
        have hl := hs.len
        have h60 := suf_at hs ht
        have hl1 : l.length = t.length + 1 := by rw [ht]; rfl
        simp only at h
        have g1 : Suf (l.drop [60].length) l := Suf.drop _ l
        have h2 := (name_fair (l.drop [60].length))
        cases hy : name (l.drop [60].length) with
        | error u => rw [hy] at h; cases h
        | ok u =>
          have g2 := (h2.1 u.1 u.2 hy).1
          rw [hy] at h
          simp only at h
          have h3 := attrs_fair (u.2.length + 1) [] u.2
          cases hz : attrs (u.2.length + 1) [] u.2 with
          | error v => rw [hz] at h; cases h
          | ok v =>
            obtain ⟨⟨raws, opn⟩, l3⟩ := v
            have g3 := (h3.1.1 _ _ hz).1
            have l3l := g3.len
            have l2l := g2.len
            rw [List.length_drop, List.length_cons, List.length_nil] at l2l
            rw [hz] at h
            simp only at h
            have s3 : Suf l3 S := g3.trans (g2.trans (g1.trans hs))
            cases hr : resolve l.length u.1 raws known with
            | error e => rw [hr] at h; cases h
            | ok w =>
              obtain ⟨sp, as, k⟩ := w
              rw [hr] at h
              simp only at h
              have s3l := s3.len
              split at h
              · cases hi : inside (elem S d k) u.1 (l3.length + 1) (cnt + 1) [] .nil l3 with
                | error e => rw [hi] at h; cases h
                | ok w =>
                  obtain ⟨⟨⟨tx, ks⟩, cnt'⟩, l4⟩ := w
                  rw [hi] at h
                  cases h
                  have hch := inside_chain (S := S) (el := elem S d k) (lo := S.length - l.length + 1) (fun c t => elem_fair S d k c t) (fun c t e c' r' hs' he => elem_chain d k c t e c' r' hs' he) u.1 (l3.length + 1) (cnt + 1) [] .nil l3 s3 (by show _ ≤ _; omega) tx ks _ _ hi
                  exact ⟨S.length - l.length, _, Nat.le_refl _, h60, rfl, rfl, hch, Nat.le_refl _⟩
              · cases h
                exact ⟨S.length - l.length, S.length - l.length + 1, Nat.le_refl _, h60, rfl, rfl, Nat.le_refl _, (by show _ ≤ _; omega)⟩
      · rw [show must [60] l = .error (bad l) from if_neg hp] at h
        cases h
theorem parse_chain {S : List UInt8} {e : E} (h : parse S = .ok e) : Chain S 0 e.one S.length := by
  unfold parse at h
  have h1 := (misc_fair (S.length + 1) (start S)).suf (start_suf S)
  cases hx : misc (S.length + 1) (start S) with
  | error q => rw [hx] at h; cases h
  | ok q =>
    have g1 := (h1.1 q.1 q.2 hx).1
    rw [hx] at h
    simp only at h
    split at h
    · cases h
    · cases hy : elem S 16 known0 0 q.2 with
      | error u => rw [hy] at h; cases h
      | ok u =>
        obtain ⟨⟨e', c⟩, l2⟩ := u
        have g2 := elem_chain 16 known0 0 q.2 e' c l2 g1 hy
        rw [hy] at h
        simp only at h
        cases hz : misc (S.length + 1) l2 with
        | error v => rw [hz] at h; cases h
        | ok v =>
          rw [hz] at h
          simp only at h
          split at h
          · cases h
            exact (g2.up (Nat.sub_le _ _)).down (Nat.zero_le _)
          · cases h
end X
end Go.Proofs.YtakplnceiibmlaaGreatDoor
