/- Looking into a map by text; what is read is short; attributes in a row; where a byte stands. -/
import Derived.Test.YtakplnceiibmlaaGreatDoorMResA
import Derived.Test.YtakplnceiibmlaaGreatDoorMPlainC
import Derived.Maps.StringElems
namespace Go.Proofs.YtakplnceiibmlaaGreatDoor
open Go.RowKit Go.Maps
open Go.Lib (hid)
theorem KM.look {w : World} {b N : Nat} {k : X.K} (h : KM w b N k) (p : ByteArray) (hp : p.size ≤ 1000000000000) :
    (Instr.lookup 59 (.map (some b)) (.string p) true).run Tryz.prog w = .ok (.tuple #[.string (X.ba ((X.look k p.data.toList).getD [])), .bool (X.look k p.data.toList).isSome]) w := by
  obtain ⟨v, ps, hl, hv⟩ := World.ownsMap.look_ok h lawS Tryz.underlying59 (zeroStr w) (plainElem_string (H := Unit) Tryz.underlying9 (s := ⟨#[]⟩) (by unfold maxLen; decide)) (keyS hp)
  rw [X.mapD_has, X.lookG_look] at hl
  rw [X.mapD_at, X.lookG_look] at hv
  obtain ⟨t, rfl, hc, _⟩ := plainElem_string_inv Tryz.underlying9 hv
  have ht : t = X.ba ((X.look k p.data.toList).getD []) := by
    simp only [Prod.mk.injEq] at hc
    have hc1 := hc.1
    have key : t.data.toList = (X.look k p.data.toList).getD [] := by
      revert hc1
      cases X.look k p.data.toList with
      | none => intro h; simp only [DataW.lit.injEq, Lit.string.injEq] at h; rw [← h]; rfl
      | some x => intro h; simp only [textD, DataW.lit.injEq, Lit.string.injEq] at h; rw [← h]; rfl
    rw [← key]; exact (ba_self t).symm
  rw [ht] at hl
  exact hl
namespace X
/-- a short attribute -/
def Small (M : Nat) (x : Raw) : Prop := x.pre.length ≤ 32 ∧ x.loc.length ≤ 32 ∧ x.val.length ≤ M
theorem part_len {l p r : List UInt8} (h : part l = .ok (p, r)) : p.length ≤ 32 := by
  unfold part at h
  by_cases h1 : partL l = []
  · rw [if_pos h1] at h; cases h
  · rw [if_neg h1] at h
    by_cases h2 : 32 < (partL l).length
    · rw [if_pos h2] at h; cases h
    · rw [if_neg h2] at h; cases h; omega
theorem name_len {l r : List UInt8} {nm : List UInt8 × List UInt8} (h : name l = .ok (nm, r)) : nm.1.length ≤ 32 ∧ nm.2.length ≤ 32 := by
  unfold name at h
  cases hp : part l with
  | error e => rw [hp] at h; cases h
  | ok q =>
    obtain ⟨one, r1⟩ := q
    rw [hp] at h
    simp only at h
    have h1 := part_len hp
    cases hc : [58].isPrefixOf r1
    · rw [hc] at h; simp only [Bool.false_eq_true, if_false] at h; cases h; exact ⟨Nat.zero_le _, h1⟩
    · rw [hc] at h
      simp only [if_true] at h
      cases hp2 : part (r1.drop 1) with
      | error e => rw [hp2] at h; cases h
      | ok q2 => rw [hp2] at h; cases h; exact ⟨h1, part_len (r := q2.2) hp2⟩
theorem valIn_len (q : UInt8) : ∀ (f : Nat) (acc l v r : List UInt8), valIn q f acc l = .ok (v, r) → v.length + 4 * r.length ≤ acc.length + 4 * l.length
  | 0, _, _, _, _, h => by cases h
  | f + 1, acc, l, v, r, h => by
    unfold valIn at h
    by_cases h1 : [q].isPrefixOf l = true
    · rw [if_pos h1] at h; cases h; rw [List.length_drop]; omega
    · rw [if_neg h1] at h
      by_cases h2 : [60].isPrefixOf l = true
      · rw [if_pos h2] at h; cases h
      · rw [if_neg h2] at h
        by_cases h3 : [38].isPrefixOf l = true
        · rw [if_pos h3] at h
          cases hr : ref l with
          | error e => rw [hr] at h; cases h
          | ok y =>
            obtain ⟨c, r1⟩ := y
            rw [hr] at h
            have := valIn_len q f _ _ _ _ h
            have h5 := ((ref_fair l).1 _ _ hr).2
            have h6 := charL_le c
            rw [List.length_append] at this
            omega
        · rw [if_neg h3] at h
          cases hr : char l with
          | error e => rw [hr] at h; cases h
          | ok y =>
            obtain ⟨c, r1⟩ := y
            rw [hr] at h
            have := valIn_len q f _ _ _ _ h
            have h5 := ((char_fair l).1 _ _ hr).2
            have h6 := charL_le (if c < 32 then 32 else c)
            rw [List.length_append] at this
            omega
theorem value_len {l v r : List UInt8} (h : value l = .ok (v, r)) : v.length ≤ 4 * l.length := by
  unfold value at h
  by_cases h1 : [34].isPrefixOf l = true
  · rw [if_pos h1] at h
    have := valIn_len _ _ _ _ _ _ h
    rw [List.length_drop] at this
    simp at this
    omega
  · rw [if_neg h1] at h
    by_cases h2 : [39].isPrefixOf l = true
    · rw [if_pos h2] at h
      have := valIn_len _ _ _ _ _ _ h
      rw [List.length_drop] at this
      simp at this
      omega
    · rw [if_neg h2] at h; cases h
theorem attr_small {out : List Raw} {l r : List UInt8} {x : Raw} (h : attr out l = .ok (x, r)) : Small (4 * l.length) x ∧ r.length ≤ l.length := by
  unfold attr at h
  cases hn : name l with
  | error e => rw [hn] at h; cases h
  | ok y =>
    obtain ⟨nm, r1⟩ := y
    rw [hn] at h
    simp only at h
    have h1 := name_len hn
    have f1 := ((name_fair l).1 _ _ hn).2
    cases ho : out.any (fun y => decide (y.pre = nm.1 ∧ y.loc = nm.2))
    · rw [ho] at h
      simp only [Bool.false_eq_true, if_false] at h
      cases hm : must [61] (skip r1) with
      | error e => rw [hm] at h; cases h
      | ok z =>
        obtain ⟨_, r2⟩ := z
        rw [hm] at h
        simp only at h
        have f2 := ((must_fair [61] (skip r1)).1 _ _ hm).2
        have s1 := (Suf.skip r1).len
        have s2 := (Suf.skip r2).len
        cases hv : value (skip r2) with
        | error e => rw [hv] at h; cases h
        | ok z2 =>
          obtain ⟨v, r3⟩ := z2
          rw [hv] at h
          cases h
          have h2 := value_len hv
          have f3 := ((value_fair (skip r2)).1 _ _ hv).2
          refine ⟨⟨h1.1, h1.2, ?_⟩, by omega⟩
          show v.length ≤ _
          omega
    · rw [ho] at h; simp only [if_true] at h; cases h
theorem attrs_small {M : Nat} : ∀ (f : Nat) (out : List Raw) (l : List UInt8) (raws : List Raw) (o : Bool) (r : List UInt8), 4 * l.length ≤ M → (∀ x ∈ out, Small M x) → attrs f out l = .ok ((raws, o), r) → ∀ x ∈ raws, Small M x
  | 0, _, _, _, _, _, _, _, h => by cases h
  | f + 1, out, l, raws, o, r, hM, ho, h => by
    unfold attrs at h
    have hsk := (Suf.skip l).len
    by_cases h1 : [62].isPrefixOf (skip l) = true
    · rw [if_pos h1] at h; cases h; exact ho
    · rw [if_neg h1] at h
      by_cases h2 : [47].isPrefixOf (skip l) = true
      · rw [if_pos h2] at h
        cases hm : must [62] ((skip l).drop 1) with
        | error e => rw [hm] at h; cases h
        | ok z => rw [hm] at h; cases h; exact ho
      · rw [if_neg h2] at h
        by_cases h3 : (skip l).length = l.length ∨ begins (skip l) = false
        · rw [if_pos h3] at h; cases h
        · rw [if_neg h3] at h
          by_cases h4 : out.length = 32
          · rw [if_pos h4] at h; cases h
          · rw [if_neg h4] at h
            cases ha : attr out (skip l) with
            | error e => rw [ha] at h; cases h
            | ok z =>
              obtain ⟨x, r1⟩ := z
              rw [ha] at h
              have hs := attr_small ha
              refine attrs_small f (out ++ [x]) r1 raws o r (by omega) (fun y hy => ?_) h
              rcases List.mem_append.1 hy with hy | hy
              · exact ho y hy
              · rw [List.mem_singleton] at hy; subst hy
                exact ⟨hs.1.1, hs.1.2.1, by have := hs.1.2.2; omega⟩
end X
/-- the cells of an attribute -/
def attrC (x : X.A) : List Value := [.string x.sp, .string x.lo, .string x.va]
def attrsC (l : List X.A) : List Value := l.flatMap attrC
theorem attrsC_length : ∀ l : List X.A, (attrsC l).length = l.length * 3
  | [] => rfl
  | x :: r => by
    have := attrsC_length r
    unfold attrsC at this ⊢
    rw [List.flatMap_cons, List.length_append, this, List.length_cons]
    show 3 + _ = _
    omega
theorem attrsC_snoc (l : List X.A) (x : X.A) : attrsC (l ++ [x]) = attrsC l ++ attrC x := by
  unfold attrsC
  rw [List.flatMap_append]
  simp
theorem attrsC_at : ∀ (l : List X.A) (j : Nat) (x : X.A), l[j]? = some x → ∀ i u, (attrC x)[i]? = some u → (attrsC l)[j * 3 + i]? = some u
  | y :: r, 0, x, h, i, u, hu => by
    simp only [List.getElem?_cons_zero, Option.some.injEq] at h
    subst h
    unfold attrsC
    rw [List.flatMap_cons, Nat.zero_mul, Nat.zero_add, List.getElem?_append_left (by have := (List.getElem?_eq_some_iff.1 hu).1; exact this)]
    exact hu
  | y :: r, j + 1, x, h, i, u, hu => by
    have := attrsC_at r j x (by simpa using h) i u hu
    unfold attrsC at this ⊢
    rw [List.flatMap_cons, List.getElem?_append_right (by show 3 ≤ _; omega)]
    show (List.flatMap attrC r)[(j + 1) * 3 + i - 3]? = _
    rw [show (j + 1) * 3 + i - 3 = j * 3 + i by omega]
    exact this
/-- attributes in a row of the call's own -/
def AOwn (B : Nat) (l : List X.A) (v : Value) (w : World) : Prop := w.ownsRow B 50 3 v l.length (attrsC l)
section
variable {B : Nat} {l : List X.A} {v : Value} {w w' : World}
theorem AOwn.below (h : AOwn B l v w) (hb : Below w.heap.size w w') : AOwn B l v w' :=
  World.ownsRow.kept (row := none) h ⟨hb.os, hb.tape, hb.output, hb.size, fun k hk _ => hb.block k hk⟩ (Classical.em _)
theorem AOwn.put (h : AOwn B l v w) {Y : Nat} (hY : v.ownBlock ≠ some Y) (i : Nat) (u : Value) : AOwn B l v (w.setCell ⟨Y, i, none⟩ u) :=
  World.ownsRow.kept h (grownBy_set w Y i u) (Or.inr hY)
theorem AOwn.shape (h : AOwn B l v w) : ∃ a c, v = .slice a l.length c := by
  rcases h.2 with ⟨rfl, h0⟩ | ⟨g, cap, cur, rfl, _⟩
  · exact ⟨none, 0, by rw [h0]⟩
  · exact ⟨_, _, rfl⟩
theorem AOwn.cells (h : AOwn B l v w) {a : Option Addr} {n c : Nat} (hv : v = .slice a n c) (hn : 0 < n) : ∃ g, a = some ⟨g, 0, none⟩ ∧ B ≤ g ∧ g < w.heap.size ∧ ∀ j x, l[j]? = some x → ∀ i u, (attrC x)[i]? = some u → w.cell? ⟨g, j * 3 + i, none⟩ = some u := by
  have hc := fun g (hg : v.ownBlock = some g) => World.ownsRow.cells h hg
  have hlt := World.ownsRow.lt h
  rcases h.2 with ⟨rfl, h0⟩ | ⟨g, cap, cur, rfl, _, hgr, hcap, _⟩
  · simp only [Value.slice.injEq] at hv; omega
  · simp only [Value.slice.injEq] at hv
    refine ⟨g, hv.1.symm, (hlt g rfl).1, (hlt g rfl).2, fun j x hj i u hu => ?_⟩
    have := hc g rfl (j * 3 + i) u (attrsC_at l j x hj i u hu)
    have e : (⟨g, 0, none⟩ : Addr).add (j * 3 + i) = ⟨g, j * 3 + i, none⟩ := by
      unfold Addr.add
      split <;> simp_all
    rw [e] at this
    exact this
end
end Go.Proofs.YtakplnceiibmlaaGreatDoor
