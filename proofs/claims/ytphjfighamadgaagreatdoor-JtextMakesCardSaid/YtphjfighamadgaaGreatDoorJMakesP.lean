/- JtextMakes: names and values side by side in cells; a list cut. -/
import Derived.Test.YtphjfighamadgaaGreatDoorJObj
namespace Go.Proofs.YtphjfighamadgaaGreatDoor
open Go.RowKit
open Go.Lib (hid)
namespace J
/-- names with values, as cells in a row -/
def PCells (w : World) (P : Nat → Prop) : T → List ByteArray → List Value → Prop
  | .nil, [], cs => cs = []
  | .cons k b n s l ns r, x :: xs, cs => ∃ lv nv cs', cs = .string x :: .int .u8 k :: .bool b :: .int .i64 n :: .string s :: lv :: nv :: cs' ∧ l.In w P lv ∧ SIn w P ns nv ∧ PCells w P r xs cs'
  | .nil, _ :: _, _ => False
  | .cons .., [], _ => False
theorem PCells.keep {P Q : Nat → Prop} {w w' : World} (hP : ∀ b, P b → Q b) (h : ∀ b, P b → w'.heap[b]? = w.heap[b]?) : ∀ (t : T) (xs : List ByteArray) (cs : List Value), PCells w P t xs cs → PCells w' Q t xs cs
  | .nil, [], _, h => h
  | .cons _ _ _ _ _ _ r, _ :: xs, _, ⟨lv, nv, cs', he, hl, hn, hr⟩ => ⟨lv, nv, cs', he, hl.keep hP h, hn.keep hP h, PCells.keep hP h r xs cs' hr⟩
  | .nil, _ :: _, _, h => h.elim
  | .cons .., [], _, h => h.elim
theorem PCells.snoc {w : World} {P : Nat → Prop} {k : Nat} {b : Bool} {n : Int} {s x : ByteArray} {l : T} {ns : List ByteArray} {lv nv : Value} (hl : l.In w P lv) (hn : SIn w P ns nv) : ∀ (t : T) (xs : List ByteArray) (cs : List Value), PCells w P t xs cs →
    PCells w P (t.snoc ⟨k, b, n, s, l, ns⟩) (xs ++ [x]) (cs ++ [.string x, .int .u8 k, .bool b, .int .i64 n, .string s, lv, nv])
  | .nil, [], _, h => by
    rw [show _ = [] from h]
    exact ⟨lv, nv, [], rfl, hl, hn, rfl⟩
  | .cons _ _ _ _ _ _ r, _ :: xs, _, ⟨lv', nv', cs', he, hl', hn', hr⟩ => by
    subst he
    exact ⟨lv', nv', _, rfl, hl', hn', PCells.snoc hl hn r xs cs' hr⟩
  | .nil, _ :: _, _, h => h.elim
  | .cons .., [], _, h => h.elim
theorem PCells.at {w : World} {P : Nat → Prop} {g : Nat} (hg : P g) : ∀ (t : T) (xs : List ByteArray) (cs : List Value) (o : Nat), PCells w P t xs cs → (∀ j u, cs[j]? = some u → w.cell? ⟨g, o + j, none⟩ = some u) → PAt w P t xs g o
  | .nil, [], _, _, _, _ => trivial
  | .cons _ _ _ _ _ _ r, _ :: xs, _, o, ⟨lv, nv, cs', he, hl, hn, hr⟩, h => by
    subst he
    refine ⟨hg, h 0 _ rfl, h 1 _ rfl, h 2 _ rfl, h 3 _ rfl, h 4 _ rfl, ⟨lv, h 5 _ rfl, hl⟩, ⟨nv, h 6 _ rfl, hn⟩, PCells.at hg r xs cs' (o + 7) hr (fun j u hj => ?_)⟩
    rw [show o + 7 + j = o + (j + 7) by omega]
    exact h (j + 7) u (by simpa using hj)
  | .nil, _ :: _, _, _, h, _ => h.elim
  | .cons .., [], _, _, h, _ => h.elim
theorem PCells.len {w : World} {P : Nat → Prop} : ∀ (t : T) (xs : List ByteArray) (cs : List Value), PCells w P t xs cs → xs.length = t.length
  | .nil, [], _, _ => rfl
  | .cons _ _ _ _ _ _ r, _ :: xs, _, ⟨_, _, cs', _, _, _, hr⟩ => by
    have := PCells.len r xs cs' hr
    simp [T.length, this]
  | .nil, _ :: _, _, h => h.elim
  | .cons .., [], _, h => h.elim
/-- a row of the call's own that holds names with values reads so -/
theorem PCells.is {w : World} {B i : Nat} {E : TypeId} {t : T} {xs : List ByteArray} {cs : List Value} {v : Value} (h : w.ownsRow B E 7 v i cs) (hi : t.length = i) (hc : PCells w (fun b => b < w.heap.size) t xs cs) : PIn w (fun b => b < w.heap.size) t xs v := by
  have hlt := World.ownsRow.lt h
  have hcl := fun g (hg : v.ownBlock = some g) => World.ownsRow.cells h hg
  have hlen := PCells.len t xs cs hc
  rcases h.2 with ⟨rfl, h0⟩ | ⟨g, cap, cur, rfl, _, hgr, hcap, _⟩
  · have ht : t = .nil := by
      cases t with
      | nil => rfl
      | cons => simp [T.length] at hi; omega
    subst ht
    exact ⟨none, 0, by rw [hi, h0], hlen, fun hne => absurd rfl hne⟩
  · refine ⟨_, cap, by rw [hi], hlen, fun _ => ⟨g, 0, rfl, by omega, ?_⟩⟩
    refine PCells.at (P := fun b => b < w.heap.size) (hlt g rfl).2 t xs cs 0 hc (fun j u hj => ?_)
    have := hcl g rfl j u hj
    have e : (⟨g, 0, none⟩ : Addr).add j = ⟨g, j, none⟩ := by cases j <;> simp [Addr.add]
    rw [e] at this
    rw [Nat.zero_add]; exact this
theorem T.At.front {w : World} {P : Nat → Prop} : ∀ (a b : T) (g o : Nat), (a.app b).At w P g o → a.At w P g o
  | .nil, _, _, _, _ => trivial
  | .cons _ _ _ _ _ _ r, b, g, o, ⟨h, h0, h1, h2, h3, h4, h5, hr⟩ => ⟨h, h0, h1, h2, h3, h4, h5, T.At.front r b g (o + 6) hr⟩
/-- a list cut -/
theorem T.In.front {w : World} {P : Nat → Prop} {a b : T} {la : Option Addr} {len c : Nat} (h : (a.app b).In w P (.slice la len c)) : a.In w P (.slice la a.length c) := by
  rcases h with ⟨h, la', c', h1, h2⟩ | ⟨g, o, c', h1, h2, h3, h4⟩
  · cases a with
    | nil =>
      simp only [Value.slice.injEq] at h1
      obtain ⟨rfl, _, rfl⟩ := h1
      exact Or.inl ⟨rfl, _, _, rfl, h2⟩
    | cons => cases h
  · simp only [Value.slice.injEq] at h1
    obtain ⟨rfl, _, rfl⟩ := h1
    rw [T.app_length] at h2
    by_cases h0 : a.length = 0
    · cases a with
      | nil => exact Or.inl ⟨rfl, _, _, rfl, fun e => by cases e⟩
      | cons => simp [T.length] at h0
    · exact Or.inr ⟨g, o, _, rfl, by omega, by omega, T.At.front a b g o h4⟩
theorem T.small_front : ∀ (a b : T), (a.app b).small → a.small
  | .nil, _, _ => trivial
  | .cons _ _ _ _ _ _ r, b, h => ⟨h.1, T.small_front r b h.2⟩
theorem T.At.back {w : World} {P : Nat → Prop} : ∀ (a b : T) (g o : Nat), (a.app b).At w P g o → b.At w P g (o + a.length * 6)
  | .nil, b, g, o, h => by
    rw [show T.nil.length = 0 from rfl, Nat.zero_mul, Nat.add_zero]; exact h
  | .cons _ _ _ _ _ _ r, b, g, o, ⟨_, _, _, _, _, _, _, hr⟩ => by
    have := T.At.back r b g (o + 6) hr
    rw [T.length, show o + (r.length + 1) * 6 = o + 6 + r.length * 6 by omega]
    exact this
theorem T.At.own {w : World} {P : Nat → Prop} : ∀ {t : T} {g o : Nat}, t ≠ .nil → t.At w P g o → P g
  | .nil, _, _, h, _ => absurd rfl h
  | .cons .., _, _, _, h => h.1
end J
/-- the row of names and values that is made, the texts, what is still to come -/
structure MK (w2 : World) (P : Nat → Prop) (t1 t2 : J.T) (n1 : List ByteArray) (pv nv : Value) (cs : List Value) (g o : Nat) (W : World) : Prop where
  p : W.ownsRow w2.heap.size 42 7 pv t1.length cs
  c : J.PCells W P t1 n1 cs
  n : W.ownsRow w2.heap.size 9 1 nv n1.length (n1.map Value.string)
  t : t2 ≠ .nil → t2.At W P g o
  b : Below w2.heap.size w2 W
theorem MK.apart {w2 W : World} {P : Nat → Prop} {t1 t2 : J.T} {n1 : List ByteArray} {pv nv : Value} {cs : List Value} {g o : Nat} (h : MK w2 P t1 t2 n1 pv nv cs g o W) {k : Nat} (h1 : pv.ownBlock = some k) : nv.ownBlock ≠ some k := by
  intro h2
  rcases h.p.2 with ⟨rfl, _⟩ | ⟨g1, cap1, cur1, rfl, _, hg1, _⟩
  · cases h1
  · rcases h.n.2 with ⟨rfl, _⟩ | ⟨g2, cap2, cur2, rfl, _, hg2, _⟩
    · cases h2
    · simp only [Value.ownBlock, Option.some.injEq] at h1 h2
      subst h1 h2
      rw [hg1] at hg2
      simp at hg2
/-- one name with its value more -/
theorem MK.more {w2 W W1 W2 : World} {P : Nat → Prop} {k1 : Nat} {b1 : Bool} {v1 : Int} {s1 : ByteArray} {l1 : J.T} {ns1 : List ByteArray} {lv1 nv1 : Value} {t1 r : J.T} {n1 : List ByteArray} {nm : ByteArray} {pv nv : Value} {cs : List Value} {g o i g1 c1 g2 c2 : Nat} {O1 O2 : Obj}
    (h : MK w2 P t1 (.cons k1 b1 v1 s1 l1 ns1 r) n1 pv nv cs g o W) (hP : ∀ b, P b → b < w2.heap.size) (hi : t1.length = i) (hn : n1.length = i) (hl : l1.In W P lv1) (hnn : J.SIn W P ns1 nv1)
    (hg1 : (W.alloc O1).drew.grownBy W1 pv.ownBlock) (ho1 : W1.ownsRow w2.heap.size 42 7 (.slice (some ⟨g1, 0, none⟩) (i + 1) c1) (i + 1) (cs ++ [.string nm, .int .u8 k1, .bool b1, .int .i64 v1, .string s1, lv1, nv1])) (hat1 : pv.ownBlock = some g1 ∨ g1 = (W.alloc O1).drew.heap.size)
    (hg2 : (W1.alloc O2).grownBy W2 nv.ownBlock) (ho2 : W2.ownsRow w2.heap.size 9 1 (.slice (some ⟨g2, 0, none⟩) (i + 1) c2) (i + 1) (n1.map Value.string ++ [.string nm])) :
    MK w2 P (t1.snoc ⟨k1, b1, v1, s1, l1, ns1⟩) r (n1 ++ [nm]) (.slice (some ⟨g1, 0, none⟩) (i + 1) c1) (.slice (some ⟨g2, 0, none⟩) (i + 1) c2) (cs ++ [.string nm, .int .u8 k1, .bool b1, .int .i64 v1, .string s1, lv1, nv1]) g (o + 6) W2 := by
  have hlp := World.ownsRow.lt h.p
  have hln := World.ownsRow.lt h.n
  have hs := h.b.size
  have hs1 : W.heap.size + 1 ≤ W1.heap.size := by have := hg1.size; simpa using this
  have hs2 : W1.heap.size + 1 ≤ W2.heap.size := by have := hg2.size; simpa using this
  have hap : ∀ k, pv.ownBlock = some k → nv.ownBlock ≠ some k := fun k hk => h.apart hk
  have hk1 : ∀ b, b < W.heap.size → pv.ownBlock ≠ some b → W1.heap[b]? = W.heap[b]? := fun b hb hne => by
    rw [hg1.block b (by simp; omega) (fun e => hne e.symm)]
    exact Lib.alloc_old _ _ _ hb
  have hk2 : ∀ b, b < W1.heap.size → nv.ownBlock ≠ some b → W2.heap[b]? = W1.heap[b]? := fun b hb hne => by
    rw [hg2.block b (by simp; omega) (fun e => hne e.symm)]
    exact Lib.alloc_old _ _ _ hb
  have hlow : ∀ b, b < w2.heap.size → W2.heap[b]? = W.heap[b]? := fun b hb => by
    rw [hk2 b (by omega) (fun e => by have := (hln b e).1; omega), hk1 b (by omega) (fun e => by have := (hlp b e).1; omega)]
  have hlt1 := World.ownsRow.lt ho1 g1 rfl
  have hng1 : nv.ownBlock ≠ some g1 := fun e => by
    have hz : (W.alloc O1).drew.heap.size = W.heap.size + 1 := (by show (W.alloc O1).heap.size = _; simp)
    rcases hat1 with hat | hat
    · exact hap g1 hat e
    · have := (hln g1 e).2; omega
  refine ⟨?_, ?_, ?_, fun hne => J.T.At.keep (fun _ h => h) (fun b hb => hlow b (hP b hb)) _ _ _ (h.t (fun e => by cases e)).2.2.2.2.2.2.2, ?_⟩
  · rw [J.T.snoc_length, hi]
    refine World.ownsRow.kept (World.ownsRow.alloc ho1 O2) hg2 (Or.inr fun e => ?_)
    simp only [Value.ownBlock] at e
    exact hng1 e.symm
  · exact J.PCells.snoc (hl.keep (fun _ h => h) (fun b hb => hlow b (hP b hb))) (hnn.keep (fun _ h => h) (fun b hb => hlow b (hP b hb))) _ _ _ (J.PCells.keep (fun _ h => h) (fun b hb => hlow b (hP b hb)) _ _ _ h.c)
  · rw [List.length_append, List.map_append, hn]; exact ho2
  · refine ⟨?_, ?_, ?_, by omega, fun j hj => by rw [hlow j hj]; exact h.b.block j hj⟩
    · exact hg2.os.trans (hg1.os.trans h.b.os)
    · exact hg2.tape.trans (hg1.tape.trans h.b.tape)
    · exact hg2.output.trans (hg1.output.trans h.b.output)
/-- a block of cells that may be written, as long as so -/
def Spot (W : World) (g lim : Nat) : Prop := ∃ cs T, W.heap[g]? = some (.cells cs T (0, 0)) ∧ lim ≤ cs.size
theorem in_spot {w : World} {t : J.T} {P : Nat → Prop} {g o : Nat} (hne : t ≠ .nil) (h : t.At w P g o) {cs : Array Value} {T : TypeId} (hg : w.heap[g]? = some (.cells cs T (0, 0))) : Spot w g (o + t.length * 6) := by
  obtain ⟨ds, _, h2, _, h4⟩ := J.T.At.cells t g o h
  refine ⟨cs, T, hg, ?_⟩
  have hp := J.T.length_pos hne
  have h5 := h4 (t.length * 6 - 1) _ (List.getElem?_eq_getElem (by omega))
  rw [Lib.cell_of_heap hg] at h5
  have := (Array.getElem?_eq_some_iff.1 h5).1
  omega
theorem Spot.cell {W : World} {g lim : Nat} (h : Spot W g lim) (j : Nat) (hj : j < lim) : ∃ u, W.cell? ⟨g, j, none⟩ = some u := by
  obtain ⟨cs, T, h1, h2⟩ := h
  exact ⟨cs[j], by rw [Lib.cell_of_heap h1]; exact Array.getElem?_eq_getElem (by omega)⟩
theorem Spot.free {W : World} {g lim : Nat} (h : Spot W g lim) (j : Nat) : W.frozen? ⟨g, j, none⟩ = false := by
  obtain ⟨cs, T, h1, h2⟩ := h
  exact Lib.frozen_of_heap h1 j
theorem Spot.set {W : World} {g lim : Nat} (h : Spot W g lim) (j : Nat) (x : Value) : Spot (W.setCell ⟨g, j, none⟩ x) g lim := by
  obtain ⟨cs, T, h1, h2⟩ := h
  exact ⟨_, T, row_set h1 j x, by simpa using h2⟩
theorem Spot.six {W : World} {g lim : Nat} (h : Spot W g lim) (o : Nat) (c0 c1 c2 c3 c4 c5 : Value) : Spot (st6 W g o c0 c1 c2 c3 c4 c5) g lim := (((((h.set _ _).set _ _).set _ _).set _ _).set _ _).set _ _
theorem st6_grown (W : World) (g o : Nat) (c0 c1 c2 c3 c4 c5 : Value) : W.grownBy (st6 W g o c0 c1 c2 c3 c4 c5) (some g) :=
  (((((grownBy_set W g _ _).trans (grownBy_set _ g _ _)).trans (grownBy_set _ g _ _)).trans (grownBy_set _ g _ _)).trans (grownBy_set _ g _ _)).trans (grownBy_set _ g _ _)
abbrev st7 (w : World) (g o : Nat) (c0 c1 c2 c3 c4 c5 c6 : Value) : World := (st6 w g o c0 c1 c2 c3 c4 c5).setCell ⟨g, o + 6, none⟩ c6
theorem Spot.seven {W : World} {g lim : Nat} (h : Spot W g lim) (o : Nat) (c0 c1 c2 c3 c4 c5 c6 : Value) : Spot (st7 W g o c0 c1 c2 c3 c4 c5 c6) g lim := (h.six _ _ _ _ _ _ _).set _ _
theorem st7_grown (W : World) (g o : Nat) (c0 c1 c2 c3 c4 c5 c6 : Value) : W.grownBy (st7 W g o c0 c1 c2 c3 c4 c5 c6) (some g) := (st6_grown W g o _ _ _ _ _ _).trans (grownBy_set _ g _ _)
/-- what was made, in two boxes; what was handed in; the texts -/
structure MS (w : World) (P : Nat → Prop) (X : Nat) (t t1 : J.T) (n1 : List ByteArray) (lv wv : Value) (ca co : List Value) (W : World) : Prop where
  a : W.heap[X]? = some (.cells ca.toArray 25 (0, 0))
  o : W.heap[X + 1]? = some (.cells co.toArray 25 (0, 0))
  ha : (⟨5, false, 0, ⟨#[]⟩, t, []⟩ : J.V).Has W P ca
  ho : (⟨6, false, 0, ⟨#[]⟩, t1, n1⟩ : J.V).Has W P co
  l : t.In W P lv
  n : J.SIn W P n1 wv
  b : Below w.heap.size w W
theorem MS.keep {w W W' : World} {P : Nat → Prop} {X : Nat} {t t1 : J.T} {n1 : List ByteArray} {lv wv : Value} {ca co : List Value} (h : MS w P X t t1 n1 lv wv ca co W) (hP : ∀ b, P b → W'.heap[b]? = W.heap[b]?) (hX : W'.heap[X]? = W.heap[X]?) (hX1 : W'.heap[X + 1]? = W.heap[X + 1]?) (hb : Below w.heap.size w W') : MS w P X t t1 n1 lv wv ca co W' :=
  ⟨hX.trans h.a, hX1.trans h.o, h.ha.keep (fun _ h => h) hP, h.ho.keep (fun _ h => h) hP, h.l.keep (fun _ h => h) hP, h.n.keep (fun _ h => h) hP, hb⟩
theorem MS.after {w W W' : World} {P : Nat → Prop} {X : Nat} {t t1 : J.T} {n1 : List ByteArray} {lv wv : Value} {ca co : List Value} (h : MS w P X t t1 n1 lv wv ca co W) (hPX : ∀ b, P b → b < X) (hb : Below W.heap.size W W') : MS w P X t t1 n1 lv wv ca co W' :=
  h.keep (fun b hb' => hb.block b (Nat.lt_trans (hPX b hb') (Go.lt_of_block h.a))) (hb.block _ (Go.lt_of_block h.a)) (hb.block _ (Go.lt_of_block h.o)) (h.b.trans (hb.mono h.b.size))
/-- a block that is none of these is written -/
theorem MS.spoil {w W W' : World} {P : Nat → Prop} {X g : Nat} {t t1 : J.T} {n1 : List ByteArray} {lv wv : Value} {ca co : List Value} (h : MS w P X t t1 n1 lv wv ca co W) (hPX : ∀ b, P b → b < X ∧ b ≠ g) (hg : g < X ∧ w.heap.size ≤ g) (hb : W.grownBy W' (some g)) : MS w P X t t1 n1 lv wv ca co W' := by
  have hX := Go.lt_of_block h.a
  have hX1 := Go.lt_of_block h.o
  have hne : ∀ b, b ≠ g → some b ≠ some g := fun b h e => h (Option.some.inj e)
  have hs := hb.size
  refine h.keep (fun b hb' => hb.block b (by have := (hPX b hb').1; omega) (hne b (hPX b hb').2)) (hb.block _ hX (hne _ (by omega))) (hb.block _ hX1 (hne _ (by omega))) ?_
  exact ⟨hb.os.trans h.b.os, hb.tape.trans h.b.tape, hb.output.trans h.b.output, Nat.le_trans h.b.size hs, fun j hj => by rw [hb.block j (by have := h.b.size; omega) (hne j (by omega))]; exact h.b.block j hj⟩
theorem own_SIn2 {W : World} {B : Nat} {nv : Value} {ns : List ByteArray} (h4 : W.ownsRow B 9 1 nv ns.length (ns.map Value.string)) : J.SIn W (fun b => nv.ownBlock = some b) ns nv := by
  have hc := fun g (hg : nv.ownBlock = some g) => World.ownsRow.cells h4 hg
  rcases h4.2 with ⟨rfl, h0⟩ | ⟨g, cap, cur, rfl, _, hgr, hcap, _⟩
  · exact Or.inl ⟨List.eq_nil_of_length_eq_zero h0, none, 0, rfl, fun _ => rfl⟩
  · rcases Nat.eq_zero_or_pos ns.length with h0 | h0
    · exact Or.inl ⟨List.eq_nil_of_length_eq_zero h0, _, cap, by rw [h0], fun h => by cases h⟩
    · refine Or.inr ⟨h0, g, 0, cap, rfl, rfl, hcap, fun j x hj => ?_⟩
      have := hc g rfl j (.string x) (by rw [List.getElem?_map, hj]; rfl)
      have e : (⟨g, 0, none⟩ : Addr).add j = ⟨g, j, none⟩ := by cases j <;> simp [Addr.add]
      rw [e] at this
      rw [Nat.zero_add]; exact this
/-- a row of the call's own may be written -/
theorem own_spot {W : World} {B i sz : Nat} {E : TypeId} {v : Value} {cs : List Value} (h : W.ownsRow B E sz v i cs) (g : Nat) (hg : v.ownBlock = some g) : Spot W g (i * sz) := by
  rcases h.2 with ⟨rfl, h0⟩ | ⟨g', cap, cur, rfl, _, hgr, hcap, _, hsz, _⟩
  · cases hg
  · simp only [Value.ownBlock, Option.some.injEq] at hg
    subst hg
    exact ⟨cur, E, hgr, by rw [hsz]; exact Nat.mul_le_mul_right sz hcap⟩
theorem MS.first {w w2 wr w4 w5 w6 : World} {t t1 t2 : J.T} {n1 : List ByteArray} {pv wv lv : Value} {cs ca co : List Value} {g o X : Nat} {P : Nat → Prop} (hI : MK w2 P t1 t2 n1 pv wv cs g o wr) (hB : Below w.heap.size w w2) (hl : t.In w (fun b => b < w.heap.size) lv) (hgs : t ≠ .nil → w.heap.size ≤ g ∧ g < w2.heap.size)
    (hha : (⟨5, false, 0, ⟨#[]⟩, t, []⟩ : J.V).Has w4 (Own w4 wr.heap.size none) ca) (hb4 : Below wr.heap.size wr w4) (hho : (⟨6, false, 0, ⟨#[]⟩, t1, n1⟩ : J.V).Has w5 (Own w5 w4.heap.size none) co) (hb5 : Below w4.heap.size w4 w5)
    (hX : w5.heap.size = X) (hw6 : (w5.alloc (.cells ca.toArray 25)).alloc (.cells co.toArray 25) = w6) :
    MS w (fun b => b < X ∧ (t ≠ .nil → b ≠ g) ∧ pv.ownBlock ≠ some b) X t t1 n1 lv wv ca co w6 := by
  subst hX hw6
  have hlp := World.ownsRow.lt hI.p
  have hln := World.ownsRow.lt hI.n
  have s0 := hB.size
  have s1 := hI.b.size
  have s2 := hb4.size
  have s3 := hb5.size
  have k6 : ∀ b, b < w5.heap.size → ((w5.alloc (.cells ca.toArray 25)).alloc (.cells co.toArray 25)).heap[b]? = w5.heap[b]? := fun b hb => by
    rw [Lib.alloc_old _ _ _ (by simp; omega), Lib.alloc_old _ _ _ hb]
  have kr : ∀ b, b < wr.heap.size → w5.heap[b]? = wr.heap[b]? := fun b hb => by rw [hb5.block b (by omega), hb4.block b hb]
  have hbw : Below w.heap.size w w5 := ((hB.trans (hI.b.mono s0)).trans (hb4.mono (by omega))).trans (hb5.mono (by omega))
  refine ⟨?_, ?_, ?_, ?_, ?_, ?_, ?_⟩
  · rw [Lib.alloc_old _ _ _ (by simp)]; exact heap_alloc_new w5 _
  · have := heap_alloc_new (w5.alloc (.cells ca.toArray 25)) (.cells co.toArray 25)
    rw [show (w5.alloc (.cells ca.toArray 25)).heap.size = w5.heap.size + 1 by simp] at this
    exact this
  · refine hha.keep (fun b hb => ⟨by have := hb.2.1; omega, fun hne => ?_, fun e => ?_⟩) (fun b hb => by rw [k6 b (by have := hb.2.1; omega), hb5.block b hb.2.1])
    · have h1 := (hgs hne).2; have h2 := hb.1; omega
    · have h1 := (hlp b e).2; have h2 := hb.1; omega
  · refine hho.keep (fun b hb => ⟨hb.2.1, fun hne => ?_, fun e => ?_⟩) (fun b hb => k6 b hb.2.1)
    · have h1 := (hgs hne).2; have h2 := hb.1; omega
    · have h1 := (hlp b e).2; have h2 := hb.1; omega
  · refine hl.keep (fun b hb => ⟨by omega, fun hne => ?_, fun e => ?_⟩) (fun b hb => by rw [k6 b (by omega)]; exact hbw.block b hb)
    · have h1 := (hgs hne).1; omega
    · have h1 := (hlp b e).1; omega
  · refine (own_SIn2 hI.n).keep (fun b hb => ⟨by have := (hln b hb).2; omega, fun hne => ?_, fun e => hI.apart e hb⟩) (fun b hb => by have := (hln b hb).2; rw [k6 b (by omega), kr b this])
    have h1 := (hgs hne).2; have h2 := (hln b hb).1; omega
  · exact (hbw.alloc (by omega) _).alloc (by simp; omega) _
theorem Spot.after {W W' : World} {g lim : Nat} (h : Spot W g lim) (hb : Below W.heap.size W W') : Spot W' g lim := by
  obtain ⟨cs, T, h1, h2⟩ := h
  exact ⟨cs, T, by rw [hb.block g (Go.lt_of_block h1)]; exact h1, h2⟩
theorem Spot.other {W W' : World} {g lim b : Nat} (h : Spot W g lim) (hb : W.grownBy W' (some b)) (hne : g ≠ b) : Spot W' g lim := by
  obtain ⟨cs, T, h1, h2⟩ := h
  exact ⟨cs, T, by rw [hb.block g (Go.lt_of_block h1) (fun e => hne (Option.some.inj e))]; exact h1, h2⟩
/-- .. and the two rows that will be written over -/
structure MZ (w : World) (P : Nat → Prop) (X : Nat) (t t1 : J.T) (n1 : List ByteArray) (lv wv : Value) (ca co : List Value) (g lim : Nat) (ov : Option Nat) (lp : Nat) (W : World) : Prop where
  m : MS w P X t t1 n1 lv wv ca co W
  s : t ≠ .nil → Spot W g lim
  p : ∀ gp, ov = some gp → Spot W gp lp
theorem MZ.after {w W W' : World} {P : Nat → Prop} {X g lim lp : Nat} {t t1 : J.T} {n1 : List ByteArray} {lv wv : Value} {ca co : List Value} {ov : Option Nat} (h : MZ w P X t t1 n1 lv wv ca co g lim ov lp W) (hPX : ∀ b, P b → b < X) (hb : Below W.heap.size W W') : MZ w P X t t1 n1 lv wv ca co g lim ov lp W' :=
  ⟨h.m.after hPX hb, fun hne => (h.s hne).after hb, fun gp hp => (h.p gp hp).after hb⟩
theorem MZ.spoil {w W W' : World} {P : Nat → Prop} {X g lim lp b0 : Nat} {t t1 : J.T} {n1 : List ByteArray} {lv wv : Value} {ca co : List Value} {ov : Option Nat} (h : MZ w P X t t1 n1 lv wv ca co g lim ov lp W) (hPX : ∀ b, P b → b < X ∧ b ≠ b0) (hg : b0 < X ∧ w.heap.size ≤ b0) (hb : W.grownBy W' (some b0)) (hs : ∀ l, Spot W b0 l → Spot W' b0 l) : MZ w P X t t1 n1 lv wv ca co g lim ov lp W' := by
  refine ⟨h.m.spoil hPX hg hb, fun hne => ?_, fun gp hp => ?_⟩
  · by_cases e : g = b0
    · subst e; exact hs _ (h.s hne)
    · exact (h.s hne).other hb e
  · by_cases e : gp = b0
    · subst e; exact hs _ (h.p gp hp)
    · exact (h.p gp hp).other hb e
end Go.Proofs.YtphjfighamadgaaGreatDoor
