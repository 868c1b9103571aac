/- Keys handed in: opened. -/
import Derived.Test.YtfadnhihcobclaaDoorRows
import Derived.Test.YtfadnhihcobclaaDoorKPlainO
import Derived.Lib.SmallJoins
import Derived.Deep.Slices
import Derived.Deep.Fields
import Derived.SizedLaws
import Derived.OpenShut
import Derived.ProofKit
namespace Go.Proofs.YtfadnhihcobclaaDoor
open Go.Joins Go.ChangeShapes Go.WideShapes Go.RowKit Go.Deep
open K
theorem cellsRefPart : Tryd.prog.cellsOf 70 = 3 := by kernel_rfl
def datum {H : Type} (p : Part) : DataW H := .agg [.lit (.bool p.text), .lit (.int .i64 p.n), .lit (.string p.say.data.toList)]
theorem list_of {α : Type} (Q : Nat → α → Prop) : ∀ (n : Nat), (∀ i, i < n → ∃ x, Q i x) → ∃ l : List α, l.length = n ∧ ∀ i x, l[i]? = some x → Q i x
  | 0, _ => ⟨[], rfl, fun i x h => by simp at h⟩
  | n + 1, h => by
    obtain ⟨l, h1, h2⟩ := list_of Q n (fun i hi => h i (by omega))
    obtain ⟨y, hy⟩ := h n (by omega)
    refine ⟨l ++ [y], by simp [h1], fun i x hi => ?_⟩
    by_cases hl : i < l.length
    · rw [List.getElem?_append_left hl] at hi; exact h2 i x hi
    · rw [List.getElem?_append_right (by omega)] at hi
      have : i - l.length = 0 := by
        rcases Nat.eq_zero_or_pos (i - l.length) with e | e
        · exact e
        · rw [List.getElem?_eq_none (by simp; omega)] at hi; cases hi
      rw [this] at hi
      simp at hi
      subst hi
      rw [show i = n by omega]; exact hy
theorem rowOf_at : ∀ (ps : List Part) (j : Nat) (u : Value), (rowOf ps)[j]? = some u → ∃ p, ps[j / 3]? = some p ∧ p.cells[j % 3]? = some u
  | [], j, u, h => by simp [rowOf] at h
  | p :: r, j, u, h => by
    by_cases hj : j < 3
    · refine ⟨p, by rw [show j / 3 = 0 by omega]; rfl, ?_⟩
      rw [show j % 3 = j by omega]
      unfold rowOf at h
      rw [List.getElem?_append_left (by simp [Part.cells]; omega)] at h
      exact h
    · unfold rowOf at h
      rw [List.getElem?_append_right (by simp [Part.cells]; omega)] at h
      obtain ⟨q, h1, h2⟩ := rowOf_at r (j - 3) u (by simpa [Part.cells] using h)
      refine ⟨q, ?_, ?_⟩
      · rw [show j / 3 = (j - 3) / 3 + 1 by omega, List.getElem?_cons_succ]; exact h1
      · rw [show j % 3 = (j - 3) % 3 by omega]; exact h2
section
variable {H : Type} {enc : TypeId × Value → H} {w : World} {base : Nat} {sp : Nat → Bool} {held : Bool}
set_option maxRecDepth 100000 in
theorem open_parts {r : Reach} {b0 : Nat} {v : Value} {d : DataW H} {p : List MemPlace} (hv : Value.okWide Tryd.prog w r b0 35 v) (h : DataW.Trod enc Tryd.prog w base sp held 35 v d p) :
    ∃ ps : List Part, PIn w ps v ∧ (∀ q ∈ ps, q.may) ∧ ((d = .nil ∧ ps = []) ∨ ∃ spare, d = .slice (ps.map datum) spare) := by
  obtain ⟨xa, n, c, rfl⟩ := okWide_slice Tryd.underlying35 hv
  obtain ⟨fuel, hf⟩ := h
  rcases open_slice Tryd.underlying35 hf with ⟨hcs, hx⟩ | ⟨a, len, cap, m, n', D, Pl, hcs, hb, hl, hm, hmm, hx, hi⟩
  · simp only [Value.cells, List.cons.injEq, Value.slice.injEq, and_true] at hcs
    obtain ⟨rfl, rfl, rfl⟩ := hcs
    simp only [Prod.mk.injEq] at hx
    exact ⟨[], Or.inl ⟨rfl, none, 0, rfl, fun _ => rfl⟩, by simp, Or.inl ⟨hx.1, rfl⟩⟩
  · simp only [Value.cells, List.cons.injEq, Value.slice.injEq, and_true] at hcs
    obtain ⟨rfl, rfl, rfl⟩ := hcs
    simp only [Prod.mk.injEq] at hx
    have hlm : n ≤ m := by rw [hmm]; split <;> omega
    obtain ⟨ps, h1, h2⟩ := list_of (fun i (q : Part) => q.may ∧ D i = datum q ∧ ∀ j u, q.cells[j]? = some u → w.cell? (a.add (i * 3 + j)) = some u) n (fun i hin => by
      obtain ⟨cs', hc, ht⟩ := hi i (by omega)
      rw [cellsRefPart] at hc
      obtain ⟨_, hlen, hat⟩ := World.cells?_some hc
      match cs', hlen with
      | [c0, c1, c2], _ =>
        obtain ⟨y0, y1, y2, n2, hy, _, t0, t1, t2⟩ := trod_struct3 Tryd.underlying70 ht
        have k0 : Tryd.prog.cellsOf 4 = 1 := by kernel_rfl
        have k1 : Tryd.prog.cellsOf 2 = 1 := by kernel_rfl
        have k2 : Tryd.prog.cellsOf 9 = 1 := by kernel_rfl
        obtain ⟨x0, e0, rfl⟩ := DataW.trod_bool Tryd.underlying4 t0
        obtain ⟨x1, e1, rfl, w1⟩ := DataW.trod_int Tryd.underlying2 t1
        obtain ⟨x2, e2, rfl, w2⟩ := DataW.trod_string Tryd.underlying9 t2
        simp only [Prod.mk.injEq] at hy
        have f0 : c0 = .bool x0 := by simpa [k0] using e0
        have f1 : c1 = .int .i64 x1 := by simpa [k1] using e1
        have f2 : c2 = .string x2 := by simpa [k2] using e2
        subst f0 f1 f2
        refine ⟨⟨x0, x1, x2⟩, bounds_i64 w1, hy.1, fun j u hj => ?_⟩
        have hj3 : j < 3 := by
          have := (List.getElem?_eq_some_iff.1 hj).1
          simpa [Part.cells] using this
        rw [← Go.Deep.add_add, hat j hj3]
        exact hj)
    refine ⟨ps, ?_, ?_, Or.inr ⟨(List.range (m - n)).map fun j => D (n + j), ?_⟩⟩
    · subst h1
      rcases Nat.eq_zero_or_pos ps.length with h0 | h0
      · rw [h0]
        exact Or.inl ⟨List.eq_nil_of_length_eq_zero h0, _, c, rfl, fun h => by cases h⟩
      · obtain ⟨b, o, spot⟩ := a
        have hcell : ∀ j u, (rowOf ps)[j]? = some u → w.cell? ((⟨b, o, spot⟩ : Addr).add j) = some u := fun j u hj => by
          obtain ⟨q, g1, g2⟩ := rowOf_at ps j u hj
          have := (h2 _ q g1).2.2 _ u g2
          rw [show j / 3 * 3 + j % 3 = j by omega] at this
          exact this
        have hspot : spot = none := by
          obtain ⟨d0, _, _⟩ := rowOf_get ps 0 h0
          have := hcell 0 _ (by simpa using d0)
          simpa [Addr.add] using World.cell?_spot this
        subst hspot
        refine Or.inr ⟨h0, b, o, c, rfl, hl, fun j u hj => ?_⟩
        have := hcell j u hj
        have e : (⟨b, o, none⟩ : Addr).add j = ⟨b, o + j, none⟩ := by cases j <;> simp [Addr.add]
        rw [e] at this; exact this
    · intro q hq
      obtain ⟨i, hi', rfl⟩ := List.mem_iff_getElem.1 hq
      exact (h2 i _ (List.getElem?_eq_getElem hi')).1
    · rw [hx.1]
      congr 1
      refine List.ext_getElem (by simp [h1]) fun i h3 h4 => ?_
      simp only [List.getElem_map, List.getElem_range]
      exact (h2 i _ (List.getElem?_eq_getElem (by simpa using h4))).2.1
end
/-- the letters of a key's texts -/
def K.letters : List Part → Nat
  | [] => 0
  | p :: r => p.say.size + letters r
theorem K.letters_mem : ∀ (ps : List Part) (p : Part), p ∈ ps → p.say.size ≤ letters ps
  | q :: r, p, h => by
    rcases List.mem_cons.1 h with rfl | h
    · unfold letters; omega
    · have := letters_mem r p h
      unfold letters; omega
theorem bulk_map {H : Type} : ∀ (ps : List Part), letters ps ≤ Rows.uptoBulkAll (ps.map (datum (H := H)))
  | [] => Nat.zero_le _
  | p :: r => by
    have := bulk_map (H := H) r
    have e : p.say.data.toList.length = p.say.size := Array.length_toList
    simp only [List.map_cons, Rows.uptoBulkAll, letters, datum, Rows.uptoBulk, e]
    omega
theorem bulk_parts {H : Type} {ps : List Part} {d : DataW H} (h : (d = .nil ∧ ps = []) ∨ ∃ spare, d = .slice (ps.map datum) spare) : letters ps ≤ Rows.uptoBulk d := by
  rcases h with ⟨rfl, rfl⟩ | ⟨spare, rfl⟩
  · exact Nat.zero_le _
  · have := bulk_map (H := H) ps
    simp only [Rows.uptoBulk]; omega
theorem K.packL_length : ∀ (ps : List Part), (packL ps).length ≤ 2 * letters ps + 9 * ps.length
  | [] => by simp [packL]
  | p :: r => by
    have ih := packL_length r
    have hb : p.bytes.length ≤ 2 * p.say.size + 9 := by
      unfold Part.bytes
      split
      · rw [esc_eq]
        have := escL_length p.say.data.toList
        have e : p.say.data.toList.length = p.say.size := Array.length_toList
        simp; omega
      · simp [beN_length]
    simp only [packL, List.length_append, letters, List.length_cons]
    omega
end Go.Proofs.YtfadnhihcobclaaDoor
