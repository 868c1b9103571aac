/- Binds handed in: opened. -/
import Derived.Test.YtohdifffdgoaaaaDoorRows
import Derived.Test.YtohdifffdgoaaaaDoorVArg
import Derived.Test.YtohdifffdgoaaaaDoorVBinds
import Derived.Test.YtohdifffdgoaaaaDoorVNums
import Derived.Deep.Slices
import Derived.Deep.Fields
import Derived.Carry
namespace Go.Proofs.YtohdifffdgoaaaaDoor
open Go.Joins Go.ChangeShapes Go.WideShapes Go.RowKit Go.Deep
open V
theorem laidOut : laidOutB Tryd.prog = true := by kernel_rfl
theorem cellsBind : Tryd.prog.cellsOf 43 = 5 := by kernel_rfl
def datumV {H : Type} (v : Val) : DataW H := .agg [.lit (.int .u8 v.k), .lit (.int .i64 v.n), .lit (.bool v.b), .lit (.string v.s.data.toList)]
def datumB {H : Type} (p : Bind) : DataW H := .agg [.lit (.string p.name.data.toList), datumV p.v]
theorem list_of {α : Type} (Q : Nat → α → Prop) : ∀ (n : Nat), (∀ i, i < n → ∃ x, Q i x) → ∃ l : List α, l.length = n ∧ ∀ i x, l[i]? = some x → Q i x
  | 0, _ => ⟨[], rfl, fun i x h => by simp at h⟩
  | n + 1, h => by
    obtain ⟨l, h1, h2⟩ := list_of Q n (fun i hi => h i (by omega))
    obtain ⟨y, hy⟩ := h n (by omega)
    refine ⟨l ++ [y], by simp [h1], fun i x hi => ?_⟩
    by_cases hl : i < l.length
    · rw [List.getElem?_append_left hl] at hi; exact h2 i x hi
    · rw [List.getElem?_append_right (by omega)] at hi
      have : i - l.length = 0 := by
        rcases Nat.eq_zero_or_pos (i - l.length) with e | e
        · exact e
        · rw [List.getElem?_eq_none (by simp; omega)] at hi; cases hi
      rw [this] at hi
      simp at hi
      subst hi
      rw [show i = n by omega]; exact hy
theorem rowB_at : ∀ (ps : List Bind) (j : Nat) (u : Value), (rowB ps)[j]? = some u → ∃ p, ps[j / 5]? = some p ∧ p.cells[j % 5]? = some u
  | [], j, u, h => by simp [rowB] at h
  | p :: r, j, u, h => by
    by_cases hj : j < 5
    · refine ⟨p, by rw [show j / 5 = 0 by omega]; rfl, ?_⟩
      rw [show j % 5 = j by omega]
      unfold rowB at h
      rw [List.getElem?_append_left (by simp [Bind.cells]; omega)] at h
      exact h
    · unfold rowB at h
      rw [List.getElem?_append_right (by simp [Bind.cells]; omega)] at h
      obtain ⟨q, h1, h2⟩ := rowB_at r (j - 5) u (by simpa [Bind.cells] using h)
      refine ⟨q, ?_, ?_⟩
      · rw [show j / 5 = (j - 5) / 5 + 1 by omega, List.getElem?_cons_succ]; exact h1
      · rw [show j % 5 = (j - 5) % 5 by omega]; exact h2
/-- what a bind handed in keeps -/
def V.Bind.may (b : Bind) : Prop := b.name.size ≤ maxLen ∧ In b.v.n ∧ b.v.s.size ≤ maxLen
section
variable {H : Type} {enc : TypeId × Value → H} {w : World} {base : Nat} {sp : Nat → Bool} {held : Bool}
set_option maxRecDepth 100000 in
theorem trod_bind {fuel : Nat} {c0 c1 c2 c3 c4 : Value} {y : DataW H × List MemPlace} (h : DataW.trod enc Tryd.prog w base sp held fuel 43 [c0, c1, c2, c3, c4] = some y) : ∃ b : Bind, b.may ∧ y = (datumB b, []) ∧ b.cells = [c0, c1, c2, c3, c4] := by
  obtain ⟨y0, y1, n, hy, _, t0, t1⟩ := trod_struct2 Tryd.underlying43 h
  have k0 : Tryd.prog.cellsOf 9 = 1 := by kernel_rfl
  have k1 : Tryd.prog.cellsOf 5 = 1 := by kernel_rfl
  have k2 : Tryd.prog.cellsOf 2 = 1 := by kernel_rfl
  have k3 : Tryd.prog.cellsOf 4 = 1 := by kernel_rfl
  obtain ⟨x0, e0, rfl, w0⟩ := DataW.trod_string Tryd.underlying9 t0
  obtain ⟨z0, z1, z2, z3, m, hz, _, u0, u1, u2, u3⟩ := trod_struct4 Tryd.underlying23 t1
  obtain ⟨a0, f0, rfl, v0⟩ := DataW.trod_int Tryd.underlying5 u0
  obtain ⟨a1, f1, rfl, v1⟩ := DataW.trod_int Tryd.underlying2 u1
  obtain ⟨a2, f2, rfl⟩ := DataW.trod_bool Tryd.underlying4 u2
  obtain ⟨a3, f3, rfl, v3⟩ := DataW.trod_string Tryd.underlying9 u3
  obtain ⟨k', rfl⟩ := Int.eq_ofNat_of_zero_le (bounds_u8 v0).1
  have g0 : c0 = .string x0 := by simpa [k0] using e0
  have g1 : c1 = .int .u8 k' := by simpa [k1, cellsValue] using f0
  have g2 : c2 = .int .i64 a1 := by simpa [k2, cellsValue] using f1
  have g3 : c3 = .bool a2 := by simpa [k3, cellsValue] using f2
  have g4 : c4 = .string a3 := by simpa [k0, cellsValue] using f3
  subst g0 g1 g2 g3 g4
  subst hz
  exact ⟨⟨x0, ⟨k', a1, a2, a3⟩⟩, ⟨w0, bounds_i64 v1, v3⟩, hy, rfl⟩
set_option maxRecDepth 100000 in
theorem open_binds {r : Reach} {b0 : Nat} {v : Value} {d : DataW H} {p : List MemPlace} (hv : Value.okWide Tryd.prog w r b0 33 v) (h : DataW.Trod enc Tryd.prog w base sp held 33 v d p) :
    ∃ ps : List Bind, BIn w ps v ∧ (∀ q ∈ ps, q.may) ∧ ((d = .nil ∧ ps = []) ∨ ∃ spare, d = .slice (ps.map datumB) spare) := by
  obtain ⟨xa, n, c, rfl⟩ := okWide_slice Tryd.underlying33 hv
  obtain ⟨fuel, hf⟩ := h
  rcases open_slice Tryd.underlying33 hf with ⟨hcs, hx⟩ | ⟨a, len, cap, m, n', D, Pl, hcs, hb, hl, hm, hmm, hx, hi⟩
  · simp only [Value.cells, List.cons.injEq, Value.slice.injEq, and_true] at hcs
    obtain ⟨rfl, rfl, rfl⟩ := hcs
    simp only [Prod.mk.injEq] at hx
    exact ⟨[], Or.inl ⟨rfl, none, 0, rfl, fun _ => rfl⟩, by simp, Or.inl ⟨hx.1, rfl⟩⟩
  · simp only [Value.cells, List.cons.injEq, Value.slice.injEq, and_true] at hcs
    obtain ⟨rfl, rfl, rfl⟩ := hcs
    simp only [Prod.mk.injEq] at hx
    have hlm : n ≤ m := by rw [hmm]; split <;> omega
    obtain ⟨ps, h1, h2⟩ := list_of (fun i (q : Bind) => q.may ∧ D i = datumB q ∧ ∀ j u, q.cells[j]? = some u → w.cell? (a.add (i * 5 + j)) = some u) n (fun i hin => by
      obtain ⟨cs', hc, ht⟩ := hi i (by omega)
      rw [cellsBind] at hc
      obtain ⟨_, hlen, hat⟩ := World.cells?_some hc
      match cs', hlen with
      | [c0, c1, c2, c3, c4], _ =>
        obtain ⟨b, hbm, hy, hbc⟩ := trod_bind ht
        simp only [Prod.mk.injEq] at hy
        refine ⟨b, hbm, hy.1, fun j u hj => ?_⟩
        rw [hbc] at hj
        have hj3 : j < 5 := by
          have := (List.getElem?_eq_some_iff.1 hj).1
          simpa using this
        rw [← Go.Deep.add_add, hat j hj3]
        exact hj)
    refine ⟨ps, ?_, ?_, Or.inr ⟨(List.range (m - n)).map fun j => D (n + j), ?_⟩⟩
    · subst h1
      rcases Nat.eq_zero_or_pos ps.length with h0 | h0
      · rw [h0]
        exact Or.inl ⟨List.eq_nil_of_length_eq_zero h0, _, c, rfl, fun h => by cases h⟩
      · obtain ⟨b, o, spot⟩ := a
        have hcell : ∀ j u, (rowB ps)[j]? = some u → w.cell? ((⟨b, o, spot⟩ : Addr).add j) = some u := fun j u hj => by
          obtain ⟨q, g1, g2⟩ := rowB_at ps j u hj
          have := (h2 _ q g1).2.2 _ u g2
          rw [show j / 5 * 5 + j % 5 = j by omega] at this
          exact this
        have hspot : spot = none := by
          obtain ⟨d0, _⟩ := rowB_get ps 0 h0
          have := hcell 0 _ (by simpa using d0)
          simpa [Addr.add] using World.cell?_spot this
        subst hspot
        refine Or.inr ⟨h0, b, o, c, rfl, hl, fun j u hj => ?_⟩
        have := hcell j u hj
        have e : (⟨b, o, none⟩ : Addr).add j = ⟨b, o + j, none⟩ := by cases j <;> simp [Addr.add]
        rw [e] at this; exact this
    · intro q hq
      obtain ⟨i, hi', rfl⟩ := List.mem_iff_getElem.1 hq
      exact (h2 i _ (List.getElem?_eq_getElem hi')).1
    · rw [hx.1]
      congr 1
      refine List.ext_getElem (by simp [h1]) fun i h3 h4 => ?_
      simp only [List.getElem_map, List.getElem_range]
      exact (h2 i _ (List.getElem?_eq_getElem (by simpa using h4))).2.1
end
theorem bytesBind : Tryd.prog.bytesOf 43 = 56 := by kernel_rfl
theorem sized_binds {H : Type} {ts : List TypeId} {ds : List (DataW H)} (h : (DataW.weightsEach Tryd.prog ts ds).all (· ≤ reachBytes) = true) {j : Nat} {d : DataW H} {ps : List Bind} (ht : ts[j]? = some 33) (hd : ds[j]? = some d)
    (hp : (d = .nil ∧ ps = []) ∨ ∃ spare, d = .slice (ps.map datumB) spare) : ps.length * 56 ≤ 140737488351232 := by
  rcases hp with ⟨_, rfl⟩ | ⟨spare, rfl⟩
  · simp
  · have := sized_slice h ht hd Tryd.underlying33
    rw [bytesBind, List.length_map] at this
    have e : reachBytes = 140737488351232 := by decide
    rw [e, Nat.add_mul] at this
    omega
theorem bulk_mapB {H : Type} : ∀ (ps : List Bind), ps.length ≤ Rows.uptoBulkAll (ps.map (datumB (H := H)))
  | [] => Nat.zero_le _
  | p :: r => by
    have := bulk_mapB (H := H) r
    simp only [List.map_cons, Rows.uptoBulkAll, datumB, Rows.uptoBulk, List.length_cons]
    omega
theorem bulk_binds {H : Type} {ps : List Bind} {d : DataW H} (h : (d = .nil ∧ ps = []) ∨ ∃ spare, d = .slice (ps.map datumB) spare) : ps.length ≤ Rows.uptoBulk d := by
  rcases h with ⟨rfl, rfl⟩ | ⟨spare, rfl⟩
  · exact Nat.zero_le _
  · have := bulk_mapB (H := H) ps
    simp only [Rows.uptoBulk]; omega
end Go.Proofs.YtohdifffdgoaaaaDoor
