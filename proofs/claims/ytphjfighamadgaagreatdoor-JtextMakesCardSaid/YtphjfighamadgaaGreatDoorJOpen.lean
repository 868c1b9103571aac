/- JSON values handed in: opened. -/
import Derived.Test.YtphjfighamadgaaGreatDoorRows
import Derived.Test.YtphjfighamadgaaGreatDoorJRTwin
import Derived.Test.YtphjfighamadgaaGreatDoorJSize
import Derived.Test.YtphjfighamadgaaGreatDoorJA9
import Derived.Deep.Slices
import Derived.Deep.Fields
import Derived.Lib.SmallJoins
import Derived.Carry
namespace Go.Proofs.YtphjfighamadgaaGreatDoor
open Go.Joins Go.ChangeShapes Go.WideShapes Go.RowKit Go.Deep
section
variable {H : Type} {enc : TypeId × Value → H} {P : Program} {w : World} {base : Nat} {sp : Nat → Bool} {held : Bool}
theorem trod_struct6 {t : TypeId} {f0 f1 f2 f3 f4 f5 : Field} {fuel : Nat} {cs : List Value} {x : DataW H × List MemPlace} (ht : P.underlying t = some (.struct #[f0, f1, f2, f3, f4, f5])) (h : DataW.trod enc P w base sp held fuel t cs = some x) :
    ∃ y0 y1 y2 y3 y4 y5 n, fuel = n + 1 ∧ cs.length = P.cellsOf t ∧ DataW.trod enc P w base sp held n f0.type ((cs.drop f0.offset).take (P.cellsOf f0.type)) = some y0 ∧
      DataW.trod enc P w base sp held n f1.type ((cs.drop f1.offset).take (P.cellsOf f1.type)) = some y1 ∧ DataW.trod enc P w base sp held n f2.type ((cs.drop f2.offset).take (P.cellsOf f2.type)) = some y2 ∧
      DataW.trod enc P w base sp held n f3.type ((cs.drop f3.offset).take (P.cellsOf f3.type)) = some y3 ∧ DataW.trod enc P w base sp held n f4.type ((cs.drop f4.offset).take (P.cellsOf f4.type)) = some y4 ∧
      DataW.trod enc P w base sp held n f5.type ((cs.drop f5.offset).take (P.cellsOf f5.type)) = some y5 := by
  obtain ⟨xs, n, hn, rfl, hl, hlen, hf⟩ := DataW.trod_struct ht h
  match xs, hlen with
  | [y0, y1, y2, y3, y4, y5], _ => exact ⟨y0, y1, y2, y3, y4, y5, n, hn, hl, by simpa using hf 0 f0 rfl, by simpa using hf 1 f1 rfl, by simpa using hf 2 f2 rfl, by simpa using hf 3 f3 rfl, by simpa using hf 4 f4 rfl, by simpa using hf 5 f5 rfl⟩
end
namespace J
def T.ofV : List V → T
  | [] => .nil
  | x :: r => .cons x.k x.b x.n x.s x.l x.ns (T.ofV r)
theorem T.ofV_len : ∀ (l : List V), (T.ofV l).length = l.length
  | [] => rfl
  | _ :: r => by simp only [T.ofV, T.length, T.ofV_len r, List.length_cons]
/-- one value's cells from this place on -/
def V.At (w : World) (P : Nat → Prop) (x : V) (g o : Nat) : Prop := P g ∧ ∃ lv nv, (∀ j u, [Value.int .u8 x.k, .bool x.b, .int .i64 x.n, .string x.s, lv, nv][j]? = some u → w.cell? ⟨g, o + j, none⟩ = some u) ∧ x.l.In w P lv ∧ SIn w P x.ns nv
theorem T.at_ofV {w : World} {P : Nat → Prop} {g : Nat} : ∀ (l : List V) (o : Nat), (∀ (i : Nat) (x : V), l[i]? = some x → x.At w P g (o + i * 6)) → (T.ofV l).At w P g o
  | [], _, _ => trivial
  | x :: r, o, h => by
    obtain ⟨hg, lv, nv, hc, hl, hn⟩ := h 0 x rfl
    rw [Nat.zero_mul, Nat.add_zero] at hc
    refine ⟨hg, hc 0 _ rfl, hc 1 _ rfl, hc 2 _ rfl, hc 3 _ rfl, ⟨lv, hc 4 _ rfl, ?_⟩, ⟨nv, hc 5 _ rfl, hn⟩, T.at_ofV r (o + 6) (fun i y hy => by rw [show o + 6 + i * 6 = o + (i + 1) * 6 by omega]; exact h (i + 1) y hy)⟩
    rcases hl with hl | ⟨g', o', c, h6, h7, h8, h9⟩
    · exact Or.inl hl
    · exact Or.inr ⟨g', o', c, h6, h7, h8, h9⟩
theorem T.ofV_wide : ∀ (l : List V), (∀ x ∈ l, x.wide) → (T.ofV l).wide
  | [], _ => trivial
  | x :: r, h => ⟨h x (by simp), T.ofV_wide r (fun y hy => h y (by simp [hy]))⟩
theorem list6 {α : Type} {l : List α} (h : l.length = 6) : ∃ c0 c1 c2 c3 c4 c5, l = [c0, c1, c2, c3, c4, c5] := by
  match l, h with
  | [c0, c1, c2, c3, c4, c5], _ => exact ⟨c0, c1, c2, c3, c4, c5, rfl⟩
theorem list_ofJ {α : Type} (Q : Nat → α → Prop) : ∀ (n : Nat), (∀ i, i < n → ∃ x, Q i x) → ∃ l : List α, l.length = n ∧ ∀ i x, l[i]? = some x → Q i x
  | 0, _ => ⟨[], rfl, fun i x h => by simp at h⟩
  | n + 1, h => by
    obtain ⟨l, h1, h2⟩ := list_ofJ Q n (fun i hi => h i (by omega))
    obtain ⟨y, hy⟩ := h n (by omega)
    refine ⟨l ++ [y], by simp [h1], fun i x hi => ?_⟩
    by_cases hl : i < l.length
    · rw [List.getElem?_append_left hl] at hi; exact h2 i x hi
    · rw [List.getElem?_append_right (by omega)] at hi
      have : i - l.length = 0 := by
        rcases Nat.eq_zero_or_pos (i - l.length) with e | e
        · exact e
        · rw [List.getElem?_eq_none (by simp; omega)] at hi; cases hi
      rw [this] at hi
      simp at hi
      subst hi
      rw [show i = n by omega]; exact hy
end J
theorem laidOut : laidOutB Tryz.prog = true := by kernel_rfl
theorem cellsJSON : Tryz.prog.cellsOf 25 = 6 := by kernel_rfl
theorem cellsStr : Tryz.prog.cellsOf 9 = 1 := by kernel_rfl
section
variable {H : Type} {enc : TypeId × Value → H} {w : World} {base : Nat} {sp : Nat → Bool} {held : Bool}
theorem addr_add (g o j : Nat) : (⟨g, o, none⟩ : Addr).add j = ⟨g, o + j, none⟩ := by cases j <;> simp [Addr.add]
/-- texts handed in -/
theorem trod_texts {fuel : Nat} {cs : List Value} {y : DataW H × List MemPlace} (h : DataW.trod enc Tryz.prog w base sp held fuel 23 cs = some y) :
    ∃ (ns : List ByteArray) (v : Value), cs = [v] ∧ J.SIn w (fun b => b < w.heap.size) ns v ∧ ns.length ≤ 9223372036854775807 := by
  rcases DataW.trod_slice Tryz.underlying23 h with ⟨rfl, _⟩ | ⟨a, len, cap, elems, rest, n, _, rfl, _, _, hl, hm, he, hi, _⟩
  · exact ⟨[], _, rfl, Or.inl ⟨rfl, none, 0, rfl, fun _ => rfl⟩, by simp⟩
  · have hml : len ≤ 9223372036854775807 := by have : maxLen = 9223372036854775807 := rfl; omega
    obtain ⟨ns, h1, h2⟩ := J.list_ofJ (fun i (s : ByteArray) => w.cell? (a.add i) = some (.string s)) len (fun i hin => by
      have hx := hi i hin
      rw [List.getElem?_eq_getElem (by omega), cellsStr] at hx
      obtain ⟨cs', hc, ht⟩ := Option.bind_eq_some_iff.1 hx
      obtain ⟨_, hlen, hat⟩ := World.cells?_some hc
      obtain ⟨s, rfl, _, _⟩ := DataW.trod_string Tryz.underlying9 ht
      have := hat 0 (by omega)
      rw [Nat.mul_one] at this
      exact ⟨s, by simpa [Addr.add] using this⟩)
    refine ⟨ns, _, rfl, ?_, by omega⟩
    subst h1
    rcases Nat.eq_zero_or_pos ns.length with h0 | h0
    · rw [h0]
      exact Or.inl ⟨List.eq_nil_of_length_eq_zero h0, _, cap, rfl, fun h => by cases h⟩
    · obtain ⟨g, o, spot⟩ := a
      have hc0 := h2 0 _ (List.getElem?_eq_getElem h0)
      have hspot : spot = none := by simpa [Addr.add] using World.cell?_spot hc0
      subst hspot
      refine Or.inr ⟨h0, g, o, cap, rfl, ?_, hl, fun j x hj => ?_⟩
      · exact Lib.lt_of_cell hc0
      · have := h2 j x hj
        rw [addr_add] at this
        exact this
set_option maxRecDepth 100000 in
/-- values handed in -/
theorem trod_vals : ∀ (fuel : Nat) (cs : List Value) (y : DataW H × List MemPlace), DataW.trod enc Tryz.prog w base sp held fuel 22 cs = some y →
    ∃ (t : J.T) (v : Value), cs = [v] ∧ t.In w (fun b => b < w.heap.size) v ∧ t.wide ∧ t.length ≤ 9223372036854775807 := by
  intro fuel
  induction fuel using Nat.strongRecOn with
  | ind fuel ih =>
    intro cs y h
    rcases DataW.trod_slice Tryz.underlying22 h with ⟨rfl, _⟩ | ⟨a, len, cap, elems, rest, n, hfu, rfl, _, _, hl, hm, he, hi, _⟩
    · exact ⟨.nil, _, rfl, Or.inl ⟨rfl, none, 0, rfl, fun _ => rfl⟩, trivial, by simp [J.T.length]⟩
    · have hml : len ≤ 9223372036854775807 := by have : maxLen = 9223372036854775807 := rfl; omega
      obtain ⟨vs, h1, h2⟩ := J.list_ofJ (fun i (x : J.V) => x.wide ∧ ∃ lv nv, (∀ j u, [Value.int .u8 x.k, .bool x.b, .int .i64 x.n, .string x.s, lv, nv][j]? = some u → w.cell? (a.add (i * 6 + j)) = some u) ∧ x.l.In w (fun b => b < w.heap.size) lv ∧ J.SIn w (fun b => b < w.heap.size) x.ns nv) len (fun i hin => by
        have hx := hi i hin
        rw [List.getElem?_eq_getElem (by omega), cellsJSON] at hx
        obtain ⟨cs', hc, ht⟩ := Option.bind_eq_some_iff.1 hx
        obtain ⟨_, hlen, hat⟩ := World.cells?_some hc
        obtain ⟨y0, y1, y2, y3, y4, y5, m, hm', _, t0, t1, t2, t3, t4, t5⟩ := trod_struct6 Tryz.underlying25 ht
        obtain ⟨c0, c1, c2, c3, c4, c5, rfl⟩ := J.list6 hlen
        · obtain ⟨k, e0, _, wk⟩ := DataW.trod_int Tryz.underlying5 t0
          obtain ⟨b, e1, _⟩ := DataW.trod_bool Tryz.underlying4 t1
          obtain ⟨q, e2, _, _⟩ := DataW.trod_int Tryz.underlying2 t2
          obtain ⟨s, e3, _, _⟩ := DataW.trod_string Tryz.underlying9 t3
          obtain ⟨tt, lv, e4, hl4, hw4, hn4⟩ := ih m (by omega) _ _ t4
          obtain ⟨ns, nv, e5, hn5, hs5⟩ := trod_texts t5
          have k0 := bounds_u8 wk
          have E : [c0, c1, c2, c3, c4, c5] = [.int .u8 ((k.toNat : Nat) : Int), .bool b, .int .i64 q, .string s, lv, nv] := by
            have k1 : Tryz.prog.cellsOf 5 = 1 := by kernel_rfl
            have k2 : Tryz.prog.cellsOf 4 = 1 := by kernel_rfl
            have k3 : Tryz.prog.cellsOf 2 = 1 := by kernel_rfl
            have k4 : Tryz.prog.cellsOf 22 = 1 := by kernel_rfl
            have k5 : Tryz.prog.cellsOf 23 = 1 := by kernel_rfl
            simp only [k1, k2, k3, k4, k5, cellsStr, List.drop_zero, List.drop_succ_cons, List.take_succ_cons, List.take_zero, List.cons.injEq, and_true] at e0 e1 e2 e3 e4 e5
            subst e0 e1 e2 e3 e4 e5
            rw [Int.toNat_of_nonneg k0.1]
          refine ⟨⟨k.toNat, b, q, s, tt, ns⟩, ⟨hn4, hs5, hw4⟩, lv, nv, fun j u hj => ?_, hl4, hn5⟩
          rw [← E] at hj
          have hj6 : j < 6 := (List.getElem?_eq_some_iff.1 hj).1
          rw [← Go.Deep.add_add, hat j hj6]
          exact hj)
      subst h1
      refine ⟨J.T.ofV vs, _, rfl, ?_, J.T.ofV_wide _ (fun x hx => by obtain ⟨i, hi', rfl⟩ := List.mem_iff_getElem.1 hx; exact (h2 i _ (List.getElem?_eq_getElem hi')).1), by rw [J.T.ofV_len]; exact hml⟩
      rcases Nat.eq_zero_or_pos vs.length with h0 | h0
      · rw [h0]
        exact Or.inl ⟨by rw [List.eq_nil_of_length_eq_zero h0]; rfl, _, cap, rfl, fun h => by cases h⟩
      · obtain ⟨g, o, spot⟩ := a
        obtain ⟨_, lv0, nv0, hc0, _⟩ := h2 0 _ (List.getElem?_eq_getElem h0)
        have hc0 := hc0 0 _ rfl
        have hspot : spot = none := by simpa [Addr.add] using World.cell?_spot hc0
        subst hspot
        refine Or.inr ⟨g, o, cap, by rw [J.T.ofV_len], by rw [J.T.ofV_len]; exact hl, by rw [J.T.ofV_len]; exact h0, J.T.at_ofV vs o (fun i x hx => ?_)⟩
        obtain ⟨_, lv, nv, hcc, g1, g2⟩ := h2 i x hx
        refine ⟨Lib.lt_of_cell hc0, lv, nv, fun j u hj => ?_, g1, g2⟩
        have := hcc j u hj
        rw [addr_add] at this
        rw [show o + i * 6 + j = o + (i * 6 + j) by omega]
        exact this
set_option maxRecDepth 100000 in
theorem open_jsons {r : Reach} {b0 : Nat} {v : Value} {d : DataW H} {p : List MemPlace} (hv : Value.okWide Tryz.prog w r b0 22 v) (h : DataW.Trod enc Tryz.prog w base sp held 22 v d p) :
    ∃ t : J.T, t.In w (fun b => b < w.heap.size) v ∧ t.wide ∧ t.length ≤ 9223372036854775807 := by
  obtain ⟨xa, n, c, rfl⟩ := okWide_slice Tryz.underlying22 hv
  obtain ⟨fuel, hf⟩ := h
  obtain ⟨t, v, e, h1, h2, h3⟩ := trod_vals fuel _ _ hf
  simp only [Value.cells, List.cons.injEq, and_true] at e
  subst e
  exact ⟨t, h1, h2, h3⟩
set_option maxRecDepth 100000 in
theorem open_texts {r : Reach} {b0 : Nat} {v : Value} {d : DataW H} {p : List MemPlace} (hv : Value.okWide Tryz.prog w r b0 23 v) (h : DataW.Trod enc Tryz.prog w base sp held 23 v d p) :
    ∃ ns : List ByteArray, J.SIn w (fun b => b < w.heap.size) ns v ∧ ns.length ≤ 9223372036854775807 := by
  obtain ⟨xa, n, c, rfl⟩ := okWide_slice Tryz.underlying23 hv
  obtain ⟨fuel, hf⟩ := h
  obtain ⟨ns, v, e, h1, h2⟩ := trod_texts hf
  simp only [Value.cells, List.cons.injEq, and_true] at e
  subst e
  exact ⟨ns, h1, h2⟩
end
end Go.Proofs.YtphjfighamadgaaGreatDoor
