/- Models handed in: opened. -/
import Derived.Test.YteejphiklpnjhaaGreatDoorRows
import Derived.Test.YteejphiklpnjhaaGreatDoorOA6
import Derived.Deep.Slices
import Derived.Deep.Fields
import Derived.Lib.SmallJoins
import Derived.SizedLaws
import Derived.Carry
namespace Go.Proofs.YteejphiklpnjhaaGreatDoor
set_option maxRecDepth 100000
set_option maxHeartbeats 16000000
open Go.Joins Go.ChangeShapes Go.WideShapes Go.RowKit Go.Deep
theorem laidOut : laidOutB Tryz.prog = true := by kernel_rfl
section
variable {H : Type} {enc : TypeId × Value → H} {P : Program} {w : World} {base : Nat} {sp : Nat → Bool} {held : Bool}
theorem trod_structM4 {t : TypeId} {f0 f1 f2 f3 : Field} {fuel : Nat} {cs : List Value} {x : DataW H × List MemPlace} (ht : P.underlying t = some (.struct #[f0, f1, f2, f3])) (h : DataW.trod enc P w base sp held fuel t cs = some x) :
   ∃ y0 y1 y2 y3 n, x.1 = .agg [y0.1, y1.1, y2.1, y3.1] ∧ cs.length = P.cellsOf t ∧ DataW.trod enc P w base sp held n f0.type ((cs.drop f0.offset).take (P.cellsOf f0.type)) = some y0 ∧ DataW.trod enc P w base sp held n f1.type ((cs.drop f1.offset).take (P.cellsOf f1.type)) = some y1 ∧ DataW.trod enc P w base sp held n f2.type ((cs.drop f2.offset).take (P.cellsOf f2.type)) = some y2 ∧ DataW.trod enc P w base sp held n f3.type ((cs.drop f3.offset).take (P.cellsOf f3.type)) = some y3 := by
 obtain ⟨xs, n, hn, rfl, hl, hlen, hf⟩ := DataW.trod_struct ht h
 match xs, hlen with
 | [y0, y1, y2, y3], _ => exact ⟨y0, y1, y2, y3, n, by simp, hl, by simpa using hf 0 f0 rfl, by simpa using hf 1 f1 rfl, by simpa using hf 2 f2 rfl, by simpa using hf 3 f3 rfl⟩
theorem trod_structM5 {t : TypeId} {f0 f1 f2 f3 f4 : Field} {fuel : Nat} {cs : List Value} {x : DataW H × List MemPlace} (ht : P.underlying t = some (.struct #[f0, f1, f2, f3, f4])) (h : DataW.trod enc P w base sp held fuel t cs = some x) :
   ∃ y0 y1 y2 y3 y4 n, x.1 = .agg [y0.1, y1.1, y2.1, y3.1, y4.1] ∧ cs.length = P.cellsOf t ∧ DataW.trod enc P w base sp held n f0.type ((cs.drop f0.offset).take (P.cellsOf f0.type)) = some y0 ∧ DataW.trod enc P w base sp held n f1.type ((cs.drop f1.offset).take (P.cellsOf f1.type)) = some y1 ∧ DataW.trod enc P w base sp held n f2.type ((cs.drop f2.offset).take (P.cellsOf f2.type)) = some y2 ∧ DataW.trod enc P w base sp held n f3.type ((cs.drop f3.offset).take (P.cellsOf f3.type)) = some y3 ∧ DataW.trod enc P w base sp held n f4.type ((cs.drop f4.offset).take (P.cellsOf f4.type)) = some y4 := by
 obtain ⟨xs, n, hn, rfl, hl, hlen, hf⟩ := DataW.trod_struct ht h
 match xs, hlen with
 | [y0, y1, y2, y3, y4], _ => exact ⟨y0, y1, y2, y3, y4, n, by simp, hl, by simpa using hf 0 f0 rfl, by simpa using hf 1 f1 rfl, by simpa using hf 2 f2 rfl, by simpa using hf 3 f3 rfl, by simpa using hf 4 f4 rfl⟩
theorem trod_structM11 {t : TypeId} {f0 f1 f2 f3 f4 f5 f6 f7 f8 f9 f10 : Field} {fuel : Nat} {cs : List Value} {x : DataW H × List MemPlace} (ht : P.underlying t = some (.struct #[f0, f1, f2, f3, f4, f5, f6, f7, f8, f9, f10])) (h : DataW.trod enc P w base sp held fuel t cs = some x) :
   ∃ y0 y1 y2 y3 y4 y5 y6 y7 y8 y9 y10 n, x.1 = .agg [y0.1, y1.1, y2.1, y3.1, y4.1, y5.1, y6.1, y7.1, y8.1, y9.1, y10.1] ∧ cs.length = P.cellsOf t ∧ DataW.trod enc P w base sp held n f0.type ((cs.drop f0.offset).take (P.cellsOf f0.type)) = some y0 ∧ DataW.trod enc P w base sp held n f1.type ((cs.drop f1.offset).take (P.cellsOf f1.type)) = some y1 ∧ DataW.trod enc P w base sp held n f2.type ((cs.drop f2.offset).take (P.cellsOf f2.type)) = some y2 ∧ DataW.trod enc P w base sp held n f3.type ((cs.drop f3.offset).take (P.cellsOf f3.type)) = some y3 ∧ DataW.trod enc P w base sp held n f4.type ((cs.drop f4.offset).take (P.cellsOf f4.type)) = some y4 ∧ DataW.trod enc P w base sp held n f5.type ((cs.drop f5.offset).take (P.cellsOf f5.type)) = some y5 ∧ DataW.trod enc P w base sp held n f6.type ((cs.drop f6.offset).take (P.cellsOf f6.type)) = some y6 ∧ DataW.trod enc P w base sp held n f7.type ((cs.drop f7.offset).take (P.cellsOf f7.type)) = some y7 ∧ DataW.trod enc P w base sp held n f8.type ((cs.drop f8.offset).take (P.cellsOf f8.type)) = some y8 ∧ DataW.trod enc P w base sp held n f9.type ((cs.drop f9.offset).take (P.cellsOf f9.type)) = some y9 ∧ DataW.trod enc P w base sp held n f10.type ((cs.drop f10.offset).take (P.cellsOf f10.type)) = some y10 := by
 obtain ⟨xs, n, hn, rfl, hl, hlen, hf⟩ := DataW.trod_struct ht h
 match xs, hlen with
 | [y0, y1, y2, y3, y4, y5, y6, y7, y8, y9, y10], _ => exact ⟨y0, y1, y2, y3, y4, y5, y6, y7, y8, y9, y10, n, by simp, hl, by simpa using hf 0 f0 rfl, by simpa using hf 1 f1 rfl, by simpa using hf 2 f2 rfl, by simpa using hf 3 f3 rfl, by simpa using hf 4 f4 rfl, by simpa using hf 5 f5 rfl, by simpa using hf 6 f6 rfl, by simpa using hf 7 f7 rfl, by simpa using hf 8 f8 rfl, by simpa using hf 9 f9 rfl, by simpa using hf 10 f10 rfl⟩
end
theorem list_upto {α : Type} (Q : Nat → α → Prop) : ∀ (n : Nat), (∀ i, i < n → ∃ x, Q i x) → ∃ l : List α, l.length = n ∧ ∀ i x, l[i]? = some x → Q i x
 | 0, _ => ⟨[], rfl, fun i x h => by simp at h⟩
 | n + 1, h => by
   obtain ⟨l, h1, h2⟩ := list_upto Q n (fun i hi => h i (by omega))
   obtain ⟨y, hy⟩ := h n (by omega)
   refine ⟨l ++ [y], by simp [h1], fun i x hi => ?_⟩
   by_cases hl : i < l.length
   · rw [List.getElem?_append_left hl] at hi; exact h2 i x hi
   · rw [List.getElem?_append_right (by omega)] at hi
     have : i - l.length = 0 := by
      rcases Nat.eq_zero_or_pos (i - l.length) with e | e
      · exact e
      · rw [List.getElem?_eq_none (by simp; omega)] at hi; cases hi
     rw [this] at hi
     simp at hi
     subst hi
     rw [show i = n by omega]; exact hy
theorem k_str : Tryz.prog.cellsOf 9 = 1 := by kernel_rfl
theorem k_u8 : Tryz.prog.cellsOf 5 = 1 := by kernel_rfl
theorem k_int : Tryz.prog.cellsOf 3 = 1 := by kernel_rfl
theorem k_i64 : Tryz.prog.cellsOf 2 = 1 := by kernel_rfl
theorem k_bool : Tryz.prog.cellsOf 4 = 1 := by kernel_rfl
theorem k_val : Tryz.prog.cellsOf 49 = 4 := by kernel_rfl
theorem k_errno : Tryz.prog.cellsOf 26 = 1 ∧ Tryz.prog.cellsOf 27 = 1 ∧ Tryz.prog.cellsOf 28 = 1 := ⟨by kernel_rfl, by kernel_rfl, by kernel_rfl⟩
section
variable {H : Type} {enc : TypeId × Value → H} {w : World} {base : Nat} {sp : Nat → Bool} {held : Bool}
theorem trodB {fuel : Nat} {c0 c1 c2 c3 c4 : Value} {y : DataW H × List MemPlace} (h : DataW.trod enc Tryz.prog w base sp held fuel 51 [c0, c1, c2, c3, c4] = some y) : ∃ x : Bd, x.cells = [c0, c1, c2, c3, c4] := by
 obtain ⟨y0, y1, n, hy, _, t0, u⟩ := trod_struct2 Tryz.underlying51 h
 obtain ⟨z0, z1, z2, z3, m, hz, _, t1, t2, t3, t4⟩ := trod_structM4 Tryz.underlying49 u
 obtain ⟨x0, e0, -, -⟩ := DataW.trod_string Tryz.underlying9 t0
 have g0 : c0 = .string x0 := by simpa [k_str, k_val] using e0
 obtain ⟨x1, e1, -, -⟩ := DataW.trod_int Tryz.underlying5 t1
 have g1 : c1 = .int .u8 x1 := by simpa [k_u8, k_val] using e1
 obtain ⟨x2, e2, -, -⟩ := DataW.trod_int Tryz.underlying2 t2
 have g2 : c2 = .int .i64 x2 := by simpa [k_i64, k_val] using e2
 obtain ⟨x3, e3, -⟩ := DataW.trod_bool Tryz.underlying4 t3
 have g3 : c3 = .bool x3 := by simpa [k_bool, k_val] using e3
 obtain ⟨x4, e4, -, -⟩ := DataW.trod_string Tryz.underlying9 t4
 have g4 : c4 = .string x4 := by simpa [k_str, k_val] using e4
 subst g0 g1 g2 g3 g4
 exact ⟨⟨x0, x1, x2, x3, x4⟩, rfl⟩
theorem trodE {fuel : Nat} {c0 c1 c2 c3 c4 c5 c6 c7 c8 c9 c10 : Value} {y : DataW H × List MemPlace} (h : DataW.trod enc Tryz.prog w base sp held fuel 36 [c0, c1, c2, c3, c4, c5, c6, c7, c8, c9, c10] = some y) : ∃ x : Em, x.cells = [c0, c1, c2, c3, c4, c5, c6, c7, c8, c9, c10] := by
 obtain ⟨y0, y1, y2, y3, y4, y5, y6, y7, y8, y9, y10, n, hy, _, t0, t1, t2, t3, t4, t5, t6, t7, t8, t9, t10⟩ := trod_structM11 Tryz.underlying36 h
 obtain ⟨x0, e0, -, -⟩ := DataW.trod_string Tryz.underlying9 t0
 have g0 : c0 = .string x0 := by simpa [k_str, k_val] using e0
 obtain ⟨x1, e1, -, -⟩ := DataW.trod_string Tryz.underlying9 t1
 have g1 : c1 = .string x1 := by simpa [k_str, k_val] using e1
 obtain ⟨x2, e2, -, -⟩ := DataW.trod_int Tryz.underlying5 t2
 have g2 : c2 = .int .u8 x2 := by simpa [k_u8, k_val] using e2
 obtain ⟨x3, e3, -, -⟩ := DataW.trod_string Tryz.underlying9 t3
 have g3 : c3 = .string x3 := by simpa [k_str, k_val] using e3
 obtain ⟨x4, e4, -, -⟩ := DataW.trod_string Tryz.underlying9 t4
 have g4 : c4 = .string x4 := by simpa [k_str, k_val] using e4
 obtain ⟨x5, e5, -, -⟩ := DataW.trod_string Tryz.underlying9 t5
 have g5 : c5 = .string x5 := by simpa [k_str, k_val] using e5
 obtain ⟨x6, e6, -, -⟩ := DataW.trod_int Tryz.underlying5 t6
 have g6 : c6 = .int .u8 x6 := by simpa [k_u8, k_val] using e6
 obtain ⟨x7, e7, -, -⟩ := DataW.trod_string Tryz.underlying9 t7
 have g7 : c7 = .string x7 := by simpa [k_str, k_val] using e7
 obtain ⟨x8, e8, -, -⟩ := DataW.trod_string Tryz.underlying9 t8
 have g8 : c8 = .string x8 := by simpa [k_str, k_val] using e8
 obtain ⟨x9, e9, -, -⟩ := DataW.trod_int Tryz.underlying3 t9
 have g9 : c9 = .int .i64 x9 := by simpa [k_int, k_val] using e9
 obtain ⟨x10, e10, -, -⟩ := DataW.trod_int Tryz.underlying3 t10
 have g10 : c10 = .int .i64 x10 := by simpa [k_int, k_val] using e10
 subst g0 g1 g2 g3 g4 g5 g6 g7 g8 g9 g10
 exact ⟨⟨x0, x1, x2, x3, x4, x5, x6, x7, x8, x9, x10⟩, rfl⟩
theorem trodF {fuel : Nat} {c0 c1 c2 c3 : Value} {y : DataW H × List MemPlace} (h : DataW.trod enc Tryz.prog w base sp held fuel 53 [c0, c1, c2, c3] = some y) : ∃ x : Fw, x.cells = [c0, c1, c2, c3] := by
 obtain ⟨y0, y1, y2, y3, n, hy, _, t0, t1, t2, t3⟩ := trod_structM4 Tryz.underlying53 h
 obtain ⟨x0, e0, -, -⟩ := DataW.trod_string Tryz.underlying9 t0
 have g0 : c0 = .string x0 := by simpa [k_str, k_val] using e0
 obtain ⟨x1, e1, -, -⟩ := DataW.trod_string Tryz.underlying9 t1
 have g1 : c1 = .string x1 := by simpa [k_str, k_val] using e1
 obtain ⟨x2, e2, -, -⟩ := DataW.trod_string Tryz.underlying9 t2
 have g2 : c2 = .string x2 := by simpa [k_str, k_val] using e2
 obtain ⟨x3, e3, -, -⟩ := DataW.trod_string Tryz.underlying9 t3
 have g3 : c3 = .string x3 := by simpa [k_str, k_val] using e3
 subst g0 g1 g2 g3
 exact ⟨⟨x0, x1, x2, x3⟩, rfl⟩
theorem rowB_at : ∀ (l : List Bd) (j : Nat) (u : Value), (rowB l)[j]? = some u → ∃ x, l[j / 5]? = some x ∧ x.cells[j % 5]? = some u
 | [], j, u, h => by simp [rowB] at h
 | x :: r, j, u, h => by
   by_cases hj : j < 5
   · refine ⟨x, by rw [show j / 5 = 0 by omega]; rfl, ?_⟩
     rw [show j % 5 = j by omega]
     unfold rowB at h
     rw [List.getElem?_append_left (by rw [Bd.len]; omega)] at h
     exact h
   · unfold rowB at h
     rw [List.getElem?_append_right (by rw [Bd.len]; omega), Bd.len] at h
     obtain ⟨z, h1, h2⟩ := rowB_at r (j - 5) u h
     refine ⟨z, ?_, ?_⟩
     · rw [show j / 5 = (j - 5) / 5 + 1 by omega, List.getElem?_cons_succ]; exact h1
     · rw [show j % 5 = (j - 5) % 5 by omega]; exact h2
theorem cellsOfB : Tryz.prog.cellsOf 51 = 5 := by kernel_rfl
theorem bytesOfB : Tryz.prog.bytesOf 51 = 56 := by kernel_rfl
theorem openB {fuel : Nat} {cs : List Value} {y : DataW H × List MemPlace} (h : DataW.trod enc Tryz.prog w base sp held fuel 26 cs = some y) :
   ∃ (l : List Bd) (v : Value), cs = [v] ∧ InB w l v ∧ ((y.1 = .nil ∧ l = []) ∨ ∃ el spare, y.1 = .slice el spare ∧ el.length = l.length) := by
 rcases open_slice Tryz.underlying26 h with ⟨rfl, rfl⟩ | ⟨a, len, cap, m, n', D, Pl, rfl, hb, hl, hm, hmm, rfl, hi⟩
 · exact ⟨[], _, rfl, Or.inl ⟨rfl, none, 0, rfl, fun _ => rfl⟩, Or.inl ⟨rfl, rfl⟩⟩
 · have hlm : len ≤ m := by rw [hmm]; split <;> omega
   obtain ⟨l, h1, h2⟩ := list_upto (fun i (x : Bd) => ∀ j u, x.cells[j]? = some u → w.cell? (a.add (i * 5 + j)) = some u) len (fun i hin => by
     obtain ⟨cs', hc, ht⟩ := hi i (by omega)
     rw [cellsOfB] at hc
     obtain ⟨_, hlen, hat⟩ := World.cells?_some hc
     match cs', hlen with
     | [c0, c1, c2, c3, c4], _ =>
       obtain ⟨x, hx⟩ := trodB ht
       refine ⟨x, fun j u hj => ?_⟩
       rw [hx] at hj
       have hj3 : j < 5 := by
        have := (List.getElem?_eq_some_iff.1 hj).1
        simpa using this
       rw [← Go.Deep.add_add, hat j hj3]
       exact hj)
   refine ⟨l, _, rfl, ?_, Or.inr ⟨_, _, rfl, by rw [List.length_map, List.length_range, h1]⟩⟩
   subst h1
   rcases Nat.eq_zero_or_pos l.length with h0 | h0
   · rw [h0]
     exact Or.inl ⟨List.eq_nil_of_length_eq_zero h0, _, cap, rfl, fun h => by cases h⟩
   · obtain ⟨b, o, spot⟩ := a
     have hcell : ∀ j u, (rowB l)[j]? = some u → w.cell? ((⟨b, o, spot⟩ : Addr).add j) = some u := fun j u hj => by
       obtain ⟨z, g1, g2⟩ := rowB_at l j u hj
       have := h2 _ z g1 _ u g2
       rw [show j / 5 * 5 + j % 5 = j by omega] at this
       exact this
     obtain ⟨x0, hx0⟩ : ∃ x, l[0]? = some x := ⟨_, List.getElem?_eq_getElem h0⟩
     have hc0 := hcell 0 _ (rowB_get l 0 x0 hx0 0 _ rfl)
     have hspot : spot = none := by simpa [Addr.add] using World.cell?_spot hc0
     subst hspot
     refine Or.inr ⟨h0, b, o, cap, rfl, hl, Lib.lt_of_cell hc0, fun j u hj => ?_⟩
     have := hcell j u hj
     have e : (⟨b, o, none⟩ : Addr).add j = ⟨b, o + j, none⟩ := by cases j <;> simp [Addr.add]
     rw [e] at this; exact this
theorem lightB {d : DataW H} {l : List Bd} (h : (d = .nil ∧ l = []) ∨ ∃ el spare, d = .slice el spare ∧ el.length = l.length) (hw : ∀ n ∈ d.weights Tryz.prog 26, n ≤ reachBytes) : l.length ≤ 9000000000000 := by
 rcases h with ⟨_, rfl⟩ | ⟨el, spare, rfl, he⟩
 · simp
 · have h1 := hw ((el.length + spare.length) * Tryz.prog.bytesOf 51) (by unfold DataW.weights; rw [Tryz.underlying26]; simp)
   rw [bytesOfB, he] at h1
   have e : reachBytes = 140737488351232 := by decide
   rw [e] at h1
   have h2 : l.length * 56 ≤ (l.length + spare.length) * 56 := Nat.mul_le_mul_right 56 (Nat.le_add_right _ _)
   omega
theorem rowE_at : ∀ (l : List Em) (j : Nat) (u : Value), (rowE l)[j]? = some u → ∃ x, l[j / 11]? = some x ∧ x.cells[j % 11]? = some u
 | [], j, u, h => by simp [rowE] at h
 | x :: r, j, u, h => by
   by_cases hj : j < 11
   · refine ⟨x, by rw [show j / 11 = 0 by omega]; rfl, ?_⟩
     rw [show j % 11 = j by omega]
     unfold rowE at h
     rw [List.getElem?_append_left (by rw [Em.len]; omega)] at h
     exact h
   · unfold rowE at h
     rw [List.getElem?_append_right (by rw [Em.len]; omega), Em.len] at h
     obtain ⟨z, h1, h2⟩ := rowE_at r (j - 11) u h
     refine ⟨z, ?_, ?_⟩
     · rw [show j / 11 = (j - 11) / 11 + 1 by omega, List.getElem?_cons_succ]; exact h1
     · rw [show j % 11 = (j - 11) % 11 by omega]; exact h2
theorem cellsOfE : Tryz.prog.cellsOf 36 = 11 := by kernel_rfl
theorem bytesOfE : Tryz.prog.bytesOf 36 = 144 := by kernel_rfl
theorem openE {fuel : Nat} {cs : List Value} {y : DataW H × List MemPlace} (h : DataW.trod enc Tryz.prog w base sp held fuel 27 cs = some y) :
   ∃ (l : List Em) (v : Value), cs = [v] ∧ InE w l v ∧ ((y.1 = .nil ∧ l = []) ∨ ∃ el spare, y.1 = .slice el spare ∧ el.length = l.length) := by
 rcases open_slice Tryz.underlying27 h with ⟨rfl, rfl⟩ | ⟨a, len, cap, m, n', D, Pl, rfl, hb, hl, hm, hmm, rfl, hi⟩
 · exact ⟨[], _, rfl, Or.inl ⟨rfl, none, 0, rfl, fun _ => rfl⟩, Or.inl ⟨rfl, rfl⟩⟩
 · have hlm : len ≤ m := by rw [hmm]; split <;> omega
   obtain ⟨l, h1, h2⟩ := list_upto (fun i (x : Em) => ∀ j u, x.cells[j]? = some u → w.cell? (a.add (i * 11 + j)) = some u) len (fun i hin => by
     obtain ⟨cs', hc, ht⟩ := hi i (by omega)
     rw [cellsOfE] at hc
     obtain ⟨_, hlen, hat⟩ := World.cells?_some hc
     match cs', hlen with
     | [c0, c1, c2, c3, c4, c5, c6, c7, c8, c9, c10], _ =>
       obtain ⟨x, hx⟩ := trodE ht
       refine ⟨x, fun j u hj => ?_⟩
       rw [hx] at hj
       have hj3 : j < 11 := by
        have := (List.getElem?_eq_some_iff.1 hj).1
        simpa using this
       rw [← Go.Deep.add_add, hat j hj3]
       exact hj)
   refine ⟨l, _, rfl, ?_, Or.inr ⟨_, _, rfl, by rw [List.length_map, List.length_range, h1]⟩⟩
   subst h1
   rcases Nat.eq_zero_or_pos l.length with h0 | h0
   · rw [h0]
     exact Or.inl ⟨List.eq_nil_of_length_eq_zero h0, _, cap, rfl, fun h => by cases h⟩
   · obtain ⟨b, o, spot⟩ := a
     have hcell : ∀ j u, (rowE l)[j]? = some u → w.cell? ((⟨b, o, spot⟩ : Addr).add j) = some u := fun j u hj => by
       obtain ⟨z, g1, g2⟩ := rowE_at l j u hj
       have := h2 _ z g1 _ u g2
       rw [show j / 11 * 11 + j % 11 = j by omega] at this
       exact this
     obtain ⟨x0, hx0⟩ : ∃ x, l[0]? = some x := ⟨_, List.getElem?_eq_getElem h0⟩
     have hc0 := hcell 0 _ (rowE_get l 0 x0 hx0 0 _ rfl)
     have hspot : spot = none := by simpa [Addr.add] using World.cell?_spot hc0
     subst hspot
     refine Or.inr ⟨h0, b, o, cap, rfl, hl, Lib.lt_of_cell hc0, fun j u hj => ?_⟩
     have := hcell j u hj
     have e : (⟨b, o, none⟩ : Addr).add j = ⟨b, o + j, none⟩ := by cases j <;> simp [Addr.add]
     rw [e] at this; exact this
theorem lightE {d : DataW H} {l : List Em} (h : (d = .nil ∧ l = []) ∨ ∃ el spare, d = .slice el spare ∧ el.length = l.length) (hw : ∀ n ∈ d.weights Tryz.prog 27, n ≤ reachBytes) : l.length ≤ 9000000000000 := by
 rcases h with ⟨_, rfl⟩ | ⟨el, spare, rfl, he⟩
 · simp
 · have h1 := hw ((el.length + spare.length) * Tryz.prog.bytesOf 36) (by unfold DataW.weights; rw [Tryz.underlying27]; simp)
   rw [bytesOfE, he] at h1
   have e : reachBytes = 140737488351232 := by decide
   rw [e] at h1
   have h2 : l.length * 144 ≤ (l.length + spare.length) * 144 := Nat.mul_le_mul_right 144 (Nat.le_add_right _ _)
   omega
theorem rowF_at : ∀ (l : List Fw) (j : Nat) (u : Value), (rowF l)[j]? = some u → ∃ x, l[j / 4]? = some x ∧ x.cells[j % 4]? = some u
 | [], j, u, h => by simp [rowF] at h
 | x :: r, j, u, h => by
   by_cases hj : j < 4
   · refine ⟨x, by rw [show j / 4 = 0 by omega]; rfl, ?_⟩
     rw [show j % 4 = j by omega]
     unfold rowF at h
     rw [List.getElem?_append_left (by rw [Fw.len]; omega)] at h
     exact h
   · unfold rowF at h
     rw [List.getElem?_append_right (by rw [Fw.len]; omega), Fw.len] at h
     obtain ⟨z, h1, h2⟩ := rowF_at r (j - 4) u h
     refine ⟨z, ?_, ?_⟩
     · rw [show j / 4 = (j - 4) / 4 + 1 by omega, List.getElem?_cons_succ]; exact h1
     · rw [show j % 4 = (j - 4) % 4 by omega]; exact h2
theorem cellsOfF : Tryz.prog.cellsOf 53 = 4 := by kernel_rfl
theorem bytesOfF : Tryz.prog.bytesOf 53 = 64 := by kernel_rfl
theorem openF {fuel : Nat} {cs : List Value} {y : DataW H × List MemPlace} (h : DataW.trod enc Tryz.prog w base sp held fuel 28 cs = some y) :
   ∃ (l : List Fw) (v : Value), cs = [v] ∧ InF w l v ∧ ((y.1 = .nil ∧ l = []) ∨ ∃ el spare, y.1 = .slice el spare ∧ el.length = l.length) := by
 rcases open_slice Tryz.underlying28 h with ⟨rfl, rfl⟩ | ⟨a, len, cap, m, n', D, Pl, rfl, hb, hl, hm, hmm, rfl, hi⟩
 · exact ⟨[], _, rfl, Or.inl ⟨rfl, none, 0, rfl, fun _ => rfl⟩, Or.inl ⟨rfl, rfl⟩⟩
 · have hlm : len ≤ m := by rw [hmm]; split <;> omega
   obtain ⟨l, h1, h2⟩ := list_upto (fun i (x : Fw) => ∀ j u, x.cells[j]? = some u → w.cell? (a.add (i * 4 + j)) = some u) len (fun i hin => by
     obtain ⟨cs', hc, ht⟩ := hi i (by omega)
     rw [cellsOfF] at hc
     obtain ⟨_, hlen, hat⟩ := World.cells?_some hc
     match cs', hlen with
     | [c0, c1, c2, c3], _ =>
       obtain ⟨x, hx⟩ := trodF ht
       refine ⟨x, fun j u hj => ?_⟩
       rw [hx] at hj
       have hj3 : j < 4 := by
        have := (List.getElem?_eq_some_iff.1 hj).1
        simpa using this
       rw [← Go.Deep.add_add, hat j hj3]
       exact hj)
   refine ⟨l, _, rfl, ?_, Or.inr ⟨_, _, rfl, by rw [List.length_map, List.length_range, h1]⟩⟩
   subst h1
   rcases Nat.eq_zero_or_pos l.length with h0 | h0
   · rw [h0]
     exact Or.inl ⟨List.eq_nil_of_length_eq_zero h0, _, cap, rfl, fun h => by cases h⟩
   · obtain ⟨b, o, spot⟩ := a
     have hcell : ∀ j u, (rowF l)[j]? = some u → w.cell? ((⟨b, o, spot⟩ : Addr).add j) = some u := fun j u hj => by
       obtain ⟨z, g1, g2⟩ := rowF_at l j u hj
       have := h2 _ z g1 _ u g2
       rw [show j / 4 * 4 + j % 4 = j by omega] at this
       exact this
     obtain ⟨x0, hx0⟩ : ∃ x, l[0]? = some x := ⟨_, List.getElem?_eq_getElem h0⟩
     have hc0 := hcell 0 _ (rowF_get l 0 x0 hx0 0 _ rfl)
     have hspot : spot = none := by simpa [Addr.add] using World.cell?_spot hc0
     subst hspot
     refine Or.inr ⟨h0, b, o, cap, rfl, hl, Lib.lt_of_cell hc0, fun j u hj => ?_⟩
     have := hcell j u hj
     have e : (⟨b, o, none⟩ : Addr).add j = ⟨b, o + j, none⟩ := by cases j <;> simp [Addr.add]
     rw [e] at this; exact this
theorem lightF {d : DataW H} {l : List Fw} (h : (d = .nil ∧ l = []) ∨ ∃ el spare, d = .slice el spare ∧ el.length = l.length) (hw : ∀ n ∈ d.weights Tryz.prog 28, n ≤ reachBytes) : l.length ≤ 9000000000000 := by
 rcases h with ⟨_, rfl⟩ | ⟨el, spare, rfl, he⟩
 · simp
 · have h1 := hw ((el.length + spare.length) * Tryz.prog.bytesOf 53) (by unfold DataW.weights; rw [Tryz.underlying28]; simp)
   rw [bytesOfF, he] at h1
   have e : reachBytes = 140737488351232 := by decide
   rw [e] at h1
   have h2 : l.length * 64 ≤ (l.length + spare.length) * 64 := Nat.mul_le_mul_right 64 (Nat.le_add_right _ _)
   omega
theorem open_model {r : Reach} {b0 : Nat} {v : Value} {d : DataW H} {p : List MemPlace} (hv : Value.okWide Tryz.prog w r b0 30 v) (h : DataW.Trod enc Tryz.prog w base sp held 30 v d p) (hw : ∀ n ∈ d.weights Tryz.prog 30, n ≤ reachBytes) :
  ∃ (x : Mdl) (cs : List Value), v = .agg cs.toArray ∧ MIn w x cs ∧ x.cut := by
 obtain ⟨cs, rfl, hsz⟩ := okWide_struct Tryz.underlying30 hv
 rw [show Tryz.prog.cellsOf 30 = 5 by kernel_rfl] at hsz
 obtain ⟨fuel, hf⟩ := h
 obtain ⟨y0, y1, y2, y3, y4, n2, hy, _, t0, t1, t2, t3, t4⟩ := trod_structM5 Tryz.underlying30 hf
 obtain ⟨c0, c1, c2, c3, c4, rfl⟩ : ∃ c0 c1 c2 c3 c4, cs = #[c0, c1, c2, c3, c4] := by
  obtain ⟨l⟩ := cs
  match l, hsz with
  | [c0, c1, c2, c3, c4], _ => exact ⟨c0, c1, c2, c3, c4, rfl⟩
 obtain ⟨k2, k3, k4⟩ := k_errno
 obtain ⟨x0, e0, -, -⟩ := DataW.trod_string Tryz.underlying9 t0
 obtain ⟨x1, e1, -, -⟩ := DataW.trod_string Tryz.underlying9 t1
 have f0 : c0 = .string x0 := by simpa [k_str, Value.cells] using e0
 have f1 : c1 = .string x1 := by simpa [k_str, Value.cells] using e1
 subst f0 f1
 have t2' : DataW.trod enc Tryz.prog w base sp held n2 26 [c2] = some y2 := by simpa [k2, Value.cells] using t2
 have t3' : DataW.trod enc Tryz.prog w base sp held n2 27 [c3] = some y3 := by simpa [k3, Value.cells] using t3
 have t4' : DataW.trod enc Tryz.prog w base sp held n2 28 [c4] = some y4 := by simpa [k4, Value.cells] using t4
 obtain ⟨vs, v2, e2, hB, wB⟩ := openB t2'
 obtain ⟨es, v3, e3, hE, wE⟩ := openE t3'
 obtain ⟨fs, v4, e4, hF, wF⟩ := openF t4'
 obtain rfl : c2 = v2 := by simpa using e2
 obtain rfl : c3 = v3 := by simpa using e3
 obtain rfl : c4 = v4 := by simpa using e4
 simp only at hy
 subst hy
 have hwt : ∀ n, n ∈ DataW.weightsEach Tryz.prog [9, 9, 26, 27, 28] [y0.1, y1.1, y2.1, y3.1, y4.1] → n ≤ reachBytes := fun n hn => hw n (by unfold DataW.weights; rw [Tryz.underlying30]; exact hn)
 exact ⟨⟨x0, x1, vs, es, fs⟩, [.string x0, .string x1, c2, c3, c4], rfl, ⟨c2, c3, c4, rfl, hB, hE, hF⟩, lightB wB (fun n hn => hwt n (DataW.weights_mem_each (j := 2) rfl rfl n hn)), lightE wE (fun n hn => hwt n (DataW.weights_mem_each (j := 3) rfl rfl n hn)), lightF wF (fun n hn => hwt n (DataW.weights_mem_each (j := 4) rfl rfl n hn))⟩
end
end Go.Proofs.YteejphiklpnjhaaGreatDoor
