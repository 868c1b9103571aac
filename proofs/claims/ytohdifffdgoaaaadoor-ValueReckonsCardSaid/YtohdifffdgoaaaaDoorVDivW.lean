/- The walk of the document's quotient of wide numbers. -/
import Derived.Test.YtohdifffdgoaaaaDoorVTimes
import Derived.Test.YtohdifffdgoaaaaDoorVDivP
import Derived.Laws.ShiftsVarLaws
import Derived.Laws.ShiftsVar
import Derived.Deep.CutBlock
namespace Go.Proofs.YtohdifffdgoaaaaDoor
open Go.RowKit
open Go.Lib (hid)

/-- the six blocks of the call's own -/
def DivSt (s : Nat) (ma : Bool) (a0 a1 d0 d1 : Nat) (qm : Bool) (q0 q1 : Nat) (r0 r1 r2 r3 : Nat) (wr : World) : Prop :=
  wr.heap[s]? = some (.cells #[.bool ma, .int .u64 a0, .int .u64 a1, .int .u64 0, .int .u64 0] 66 (0, 0)) ∧
  wr.heap[s + 1]? = some (.cells #[.bool false, .int .u64 d0, .int .u64 d1, .int .u64 0, .int .u64 0] 66 (0, 0)) ∧
  wr.heap[s + 2]? = some (.cells #[.bool false, .int .u64 0, .int .u64 0, .int .u64 0, .int .u64 0] 66 (0, 0)) ∧
  wr.heap[s + 3]? = some (.cells #[.bool false, .int .u64 0, .int .u64 0, .int .u64 0, .int .u64 0] 66 (0, 0)) ∧
  wr.heap[s + 4]? = some (.cells #[.bool qm, .int .u64 q0, .int .u64 q1, .int .u64 0, .int .u64 0] 66 (0, 0)) ∧
  wr.heap[s + 5]? = some (.cells #[.bool false, .int .u64 r0, .int .u64 r1, .int .u64 r2, .int .u64 r3] 66 (0, 0)) ∧ s + 6 ≤ wr.heap.size
theorem DivSt.below {s : Nat} {ma : Bool} {a0 a1 d0 d1 : Nat} {qm : Bool} {q0 q1 r0 r1 r2 r3 : Nat} {w w' : World} (h : DivSt s ma a0 a1 d0 d1 qm q0 q1 r0 r1 r2 r3 w) (hb : Below w.heap.size w w') : DivSt s ma a0 a1 d0 d1 qm q0 q1 r0 r1 r2 r3 w' := by
  obtain ⟨h0, h1, h2, h3, h4, h5, h6⟩ := h
  have := hb.size
  exact ⟨by rw [hb.block _ (by omega)]; exact h0, by rw [hb.block _ (by omega)]; exact h1, by rw [hb.block _ (by omega)]; exact h2, by rw [hb.block _ (by omega)]; exact h3, by rw [hb.block _ (by omega)]; exact h4, by rw [hb.block _ (by omega)]; exact h5, by omega⟩
theorem row5 {w : World} {b : Nat} {x y z u v : Value} {t : TypeId} (h : w.heap[b]? = some (.cells #[x, y, z, u, v] t (0, 0))) :
    w.cell? ⟨b, 0, none⟩ = some x ∧ w.cell? ⟨b, 1, none⟩ = some y ∧ w.cell? ⟨b, 2, none⟩ = some z ∧ w.cell? ⟨b, 3, none⟩ = some u ∧ w.cell? ⟨b, 4, none⟩ = some v := by
  refine ⟨?_, ?_, ?_, ?_, ?_⟩ <;> (rw [cell_of_row _ _ _ _ _ _ h]; rfl)
theorem free5 {w : World} {b : Nat} {cs : Array Value} {t : TypeId} (h : w.heap[b]? = some (.cells cs t (0, 0))) :
    w.frozen? ⟨b, 0, none⟩ = false ∧ w.frozen? ⟨b, 1, none⟩ = false ∧ w.frozen? ⟨b, 2, none⟩ = false ∧ w.frozen? ⟨b, 3, none⟩ = false ∧ w.frozen? ⟨b, 4, none⟩ = false := by
  refine ⟨?_, ?_, ?_, ?_, ?_⟩ <;> simp [World.frozen?, h]
/-- all of a row of five written -/
theorem row5_set {w : World} {b : Nat} {x y z u v : Value} {t : TypeId} (h : w.heap[b]? = some (.cells #[x, y, z, u, v] t (0, 0))) (x' y' z' u' v' : Value) :
    (((((w.setCell ⟨b, 0, none⟩ x').setCell ⟨b, 1, none⟩ y').setCell ⟨b, 2, none⟩ z').setCell ⟨b, 3, none⟩ u').setCell ⟨b, 4, none⟩ v').heap[b]? = some (.cells #[x', y', z', u', v'] t (0, 0)) :=
  row_setCell (row_setCell (row_setCell (row_setCell (row_setCell h 0 x') 1 y') 2 z') 3 u') 4 v'
theorem other5_set {w : World} {b c : Nat} (hc : c ≠ b) (x y z u v : Value) : (((((w.setCell ⟨b, 0, none⟩ x).setCell ⟨b, 1, none⟩ y).setCell ⟨b, 2, none⟩ z).setCell ⟨b, 3, none⟩ u).setCell ⟨b, 4, none⟩ v).heap[c]? = w.heap[c]? := by
  rw [Below.heap_setCell _ _ _ _ hc, Below.heap_setCell _ _ _ _ hc, Below.heap_setCell _ _ _ _ hc, Below.heap_setCell _ _ _ _ hc, Below.heap_setCell _ _ _ _ hc]
theorem below5_set {B : Nat} {a w : World} {b : Nat} (h : Below B a w) (hb : B ≤ b) (x y z u v : Value) : Below B a (((((w.setCell ⟨b, 0, none⟩ x).setCell ⟨b, 1, none⟩ y).setCell ⟨b, 2, none⟩ z).setCell ⟨b, 3, none⟩ u).setCell ⟨b, 4, none⟩ v) :=
  ((((h.setCell (p := ⟨b, 0, none⟩) hb x).setCell (p := ⟨b, 1, none⟩) hb y).setCell (p := ⟨b, 2, none⟩) hb z).setCell (p := ⟨b, 3, none⟩) hb u).setCell (p := ⟨b, 4, none⟩) hb v
/-- the rest written anew -/
theorem DivSt.rest {s : Nat} {ma : Bool} {a0 a1 d0 d1 : Nat} {qm : Bool} {q0 q1 r0 r1 r2 r3 : Nat} {w : World} (h : DivSt s ma a0 a1 d0 d1 qm q0 q1 r0 r1 r2 r3 w) (x y z u : Nat) :
    DivSt s ma a0 a1 d0 d1 qm q0 q1 x y z u (((((w.setCell ⟨s + 5, 0, none⟩ (.bool false)).setCell ⟨s + 5, 1, none⟩ (.int .u64 x)).setCell ⟨s + 5, 2, none⟩ (.int .u64 y)).setCell ⟨s + 5, 3, none⟩ (.int .u64 z)).setCell ⟨s + 5, 4, none⟩ (.int .u64 u)) := by
  obtain ⟨h0, h1, h2, h3, h4, h5, h6⟩ := h
  refine ⟨?_, ?_, ?_, ?_, ?_, row5_set h5 _ _ _ _ _, ?_⟩
  · rw [other5_set (by omega)]; exact h0
  · rw [other5_set (by omega)]; exact h1
  · rw [other5_set (by omega)]; exact h2
  · rw [other5_set (by omega)]; exact h3
  · rw [other5_set (by omega)]; exact h4
  · simpa [World.setCell] using h6
/-- the rest's lowest digit written anew -/
theorem DivSt.digit {s : Nat} {ma : Bool} {a0 a1 d0 d1 : Nat} {qm : Bool} {q0 q1 r0 r1 r2 r3 : Nat} {w : World} (h : DivSt s ma a0 a1 d0 d1 qm q0 q1 r0 r1 r2 r3 w) (x : Nat) :
    DivSt s ma a0 a1 d0 d1 qm q0 q1 x r1 r2 r3 (w.setCell ⟨s + 5, 1, none⟩ (.int .u64 x)) := by
  obtain ⟨h0, h1, h2, h3, h4, h5, h6⟩ := h
  refine ⟨?_, ?_, ?_, ?_, ?_, row_setCell h5 1 _, ?_⟩
  · rw [Below.heap_setCell _ _ _ _ (by simp)]; exact h0
  · rw [Below.heap_setCell _ _ _ _ (by simp)]; exact h1
  · rw [Below.heap_setCell _ _ _ _ (by simp)]; exact h2
  · rw [Below.heap_setCell _ _ _ _ (by simp)]; exact h3
  · rw [Below.heap_setCell _ _ _ _ (by simp)]; exact h4
  · simpa [World.setCell] using h6
/-- the rest's sign written anew -/
theorem DivSt.sign {s : Nat} {ma : Bool} {a0 a1 d0 d1 : Nat} {qm : Bool} {q0 q1 r0 r1 r2 r3 : Nat} {w : World} (h : DivSt s ma a0 a1 d0 d1 qm q0 q1 r0 r1 r2 r3 w) :
    DivSt s ma a0 a1 d0 d1 qm q0 q1 r0 r1 r2 r3 (w.setCell ⟨s + 5, 0, none⟩ (.bool false)) := by
  obtain ⟨h0, h1, h2, h3, h4, h5, h6⟩ := h
  refine ⟨?_, ?_, ?_, ?_, ?_, row_setCell h5 0 _, ?_⟩
  · rw [Below.heap_setCell _ _ _ _ (by simp)]; exact h0
  · rw [Below.heap_setCell _ _ _ _ (by simp)]; exact h1
  · rw [Below.heap_setCell _ _ _ _ (by simp)]; exact h2
  · rw [Below.heap_setCell _ _ _ _ (by simp)]; exact h3
  · rw [Below.heap_setCell _ _ _ _ (by simp)]; exact h4
  · simpa [World.setCell] using h6
theorem DivSt.quo0 {s : Nat} {ma : Bool} {a0 a1 d0 d1 : Nat} {qm : Bool} {q0 q1 r0 r1 r2 r3 : Nat} {w : World} (h : DivSt s ma a0 a1 d0 d1 qm q0 q1 r0 r1 r2 r3 w) (x : Nat) :
    DivSt s ma a0 a1 d0 d1 qm x q1 r0 r1 r2 r3 (w.setCell ⟨s + 4, 1, none⟩ (.int .u64 x)) := by
  obtain ⟨h0, h1, h2, h3, h4, h5, h6⟩ := h
  refine ⟨?_, ?_, ?_, ?_, row_setCell h4 1 _, ?_, ?_⟩
  · rw [Below.heap_setCell _ _ _ _ (by simp)]; exact h0
  · rw [Below.heap_setCell _ _ _ _ (by simp)]; exact h1
  · rw [Below.heap_setCell _ _ _ _ (by simp)]; exact h2
  · rw [Below.heap_setCell _ _ _ _ (by simp)]; exact h3
  · rw [Below.heap_setCell _ _ _ _ (by simp)]; exact h5
  · simpa [World.setCell] using h6
theorem DivSt.quo1 {s : Nat} {ma : Bool} {a0 a1 d0 d1 : Nat} {qm : Bool} {q0 q1 r0 r1 r2 r3 : Nat} {w : World} (h : DivSt s ma a0 a1 d0 d1 qm q0 q1 r0 r1 r2 r3 w) (x : Nat) :
    DivSt s ma a0 a1 d0 d1 qm q0 x r0 r1 r2 r3 (w.setCell ⟨s + 4, 2, none⟩ (.int .u64 x)) := by
  obtain ⟨h0, h1, h2, h3, h4, h5, h6⟩ := h
  refine ⟨?_, ?_, ?_, ?_, row_setCell h4 2 _, ?_, ?_⟩
  · rw [Below.heap_setCell _ _ _ _ (by simp)]; exact h0
  · rw [Below.heap_setCell _ _ _ _ (by simp)]; exact h1
  · rw [Below.heap_setCell _ _ _ _ (by simp)]; exact h2
  · rw [Below.heap_setCell _ _ _ _ (by simp)]; exact h3
  · rw [Below.heap_setCell _ _ _ _ (by simp)]; exact h5
  · simpa [World.setCell] using h6
theorem fresh6 (w : World) (o o' o'' o3 o4 o5 : Obj) : ∃ W : World, W = (((((w.alloc o).alloc o').alloc o'').alloc o3).alloc o4).alloc o5 ∧ W.heap[w.heap.size]? = some o ∧ W.heap[w.heap.size + 1]? = some o' ∧ W.heap[w.heap.size + 2]? = some o'' ∧ W.heap[w.heap.size + 3]? = some o3 ∧ W.heap[w.heap.size + 4]? = some o4 ∧ W.heap[w.heap.size + 5]? = some o5 ∧ W.heap.size = w.heap.size + 6 ∧ Below w.heap.size w W := by
  obtain ⟨h0, h1, h2, h3⟩ := fresh4 w o o' o'' o3
  have s4 : ((((w.alloc o).alloc o').alloc o'').alloc o3).heap.size = w.heap.size + 4 := by simp
  have hb := below4 w o o' o'' o3
  generalize (((w.alloc o).alloc o').alloc o'').alloc o3 = W4 at *
  have s5 : (W4.alloc o4).heap.size = w.heap.size + 5 := by simp [s4]
  refine ⟨_, rfl, ?_, ?_, ?_, ?_, ?_, ?_, by simp [s4], (hb.alloc (by omega) o4).alloc (by omega) o5⟩
  · rw [Lib.alloc_old _ _ _ (by omega), Lib.alloc_old _ _ _ (by omega)]; exact h0
  · rw [Lib.alloc_old _ _ _ (by omega), Lib.alloc_old _ _ _ (by omega)]; exact h1
  · rw [Lib.alloc_old _ _ _ (by omega), Lib.alloc_old _ _ _ (by omega)]; exact h2
  · rw [Lib.alloc_old _ _ _ (by omega), Lib.alloc_old _ _ _ (by omega)]; exact h3
  · rw [Lib.alloc_old _ _ _ (by omega), ← s4]; exact heap_alloc_new _ _
  · rw [← s5]; exact heap_alloc_new _ _
theorem results_two {P : Program} {fn : Func} {p q : Tmp} {ty : TypeId} (h : fn.results = #[.cell p ty, .cell q ty]) (tmps : Array Value) (w : World) (g g' : Nat) (t t' : TypeId) (cs cs' : Array Value) (fr fr' : Nat × Nat) (d : TypeDesc)
    (hp : tmps.getD p undef = .pointer (some ⟨g, 0, none⟩)) (hg : w.heap[g]? = some (.cells cs t fr)) (hq : tmps.getD q undef = .pointer (some ⟨g', 0, none⟩)) (hg' : w.heap[g']? = some (.cells cs' t' fr'))
    (hu : P.underlying ty = some d) (hd : (match d with | .struct _ | .array _ _ => true | _ => false) = true) (hi : (P.info? ty).map (·.size) = some cs.size) (hi' : (P.info? ty).map (·.size) = some cs'.size) :
    (results fn tmps).run P w = .ok (.tuple #[.agg cs, .agg cs']) w := by
  have hp' : tmps[p]?.getD undef = .pointer (some ⟨g, 0, none⟩) := by simpa using hp
  have hq' : tmps[q]?.getD undef = .pointer (some ⟨g', 0, none⟩) := by simpa using hq
  simp [results, h, hp', hq', asAddr, run_loadVar_row w g t ty cs fr d hg hu hd hi, run_loadVar_row w g' t' ty cs' fr' d hg' hu hd hi']
theorem drew_heap (w : World) : w.drew.heap = w.heap := rfl
theorem two_rows {w : World} {b c : Nat} {x y z u v x2 y2 z2 u2 v2 : Value} {t t2 : TypeId} (h : w.heap[b]? = some (.cells #[x, y, z, u, v] t (0, 0))) (h2 : w.heap[c]? = some (.cells #[x2, y2, z2, u2, v2] t2 (0, 0))) (hn : b ≠ c) (x' y' z' u' v' x3 y3 z3 u3 v3 : Value) :
    ((((((((((w.setCell ⟨b, 0, none⟩ x').setCell ⟨b, 1, none⟩ y').setCell ⟨b, 2, none⟩ z').setCell ⟨b, 3, none⟩ u').setCell ⟨b, 4, none⟩ v').setCell ⟨c, 0, none⟩ x3).setCell ⟨c, 1, none⟩ y3).setCell ⟨c, 2, none⟩ z3).setCell ⟨c, 3, none⟩ u3).setCell ⟨c, 4, none⟩ v3).heap[b]? = some (.cells #[x', y', z', u', v'] t (0, 0)) ∧
    ((((((((((w.setCell ⟨b, 0, none⟩ x').setCell ⟨b, 1, none⟩ y').setCell ⟨b, 2, none⟩ z').setCell ⟨b, 3, none⟩ u').setCell ⟨b, 4, none⟩ v').setCell ⟨c, 0, none⟩ x3).setCell ⟨c, 1, none⟩ y3).setCell ⟨c, 2, none⟩ z3).setCell ⟨c, 3, none⟩ u3).setCell ⟨c, 4, none⟩ v3).heap[c]? = some (.cells #[x3, y3, z3, u3, v3] t2 (0, 0)) := by
  refine ⟨?_, ?_⟩
  · rw [other5_set hn]; exact row5_set h _ _ _ _ _
  · exact row5_set ((other5_set (Ne.symm hn) _ _ _ _ _).trans h2) _ _ _ _ _
theorem two_drew {w : World} {b c : Nat} {x y z u v x2 y2 z2 u2 v2 : Value} {t t2 : TypeId} (h : w.heap[b]? = some (.cells #[x, y, z, u, v] t (0, 0))) (h2 : w.heap[c]? = some (.cells #[x2, y2, z2, u2, v2] t2 (0, 0))) (hn : b ≠ c) (x' y' z' u' v' x3 y3 z3 u3 v3 : Value) :
    ((((((((((w.setCell ⟨b, 0, none⟩ x').setCell ⟨b, 1, none⟩ y').setCell ⟨b, 2, none⟩ z').setCell ⟨b, 3, none⟩ u').setCell ⟨b, 4, none⟩ v').setCell ⟨c, 0, none⟩ x3).setCell ⟨c, 1, none⟩ y3).setCell ⟨c, 2, none⟩ z3).setCell ⟨c, 3, none⟩ u3).setCell ⟨c, 4, none⟩ v3).drew.heap[b]? = some (.cells #[x', y', z', u', v'] t (0, 0)) ∧
    ((((((((((w.setCell ⟨b, 0, none⟩ x').setCell ⟨b, 1, none⟩ y').setCell ⟨b, 2, none⟩ z').setCell ⟨b, 3, none⟩ u').setCell ⟨b, 4, none⟩ v').setCell ⟨c, 0, none⟩ x3).setCell ⟨c, 1, none⟩ y3).setCell ⟨c, 2, none⟩ z3).setCell ⟨c, 3, none⟩ u3).setCell ⟨c, 4, none⟩ v3).drew.heap[c]? = some (.cells #[x3, y3, z3, u3, v3] t2 (0, 0)) := by
  rw [drew_heap]
  exact two_rows h h2 hn x' y' z' u' v' x3 y3 z3 u3 v3
def DivInv (n A D q0 q1 r0 r1 r2 r3 : Nat) : Prop :=
  small4 r0 r1 r2 r3 ∧ digs r0 r1 r2 r3 = (A / 2 ^ n) % D ∧ q0 + 4294967296 * q1 = (A / 2 ^ n / D) * 2 ^ n ∧ q0 + 2 ^ (min n 32) ≤ 4294967296 ∧ q1 + 2 ^ (n - 32) ≤ 4294967296

set_option maxRecDepth 100000 in
set_option maxHeartbeats 8000000 in
theorem divide_any (ma mb q : Bool) (hm : (ma == mb) = q) (a0 a1 d0 d1 : Nat) (w : World) (ha0 : a0 < 4294967296) (ha1 : a1 < 4294967296) (hd0 : d0 < 4294967296) (hd1 : d1 < 4294967296) (hD : 0 < d0 + 4294967296 * d1) :
    Calls Tryd.prog 53 #[.agg #[.bool ma, .int .u64 a0, .int .u64 a1, .int .u64 0, .int .u64 0], .agg #[.bool mb, .int .u64 d0, .int .u64 d1, .int .u64 0, .int .u64 0]] w fun e w' => ∃ x y x' y' : Nat, e = .returned (.tuple #[.agg #[.bool (!q), .int .u64 x, .int .u64 y, .int .u64 0, .int .u64 0], .agg #[.bool ma, .int .u64 x', .int .u64 y', .int .u64 0, .int .u64 0]]) ∧ (x + 4294967296 * y = (a0 + 4294967296 * a1) / (d0 + 4294967296 * d1) ∧ x < 4294967296 ∧ y < 4294967296 ∧ x' + 4294967296 * y' = (a0 + 4294967296 * a1) % (d0 + 4294967296 * d1) ∧ x' < 4294967296 ∧ y' < 4294967296) ∧ Below w.heap.size w w' := by
  go_enter Tryd.func53, Tryd.ntmps53
  go_wp2_with fail
  rw [show w.heap.size + 1 + 1 + 1 + 1 + 1 = w.heap.size + 5 from rfl, show w.heap.size + 1 + 1 + 1 + 1 = w.heap.size + 4 from rfl, show w.heap.size + 1 + 1 + 1 = w.heap.size + 3 from rfl, show w.heap.size + 1 + 1 = w.heap.size + 2 from rfl]
  go_loopw [8] (fun iv wr => ∃ (n q0 q1 r0 r1 r2 r3 : Nat), n ≤ 64 ∧ iv = .int .i64 ((n : Int) - 1) ∧ Hid (Below w.heap.size w wr) ∧ Hid (DivSt w.heap.size ma a0 a1 d0 d1 (!q) q0 q1 r0 r1 r2 r3 wr) ∧ Hid (DivInv n (a0 + 4294967296 * a1) (d0 + 4294967296 * d1) q0 q1 r0 r1 r2 r3)) (fun iv _ => (intOf iv + 1).toNat)
  case atStart =>
    obtain ⟨W, hW, h0, h1, h2, h3, h4, h5, h6, hB⟩ := fresh6 w (.cells #[.bool ma, .int .u64 a0, .int .u64 a1, .int .u64 0, .int .u64 0] 66) (.cells #[.bool false, .int .u64 d0, .int .u64 d1, .int .u64 0, .int .u64 0] 66) (.cells #[.bool false, .int .u64 0, .int .u64 0, .int .u64 0, .int .u64 0] 66) (.cells #[.bool false, .int .u64 0, .int .u64 0, .int .u64 0, .int .u64 0] 66) (.cells #[.bool (!q), .int .u64 0, .int .u64 0, .int .u64 0, .int .u64 0] 66) (.cells #[.bool false, .int .u64 0, .int .u64 0, .int .u64 0, .int .u64 0] 66)
    subst hW
    refine ⟨64, 0, 0, 0, 0, 0, 0, by omega, by rfl, hB, ⟨h0, h1, h2, h3, h4, h5, by omega⟩, ⟨⟨by omega, by omega, by omega, by omega⟩, ?_, ?_, by decide, by decide⟩⟩
    · rw [Nat.div_eq_of_lt (show a0 + 4294967296 * a1 < 2 ^ 64 by omega), Nat.zero_mod]; rfl
    · rw [Nat.div_eq_of_lt (show a0 + 4294967296 * a1 < 2 ^ 64 by omega), Nat.zero_div]
  case round =>
    obtain ⟨n, q0, q1, r0, r1, r2, r3, hn, rfl, hb, hS, hI⟩ := hrel
    by_cases n0 : n = 0
    · subst n0
      obtain ⟨hr, hI2, hI3, hI4, hI5⟩ := hI.out
      rw [Nat.pow_zero, Nat.div_one] at hI2 hI3
      rw [Nat.mul_one] at hI3
      simp at hI4 hI5
      have hm := Nat.mod_lt (a0 + 4294967296 * a1) hD
      have hz : r2 = 0 ∧ r3 = 0 := by unfold digs at hI2; omega
      obtain ⟨rfl, rfl⟩ := hz
      have HF := hid (show q0 + 4294967296 * q1 = (a0 + 4294967296 * a1) / (d0 + 4294967296 * d1) ∧ q0 < 4294967296 ∧ q1 < 4294967296 ∧ r0 + 4294967296 * r1 = (a0 + 4294967296 * a1) % (d0 + 4294967296 * d1) ∧ r0 < 4294967296 ∧ r1 < 4294967296 from ⟨hI3, by omega, by omega, by unfold digs at hI2; omega, hr.1, hr.2.1⟩)
      have t0 : decide ((0 : Int) ≤ ((0 : Nat) : Int) - 1) = false := by rfl
      obtain ⟨s0, s1, s2, s3, s4, s5, s6⟩ := hS.out
      obtain ⟨y0, y1, y2, y3, y4⟩ := row5 s0
      obtain ⟨v0, v1, v2, v3, v4⟩ := row5 s4
      obtain ⟨x0, x1, x2, x3, x4⟩ := row5 s5
      obtain ⟨f0, f1, f2, f3, f4⟩ := free5 s5
      have T5 := row_setCell s5 0 (.bool ma)
      have T4 := (Below.heap_setCell wr ⟨w.heap.size + 5, 0, none⟩ (.bool ma) (w.heap.size + 4) (by simp)).trans s4
      have T2 := (Below.heap_setCell wr ⟨w.heap.size + 5, 0, none⟩ (.bool ma) (w.heap.size + 2) (by simp)).trans s2
      have T3 := (Below.heap_setCell wr ⟨w.heap.size + 5, 0, none⟩ (.bool ma) (w.heap.size + 3) (by simp)).trans s3
      have TB := hb.out.setCell (p := ⟨w.heap.size + 5, 0, none⟩) (by simp) (.bool ma)
      clear hI hI2 hI3 hI4 hI5 hm hr s0 s1 s2 s3 s4 s5
      go_upto_region 17 with fail
      clear y0 y1 y2 y3 y4 v0 v1 v2 v3 v4 x0 x1 x2 x3 x4 f0 f1 f2 f3 f4
      generalize World.setCell _ _ (.bool ma) = w9 at *
      obtain ⟨v0, v1, v2, v3, v4⟩ := row5 T4
      obtain ⟨x0, x1, x2, x3, x4⟩ := row5 T5
      obtain ⟨f0, f1, f2, f3, f4⟩ := free5 T2
      obtain ⟨g0, g1, g2, g3, g4⟩ := free5 T3
      obtain ⟨k0, k1, k2, k3, k4⟩ := row5 T2
      obtain ⟨l0, l1, l2, l3, l4⟩ := row5 T3
      have HT2 := hid T2
      have HT3 := hid T3
      have HTB := hid TB
      clear T2 T3 T4 T5 TB
      have HA := hid (two_drew HT2.out HT3.out (by omega) (.bool (!q)) (.int .u64 q0) (.int .u64 q1) (.int .u64 0) (.int .u64 0) (.bool ma) (.int .u64 r0) (.int .u64 r1) (.int .u64 0) (.int .u64 0))
      have HB := hid (two_drew HT3.out HT2.out (by omega) (.bool ma) (.int .u64 r0) (.int .u64 r1) (.int .u64 0) (.int .u64 0) (.bool (!q)) (.int .u64 q0) (.int .u64 q1) (.int .u64 0) (.int .u64 0))
      have KA := hid (below5_set (b := w.heap.size + 3) (below5_set (b := w.heap.size + 2) HTB.out (by omega) (.bool (!q)) (.int .u64 q0) (.int .u64 q1) (.int .u64 0) (.int .u64 0)) (by omega) (.bool ma) (.int .u64 r0) (.int .u64 r1) (.int .u64 0) (.int .u64 0)).drew
      have KB := hid (below5_set (b := w.heap.size + 2) (below5_set (b := w.heap.size + 3) HTB.out (by omega) (.bool ma) (.int .u64 r0) (.int .u64 r1) (.int .u64 0) (.int .u64 0)) (by omega) (.bool (!q)) (.int .u64 q0) (.int .u64 q1) (.int .u64 0) (.int .u64 0)).drew
      go_region_with (fail)
      all_goals
        go_wp2_with fail
        first
          | exact bodyPost_ret (v := .tuple #[.agg #[.bool (!q), .int .u64 q0, .int .u64 q1, .int .u64 0, .int .u64 0], .agg #[.bool ma, .int .u64 r0, .int .u64 r1, .int .u64 0, .int .u64 0]]) (results_two rfl _ _ (w.heap.size + 2) (w.heap.size + 3) 66 66 _ _ (0, 0) (0, 0) _ rfl HA.out.1 rfl HA.out.2 Tryd.underlying66 rfl infoWide infoWide) rfl ⟨q0, q1, r0, r1, rfl, HF.out, KA.out⟩
          | exact bodyPost_ret (v := .tuple #[.agg #[.bool (!q), .int .u64 q0, .int .u64 q1, .int .u64 0, .int .u64 0], .agg #[.bool ma, .int .u64 r0, .int .u64 r1, .int .u64 0, .int .u64 0]]) (results_two rfl _ _ (w.heap.size + 2) (w.heap.size + 3) 66 66 _ _ (0, 0) (0, 0) _ rfl HB.out.2 rfl HB.out.1 Tryd.underlying66 rfl infoWide infoWide) rfl ⟨q0, q1, r0, r1, rfl, HF.out, KB.out⟩
    · obtain ⟨i, rfl⟩ : ∃ i, n = i + 1 := ⟨n - 1, by omega⟩
      obtain ⟨s0, s1, s2, s3, s4, s5, s6⟩ := hS.out
      obtain ⟨hr, hI2, hI3, hI4, hI5⟩ := hI.out
      obtain ⟨x0, x1, x2, x3, x4⟩ := row5 s5
      have e0 : (((i + 1 : Nat) : Int) - 1) = (i : Int) := by omega
      have t0 : decide ((0 : Int) ≤ (i : Int)) = true := by simp
      have hrD : digs r0 r1 r2 r3 < d0 + 4294967296 * d1 := by rw [hI2]; exact Nat.mod_lt _ hD
      have cP := plus_same false r0 r1 r2 r3 r0 r1 r2 r3 wr hr hr (by omega)
      have HI := hid (And.intro hI2 (And.intro hI3 (And.intro hI4 (And.intro hI5 hrD))))
      clear hI hI2 hI3 hI4 hI5 hrD s0 s1 s2 s3 s4 s5
      rw [e0]
      go_wp2_with fail
      refine cP.mono ?_
      rintro e w2 ⟨x, y, z, u, rfl, hx, hxs, b2⟩
      have hS2 := hS.out.below b2
      have B2 := hid (hb.out.trans (b2.mono hb.out.size))
      have hS3 := hS2.rest x y z u
      have B3 := below5_set (b := w.heap.size + 5) B2.out (by omega) (.bool false) (.int .u64 x) (.int .u64 y) (.int .u64 z) (.int .u64 u)
      obtain ⟨s0, s1, s2, s3, s4, s5, s6⟩ := hS2
      obtain ⟨x0, x1, x2, x3, x4⟩ := row5 s5
      obtain ⟨f0, f1, f2, f3, f4⟩ := free5 s5
      have HX := hid hx
      clear cP s0 s1 s2 s3 s4 s5 B2 hx b2
      go_upto_region 8 with fail
      have HS3 := hid hS3
      have HB3 := hid B3
      clear hS3 B3 x0 x1 x2 x3 x4 f0 f1 f2 f3 f4
      generalize World.setCell _ _ (.int .u64 (u : Int)) = w3 at *
      obtain ⟨s0, s1, s2, s3, s4, s5, s6⟩ := HS3.out
      obtain ⟨x0, x1, x2, x3, x4⟩ := row5 s5
      obtain ⟨f0, f1, f2, f3, f4⟩ := free5 s5
      obtain ⟨y0, y1, y2, y3, y4⟩ := row5 s0
      clear s0 s1 s2 s3 s4 s5
      rcases (by omega : i < 32 ∨ 32 ≤ i) with hi | hi
      · have i1 : ((i : Int)).tdiv 32 = 0 := by rw [Int.tdiv_eq_ediv_of_nonneg (by omega)]; omega
        have i2 : ((i : Int)) / 32 = 0 := by omega
        have i3 : ((i : Int)).tmod 32 = (i : Int) := by rw [Int.tmod_eq_emod_of_nonneg (by omega)]; omega
        have i4 : ((i : Int)) % 32 = (i : Int) := by omega
        obtain ⟨bt, hbt⟩ : ∃ bt, a0 / 2 ^ i % 2 = bt := ⟨_, rfl⟩
        have bw : ((a0 : Int) / 2 ^ i).tmod 2 = (bt : Int) := by
          rw [← hbt, Int.tmod_eq_emod_of_nonneg (Int.ediv_nonneg (by omega) (Int.le_of_lt (Int.pow_pos (by omega))))]
          simp
        have HBT := hid hbt
        have hx0 : x + bt < 4294967296 ∧ bt ≤ 1 := by
          have h1 := HX.out
          have h2 : bt ≤ 1 := by omega
          have h3 : x % 2 = 0 := by unfold digs at h1; omega
          obtain ⟨h4, _⟩ := hxs
          omega
        obtain ⟨x', hx'⟩ : ∃ x', x + bt = x' := ⟨_, rfl⟩
        have xw : IntKind.u64.wrap ((x : Int) + (bt : Int)) = (x' : Int) := by rw [IntKind.wrap_u64]; omega
        have hS4 := hid (HS3.out.digit x')
        have hB4 := hid (HB3.out.setCell (p := ⟨w.heap.size + 5, 1, none⟩) (by simp) (.int .u64 (x' : Int)))
        have HX0 := hid (And.intro hx' hx0)
        clear hbt hx' hx0 HS3 HB3
        go_upto_region 10 with fail
        clear x0 x1 x2 x3 x4 f0 f1 f2 f3 f4 y0 y1 y2 y3 y4 bw xw
        generalize World.setCell _ _ (.int .u64 (x' : Int)) = w4 at *
        obtain ⟨s0, s1, s2, s3, s4, s5, s6⟩ := hS4.out
        obtain ⟨x0, x1, x2, x3, x4⟩ := row5 s5
        obtain ⟨y0, y1, y2, y3, y4⟩ := row5 s1
        clear s0 s1 s2 s3 s4 s5
        have cL := below_any false false x' y z u d0 d1 0 0 w4
        obtain ⟨L, hL⟩ : ∃ L, lessB x' y z u d0 d1 0 0 = L := ⟨_, rfl⟩
        rw [hL] at cL
        have HLL := hid hL
        clear hL
        go_wp2_with fail
        refine cL.mono ?_
        rintro e w5 ⟨rfl, b5⟩
        have hS5 := hid (hS4.out.below b5)
        have hB5 := hid (hB4.out.trans (b5.mono hB4.out.size))
        clear cL b5 hS4 hB4 x0 x1 x2 x3 x4 y0 y1 y2 y3 y4 s6
        obtain ⟨hxa, hxb⟩ := HX0.out
        have hsx : small4 x' y z u := ⟨hxa ▸ hxb.1, hxs.2.1, hxs.2.2.1, hxs.2.2.2⟩
        have hdx : digs x' y z u = 2 * digs r0 r1 r2 r3 + bt := by
          have := HX.out
          unfold digs at this ⊢
          omega
        have hAi := half_div (a0 + 4294967296 * a1) i
        rw [← bit_low a0 a1 i hi, HBT.out] at hAi
        have hdd : digs d0 d1 0 0 = d0 + 4294967296 * d1 := by unfold digs; omega
        have HQ := hid (And.intro hsx (And.intro hdx (And.intro hAi hdd)))
        clear hsx hdx hAi hdd hxa hxb
        cases L
        · have HH : Hid (∀ x1 y1 z1 u1, digs x1 y1 z1 u1 = digs x' y z u - digs d0 d1 0 0 → small4 x1 y1 z1 u1 → DivInv i (a0 + 4294967296 * a1) (d0 + 4294967296 * d1) (q0 + 2 ^ i) q1 x1 y1 z1 u1 ∧ q0 + 2 ^ i < 18446744073709551616) := by
            show ∀ _ _ _ _, _
            intro x1 y1 z1 u1 hx1 hs1
            obtain ⟨hsx, hdx, hAi, hdd⟩ := HQ.out
            obtain ⟨i2, i3, i4, i5, i6⟩ := HI.out
            have hle := lessB_false hsx ⟨hd0, hd1, by omega, by omega⟩ HLL.out
            rw [hdx, hdd, i2] at hle
            obtain ⟨u2, u3⟩ := quo_high hD HX0.out.2.2 hle
            rw [hdx, hdd, i2] at hx1
            obtain ⟨pw1, pw2, pw3, pw4⟩ := pow_low hi
            obtain ⟨XX, hXX⟩ : ∃ XX, (a0 + 4294967296 * a1) / 2 ^ (i + 1) / (d0 + 4294967296 * d1) = XX := ⟨_, rfl⟩
            rw [hXX] at i3 u2
            rw [Nat.pow_succ] at i3
            have e9 : (2 * XX + 1) * 2 ^ i = XX * (2 ^ i * 2) + 2 ^ i := by
              rw [Nat.add_mul, Nat.one_mul, Nat.mul_assoc, Nat.mul_left_comm, Nat.mul_comm (2 ^ i) 2]
            refine ⟨⟨hs1, by rw [hAi, u3]; exact hx1, ?_, ?_, ?_⟩, by omega⟩
            · rw [hAi, u2, e9]; omega
            · omega
            · omega
          obtain ⟨s0, s1, s2, s3, s4, s5, s6⟩ := hS5.out
          obtain ⟨y0, y1, y2, y3, y4⟩ := row5 s1
          clear s0 s1 s2 s3 s4 s5 HX HX0 HBT
          have hC6 := heap_alloc_new w5 (.cells #[.bool true, .int .u64 d0, .int .u64 d1, .int .u64 0, .int .u64 0] 66)
          have hS6 := hS5.out.below ((Below.refl _ w5).alloc (Nat.le_refl _) (.cells #[.bool true, .int .u64 d0, .int .u64 d1, .int .u64 0, .int .u64 0] 66))
          have hB6 := hB5.out.alloc hB5.out.size (.cells #[.bool true, .int .u64 d0, .int .u64 d1, .int .u64 0, .int .u64 0] 66)
          go_upto_region 13 with fail
          clear y0 y1 y2 y3 y4
          generalize World.alloc w5 _ = w6 at *
          obtain ⟨c5, hc5⟩ : ∃ c5, w5.heap.size = c5 := ⟨_, rfl⟩
          rw [hc5] at hC6 ⊢
          have HS6 := hid hS6
          have HB6 := hid hB6
          obtain ⟨s0, s1, s2, s3, s4, s5, s6a⟩ := hS6
          obtain ⟨x0, x1, x2, x3, x4⟩ := row5 s5
          obtain ⟨y0, y1, y2, y3, y4⟩ := row5 hC6
          have cP := plus_no false true rfl x' y z u d0 d1 0 0 w6 HQ.out.1 ⟨hd0, hd1, by omega, by omega⟩ HLL.out
          clear hC6 s0 s1 s2 s3 s4 s5 hB6 hS5 hB5 hc5
          go_wp2_with fail
          refine cP.mono ?_
          rintro e w7 ⟨x1', y1', z1', u1', rfl, hd7, hs7, b7⟩
          have hHH := HH.out _ _ _ _ hd7 hs7
          have HD1 := hid hHH.1
          have hov := hHH.2
          have hS7 := HS6.out.below b7
          have B7 := HB6.out.trans (b7.mono HB6.out.size)
          have hS8 := (hS7.rest x1' y1' z1' u1').sign
          have B8 := (below5_set (b := w.heap.size + 5) B7 (by omega) (.bool false) (.int .u64 x1') (.int .u64 y1') (.int .u64 z1') (.int .u64 u1')).setCell (p := ⟨w.heap.size + 5, 0, none⟩) (by simp) (.bool false)
          clear cP b7 hd7 hs7 hHH x0 x1 x2 x3 x4 y0 y1 y2 y3 y4 HH HQ HLL B7
          obtain ⟨s0, s1, s2, s3, s4, s5, s6b⟩ := hS7
          obtain ⟨x0, x1, x2, x3, x4⟩ := row5 s5
          obtain ⟨f0, f1, f2, f3, f4⟩ := free5 s5
          clear s0 s1 s2 s3 s4 s5
          go_upto_region 15 with fail
          have HS8 := hid hS8
          have HB8 := hid B8
          clear hS8 B8 x0 x1 x2 x3 x4 f0 f1 f2 f3 f4
          generalize World.setCell _ _ (.bool false) = w8 at *
          obtain ⟨s0, s1, s2, s3, s4, s5, s6c⟩ := HS8.out
          have e1 : w8.cell? ⟨w.heap.size + 4, 1 + 0, none⟩ = some (.int .u64 q0) := by rw [cell_of_row _ _ _ _ _ _ s4]; rfl
          have f1 : w8.frozen? ⟨w.heap.size + 4, 1 + 0, none⟩ = false := by simp [World.frozen?, s4]
          clear s0 s1 s2 s3 s4 s5
          obtain ⟨pp, hpp⟩ : ∃ pp, 2 ^ i = pp := ⟨_, rfl⟩
          obtain ⟨qn, hqn⟩ : ∃ qn, q0 + pp = qn := ⟨_, rfl⟩
          have pw : IntKind.u64.wrap (2 ^ i) = (pp : Int) := by
            have e : ((2 : Int) ^ i) = ((2 ^ i : Nat) : Int) := by simp
            rw [e, hpp, IntKind.wrap_u64]; omega
          have qw : IntKind.u64.wrap ((q0 : Int) + (pp : Int)) = (qn : Int) := by rw [IntKind.wrap_u64]; omega
          rw [hpp, hqn] at HD1
          have HS9 := hid ((HS8.out.quo0 qn).below (Below.refl _ _).drew)
          have HB9 := hid ((HB8.out.setCell (p := ⟨w.heap.size + 4, 1, none⟩) (by simp) (.int .u64 (qn : Int))).drew)
          clear hpp hqn hov HS8 HB8
          go_region_with (fail)
          all_goals
            go_wp2_with fail
            go_roundw
            case rel => exact ⟨i, qn, q1, x1', y1', z1', u1', by omega, by rfl, HB9, HS9, HD1⟩
            case measure => simp [intOf]
        · have HI2 : Hid (DivInv i (a0 + 4294967296 * a1) (d0 + 4294967296 * d1) q0 q1 x' y z u) := by
            obtain ⟨hsx, hdx, hAi, hdd⟩ := HQ.out
            obtain ⟨i2, i3, i4, i5, i6⟩ := HI.out
            have hlt := lessB_true hsx ⟨hd0, hd1, by omega, by omega⟩ HLL.out
            rw [hdx, hdd, i2] at hlt
            obtain ⟨u2, u3⟩ := quo_low hlt
            obtain ⟨pw1, pw2, pw3, pw4⟩ := pow_low hi
            obtain ⟨XX, hXX⟩ : ∃ XX, (a0 + 4294967296 * a1) / 2 ^ (i + 1) / (d0 + 4294967296 * d1) = XX := ⟨_, rfl⟩
            rw [hXX] at i3 u2
            rw [Nat.pow_succ] at i3
            have e9 : 2 * XX * 2 ^ i = XX * (2 ^ i * 2) := by
              rw [Nat.mul_assoc, Nat.mul_left_comm, Nat.mul_comm (2 ^ i) 2]
            refine ⟨hsx, by rw [hAi, u3, hdx, i2], ?_, ?_, ?_⟩
            · rw [hAi, u2, e9]; exact i3
            · omega
            · omega
          go_wp2_with fail
          go_roundw
          case rel => exact ⟨i, q0, q1, x', y, z, u, by omega, by rfl, hB5, hS5, HI2⟩
          case measure => simp [intOf]
      · have i1 : ((i : Int)).tdiv 32 = 1 := by rw [Int.tdiv_eq_ediv_of_nonneg (by omega)]; omega
        have i2 : ((i : Int)) / 32 = 1 := by omega
        have i3 : ((i : Int)).tmod 32 = ((i - 32 : Nat) : Int) := by rw [Int.tmod_eq_emod_of_nonneg (by omega)]; omega
        have i4 : ((i : Int)) % 32 = ((i - 32 : Nat) : Int) := by omega
        obtain ⟨bt, hbt⟩ : ∃ bt, a1 / 2 ^ (i - 32) % 2 = bt := ⟨_, rfl⟩
        have bw : ((a1 : Int) / 2 ^ (i - 32)).tmod 2 = (bt : Int) := by
          rw [← hbt, Int.tmod_eq_emod_of_nonneg (Int.ediv_nonneg (by omega) (Int.le_of_lt (Int.pow_pos (by omega))))]
          simp
        have HBT := hid hbt
        have hx0 : x + bt < 4294967296 ∧ bt ≤ 1 := by
          have h1 := HX.out
          have h2 : bt ≤ 1 := by omega
          have h3 : x % 2 = 0 := by unfold digs at h1; omega
          obtain ⟨h4, _⟩ := hxs
          omega
        obtain ⟨x', hx'⟩ : ∃ x', x + bt = x' := ⟨_, rfl⟩
        have xw : IntKind.u64.wrap ((x : Int) + (bt : Int)) = (x' : Int) := by rw [IntKind.wrap_u64]; omega
        have hS4 := hid (HS3.out.digit x')
        have hB4 := hid (HB3.out.setCell (p := ⟨w.heap.size + 5, 1, none⟩) (by simp) (.int .u64 (x' : Int)))
        have HX0 := hid (And.intro hx' hx0)
        clear hbt hx' hx0 HS3 HB3
        go_upto_region 10 with fail
        clear x0 x1 x2 x3 x4 f0 f1 f2 f3 f4 y0 y1 y2 y3 y4 bw xw
        generalize World.setCell _ _ (.int .u64 (x' : Int)) = w4 at *
        obtain ⟨s0, s1, s2, s3, s4, s5, s6⟩ := hS4.out
        obtain ⟨x0, x1, x2, x3, x4⟩ := row5 s5
        obtain ⟨y0, y1, y2, y3, y4⟩ := row5 s1
        clear s0 s1 s2 s3 s4 s5
        have cL := below_any false false x' y z u d0 d1 0 0 w4
        obtain ⟨L, hL⟩ : ∃ L, lessB x' y z u d0 d1 0 0 = L := ⟨_, rfl⟩
        rw [hL] at cL
        have HLL := hid hL
        clear hL
        go_wp2_with fail
        refine cL.mono ?_
        rintro e w5 ⟨rfl, b5⟩
        have hS5 := hid (hS4.out.below b5)
        have hB5 := hid (hB4.out.trans (b5.mono hB4.out.size))
        clear cL b5 hS4 hB4 x0 x1 x2 x3 x4 y0 y1 y2 y3 y4 s6
        obtain ⟨hxa, hxb⟩ := HX0.out
        have hsx : small4 x' y z u := ⟨hxa ▸ hxb.1, hxs.2.1, hxs.2.2.1, hxs.2.2.2⟩
        have hdx : digs x' y z u = 2 * digs r0 r1 r2 r3 + bt := by
          have := HX.out
          unfold digs at this ⊢
          omega
        have hAi := half_div (a0 + 4294967296 * a1) i
        rw [← bit_high a0 a1 i ha0 hi, HBT.out] at hAi
        have hdd : digs d0 d1 0 0 = d0 + 4294967296 * d1 := by unfold digs; omega
        have HQ := hid (And.intro hsx (And.intro hdx (And.intro hAi hdd)))
        clear hsx hdx hAi hdd hxa hxb
        cases L
        · have HH : Hid (∀ x1 y1 z1 u1, digs x1 y1 z1 u1 = digs x' y z u - digs d0 d1 0 0 → small4 x1 y1 z1 u1 → DivInv i (a0 + 4294967296 * a1) (d0 + 4294967296 * d1) q0 (q1 + 2 ^ (i - 32)) x1 y1 z1 u1 ∧ q1 + 2 ^ (i - 32) < 18446744073709551616) := by
            show ∀ _ _ _ _, _
            intro x1 y1 z1 u1 hx1 hs1
            obtain ⟨hsx, hdx, hAi, hdd⟩ := HQ.out
            obtain ⟨i2, i3, i4, i5, i6⟩ := HI.out
            have hle := lessB_false hsx ⟨hd0, hd1, by omega, by omega⟩ HLL.out
            rw [hdx, hdd, i2] at hle
            obtain ⟨u2, u3⟩ := quo_high hD HX0.out.2.2 hle
            rw [hdx, hdd, i2] at hx1
            obtain ⟨pw1, pw2, pw3, pw4⟩ := pow_high hi
            obtain ⟨XX, hXX⟩ : ∃ XX, (a0 + 4294967296 * a1) / 2 ^ (i + 1) / (d0 + 4294967296 * d1) = XX := ⟨_, rfl⟩
            rw [hXX] at i3 u2
            rw [Nat.pow_succ] at i3
            have e9 : (2 * XX + 1) * 2 ^ i = XX * (2 ^ i * 2) + 2 ^ i := by
              rw [Nat.add_mul, Nat.one_mul, Nat.mul_assoc, Nat.mul_left_comm, Nat.mul_comm (2 ^ i) 2]
            refine ⟨⟨hs1, by rw [hAi, u3]; exact hx1, ?_, ?_, ?_⟩, by omega⟩
            · rw [hAi, u2, e9]; omega
            · omega
            · omega
          obtain ⟨s0, s1, s2, s3, s4, s5, s6⟩ := hS5.out
          obtain ⟨y0, y1, y2, y3, y4⟩ := row5 s1
          clear s0 s1 s2 s3 s4 s5 HX HX0 HBT
          have hC6 := heap_alloc_new w5 (.cells #[.bool true, .int .u64 d0, .int .u64 d1, .int .u64 0, .int .u64 0] 66)
          have hS6 := hS5.out.below ((Below.refl _ w5).alloc (Nat.le_refl _) (.cells #[.bool true, .int .u64 d0, .int .u64 d1, .int .u64 0, .int .u64 0] 66))
          have hB6 := hB5.out.alloc hB5.out.size (.cells #[.bool true, .int .u64 d0, .int .u64 d1, .int .u64 0, .int .u64 0] 66)
          go_upto_region 13 with fail
          clear y0 y1 y2 y3 y4
          generalize World.alloc w5 _ = w6 at *
          obtain ⟨c5, hc5⟩ : ∃ c5, w5.heap.size = c5 := ⟨_, rfl⟩
          rw [hc5] at hC6 ⊢
          have HS6 := hid hS6
          have HB6 := hid hB6
          obtain ⟨s0, s1, s2, s3, s4, s5, s6a⟩ := hS6
          obtain ⟨x0, x1, x2, x3, x4⟩ := row5 s5
          obtain ⟨y0, y1, y2, y3, y4⟩ := row5 hC6
          have cP := plus_no false true rfl x' y z u d0 d1 0 0 w6 HQ.out.1 ⟨hd0, hd1, by omega, by omega⟩ HLL.out
          clear hC6 s0 s1 s2 s3 s4 s5 hB6 hS5 hB5 hc5
          go_wp2_with fail
          refine cP.mono ?_
          rintro e w7 ⟨x1', y1', z1', u1', rfl, hd7, hs7, b7⟩
          have hHH := HH.out _ _ _ _ hd7 hs7
          have HD1 := hid hHH.1
          have hov := hHH.2
          have hS7 := HS6.out.below b7
          have B7 := HB6.out.trans (b7.mono HB6.out.size)
          have hS8 := (hS7.rest x1' y1' z1' u1').sign
          have B8 := (below5_set (b := w.heap.size + 5) B7 (by omega) (.bool false) (.int .u64 x1') (.int .u64 y1') (.int .u64 z1') (.int .u64 u1')).setCell (p := ⟨w.heap.size + 5, 0, none⟩) (by simp) (.bool false)
          clear cP b7 hd7 hs7 hHH x0 x1 x2 x3 x4 y0 y1 y2 y3 y4 HH HQ HLL B7
          obtain ⟨s0, s1, s2, s3, s4, s5, s6b⟩ := hS7
          obtain ⟨x0, x1, x2, x3, x4⟩ := row5 s5
          obtain ⟨f0, f1, f2, f3, f4⟩ := free5 s5
          clear s0 s1 s2 s3 s4 s5
          go_upto_region 15 with fail
          have HS8 := hid hS8
          have HB8 := hid B8
          clear hS8 B8 x0 x1 x2 x3 x4 f0 f1 f2 f3 f4
          generalize World.setCell _ _ (.bool false) = w8 at *
          obtain ⟨s0, s1, s2, s3, s4, s5, s6c⟩ := HS8.out
          have e1 : w8.cell? ⟨w.heap.size + 4, 1 + 1, none⟩ = some (.int .u64 q1) := by rw [cell_of_row _ _ _ _ _ _ s4]; rfl
          have f1 : w8.frozen? ⟨w.heap.size + 4, 1 + 1, none⟩ = false := by simp [World.frozen?, s4]
          clear s0 s1 s2 s3 s4 s5
          obtain ⟨pp, hpp⟩ : ∃ pp, 2 ^ (i - 32) = pp := ⟨_, rfl⟩
          obtain ⟨qn, hqn⟩ : ∃ qn, q1 + pp = qn := ⟨_, rfl⟩
          have pw : IntKind.u64.wrap (2 ^ (i - 32)) = (pp : Int) := by
            have e : ((2 : Int) ^ (i - 32)) = ((2 ^ (i - 32) : Nat) : Int) := by simp
            rw [e, hpp, IntKind.wrap_u64]; omega
          have qw : IntKind.u64.wrap ((q1 : Int) + (pp : Int)) = (qn : Int) := by rw [IntKind.wrap_u64]; omega
          rw [hpp, hqn] at HD1
          have HS9 := hid ((HS8.out.quo1 qn).below (Below.refl _ _).drew)
          have HB9 := hid ((HB8.out.setCell (p := ⟨w.heap.size + 4, 2, none⟩) (by simp) (.int .u64 (qn : Int))).drew)
          clear hpp hqn hov HS8 HB8
          go_region_with (fail)
          all_goals
            go_wp2_with fail
            go_roundw
            case rel => exact ⟨i, q0, qn, x1', y1', z1', u1', by omega, by rfl, HB9, HS9, HD1⟩
            case measure => simp [intOf]
        · have HI2 : Hid (DivInv i (a0 + 4294967296 * a1) (d0 + 4294967296 * d1) q0 q1 x' y z u) := by
            obtain ⟨hsx, hdx, hAi, hdd⟩ := HQ.out
            obtain ⟨i2, i3, i4, i5, i6⟩ := HI.out
            have hlt := lessB_true hsx ⟨hd0, hd1, by omega, by omega⟩ HLL.out
            rw [hdx, hdd, i2] at hlt
            obtain ⟨u2, u3⟩ := quo_low hlt
            obtain ⟨pw1, pw2, pw3, pw4⟩ := pow_high hi
            obtain ⟨XX, hXX⟩ : ∃ XX, (a0 + 4294967296 * a1) / 2 ^ (i + 1) / (d0 + 4294967296 * d1) = XX := ⟨_, rfl⟩
            rw [hXX] at i3 u2
            rw [Nat.pow_succ] at i3
            have e9 : 2 * XX * 2 ^ i = XX * (2 ^ i * 2) := by
              rw [Nat.mul_assoc, Nat.mul_left_comm, Nat.mul_comm (2 ^ i) 2]
            refine ⟨hsx, by rw [hAi, u3, hdx, i2], ?_, ?_, ?_⟩
            · rw [hAi, u2, e9]; exact i3
            · omega
            · omega
          go_wp2_with fail
          go_roundw
          case rel => exact ⟨i, q0, q1, x', y, z, u, by omega, by rfl, hB5, hS5, HI2⟩
          case measure => simp [intOf]
end Go.Proofs.YtohdifffdgoaaaaDoor
