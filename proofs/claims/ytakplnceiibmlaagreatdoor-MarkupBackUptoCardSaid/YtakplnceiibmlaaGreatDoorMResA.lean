/- Of namespaces: an attribute's kind, copies of a map by text, what it holds. -/
import Derived.Test.YtakplnceiibmlaaGreatDoorMAttrs
import Derived.Shelf.SlMaps.Clone
namespace Go.Proofs.YtakplnceiibmlaaGreatDoor
open Go.RowKit Go.Maps
open Go.Lib (hid)
theorem ba_toList (l : List UInt8) : (X.ba l).toList = l := by simp [ByteArray.toList_eq, X.ba]
set_option maxRecDepth 100000 in
theorem ofSpaces_any (W : World) (y : X.Raw) (x : Int) (v : ByteArray) :
    Calls Tryz.prog 59 #[.agg #[.string (X.ba y.pre), .string (X.ba y.loc), .int .i64 x, .string v]] W fun en W' => en = .returned (.bool y.ofSpaces) ∧ Below W.heap.size W W' := by
  have hy : y.ofSpaces = (decide ((X.ba y.pre).toList = [120, 109, 108, 110, 115]) || decide ((X.ba y.pre).toList = [] ∧ (X.ba y.loc).toList = [120, 109, 108, 110, 115])) := by
    rw [ba_toList, ba_toList]; rfl
  rw [hy]
  generalize X.ba y.pre = a
  generalize X.ba y.loc = b
  obtain ⟨w1, hw1⟩ : ∃ w1, W.alloc (.cells #[.string a, .string b, .int .i64 x, .string v] 111) = w1 := ⟨_, rfl⟩
  have HB : Hid (Below W.heap.size W w1) := by show Below _ _ _; rw [← hw1]; exact (Below.refl _ W).alloc (Nat.le_refl _) _
  have hr : w1.heap[W.heap.size]? = some (.cells #[.string a, .string b, .int .i64 x, .string v] 111 (0, 0)) := by rw [← hw1]; exact heap_alloc_new W _
  obtain ⟨d0, d1, -, -⟩ := row4 hr
  have HW := hid hw1
  clear hw1 hr hy
  go_enter Tryz.func59, Tryz.ntmps59
  go_upto_region 1 with fail
  rw [HW.out]
  go_wp2_with fail
  · rename_i g1
    rw [decide_eq_true g1]
    go_ret
    exact ⟨rfl, HB.out⟩
  · rename_i g1 g2 g3
    rw [decide_eq_false g1, decide_eq_true (⟨g2, g3⟩ : a.toList = [] ∧ b.toList = [120, 109, 108, 110, 115])]
    go_ret
    exact ⟨rfl, HB.out⟩
  · rename_i g1 g2 g3
    rw [decide_eq_false g1, decide_eq_false (fun h : a.toList = [] ∧ b.toList = [120, 109, 108, 110, 115] => g3 h.2)]
    go_ret
    exact ⟨rfl, HB.out⟩
  · rename_i g1 g2
    rw [decide_eq_false g1, decide_eq_false (fun h : a.toList = [] ∧ b.toList = [120, 109, 108, 110, 115] => g2 h.1)]
    go_ret
    exact ⟨rfl, HB.out⟩
/-- a text as a map's datum -/
def textD (v : List UInt8) : DataW Unit := .lit (.string v)
/-- block b holds a map by text as k lists it -/
def KM (w : World) (b N : Nat) (k : X.K) : Prop := w.ownsMap Tryz.prog 9 (plainElem Tryz.prog 9) b N (X.mapD textD k)
theorem KM.below {w w' : World} {b N : Nat} {k : X.K} (h : KM w b N k) (hb : Below w.heap.size w w') : KM w' b N k := map_below h hb
theorem KM.mono {w : World} {b N M : Nat} {k : X.K} (h : KM w b N k) (hM : N ≤ M) : KM w b M k := by
  obtain ⟨es, clock, h1, h2, h3, h4⟩ := h
  exact ⟨es, clock, h1, h2, Nat.le_trans h3 hM, h4⟩
theorem KM.grown {w w' : World} {b N : Nat} {k : X.K} {row : Option Nat} (h : KM w b N k) (g : w.grownBy w' row) (hr : row ≠ some b) : KM w' b N k := h.kept g (Ne.symm hr)
/-- one pair more -/
theorem KM.put {w : World} {b N : Nat} {k : X.K} (h : KM w b N k) (hN : N < maxLen) (p v : ByteArray) (hp : p.size ≤ 1000000000000) (hv : v.size ≤ 1000000000000) :
    ∃ w', (Instr.mapUpdate 59 (.map (some b)) (.string p) (.string v)).run Tryz.prog w = .ok () w' ∧ KM w' b (N + 1) ((p.data.toList, v.data.toList) :: k) ∧ w.mapTurned w' b := by
  obtain ⟨w', h1, h2, h3⟩ := World.ownsMap.store h lawS Tryz.underlying59 hN (keyS hp) (show plainElem (H := Unit) Tryz.prog 9 (.string v) = some (textD v.data.toList, []) from by
    unfold plainElem
    rw [Tryz.underlying9]
    simp only
    rw [if_pos (by unfold maxLen; omega)]
    rfl)
  exact ⟨w', h1, h2, h3⟩
set_option maxRecDepth 100000 in
set_option maxHeartbeats 1000000 in
theorem clone_any (b N : Nat) (k : X.K) (w : World) (h : KM w b N k) :
    Calls Tryz.prog 58 #[.map (some b)] w fun e w' => e = .returned (.map (some w.heap.size)) ∧ KM w' w.heap.size N k ∧ Below w.heap.size w w' := by
  obtain ⟨es, clock, h1, h2, h3, h4⟩ := h
  have hq := fun w => run_eql_map_nil_sl (P := Tryz.prog) w 59 _ _ (some b) Tryz.underlying59
  go_enter Tryz.func58, Tryz.ntmps58
  go_wp2_with fail
  rw [run_callFunc_extern Tryz.func74 (by kernel_rfl) (by kernel_rfl) (by kernel_rfl) (e := Extern.MapsClone.clone) (by kernel_rfl), run_maps_clone_sl w 59 h1]
  simp only [Result.andThen]
  rw [Oper.upon_value]
  go_wp2_with fail
  rw [run_typeAssert_map_sl _ 59 20 _ _ _ Tryz.underlying59]
  simp only [Result.andThen]
  rw [Oper.upon_value]
  go_wp2_with fail
  go_ret
  exact ⟨rfl, ⟨es, clock, heap_alloc_new w _, h2, h3, h4⟩, (Below.refl _ w).alloc (Nat.le_refl _) _⟩
end Go.Proofs.YtakplnceiibmlaaGreatDoor
