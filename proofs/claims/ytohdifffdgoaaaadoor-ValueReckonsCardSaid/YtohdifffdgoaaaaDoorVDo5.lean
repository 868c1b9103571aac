/- The walk of the document's Do: the type error. -/
import Derived.Test.YtohdifffdgoaaaaDoorVDo4
namespace Go.Proofs.YtohdifffdgoaaaaDoor
open Go.RowKit
open Go.Lib (hid)
theorem fresh2 (w : World) (o o' : Obj) : (((w.alloc o).alloc o').heap[w.heap.size]? = some o) ∧ (((w.alloc o).alloc o').heap[w.heap.size + 1]? = some o') := by
  have s1 : (w.alloc o).heap.size = w.heap.size + 1 := by simp
  refine ⟨?_, ?_⟩
  · rw [Lib.alloc_old _ _ _ (by omega)]; exact heap_alloc_new w _
  · rw [← s1]; exact heap_alloc_new _ _
theorem grown2 (w : World) (o o' : Obj) : Below w.heap.size w ((w.alloc o).alloc o') := ((Below.refl _ w).alloc (Nat.le_refl _) o).alloc (by simp) o'
theorem size2 (w : World) (o o' : Obj) : ((w.alloc o).alloc o').heap.size = w.heap.size + 2 := by simp

set_option maxRecDepth 100000 in
set_option maxHeartbeats 4000000 in
theorem do_typ1 (op : Int) (k : Nat) (n : Int) (b : Bool) (s : ByteArray) (k' : Nat) (n' : Int) (b' : Bool) (s' : ByteArray) (w : World) (hs : s.size ≤ 9223372036854775803) (hv : V.isInt ⟨k, n, b, s⟩ = false) :
    Calls Tryd.prog 13 #[.int .u8 op, .agg #[.int .u8 k, .int .i64 n, .bool b, .string s], .agg #[.int .u8 k', .int .i64 n', .bool b', .string s']] w fun e w' => e = .returned (.tuple #[.agg #[.int .u8 0, .int .i64 0, .bool false, .string ⟨#[]⟩], .int .i64 90]) ∧ Below w.heap.size w w' := by
  have cI := fun X => isNumber_any k n b s X hs
  rw [hv] at cI
  obtain ⟨f1, f2, f3⟩ := fresh3 w (.cells #[.int .u8 k, .int .i64 n, .bool b, .string s] 23) (.cells #[.int .u8 k', .int .i64 n', .bool b', .string s'] 23) (.cells #[.int .u8 0, .int .i64 0, .bool false, .string ⟨#[]⟩] 23)
  have hs3 : (((w.alloc (.cells #[.int .u8 k, .int .i64 n, .bool b, .string s] 23)).alloc (.cells #[.int .u8 k', .int .i64 n', .bool b', .string s'] 23)).alloc (.cells #[.int .u8 0, .int .i64 0, .bool false, .string ⟨#[]⟩] 23)).heap.size = w.heap.size + 3 := by simp
  have hB := below3 w (.cells #[.int .u8 k, .int .i64 n, .bool b, .string s] 23) (.cells #[.int .u8 k', .int .i64 n', .bool b', .string s'] 23) (.cells #[.int .u8 0, .int .i64 0, .bool false, .string ⟨#[]⟩] 23)
  clear hs hv
  go_enter Tryd.func13, Tryd.ntmps13
  go_wp2_with fail
  refine (cI _).mono ?_
  rintro e w1 ⟨rfl, b1⟩
  rw [← b1.block (w.heap.size + 1) (by omega)] at f2
  rw [← b1.block (w.heap.size + 2) (by omega)] at f3
  have B1 := hB.trans (b1.mono (by omega))
  have z1 : w.heap.size + 3 ≤ w1.heap.size := by have := b1.size; omega
  clear cI b1 hs3 hB f1
  obtain ⟨c0, c1, c2, c3⟩ := row4 f3
  obtain ⟨e0, e1, e2, e3⟩ := free4 f3
  have F3 := hid f3
  have B1 := hid B1
  clear f2 f3
  go_wp2_with fail
  exact bodyPost_ret (v := .tuple #[.agg #[.int .u8 0, .int .i64 0, .bool false, .string ⟨#[]⟩], .int .i64 90]) (results_pair rfl _ _ (w.heap.size + 2) 23 _ (0, 0) _ (.int .i64 90) rfl (row4_set F3.out _ _ _ _) (by rfl) Tryd.underlying23 rfl infoValue) rfl ⟨rfl, below4_set B1.out (by omega) _ _ _ _⟩

set_option maxRecDepth 100000 in
set_option maxHeartbeats 4000000 in
theorem do_typ2 (op : Int) (k : Nat) (n : Int) (b : Bool) (s : ByteArray) (k' : Nat) (n' : Int) (b' : Bool) (s' : ByteArray) (w : World) (hs : s.size ≤ 9223372036854775803) (hs' : s'.size ≤ 9223372036854775803) (hv : V.isInt ⟨k, n, b, s⟩ = true) (hv' : V.isInt ⟨k', n', b', s'⟩ = false) :
    Calls Tryd.prog 13 #[.int .u8 op, .agg #[.int .u8 k, .int .i64 n, .bool b, .string s], .agg #[.int .u8 k', .int .i64 n', .bool b', .string s']] w fun e w' => e = .returned (.tuple #[.agg #[.int .u8 0, .int .i64 0, .bool false, .string ⟨#[]⟩], .int .i64 90]) ∧ Below w.heap.size w w' := by
  have cI := fun X => isNumber_any k n b s X hs
  rw [hv] at cI
  obtain ⟨f1, f2, f3⟩ := fresh3 w (.cells #[.int .u8 k, .int .i64 n, .bool b, .string s] 23) (.cells #[.int .u8 k', .int .i64 n', .bool b', .string s'] 23) (.cells #[.int .u8 0, .int .i64 0, .bool false, .string ⟨#[]⟩] 23)
  have hs3 : (((w.alloc (.cells #[.int .u8 k, .int .i64 n, .bool b, .string s] 23)).alloc (.cells #[.int .u8 k', .int .i64 n', .bool b', .string s'] 23)).alloc (.cells #[.int .u8 0, .int .i64 0, .bool false, .string ⟨#[]⟩] 23)).heap.size = w.heap.size + 3 := by simp
  have hB := below3 w (.cells #[.int .u8 k, .int .i64 n, .bool b, .string s] 23) (.cells #[.int .u8 k', .int .i64 n', .bool b', .string s'] 23) (.cells #[.int .u8 0, .int .i64 0, .bool false, .string ⟨#[]⟩] 23)
  have cI' := fun X => isNumber_any k' n' b' s' X hs'
  rw [hv'] at cI'
  clear hv' hs'
  clear hs hv
  go_enter Tryd.func13, Tryd.ntmps13
  go_wp2_with fail
  refine (cI _).mono ?_
  rintro e w1 ⟨rfl, b1⟩
  rw [← b1.block (w.heap.size + 1) (by omega)] at f2
  rw [← b1.block (w.heap.size + 2) (by omega)] at f3
  have B1 := hB.trans (b1.mono (by omega))
  have z1 : w.heap.size + 3 ≤ w1.heap.size := by have := b1.size; omega
  clear cI b1 hs3 hB f1
  obtain ⟨y0, y1, y2, y3⟩ := row4 f2
  have F3 := hid f3
  clear f2 f3
  go_wp2_with fail
  refine (cI' _).mono ?_
  rintro e w2 ⟨rfl, b2⟩
  have f3 := (b2.block (w.heap.size + 2) (by omega)).trans F3.out
  have B2 := hid (B1.trans (b2.mono (by omega)))
  have z2 : w.heap.size + 3 ≤ w2.heap.size := by have := b2.size; omega
  clear cI' b2 y0 y1 y2 y3 B1 F3 z1
  obtain ⟨c0, c1, c2, c3⟩ := row4 f3
  obtain ⟨e0, e1, e2, e3⟩ := free4 f3
  have F3 := hid f3
  clear f3
  go_wp2_with fail
  exact bodyPost_ret (v := .tuple #[.agg #[.int .u8 0, .int .i64 0, .bool false, .string ⟨#[]⟩], .int .i64 90]) (results_pair rfl _ _ (w.heap.size + 2) 23 _ (0, 0) _ (.int .i64 90) rfl (row4_set F3.out _ _ _ _) (by rfl) Tryd.underlying23 rfl infoValue) rfl ⟨rfl, below4_set B2.out (by omega) _ _ _ _⟩
end Go.Proofs.YtohdifffdgoaaaaDoor
