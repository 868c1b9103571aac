/- The walk of the document's Do. -/
import Derived.Test.YtohdifffdgoaaaaDoorVDo2
namespace Go.Proofs.YtohdifffdgoaaaaDoor
open Go.RowKit
open Go.Lib (hid)
/-- widen, with its digits named -/
theorem widen_at (n : Int) (h0 : -9223372036854775808 ≤ n) (h1 : n ≤ 9223372036854775807) : ∃ (p : Bool) (a b : Nat), (∀ w, Calls Tryd.prog 49 #[.int .i64 n] w fun e w' => e = .returned (.agg #[.bool p, .int .u64 a, .int .u64 b, .int .u64 0, .int .u64 0]) ∧ Below w.heap.size w w') ∧ small4 a b 0 0 ∧ sgnd p (digs a b 0 0) = n ∧ digs a b 0 0 ≤ 9223372036854775808 ∧ p = decide (n < 0) := by
  refine ⟨decide (n < 0), n.natAbs % 4294967296, n.natAbs / 4294967296, fun w => widen_any n w h0 h1, ⟨by omega, by omega, by omega, by omega⟩, ?_, by unfold digs; omega, rfl⟩
  unfold digs sgnd
  by_cases h : n < 0
  · rw [decide_eq_true h, if_pos rfl]; omega
  · rw [decide_eq_false h, if_neg (by simp)]; omega

set_option maxRecDepth 100000 in
set_option maxHeartbeats 8000000 in
theorem do_plus (n n' : Int) (w : World) (h0 : -9223372036854775808 ≤ n ∧ n ≤ 9223372036854775807) (h0' : -9223372036854775808 ≤ n' ∧ n' ≤ 9223372036854775807)  (R : V.Res) (hR : V.ranged (n + n') = R) :
    Calls Tryd.prog 13 #[.int .u8 43, .agg #[.int .u8 1, .int .i64 n, .bool false, .string ⟨#[]⟩], .agg #[.int .u8 1, .int .i64 n', .bool false, .string ⟨#[]⟩]] w fun e w' => e = .returned (.tuple #[.agg #[.int .u8 R.k, .int .i64 R.n, .bool false, .string ⟨#[]⟩], .int .i64 R.e]) ∧ Below w.heap.size w w' := by
  obtain ⟨p, a, b, cA, hs, hv, hd, -⟩ := widen_at n h0.1 h0.2
  obtain ⟨p', a', b', cA', hs', hv', hd', -⟩ := widen_at n' h0'.1 h0'.2
  have cI := fun X => isNumber_any 1 n false ⟨#[]⟩ X (by decide)
  have cI' := fun X => isNumber_any 1 n' false ⟨#[]⟩ X (by decide)
  rw [show V.isInt ⟨1, n, false, ⟨#[]⟩⟩ = true from rfl] at cI
  rw [show V.isInt ⟨1, n', false, ⟨#[]⟩⟩ = true from rfl] at cI'
  obtain ⟨f1, f2, f3⟩ := fresh3 w (.cells #[.int .u8 1, .int .i64 n, .bool false, .string ⟨#[]⟩] 23) (.cells #[.int .u8 1, .int .i64 n', .bool false, .string ⟨#[]⟩] 23) (.cells #[.int .u8 0, .int .i64 0, .bool false, .string ⟨#[]⟩] 23)
  have hs3 : (((w.alloc (.cells #[.int .u8 1, .int .i64 n, .bool false, .string ⟨#[]⟩] 23)).alloc (.cells #[.int .u8 1, .int .i64 n', .bool false, .string ⟨#[]⟩] 23)).alloc (.cells #[.int .u8 0, .int .i64 0, .bool false, .string ⟨#[]⟩] 23)).heap.size = w.heap.size + 3 := by simp
  have hB := below3 w (.cells #[.int .u8 1, .int .i64 n, .bool false, .string ⟨#[]⟩] 23) (.cells #[.int .u8 1, .int .i64 n', .bool false, .string ⟨#[]⟩] 23) (.cells #[.int .u8 0, .int .i64 0, .bool false, .string ⟨#[]⟩] 23)
  go_enter Tryd.func13, Tryd.ntmps13
  go_wp2_with fail
  refine (cI _).mono ?_
  rintro e w1 ⟨rfl, b1⟩
  rw [← b1.block w.heap.size (by omega)] at f1
  rw [← b1.block (w.heap.size + 1) (by omega)] at f2
  rw [← b1.block (w.heap.size + 2) (by omega)] at f3
  have B1 := hB.trans (b1.mono (by omega))
  have z1 : w.heap.size + 3 ≤ w1.heap.size := by have := b1.size; omega
  clear cI b1 hs3 hB
  obtain ⟨y0, y1, y2, y3⟩ := row4 f2
  have F1 := hid f1
  have F2 := hid f2
  have F3 := hid f3
  clear f1 f2 f3
  go_wp2_with fail
  refine (cI' _).mono ?_
  rintro e w2 ⟨rfl, b2⟩
  have f1 := (b2.block w.heap.size (by omega)).trans F1.out
  have f2 := (b2.block (w.heap.size + 1) (by omega)).trans F2.out
  have f3 := (b2.block (w.heap.size + 2) (by omega)).trans F3.out
  have B2 := hid (B1.trans (b2.mono (by omega)))
  have z2 : w.heap.size + 3 ≤ w2.heap.size := by have := b2.size; omega
  clear cI' b2 y0 y1 y2 y3 B1 F1 F2 F3 z1
  obtain ⟨x0, x1, x2, x3⟩ := row4 f1
  have F2 := hid f2
  have F3 := hid f3
  clear f1 f2 f3
  go_wp2_with fail
  refine (cA _).mono ?_
  rintro e w3 ⟨rfl, b3⟩
  have f2 := (b3.block (w.heap.size + 1) (by omega)).trans F2.out
  have f3 := (b3.block (w.heap.size + 2) (by omega)).trans F3.out
  have B3 := B2.out.trans (b3.mono (by omega))
  have z3 : w.heap.size + 3 ≤ w3.heap.size := by have := b3.size; omega
  have g8 := heap_alloc_new w3 (.cells #[.bool p, .int .u64 a, .int .u64 b, .int .u64 0, .int .u64 0] 66)
  rw [← Lib.alloc_old w3 (.cells #[.bool p, .int .u64 a, .int .u64 b, .int .u64 0, .int .u64 0] 66) _ (by omega)] at f2 f3
  have B4 := hid (B3.alloc (by omega) (.cells #[.bool p, .int .u64 a, .int .u64 b, .int .u64 0, .int .u64 0] 66))
  have z4 : w3.heap.size + 1 = (w3.alloc (.cells #[.bool p, .int .u64 a, .int .u64 b, .int .u64 0, .int .u64 0] 66)).heap.size := by simp
  clear cA b3 x0 x1 x2 x3 B2 F2 F3 z2 B3
  go_upto_region 4 with fail
  generalize World.alloc w3 _ = w4 at *
  obtain ⟨s8, hs8⟩ : ∃ s8, w3.heap.size = s8 := ⟨_, rfl⟩
  rw [hs8] at g8 z3 z4 ⊢
  obtain ⟨y0, y1, y2, y3⟩ := row4 f2
  have F2 := hid f2
  have F3 := hid f3
  have G8 := hid g8
  clear f2 f3 g8 hs8
  go_wp2_with fail
  refine (cA' _).mono ?_
  rintro e w5 ⟨rfl, b5⟩
  have f3 := (b5.block (w.heap.size + 2) (by omega)).trans F3.out
  have f2 := (b5.block (w.heap.size + 1) (by omega)).trans F2.out
  have g8 := (b5.block s8 (by omega)).trans G8.out
  have B5 := B4.out.trans (b5.mono (by omega))
  have z5 : s8 + 1 ≤ w5.heap.size := by have := b5.size; omega
  clear cA' b5 y0 y1 y2 y3 B4 F2 F3 G8 z4
  go_upto_region 5 with fail
  have g9 := heap_alloc_new w5 (.cells #[.bool p', .int .u64 a', .int .u64 b', .int .u64 0, .int .u64 0] 66)
  rw [← Lib.alloc_old w5 (.cells #[.bool p', .int .u64 a', .int .u64 b', .int .u64 0, .int .u64 0] 66) _ (by omega)] at f3 g8 f2
  have B6 := B5.alloc (by omega) (.cells #[.bool p', .int .u64 a', .int .u64 b', .int .u64 0, .int .u64 0] 66)
  have z6 : w5.heap.size + 1 = (w5.alloc (.cells #[.bool p', .int .u64 a', .int .u64 b', .int .u64 0, .int .u64 0] 66)).heap.size := by simp
  clear B5
  generalize World.alloc w5 _ = w6 at *
  obtain ⟨s9, hs9⟩ : ∃ s9, w5.heap.size = s9 := ⟨_, rfl⟩
  rw [hs9] at g9 z5 z6 ⊢
  clear hs9
  obtain ⟨x0, x1, x2, x3, x4⟩ := row5 g8
  obtain ⟨y0, y1, y2, y3, y4⟩ := row5 g9
  clear f2
  have F3 := hid f3
  have B6 := hid B6
  have cP := plus_any p p' a b 0 0 a' b' 0 0 w6 hs hs' (by omega)
  rw [hv, hv'] at cP
  clear f3 g8 g9
  go_wp2_with fail
  refine cP.mono ?_
  rintro e w7 ⟨q, x, y, z, u, rfl, hx, hxs, b7⟩
  have f3 := (b7.block (w.heap.size + 2) (by omega)).trans F3.out
  have B7 := hid (B6.out.trans (b7.mono (by omega)))
  have z7 : w.heap.size + 3 ≤ w7.heap.size := by have := b7.size; omega
  have cN := number_any2 q x y z u w7 hxs R (by rw [hx]; exact hR)
  have F3 := hid f3
  clear cP f3 x0 x1 x2 x3 x4 y0 y1 y2 y3 y4 b7 hx hR B6 hv hv'
  go_wp2_with fail
  refine (cN).mono ?_
  rintro e w8 ⟨rfl, b8⟩
  have f3 := (b8.block (w.heap.size + 2) (by omega)).trans F3.out
  have B8 := hid (B7.out.trans (b8.mono (by omega)))
  obtain ⟨c0, c1, c2, c3⟩ := row4 f3
  obtain ⟨e0, e1, e2, e3⟩ := free4 f3
  have F3 := hid f3
  clear f3 b8 B7
  go_wp2_with fail
  exact bodyPost_ret (v := .tuple #[.agg #[.int .u8 R.k, .int .i64 R.n, .bool false, .string ⟨#[]⟩], .int .i64 R.e]) (results_pair rfl _ _ (w.heap.size + 2) 23 _ (0, 0) _ (.int .i64 R.e) rfl (row4_set F3.out _ _ _ _) (by rfl) Tryd.underlying23 rfl infoValue) rfl ⟨rfl, below4_set B8.out (by omega) _ _ _ _⟩

set_option maxRecDepth 100000 in
set_option maxHeartbeats 8000000 in
theorem do_minus (n n' : Int) (w : World) (h0 : -9223372036854775808 ≤ n ∧ n ≤ 9223372036854775807) (h0' : -9223372036854775808 ≤ n' ∧ n' ≤ 9223372036854775807)  (R : V.Res) (hR : V.ranged (n - n') = R) :
    Calls Tryd.prog 13 #[.int .u8 45, .agg #[.int .u8 1, .int .i64 n, .bool false, .string ⟨#[]⟩], .agg #[.int .u8 1, .int .i64 n', .bool false, .string ⟨#[]⟩]] w fun e w' => e = .returned (.tuple #[.agg #[.int .u8 R.k, .int .i64 R.n, .bool false, .string ⟨#[]⟩], .int .i64 R.e]) ∧ Below w.heap.size w w' := by
  obtain ⟨p, a, b, cA, hs, hv, hd, -⟩ := widen_at n h0.1 h0.2
  obtain ⟨p', a', b', cA', hs', hv', hd', -⟩ := widen_at n' h0'.1 h0'.2
  have cI := fun X => isNumber_any 1 n false ⟨#[]⟩ X (by decide)
  have cI' := fun X => isNumber_any 1 n' false ⟨#[]⟩ X (by decide)
  rw [show V.isInt ⟨1, n, false, ⟨#[]⟩⟩ = true from rfl] at cI
  rw [show V.isInt ⟨1, n', false, ⟨#[]⟩⟩ = true from rfl] at cI'
  obtain ⟨f1, f2, f3⟩ := fresh3 w (.cells #[.int .u8 1, .int .i64 n, .bool false, .string ⟨#[]⟩] 23) (.cells #[.int .u8 1, .int .i64 n', .bool false, .string ⟨#[]⟩] 23) (.cells #[.int .u8 0, .int .i64 0, .bool false, .string ⟨#[]⟩] 23)
  have hs3 : (((w.alloc (.cells #[.int .u8 1, .int .i64 n, .bool false, .string ⟨#[]⟩] 23)).alloc (.cells #[.int .u8 1, .int .i64 n', .bool false, .string ⟨#[]⟩] 23)).alloc (.cells #[.int .u8 0, .int .i64 0, .bool false, .string ⟨#[]⟩] 23)).heap.size = w.heap.size + 3 := by simp
  have hB := below3 w (.cells #[.int .u8 1, .int .i64 n, .bool false, .string ⟨#[]⟩] 23) (.cells #[.int .u8 1, .int .i64 n', .bool false, .string ⟨#[]⟩] 23) (.cells #[.int .u8 0, .int .i64 0, .bool false, .string ⟨#[]⟩] 23)
  go_enter Tryd.func13, Tryd.ntmps13
  go_wp2_with fail
  refine (cI _).mono ?_
  rintro e w1 ⟨rfl, b1⟩
  rw [← b1.block w.heap.size (by omega)] at f1
  rw [← b1.block (w.heap.size + 1) (by omega)] at f2
  rw [← b1.block (w.heap.size + 2) (by omega)] at f3
  have B1 := hB.trans (b1.mono (by omega))
  have z1 : w.heap.size + 3 ≤ w1.heap.size := by have := b1.size; omega
  clear cI b1 hs3 hB
  obtain ⟨y0, y1, y2, y3⟩ := row4 f2
  have F1 := hid f1
  have F2 := hid f2
  have F3 := hid f3
  clear f1 f2 f3
  go_wp2_with fail
  refine (cI' _).mono ?_
  rintro e w2 ⟨rfl, b2⟩
  have f1 := (b2.block w.heap.size (by omega)).trans F1.out
  have f2 := (b2.block (w.heap.size + 1) (by omega)).trans F2.out
  have f3 := (b2.block (w.heap.size + 2) (by omega)).trans F3.out
  have B2 := hid (B1.trans (b2.mono (by omega)))
  have z2 : w.heap.size + 3 ≤ w2.heap.size := by have := b2.size; omega
  clear cI' b2 y0 y1 y2 y3 B1 F1 F2 F3 z1
  obtain ⟨x0, x1, x2, x3⟩ := row4 f1
  have F2 := hid f2
  have F3 := hid f3
  clear f1 f2 f3
  go_wp2_with fail
  refine (cA _).mono ?_
  rintro e w3 ⟨rfl, b3⟩
  have f2 := (b3.block (w.heap.size + 1) (by omega)).trans F2.out
  have f3 := (b3.block (w.heap.size + 2) (by omega)).trans F3.out
  have B3 := B2.out.trans (b3.mono (by omega))
  have z3 : w.heap.size + 3 ≤ w3.heap.size := by have := b3.size; omega
  have g8 := heap_alloc_new w3 (.cells #[.bool p, .int .u64 a, .int .u64 b, .int .u64 0, .int .u64 0] 66)
  rw [← Lib.alloc_old w3 (.cells #[.bool p, .int .u64 a, .int .u64 b, .int .u64 0, .int .u64 0] 66) _ (by omega)] at f2 f3
  have B4 := hid (B3.alloc (by omega) (.cells #[.bool p, .int .u64 a, .int .u64 b, .int .u64 0, .int .u64 0] 66))
  have z4 : w3.heap.size + 1 = (w3.alloc (.cells #[.bool p, .int .u64 a, .int .u64 b, .int .u64 0, .int .u64 0] 66)).heap.size := by simp
  clear cA b3 x0 x1 x2 x3 B2 F2 F3 z2 B3
  go_upto_region 4 with fail
  generalize World.alloc w3 _ = w4 at *
  obtain ⟨s8, hs8⟩ : ∃ s8, w3.heap.size = s8 := ⟨_, rfl⟩
  rw [hs8] at g8 z3 z4 ⊢
  obtain ⟨y0, y1, y2, y3⟩ := row4 f2
  have F2 := hid f2
  have F3 := hid f3
  have G8 := hid g8
  clear f2 f3 g8 hs8
  go_wp2_with fail
  refine (cA' _).mono ?_
  rintro e w5 ⟨rfl, b5⟩
  have f3 := (b5.block (w.heap.size + 2) (by omega)).trans F3.out
  have f2 := (b5.block (w.heap.size + 1) (by omega)).trans F2.out
  have g8 := (b5.block s8 (by omega)).trans G8.out
  have B5 := B4.out.trans (b5.mono (by omega))
  have z5 : s8 + 1 ≤ w5.heap.size := by have := b5.size; omega
  clear cA' b5 y0 y1 y2 y3 B4 F2 F3 G8 z4
  go_upto_region 5 with fail
  have g9 := heap_alloc_new w5 (.cells #[.bool p', .int .u64 a', .int .u64 b', .int .u64 0, .int .u64 0] 66)
  rw [← Lib.alloc_old w5 (.cells #[.bool p', .int .u64 a', .int .u64 b', .int .u64 0, .int .u64 0] 66) _ (by omega)] at f3 g8 f2
  have B6 := B5.alloc (by omega) (.cells #[.bool p', .int .u64 a', .int .u64 b', .int .u64 0, .int .u64 0] 66)
  have z6 : w5.heap.size + 1 = (w5.alloc (.cells #[.bool p', .int .u64 a', .int .u64 b', .int .u64 0, .int .u64 0] 66)).heap.size := by simp
  clear B5
  generalize World.alloc w5 _ = w6 at *
  obtain ⟨s9, hs9⟩ : ∃ s9, w5.heap.size = s9 := ⟨_, rfl⟩
  rw [hs9] at g9 z5 z6 ⊢
  clear hs9
  clear f2
  obtain ⟨y0, y1, y2, y3, y4⟩ := row5 g9
  obtain ⟨k0, k1, k2, k3, k4⟩ := free5 g9
  have g9' := row_setCell g9 0 (.bool (!p'))
  have g8' := (Below.heap_setCell w6 ⟨s9, 0, none⟩ (.bool (!p')) s8 (by show s8 ≠ s9; omega)).trans g8
  have f3' := (Below.heap_setCell w6 ⟨s9, 0, none⟩ (.bool (!p')) (w.heap.size + 2) (by show _ ≠ s9; omega)).trans f3
  have B6' := B6.setCell (p := ⟨s9, 0, none⟩) (by show _ ≤ s9; omega) (.bool (!p'))
  have z6' : s9 + 1 = (w6.setCell ⟨s9, 0, none⟩ (.bool (!p'))).heap.size := by simpa [World.setCell] using z6
  clear g9 g8 f3 B6 z6
  go_upto_region 10 with fail
  clear y0 y1 y2 y3 y4 k0 k1 k2 k3 k4
  generalize World.setCell w6 _ _ = w6' at *
  obtain ⟨x0, x1, x2, x3, x4⟩ := row5 g8'
  obtain ⟨y0, y1, y2, y3, y4⟩ := row5 g9'
  have F3 := hid f3'
  have B6 := hid B6'
  have cP := plus_any p (!p') a b 0 0 a' b' 0 0 w6' hs hs' (by omega)
  have hng : sgnd (!p') (digs a' b' 0 0) = -n' := by rw [← hv']; cases p' <;> simp [sgnd]
  rw [hv, hng] at cP
  clear f3' g8' g9' hng
  go_wp2_with fail
  refine cP.mono ?_
  rintro e w7 ⟨q, x, y, z, u, rfl, hx, hxs, b7⟩
  have f3 := (b7.block (w.heap.size + 2) (by omega)).trans F3.out
  have B7 := hid (B6.out.trans (b7.mono (by omega)))
  have z7 : w.heap.size + 3 ≤ w7.heap.size := by have := b7.size; omega
  have cN := number_any2 q x y z u w7 hxs R (by rw [hx, ← Int.sub_eq_add_neg]; exact hR)
  have F3 := hid f3
  clear cP f3 x0 x1 x2 x3 x4 y0 y1 y2 y3 y4 b7 hx hR B6 hv hv'
  go_wp2_with fail
  refine (cN).mono ?_
  rintro e w8 ⟨rfl, b8⟩
  have f3 := (b8.block (w.heap.size + 2) (by omega)).trans F3.out
  have B8 := hid (B7.out.trans (b8.mono (by omega)))
  obtain ⟨c0, c1, c2, c3⟩ := row4 f3
  obtain ⟨e0, e1, e2, e3⟩ := free4 f3
  have F3 := hid f3
  clear f3 b8 B7
  go_wp2_with fail
  exact bodyPost_ret (v := .tuple #[.agg #[.int .u8 R.k, .int .i64 R.n, .bool false, .string ⟨#[]⟩], .int .i64 R.e]) (results_pair rfl _ _ (w.heap.size + 2) 23 _ (0, 0) _ (.int .i64 R.e) rfl (row4_set F3.out _ _ _ _) (by rfl) Tryd.underlying23 rfl infoValue) rfl ⟨rfl, below4_set B8.out (by omega) _ _ _ _⟩

set_option maxRecDepth 100000 in
set_option maxHeartbeats 8000000 in
theorem do_times (n n' : Int) (w : World) (h0 : -9223372036854775808 ≤ n ∧ n ≤ 9223372036854775807) (h0' : -9223372036854775808 ≤ n' ∧ n' ≤ 9223372036854775807)  (R : V.Res) (hR : V.ranged (n * n') = R) :
    Calls Tryd.prog 13 #[.int .u8 42, .agg #[.int .u8 1, .int .i64 n, .bool false, .string ⟨#[]⟩], .agg #[.int .u8 1, .int .i64 n', .bool false, .string ⟨#[]⟩]] w fun e w' => e = .returned (.tuple #[.agg #[.int .u8 R.k, .int .i64 R.n, .bool false, .string ⟨#[]⟩], .int .i64 R.e]) ∧ Below w.heap.size w w' := by
  obtain ⟨p, a, b, cA, hs, hv, hd, -⟩ := widen_at n h0.1 h0.2
  obtain ⟨p', a', b', cA', hs', hv', hd', -⟩ := widen_at n' h0'.1 h0'.2
  have cI := fun X => isNumber_any 1 n false ⟨#[]⟩ X (by decide)
  have cI' := fun X => isNumber_any 1 n' false ⟨#[]⟩ X (by decide)
  rw [show V.isInt ⟨1, n, false, ⟨#[]⟩⟩ = true from rfl] at cI
  rw [show V.isInt ⟨1, n', false, ⟨#[]⟩⟩ = true from rfl] at cI'
  obtain ⟨f1, f2, f3⟩ := fresh3 w (.cells #[.int .u8 1, .int .i64 n, .bool false, .string ⟨#[]⟩] 23) (.cells #[.int .u8 1, .int .i64 n', .bool false, .string ⟨#[]⟩] 23) (.cells #[.int .u8 0, .int .i64 0, .bool false, .string ⟨#[]⟩] 23)
  have hs3 : (((w.alloc (.cells #[.int .u8 1, .int .i64 n, .bool false, .string ⟨#[]⟩] 23)).alloc (.cells #[.int .u8 1, .int .i64 n', .bool false, .string ⟨#[]⟩] 23)).alloc (.cells #[.int .u8 0, .int .i64 0, .bool false, .string ⟨#[]⟩] 23)).heap.size = w.heap.size + 3 := by simp
  have hB := below3 w (.cells #[.int .u8 1, .int .i64 n, .bool false, .string ⟨#[]⟩] 23) (.cells #[.int .u8 1, .int .i64 n', .bool false, .string ⟨#[]⟩] 23) (.cells #[.int .u8 0, .int .i64 0, .bool false, .string ⟨#[]⟩] 23)
  go_enter Tryd.func13, Tryd.ntmps13
  go_wp2_with fail
  refine (cI _).mono ?_
  rintro e w1 ⟨rfl, b1⟩
  rw [← b1.block w.heap.size (by omega)] at f1
  rw [← b1.block (w.heap.size + 1) (by omega)] at f2
  rw [← b1.block (w.heap.size + 2) (by omega)] at f3
  have B1 := hB.trans (b1.mono (by omega))
  have z1 : w.heap.size + 3 ≤ w1.heap.size := by have := b1.size; omega
  clear cI b1 hs3 hB
  obtain ⟨y0, y1, y2, y3⟩ := row4 f2
  have F1 := hid f1
  have F2 := hid f2
  have F3 := hid f3
  clear f1 f2 f3
  go_wp2_with fail
  refine (cI' _).mono ?_
  rintro e w2 ⟨rfl, b2⟩
  have f1 := (b2.block w.heap.size (by omega)).trans F1.out
  have f2 := (b2.block (w.heap.size + 1) (by omega)).trans F2.out
  have f3 := (b2.block (w.heap.size + 2) (by omega)).trans F3.out
  have B2 := hid (B1.trans (b2.mono (by omega)))
  have z2 : w.heap.size + 3 ≤ w2.heap.size := by have := b2.size; omega
  clear cI' b2 y0 y1 y2 y3 B1 F1 F2 F3 z1
  obtain ⟨x0, x1, x2, x3⟩ := row4 f1
  have F2 := hid f2
  have F3 := hid f3
  clear f1 f2 f3
  go_wp2_with fail
  refine (cA _).mono ?_
  rintro e w3 ⟨rfl, b3⟩
  have f2 := (b3.block (w.heap.size + 1) (by omega)).trans F2.out
  have f3 := (b3.block (w.heap.size + 2) (by omega)).trans F3.out
  have B3 := B2.out.trans (b3.mono (by omega))
  have z3 : w.heap.size + 3 ≤ w3.heap.size := by have := b3.size; omega
  have g8 := heap_alloc_new w3 (.cells #[.bool p, .int .u64 a, .int .u64 b, .int .u64 0, .int .u64 0] 66)
  rw [← Lib.alloc_old w3 (.cells #[.bool p, .int .u64 a, .int .u64 b, .int .u64 0, .int .u64 0] 66) _ (by omega)] at f2 f3
  have B4 := hid (B3.alloc (by omega) (.cells #[.bool p, .int .u64 a, .int .u64 b, .int .u64 0, .int .u64 0] 66))
  have z4 : w3.heap.size + 1 = (w3.alloc (.cells #[.bool p, .int .u64 a, .int .u64 b, .int .u64 0, .int .u64 0] 66)).heap.size := by simp
  clear cA b3 x0 x1 x2 x3 B2 F2 F3 z2 B3
  go_upto_region 4 with fail
  generalize World.alloc w3 _ = w4 at *
  obtain ⟨s8, hs8⟩ : ∃ s8, w3.heap.size = s8 := ⟨_, rfl⟩
  rw [hs8] at g8 z3 z4 ⊢
  obtain ⟨y0, y1, y2, y3⟩ := row4 f2
  have F2 := hid f2
  have F3 := hid f3
  have G8 := hid g8
  clear f2 f3 g8 hs8
  go_wp2_with fail
  refine (cA' _).mono ?_
  rintro e w5 ⟨rfl, b5⟩
  have f3 := (b5.block (w.heap.size + 2) (by omega)).trans F3.out
  have f2 := (b5.block (w.heap.size + 1) (by omega)).trans F2.out
  have g8 := (b5.block s8 (by omega)).trans G8.out
  have B5 := B4.out.trans (b5.mono (by omega))
  have z5 : s8 + 1 ≤ w5.heap.size := by have := b5.size; omega
  clear cA' b5 y0 y1 y2 y3 B4 F2 F3 G8 z4
  go_upto_region 5 with fail
  have g9 := heap_alloc_new w5 (.cells #[.bool p', .int .u64 a', .int .u64 b', .int .u64 0, .int .u64 0] 66)
  rw [← Lib.alloc_old w5 (.cells #[.bool p', .int .u64 a', .int .u64 b', .int .u64 0, .int .u64 0] 66) _ (by omega)] at f3 g8 f2
  have B6 := B5.alloc (by omega) (.cells #[.bool p', .int .u64 a', .int .u64 b', .int .u64 0, .int .u64 0] 66)
  have z6 : w5.heap.size + 1 = (w5.alloc (.cells #[.bool p', .int .u64 a', .int .u64 b', .int .u64 0, .int .u64 0] 66)).heap.size := by simp
  clear B5
  generalize World.alloc w5 _ = w6 at *
  obtain ⟨s9, hs9⟩ : ∃ s9, w5.heap.size = s9 := ⟨_, rfl⟩
  rw [hs9] at g9 z5 z6 ⊢
  clear hs9
  obtain ⟨x0, x1, x2, x3, x4⟩ := row5 g8
  obtain ⟨y0, y1, y2, y3, y4⟩ := row5 g9
  clear f2
  have F3 := hid f3
  have B6 := hid B6
  obtain ⟨q, hq⟩ : ∃ q, (p == p') = q := ⟨_, rfl⟩
  have cP := times_any p p' q hq a b 0 0 a' b' 0 0 w6 hs hs'
  have hprod : sgnd (!q) (a * a' + 4294967296 * (a * b') + 4294967296 * (b * a') + 18446744073709551616 * (b * b')) = n * n' := by
    rw [← hv, ← hv', ← hq]
    have e : a * a' + 4294967296 * (a * b') + 4294967296 * (b * a') + 18446744073709551616 * (b * b') = digs a b 0 0 * digs a' b' 0 0 := by
      have d1 : digs a b 0 0 = a + 4294967296 * b := by unfold digs; omega
      have d2 : digs a' b' 0 0 = a' + 4294967296 * b' := by unfold digs; omega
      rw [d1, d2, Nat.add_mul, Nat.mul_add, Nat.mul_add, Nat.mul_left_comm a 4294967296 b', Nat.mul_assoc 4294967296 b a', Nat.mul_mul_mul_comm 4294967296 b 4294967296 b', show 4294967296 * 4294967296 = 18446744073709551616 by decide]
      omega
    rw [e]
    cases p <;> cases p' <;> simp [sgnd, Int.neg_mul, Int.mul_neg]
  clear f3 g8 g9 hq
  go_wp2_with fail
  refine cP.mono ?_
  rintro e w7 ⟨x, y, z, u, rfl, hx, hxs, b7⟩
  have f3 := (b7.block (w.heap.size + 2) (by omega)).trans F3.out
  have B7 := hid (B6.out.trans (b7.mono (by omega)))
  have z7 : w.heap.size + 3 ≤ w7.heap.size := by have := b7.size; omega
  have cN := number_any2 (!q) x y z u w7 hxs R (by rw [hx, hprod]; exact hR)
  have F3 := hid f3
  clear cP f3 x0 x1 x2 x3 x4 y0 y1 y2 y3 y4 b7 hx hR B6 hv hv' hprod
  go_wp2_with fail
  refine (cN).mono ?_
  rintro e w8 ⟨rfl, b8⟩
  have f3 := (b8.block (w.heap.size + 2) (by omega)).trans F3.out
  have B8 := hid (B7.out.trans (b8.mono (by omega)))
  obtain ⟨c0, c1, c2, c3⟩ := row4 f3
  obtain ⟨e0, e1, e2, e3⟩ := free4 f3
  have F3 := hid f3
  clear f3 b8 B7
  go_wp2_with fail
  exact bodyPost_ret (v := .tuple #[.agg #[.int .u8 R.k, .int .i64 R.n, .bool false, .string ⟨#[]⟩], .int .i64 R.e]) (results_pair rfl _ _ (w.heap.size + 2) 23 _ (0, 0) _ (.int .i64 R.e) rfl (row4_set F3.out _ _ _ _) (by rfl) Tryd.underlying23 rfl infoValue) rfl ⟨rfl, below4_set B8.out (by omega) _ _ _ _⟩
end Go.Proofs.YtohdifffdgoaaaaDoor
