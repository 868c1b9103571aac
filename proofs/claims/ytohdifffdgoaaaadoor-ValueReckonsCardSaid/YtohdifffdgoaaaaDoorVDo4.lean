/- The walk of the document's Do: quotients and what they leave. -/
import Derived.Test.YtohdifffdgoaaaaDoorVDo3
namespace Go.Proofs.YtohdifffdgoaaaaDoor
open Go.RowKit
open Go.Lib (hid)
theorem sgnd_div (p p' : Bool) (A D : Nat) : sgnd (!(p == p')) (A / D) = (sgnd p A).tdiv (sgnd p' D) := by
  have e : ((A / D : Nat) : Int) = (A : Int).tdiv (D : Int) := by rw [Int.ofNat_tdiv]
  cases p <;> cases p' <;> simp [sgnd, e, Int.neg_tdiv, Int.tdiv_neg]
theorem sgnd_mod (p p' : Bool) (A D : Nat) : sgnd p (A % D) = (sgnd p A).tmod (sgnd p' D) := by
  have e : ((A % D : Nat) : Int) = (A : Int).tmod (D : Int) := by rw [Int.ofNat_tmod]
  cases p <;> cases p' <;> simp [sgnd, e, Int.neg_tmod, Int.tmod_neg]

set_option maxRecDepth 100000 in
set_option maxHeartbeats 8000000 in
theorem do_div0 (n n' : Int) (w : World) (h0 : -9223372036854775808 ≤ n ∧ n ≤ 9223372036854775807) (h0' : -9223372036854775808 ≤ n' ∧ n' ≤ 9223372036854775807) (hn0 : (n' == 0) = true) (R : V.Res) (hR : V.over = R) :
    Calls Tryd.prog 13 #[.int .u8 47, .agg #[.int .u8 1, .int .i64 n, .bool false, .string ⟨#[]⟩], .agg #[.int .u8 1, .int .i64 n', .bool false, .string ⟨#[]⟩]] w fun e w' => e = .returned (.tuple #[.agg #[.int .u8 R.k, .int .i64 R.n, .bool false, .string ⟨#[]⟩], .int .i64 R.e]) ∧ Below w.heap.size w w' := by
  obtain ⟨p, a, b, cA, hs, hv, hd, -⟩ := widen_at n h0.1 h0.2
  obtain ⟨p', a', b', cA', hs', hv', hd', -⟩ := widen_at n' h0'.1 h0'.2
  have cI := fun X => isNumber_any 1 n false ⟨#[]⟩ X (by decide)
  have cI' := fun X => isNumber_any 1 n' false ⟨#[]⟩ X (by decide)
  rw [show V.isInt ⟨1, n, false, ⟨#[]⟩⟩ = true from rfl] at cI
  rw [show V.isInt ⟨1, n', false, ⟨#[]⟩⟩ = true from rfl] at cI'
  obtain ⟨f1, f2, f3⟩ := fresh3 w (.cells #[.int .u8 1, .int .i64 n, .bool false, .string ⟨#[]⟩] 23) (.cells #[.int .u8 1, .int .i64 n', .bool false, .string ⟨#[]⟩] 23) (.cells #[.int .u8 0, .int .i64 0, .bool false, .string ⟨#[]⟩] 23)
  have hs3 : (((w.alloc (.cells #[.int .u8 1, .int .i64 n, .bool false, .string ⟨#[]⟩] 23)).alloc (.cells #[.int .u8 1, .int .i64 n', .bool false, .string ⟨#[]⟩] 23)).alloc (.cells #[.int .u8 0, .int .i64 0, .bool false, .string ⟨#[]⟩] 23)).heap.size = w.heap.size + 3 := by simp
  have hB := below3 w (.cells #[.int .u8 1, .int .i64 n, .bool false, .string ⟨#[]⟩] 23) (.cells #[.int .u8 1, .int .i64 n', .bool false, .string ⟨#[]⟩] 23) (.cells #[.int .u8 0, .int .i64 0, .bool false, .string ⟨#[]⟩] 23)
  go_enter Tryd.func13, Tryd.ntmps13
  go_wp2_with fail
  refine (cI _).mono ?_
  rintro e w1 ⟨rfl, b1⟩
  rw [← b1.block w.heap.size (by omega)] at f1
  rw [← b1.block (w.heap.size + 1) (by omega)] at f2
  rw [← b1.block (w.heap.size + 2) (by omega)] at f3
  have B1 := hB.trans (b1.mono (by omega))
  have z1 : w.heap.size + 3 ≤ w1.heap.size := by have := b1.size; omega
  clear cI b1 hs3 hB
  obtain ⟨y0, y1, y2, y3⟩ := row4 f2
  have F1 := hid f1
  have F2 := hid f2
  have F3 := hid f3
  clear f1 f2 f3
  go_wp2_with fail
  refine (cI' _).mono ?_
  rintro e w2 ⟨rfl, b2⟩
  have f1 := (b2.block w.heap.size (by omega)).trans F1.out
  have f2 := (b2.block (w.heap.size + 1) (by omega)).trans F2.out
  have f3 := (b2.block (w.heap.size + 2) (by omega)).trans F3.out
  have B2 := hid (B1.trans (b2.mono (by omega)))
  have z2 : w.heap.size + 3 ≤ w2.heap.size := by have := b2.size; omega
  clear cI' b2 y0 y1 y2 y3 B1 F1 F2 F3 z1
  obtain ⟨x0, x1, x2, x3⟩ := row4 f1
  have F2 := hid f2
  have F3 := hid f3
  clear f1 f2 f3
  go_wp2_with fail
  refine (cA _).mono ?_
  rintro e w3 ⟨rfl, b3⟩
  have f2 := (b3.block (w.heap.size + 1) (by omega)).trans F2.out
  have f3 := (b3.block (w.heap.size + 2) (by omega)).trans F3.out
  have B3 := B2.out.trans (b3.mono (by omega))
  have z3 : w.heap.size + 3 ≤ w3.heap.size := by have := b3.size; omega
  have g8 := heap_alloc_new w3 (.cells #[.bool p, .int .u64 a, .int .u64 b, .int .u64 0, .int .u64 0] 66)
  rw [← Lib.alloc_old w3 (.cells #[.bool p, .int .u64 a, .int .u64 b, .int .u64 0, .int .u64 0] 66) _ (by omega)] at f2 f3
  have B4 := hid (B3.alloc (by omega) (.cells #[.bool p, .int .u64 a, .int .u64 b, .int .u64 0, .int .u64 0] 66))
  have z4 : w3.heap.size + 1 = (w3.alloc (.cells #[.bool p, .int .u64 a, .int .u64 b, .int .u64 0, .int .u64 0] 66)).heap.size := by simp
  clear cA b3 x0 x1 x2 x3 B2 F2 F3 z2 B3
  go_upto_region 4 with fail
  generalize World.alloc w3 _ = w4 at *
  obtain ⟨s8, hs8⟩ : ∃ s8, w3.heap.size = s8 := ⟨_, rfl⟩
  rw [hs8] at g8 z3 z4 ⊢
  obtain ⟨y0, y1, y2, y3⟩ := row4 f2
  have F2 := hid f2
  have F3 := hid f3
  have G8 := hid g8
  clear f2 f3 g8 hs8
  go_wp2_with fail
  refine (cA' _).mono ?_
  rintro e w5 ⟨rfl, b5⟩
  have f3 := (b5.block (w.heap.size + 2) (by omega)).trans F3.out
  have f2 := (b5.block (w.heap.size + 1) (by omega)).trans F2.out
  have g8 := (b5.block s8 (by omega)).trans G8.out
  have B5 := B4.out.trans (b5.mono (by omega))
  have z5 : s8 + 1 ≤ w5.heap.size := by have := b5.size; omega
  clear cA' b5 y0 y1 y2 y3 B4 F2 F3 G8 z4
  go_upto_region 5 with fail
  have g9 := heap_alloc_new w5 (.cells #[.bool p', .int .u64 a', .int .u64 b', .int .u64 0, .int .u64 0] 66)
  rw [← Lib.alloc_old w5 (.cells #[.bool p', .int .u64 a', .int .u64 b', .int .u64 0, .int .u64 0] 66) _ (by omega)] at f3 g8 f2
  have B6 := B5.alloc (by omega) (.cells #[.bool p', .int .u64 a', .int .u64 b', .int .u64 0, .int .u64 0] 66)
  have z6 : w5.heap.size + 1 = (w5.alloc (.cells #[.bool p', .int .u64 a', .int .u64 b', .int .u64 0, .int .u64 0] 66)).heap.size := by simp
  clear B5
  generalize World.alloc w5 _ = w6 at *
  obtain ⟨s9, hs9⟩ : ∃ s9, w5.heap.size = s9 := ⟨_, rfl⟩
  rw [hs9] at g9 z5 z6 ⊢
  clear hs9
  obtain ⟨y0, y1, y2, y3⟩ := row4 f2
  obtain ⟨c0, c1, c2, c3⟩ := row4 f3
  obtain ⟨e0, e1, e2, e3⟩ := free4 f3
  have z0 := hn0
  have F3 := hid f3
  have B6 := hid B6
  subst hR
  clear f2 f3 g8 g9 hv hv' hn0
  go_wp2_with fail
  exact bodyPost_ret (v := .tuple #[.agg #[.int .u8 0, .int .i64 0, .bool false, .string ⟨#[]⟩], .int .i64 91]) (results_pair rfl _ _ (w.heap.size + 2) 23 _ (0, 0) _ (.int .i64 91) rfl (row4_set F3.out _ _ _ _) (by rfl) Tryd.underlying23 rfl infoValue) rfl ⟨rfl, below4_set B6.out (by omega) _ _ _ _⟩

set_option maxRecDepth 100000 in
set_option maxHeartbeats 8000000 in
theorem do_mod0 (n n' : Int) (w : World) (h0 : -9223372036854775808 ≤ n ∧ n ≤ 9223372036854775807) (h0' : -9223372036854775808 ≤ n' ∧ n' ≤ 9223372036854775807) (hn0 : (n' == 0) = true) (R : V.Res) (hR : V.over = R) :
    Calls Tryd.prog 13 #[.int .u8 37, .agg #[.int .u8 1, .int .i64 n, .bool false, .string ⟨#[]⟩], .agg #[.int .u8 1, .int .i64 n', .bool false, .string ⟨#[]⟩]] w fun e w' => e = .returned (.tuple #[.agg #[.int .u8 R.k, .int .i64 R.n, .bool false, .string ⟨#[]⟩], .int .i64 R.e]) ∧ Below w.heap.size w w' := by
  obtain ⟨p, a, b, cA, hs, hv, hd, -⟩ := widen_at n h0.1 h0.2
  obtain ⟨p', a', b', cA', hs', hv', hd', -⟩ := widen_at n' h0'.1 h0'.2
  have cI := fun X => isNumber_any 1 n false ⟨#[]⟩ X (by decide)
  have cI' := fun X => isNumber_any 1 n' false ⟨#[]⟩ X (by decide)
  rw [show V.isInt ⟨1, n, false, ⟨#[]⟩⟩ = true from rfl] at cI
  rw [show V.isInt ⟨1, n', false, ⟨#[]⟩⟩ = true from rfl] at cI'
  obtain ⟨f1, f2, f3⟩ := fresh3 w (.cells #[.int .u8 1, .int .i64 n, .bool false, .string ⟨#[]⟩] 23) (.cells #[.int .u8 1, .int .i64 n', .bool false, .string ⟨#[]⟩] 23) (.cells #[.int .u8 0, .int .i64 0, .bool false, .string ⟨#[]⟩] 23)
  have hs3 : (((w.alloc (.cells #[.int .u8 1, .int .i64 n, .bool false, .string ⟨#[]⟩] 23)).alloc (.cells #[.int .u8 1, .int .i64 n', .bool false, .string ⟨#[]⟩] 23)).alloc (.cells #[.int .u8 0, .int .i64 0, .bool false, .string ⟨#[]⟩] 23)).heap.size = w.heap.size + 3 := by simp
  have hB := below3 w (.cells #[.int .u8 1, .int .i64 n, .bool false, .string ⟨#[]⟩] 23) (.cells #[.int .u8 1, .int .i64 n', .bool false, .string ⟨#[]⟩] 23) (.cells #[.int .u8 0, .int .i64 0, .bool false, .string ⟨#[]⟩] 23)
  go_enter Tryd.func13, Tryd.ntmps13
  go_wp2_with fail
  refine (cI _).mono ?_
  rintro e w1 ⟨rfl, b1⟩
  rw [← b1.block w.heap.size (by omega)] at f1
  rw [← b1.block (w.heap.size + 1) (by omega)] at f2
  rw [← b1.block (w.heap.size + 2) (by omega)] at f3
  have B1 := hB.trans (b1.mono (by omega))
  have z1 : w.heap.size + 3 ≤ w1.heap.size := by have := b1.size; omega
  clear cI b1 hs3 hB
  obtain ⟨y0, y1, y2, y3⟩ := row4 f2
  have F1 := hid f1
  have F2 := hid f2
  have F3 := hid f3
  clear f1 f2 f3
  go_wp2_with fail
  refine (cI' _).mono ?_
  rintro e w2 ⟨rfl, b2⟩
  have f1 := (b2.block w.heap.size (by omega)).trans F1.out
  have f2 := (b2.block (w.heap.size + 1) (by omega)).trans F2.out
  have f3 := (b2.block (w.heap.size + 2) (by omega)).trans F3.out
  have B2 := hid (B1.trans (b2.mono (by omega)))
  have z2 : w.heap.size + 3 ≤ w2.heap.size := by have := b2.size; omega
  clear cI' b2 y0 y1 y2 y3 B1 F1 F2 F3 z1
  obtain ⟨x0, x1, x2, x3⟩ := row4 f1
  have F2 := hid f2
  have F3 := hid f3
  clear f1 f2 f3
  go_wp2_with fail
  refine (cA _).mono ?_
  rintro e w3 ⟨rfl, b3⟩
  have f2 := (b3.block (w.heap.size + 1) (by omega)).trans F2.out
  have f3 := (b3.block (w.heap.size + 2) (by omega)).trans F3.out
  have B3 := B2.out.trans (b3.mono (by omega))
  have z3 : w.heap.size + 3 ≤ w3.heap.size := by have := b3.size; omega
  have g8 := heap_alloc_new w3 (.cells #[.bool p, .int .u64 a, .int .u64 b, .int .u64 0, .int .u64 0] 66)
  rw [← Lib.alloc_old w3 (.cells #[.bool p, .int .u64 a, .int .u64 b, .int .u64 0, .int .u64 0] 66) _ (by omega)] at f2 f3
  have B4 := hid (B3.alloc (by omega) (.cells #[.bool p, .int .u64 a, .int .u64 b, .int .u64 0, .int .u64 0] 66))
  have z4 : w3.heap.size + 1 = (w3.alloc (.cells #[.bool p, .int .u64 a, .int .u64 b, .int .u64 0, .int .u64 0] 66)).heap.size := by simp
  clear cA b3 x0 x1 x2 x3 B2 F2 F3 z2 B3
  go_upto_region 4 with fail
  generalize World.alloc w3 _ = w4 at *
  obtain ⟨s8, hs8⟩ : ∃ s8, w3.heap.size = s8 := ⟨_, rfl⟩
  rw [hs8] at g8 z3 z4 ⊢
  obtain ⟨y0, y1, y2, y3⟩ := row4 f2
  have F2 := hid f2
  have F3 := hid f3
  have G8 := hid g8
  clear f2 f3 g8 hs8
  go_wp2_with fail
  refine (cA' _).mono ?_
  rintro e w5 ⟨rfl, b5⟩
  have f3 := (b5.block (w.heap.size + 2) (by omega)).trans F3.out
  have f2 := (b5.block (w.heap.size + 1) (by omega)).trans F2.out
  have g8 := (b5.block s8 (by omega)).trans G8.out
  have B5 := B4.out.trans (b5.mono (by omega))
  have z5 : s8 + 1 ≤ w5.heap.size := by have := b5.size; omega
  clear cA' b5 y0 y1 y2 y3 B4 F2 F3 G8 z4
  go_upto_region 5 with fail
  have g9 := heap_alloc_new w5 (.cells #[.bool p', .int .u64 a', .int .u64 b', .int .u64 0, .int .u64 0] 66)
  rw [← Lib.alloc_old w5 (.cells #[.bool p', .int .u64 a', .int .u64 b', .int .u64 0, .int .u64 0] 66) _ (by omega)] at f3 g8 f2
  have B6 := B5.alloc (by omega) (.cells #[.bool p', .int .u64 a', .int .u64 b', .int .u64 0, .int .u64 0] 66)
  have z6 : w5.heap.size + 1 = (w5.alloc (.cells #[.bool p', .int .u64 a', .int .u64 b', .int .u64 0, .int .u64 0] 66)).heap.size := by simp
  clear B5
  generalize World.alloc w5 _ = w6 at *
  obtain ⟨s9, hs9⟩ : ∃ s9, w5.heap.size = s9 := ⟨_, rfl⟩
  rw [hs9] at g9 z5 z6 ⊢
  clear hs9
  obtain ⟨y0, y1, y2, y3⟩ := row4 f2
  obtain ⟨c0, c1, c2, c3⟩ := row4 f3
  obtain ⟨e0, e1, e2, e3⟩ := free4 f3
  have z0 := hn0
  have F3 := hid f3
  have B6 := hid B6
  subst hR
  clear f2 f3 g8 g9 hv hv' hn0
  go_wp2_with fail
  exact bodyPost_ret (v := .tuple #[.agg #[.int .u8 0, .int .i64 0, .bool false, .string ⟨#[]⟩], .int .i64 91]) (results_pair rfl _ _ (w.heap.size + 2) 23 _ (0, 0) _ (.int .i64 91) rfl (row4_set F3.out _ _ _ _) (by rfl) Tryd.underlying23 rfl infoValue) rfl ⟨rfl, below4_set B6.out (by omega) _ _ _ _⟩

set_option maxRecDepth 100000 in
set_option maxHeartbeats 8000000 in
theorem do_div (n n' : Int) (w : World) (h0 : -9223372036854775808 ≤ n ∧ n ≤ 9223372036854775807) (h0' : -9223372036854775808 ≤ n' ∧ n' ≤ 9223372036854775807) (hn0 : n' ≠ 0) (R : V.Res) (hR : V.ranged (n.tdiv n') = R) :
    Calls Tryd.prog 13 #[.int .u8 47, .agg #[.int .u8 1, .int .i64 n, .bool false, .string ⟨#[]⟩], .agg #[.int .u8 1, .int .i64 n', .bool false, .string ⟨#[]⟩]] w fun e w' => e = .returned (.tuple #[.agg #[.int .u8 R.k, .int .i64 R.n, .bool false, .string ⟨#[]⟩], .int .i64 R.e]) ∧ Below w.heap.size w w' := by
  obtain ⟨p, a, b, cA, hs, hv, hd, -⟩ := widen_at n h0.1 h0.2
  obtain ⟨p', a', b', cA', hs', hv', hd', -⟩ := widen_at n' h0'.1 h0'.2
  have cI := fun X => isNumber_any 1 n false ⟨#[]⟩ X (by decide)
  have cI' := fun X => isNumber_any 1 n' false ⟨#[]⟩ X (by decide)
  rw [show V.isInt ⟨1, n, false, ⟨#[]⟩⟩ = true from rfl] at cI
  rw [show V.isInt ⟨1, n', false, ⟨#[]⟩⟩ = true from rfl] at cI'
  obtain ⟨f1, f2, f3⟩ := fresh3 w (.cells #[.int .u8 1, .int .i64 n, .bool false, .string ⟨#[]⟩] 23) (.cells #[.int .u8 1, .int .i64 n', .bool false, .string ⟨#[]⟩] 23) (.cells #[.int .u8 0, .int .i64 0, .bool false, .string ⟨#[]⟩] 23)
  have hs3 : (((w.alloc (.cells #[.int .u8 1, .int .i64 n, .bool false, .string ⟨#[]⟩] 23)).alloc (.cells #[.int .u8 1, .int .i64 n', .bool false, .string ⟨#[]⟩] 23)).alloc (.cells #[.int .u8 0, .int .i64 0, .bool false, .string ⟨#[]⟩] 23)).heap.size = w.heap.size + 3 := by simp
  have hB := below3 w (.cells #[.int .u8 1, .int .i64 n, .bool false, .string ⟨#[]⟩] 23) (.cells #[.int .u8 1, .int .i64 n', .bool false, .string ⟨#[]⟩] 23) (.cells #[.int .u8 0, .int .i64 0, .bool false, .string ⟨#[]⟩] 23)
  go_enter Tryd.func13, Tryd.ntmps13
  go_wp2_with fail
  refine (cI _).mono ?_
  rintro e w1 ⟨rfl, b1⟩
  rw [← b1.block w.heap.size (by omega)] at f1
  rw [← b1.block (w.heap.size + 1) (by omega)] at f2
  rw [← b1.block (w.heap.size + 2) (by omega)] at f3
  have B1 := hB.trans (b1.mono (by omega))
  have z1 : w.heap.size + 3 ≤ w1.heap.size := by have := b1.size; omega
  clear cI b1 hs3 hB
  obtain ⟨y0, y1, y2, y3⟩ := row4 f2
  have F1 := hid f1
  have F2 := hid f2
  have F3 := hid f3
  clear f1 f2 f3
  go_wp2_with fail
  refine (cI' _).mono ?_
  rintro e w2 ⟨rfl, b2⟩
  have f1 := (b2.block w.heap.size (by omega)).trans F1.out
  have f2 := (b2.block (w.heap.size + 1) (by omega)).trans F2.out
  have f3 := (b2.block (w.heap.size + 2) (by omega)).trans F3.out
  have B2 := hid (B1.trans (b2.mono (by omega)))
  have z2 : w.heap.size + 3 ≤ w2.heap.size := by have := b2.size; omega
  clear cI' b2 y0 y1 y2 y3 B1 F1 F2 F3 z1
  obtain ⟨x0, x1, x2, x3⟩ := row4 f1
  have F2 := hid f2
  have F3 := hid f3
  clear f1 f2 f3
  go_wp2_with fail
  refine (cA _).mono ?_
  rintro e w3 ⟨rfl, b3⟩
  have f2 := (b3.block (w.heap.size + 1) (by omega)).trans F2.out
  have f3 := (b3.block (w.heap.size + 2) (by omega)).trans F3.out
  have B3 := B2.out.trans (b3.mono (by omega))
  have z3 : w.heap.size + 3 ≤ w3.heap.size := by have := b3.size; omega
  have g8 := heap_alloc_new w3 (.cells #[.bool p, .int .u64 a, .int .u64 b, .int .u64 0, .int .u64 0] 66)
  rw [← Lib.alloc_old w3 (.cells #[.bool p, .int .u64 a, .int .u64 b, .int .u64 0, .int .u64 0] 66) _ (by omega)] at f2 f3
  have B4 := hid (B3.alloc (by omega) (.cells #[.bool p, .int .u64 a, .int .u64 b, .int .u64 0, .int .u64 0] 66))
  have z4 : w3.heap.size + 1 = (w3.alloc (.cells #[.bool p, .int .u64 a, .int .u64 b, .int .u64 0, .int .u64 0] 66)).heap.size := by simp
  clear cA b3 x0 x1 x2 x3 B2 F2 F3 z2 B3
  go_upto_region 4 with fail
  generalize World.alloc w3 _ = w4 at *
  obtain ⟨s8, hs8⟩ : ∃ s8, w3.heap.size = s8 := ⟨_, rfl⟩
  rw [hs8] at g8 z3 z4 ⊢
  obtain ⟨y0, y1, y2, y3⟩ := row4 f2
  have F2 := hid f2
  have F3 := hid f3
  have G8 := hid g8
  clear f2 f3 g8 hs8
  go_wp2_with fail
  refine (cA' _).mono ?_
  rintro e w5 ⟨rfl, b5⟩
  have f3 := (b5.block (w.heap.size + 2) (by omega)).trans F3.out
  have f2 := (b5.block (w.heap.size + 1) (by omega)).trans F2.out
  have g8 := (b5.block s8 (by omega)).trans G8.out
  have B5 := B4.out.trans (b5.mono (by omega))
  have z5 : s8 + 1 ≤ w5.heap.size := by have := b5.size; omega
  clear cA' b5 y0 y1 y2 y3 B4 F2 F3 G8 z4
  go_upto_region 5 with fail
  have g9 := heap_alloc_new w5 (.cells #[.bool p', .int .u64 a', .int .u64 b', .int .u64 0, .int .u64 0] 66)
  rw [← Lib.alloc_old w5 (.cells #[.bool p', .int .u64 a', .int .u64 b', .int .u64 0, .int .u64 0] 66) _ (by omega)] at f3 g8 f2
  have B6 := B5.alloc (by omega) (.cells #[.bool p', .int .u64 a', .int .u64 b', .int .u64 0, .int .u64 0] 66)
  have z6 : w5.heap.size + 1 = (w5.alloc (.cells #[.bool p', .int .u64 a', .int .u64 b', .int .u64 0, .int .u64 0] 66)).heap.size := by simp
  clear B5
  generalize World.alloc w5 _ = w6 at *
  obtain ⟨s9, hs9⟩ : ∃ s9, w5.heap.size = s9 := ⟨_, rfl⟩
  rw [hs9] at g9 z5 z6 ⊢
  clear hs9
  obtain ⟨y0, y1, y2, y3⟩ := row4 f2
  obtain ⟨x0, x1, x2, x3, x4⟩ := row5 g8
  obtain ⟨v0, v1, v2, v3, v4⟩ := row5 g9
  have z0 : (n' == 0) = false := beq_eq_false_iff_ne.2 hn0
  have F3 := hid f3
  have B6 := hid B6
  obtain ⟨q, hq⟩ : ∃ q, (p == p') = q := ⟨_, rfl⟩
  have e1 : digs a b 0 0 = a + 4294967296 * b := by unfold digs; omega
  have e2 : digs a' b' 0 0 = a' + 4294967296 * b' := by unfold digs; omega
  have hDp : 0 < a' + 4294967296 * b' := by
    rcases Nat.eq_zero_or_pos (a' + 4294967296 * b') with h | h
    · exfalso; rw [e2, h] at hv'; cases p' <;> simp [sgnd] at hv' <;> omega
    · exact h
  have cD := divide_any p p' q hq a b a' b' w6 hs.1 hs.2.1 hs'.1 hs'.2.1 hDp
  rw [e1] at hv
  rw [e2] at hv'
  clear f2 f3 g8 g9 e1 e2 hDp
  go_wp2_with fail
  refine cD.mono ?_
  rintro e w7 ⟨x, y, x', y', rfl, ⟨d1, d2, d3, d4, d5, d6⟩, b7⟩
  have hvd := sgnd_div p p' (a + 4294967296 * b) (a' + 4294967296 * b')
  have hvm := sgnd_mod p p' (a + 4294967296 * b) (a' + 4294967296 * b')
  rw [hv, hv', ← d1, hq] at hvd
  rw [hv, hv', ← d4] at hvm
  have e1 : digs x y 0 0 = x + 4294967296 * y := by unfold digs; omega
  have e2 : digs x' y' 0 0 = x' + 4294967296 * y' := by unfold digs; omega
  rw [← e1] at hvd
  rw [← e2] at hvm
  have f3 := (b7.block (w.heap.size + 2) (by omega)).trans F3.out
  have B7 := B6.out.trans (b7.mono (by omega))
  have z7 : w.heap.size + 3 ≤ w7.heap.size := by have := b7.size; omega
  have s1 : (w7.alloc (.cells #[.bool (!q), .int .u64 x, .int .u64 y, .int .u64 0, .int .u64 0] 66)).heap.size = w7.heap.size + 1 := by simp
  rw [← Lib.alloc_old w7 (.cells #[.bool (!q), .int .u64 x, .int .u64 y, .int .u64 0, .int .u64 0] 66) _ (by omega), ← Lib.alloc_old (w7.alloc (.cells #[.bool (!q), .int .u64 x, .int .u64 y, .int .u64 0, .int .u64 0] 66)) (.cells #[.bool p, .int .u64 x', .int .u64 y', .int .u64 0, .int .u64 0] 66) _ (by omega)] at f3
  have B7 := (B7.alloc (by omega) (.cells #[.bool (!q), .int .u64 x, .int .u64 y, .int .u64 0, .int .u64 0] 66)).alloc (by omega) (.cells #[.bool p, .int .u64 x', .int .u64 y', .int .u64 0, .int .u64 0] 66)
  have z8 : w.heap.size + 3 ≤ ((w7.alloc (.cells #[.bool (!q), .int .u64 x, .int .u64 y, .int .u64 0, .int .u64 0] 66)).alloc (.cells #[.bool p, .int .u64 x', .int .u64 y', .int .u64 0, .int .u64 0] 66)).heap.size := by simp; omega
  have cN := number_any2 (!q) x y 0 0 ((w7.alloc (.cells #[.bool (!q), .int .u64 x, .int .u64 y, .int .u64 0, .int .u64 0] 66)).alloc (.cells #[.bool p, .int .u64 x', .int .u64 y', .int .u64 0, .int .u64 0] 66)) ⟨by omega, by omega, by omega, by omega⟩ R (by rw [hvd]; exact hR)
  have F3 := hid f3
  have B7 := hid B7
  clear cD f3 x0 x1 x2 x3 x4 y0 y1 y2 y3 v0 v1 v2 v3 v4 b7 hR B6 hv hv' hvd hvm d1 d4 e1 e2 hq
  go_wp2_with fail
  refine (cN).mono ?_
  rintro e w8 ⟨rfl, b8⟩
  have f3 := (b8.block (w.heap.size + 2) (by omega)).trans F3.out
  have B8 := hid (B7.out.trans (b8.mono (by omega)))
  obtain ⟨c0, c1, c2, c3⟩ := row4 f3
  obtain ⟨e0, e1, e2, e3⟩ := free4 f3
  have F3 := hid f3
  clear f3 b8 B7
  go_wp2_with fail
  exact bodyPost_ret (v := .tuple #[.agg #[.int .u8 R.k, .int .i64 R.n, .bool false, .string ⟨#[]⟩], .int .i64 R.e]) (results_pair rfl _ _ (w.heap.size + 2) 23 _ (0, 0) _ (.int .i64 R.e) rfl (row4_set F3.out _ _ _ _) (by rfl) Tryd.underlying23 rfl infoValue) rfl ⟨rfl, below4_set B8.out (by omega) _ _ _ _⟩

set_option maxRecDepth 100000 in
set_option maxHeartbeats 8000000 in
theorem do_mod (n n' : Int) (w : World) (h0 : -9223372036854775808 ≤ n ∧ n ≤ 9223372036854775807) (h0' : -9223372036854775808 ≤ n' ∧ n' ≤ 9223372036854775807) (hn0 : n' ≠ 0) (R : V.Res) (hR : V.ranged (n.tmod n') = R) :
    Calls Tryd.prog 13 #[.int .u8 37, .agg #[.int .u8 1, .int .i64 n, .bool false, .string ⟨#[]⟩], .agg #[.int .u8 1, .int .i64 n', .bool false, .string ⟨#[]⟩]] w fun e w' => e = .returned (.tuple #[.agg #[.int .u8 R.k, .int .i64 R.n, .bool false, .string ⟨#[]⟩], .int .i64 R.e]) ∧ Below w.heap.size w w' := by
  obtain ⟨p, a, b, cA, hs, hv, hd, -⟩ := widen_at n h0.1 h0.2
  obtain ⟨p', a', b', cA', hs', hv', hd', -⟩ := widen_at n' h0'.1 h0'.2
  have cI := fun X => isNumber_any 1 n false ⟨#[]⟩ X (by decide)
  have cI' := fun X => isNumber_any 1 n' false ⟨#[]⟩ X (by decide)
  rw [show V.isInt ⟨1, n, false, ⟨#[]⟩⟩ = true from rfl] at cI
  rw [show V.isInt ⟨1, n', false, ⟨#[]⟩⟩ = true from rfl] at cI'
  obtain ⟨f1, f2, f3⟩ := fresh3 w (.cells #[.int .u8 1, .int .i64 n, .bool false, .string ⟨#[]⟩] 23) (.cells #[.int .u8 1, .int .i64 n', .bool false, .string ⟨#[]⟩] 23) (.cells #[.int .u8 0, .int .i64 0, .bool false, .string ⟨#[]⟩] 23)
  have hs3 : (((w.alloc (.cells #[.int .u8 1, .int .i64 n, .bool false, .string ⟨#[]⟩] 23)).alloc (.cells #[.int .u8 1, .int .i64 n', .bool false, .string ⟨#[]⟩] 23)).alloc (.cells #[.int .u8 0, .int .i64 0, .bool false, .string ⟨#[]⟩] 23)).heap.size = w.heap.size + 3 := by simp
  have hB := below3 w (.cells #[.int .u8 1, .int .i64 n, .bool false, .string ⟨#[]⟩] 23) (.cells #[.int .u8 1, .int .i64 n', .bool false, .string ⟨#[]⟩] 23) (.cells #[.int .u8 0, .int .i64 0, .bool false, .string ⟨#[]⟩] 23)
  go_enter Tryd.func13, Tryd.ntmps13
  go_wp2_with fail
  refine (cI _).mono ?_
  rintro e w1 ⟨rfl, b1⟩
  rw [← b1.block w.heap.size (by omega)] at f1
  rw [← b1.block (w.heap.size + 1) (by omega)] at f2
  rw [← b1.block (w.heap.size + 2) (by omega)] at f3
  have B1 := hB.trans (b1.mono (by omega))
  have z1 : w.heap.size + 3 ≤ w1.heap.size := by have := b1.size; omega
  clear cI b1 hs3 hB
  obtain ⟨y0, y1, y2, y3⟩ := row4 f2
  have F1 := hid f1
  have F2 := hid f2
  have F3 := hid f3
  clear f1 f2 f3
  go_wp2_with fail
  refine (cI' _).mono ?_
  rintro e w2 ⟨rfl, b2⟩
  have f1 := (b2.block w.heap.size (by omega)).trans F1.out
  have f2 := (b2.block (w.heap.size + 1) (by omega)).trans F2.out
  have f3 := (b2.block (w.heap.size + 2) (by omega)).trans F3.out
  have B2 := hid (B1.trans (b2.mono (by omega)))
  have z2 : w.heap.size + 3 ≤ w2.heap.size := by have := b2.size; omega
  clear cI' b2 y0 y1 y2 y3 B1 F1 F2 F3 z1
  obtain ⟨x0, x1, x2, x3⟩ := row4 f1
  have F2 := hid f2
  have F3 := hid f3
  clear f1 f2 f3
  go_wp2_with fail
  refine (cA _).mono ?_
  rintro e w3 ⟨rfl, b3⟩
  have f2 := (b3.block (w.heap.size + 1) (by omega)).trans F2.out
  have f3 := (b3.block (w.heap.size + 2) (by omega)).trans F3.out
  have B3 := B2.out.trans (b3.mono (by omega))
  have z3 : w.heap.size + 3 ≤ w3.heap.size := by have := b3.size; omega
  have g8 := heap_alloc_new w3 (.cells #[.bool p, .int .u64 a, .int .u64 b, .int .u64 0, .int .u64 0] 66)
  rw [← Lib.alloc_old w3 (.cells #[.bool p, .int .u64 a, .int .u64 b, .int .u64 0, .int .u64 0] 66) _ (by omega)] at f2 f3
  have B4 := hid (B3.alloc (by omega) (.cells #[.bool p, .int .u64 a, .int .u64 b, .int .u64 0, .int .u64 0] 66))
  have z4 : w3.heap.size + 1 = (w3.alloc (.cells #[.bool p, .int .u64 a, .int .u64 b, .int .u64 0, .int .u64 0] 66)).heap.size := by simp
  clear cA b3 x0 x1 x2 x3 B2 F2 F3 z2 B3
  go_upto_region 4 with fail
  generalize World.alloc w3 _ = w4 at *
  obtain ⟨s8, hs8⟩ : ∃ s8, w3.heap.size = s8 := ⟨_, rfl⟩
  rw [hs8] at g8 z3 z4 ⊢
  obtain ⟨y0, y1, y2, y3⟩ := row4 f2
  have F2 := hid f2
  have F3 := hid f3
  have G8 := hid g8
  clear f2 f3 g8 hs8
  go_wp2_with fail
  refine (cA' _).mono ?_
  rintro e w5 ⟨rfl, b5⟩
  have f3 := (b5.block (w.heap.size + 2) (by omega)).trans F3.out
  have f2 := (b5.block (w.heap.size + 1) (by omega)).trans F2.out
  have g8 := (b5.block s8 (by omega)).trans G8.out
  have B5 := B4.out.trans (b5.mono (by omega))
  have z5 : s8 + 1 ≤ w5.heap.size := by have := b5.size; omega
  clear cA' b5 y0 y1 y2 y3 B4 F2 F3 G8 z4
  go_upto_region 5 with fail
  have g9 := heap_alloc_new w5 (.cells #[.bool p', .int .u64 a', .int .u64 b', .int .u64 0, .int .u64 0] 66)
  rw [← Lib.alloc_old w5 (.cells #[.bool p', .int .u64 a', .int .u64 b', .int .u64 0, .int .u64 0] 66) _ (by omega)] at f3 g8 f2
  have B6 := B5.alloc (by omega) (.cells #[.bool p', .int .u64 a', .int .u64 b', .int .u64 0, .int .u64 0] 66)
  have z6 : w5.heap.size + 1 = (w5.alloc (.cells #[.bool p', .int .u64 a', .int .u64 b', .int .u64 0, .int .u64 0] 66)).heap.size := by simp
  clear B5
  generalize World.alloc w5 _ = w6 at *
  obtain ⟨s9, hs9⟩ : ∃ s9, w5.heap.size = s9 := ⟨_, rfl⟩
  rw [hs9] at g9 z5 z6 ⊢
  clear hs9
  obtain ⟨y0, y1, y2, y3⟩ := row4 f2
  obtain ⟨x0, x1, x2, x3, x4⟩ := row5 g8
  obtain ⟨v0, v1, v2, v3, v4⟩ := row5 g9
  have z0 : (n' == 0) = false := beq_eq_false_iff_ne.2 hn0
  have F3 := hid f3
  have B6 := hid B6
  obtain ⟨q, hq⟩ : ∃ q, (p == p') = q := ⟨_, rfl⟩
  have e1 : digs a b 0 0 = a + 4294967296 * b := by unfold digs; omega
  have e2 : digs a' b' 0 0 = a' + 4294967296 * b' := by unfold digs; omega
  have hDp : 0 < a' + 4294967296 * b' := by
    rcases Nat.eq_zero_or_pos (a' + 4294967296 * b') with h | h
    · exfalso; rw [e2, h] at hv'; cases p' <;> simp [sgnd] at hv' <;> omega
    · exact h
  have cD := divide_any p p' q hq a b a' b' w6 hs.1 hs.2.1 hs'.1 hs'.2.1 hDp
  rw [e1] at hv
  rw [e2] at hv'
  clear f2 f3 g8 g9 e1 e2 hDp
  go_wp2_with fail
  refine cD.mono ?_
  rintro e w7 ⟨x, y, x', y', rfl, ⟨d1, d2, d3, d4, d5, d6⟩, b7⟩
  have hvd := sgnd_div p p' (a + 4294967296 * b) (a' + 4294967296 * b')
  have hvm := sgnd_mod p p' (a + 4294967296 * b) (a' + 4294967296 * b')
  rw [hv, hv', ← d1, hq] at hvd
  rw [hv, hv', ← d4] at hvm
  have e1 : digs x y 0 0 = x + 4294967296 * y := by unfold digs; omega
  have e2 : digs x' y' 0 0 = x' + 4294967296 * y' := by unfold digs; omega
  rw [← e1] at hvd
  rw [← e2] at hvm
  have f3 := (b7.block (w.heap.size + 2) (by omega)).trans F3.out
  have B7 := B6.out.trans (b7.mono (by omega))
  have z7 : w.heap.size + 3 ≤ w7.heap.size := by have := b7.size; omega
  have s1 : (w7.alloc (.cells #[.bool (!q), .int .u64 x, .int .u64 y, .int .u64 0, .int .u64 0] 66)).heap.size = w7.heap.size + 1 := by simp
  rw [← Lib.alloc_old w7 (.cells #[.bool (!q), .int .u64 x, .int .u64 y, .int .u64 0, .int .u64 0] 66) _ (by omega), ← Lib.alloc_old (w7.alloc (.cells #[.bool (!q), .int .u64 x, .int .u64 y, .int .u64 0, .int .u64 0] 66)) (.cells #[.bool p, .int .u64 x', .int .u64 y', .int .u64 0, .int .u64 0] 66) _ (by omega)] at f3
  have B7 := (B7.alloc (by omega) (.cells #[.bool (!q), .int .u64 x, .int .u64 y, .int .u64 0, .int .u64 0] 66)).alloc (by omega) (.cells #[.bool p, .int .u64 x', .int .u64 y', .int .u64 0, .int .u64 0] 66)
  have z8 : w.heap.size + 3 ≤ ((w7.alloc (.cells #[.bool (!q), .int .u64 x, .int .u64 y, .int .u64 0, .int .u64 0] 66)).alloc (.cells #[.bool p, .int .u64 x', .int .u64 y', .int .u64 0, .int .u64 0] 66)).heap.size := by simp; omega
  have cN := number_any2 p x' y' 0 0 ((w7.alloc (.cells #[.bool (!q), .int .u64 x, .int .u64 y, .int .u64 0, .int .u64 0] 66)).alloc (.cells #[.bool p, .int .u64 x', .int .u64 y', .int .u64 0, .int .u64 0] 66)) ⟨by omega, by omega, by omega, by omega⟩ R (by rw [hvm]; exact hR)
  have F3 := hid f3
  have B7 := hid B7
  clear cD f3 x0 x1 x2 x3 x4 y0 y1 y2 y3 v0 v1 v2 v3 v4 b7 hR B6 hv hv' hvd hvm d1 d4 e1 e2 hq
  go_wp2_with fail
  refine (cN).mono ?_
  rintro e w8 ⟨rfl, b8⟩
  have f3 := (b8.block (w.heap.size + 2) (by omega)).trans F3.out
  have B8 := hid (B7.out.trans (b8.mono (by omega)))
  obtain ⟨c0, c1, c2, c3⟩ := row4 f3
  obtain ⟨e0, e1, e2, e3⟩ := free4 f3
  have F3 := hid f3
  clear f3 b8 B7
  go_wp2_with fail
  exact bodyPost_ret (v := .tuple #[.agg #[.int .u8 R.k, .int .i64 R.n, .bool false, .string ⟨#[]⟩], .int .i64 R.e]) (results_pair rfl _ _ (w.heap.size + 2) 23 _ (0, 0) _ (.int .i64 R.e) rfl (row4_set F3.out _ _ _ _) (by rfl) Tryd.underlying23 rfl infoValue) rfl ⟨rfl, below4_set B8.out (by omega) _ _ _ _⟩
end Go.Proofs.YtohdifffdgoaaaaDoor
