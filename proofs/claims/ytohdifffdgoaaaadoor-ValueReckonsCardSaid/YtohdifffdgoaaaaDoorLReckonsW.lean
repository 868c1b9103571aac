/- The walk of ValueReckons. -/
import Derived.Test.YtohdifffdgoaaaaDoorVLess
import Derived.Test.YtohdifffdgoaaaaDoorVNeg
namespace Go.Proofs.YtohdifffdgoaaaaDoor
open Go.RowKit
open Go.Lib (hid)
open V
/-- what the law's walk knows of its own memory: the two values, the two answers -/
structure LS (v u : Val) (w : World) (x y : Nat) (X Y : Res) (r : World) : Prop where
  hb : Below w.heap.size w r
  fa : r.heap[w.heap.size]? = some (.cells #[.int .u8 v.k, .int .i64 v.n, .bool v.b, .string v.s] 23 (0, 0))
  fb : r.heap[w.heap.size + 1]? = some (.cells #[.int .u8 u.k, .int .i64 u.n, .bool u.b, .string u.s] 23 (0, 0))
  fx : r.heap[x]? = some (.cells #[.int .u8 X.k, .int .i64 X.n, .bool false, .string ⟨#[]⟩] 23 (0, 0))
  fy : r.heap[y]? = some (.cells #[.int .u8 Y.k, .int .i64 Y.n, .bool false, .string ⟨#[]⟩] 23 (0, 0))
  lx : w.heap.size + 2 ≤ x
  ly : w.heap.size + 2 ≤ y
  ne : x ≠ y
theorem LS.below {v u : Val} {w : World} {x y : Nat} {X Y : Res} {r r' : World} (h : LS v u w x y X Y r) (b : Below r.heap.size r r') : LS v u w x y X Y r' where
  hb := h.hb.trans (b.mono h.hb.size)
  fa := (b.block _ (Go.lt_of_block h.fa)).trans h.fa
  fb := (b.block _ (Go.lt_of_block h.fb)).trans h.fb
  fx := (b.block _ (Go.lt_of_block h.fx)).trans h.fx
  fy := (b.block _ (Go.lt_of_block h.fy)).trans h.fy
  lx := h.lx
  ly := h.ly
  ne := h.ne
theorem other4_set {w : World} {b c : Nat} (hc : c ≠ b) (x y z u : Value) : ((((w.setCell ⟨b, 0, none⟩ x).setCell ⟨b, 1, none⟩ y).setCell ⟨b, 2, none⟩ z).setCell ⟨b, 3, none⟩ u).heap[c]? = w.heap[c]? := by
  rw [Below.heap_setCell _ _ _ _ hc, Below.heap_setCell _ _ _ _ hc, Below.heap_setCell _ _ _ _ hc, Below.heap_setCell _ _ _ _ hc]
theorem LS.setX {v u : Val} {w : World} {x y : Nat} {X Y : Res} {r : World} (h : LS v u w x y X Y r) (R : Res) : LS v u w x y R Y ((((r.setCell ⟨x, 0, none⟩ (.int .u8 R.k)).setCell ⟨x, 1, none⟩ (.int .i64 R.n)).setCell ⟨x, 2, none⟩ (.bool false)).setCell ⟨x, 3, none⟩ (.string ⟨#[]⟩)) where
  hb := below4_set h.hb (by have := h.lx; omega) _ _ _ _
  fa := (other4_set (by have := h.lx; omega) _ _ _ _).trans h.fa
  fb := (other4_set (by have := h.lx; omega) _ _ _ _).trans h.fb
  fx := row4_set h.fx _ _ _ _
  fy := (other4_set h.ne.symm _ _ _ _).trans h.fy
  lx := h.lx
  ly := h.ly
  ne := h.ne
theorem LS.setY {v u : Val} {w : World} {x y : Nat} {X Y : Res} {r : World} (h : LS v u w x y X Y r) (R : Res) : LS v u w x y X R ((((r.setCell ⟨y, 0, none⟩ (.int .u8 R.k)).setCell ⟨y, 1, none⟩ (.int .i64 R.n)).setCell ⟨y, 2, none⟩ (.bool false)).setCell ⟨y, 3, none⟩ (.string ⟨#[]⟩)) where
  hb := below4_set h.hb (by have := h.ly; omega) _ _ _ _
  fa := (other4_set (by have := h.ly; omega) _ _ _ _).trans h.fa
  fb := (other4_set (by have := h.ly; omega) _ _ _ _).trans h.fb
  fx := (other4_set h.ne _ _ _ _).trans h.fx
  fy := row4_set h.fy _ _ _ _
  lx := h.lx
  ly := h.ly
  ne := h.ne
theorem answersR (R : Res) (w : World) : Calls Tryd.prog 14 #[.agg #[.int .u8 R.k, .int .i64 R.n, .bool false, .string ⟨#[]⟩], .int .i64 R.e, .agg #[.int .u8 R.k, .int .i64 R.n, .bool false, .string ⟨#[]⟩], .int .i64 R.e] w fun e w' => e = .returned (.bool true) ∧ Below w.heap.size w w' := answers_same R.k R.n R.e false ⟨#[]⟩ w

set_option maxRecDepth 100000 in
set_option maxHeartbeats 8000000 in
theorem reckons_walk (k : Nat) (n : Int) (b : Bool) (s : ByteArray) (k' : Nat) (n' : Int) (b' : Bool) (s' : ByteArray) (w : World) (hT : Tabs w) (h : In n) (h' : In n') (hs : s.size ≤ 9223372036854775803) (hs' : s'.size ≤ 9223372036854775803) :
    Calls Tryd.prog 3 #[.agg #[.int .u8 k, .int .i64 n, .bool b, .string s], .agg #[.int .u8 k', .int .i64 n', .bool b', .string s']] w fun e w' => e = .returned (.bool true) ∧ Below w.heap.size w w' := by
  have cP := fun X (hX : Tabs X) => addV ⟨k, n, b, s⟩ ⟨k', n', b', s'⟩ X hX h h'
  have dP := fun X => doPlus ⟨k, n, b, s⟩ ⟨k', n', b', s'⟩ X h h' hs hs'
  obtain ⟨RP, hRP⟩ : ∃ R, on (fun n n' => ranged (n + n')) ⟨k, n, b, s⟩ ⟨k', n', b', s'⟩ = R := ⟨_, rfl⟩
  rw [hRP] at cP dP
  clear hRP
  have cM := fun X (hX : Tabs X) => subV ⟨k, n, b, s⟩ ⟨k', n', b', s'⟩ X hX h h'
  have dM := fun X => doMinus ⟨k, n, b, s⟩ ⟨k', n', b', s'⟩ X h h' hs hs'
  obtain ⟨RM, hRM⟩ : ∃ R, on (fun n n' => ranged (n - n')) ⟨k, n, b, s⟩ ⟨k', n', b', s'⟩ = R := ⟨_, rfl⟩
  rw [hRM] at cM dM
  clear hRM
  have cT := fun X (hX : Tabs X) => mulV ⟨k, n, b, s⟩ ⟨k', n', b', s'⟩ X hX h h'
  have dT := fun X => doTimes ⟨k, n, b, s⟩ ⟨k', n', b', s'⟩ X h h' hs hs'
  obtain ⟨RT, hRT⟩ : ∃ R, on (fun n n' => ranged (n * n')) ⟨k, n, b, s⟩ ⟨k', n', b', s'⟩ = R := ⟨_, rfl⟩
  rw [hRT] at cT dT
  clear hRT
  have cD := fun X (hX : Tabs X) => divV ⟨k, n, b, s⟩ ⟨k', n', b', s'⟩ X hX h
  have dD := fun X => doDiv ⟨k, n, b, s⟩ ⟨k', n', b', s'⟩ X h h' hs hs'
  obtain ⟨RD, hRD⟩ : ∃ R, on (divR) ⟨k, n, b, s⟩ ⟨k', n', b', s'⟩ = R := ⟨_, rfl⟩
  rw [hRD] at cD dD
  clear hRD
  have cL := fun X (hX : Tabs X) => modV ⟨k, n, b, s⟩ ⟨k', n', b', s'⟩ X hX h'
  have dL := fun X => doMod ⟨k, n, b, s⟩ ⟨k', n', b', s'⟩ X h h' hs hs'
  obtain ⟨RL, hRL⟩ : ∃ R, on (modR) ⟨k, n, b, s⟩ ⟨k', n', b', s'⟩ = R := ⟨_, rfl⟩
  rw [hRL] at cL dL
  clear hRL
  have cN := fun X (hX : Tabs X) => negV ⟨k, n, b, s⟩ X hX h
  have dN := fun X => doMinus ⟨1, 0, false, ⟨#[]⟩⟩ ⟨k, n, b, s⟩ X ⟨by decide, by decide⟩ h (by decide) hs
  obtain ⟨RN, hRN⟩ : ∃ R, on (fun n n' => ranged (n - n')) ⟨1, 0, false, ⟨#[]⟩⟩ ⟨k, n, b, s⟩ = R := ⟨_, rfl⟩
  rw [hRN] at cN dN
  clear hRN
  have cQ := fun X (hX : Tabs X) => lessV ⟨k, n, b, s⟩ ⟨k', n', b', s'⟩ X hX
  have dQ := fun X => rlessV ⟨k, n, b, s⟩ ⟨k', n', b', s'⟩ X hs hs'
  obtain ⟨Q, hQ⟩ : ∃ Q, (lessR ⟨k, n, b, s⟩ ⟨k', n', b', s'⟩).1 = Q := ⟨_, rfl⟩
  obtain ⟨G, hG⟩ : ∃ G, (lessR ⟨k, n, b, s⟩ ⟨k', n', b', s'⟩).2 = G := ⟨_, rfl⟩
  rw [hQ, hG] at cQ dQ
  clear hQ hG h h' hs hs'
  obtain ⟨f1, f2⟩ := fresh2 w (.cells #[.int .u8 k, .int .i64 n, .bool b, .string s] 23) (.cells #[.int .u8 k', .int .i64 n', .bool b', .string s'] 23)
  have hB := grown2 w (.cells #[.int .u8 k, .int .i64 n, .bool b, .string s] 23) (.cells #[.int .u8 k', .int .i64 n', .bool b', .string s'] 23)
  have hz := size2 w (.cells #[.int .u8 k, .int .i64 n, .bool b, .string s] 23) (.cells #[.int .u8 k', .int .i64 n', .bool b', .string s'] 23)
  have HT0 := hid (Utf8Tabs_below hT hB)
  have HT := hid hT
  have HB := hid hB
  have F1 := hid f1
  have F2 := hid f2
  have z0 : w.heap.size + 2 ≤ ((w.alloc (.cells #[.int .u8 k, .int .i64 n, .bool b, .string s] 23)).alloc (.cells #[.int .u8 k', .int .i64 n', .bool b', .string s'] 23)).heap.size := by omega
  clear hT hB f1 f2 hz
  go_enter Tryd.func3, Tryd.ntmps3
  go_wp2_with fail
  refine (cP _ HT0.out).mono ?_
  rintro e w1 ⟨rfl, b1⟩
  have f1 := (b1.block w.heap.size (by omega)).trans F1.out
  have f2 := (b1.block (w.heap.size + 1) (by omega)).trans F2.out
  have B1 := HB.out.trans (b1.mono (by omega))
  have z1 : w.heap.size + 2 ≤ w1.heap.size := by have := b1.size; omega
  clear b1 F1 F2 HB HT0 z0 cP
  go_upto_region 2 with fail
  have g1 := heap_alloc_new w1 (.cells #[.int .u8 RP.k, .int .i64 RP.n, .bool false, .string ⟨#[]⟩] 23)
  rw [← Lib.alloc_old w1 (.cells #[.int .u8 RP.k, .int .i64 RP.n, .bool false, .string ⟨#[]⟩] 23) _ (by omega)] at f1 f2
  have B2 := B1.alloc (by omega) (.cells #[.int .u8 RP.k, .int .i64 RP.n, .bool false, .string ⟨#[]⟩] 23)
  have z2 : w1.heap.size + 1 = (w1.alloc (.cells #[.int .u8 RP.k, .int .i64 RP.n, .bool false, .string ⟨#[]⟩] 23)).heap.size := by simp
  clear B1
  generalize World.alloc w1 _ = w2 at *
  obtain ⟨x, hx⟩ : ∃ x, w1.heap.size = x := ⟨_, rfl⟩
  rw [hx] at g1 z1 z2 ⊢
  clear hx
  obtain ⟨p0, p1, p2, p3⟩ := row4 f1
  obtain ⟨q0, q1, q2, q3⟩ := row4 f2
  have F1 := hid f1
  have F2 := hid f2
  have F3 := hid g1
  have HB2 := hid B2
  clear f1 f2 g1 B2
  go_wp2_with fail
  refine (dP _).mono ?_
  rintro e w3 ⟨rfl, b3⟩
  have f1 := (b3.block w.heap.size (by omega)).trans F1.out
  have f2 := (b3.block (w.heap.size + 1) (by omega)).trans F2.out
  have f3 := (b3.block x (by omega)).trans F3.out
  have B3 := HB2.out.trans (b3.mono (by omega))
  have z3 : x + 1 ≤ w3.heap.size := by have := b3.size; omega
  clear b3 F1 F2 F3 HB2 z2 dP p0 p1 p2 p3 q0 q1 q2 q3
  go_upto_region 3 with fail
  have g1 := heap_alloc_new w3 (.cells #[.int .u8 RP.k, .int .i64 RP.n, .bool false, .string ⟨#[]⟩] 23)
  rw [← Lib.alloc_old w3 (.cells #[.int .u8 RP.k, .int .i64 RP.n, .bool false, .string ⟨#[]⟩] 23) _ (by omega)] at f1 f2 f3
  have B4 := B3.alloc (by omega) (.cells #[.int .u8 RP.k, .int .i64 RP.n, .bool false, .string ⟨#[]⟩] 23)
  clear B3
  generalize World.alloc w3 _ = w4 at *
  obtain ⟨y, hy⟩ : ∃ y, w3.heap.size = y := ⟨_, rfl⟩
  rw [hy] at g1 z3 ⊢
  clear hy
  have HL : Hid (LS ⟨k, n, b, s⟩ ⟨k', n', b', s'⟩ w x y RP RP w4) := ⟨B4, f1, f2, f3, g1, z1, by omega, by omega⟩
  clear B4 f1 f2 f3 g1 z1 z3
  obtain ⟨x0, x1, x2, x3⟩ := row4 HL.out.fx
  obtain ⟨y0, y1, y2, y3⟩ := row4 HL.out.fy
  go_wp2_with fail
  refine (answersR RP _).mono ?_
  rintro e r1 ⟨rfl, b1⟩
  have HL' := hid (HL.out.below b1)
  clear HL b1 x0 x1 x2 x3 y0 y1 y2 y3
  have HL := hid HL'.out
  clear HL'
  obtain ⟨p0, p1, p2, p3⟩ := row4 HL.out.fa
  obtain ⟨q0, q1, q2, q3⟩ := row4 HL.out.fb
  go_wp2_with fail
  refine (cM _ (Utf8Tabs_below HT.out HL.out.hb)).mono ?_
  rintro e r2 ⟨rfl, b2⟩
  have HL' := hid (HL.out.below b2)
  clear HL b2 cM p0 p1 p2 p3 q0 q1 q2 q3
  obtain ⟨c0, c1, c2, c3⟩ := row4 HL'.out.fx
  obtain ⟨e0, e1, e2, e3⟩ := free4 HL'.out.fx
  go_upto_region 6 with fail
  have HL := hid (HL'.out.setX RM)
  clear HL' c0 c1 c2 c3 e0 e1 e2 e3
  generalize World.setCell _ _ (.string ⟨#[]⟩) = r3 at *
  obtain ⟨p0, p1, p2, p3⟩ := row4 HL.out.fa
  obtain ⟨q0, q1, q2, q3⟩ := row4 HL.out.fb
  go_wp2_with fail
  refine (dM _).mono ?_
  rintro e r2 ⟨rfl, b2⟩
  have HL' := hid (HL.out.below b2)
  clear HL b2 dM p0 p1 p2 p3 q0 q1 q2 q3
  obtain ⟨c0, c1, c2, c3⟩ := row4 HL'.out.fy
  obtain ⟨e0, e1, e2, e3⟩ := free4 HL'.out.fy
  go_upto_region 7 with fail
  have HL := hid (HL'.out.setY RM)
  clear HL' c0 c1 c2 c3 e0 e1 e2 e3
  generalize World.setCell _ _ (.string ⟨#[]⟩) = r3 at *
  obtain ⟨x0, x1, x2, x3⟩ := row4 HL.out.fx
  obtain ⟨y0, y1, y2, y3⟩ := row4 HL.out.fy
  go_wp2_with fail
  refine (answersR RM _).mono ?_
  rintro e r1 ⟨rfl, b1⟩
  have HL' := hid (HL.out.below b1)
  clear HL b1 x0 x1 x2 x3 y0 y1 y2 y3
  have HL := hid HL'.out
  clear HL'
  obtain ⟨p0, p1, p2, p3⟩ := row4 HL.out.fa
  obtain ⟨q0, q1, q2, q3⟩ := row4 HL.out.fb
  go_wp2_with fail
  refine (cT _ (Utf8Tabs_below HT.out HL.out.hb)).mono ?_
  rintro e r2 ⟨rfl, b2⟩
  have HL' := hid (HL.out.below b2)
  clear HL b2 cT p0 p1 p2 p3 q0 q1 q2 q3
  obtain ⟨c0, c1, c2, c3⟩ := row4 HL'.out.fx
  obtain ⟨e0, e1, e2, e3⟩ := free4 HL'.out.fx
  go_upto_region 10 with fail
  have HL := hid (HL'.out.setX RT)
  clear HL' c0 c1 c2 c3 e0 e1 e2 e3
  generalize World.setCell _ _ (.string ⟨#[]⟩) = r3 at *
  obtain ⟨p0, p1, p2, p3⟩ := row4 HL.out.fa
  obtain ⟨q0, q1, q2, q3⟩ := row4 HL.out.fb
  go_wp2_with fail
  refine (dT _).mono ?_
  rintro e r2 ⟨rfl, b2⟩
  have HL' := hid (HL.out.below b2)
  clear HL b2 dT p0 p1 p2 p3 q0 q1 q2 q3
  obtain ⟨c0, c1, c2, c3⟩ := row4 HL'.out.fy
  obtain ⟨e0, e1, e2, e3⟩ := free4 HL'.out.fy
  go_upto_region 11 with fail
  have HL := hid (HL'.out.setY RT)
  clear HL' c0 c1 c2 c3 e0 e1 e2 e3
  generalize World.setCell _ _ (.string ⟨#[]⟩) = r3 at *
  obtain ⟨x0, x1, x2, x3⟩ := row4 HL.out.fx
  obtain ⟨y0, y1, y2, y3⟩ := row4 HL.out.fy
  go_wp2_with fail
  refine (answersR RT _).mono ?_
  rintro e r1 ⟨rfl, b1⟩
  have HL' := hid (HL.out.below b1)
  clear HL b1 x0 x1 x2 x3 y0 y1 y2 y3
  have HL := hid HL'.out
  clear HL'
  obtain ⟨p0, p1, p2, p3⟩ := row4 HL.out.fa
  obtain ⟨q0, q1, q2, q3⟩ := row4 HL.out.fb
  go_wp2_with fail
  refine (cD _ (Utf8Tabs_below HT.out HL.out.hb)).mono ?_
  rintro e r2 ⟨rfl, b2⟩
  have HL' := hid (HL.out.below b2)
  clear HL b2 cD p0 p1 p2 p3 q0 q1 q2 q3
  obtain ⟨c0, c1, c2, c3⟩ := row4 HL'.out.fx
  obtain ⟨e0, e1, e2, e3⟩ := free4 HL'.out.fx
  go_upto_region 14 with fail
  have HL := hid (HL'.out.setX RD)
  clear HL' c0 c1 c2 c3 e0 e1 e2 e3
  generalize World.setCell _ _ (.string ⟨#[]⟩) = r3 at *
  obtain ⟨p0, p1, p2, p3⟩ := row4 HL.out.fa
  obtain ⟨q0, q1, q2, q3⟩ := row4 HL.out.fb
  go_wp2_with fail
  refine (dD _).mono ?_
  rintro e r2 ⟨rfl, b2⟩
  have HL' := hid (HL.out.below b2)
  clear HL b2 dD p0 p1 p2 p3 q0 q1 q2 q3
  obtain ⟨c0, c1, c2, c3⟩ := row4 HL'.out.fy
  obtain ⟨e0, e1, e2, e3⟩ := free4 HL'.out.fy
  go_upto_region 15 with fail
  have HL := hid (HL'.out.setY RD)
  clear HL' c0 c1 c2 c3 e0 e1 e2 e3
  generalize World.setCell _ _ (.string ⟨#[]⟩) = r3 at *
  obtain ⟨x0, x1, x2, x3⟩ := row4 HL.out.fx
  obtain ⟨y0, y1, y2, y3⟩ := row4 HL.out.fy
  go_wp2_with fail
  refine (answersR RD _).mono ?_
  rintro e r1 ⟨rfl, b1⟩
  have HL' := hid (HL.out.below b1)
  clear HL b1 x0 x1 x2 x3 y0 y1 y2 y3
  have HL := hid HL'.out
  clear HL'
  obtain ⟨p0, p1, p2, p3⟩ := row4 HL.out.fa
  obtain ⟨q0, q1, q2, q3⟩ := row4 HL.out.fb
  go_wp2_with fail
  refine (cL _ (Utf8Tabs_below HT.out HL.out.hb)).mono ?_
  rintro e r2 ⟨rfl, b2⟩
  have HL' := hid (HL.out.below b2)
  clear HL b2 cL p0 p1 p2 p3 q0 q1 q2 q3
  obtain ⟨c0, c1, c2, c3⟩ := row4 HL'.out.fx
  obtain ⟨e0, e1, e2, e3⟩ := free4 HL'.out.fx
  go_upto_region 18 with fail
  have HL := hid (HL'.out.setX RL)
  clear HL' c0 c1 c2 c3 e0 e1 e2 e3
  generalize World.setCell _ _ (.string ⟨#[]⟩) = r3 at *
  obtain ⟨p0, p1, p2, p3⟩ := row4 HL.out.fa
  obtain ⟨q0, q1, q2, q3⟩ := row4 HL.out.fb
  go_wp2_with fail
  refine (dL _).mono ?_
  rintro e r2 ⟨rfl, b2⟩
  have HL' := hid (HL.out.below b2)
  clear HL b2 dL p0 p1 p2 p3 q0 q1 q2 q3
  obtain ⟨c0, c1, c2, c3⟩ := row4 HL'.out.fy
  obtain ⟨e0, e1, e2, e3⟩ := free4 HL'.out.fy
  go_upto_region 19 with fail
  have HL := hid (HL'.out.setY RL)
  clear HL' c0 c1 c2 c3 e0 e1 e2 e3
  generalize World.setCell _ _ (.string ⟨#[]⟩) = r3 at *
  obtain ⟨x0, x1, x2, x3⟩ := row4 HL.out.fx
  obtain ⟨y0, y1, y2, y3⟩ := row4 HL.out.fy
  go_wp2_with fail
  refine (answersR RL _).mono ?_
  rintro e r1 ⟨rfl, b1⟩
  have HL' := hid (HL.out.below b1)
  clear HL b1 x0 x1 x2 x3 y0 y1 y2 y3
  have HL := hid HL'.out
  clear HL'
  obtain ⟨p0, p1, p2, p3⟩ := row4 HL.out.fa
  go_wp2_with fail
  refine (cN _ (Utf8Tabs_below HT.out HL.out.hb)).mono ?_
  rintro e r2 ⟨rfl, b2⟩
  have HL' := hid (HL.out.below b2)
  clear HL b2 cN p0 p1 p2 p3
  obtain ⟨c0, c1, c2, c3⟩ := row4 HL'.out.fx
  obtain ⟨e0, e1, e2, e3⟩ := free4 HL'.out.fx
  go_upto_region 22 with fail
  have HL := hid (HL'.out.setX RN)
  clear HL' c0 c1 c2 c3 e0 e1 e2 e3
  generalize World.setCell _ _ (.string ⟨#[]⟩) = r3 at *
  obtain ⟨p0, p1, p2, p3⟩ := row4 HL.out.fa
  go_wp2_with fail
  refine (dN _).mono ?_
  rintro e r2 ⟨rfl, b2⟩
  have HL' := hid (HL.out.below b2)
  clear HL b2 dN p0 p1 p2 p3
  obtain ⟨c0, c1, c2, c3⟩ := row4 HL'.out.fy
  obtain ⟨e0, e1, e2, e3⟩ := free4 HL'.out.fy
  go_upto_region 23 with fail
  have HL := hid (HL'.out.setY RN)
  clear HL' c0 c1 c2 c3 e0 e1 e2 e3
  generalize World.setCell _ _ (.string ⟨#[]⟩) = r3 at *
  obtain ⟨p0, p1, p2, p3⟩ := row4 HL.out.fa
  obtain ⟨q0, q1, q2, q3⟩ := row4 HL.out.fb
  go_wp2_with fail
  refine (cQ _ (Utf8Tabs_below HT.out HL.out.hb)).mono ?_
  rintro e r2 ⟨rfl, b2⟩
  have HL' := hid (HL.out.below b2)
  clear HL b2 cQ p0 p1 p2 p3 q0 q1 q2 q3
  have HL := hid HL'.out
  clear HL'
  obtain ⟨p0, p1, p2, p3⟩ := row4 HL.out.fa
  obtain ⟨q0, q1, q2, q3⟩ := row4 HL.out.fb
  go_wp2_with fail
  refine (dQ _).mono ?_
  rintro e r2 ⟨rfl, b2⟩
  have HL' := hid (HL.out.below b2)
  clear HL b2 dQ p0 p1 p2 p3 q0 q1 q2 q3
  have HL := hid HL'.out
  clear HL'
  obtain ⟨x0, x1, x2, x3⟩ := row4 HL.out.fx
  obtain ⟨y0, y1, y2, y3⟩ := row4 HL.out.fy
  go_wp2_with fail
  refine (answersR RN _).mono ?_
  rintro e r1 ⟨rfl, b1⟩
  have HL' := hid (HL.out.below b1)
  clear HL b1 x0 x1 x2 x3 y0 y1 y2 y3
  have HL := hid HL'.out
  clear HL'
  go_wp2_with fail
  go_ret
  exact ⟨rfl, HL.out.hb⟩
theorem reckons_law (k : Nat) (n : Int) (b : Bool) (s : ByteArray) (k' : Nat) (n' : Int) (b' : Bool) (s' : ByteArray) (w : World) (h : In n) (hs : s.size ≤ 140737488351232) (h' : In n') (hs' : s'.size ≤ 140737488351232) (hT : Tabs w) :
    Calls Tryd.prog 3 #[.agg #[.int .u8 k, .int .i64 n, .bool b, .string s], .agg #[.int .u8 k', .int .i64 n', .bool b', .string s']] w fun e w' => e = .returned (.bool true) ∧ Below w.heap.size w w' :=
  reckons_walk k n b s k' n' b' s' w hT h h' (by omega) (by omega)
end Go.Proofs.YtohdifffdgoaaaaDoor
