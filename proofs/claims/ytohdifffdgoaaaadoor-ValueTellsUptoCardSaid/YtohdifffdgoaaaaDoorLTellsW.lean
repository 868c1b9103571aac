/- The walk of ValueTells. -/
import Derived.Test.YtohdifffdgoaaaaDoorVParse
import Derived.Test.YtohdifffdgoaaaaDoorVCmpP
namespace Go.Proofs.YtohdifffdgoaaaaDoor
open Go.RowKit
open Go.Lib (hid itoa)
open V
namespace V
theorem comp_sgn : ∀ (a b : List UInt8), Lib.compareBytes a b = if a ≠ b then sgn (Op.bytesLess a b) else 0
  | [], [] => rfl
  | [], _ :: _ => rfl
  | _ :: _, [] => rfl
  | a :: x, b :: y => by
    have ih := comp_sgn x y
    rw [Lib.compareBytes, Op.bytesLess]
    by_cases h : a < b
    · have hne : a ≠ b := fun e => by subst e; exact UInt8.lt_irrefl a h
      rw [if_pos h, if_pos (by simp [hne])]; simp [h, sgn]
    · rw [if_neg h]
      by_cases h2 : b < a
      · have hne : a ≠ b := fun e => by subst e; exact h h2
        rw [if_pos h2, if_pos (by simp [hne])]; simp [h, hne, sgn]
      · have e : a = b := UInt8.le_antisymm (UInt8.not_lt.1 h2) (UInt8.not_lt.1 h)
        subst e
        rw [if_neg h2, ih]
        by_cases hxy : x = y
        · simp [hxy]
        · rw [if_pos hxy, if_pos (by simp [hxy])]; simp [h]
theorem ord_sgn (a b : Int) : ordI a b = if a ≠ b then sgn (decide (a < b)) else 0 := by
  unfold ordI sgn
  rcases Int.lt_trichotomy a b with h | h | h
  · rw [if_pos h, if_pos (by omega), if_pos (by simpa using h)]
  · subst h; simp
  · rw [if_neg (by omega), if_pos h, if_pos (by omega), if_neg (by simp; omega)]
theorem sgn_ne (b : Bool) : sgn b ≠ 0 := by cases b <;> decide
/-- the program's order is the document's -/
theorem or4_cmp (v u : Val) : or4 (ordI v.k u.k) (ordI v.n u.n) ((if v.b then 1 else 0) - (if u.b then 1 else 0)) (Lib.compareBytes v.s.data.toList u.s.data.toList) = cmp v u := by
  have e1 : ordI v.k u.k = if v.k ≠ u.k then sgn (decide (v.k < u.k)) else 0 := by
    rw [ord_sgn]
    by_cases h : v.k = u.k
    · rw [if_neg (by omega), if_neg (by omega)]
    · rw [if_pos (by omega), if_pos h, show decide ((v.k : Int) < (u.k : Int)) = decide (v.k < u.k) by simp]
  have e3 : ((if v.b then (1 : Int) else 0) - (if u.b then 1 else 0)) = if v.b ≠ u.b then sgn u.b else 0 := by
    cases v.b <;> cases u.b <;> decide
  rw [e1, ord_sgn v.n u.n, e3, comp_sgn]
  unfold or4 cmp
  generalize v.s.data.toList = l
  generalize u.s.data.toList = m
  have g1 := sgn_ne (decide (v.k < u.k))
  have g2 := sgn_ne (decide (v.n < u.n))
  have g3 := sgn_ne u.b
  have g4 := sgn_ne (Op.bytesLess l m)
  generalize sgn (decide (v.k < u.k)) = x1 at *
  generalize sgn (decide (v.n < u.n)) = x2 at *
  generalize sgn u.b = x3 at *
  generalize sgn (Op.bytesLess l m) = x4 at *
  by_cases hk : v.k = u.k
  · rw [if_neg (show ¬ v.k ≠ u.k from fun h => h hk)]
    by_cases hn : v.n = u.n
    · rw [if_neg (show ¬ v.n ≠ u.n from fun h => h hn)]
      by_cases hb : v.b = u.b
      · rw [if_neg (show ¬ v.b ≠ u.b from fun h => h hb)]
        simp [hk, hn, hb]
      · rw [if_pos (show v.b ≠ u.b from hb)]
        simp [hk, hn, hb, g3]
    · rw [if_pos (show v.n ≠ u.n from hn)]
      simp [hk, hn, g2]
  · rw [if_pos (show v.k ≠ u.k from hk)]
    simp [hk, g1]
def sameB (v u : Val) : Bool := (v.k : Int) == (u.k : Int) && (v.n == u.n && (v.b == u.b && v.s.toList == u.s.toList))
theorem cmp_same (v u : Val) : (cmp v u == 0) = sameB v u := by
  unfold cmp sameB
  rw [Lib.toList_data, Lib.toList_data]
  generalize v.s.data.toList = l
  generalize u.s.data.toList = m
  have g1 := sgn_ne (decide (v.k < u.k))
  have g2 := sgn_ne (decide (v.n < u.n))
  have g3 := sgn_ne u.b
  have g4 := sgn_ne (Op.bytesLess l m)
  generalize sgn (decide (v.k < u.k)) = x1 at *
  generalize sgn (decide (v.n < u.n)) = x2 at *
  generalize sgn u.b = x3 at *
  generalize sgn (Op.bytesLess l m) = x4 at *
  by_cases hk : v.k = u.k
  · rw [if_neg (show ¬ v.k ≠ u.k from fun h => h hk), hk]
    by_cases hn : v.n = u.n
    · rw [if_neg (show ¬ v.n ≠ u.n from fun h => h hn), hn]
      by_cases hb : v.b = u.b
      · rw [if_neg (show ¬ v.b ≠ u.b from fun h => h hb), hb]
        by_cases hs : l = m
        · subst hs; simp
        · simp only [ne_eq, hs, not_false_eq_true, if_true, beq_self_eq_true, Bool.true_and]
          exact (beq_eq_false_iff_ne.2 g4).trans (beq_eq_false_iff_ne.2 hs).symm
      · simp only [ne_eq, hb, not_false_eq_true, if_true, beq_self_eq_true, Bool.true_and]
        rw [beq_eq_false_iff_ne.2 g3, beq_eq_false_iff_ne.2 hb]; rfl
    · simp only [ne_eq, hn, not_false_eq_true, if_true, beq_self_eq_true, Bool.true_and]
      rw [beq_eq_false_iff_ne.2 g2, beq_eq_false_iff_ne.2 hn]; rfl
  · rw [if_pos (show v.k ≠ u.k from hk)]
    have hk' : ¬ ((v.k : Int) = (u.k : Int)) := by omega
    rw [beq_eq_false_iff_ne.2 g1, beq_eq_false_iff_ne.2 hk']; rfl
end V
set_option maxRecDepth 100000 in
theorem same_any (k k' : Nat) (n n' : Int) (b b' : Bool) (s s' : ByteArray) (w : World) :
    Calls Tryd.prog 36 #[.agg #[.int .u8 k, .int .i64 n, .bool b, .string s], .agg #[.int .u8 k', .int .i64 n', .bool b', .string s']] w fun e w' => e = .returned (.bool (sameB ⟨k, n, b, s⟩ ⟨k', n', b', s'⟩)) ∧ Below w.heap.size w w' := by
  have hE := eql_value k k' n n' b b' s s'
  obtain ⟨q, hq⟩ : ∃ q, sameB ⟨k, n, b, s⟩ ⟨k', n', b', s'⟩ = q := ⟨_, rfl⟩
  rw [hq]
  have hE' : ∀ W : World, (binOp .eql 23 (.agg #[.int .u8 k, .int .i64 n, .bool b, .string s]) (.agg #[.int .u8 k', .int .i64 n', .bool b', .string s'])).run Tryd.prog W = .ok (.bool q) W := by
    intro W; rw [← hq]; exact hE W
  have hB := hid (grown2 w (.cells #[.int .u8 k, .int .i64 n, .bool b, .string s] 23) (.cells #[.int .u8 k', .int .i64 n', .bool b', .string s'] 23))
  clear hE hq
  go_enter Tryd.func36, Tryd.ntmps36
  go_wp2_with fail
  go_ret
  exact ⟨rfl, hB.out⟩
/-- what the law's walk knows of its own memory: the two values, the two that were read -/
structure T4 (v u X Y : Val) (x y : Nat) (w r : World) : Prop where
  hb : Below w.heap.size w r
  fa : r.heap[w.heap.size]? = some (.cells #[.int .u8 v.k, .int .i64 v.n, .bool v.b, .string v.s] 23 (0, 0))
  fb : r.heap[w.heap.size + 1]? = some (.cells #[.int .u8 u.k, .int .i64 u.n, .bool u.b, .string u.s] 23 (0, 0))
  fx : r.heap[x]? = some (.cells #[.int .u8 X.k, .int .i64 X.n, .bool X.b, .string X.s] 23 (0, 0))
  fy : r.heap[y]? = some (.cells #[.int .u8 Y.k, .int .i64 Y.n, .bool Y.b, .string Y.s] 23 (0, 0))
theorem T4.below {v u X Y : Val} {x y : Nat} {w r r' : World} (h : T4 v u X Y x y w r) (b : Below r.heap.size r r') : T4 v u X Y x y w r' where
  hb := h.hb.trans (b.mono h.hb.size)
  fa := (b.block _ (Go.lt_of_block h.fa)).trans h.fa
  fb := (b.block _ (Go.lt_of_block h.fb)).trans h.fb
  fx := (b.block _ (Go.lt_of_block h.fx)).trans h.fx
  fy := (b.block _ (Go.lt_of_block h.fy)).trans h.fy
theorem T4.drew {v u X Y : Val} {x y : Nat} {w r : World} (h : T4 v u X Y x y w r) : T4 v u X Y x y w r.drew := ⟨h.hb.drew, h.fa, h.fb, h.fx, h.fy⟩
theorem T4.env {v u X Y : Val} {x y : Nat} {w r : World} (hE : Hid (VEnv w)) (h : Hid (T4 v u X Y x y w r)) : VEnv r := hE.out.below h.out.hb
theorem T4.after {v u X Y : Val} {x y : Nat} {w r r' : World} (h : Hid (T4 v u X Y x y w r)) (b : Below r.heap.size r r') : Hid (T4 v u X Y x y w r') := h.out.below b
theorem T4.cells {v u X Y : Val} {x y : Nat} {w r : World} (h : Hid (T4 v u X Y x y w r)) : World.cell? r ⟨w.heap.size, 0, none⟩ = some (.int .u8 v.k) ∧ World.cell? r ⟨w.heap.size, 1, none⟩ = some (.int .i64 v.n) ∧ World.cell? r ⟨w.heap.size, 2, none⟩ = some (.bool v.b) ∧ World.cell? r ⟨w.heap.size, 3, none⟩ = some (.string v.s) ∧ World.cell? r ⟨w.heap.size + 1, 0, none⟩ = some (.int .u8 u.k) ∧ World.cell? r ⟨w.heap.size + 1, 1, none⟩ = some (.int .i64 u.n) ∧ World.cell? r ⟨w.heap.size + 1, 2, none⟩ = some (.bool u.b) ∧ World.cell? r ⟨w.heap.size + 1, 3, none⟩ = some (.string u.s) ∧ World.cell? r ⟨x, 0, none⟩ = some (.int .u8 X.k) ∧ World.cell? r ⟨x, 1, none⟩ = some (.int .i64 X.n) ∧ World.cell? r ⟨x, 2, none⟩ = some (.bool X.b) ∧ World.cell? r ⟨x, 3, none⟩ = some (.string X.s) ∧ World.cell? r ⟨y, 0, none⟩ = some (.int .u8 Y.k) ∧ World.cell? r ⟨y, 1, none⟩ = some (.int .i64 Y.n) ∧ World.cell? r ⟨y, 2, none⟩ = some (.bool Y.b) ∧ World.cell? r ⟨y, 3, none⟩ = some (.string Y.s) ∧ Hid (T4 v u X Y x y w r) := by
  obtain ⟨a0, a1, a2, a3⟩ := row4 h.out.fa
  obtain ⟨b0, b1, b2, b3⟩ := row4 h.out.fb
  obtain ⟨c0, c1, c2, c3⟩ := row4 h.out.fx
  obtain ⟨d0, d1, d2, d3⟩ := row4 h.out.fy
  exact ⟨a0, a1, a2, a3, b0, b1, b2, b3, c0, c1, c2, c3, d0, d1, d2, d3, h⟩
theorem ofS {p0 p1 p2 p3 p4 p5 p6 p7 p8 p9 p10 p11 p12 p13 p14 p15 Q : Prop} (h : p0 ∧ p1 ∧ p2 ∧ p3 ∧ p4 ∧ p5 ∧ p6 ∧ p7 ∧ p8 ∧ p9 ∧ p10 ∧ p11 ∧ p12 ∧ p13 ∧ p14 ∧ p15 ∧ Q) : Q := h.2.2.2.2.2.2.2.2.2.2.2.2.2.2.2.2

set_option maxRecDepth 100000 in
set_option maxHeartbeats 20000000 in
theorem tells_walk (k : Nat) (n : Int) (b : Bool) (s : ByteArray) (k' : Nat) (n' : Int) (b' : Bool) (s' : ByteArray) (kd : Nat) (t : ByteArray) (w : World) (hE : VEnv w) (h : In n) (hs : s.size ≤ 17592186044416) (ht : t.size ≤ 17592186044416) :
    Calls Tryd.prog 5 #[.agg #[.int .u8 k, .int .i64 n, .bool b, .string s], .agg #[.int .u8 k', .int .i64 n', .bool b', .string s'], .int .u8 kd, .string t] w fun e w' => e = .returned (.bool true) ∧ Below w.heap.size w w' := by
  have cP := fun X (hX : VEnv X) => parseV kd t X hX ht
  have cQ := fun X => rparseV kd t X ht
  obtain ⟨R, hR⟩ : ∃ R, parseP kd t = R := ⟨_, rfl⟩
  rw [hR] at cP cQ
  obtain ⟨⟨pk, pn, pb, ps⟩, pe⟩ := R
  simp only at cP cQ
  have cC := fun X (hX : Tabs X) => check_any k n b s X hX
  have cD := fun X => refCheck_any k n b s X (by omega)
  obtain ⟨oE, hoE⟩ : ∃ q, okE ⟨k, n, b, s⟩ = q := ⟨_, rfl⟩
  rw [hoE] at cC cD
  have cS := fun X => same_any k k' n n' b b' s s' X
  have cR := fun X => refCmp_any k k' n n' b b' s s' X
  have cM := fun X => cmpV_any k k' n n' b b' s s' X
  have hc := or4_cmp ⟨k, n, b, s⟩ ⟨k', n', b', s'⟩
  have hs0 := cmp_same ⟨k, n, b, s⟩ ⟨k', n', b', s'⟩
  simp only at hc
  simp only [hc] at cM
  obtain ⟨c, hcc⟩ : ∃ c, cmp ⟨k, n, b, s⟩ ⟨k', n', b', s'⟩ = c := ⟨_, rfl⟩
  rw [hcc] at hs0 cR cM
  obtain ⟨q, hq⟩ : ∃ q, sameB ⟨k, n, b, s⟩ ⟨k', n', b', s'⟩ = q := ⟨_, rfl⟩
  rw [hq] at hs0 cS
  have cT := fun X (hX : VEnv X) => textV ⟨k, n, b, s⟩ X hX h.1 h.2
  have cU := fun X => rtextV ⟨k, n, b, s⟩ X (by simp only; omega) h.1 h.2
  obtain ⟨T, hT⟩ : ∃ T : ByteArray, (⟨(textL ⟨k, n, b, s⟩).toArray⟩ : ByteArray) = T := ⟨_, rfl⟩
  rw [hT] at cT cU
  simp only at cT cU
  have cX := fun X => refCmp_any pk pk pn pn pb pb ps ps X
  rw [V.cmp_self] at cX
  have HE := hid hE
  clear hR hoE hc hcc hq hT hE h hs ht
  obtain ⟨f1, f2⟩ := fresh2 w (.cells #[.int .u8 k, .int .i64 n, .bool b, .string s] 23) (.cells #[.int .u8 k', .int .i64 n', .bool b', .string s'] 23)
  have hB := grown2 w (.cells #[.int .u8 k, .int .i64 n, .bool b, .string s] 23) (.cells #[.int .u8 k', .int .i64 n', .bool b', .string s'] 23)
  have hz := size2 w (.cells #[.int .u8 k, .int .i64 n, .bool b, .string s] 23) (.cells #[.int .u8 k', .int .i64 n', .bool b', .string s'] 23)
  go_enter Tryd.func5, Tryd.ntmps5
  go_upto_region 1 with fail
  generalize World.alloc (World.alloc w _) _ = w0 at *
  have F1 := hid f1
  have F2 := hid f2
  have HB := hid hB
  clear f1 f2 hB
  go_wp2_with fail
  refine (cP _ (HE.out.below HB.out)).mono ?_
  rintro e w1 ⟨rfl, b1⟩
  have f1 := (b1.block w.heap.size (by omega)).trans F1.out
  have f2 := (b1.block (w.heap.size + 1) (by omega)).trans F2.out
  have B1 := HB.out.trans (b1.mono (by omega))
  have z1 : w.heap.size + 2 ≤ w1.heap.size := by have := b1.size; omega
  clear b1 F1 F2 HB cP hz
  go_upto_region 2 with fail
  have g1 := heap_alloc_new w1 (.cells #[.int .u8 pk, .int .i64 pn, .bool pb, .string ps] 23)
  rw [← Lib.alloc_old w1 (.cells #[.int .u8 pk, .int .i64 pn, .bool pb, .string ps] 23) _ (by omega)] at f1 f2
  have B2 := B1.alloc (by omega) (.cells #[.int .u8 pk, .int .i64 pn, .bool pb, .string ps] 23)
  have z2 : w1.heap.size + 1 = (w1.alloc (.cells #[.int .u8 pk, .int .i64 pn, .bool pb, .string ps] 23)).heap.size := by simp
  clear B1
  generalize World.alloc w1 _ = w2 at *
  obtain ⟨x, hx⟩ : ∃ x, w1.heap.size = x := ⟨_, rfl⟩
  rw [hx] at g1 z1 z2 ⊢
  clear hx
  have F1 := hid f1
  have F2 := hid f2
  have F3 := hid g1
  have HB2 := hid B2
  clear f1 f2 g1 B2
  go_wp2_with fail
  refine (cQ _).mono ?_
  rintro e w3 ⟨rfl, b3⟩
  have f1 := (b3.block w.heap.size (by omega)).trans F1.out
  have f2 := (b3.block (w.heap.size + 1) (by omega)).trans F2.out
  have f3 := (b3.block x (by omega)).trans F3.out
  have B3 := HB2.out.trans (b3.mono (by omega))
  have z3 : x + 1 ≤ w3.heap.size := by have := b3.size; omega
  clear b3 F1 F2 F3 HB2 z2 cQ
  go_upto_region 3 with fail
  have g1 := heap_alloc_new w3 (.cells #[.int .u8 pk, .int .i64 pn, .bool pb, .string ps] 23)
  rw [← Lib.alloc_old w3 (.cells #[.int .u8 pk, .int .i64 pn, .bool pb, .string ps] 23) _ (by omega)] at f1 f2 f3
  have B4 := B3.alloc (by omega) (.cells #[.int .u8 pk, .int .i64 pn, .bool pb, .string ps] 23)
  clear B3
  generalize World.alloc w3 _ = w4 at *
  obtain ⟨y, hy⟩ : ∃ y, w3.heap.size = y := ⟨_, rfl⟩
  rw [hy] at g1 z3 ⊢
  clear hy
  have HL : Hid (T4 ⟨k, n, b, s⟩ ⟨k', n', b', s'⟩ ⟨pk, pn, pb, ps⟩ ⟨pk, pn, pb, ps⟩ x y w w4) := ⟨B4, f1, f2, f3, g1⟩
  clear B4 f1 f2 f3 g1 z1 z3
  go_region_held3 (fun w' => World.cell? w' ⟨w.heap.size, 0, none⟩ = some (.int .u8 k) ∧ World.cell? w' ⟨w.heap.size, 1, none⟩ = some (.int .i64 n) ∧ World.cell? w' ⟨w.heap.size, 2, none⟩ = some (.bool b) ∧ World.cell? w' ⟨w.heap.size, 3, none⟩ = some (.string s) ∧ World.cell? w' ⟨w.heap.size + 1, 0, none⟩ = some (.int .u8 k') ∧ World.cell? w' ⟨w.heap.size + 1, 1, none⟩ = some (.int .i64 n') ∧ World.cell? w' ⟨w.heap.size + 1, 2, none⟩ = some (.bool b') ∧ World.cell? w' ⟨w.heap.size + 1, 3, none⟩ = some (.string s') ∧ World.cell? w' ⟨x, 0, none⟩ = some (.int .u8 pk) ∧ World.cell? w' ⟨x, 1, none⟩ = some (.int .i64 pn) ∧ World.cell? w' ⟨x, 2, none⟩ = some (.bool pb) ∧ World.cell? w' ⟨x, 3, none⟩ = some (.string ps) ∧ World.cell? w' ⟨y, 0, none⟩ = some (.int .u8 pk) ∧ World.cell? w' ⟨y, 1, none⟩ = some (.int .i64 pn) ∧ World.cell? w' ⟨y, 2, none⟩ = some (.bool pb) ∧ World.cell? w' ⟨y, 3, none⟩ = some (.string ps) ∧ Hid (T4 ⟨k, n, b, s⟩ ⟨k', n', b', s'⟩ ⟨pk, pn, pb, ps⟩ ⟨pk, pn, pb, ps⟩ x y w w'))
    (first
      | assumption
      | exact T4.cells (hid HL.out.drew)
      | exact T4.cells (T4.after (ofS (by assumption)) bb))
    (first
      | (go_at_call 34; refine (cC _ (T4.env HE (ofS (by assumption))).tabs).mono ?_; rintro e ww ⟨rfl, bb⟩)
      | (go_at_call 35; refine (cD _).mono ?_; rintro e ww ⟨rfl, bb⟩)
      | (go_at_call 36; refine (cS _).mono ?_; rintro e ww ⟨rfl, bb⟩)
      | (go_at_call 37; refine (cM _).mono ?_; rintro e ww ⟨rfl, bb⟩)
      | (go_at_call 38; refine (cT _ (T4.env HE (ofS (by assumption)))).mono ?_; rintro e ww ⟨rfl, bb⟩)
      | (go_at_call 39; refine (cU _).mono ?_; rintro e ww ⟨rfl, bb⟩)
      | (go_at_call_of 29 (Value.agg #[.int .u8 k, .int .i64 n, .bool b, .string s]); refine (cR _).mono ?_; rintro e ww ⟨rfl, bb⟩)
      | (go_at_call_of 29 (Value.agg #[.int .u8 pk, .int .i64 pn, .bool pb, .string ps]); refine (cX _).mono ?_; rintro e ww ⟨rfl, bb⟩))
  all_goals
    go_split_ands
    have B2 := hid (Hid.out (p := T4 _ _ _ _ _ _ w _) (by assumption)).hb
    go_wp2_with fail
    go_ret
    exact ⟨rfl, B2.out⟩
theorem tells_law (k : Nat) (n : Int) (b : Bool) (s : ByteArray) (k' : Nat) (n' : Int) (b' : Bool) (s' : ByteArray) (a : Int) (t : ByteArray) (w : World) (h : In n) (_ : s.size ≤ 140737488351232) (_ : In n') (_ : s'.size ≤ 140737488351232) (ha : 0 ≤ a ∧ a ≤ 255) (_ : t.size ≤ 140737488351232) (hE : VEnv w) (hc : s.size + s'.size + t.size ≤ 1048576) :
    Calls Tryd.prog 5 #[.agg #[.int .u8 k, .int .i64 n, .bool b, .string s], .agg #[.int .u8 k', .int .i64 n', .bool b', .string s'], .int .u8 a, .string t] w fun e w' => e = .returned (.bool true) ∧ Below w.heap.size w w' := by
  obtain ⟨kd, rfl⟩ := Int.eq_ofNat_of_zero_le ha.1
  exact tells_walk k n b s k' n' b' s' kd t w hE h (by omega) (by omega)
end Go.Proofs.YtohdifffdgoaaaaDoor
