/- Less, Same, boxes, quiet regions: what the walk of ValueOrder leans on. -/
import Derived.Test.YtohdifffdgoaaaaDoorVCmpP
import Derived.Test.YtohdifffdgoaaaaDoorVAllP
import Derived.RowKit
import Derived.Deep.QuietTactic
namespace Go.Proofs.YtohdifffdgoaaaaDoor
open Go.RowKit
open Go.Lib (hid)
section
theorem q_start {P : Program} {C : World → Prop} {id : Nat} {Q : Exit → Act → World → Prop} {a : Act} {w : World} {l : List Oper} (hm : P.follows .mixedOrders = true) (hB : Region.lexB .any l.toArray = true) (hC : C w.drew)
    (h : wpQuiet P l.toArray C (fun a' => ∀ w', C w' → Q .normal a' w') l a) : (Code.region id l.toArray true).wp P Q a w :=
  wp_region_quiet (C := C) hm hB hC (by simpa using h)
section
variable {P : Program} {ops : Array Oper} {C : World → Prop} {Q : Act → Prop} {o : Oper} {rest : List Oper} {a : Act} {x : Value} {f : FuncId} {args : Array Value}
theorem q_skip (hw : Region.wanted o (yielded ops a.tmps) = false) (h : wpQuiet P ops C Q rest (a.put o.dst undef)) : wpQuiet P ops C Q (o :: rest) a :=
  wpQuiet_step fun K hK => by rw [if_neg (by rw [hw]; exact Bool.false_ne_true)]; exact hK _ h
theorem q_val (hw : Region.wanted o (yielded ops a.tmps) = true) (h : ∀ v, C v → (execOp a.eval o).run P v = .ok (.value x) v) (k : wpQuiet P ops C Q rest (a.put o.dst x)) : wpQuiet P ops C Q (o :: rest) a :=
  wpQuiet_step fun K hK => by
    rw [if_pos hw]
    exact ⟨x, fun v hC => by unfold Oper.quietAt; rw [h v hC]; exact ⟨rfl, rfl⟩, hK _ k⟩
theorem q_call (hw : Region.wanted o (yielded ops a.tmps) = true) (h : ∀ v, C v → (execOp a.eval o).run P v = .ok (.enter f args) v) (c : ∀ v, C v → Calls P f args v fun e w'' => e = .returned x ∧ C w'')
    (k : wpQuiet P ops C Q rest (a.put o.dst x)) : wpQuiet P ops C Q (o :: rest) a :=
  wpQuiet_step fun K hK => by
    rw [if_pos hw]
    exact ⟨x, fun v hC => by unfold Oper.quietAt; rw [h v hC]; exact ⟨rfl, c v hC⟩, hK _ k⟩
end
end
open V
namespace V
def lessR (v u : Val) : Bool × Int := if v.k = u.k ∧ v.k ≠ 2 ∧ ok v = true ∧ ok u = true then (if v.k = 1 then decide (v.n < u.n) else Op.bytesLess v.s.data.toList u.s.data.toList, 0) else (false, 90)
theorem ord_neg (a b : Int) : (decide (ordI a b < 0)) = decide (a < b) := by
  unfold ordI
  by_cases h : a < b
  · simp [h]
  · rw [if_neg h]; by_cases h2 : b < a <;> simp [h, h2]
theorem comp_neg : ∀ (a b : List UInt8), (decide (Lib.compareBytes a b < 0)) = Op.bytesLess a b
  | [], [] => rfl
  | [], _ :: _ => rfl
  | _ :: _, [] => rfl
  | a :: x, b :: y => by
    have ih := comp_neg x y
    unfold Lib.compareBytes Op.bytesLess
    by_cases h : a < b
    · simp [h]
    · rw [if_neg h, decide_eq_false h]
      by_cases h2 : b < a
      · rw [if_pos h2]
        have : ¬ a = b := fun e => by subst e; exact h h2
        simp [this]
      · rw [if_neg h2, ih]
        have : a = b := UInt8.le_antisymm (UInt8.not_lt.1 h2) (UInt8.not_lt.1 h)
        simp [this]
theorem ok_three {v : Val} (h : ok v = true) (h1 : v.k ≠ 1) (h2 : v.k ≠ 2) : v.n = 0 ∧ v.b = false := by
  simp [ok, h1, h2] at h
  exact ⟨h.2.1, h.2.2.1⟩
theorem ok_one {v : Val} (h : ok v = true) (h1 : v.k = 1) : v.b = false ∧ v.s.size = 0 := by
  simp [ok, h1] at h
  exact ⟨h.1, by rw [h.2]; rfl⟩
theorem less_cmp (v u : Val) (hk : v.k = u.k) (h2 : v.k ≠ 2) (hv : ok v = true) (hu : ok u = true) :
    decide (or4 (ordI v.k u.k) (ordI v.n u.n) ((if v.b then 1 else 0) - (if u.b then 1 else 0)) (Lib.compareBytes v.s.data.toList u.s.data.toList) < 0) = (if v.k = 1 then decide (v.n < u.n) else Op.bytesLess v.s.data.toList u.s.data.toList) := by
  have e0 : ordI v.k u.k = 0 := by rw [hk]; simp [ordI]
  by_cases h1 : v.k = 1
  · obtain ⟨b1, s1⟩ := ok_one hv h1
    obtain ⟨b2, s2⟩ := ok_one hu (by rw [← hk]; exact h1)
    rw [if_pos h1, ← ord_neg v.n u.n, e0, b1, b2, nil_of_size s1, nil_of_size s2]
    obtain ⟨r, hr⟩ : ∃ r, ordI v.n u.n = r := ⟨_, rfl⟩
    rw [hr]
    unfold or4
    by_cases hn : r = 0
    · rw [hn]; simp [Lib.compareBytes]
    · simp [hn]
  · obtain ⟨n1, b1⟩ := ok_three hv h1 h2
    obtain ⟨n2, b2⟩ := ok_three hu (by rw [← hk]; exact h1) (by rw [← hk]; exact h2)
    rw [if_neg h1, ← comp_neg, e0, b1, b2, n1, n2]
    unfold or4
    simp [ordI]
end V

set_option maxRecDepth 100000 in
set_option maxHeartbeats 4000000 in
theorem less_kind (k : Nat) (n : Int) (b : Bool) (s : ByteArray) (k' : Nat) (n' : Int) (b' : Bool) (s' : ByteArray) (w : World) (hk : k ≠ k') :
    Calls Tryd.prog 20 #[.agg #[.int .u8 k, .int .i64 n, .bool b, .string s], .agg #[.int .u8 k', .int .i64 n', .bool b', .string s']] w fun e w' => e = .returned (.tuple #[.bool false, .int .i64 90]) ∧ Below w.heap.size w w' := by
  obtain ⟨f1, f2⟩ := fresh2 w (.cells #[.int .u8 k, .int .i64 n, .bool b, .string s] 23) (.cells #[.int .u8 k', .int .i64 n', .bool b', .string s'] 23)
  have hB := grown2 w (.cells #[.int .u8 k, .int .i64 n, .bool b, .string s] 23) (.cells #[.int .u8 k', .int .i64 n', .bool b', .string s'] 23)
  have hz := size2 w (.cells #[.int .u8 k, .int .i64 n, .bool b, .string s] 23) (.cells #[.int .u8 k', .int .i64 n', .bool b', .string s'] 23)
  have t0 : ((k : Int) != (k' : Int)) = true := by rw [bne_iff_ne]; omega
  have HB := hid hB
  clear hk hB f1 f2 hz
  go_enter Tryd.func20, Tryd.ntmps20
  go_wp2_with fail
  go_ret2
  exact ⟨rfl, HB.out⟩

set_option maxRecDepth 100000 in
set_option maxHeartbeats 4000000 in
theorem less_bool (k : Nat) (n : Int) (b : Bool) (s : ByteArray) (k' : Nat) (n' : Int) (b' : Bool) (s' : ByteArray) (w : World) (hk : k = k') (h2 : k = 2) :
    Calls Tryd.prog 20 #[.agg #[.int .u8 k, .int .i64 n, .bool b, .string s], .agg #[.int .u8 k', .int .i64 n', .bool b', .string s']] w fun e w' => e = .returned (.tuple #[.bool false, .int .i64 90]) ∧ Below w.heap.size w w' := by
  subst hk h2
  obtain ⟨f1, f2⟩ := fresh2 w (.cells #[.int .u8 (2 : Nat), .int .i64 n, .bool b, .string s] 23) (.cells #[.int .u8 (2 : Nat), .int .i64 n', .bool b', .string s'] 23)
  have hB := grown2 w (.cells #[.int .u8 (2 : Nat), .int .i64 n, .bool b, .string s] 23) (.cells #[.int .u8 (2 : Nat), .int .i64 n', .bool b', .string s'] 23)
  have hz := size2 w (.cells #[.int .u8 (2 : Nat), .int .i64 n, .bool b, .string s] 23) (.cells #[.int .u8 (2 : Nat), .int .i64 n', .bool b', .string s'] 23)
  have t0 : (((2 : Nat) : Int) != ((2 : Nat) : Int)) = false := rfl
  have t1 : (((2 : Nat) : Int) == 2) = true := rfl
  have HB := hid hB
  clear hB f1 f2 hz
  go_enter Tryd.func20, Tryd.ntmps20
  go_wp2_with fail
  go_ret2
  exact ⟨rfl, HB.out⟩

set_option maxRecDepth 100000 in
set_option maxHeartbeats 4000000 in
theorem less_bad1 (k : Nat) (n : Int) (b : Bool) (s : ByteArray) (k' : Nat) (n' : Int) (b' : Bool) (s' : ByteArray) (w : World) (hT : Tabs w) (hk : k = k') (h2 : k ≠ 2) (hv : ok ⟨k, n, b, s⟩ = false) :
    Calls Tryd.prog 20 #[.agg #[.int .u8 k, .int .i64 n, .bool b, .string s], .agg #[.int .u8 k', .int .i64 n', .bool b', .string s']] w fun e w' => e = .returned (.tuple #[.bool false, .int .i64 90]) ∧ Below w.heap.size w w' := by
  have cA := fun X (hX : Tabs X) => check_any k n b s X hX
  rw [show okE ⟨k, n, b, s⟩ = 1 by simp [okE, hv]] at cA
  have t0 : ((k : Int) != (k' : Int)) = false := by rw [hk]; simp
  have t1 : ((k : Int) == 2) = false := beq_eq_false_iff_ne.2 (by omega)
  obtain ⟨f1, f2⟩ := fresh2 w (.cells #[.int .u8 k, .int .i64 n, .bool b, .string s] 23) (.cells #[.int .u8 k', .int .i64 n', .bool b', .string s'] 23)
  have hB := grown2 w (.cells #[.int .u8 k, .int .i64 n, .bool b, .string s] 23) (.cells #[.int .u8 k', .int .i64 n', .bool b', .string s'] 23)
  have hz := size2 w (.cells #[.int .u8 k, .int .i64 n, .bool b, .string s] 23) (.cells #[.int .u8 k', .int .i64 n', .bool b', .string s'] 23)
  have F1 := hid f1
  have F2 := hid f2
  have HB0 := hid hB
  have z0 : w.heap.size + 2 ≤ ((w.alloc (.cells #[.int .u8 k, .int .i64 n, .bool b, .string s] 23)).alloc (.cells #[.int .u8 k', .int .i64 n', .bool b', .string s'] 23)).heap.size := by omega
  have HT0 := hid (Utf8Tabs_below hT hB)
  clear hk h2 hv hB hT hz f1 f2 F1
  go_enter Tryd.func20, Tryd.ntmps20
  go_wp2_with fail
  refine (cA _ HT0.out).mono ?_
  rintro e w1 ⟨rfl, b1⟩
  have f2 := (b1.block (w.heap.size + 1) (by omega)).trans F2.out
  have HB1 := hid (HB0.out.trans (b1.mono (by omega)))
  have z1 : w.heap.size + 2 ≤ w1.heap.size := by have := b1.size; omega
  clear b1 F2
  have F2 := hid f2
  clear f2
  go_wp2_with fail
  go_ret2
  exact ⟨rfl, HB1.out⟩

set_option maxRecDepth 100000 in
set_option maxHeartbeats 4000000 in
theorem less_bad2 (k : Nat) (n : Int) (b : Bool) (s : ByteArray) (k' : Nat) (n' : Int) (b' : Bool) (s' : ByteArray) (w : World) (hT : Tabs w) (hk : k = k') (h2 : k ≠ 2) (hv : ok ⟨k, n, b, s⟩ = true) (hu : ok ⟨k', n', b', s'⟩ = false) :
    Calls Tryd.prog 20 #[.agg #[.int .u8 k, .int .i64 n, .bool b, .string s], .agg #[.int .u8 k', .int .i64 n', .bool b', .string s']] w fun e w' => e = .returned (.tuple #[.bool false, .int .i64 90]) ∧ Below w.heap.size w w' := by
  have cA := fun X (hX : Tabs X) => check_any k n b s X hX
  rw [show okE ⟨k, n, b, s⟩ = 0 by simp [okE, hv]] at cA
  have cB := fun X (hX : Tabs X) => check_any k' n' b' s' X hX
  rw [show okE ⟨k', n', b', s'⟩ = 1 by simp [okE, hu]] at cB
  have t0 : ((k : Int) != (k' : Int)) = false := by rw [hk]; simp
  have t1 : ((k : Int) == 2) = false := beq_eq_false_iff_ne.2 (by omega)
  obtain ⟨f1, f2⟩ := fresh2 w (.cells #[.int .u8 k, .int .i64 n, .bool b, .string s] 23) (.cells #[.int .u8 k', .int .i64 n', .bool b', .string s'] 23)
  have hB := grown2 w (.cells #[.int .u8 k, .int .i64 n, .bool b, .string s] 23) (.cells #[.int .u8 k', .int .i64 n', .bool b', .string s'] 23)
  have hz := size2 w (.cells #[.int .u8 k, .int .i64 n, .bool b, .string s] 23) (.cells #[.int .u8 k', .int .i64 n', .bool b', .string s'] 23)
  have F1 := hid f1
  have F2 := hid f2
  have HB0 := hid hB
  have z0 : w.heap.size + 2 ≤ ((w.alloc (.cells #[.int .u8 k, .int .i64 n, .bool b, .string s] 23)).alloc (.cells #[.int .u8 k', .int .i64 n', .bool b', .string s'] 23)).heap.size := by omega
  have HT0 := hid (Utf8Tabs_below hT hB)
  have HT := hid hT
  clear hk h2 hv hu hB hT hz f1 f2
  go_enter Tryd.func20, Tryd.ntmps20
  go_wp2_with fail
  refine (cA _ HT0.out).mono ?_
  rintro e w1 ⟨rfl, b1⟩
  have f1 := (b1.block w.heap.size (by omega)).trans F1.out
  have f2 := (b1.block (w.heap.size + 1) (by omega)).trans F2.out
  have HB1 := hid (HB0.out.trans (b1.mono (by omega)))
  have z1 : w.heap.size + 2 ≤ w1.heap.size := by have := b1.size; omega
  clear b1 F1 F2
  obtain ⟨a10, a11, a12, a13⟩ := row4 f1
  obtain ⟨b10, b11, b12, b13⟩ := row4 f2
  have F1 := hid f1
  have F2 := hid f2
  clear f1 f2
  go_wp2_with fail
  refine (cB _ (Utf8Tabs_below HT.out HB1.out)).mono ?_
  rintro e w2 ⟨rfl, b2⟩
  have f1 := (b2.block w.heap.size (by omega)).trans F1.out
  have f2 := (b2.block (w.heap.size + 1) (by omega)).trans F2.out
  have HB2 := hid (HB1.out.trans (b2.mono (by omega)))
  have z2 : w.heap.size + 2 ≤ w2.heap.size := by have := b2.size; omega
  clear b2 F1 F2
  have F1 := hid f1
  have F2 := hid f2
  clear f1 f2
  go_wp2_with fail
  go_ret2
  exact ⟨rfl, HB2.out⟩

set_option maxRecDepth 100000 in
set_option maxHeartbeats 4000000 in
theorem less_yes (k : Nat) (n : Int) (b : Bool) (s : ByteArray) (k' : Nat) (n' : Int) (b' : Bool) (s' : ByteArray) (w : World) (hT : Tabs w) (hk : k = k') (h2 : k ≠ 2) (hv : ok ⟨k, n, b, s⟩ = true) (hu : ok ⟨k', n', b', s'⟩ = true) :
    Calls Tryd.prog 20 #[.agg #[.int .u8 k, .int .i64 n, .bool b, .string s], .agg #[.int .u8 k', .int .i64 n', .bool b', .string s']] w fun e w' => e = .returned (.tuple #[.bool (if k = 1 then decide (n < n') else Op.bytesLess s.data.toList s'.data.toList), .int .i64 0]) ∧ Below w.heap.size w w' := by
  have hL := less_cmp ⟨k, n, b, s⟩ ⟨k', n', b', s'⟩ hk h2 hv hu
  simp only at hL
  rw [← hL]
  have cC := cmpV_any k k' n n' b b' s s'
  obtain ⟨r, hr⟩ : ∃ r, or4 (ordI k k') (ordI n n') ((if b then 1 else 0) - (if b' then 1 else 0)) (Lib.compareBytes s.data.toList s'.data.toList) = r := ⟨_, rfl⟩
  rw [hr] at cC ⊢
  clear hL hr
  have cA := fun X (hX : Tabs X) => check_any k n b s X hX
  rw [show okE ⟨k, n, b, s⟩ = 0 by simp [okE, hv]] at cA
  have cB := fun X (hX : Tabs X) => check_any k' n' b' s' X hX
  rw [show okE ⟨k', n', b', s'⟩ = 0 by simp [okE, hu]] at cB
  have t0 : ((k : Int) != (k' : Int)) = false := by rw [hk]; simp
  have t1 : ((k : Int) == 2) = false := beq_eq_false_iff_ne.2 (by omega)
  obtain ⟨f1, f2⟩ := fresh2 w (.cells #[.int .u8 k, .int .i64 n, .bool b, .string s] 23) (.cells #[.int .u8 k', .int .i64 n', .bool b', .string s'] 23)
  have hB := grown2 w (.cells #[.int .u8 k, .int .i64 n, .bool b, .string s] 23) (.cells #[.int .u8 k', .int .i64 n', .bool b', .string s'] 23)
  have hz := size2 w (.cells #[.int .u8 k, .int .i64 n, .bool b, .string s] 23) (.cells #[.int .u8 k', .int .i64 n', .bool b', .string s'] 23)
  have F1 := hid f1
  have F2 := hid f2
  have HB0 := hid hB
  have z0 : w.heap.size + 2 ≤ ((w.alloc (.cells #[.int .u8 k, .int .i64 n, .bool b, .string s] 23)).alloc (.cells #[.int .u8 k', .int .i64 n', .bool b', .string s'] 23)).heap.size := by omega
  have HT0 := hid (Utf8Tabs_below hT hB)
  have HT := hid hT
  clear hk h2 hv hu hB hT hz f1 f2
  go_enter Tryd.func20, Tryd.ntmps20
  go_wp2_with fail
  refine (cA _ HT0.out).mono ?_
  rintro e w1 ⟨rfl, b1⟩
  have f1 := (b1.block w.heap.size (by omega)).trans F1.out
  have f2 := (b1.block (w.heap.size + 1) (by omega)).trans F2.out
  have HB1 := hid (HB0.out.trans (b1.mono (by omega)))
  have z1 : w.heap.size + 2 ≤ w1.heap.size := by have := b1.size; omega
  clear b1 F1 F2
  obtain ⟨a10, a11, a12, a13⟩ := row4 f1
  obtain ⟨b10, b11, b12, b13⟩ := row4 f2
  have F1 := hid f1
  have F2 := hid f2
  clear f1 f2
  go_wp2_with fail
  refine (cB _ (Utf8Tabs_below HT.out HB1.out)).mono ?_
  rintro e w2 ⟨rfl, b2⟩
  have f1 := (b2.block w.heap.size (by omega)).trans F1.out
  have f2 := (b2.block (w.heap.size + 1) (by omega)).trans F2.out
  have HB2 := hid (HB1.out.trans (b2.mono (by omega)))
  have z2 : w.heap.size + 2 ≤ w2.heap.size := by have := b2.size; omega
  clear b2 F1 F2
  obtain ⟨a20, a21, a22, a23⟩ := row4 f1
  obtain ⟨b20, b21, b22, b23⟩ := row4 f2
  have F1 := hid f1
  have F2 := hid f2
  clear f1 f2
  go_wp2_with fail
  refine (cC _).mono ?_
  rintro e w3 ⟨rfl, b3⟩
  have f1 := (b3.block w.heap.size (by omega)).trans F1.out
  have f2 := (b3.block (w.heap.size + 1) (by omega)).trans F2.out
  have HB3 := hid (HB2.out.trans (b3.mono (by omega)))
  have z3 : w.heap.size + 2 ≤ w3.heap.size := by have := b3.size; omega
  clear b3 F1 F2
  have F1 := hid f1
  have F2 := hid f2
  clear f1 f2
  go_wp2_with fail
  go_ret2
  exact ⟨rfl, HB3.out⟩

theorem lessV (v u : Val) (w : World) (hT : Tabs w) : Calls Tryd.prog 20 #[.agg #[.int .u8 v.k, .int .i64 v.n, .bool v.b, .string v.s], .agg #[.int .u8 u.k, .int .i64 u.n, .bool u.b, .string u.s]] w fun e w' => e = .returned (.tuple #[.bool (lessR v u).1, .int .i64 (lessR v u).2]) ∧ Below w.heap.size w w' := by
  obtain ⟨k, n, b, s⟩ := v
  obtain ⟨k', n', b', s'⟩ := u
  unfold lessR
  by_cases hk : k = k'
  · by_cases h2 : k = 2
    · rw [if_neg (by simp [h2])]; exact less_bool k n b s k' n' b' s' w hk h2
    · cases hv : ok ⟨k, n, b, s⟩
      · rw [if_neg (by simp)]; exact less_bad1 k n b s k' n' b' s' w hT hk h2 hv
      · cases hu : ok ⟨k', n', b', s'⟩
        · rw [if_neg (by simp)]; exact less_bad2 k n b s k' n' b' s' w hT hk h2 hv hu
        · rw [if_pos ⟨hk, h2, rfl, rfl⟩]; exact less_yes k n b s k' n' b' s' w hT hk h2 hv hu
  · rw [if_neg (by simp [hk])]; exact less_kind k n b s k' n' b' s' w hk

set_option maxRecDepth 100000 in
set_option maxHeartbeats 4000000 in
theorem rless_bad1 (k : Nat) (n : Int) (b : Bool) (s : ByteArray) (k' : Nat) (n' : Int) (b' : Bool) (s' : ByteArray) (w : World) (hs : s.size ≤ 9223372036854775803) (hv : ok ⟨k, n, b, s⟩ = false) :
    Calls Tryd.prog 21 #[.agg #[.int .u8 k, .int .i64 n, .bool b, .string s], .agg #[.int .u8 k', .int .i64 n', .bool b', .string s']] w fun e w' => e = .returned (.tuple #[.bool false, .int .i64 90]) ∧ Below w.heap.size w w' := by
  have cA := fun X => refCheck_any k n b s X hs
  rw [show okE ⟨k, n, b, s⟩ = 1 by simp [okE, hv]] at cA
  obtain ⟨f1, f2⟩ := fresh2 w (.cells #[.int .u8 k, .int .i64 n, .bool b, .string s] 23) (.cells #[.int .u8 k', .int .i64 n', .bool b', .string s'] 23)
  have hB := grown2 w (.cells #[.int .u8 k, .int .i64 n, .bool b, .string s] 23) (.cells #[.int .u8 k', .int .i64 n', .bool b', .string s'] 23)
  have hz := size2 w (.cells #[.int .u8 k, .int .i64 n, .bool b, .string s] 23) (.cells #[.int .u8 k', .int .i64 n', .bool b', .string s'] 23)
  have F1 := hid f1
  have F2 := hid f2
  have HB0 := hid hB
  have z0 : w.heap.size + 2 ≤ ((w.alloc (.cells #[.int .u8 k, .int .i64 n, .bool b, .string s] 23)).alloc (.cells #[.int .u8 k', .int .i64 n', .bool b', .string s'] 23)).heap.size := by omega
  clear hv hB hz f1 f2 F1 hs
  go_enter Tryd.func21, Tryd.ntmps21
  go_wp2_with fail
  refine (cA _).mono ?_
  rintro e w1 ⟨rfl, b1⟩
  have f2 := (b1.block (w.heap.size + 1) (by omega)).trans F2.out
  have HB1 := hid (HB0.out.trans (b1.mono (by omega)))
  have z1 : w.heap.size + 2 ≤ w1.heap.size := by have := b1.size; omega
  clear b1 F2
  have F2 := hid f2
  clear f2
  go_wp2_with fail
  go_ret2
  exact ⟨rfl, HB1.out⟩

set_option maxRecDepth 100000 in
set_option maxHeartbeats 4000000 in
theorem rless_bad2 (k : Nat) (n : Int) (b : Bool) (s : ByteArray) (k' : Nat) (n' : Int) (b' : Bool) (s' : ByteArray) (w : World) (hs : s.size ≤ 9223372036854775803) (hs' : s'.size ≤ 9223372036854775803) (hv : ok ⟨k, n, b, s⟩ = true) (hu : ok ⟨k', n', b', s'⟩ = false) :
    Calls Tryd.prog 21 #[.agg #[.int .u8 k, .int .i64 n, .bool b, .string s], .agg #[.int .u8 k', .int .i64 n', .bool b', .string s']] w fun e w' => e = .returned (.tuple #[.bool false, .int .i64 90]) ∧ Below w.heap.size w w' := by
  have cA := fun X => refCheck_any k n b s X hs
  rw [show okE ⟨k, n, b, s⟩ = 0 by simp [okE, hv]] at cA
  have cB := fun X => refCheck_any k' n' b' s' X hs'
  rw [show okE ⟨k', n', b', s'⟩ = 1 by simp [okE, hu]] at cB
  obtain ⟨f1, f2⟩ := fresh2 w (.cells #[.int .u8 k, .int .i64 n, .bool b, .string s] 23) (.cells #[.int .u8 k', .int .i64 n', .bool b', .string s'] 23)
  have hB := grown2 w (.cells #[.int .u8 k, .int .i64 n, .bool b, .string s] 23) (.cells #[.int .u8 k', .int .i64 n', .bool b', .string s'] 23)
  have hz := size2 w (.cells #[.int .u8 k, .int .i64 n, .bool b, .string s] 23) (.cells #[.int .u8 k', .int .i64 n', .bool b', .string s'] 23)
  have F1 := hid f1
  have F2 := hid f2
  have HB0 := hid hB
  have z0 : w.heap.size + 2 ≤ ((w.alloc (.cells #[.int .u8 k, .int .i64 n, .bool b, .string s] 23)).alloc (.cells #[.int .u8 k', .int .i64 n', .bool b', .string s'] 23)).heap.size := by omega
  clear hv hu hB hz f1 f2 hs hs'
  go_enter Tryd.func21, Tryd.ntmps21
  go_wp2_with fail
  refine (cA _).mono ?_
  rintro e w1 ⟨rfl, b1⟩
  have f1 := (b1.block w.heap.size (by omega)).trans F1.out
  have f2 := (b1.block (w.heap.size + 1) (by omega)).trans F2.out
  have HB1 := hid (HB0.out.trans (b1.mono (by omega)))
  have z1 : w.heap.size + 2 ≤ w1.heap.size := by have := b1.size; omega
  clear b1 F1 F2
  obtain ⟨a10, a11, a12, a13⟩ := row4 f1
  obtain ⟨b10, b11, b12, b13⟩ := row4 f2
  have F1 := hid f1
  have F2 := hid f2
  clear f1 f2
  go_wp2_with fail
  refine (cB _).mono ?_
  rintro e w2 ⟨rfl, b2⟩
  have f1 := (b2.block w.heap.size (by omega)).trans F1.out
  have f2 := (b2.block (w.heap.size + 1) (by omega)).trans F2.out
  have HB2 := hid (HB1.out.trans (b2.mono (by omega)))
  have z2 : w.heap.size + 2 ≤ w2.heap.size := by have := b2.size; omega
  clear b2 F1 F2
  have F1 := hid f1
  have F2 := hid f2
  clear f1 f2
  go_wp2_with fail
  go_ret2
  exact ⟨rfl, HB2.out⟩

set_option maxRecDepth 100000 in
set_option maxHeartbeats 4000000 in
theorem rless_kind (k : Nat) (n : Int) (b : Bool) (s : ByteArray) (k' : Nat) (n' : Int) (b' : Bool) (s' : ByteArray) (w : World) (hs : s.size ≤ 9223372036854775803) (hs' : s'.size ≤ 9223372036854775803) (hv : ok ⟨k, n, b, s⟩ = true) (hu : ok ⟨k', n', b', s'⟩ = true) (hk : k ≠ k') :
    Calls Tryd.prog 21 #[.agg #[.int .u8 k, .int .i64 n, .bool b, .string s], .agg #[.int .u8 k', .int .i64 n', .bool b', .string s']] w fun e w' => e = .returned (.tuple #[.bool false, .int .i64 90]) ∧ Below w.heap.size w w' := by
  have cA := fun X => refCheck_any k n b s X hs
  rw [show okE ⟨k, n, b, s⟩ = 0 by simp [okE, hv]] at cA
  have cB := fun X => refCheck_any k' n' b' s' X hs'
  rw [show okE ⟨k', n', b', s'⟩ = 0 by simp [okE, hu]] at cB
  have t0 : ((k : Int) != (k' : Int)) = true := by rw [bne_iff_ne]; omega
  obtain ⟨f1, f2⟩ := fresh2 w (.cells #[.int .u8 k, .int .i64 n, .bool b, .string s] 23) (.cells #[.int .u8 k', .int .i64 n', .bool b', .string s'] 23)
  have hB := grown2 w (.cells #[.int .u8 k, .int .i64 n, .bool b, .string s] 23) (.cells #[.int .u8 k', .int .i64 n', .bool b', .string s'] 23)
  have hz := size2 w (.cells #[.int .u8 k, .int .i64 n, .bool b, .string s] 23) (.cells #[.int .u8 k', .int .i64 n', .bool b', .string s'] 23)
  have F1 := hid f1
  have F2 := hid f2
  have HB0 := hid hB
  have z0 : w.heap.size + 2 ≤ ((w.alloc (.cells #[.int .u8 k, .int .i64 n, .bool b, .string s] 23)).alloc (.cells #[.int .u8 k', .int .i64 n', .bool b', .string s'] 23)).heap.size := by omega
  clear hv hu hB hz f1 f2 hs hs' hk
  go_enter Tryd.func21, Tryd.ntmps21
  go_wp2_with fail
  refine (cA _).mono ?_
  rintro e w1 ⟨rfl, b1⟩
  have f1 := (b1.block w.heap.size (by omega)).trans F1.out
  have f2 := (b1.block (w.heap.size + 1) (by omega)).trans F2.out
  have HB1 := hid (HB0.out.trans (b1.mono (by omega)))
  have z1 : w.heap.size + 2 ≤ w1.heap.size := by have := b1.size; omega
  clear b1 F1 F2
  obtain ⟨a10, a11, a12, a13⟩ := row4 f1
  obtain ⟨b10, b11, b12, b13⟩ := row4 f2
  have F1 := hid f1
  have F2 := hid f2
  clear f1 f2
  go_wp2_with fail
  refine (cB _).mono ?_
  rintro e w2 ⟨rfl, b2⟩
  have f1 := (b2.block w.heap.size (by omega)).trans F1.out
  have f2 := (b2.block (w.heap.size + 1) (by omega)).trans F2.out
  have HB2 := hid (HB1.out.trans (b2.mono (by omega)))
  have z2 : w.heap.size + 2 ≤ w2.heap.size := by have := b2.size; omega
  clear b2 F1 F2
  obtain ⟨a20, a21, a22, a23⟩ := row4 f1
  obtain ⟨b20, b21, b22, b23⟩ := row4 f2
  have F1 := hid f1
  have F2 := hid f2
  clear f1 f2
  go_wp2_with fail
  go_ret2
  exact ⟨rfl, HB2.out⟩

set_option maxRecDepth 100000 in
set_option maxHeartbeats 4000000 in
theorem rless_bool (k : Nat) (n : Int) (b : Bool) (s : ByteArray) (k' : Nat) (n' : Int) (b' : Bool) (s' : ByteArray) (w : World) (hs : s.size ≤ 9223372036854775803) (hs' : s'.size ≤ 9223372036854775803) (hv : ok ⟨k, n, b, s⟩ = true) (hu : ok ⟨k', n', b', s'⟩ = true) (hk : k = k') (h2 : k = 2) :
    Calls Tryd.prog 21 #[.agg #[.int .u8 k, .int .i64 n, .bool b, .string s], .agg #[.int .u8 k', .int .i64 n', .bool b', .string s']] w fun e w' => e = .returned (.tuple #[.bool false, .int .i64 90]) ∧ Below w.heap.size w w' := by
  have cA := fun X => refCheck_any k n b s X hs
  rw [show okE ⟨k, n, b, s⟩ = 0 by simp [okE, hv]] at cA
  have cB := fun X => refCheck_any k' n' b' s' X hs'
  rw [show okE ⟨k', n', b', s'⟩ = 0 by simp [okE, hu]] at cB
  have t0 : ((k : Int) != (k' : Int)) = false := by rw [hk]; simp
  have t1 : ((k : Int) == 2) = true := by rw [h2]; rfl
  obtain ⟨f1, f2⟩ := fresh2 w (.cells #[.int .u8 k, .int .i64 n, .bool b, .string s] 23) (.cells #[.int .u8 k', .int .i64 n', .bool b', .string s'] 23)
  have hB := grown2 w (.cells #[.int .u8 k, .int .i64 n, .bool b, .string s] 23) (.cells #[.int .u8 k', .int .i64 n', .bool b', .string s'] 23)
  have hz := size2 w (.cells #[.int .u8 k, .int .i64 n, .bool b, .string s] 23) (.cells #[.int .u8 k', .int .i64 n', .bool b', .string s'] 23)
  have F1 := hid f1
  have F2 := hid f2
  have HB0 := hid hB
  have z0 : w.heap.size + 2 ≤ ((w.alloc (.cells #[.int .u8 k, .int .i64 n, .bool b, .string s] 23)).alloc (.cells #[.int .u8 k', .int .i64 n', .bool b', .string s'] 23)).heap.size := by omega
  clear hv hu hB hz f1 f2 hs hs' hk h2
  go_enter Tryd.func21, Tryd.ntmps21
  go_wp2_with fail
  refine (cA _).mono ?_
  rintro e w1 ⟨rfl, b1⟩
  have f1 := (b1.block w.heap.size (by omega)).trans F1.out
  have f2 := (b1.block (w.heap.size + 1) (by omega)).trans F2.out
  have HB1 := hid (HB0.out.trans (b1.mono (by omega)))
  have z1 : w.heap.size + 2 ≤ w1.heap.size := by have := b1.size; omega
  clear b1 F1 F2
  obtain ⟨a10, a11, a12, a13⟩ := row4 f1
  obtain ⟨b10, b11, b12, b13⟩ := row4 f2
  have F1 := hid f1
  have F2 := hid f2
  clear f1 f2
  go_wp2_with fail
  refine (cB _).mono ?_
  rintro e w2 ⟨rfl, b2⟩
  have f1 := (b2.block w.heap.size (by omega)).trans F1.out
  have f2 := (b2.block (w.heap.size + 1) (by omega)).trans F2.out
  have HB2 := hid (HB1.out.trans (b2.mono (by omega)))
  have z2 : w.heap.size + 2 ≤ w2.heap.size := by have := b2.size; omega
  clear b2 F1 F2
  obtain ⟨a20, a21, a22, a23⟩ := row4 f1
  obtain ⟨b20, b21, b22, b23⟩ := row4 f2
  have F1 := hid f1
  have F2 := hid f2
  clear f1 f2
  go_wp2_with fail
  go_ret2
  exact ⟨rfl, HB2.out⟩

set_option maxRecDepth 100000 in
set_option maxHeartbeats 4000000 in
theorem rless_num (k : Nat) (n : Int) (b : Bool) (s : ByteArray) (k' : Nat) (n' : Int) (b' : Bool) (s' : ByteArray) (w : World) (hs : s.size ≤ 9223372036854775803) (hs' : s'.size ≤ 9223372036854775803) (hv : ok ⟨k, n, b, s⟩ = true) (hu : ok ⟨k', n', b', s'⟩ = true) (hk : k = k') (h1 : k = 1) :
    Calls Tryd.prog 21 #[.agg #[.int .u8 k, .int .i64 n, .bool b, .string s], .agg #[.int .u8 k', .int .i64 n', .bool b', .string s']] w fun e w' => e = .returned (.tuple #[.bool (decide (n < n')), .int .i64 0]) ∧ Below w.heap.size w w' := by
  have cA := fun X => refCheck_any k n b s X hs
  rw [show okE ⟨k, n, b, s⟩ = 0 by simp [okE, hv]] at cA
  have cB := fun X => refCheck_any k' n' b' s' X hs'
  rw [show okE ⟨k', n', b', s'⟩ = 0 by simp [okE, hu]] at cB
  have t0 : ((k : Int) != (k' : Int)) = false := by rw [hk]; simp
  have t1 : ((k : Int) == 2) = false := by rw [h1]; rfl
  have t2 : ((k : Int) == 1) = true := by rw [h1]; rfl
  obtain ⟨f1, f2⟩ := fresh2 w (.cells #[.int .u8 k, .int .i64 n, .bool b, .string s] 23) (.cells #[.int .u8 k', .int .i64 n', .bool b', .string s'] 23)
  have hB := grown2 w (.cells #[.int .u8 k, .int .i64 n, .bool b, .string s] 23) (.cells #[.int .u8 k', .int .i64 n', .bool b', .string s'] 23)
  have hz := size2 w (.cells #[.int .u8 k, .int .i64 n, .bool b, .string s] 23) (.cells #[.int .u8 k', .int .i64 n', .bool b', .string s'] 23)
  have F1 := hid f1
  have F2 := hid f2
  have HB0 := hid hB
  have z0 : w.heap.size + 2 ≤ ((w.alloc (.cells #[.int .u8 k, .int .i64 n, .bool b, .string s] 23)).alloc (.cells #[.int .u8 k', .int .i64 n', .bool b', .string s'] 23)).heap.size := by omega
  clear hv hu hB hz f1 f2 hs hs' hk h1
  go_enter Tryd.func21, Tryd.ntmps21
  go_wp2_with fail
  refine (cA _).mono ?_
  rintro e w1 ⟨rfl, b1⟩
  have f1 := (b1.block w.heap.size (by omega)).trans F1.out
  have f2 := (b1.block (w.heap.size + 1) (by omega)).trans F2.out
  have HB1 := hid (HB0.out.trans (b1.mono (by omega)))
  have z1 : w.heap.size + 2 ≤ w1.heap.size := by have := b1.size; omega
  clear b1 F1 F2
  obtain ⟨a10, a11, a12, a13⟩ := row4 f1
  obtain ⟨b10, b11, b12, b13⟩ := row4 f2
  have F1 := hid f1
  have F2 := hid f2
  clear f1 f2
  go_wp2_with fail
  refine (cB _).mono ?_
  rintro e w2 ⟨rfl, b2⟩
  have f1 := (b2.block w.heap.size (by omega)).trans F1.out
  have f2 := (b2.block (w.heap.size + 1) (by omega)).trans F2.out
  have HB2 := hid (HB1.out.trans (b2.mono (by omega)))
  have z2 : w.heap.size + 2 ≤ w2.heap.size := by have := b2.size; omega
  clear b2 F1 F2
  obtain ⟨a20, a21, a22, a23⟩ := row4 f1
  obtain ⟨b20, b21, b22, b23⟩ := row4 f2
  have F1 := hid f1
  have F2 := hid f2
  clear f1 f2
  go_wp2_with fail
  go_ret2
  exact ⟨rfl, HB2.out⟩

set_option maxRecDepth 100000 in
set_option maxHeartbeats 4000000 in
theorem rless_text (k : Nat) (n : Int) (b : Bool) (s : ByteArray) (k' : Nat) (n' : Int) (b' : Bool) (s' : ByteArray) (w : World) (hs : s.size ≤ 9223372036854775803) (hs' : s'.size ≤ 9223372036854775803) (hv : ok ⟨k, n, b, s⟩ = true) (hu : ok ⟨k', n', b', s'⟩ = true) (hk : k = k') (h1 : k ≠ 1) (h2 : k ≠ 2) :
    Calls Tryd.prog 21 #[.agg #[.int .u8 k, .int .i64 n, .bool b, .string s], .agg #[.int .u8 k', .int .i64 n', .bool b', .string s']] w fun e w' => e = .returned (.tuple #[.bool (Op.bytesLess s.toList s'.toList), .int .i64 0]) ∧ Below w.heap.size w w' := by
  have cA := fun X => refCheck_any k n b s X hs
  rw [show okE ⟨k, n, b, s⟩ = 0 by simp [okE, hv]] at cA
  have cB := fun X => refCheck_any k' n' b' s' X hs'
  rw [show okE ⟨k', n', b', s'⟩ = 0 by simp [okE, hu]] at cB
  have t0 : ((k : Int) != (k' : Int)) = false := by rw [hk]; simp
  have t1 : ((k : Int) == 2) = false := beq_eq_false_iff_ne.2 (by omega)
  have t2 : ((k : Int) == 1) = false := beq_eq_false_iff_ne.2 (by omega)
  obtain ⟨f1, f2⟩ := fresh2 w (.cells #[.int .u8 k, .int .i64 n, .bool b, .string s] 23) (.cells #[.int .u8 k', .int .i64 n', .bool b', .string s'] 23)
  have hB := grown2 w (.cells #[.int .u8 k, .int .i64 n, .bool b, .string s] 23) (.cells #[.int .u8 k', .int .i64 n', .bool b', .string s'] 23)
  have hz := size2 w (.cells #[.int .u8 k, .int .i64 n, .bool b, .string s] 23) (.cells #[.int .u8 k', .int .i64 n', .bool b', .string s'] 23)
  have F1 := hid f1
  have F2 := hid f2
  have HB0 := hid hB
  have z0 : w.heap.size + 2 ≤ ((w.alloc (.cells #[.int .u8 k, .int .i64 n, .bool b, .string s] 23)).alloc (.cells #[.int .u8 k', .int .i64 n', .bool b', .string s'] 23)).heap.size := by omega
  clear hv hu hB hz f1 f2 hs hs' hk h1 h2
  go_enter Tryd.func21, Tryd.ntmps21
  go_wp2_with fail
  refine (cA _).mono ?_
  rintro e w1 ⟨rfl, b1⟩
  have f1 := (b1.block w.heap.size (by omega)).trans F1.out
  have f2 := (b1.block (w.heap.size + 1) (by omega)).trans F2.out
  have HB1 := hid (HB0.out.trans (b1.mono (by omega)))
  have z1 : w.heap.size + 2 ≤ w1.heap.size := by have := b1.size; omega
  clear b1 F1 F2
  obtain ⟨a10, a11, a12, a13⟩ := row4 f1
  obtain ⟨b10, b11, b12, b13⟩ := row4 f2
  have F1 := hid f1
  have F2 := hid f2
  clear f1 f2
  go_wp2_with fail
  refine (cB _).mono ?_
  rintro e w2 ⟨rfl, b2⟩
  have f1 := (b2.block w.heap.size (by omega)).trans F1.out
  have f2 := (b2.block (w.heap.size + 1) (by omega)).trans F2.out
  have HB2 := hid (HB1.out.trans (b2.mono (by omega)))
  have z2 : w.heap.size + 2 ≤ w2.heap.size := by have := b2.size; omega
  clear b2 F1 F2
  obtain ⟨a20, a21, a22, a23⟩ := row4 f1
  obtain ⟨b20, b21, b22, b23⟩ := row4 f2
  have F1 := hid f1
  have F2 := hid f2
  clear f1 f2
  go_wp2_with fail
  go_ret2
  exact ⟨rfl, HB2.out⟩

theorem rlessV (v u : Val) (w : World) (hs : v.s.size ≤ 9223372036854775803) (hs' : u.s.size ≤ 9223372036854775803) : Calls Tryd.prog 21 #[.agg #[.int .u8 v.k, .int .i64 v.n, .bool v.b, .string v.s], .agg #[.int .u8 u.k, .int .i64 u.n, .bool u.b, .string u.s]] w fun e w' => e = .returned (.tuple #[.bool (lessR v u).1, .int .i64 (lessR v u).2]) ∧ Below w.heap.size w w' := by
  obtain ⟨k, n, b, s⟩ := v
  obtain ⟨k', n', b', s'⟩ := u
  unfold lessR
  cases hv : ok ⟨k, n, b, s⟩
  · rw [if_neg (by simp)]; exact rless_bad1 k n b s k' n' b' s' w hs hv
  · cases hu : ok ⟨k', n', b', s'⟩
    · rw [if_neg (by simp)]; exact rless_bad2 k n b s k' n' b' s' w hs hs' hv hu
    · by_cases hk : k = k'
      · by_cases h2 : k = 2
        · rw [if_neg (by simp [h2])]; exact rless_bool k n b s k' n' b' s' w hs hs' hv hu hk h2
        · rw [if_pos ⟨hk, h2, rfl, rfl⟩]
          by_cases h1 : k = 1
          · simp only [if_pos h1]; exact rless_num k n b s k' n' b' s' w hs hs' hv hu hk h1
          · simp only [if_neg h1, ← Lib.toList_data]; exact rless_text k n b s k' n' b' s' w hs hs' hv hu hk h1 h2
      · rw [if_neg (by simp [hk])]; exact rless_kind k n b s k' n' b' s' w hs hs' hv hu hk
namespace V
theorem comp_sgn : ∀ (a b : List UInt8), Lib.compareBytes a b = if a ≠ b then sgn (Op.bytesLess a b) else 0
  | [], [] => rfl
  | [], _ :: _ => rfl
  | _ :: _, [] => rfl
  | a :: x, b :: y => by
    have ih := comp_sgn x y
    rw [Lib.compareBytes, Op.bytesLess]
    by_cases h : a < b
    · have hne : a ≠ b := fun e => by subst e; exact UInt8.lt_irrefl a h
      rw [if_pos h, if_pos (by simp [hne])]; simp [h, sgn]
    · rw [if_neg h]
      by_cases h2 : b < a
      · have hne : a ≠ b := fun e => by subst e; exact h h2
        rw [if_pos h2, if_pos (by simp [hne])]; simp [h, hne, sgn]
      · have e : a = b := UInt8.le_antisymm (UInt8.not_lt.1 h2) (UInt8.not_lt.1 h)
        subst e
        rw [if_neg h2, ih]
        by_cases hxy : x = y
        · simp [hxy]
        · rw [if_pos hxy, if_pos (by simp [hxy])]; simp [h]
theorem ord_sgn (a b : Int) : ordI a b = if a ≠ b then sgn (decide (a < b)) else 0 := by
  unfold ordI sgn
  rcases Int.lt_trichotomy a b with h | h | h
  · rw [if_pos h, if_pos (by omega), if_pos (by simpa using h)]
  · subst h; simp
  · rw [if_neg (by omega), if_pos h, if_pos (by omega), if_neg (by simp; omega)]
theorem sgn_ne (b : Bool) : sgn b ≠ 0 := by cases b <;> decide
/-- the program's order is the document's -/
theorem or4_cmp (v u : Val) : or4 (ordI v.k u.k) (ordI v.n u.n) ((if v.b then 1 else 0) - (if u.b then 1 else 0)) (Lib.compareBytes v.s.data.toList u.s.data.toList) = cmp v u := by
  have e1 : ordI v.k u.k = if v.k ≠ u.k then sgn (decide (v.k < u.k)) else 0 := by
    rw [ord_sgn]
    by_cases h : v.k = u.k
    · rw [if_neg (by omega), if_neg (by omega)]
    · rw [if_pos (by omega), if_pos h, show decide ((v.k : Int) < (u.k : Int)) = decide (v.k < u.k) by simp]
  have e3 : ((if v.b then (1 : Int) else 0) - (if u.b then 1 else 0)) = if v.b ≠ u.b then sgn u.b else 0 := by
    cases v.b <;> cases u.b <;> decide
  rw [e1, ord_sgn v.n u.n, e3, comp_sgn]
  unfold or4 cmp
  generalize v.s.data.toList = l
  generalize u.s.data.toList = m
  have g1 := sgn_ne (decide (v.k < u.k))
  have g2 := sgn_ne (decide (v.n < u.n))
  have g3 := sgn_ne u.b
  have g4 := sgn_ne (Op.bytesLess l m)
  generalize sgn (decide (v.k < u.k)) = x1 at *
  generalize sgn (decide (v.n < u.n)) = x2 at *
  generalize sgn u.b = x3 at *
  generalize sgn (Op.bytesLess l m) = x4 at *
  by_cases hk : v.k = u.k
  · rw [if_neg (show ¬ v.k ≠ u.k from fun h => h hk)]
    by_cases hn : v.n = u.n
    · rw [if_neg (show ¬ v.n ≠ u.n from fun h => h hn)]
      by_cases hb : v.b = u.b
      · rw [if_neg (show ¬ v.b ≠ u.b from fun h => h hb)]
        simp [hk, hn, hb]
      · rw [if_pos (show v.b ≠ u.b from hb)]
        simp [hk, hn, hb, g3]
    · rw [if_pos (show v.n ≠ u.n from hn)]
      simp [hk, hn, g2]
  · rw [if_pos (show v.k ≠ u.k from hk)]
    simp [hk, g1]
def sameB (v u : Val) : Bool := (v.k : Int) == (u.k : Int) && (v.n == u.n && (v.b == u.b && v.s.toList == u.s.toList))
theorem cmp_same (v u : Val) : (cmp v u == 0) = sameB v u := by
  unfold cmp sameB
  rw [Lib.toList_data, Lib.toList_data]
  generalize v.s.data.toList = l
  generalize u.s.data.toList = m
  have g1 := sgn_ne (decide (v.k < u.k))
  have g2 := sgn_ne (decide (v.n < u.n))
  have g3 := sgn_ne u.b
  have g4 := sgn_ne (Op.bytesLess l m)
  generalize sgn (decide (v.k < u.k)) = x1 at *
  generalize sgn (decide (v.n < u.n)) = x2 at *
  generalize sgn u.b = x3 at *
  generalize sgn (Op.bytesLess l m) = x4 at *
  by_cases hk : v.k = u.k
  · rw [if_neg (show ¬ v.k ≠ u.k from fun h => h hk), hk]
    by_cases hn : v.n = u.n
    · rw [if_neg (show ¬ v.n ≠ u.n from fun h => h hn), hn]
      by_cases hb : v.b = u.b
      · rw [if_neg (show ¬ v.b ≠ u.b from fun h => h hb), hb]
        by_cases hs : l = m
        · subst hs; simp
        · simp only [ne_eq, hs, not_false_eq_true, if_true, beq_self_eq_true, Bool.true_and]
          exact (beq_eq_false_iff_ne.2 g4).trans (beq_eq_false_iff_ne.2 hs).symm
      · simp only [ne_eq, hb, not_false_eq_true, if_true, beq_self_eq_true, Bool.true_and]
        rw [beq_eq_false_iff_ne.2 g3, beq_eq_false_iff_ne.2 hb]; rfl
    · simp only [ne_eq, hn, not_false_eq_true, if_true, beq_self_eq_true, Bool.true_and]
      rw [beq_eq_false_iff_ne.2 g2, beq_eq_false_iff_ne.2 hn]; rfl
  · rw [if_pos (show v.k ≠ u.k from hk)]
    have hk' : ¬ ((v.k : Int) = (u.k : Int)) := by omega
    rw [beq_eq_false_iff_ne.2 g1, beq_eq_false_iff_ne.2 hk']; rfl
end V
set_option maxRecDepth 100000 in
theorem same_any (k k' : Nat) (n n' : Int) (b b' : Bool) (s s' : ByteArray) (w : World) :
    Calls Tryd.prog 36 #[.agg #[.int .u8 k, .int .i64 n, .bool b, .string s], .agg #[.int .u8 k', .int .i64 n', .bool b', .string s']] w fun e w' => e = .returned (.bool (sameB ⟨k, n, b, s⟩ ⟨k', n', b', s'⟩)) ∧ Below w.heap.size w w' := by
  have hE := eql_value k k' n n' b b' s s'
  obtain ⟨q, hq⟩ : ∃ q, sameB ⟨k, n, b, s⟩ ⟨k', n', b', s'⟩ = q := ⟨_, rfl⟩
  rw [hq]
  have hE' : ∀ W : World, (binOp .eql 23 (.agg #[.int .u8 k, .int .i64 n, .bool b, .string s]) (.agg #[.int .u8 k', .int .i64 n', .bool b', .string s'])).run Tryd.prog W = .ok (.bool q) W := by
    intro W; rw [← hq]; exact hE W
  have hB := hid (grown2 w (.cells #[.int .u8 k, .int .i64 n, .bool b, .string s] 23) (.cells #[.int .u8 k', .int .i64 n', .bool b', .string s'] 23))
  clear hE hq
  go_enter Tryd.func36, Tryd.ntmps36
  go_wp2_with fail
  go_ret
  exact ⟨rfl, hB.out⟩
structure KV (l : List (Nat × Val)) (w r : World) : Prop where
  hb : Below w.heap.size w r
  got : ∀ p ∈ l, r.heap[p.1]? = some (.cells #[.int .u8 p.2.k, .int .i64 p.2.n, .bool p.2.b, .string p.2.s] 23 (0, 0))
theorem KV.start (w : World) : KV [] w w := ⟨Below.refl _ _, fun p h => by simp at h⟩
theorem KV.below {l : List (Nat × Val)} {w r r' : World} (h : KV l w r) (b : Below r.heap.size r r') : KV l w r' :=
  ⟨h.hb.trans (b.mono h.hb.size), fun p hp => (b.block _ (Go.lt_of_block (h.got p hp))).trans (h.got p hp)⟩
theorem KV.drew {l : List (Nat × Val)} {w r : World} (h : KV l w r) : KV l w r.drew := ⟨h.hb.drew, h.got⟩
theorem KV.box {l : List (Nat × Val)} {w r : World} (h : KV l w r) (V : Val) : KV ((r.heap.size, V) :: l) w (r.alloc (.cells #[.int .u8 V.k, .int .i64 V.n, .bool V.b, .string V.s] 23)) := by
  refine ⟨h.hb.alloc h.hb.size _, fun p hp => ?_⟩
  rcases List.mem_cons.1 hp with rfl | hp
  · exact heap_alloc_new r _
  · rw [Lib.alloc_old r _ _ (Go.lt_of_block (h.got p hp))]; exact h.got p hp
theorem eq_yes (k : Nat) (n : Int) (b : Bool) (s : ByteArray) (W : World) : (binOp .eql 23 (.agg #[.int .u8 k, .int .i64 n, .bool b, .string s]) (.agg #[.int .u8 k, .int .i64 n, .bool b, .string s])).run Tryd.prog W = .ok (.bool true) W := by
  rw [eql_value]; simp
theorem neq_no (k : Nat) (n : Int) (b : Bool) (s : ByteArray) (W : World) : (binOp .neq 23 (.agg #[.int .u8 k, .int .i64 n, .bool b, .string s]) (.agg #[.int .u8 k, .int .i64 n, .bool b, .string s])).run Tryd.prog W = .ok (.bool false) W := by
  have h := eq_yes k n b s W
  rw [run_eql_struct] at h
  rw [run_neq_struct]
  cases hq : (Op.equalIn 10000 23 (.agg #[.int .u8 k, .int .i64 n, .bool b, .string s]) (.agg #[.int .u8 k, .int .i64 n, .bool b, .string s])).run Tryd.prog W with
  | ok q W' =>
    rw [hq] at h
    simp only [Result.andThen, Result.ok.injEq, Value.bool.injEq] at h
    obtain ⟨rfl, rfl⟩ := h
    rfl
  | _ => rw [hq] at h; simp [Result.andThen] at h
set_option maxRecDepth 100000 in
theorem far_any (n : Int) (w : World) (h0 : -9223372036854775808 ≤ n) (h1 : n ≤ 9223372036854775807) : Calls Tryd.prog 43 #[.int .i64 n] w fun e w' => e = .returned (.int .u64 (n.natAbs : Nat)) ∧ w' = w := by
  obtain ⟨a, ha⟩ : ∃ a, n.natAbs = a := ⟨_, rfl⟩
  rw [ha]
  by_cases hn : n < 0
  · have d0 : decide (n < 0) = true := decide_eq_true hn
    have e1 : IntKind.u64.wrap n = ((18446744073709551616 - a : Nat) : Int) := by rw [IntKind.wrap_u64]; omega
    have e2 := neg_bits (18446744073709551616 - a) (by omega)
    rw [show (18446744073709551616 - (18446744073709551616 - a)) % 18446744073709551616 = a by omega] at e2
    clear h0 h1 ha
    go_enter Tryd.func43, Tryd.ntmps43
    go_wp2_with fail
    go_ret
    exact ⟨by first | rfl | simp [e1, e2], rfl⟩
  · have d0 : decide (n < 0) = false := decide_eq_false hn
    have e1 : IntKind.u64.wrap n = (a : Int) := by rw [IntKind.wrap_u64]; omega
    clear h0 h1 ha
    go_enter Tryd.func43, Tryd.ntmps43
    go_wp2_with fail
    go_ret
    exact ⟨by first | rfl | simp [e1], rfl⟩
end Go.Proofs.YtohdifffdgoaaaaDoor
