/- The walks of Less: the program's and the document's. -/
import Derived.Test.YtohdifffdgoaaaaDoorVCmpP
import Derived.Test.YtohdifffdgoaaaaDoorVAll
namespace Go.Proofs.YtohdifffdgoaaaaDoor
open Go.RowKit
open Go.Lib (hid)
open V
namespace V
def lessR (v u : Val) : Bool × Int := if v.k = u.k ∧ v.k ≠ 2 ∧ ok v = true ∧ ok u = true then (if v.k = 1 then decide (v.n < u.n) else Op.bytesLess v.s.data.toList u.s.data.toList, 0) else (false, 90)
theorem ord_neg (a b : Int) : (decide (ordI a b < 0)) = decide (a < b) := by
  unfold ordI
  by_cases h : a < b
  · simp [h]
  · rw [if_neg h]; by_cases h2 : b < a <;> simp [h, h2]
theorem comp_neg : ∀ (a b : List UInt8), (decide (Lib.compareBytes a b < 0)) = Op.bytesLess a b
  | [], [] => rfl
  | [], _ :: _ => rfl
  | _ :: _, [] => rfl
  | a :: x, b :: y => by
    have ih := comp_neg x y
    unfold Lib.compareBytes Op.bytesLess
    by_cases h : a < b
    · simp [h]
    · rw [if_neg h, decide_eq_false h]
      by_cases h2 : b < a
      · rw [if_pos h2]
        have : ¬ a = b := fun e => by subst e; exact h h2
        simp [this]
      · rw [if_neg h2, ih]
        have : a = b := UInt8.le_antisymm (UInt8.not_lt.1 h2) (UInt8.not_lt.1 h)
        simp [this]
theorem ok_three {v : Val} (h : ok v = true) (h1 : v.k ≠ 1) (h2 : v.k ≠ 2) : v.n = 0 ∧ v.b = false := by
  simp [ok, h1, h2] at h
  exact ⟨h.2.1, h.2.2.1⟩
theorem ok_one {v : Val} (h : ok v = true) (h1 : v.k = 1) : v.b = false ∧ v.s.size = 0 := by
  simp [ok, h1] at h
  exact ⟨h.1, by rw [h.2]; rfl⟩
theorem less_cmp (v u : Val) (hk : v.k = u.k) (h2 : v.k ≠ 2) (hv : ok v = true) (hu : ok u = true) :
    decide (or4 (ordI v.k u.k) (ordI v.n u.n) ((if v.b then 1 else 0) - (if u.b then 1 else 0)) (Lib.compareBytes v.s.data.toList u.s.data.toList) < 0) = (if v.k = 1 then decide (v.n < u.n) else Op.bytesLess v.s.data.toList u.s.data.toList) := by
  have e0 : ordI v.k u.k = 0 := by rw [hk]; simp [ordI]
  by_cases h1 : v.k = 1
  · obtain ⟨b1, s1⟩ := ok_one hv h1
    obtain ⟨b2, s2⟩ := ok_one hu (by rw [← hk]; exact h1)
    rw [if_pos h1, ← ord_neg v.n u.n, e0, b1, b2, nil_of_size s1, nil_of_size s2]
    obtain ⟨r, hr⟩ : ∃ r, ordI v.n u.n = r := ⟨_, rfl⟩
    rw [hr]
    unfold or4
    by_cases hn : r = 0
    · rw [hn]; simp [Lib.compareBytes]
    · simp [hn]
  · obtain ⟨n1, b1⟩ := ok_three hv h1 h2
    obtain ⟨n2, b2⟩ := ok_three hu (by rw [← hk]; exact h1) (by rw [← hk]; exact h2)
    rw [if_neg h1, ← comp_neg, e0, b1, b2, n1, n2]
    unfold or4
    simp [ordI]
end V

set_option maxRecDepth 100000 in
set_option maxHeartbeats 4000000 in
theorem less_kind (k : Nat) (n : Int) (b : Bool) (s : ByteArray) (k' : Nat) (n' : Int) (b' : Bool) (s' : ByteArray) (w : World) (hk : k ≠ k') :
    Calls Tryd.prog 20 #[.agg #[.int .u8 k, .int .i64 n, .bool b, .string s], .agg #[.int .u8 k', .int .i64 n', .bool b', .string s']] w fun e w' => e = .returned (.tuple #[.bool false, .int .i64 90]) ∧ Below w.heap.size w w' := by
  obtain ⟨f1, f2⟩ := fresh2 w (.cells #[.int .u8 k, .int .i64 n, .bool b, .string s] 23) (.cells #[.int .u8 k', .int .i64 n', .bool b', .string s'] 23)
  have hB := grown2 w (.cells #[.int .u8 k, .int .i64 n, .bool b, .string s] 23) (.cells #[.int .u8 k', .int .i64 n', .bool b', .string s'] 23)
  have hz := size2 w (.cells #[.int .u8 k, .int .i64 n, .bool b, .string s] 23) (.cells #[.int .u8 k', .int .i64 n', .bool b', .string s'] 23)
  have t0 : ((k : Int) != (k' : Int)) = true := by rw [bne_iff_ne]; omega
  have HB := hid hB
  clear hk hB f1 f2 hz
  go_enter Tryd.func20, Tryd.ntmps20
  go_wp2_with fail
  go_ret2
  exact ⟨rfl, HB.out⟩

set_option maxRecDepth 100000 in
set_option maxHeartbeats 4000000 in
theorem less_bool (k : Nat) (n : Int) (b : Bool) (s : ByteArray) (k' : Nat) (n' : Int) (b' : Bool) (s' : ByteArray) (w : World) (hk : k = k') (h2 : k = 2) :
    Calls Tryd.prog 20 #[.agg #[.int .u8 k, .int .i64 n, .bool b, .string s], .agg #[.int .u8 k', .int .i64 n', .bool b', .string s']] w fun e w' => e = .returned (.tuple #[.bool false, .int .i64 90]) ∧ Below w.heap.size w w' := by
  subst hk h2
  obtain ⟨f1, f2⟩ := fresh2 w (.cells #[.int .u8 (2 : Nat), .int .i64 n, .bool b, .string s] 23) (.cells #[.int .u8 (2 : Nat), .int .i64 n', .bool b', .string s'] 23)
  have hB := grown2 w (.cells #[.int .u8 (2 : Nat), .int .i64 n, .bool b, .string s] 23) (.cells #[.int .u8 (2 : Nat), .int .i64 n', .bool b', .string s'] 23)
  have hz := size2 w (.cells #[.int .u8 (2 : Nat), .int .i64 n, .bool b, .string s] 23) (.cells #[.int .u8 (2 : Nat), .int .i64 n', .bool b', .string s'] 23)
  have t0 : (((2 : Nat) : Int) != ((2 : Nat) : Int)) = false := rfl
  have t1 : (((2 : Nat) : Int) == 2) = true := rfl
  have HB := hid hB
  clear hB f1 f2 hz
  go_enter Tryd.func20, Tryd.ntmps20
  go_wp2_with fail
  go_ret2
  exact ⟨rfl, HB.out⟩

set_option maxRecDepth 100000 in
set_option maxHeartbeats 4000000 in
theorem less_bad1 (k : Nat) (n : Int) (b : Bool) (s : ByteArray) (k' : Nat) (n' : Int) (b' : Bool) (s' : ByteArray) (w : World) (hT : Tabs w) (hk : k = k') (h2 : k ≠ 2) (hv : ok ⟨k, n, b, s⟩ = false) :
    Calls Tryd.prog 20 #[.agg #[.int .u8 k, .int .i64 n, .bool b, .string s], .agg #[.int .u8 k', .int .i64 n', .bool b', .string s']] w fun e w' => e = .returned (.tuple #[.bool false, .int .i64 90]) ∧ Below w.heap.size w w' := by
  have cA := fun X (hX : Tabs X) => check_any k n b s X hX
  rw [show okE ⟨k, n, b, s⟩ = 1 by simp [okE, hv]] at cA
  have t0 : ((k : Int) != (k' : Int)) = false := by rw [hk]; simp
  have t1 : ((k : Int) == 2) = false := beq_eq_false_iff_ne.2 (by omega)
  obtain ⟨f1, f2⟩ := fresh2 w (.cells #[.int .u8 k, .int .i64 n, .bool b, .string s] 23) (.cells #[.int .u8 k', .int .i64 n', .bool b', .string s'] 23)
  have hB := grown2 w (.cells #[.int .u8 k, .int .i64 n, .bool b, .string s] 23) (.cells #[.int .u8 k', .int .i64 n', .bool b', .string s'] 23)
  have hz := size2 w (.cells #[.int .u8 k, .int .i64 n, .bool b, .string s] 23) (.cells #[.int .u8 k', .int .i64 n', .bool b', .string s'] 23)
  have F1 := hid f1
  have F2 := hid f2
  have HB0 := hid hB
  have z0 : w.heap.size + 2 ≤ ((w.alloc (.cells #[.int .u8 k, .int .i64 n, .bool b, .string s] 23)).alloc (.cells #[.int .u8 k', .int .i64 n', .bool b', .string s'] 23)).heap.size := by omega
  have HT0 := hid (Utf8Tabs_below hT hB)
  clear hk h2 hv hB hT hz f1 f2 F1
  go_enter Tryd.func20, Tryd.ntmps20
  go_wp2_with fail
  refine (cA _ HT0.out).mono ?_
  rintro e w1 ⟨rfl, b1⟩
  have f2 := (b1.block (w.heap.size + 1) (by omega)).trans F2.out
  have HB1 := hid (HB0.out.trans (b1.mono (by omega)))
  have z1 : w.heap.size + 2 ≤ w1.heap.size := by have := b1.size; omega
  clear b1 F2
  have F2 := hid f2
  clear f2
  go_wp2_with fail
  go_ret2
  exact ⟨rfl, HB1.out⟩

set_option maxRecDepth 100000 in
set_option maxHeartbeats 4000000 in
theorem less_bad2 (k : Nat) (n : Int) (b : Bool) (s : ByteArray) (k' : Nat) (n' : Int) (b' : Bool) (s' : ByteArray) (w : World) (hT : Tabs w) (hk : k = k') (h2 : k ≠ 2) (hv : ok ⟨k, n, b, s⟩ = true) (hu : ok ⟨k', n', b', s'⟩ = false) :
    Calls Tryd.prog 20 #[.agg #[.int .u8 k, .int .i64 n, .bool b, .string s], .agg #[.int .u8 k', .int .i64 n', .bool b', .string s']] w fun e w' => e = .returned (.tuple #[.bool false, .int .i64 90]) ∧ Below w.heap.size w w' := by
  have cA := fun X (hX : Tabs X) => check_any k n b s X hX
  rw [show okE ⟨k, n, b, s⟩ = 0 by simp [okE, hv]] at cA
  have cB := fun X (hX : Tabs X) => check_any k' n' b' s' X hX
  rw [show okE ⟨k', n', b', s'⟩ = 1 by simp [okE, hu]] at cB
  have t0 : ((k : Int) != (k' : Int)) = false := by rw [hk]; simp
  have t1 : ((k : Int) == 2) = false := beq_eq_false_iff_ne.2 (by omega)
  obtain ⟨f1, f2⟩ := fresh2 w (.cells #[.int .u8 k, .int .i64 n, .bool b, .string s] 23) (.cells #[.int .u8 k', .int .i64 n', .bool b', .string s'] 23)
  have hB := grown2 w (.cells #[.int .u8 k, .int .i64 n, .bool b, .string s] 23) (.cells #[.int .u8 k', .int .i64 n', .bool b', .string s'] 23)
  have hz := size2 w (.cells #[.int .u8 k, .int .i64 n, .bool b, .string s] 23) (.cells #[.int .u8 k', .int .i64 n', .bool b', .string s'] 23)
  have F1 := hid f1
  have F2 := hid f2
  have HB0 := hid hB
  have z0 : w.heap.size + 2 ≤ ((w.alloc (.cells #[.int .u8 k, .int .i64 n, .bool b, .string s] 23)).alloc (.cells #[.int .u8 k', .int .i64 n', .bool b', .string s'] 23)).heap.size := by omega
  have HT0 := hid (Utf8Tabs_below hT hB)
  have HT := hid hT
  clear hk h2 hv hu hB hT hz f1 f2
  go_enter Tryd.func20, Tryd.ntmps20
  go_wp2_with fail
  refine (cA _ HT0.out).mono ?_
  rintro e w1 ⟨rfl, b1⟩
  have f1 := (b1.block w.heap.size (by omega)).trans F1.out
  have f2 := (b1.block (w.heap.size + 1) (by omega)).trans F2.out
  have HB1 := hid (HB0.out.trans (b1.mono (by omega)))
  have z1 : w.heap.size + 2 ≤ w1.heap.size := by have := b1.size; omega
  clear b1 F1 F2
  obtain ⟨a10, a11, a12, a13⟩ := row4 f1
  obtain ⟨b10, b11, b12, b13⟩ := row4 f2
  have F1 := hid f1
  have F2 := hid f2
  clear f1 f2
  go_wp2_with fail
  refine (cB _ (Utf8Tabs_below HT.out HB1.out)).mono ?_
  rintro e w2 ⟨rfl, b2⟩
  have f1 := (b2.block w.heap.size (by omega)).trans F1.out
  have f2 := (b2.block (w.heap.size + 1) (by omega)).trans F2.out
  have HB2 := hid (HB1.out.trans (b2.mono (by omega)))
  have z2 : w.heap.size + 2 ≤ w2.heap.size := by have := b2.size; omega
  clear b2 F1 F2
  have F1 := hid f1
  have F2 := hid f2
  clear f1 f2
  go_wp2_with fail
  go_ret2
  exact ⟨rfl, HB2.out⟩

set_option maxRecDepth 100000 in
set_option maxHeartbeats 4000000 in
theorem less_yes (k : Nat) (n : Int) (b : Bool) (s : ByteArray) (k' : Nat) (n' : Int) (b' : Bool) (s' : ByteArray) (w : World) (hT : Tabs w) (hk : k = k') (h2 : k ≠ 2) (hv : ok ⟨k, n, b, s⟩ = true) (hu : ok ⟨k', n', b', s'⟩ = true) :
    Calls Tryd.prog 20 #[.agg #[.int .u8 k, .int .i64 n, .bool b, .string s], .agg #[.int .u8 k', .int .i64 n', .bool b', .string s']] w fun e w' => e = .returned (.tuple #[.bool (if k = 1 then decide (n < n') else Op.bytesLess s.data.toList s'.data.toList), .int .i64 0]) ∧ Below w.heap.size w w' := by
  have hL := less_cmp ⟨k, n, b, s⟩ ⟨k', n', b', s'⟩ hk h2 hv hu
  simp only at hL
  rw [← hL]
  have cC := cmpV_any k k' n n' b b' s s'
  obtain ⟨r, hr⟩ : ∃ r, or4 (ordI k k') (ordI n n') ((if b then 1 else 0) - (if b' then 1 else 0)) (Lib.compareBytes s.data.toList s'.data.toList) = r := ⟨_, rfl⟩
  rw [hr] at cC ⊢
  clear hL hr
  have cA := fun X (hX : Tabs X) => check_any k n b s X hX
  rw [show okE ⟨k, n, b, s⟩ = 0 by simp [okE, hv]] at cA
  have cB := fun X (hX : Tabs X) => check_any k' n' b' s' X hX
  rw [show okE ⟨k', n', b', s'⟩ = 0 by simp [okE, hu]] at cB
  have t0 : ((k : Int) != (k' : Int)) = false := by rw [hk]; simp
  have t1 : ((k : Int) == 2) = false := beq_eq_false_iff_ne.2 (by omega)
  obtain ⟨f1, f2⟩ := fresh2 w (.cells #[.int .u8 k, .int .i64 n, .bool b, .string s] 23) (.cells #[.int .u8 k', .int .i64 n', .bool b', .string s'] 23)
  have hB := grown2 w (.cells #[.int .u8 k, .int .i64 n, .bool b, .string s] 23) (.cells #[.int .u8 k', .int .i64 n', .bool b', .string s'] 23)
  have hz := size2 w (.cells #[.int .u8 k, .int .i64 n, .bool b, .string s] 23) (.cells #[.int .u8 k', .int .i64 n', .bool b', .string s'] 23)
  have F1 := hid f1
  have F2 := hid f2
  have HB0 := hid hB
  have z0 : w.heap.size + 2 ≤ ((w.alloc (.cells #[.int .u8 k, .int .i64 n, .bool b, .string s] 23)).alloc (.cells #[.int .u8 k', .int .i64 n', .bool b', .string s'] 23)).heap.size := by omega
  have HT0 := hid (Utf8Tabs_below hT hB)
  have HT := hid hT
  clear hk h2 hv hu hB hT hz f1 f2
  go_enter Tryd.func20, Tryd.ntmps20
  go_wp2_with fail
  refine (cA _ HT0.out).mono ?_
  rintro e w1 ⟨rfl, b1⟩
  have f1 := (b1.block w.heap.size (by omega)).trans F1.out
  have f2 := (b1.block (w.heap.size + 1) (by omega)).trans F2.out
  have HB1 := hid (HB0.out.trans (b1.mono (by omega)))
  have z1 : w.heap.size + 2 ≤ w1.heap.size := by have := b1.size; omega
  clear b1 F1 F2
  obtain ⟨a10, a11, a12, a13⟩ := row4 f1
  obtain ⟨b10, b11, b12, b13⟩ := row4 f2
  have F1 := hid f1
  have F2 := hid f2
  clear f1 f2
  go_wp2_with fail
  refine (cB _ (Utf8Tabs_below HT.out HB1.out)).mono ?_
  rintro e w2 ⟨rfl, b2⟩
  have f1 := (b2.block w.heap.size (by omega)).trans F1.out
  have f2 := (b2.block (w.heap.size + 1) (by omega)).trans F2.out
  have HB2 := hid (HB1.out.trans (b2.mono (by omega)))
  have z2 : w.heap.size + 2 ≤ w2.heap.size := by have := b2.size; omega
  clear b2 F1 F2
  obtain ⟨a20, a21, a22, a23⟩ := row4 f1
  obtain ⟨b20, b21, b22, b23⟩ := row4 f2
  have F1 := hid f1
  have F2 := hid f2
  clear f1 f2
  go_wp2_with fail
  refine (cC _).mono ?_
  rintro e w3 ⟨rfl, b3⟩
  have f1 := (b3.block w.heap.size (by omega)).trans F1.out
  have f2 := (b3.block (w.heap.size + 1) (by omega)).trans F2.out
  have HB3 := hid (HB2.out.trans (b3.mono (by omega)))
  have z3 : w.heap.size + 2 ≤ w3.heap.size := by have := b3.size; omega
  clear b3 F1 F2
  have F1 := hid f1
  have F2 := hid f2
  clear f1 f2
  go_wp2_with fail
  go_ret2
  exact ⟨rfl, HB3.out⟩

theorem lessV (v u : Val) (w : World) (hT : Tabs w) : Calls Tryd.prog 20 #[.agg #[.int .u8 v.k, .int .i64 v.n, .bool v.b, .string v.s], .agg #[.int .u8 u.k, .int .i64 u.n, .bool u.b, .string u.s]] w fun e w' => e = .returned (.tuple #[.bool (lessR v u).1, .int .i64 (lessR v u).2]) ∧ Below w.heap.size w w' := by
  obtain ⟨k, n, b, s⟩ := v
  obtain ⟨k', n', b', s'⟩ := u
  unfold lessR
  by_cases hk : k = k'
  · by_cases h2 : k = 2
    · rw [if_neg (by simp [h2])]; exact less_bool k n b s k' n' b' s' w hk h2
    · cases hv : ok ⟨k, n, b, s⟩
      · rw [if_neg (by simp)]; exact less_bad1 k n b s k' n' b' s' w hT hk h2 hv
      · cases hu : ok ⟨k', n', b', s'⟩
        · rw [if_neg (by simp)]; exact less_bad2 k n b s k' n' b' s' w hT hk h2 hv hu
        · rw [if_pos ⟨hk, h2, rfl, rfl⟩]; exact less_yes k n b s k' n' b' s' w hT hk h2 hv hu
  · rw [if_neg (by simp [hk])]; exact less_kind k n b s k' n' b' s' w hk

set_option maxRecDepth 100000 in
set_option maxHeartbeats 4000000 in
theorem rless_bad1 (k : Nat) (n : Int) (b : Bool) (s : ByteArray) (k' : Nat) (n' : Int) (b' : Bool) (s' : ByteArray) (w : World) (hs : s.size ≤ 9223372036854775803) (hv : ok ⟨k, n, b, s⟩ = false) :
    Calls Tryd.prog 21 #[.agg #[.int .u8 k, .int .i64 n, .bool b, .string s], .agg #[.int .u8 k', .int .i64 n', .bool b', .string s']] w fun e w' => e = .returned (.tuple #[.bool false, .int .i64 90]) ∧ Below w.heap.size w w' := by
  have cA := fun X => refCheck_any k n b s X hs
  rw [show okE ⟨k, n, b, s⟩ = 1 by simp [okE, hv]] at cA
  obtain ⟨f1, f2⟩ := fresh2 w (.cells #[.int .u8 k, .int .i64 n, .bool b, .string s] 23) (.cells #[.int .u8 k', .int .i64 n', .bool b', .string s'] 23)
  have hB := grown2 w (.cells #[.int .u8 k, .int .i64 n, .bool b, .string s] 23) (.cells #[.int .u8 k', .int .i64 n', .bool b', .string s'] 23)
  have hz := size2 w (.cells #[.int .u8 k, .int .i64 n, .bool b, .string s] 23) (.cells #[.int .u8 k', .int .i64 n', .bool b', .string s'] 23)
  have F1 := hid f1
  have F2 := hid f2
  have HB0 := hid hB
  have z0 : w.heap.size + 2 ≤ ((w.alloc (.cells #[.int .u8 k, .int .i64 n, .bool b, .string s] 23)).alloc (.cells #[.int .u8 k', .int .i64 n', .bool b', .string s'] 23)).heap.size := by omega
  clear hv hB hz f1 f2 F1 hs
  go_enter Tryd.func21, Tryd.ntmps21
  go_wp2_with fail
  refine (cA _).mono ?_
  rintro e w1 ⟨rfl, b1⟩
  have f2 := (b1.block (w.heap.size + 1) (by omega)).trans F2.out
  have HB1 := hid (HB0.out.trans (b1.mono (by omega)))
  have z1 : w.heap.size + 2 ≤ w1.heap.size := by have := b1.size; omega
  clear b1 F2
  have F2 := hid f2
  clear f2
  go_wp2_with fail
  go_ret2
  exact ⟨rfl, HB1.out⟩

set_option maxRecDepth 100000 in
set_option maxHeartbeats 4000000 in
theorem rless_bad2 (k : Nat) (n : Int) (b : Bool) (s : ByteArray) (k' : Nat) (n' : Int) (b' : Bool) (s' : ByteArray) (w : World) (hs : s.size ≤ 9223372036854775803) (hs' : s'.size ≤ 9223372036854775803) (hv : ok ⟨k, n, b, s⟩ = true) (hu : ok ⟨k', n', b', s'⟩ = false) :
    Calls Tryd.prog 21 #[.agg #[.int .u8 k, .int .i64 n, .bool b, .string s], .agg #[.int .u8 k', .int .i64 n', .bool b', .string s']] w fun e w' => e = .returned (.tuple #[.bool false, .int .i64 90]) ∧ Below w.heap.size w w' := by
  have cA := fun X => refCheck_any k n b s X hs
  rw [show okE ⟨k, n, b, s⟩ = 0 by simp [okE, hv]] at cA
  have cB := fun X => refCheck_any k' n' b' s' X hs'
  rw [show okE ⟨k', n', b', s'⟩ = 1 by simp [okE, hu]] at cB
  obtain ⟨f1, f2⟩ := fresh2 w (.cells #[.int .u8 k, .int .i64 n, .bool b, .string s] 23) (.cells #[.int .u8 k', .int .i64 n', .bool b', .string s'] 23)
  have hB := grown2 w (.cells #[.int .u8 k, .int .i64 n, .bool b, .string s] 23) (.cells #[.int .u8 k', .int .i64 n', .bool b', .string s'] 23)
  have hz := size2 w (.cells #[.int .u8 k, .int .i64 n, .bool b, .string s] 23) (.cells #[.int .u8 k', .int .i64 n', .bool b', .string s'] 23)
  have F1 := hid f1
  have F2 := hid f2
  have HB0 := hid hB
  have z0 : w.heap.size + 2 ≤ ((w.alloc (.cells #[.int .u8 k, .int .i64 n, .bool b, .string s] 23)).alloc (.cells #[.int .u8 k', .int .i64 n', .bool b', .string s'] 23)).heap.size := by omega
  clear hv hu hB hz f1 f2 hs hs'
  go_enter Tryd.func21, Tryd.ntmps21
  go_wp2_with fail
  refine (cA _).mono ?_
  rintro e w1 ⟨rfl, b1⟩
  have f1 := (b1.block w.heap.size (by omega)).trans F1.out
  have f2 := (b1.block (w.heap.size + 1) (by omega)).trans F2.out
  have HB1 := hid (HB0.out.trans (b1.mono (by omega)))
  have z1 : w.heap.size + 2 ≤ w1.heap.size := by have := b1.size; omega
  clear b1 F1 F2
  obtain ⟨a10, a11, a12, a13⟩ := row4 f1
  obtain ⟨b10, b11, b12, b13⟩ := row4 f2
  have F1 := hid f1
  have F2 := hid f2
  clear f1 f2
  go_wp2_with fail
  refine (cB _).mono ?_
  rintro e w2 ⟨rfl, b2⟩
  have f1 := (b2.block w.heap.size (by omega)).trans F1.out
  have f2 := (b2.block (w.heap.size + 1) (by omega)).trans F2.out
  have HB2 := hid (HB1.out.trans (b2.mono (by omega)))
  have z2 : w.heap.size + 2 ≤ w2.heap.size := by have := b2.size; omega
  clear b2 F1 F2
  have F1 := hid f1
  have F2 := hid f2
  clear f1 f2
  go_wp2_with fail
  go_ret2
  exact ⟨rfl, HB2.out⟩

set_option maxRecDepth 100000 in
set_option maxHeartbeats 4000000 in
theorem rless_kind (k : Nat) (n : Int) (b : Bool) (s : ByteArray) (k' : Nat) (n' : Int) (b' : Bool) (s' : ByteArray) (w : World) (hs : s.size ≤ 9223372036854775803) (hs' : s'.size ≤ 9223372036854775803) (hv : ok ⟨k, n, b, s⟩ = true) (hu : ok ⟨k', n', b', s'⟩ = true) (hk : k ≠ k') :
    Calls Tryd.prog 21 #[.agg #[.int .u8 k, .int .i64 n, .bool b, .string s], .agg #[.int .u8 k', .int .i64 n', .bool b', .string s']] w fun e w' => e = .returned (.tuple #[.bool false, .int .i64 90]) ∧ Below w.heap.size w w' := by
  have cA := fun X => refCheck_any k n b s X hs
  rw [show okE ⟨k, n, b, s⟩ = 0 by simp [okE, hv]] at cA
  have cB := fun X => refCheck_any k' n' b' s' X hs'
  rw [show okE ⟨k', n', b', s'⟩ = 0 by simp [okE, hu]] at cB
  have t0 : ((k : Int) != (k' : Int)) = true := by rw [bne_iff_ne]; omega
  obtain ⟨f1, f2⟩ := fresh2 w (.cells #[.int .u8 k, .int .i64 n, .bool b, .string s] 23) (.cells #[.int .u8 k', .int .i64 n', .bool b', .string s'] 23)
  have hB := grown2 w (.cells #[.int .u8 k, .int .i64 n, .bool b, .string s] 23) (.cells #[.int .u8 k', .int .i64 n', .bool b', .string s'] 23)
  have hz := size2 w (.cells #[.int .u8 k, .int .i64 n, .bool b, .string s] 23) (.cells #[.int .u8 k', .int .i64 n', .bool b', .string s'] 23)
  have F1 := hid f1
  have F2 := hid f2
  have HB0 := hid hB
  have z0 : w.heap.size + 2 ≤ ((w.alloc (.cells #[.int .u8 k, .int .i64 n, .bool b, .string s] 23)).alloc (.cells #[.int .u8 k', .int .i64 n', .bool b', .string s'] 23)).heap.size := by omega
  clear hv hu hB hz f1 f2 hs hs' hk
  go_enter Tryd.func21, Tryd.ntmps21
  go_wp2_with fail
  refine (cA _).mono ?_
  rintro e w1 ⟨rfl, b1⟩
  have f1 := (b1.block w.heap.size (by omega)).trans F1.out
  have f2 := (b1.block (w.heap.size + 1) (by omega)).trans F2.out
  have HB1 := hid (HB0.out.trans (b1.mono (by omega)))
  have z1 : w.heap.size + 2 ≤ w1.heap.size := by have := b1.size; omega
  clear b1 F1 F2
  obtain ⟨a10, a11, a12, a13⟩ := row4 f1
  obtain ⟨b10, b11, b12, b13⟩ := row4 f2
  have F1 := hid f1
  have F2 := hid f2
  clear f1 f2
  go_wp2_with fail
  refine (cB _).mono ?_
  rintro e w2 ⟨rfl, b2⟩
  have f1 := (b2.block w.heap.size (by omega)).trans F1.out
  have f2 := (b2.block (w.heap.size + 1) (by omega)).trans F2.out
  have HB2 := hid (HB1.out.trans (b2.mono (by omega)))
  have z2 : w.heap.size + 2 ≤ w2.heap.size := by have := b2.size; omega
  clear b2 F1 F2
  obtain ⟨a20, a21, a22, a23⟩ := row4 f1
  obtain ⟨b20, b21, b22, b23⟩ := row4 f2
  have F1 := hid f1
  have F2 := hid f2
  clear f1 f2
  go_wp2_with fail
  go_ret2
  exact ⟨rfl, HB2.out⟩

set_option maxRecDepth 100000 in
set_option maxHeartbeats 4000000 in
theorem rless_bool (k : Nat) (n : Int) (b : Bool) (s : ByteArray) (k' : Nat) (n' : Int) (b' : Bool) (s' : ByteArray) (w : World) (hs : s.size ≤ 9223372036854775803) (hs' : s'.size ≤ 9223372036854775803) (hv : ok ⟨k, n, b, s⟩ = true) (hu : ok ⟨k', n', b', s'⟩ = true) (hk : k = k') (h2 : k = 2) :
    Calls Tryd.prog 21 #[.agg #[.int .u8 k, .int .i64 n, .bool b, .string s], .agg #[.int .u8 k', .int .i64 n', .bool b', .string s']] w fun e w' => e = .returned (.tuple #[.bool false, .int .i64 90]) ∧ Below w.heap.size w w' := by
  have cA := fun X => refCheck_any k n b s X hs
  rw [show okE ⟨k, n, b, s⟩ = 0 by simp [okE, hv]] at cA
  have cB := fun X => refCheck_any k' n' b' s' X hs'
  rw [show okE ⟨k', n', b', s'⟩ = 0 by simp [okE, hu]] at cB
  have t0 : ((k : Int) != (k' : Int)) = false := by rw [hk]; simp
  have t1 : ((k : Int) == 2) = true := by rw [h2]; rfl
  obtain ⟨f1, f2⟩ := fresh2 w (.cells #[.int .u8 k, .int .i64 n, .bool b, .string s] 23) (.cells #[.int .u8 k', .int .i64 n', .bool b', .string s'] 23)
  have hB := grown2 w (.cells #[.int .u8 k, .int .i64 n, .bool b, .string s] 23) (.cells #[.int .u8 k', .int .i64 n', .bool b', .string s'] 23)
  have hz := size2 w (.cells #[.int .u8 k, .int .i64 n, .bool b, .string s] 23) (.cells #[.int .u8 k', .int .i64 n', .bool b', .string s'] 23)
  have F1 := hid f1
  have F2 := hid f2
  have HB0 := hid hB
  have z0 : w.heap.size + 2 ≤ ((w.alloc (.cells #[.int .u8 k, .int .i64 n, .bool b, .string s] 23)).alloc (.cells #[.int .u8 k', .int .i64 n', .bool b', .string s'] 23)).heap.size := by omega
  clear hv hu hB hz f1 f2 hs hs' hk h2
  go_enter Tryd.func21, Tryd.ntmps21
  go_wp2_with fail
  refine (cA _).mono ?_
  rintro e w1 ⟨rfl, b1⟩
  have f1 := (b1.block w.heap.size (by omega)).trans F1.out
  have f2 := (b1.block (w.heap.size + 1) (by omega)).trans F2.out
  have HB1 := hid (HB0.out.trans (b1.mono (by omega)))
  have z1 : w.heap.size + 2 ≤ w1.heap.size := by have := b1.size; omega
  clear b1 F1 F2
  obtain ⟨a10, a11, a12, a13⟩ := row4 f1
  obtain ⟨b10, b11, b12, b13⟩ := row4 f2
  have F1 := hid f1
  have F2 := hid f2
  clear f1 f2
  go_wp2_with fail
  refine (cB _).mono ?_
  rintro e w2 ⟨rfl, b2⟩
  have f1 := (b2.block w.heap.size (by omega)).trans F1.out
  have f2 := (b2.block (w.heap.size + 1) (by omega)).trans F2.out
  have HB2 := hid (HB1.out.trans (b2.mono (by omega)))
  have z2 : w.heap.size + 2 ≤ w2.heap.size := by have := b2.size; omega
  clear b2 F1 F2
  obtain ⟨a20, a21, a22, a23⟩ := row4 f1
  obtain ⟨b20, b21, b22, b23⟩ := row4 f2
  have F1 := hid f1
  have F2 := hid f2
  clear f1 f2
  go_wp2_with fail
  go_ret2
  exact ⟨rfl, HB2.out⟩

set_option maxRecDepth 100000 in
set_option maxHeartbeats 4000000 in
theorem rless_num (k : Nat) (n : Int) (b : Bool) (s : ByteArray) (k' : Nat) (n' : Int) (b' : Bool) (s' : ByteArray) (w : World) (hs : s.size ≤ 9223372036854775803) (hs' : s'.size ≤ 9223372036854775803) (hv : ok ⟨k, n, b, s⟩ = true) (hu : ok ⟨k', n', b', s'⟩ = true) (hk : k = k') (h1 : k = 1) :
    Calls Tryd.prog 21 #[.agg #[.int .u8 k, .int .i64 n, .bool b, .string s], .agg #[.int .u8 k', .int .i64 n', .bool b', .string s']] w fun e w' => e = .returned (.tuple #[.bool (decide (n < n')), .int .i64 0]) ∧ Below w.heap.size w w' := by
  have cA := fun X => refCheck_any k n b s X hs
  rw [show okE ⟨k, n, b, s⟩ = 0 by simp [okE, hv]] at cA
  have cB := fun X => refCheck_any k' n' b' s' X hs'
  rw [show okE ⟨k', n', b', s'⟩ = 0 by simp [okE, hu]] at cB
  have t0 : ((k : Int) != (k' : Int)) = false := by rw [hk]; simp
  have t1 : ((k : Int) == 2) = false := by rw [h1]; rfl
  have t2 : ((k : Int) == 1) = true := by rw [h1]; rfl
  obtain ⟨f1, f2⟩ := fresh2 w (.cells #[.int .u8 k, .int .i64 n, .bool b, .string s] 23) (.cells #[.int .u8 k', .int .i64 n', .bool b', .string s'] 23)
  have hB := grown2 w (.cells #[.int .u8 k, .int .i64 n, .bool b, .string s] 23) (.cells #[.int .u8 k', .int .i64 n', .bool b', .string s'] 23)
  have hz := size2 w (.cells #[.int .u8 k, .int .i64 n, .bool b, .string s] 23) (.cells #[.int .u8 k', .int .i64 n', .bool b', .string s'] 23)
  have F1 := hid f1
  have F2 := hid f2
  have HB0 := hid hB
  have z0 : w.heap.size + 2 ≤ ((w.alloc (.cells #[.int .u8 k, .int .i64 n, .bool b, .string s] 23)).alloc (.cells #[.int .u8 k', .int .i64 n', .bool b', .string s'] 23)).heap.size := by omega
  clear hv hu hB hz f1 f2 hs hs' hk h1
  go_enter Tryd.func21, Tryd.ntmps21
  go_wp2_with fail
  refine (cA _).mono ?_
  rintro e w1 ⟨rfl, b1⟩
  have f1 := (b1.block w.heap.size (by omega)).trans F1.out
  have f2 := (b1.block (w.heap.size + 1) (by omega)).trans F2.out
  have HB1 := hid (HB0.out.trans (b1.mono (by omega)))
  have z1 : w.heap.size + 2 ≤ w1.heap.size := by have := b1.size; omega
  clear b1 F1 F2
  obtain ⟨a10, a11, a12, a13⟩ := row4 f1
  obtain ⟨b10, b11, b12, b13⟩ := row4 f2
  have F1 := hid f1
  have F2 := hid f2
  clear f1 f2
  go_wp2_with fail
  refine (cB _).mono ?_
  rintro e w2 ⟨rfl, b2⟩
  have f1 := (b2.block w.heap.size (by omega)).trans F1.out
  have f2 := (b2.block (w.heap.size + 1) (by omega)).trans F2.out
  have HB2 := hid (HB1.out.trans (b2.mono (by omega)))
  have z2 : w.heap.size + 2 ≤ w2.heap.size := by have := b2.size; omega
  clear b2 F1 F2
  obtain ⟨a20, a21, a22, a23⟩ := row4 f1
  obtain ⟨b20, b21, b22, b23⟩ := row4 f2
  have F1 := hid f1
  have F2 := hid f2
  clear f1 f2
  go_wp2_with fail
  go_ret2
  exact ⟨rfl, HB2.out⟩

set_option maxRecDepth 100000 in
set_option maxHeartbeats 4000000 in
theorem rless_text (k : Nat) (n : Int) (b : Bool) (s : ByteArray) (k' : Nat) (n' : Int) (b' : Bool) (s' : ByteArray) (w : World) (hs : s.size ≤ 9223372036854775803) (hs' : s'.size ≤ 9223372036854775803) (hv : ok ⟨k, n, b, s⟩ = true) (hu : ok ⟨k', n', b', s'⟩ = true) (hk : k = k') (h1 : k ≠ 1) (h2 : k ≠ 2) :
    Calls Tryd.prog 21 #[.agg #[.int .u8 k, .int .i64 n, .bool b, .string s], .agg #[.int .u8 k', .int .i64 n', .bool b', .string s']] w fun e w' => e = .returned (.tuple #[.bool (Op.bytesLess s.toList s'.toList), .int .i64 0]) ∧ Below w.heap.size w w' := by
  have cA := fun X => refCheck_any k n b s X hs
  rw [show okE ⟨k, n, b, s⟩ = 0 by simp [okE, hv]] at cA
  have cB := fun X => refCheck_any k' n' b' s' X hs'
  rw [show okE ⟨k', n', b', s'⟩ = 0 by simp [okE, hu]] at cB
  have t0 : ((k : Int) != (k' : Int)) = false := by rw [hk]; simp
  have t1 : ((k : Int) == 2) = false := beq_eq_false_iff_ne.2 (by omega)
  have t2 : ((k : Int) == 1) = false := beq_eq_false_iff_ne.2 (by omega)
  obtain ⟨f1, f2⟩ := fresh2 w (.cells #[.int .u8 k, .int .i64 n, .bool b, .string s] 23) (.cells #[.int .u8 k', .int .i64 n', .bool b', .string s'] 23)
  have hB := grown2 w (.cells #[.int .u8 k, .int .i64 n, .bool b, .string s] 23) (.cells #[.int .u8 k', .int .i64 n', .bool b', .string s'] 23)
  have hz := size2 w (.cells #[.int .u8 k, .int .i64 n, .bool b, .string s] 23) (.cells #[.int .u8 k', .int .i64 n', .bool b', .string s'] 23)
  have F1 := hid f1
  have F2 := hid f2
  have HB0 := hid hB
  have z0 : w.heap.size + 2 ≤ ((w.alloc (.cells #[.int .u8 k, .int .i64 n, .bool b, .string s] 23)).alloc (.cells #[.int .u8 k', .int .i64 n', .bool b', .string s'] 23)).heap.size := by omega
  clear hv hu hB hz f1 f2 hs hs' hk h1 h2
  go_enter Tryd.func21, Tryd.ntmps21
  go_wp2_with fail
  refine (cA _).mono ?_
  rintro e w1 ⟨rfl, b1⟩
  have f1 := (b1.block w.heap.size (by omega)).trans F1.out
  have f2 := (b1.block (w.heap.size + 1) (by omega)).trans F2.out
  have HB1 := hid (HB0.out.trans (b1.mono (by omega)))
  have z1 : w.heap.size + 2 ≤ w1.heap.size := by have := b1.size; omega
  clear b1 F1 F2
  obtain ⟨a10, a11, a12, a13⟩ := row4 f1
  obtain ⟨b10, b11, b12, b13⟩ := row4 f2
  have F1 := hid f1
  have F2 := hid f2
  clear f1 f2
  go_wp2_with fail
  refine (cB _).mono ?_
  rintro e w2 ⟨rfl, b2⟩
  have f1 := (b2.block w.heap.size (by omega)).trans F1.out
  have f2 := (b2.block (w.heap.size + 1) (by omega)).trans F2.out
  have HB2 := hid (HB1.out.trans (b2.mono (by omega)))
  have z2 : w.heap.size + 2 ≤ w2.heap.size := by have := b2.size; omega
  clear b2 F1 F2
  obtain ⟨a20, a21, a22, a23⟩ := row4 f1
  obtain ⟨b20, b21, b22, b23⟩ := row4 f2
  have F1 := hid f1
  have F2 := hid f2
  clear f1 f2
  go_wp2_with fail
  go_ret2
  exact ⟨rfl, HB2.out⟩

theorem rlessV (v u : Val) (w : World) (hs : v.s.size ≤ 9223372036854775803) (hs' : u.s.size ≤ 9223372036854775803) : Calls Tryd.prog 21 #[.agg #[.int .u8 v.k, .int .i64 v.n, .bool v.b, .string v.s], .agg #[.int .u8 u.k, .int .i64 u.n, .bool u.b, .string u.s]] w fun e w' => e = .returned (.tuple #[.bool (lessR v u).1, .int .i64 (lessR v u).2]) ∧ Below w.heap.size w w' := by
  obtain ⟨k, n, b, s⟩ := v
  obtain ⟨k', n', b', s'⟩ := u
  unfold lessR
  cases hv : ok ⟨k, n, b, s⟩
  · rw [if_neg (by simp)]; exact rless_bad1 k n b s k' n' b' s' w hs hv
  · cases hu : ok ⟨k', n', b', s'⟩
    · rw [if_neg (by simp)]; exact rless_bad2 k n b s k' n' b' s' w hs hs' hv hu
    · by_cases hk : k = k'
      · by_cases h2 : k = 2
        · rw [if_neg (by simp [h2])]; exact rless_bool k n b s k' n' b' s' w hs hs' hv hu hk h2
        · rw [if_pos ⟨hk, h2, rfl, rfl⟩]
          by_cases h1 : k = 1
          · simp only [if_pos h1]; exact rless_num k n b s k' n' b' s' w hs hs' hv hu hk h1
          · simp only [if_neg h1, ← Lib.toList_data]; exact rless_text k n b s k' n' b' s' w hs hs' hv hu hk h1 h2
      · rw [if_neg (by simp [hk])]; exact rless_kind k n b s k' n' b' s' w hs hs' hv hu hk
end Go.Proofs.YtohdifffdgoaaaaDoor
