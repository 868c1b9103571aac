/- The walk of the table of bytes that may stand in a name. -/
import Derived.Test.YtohdifffdgoaaaaDoorProg
import Derived.Test.YtohdifffdgoaaaaDoorWPlainA
import Derived.Test.YtohdifffdgoaaaaDoorWName
import Derived.WalkKit
import Derived.BigGuardPart
import Derived.Lib.Hide
import Derived.Deep.WholeRow
import Derived.Deep.CutRange
namespace Go.Proofs.YtohdifffdgoaaaaDoor
open Go.RowKit Go.Lib

namespace W
/-- a row of 256 bytes -/
def rowOf (f : Nat → Int) : Array Value := ((List.range 256).map fun j => Value.int .u8 (f j)).toArray
theorem rowOf_size (f : Nat → Int) : (rowOf f).size = 256 := by simp [rowOf]
theorem rowOf_get (f : Nat → Int) (j : Nat) (h : j < 256) : (rowOf f)[j]? = some (.int .u8 (f j)) := by simp [rowOf, h]
theorem rowOf_set (f : Nat → Int) (i : Nat) (v : Int) : (rowOf f).setIfInBounds i (.int .u8 v) = rowOf (fun j => if j = i then v else f j) := by
  apply Array.ext_getElem?
  intro j
  rw [Array.getElem?_setIfInBounds]
  by_cases hj : j < 256
  · rw [rowOf_get f j hj, rowOf_get _ j hj, rowOf_size]
    by_cases h : i = j
    · subst h; simp [hj]
    · rw [if_neg h, if_neg (fun e => h e.symm)]
  · have h1 : (rowOf f)[j]? = none := by rw [Array.getElem?_eq_none]; rw [rowOf_size]; omega
    have h2 : (rowOf fun j => if j = i then v else f j)[j]? = none := by rw [Array.getElem?_eq_none]; rw [rowOf_size]; omega
    rw [h1, h2, rowOf_size]
    split
    · simp; omega
    · rfl
theorem rowOf_congr {f g : Nat → Int} (h : ∀ j, j < 256 → f j = g j) : rowOf f = rowOf g := by
  apply Array.ext_getElem?
  intro j
  by_cases hj : j < 256
  · rw [rowOf_get f j hj, rowOf_get g j hj, h j hj]
  · rw [Array.getElem?_eq_none (by rw [rowOf_size]; omega), Array.getElem?_eq_none (by rw [rowOf_size]; omega)]
theorem rowOf_one (f : Nat → Int) : (rowOf f).all (·.oneCell') = true := by
  rw [Array.all_eq_true_iff_forall_mem]
  intro x hx
  simp [rowOf] at hx
  obtain ⟨a, _, rfl⟩ := hx
  rfl
/-- the table behind k rounds of the first loop, m of the second -/
def tabAt (k m j : Nat) : Int := if (97 ≤ j ∧ j < 97 + k) ∨ (65 ≤ j ∧ j < 65 + k) then 2 else if 48 ≤ j ∧ j < 48 + m then 1 else 0
def tab (j : Nat) : Int := if letter j then 2 else if other j then 1 else 0
def rowAt (k m : Nat) : Array Value := rowOf (tabAt k m)
def rowTab : Array Value := rowOf tab
theorem rowAt_letters (k : Nat) (h : k < 26) : ((rowAt k 0).setIfInBounds (97 + k) (.int .u8 2)).setIfInBounds (65 + k) (.int .u8 2) = rowAt (k + 1) 0 := by
  unfold rowAt
  rw [rowOf_set, rowOf_set]
  apply rowOf_congr
  intro j hj
  unfold tabAt
  repeat' split
  all_goals omega
theorem rowAt_digit (m : Nat) (h : m < 10) : (rowAt 26 m).setIfInBounds (48 + m) (.int .u8 1) = rowAt 26 (m + 1) := by
  unfold rowAt
  rw [rowOf_set]
  apply rowOf_congr
  intro j hj
  unfold tabAt
  repeat' split
  all_goals omega
theorem rowAt_end : (((rowAt 26 10).setIfInBounds 45 (.int .u8 1)).setIfInBounds 95 (.int .u8 1)).setIfInBounds 46 (.int .u8 1) = rowTab := by
  unfold rowAt rowTab
  rw [rowOf_set, rowOf_set, rowOf_set]
  apply rowOf_congr
  intro j hj
  simp only [tabAt, tab, letter, other, Bool.or_eq_true, decide_eq_true_eq]
  repeat' split
  all_goals omega
theorem rowAt_size (k m : Nat) : (rowAt k m).size = 256 := rowOf_size _
theorem rowTab_size : rowTab.size = 256 := rowOf_size _
theorem rowTab_one : rowTab.all (·.oneCell') = true := rowOf_one _
theorem rowTab_get (j : Nat) (h : j < 256) : rowTab[j]? = some (.int .u8 (tab j)) := rowOf_get _ j h
theorem rowAt_get (k m j : Nat) (h : j < 256) : (rowAt k m)[j]? = some (.int .u8 (tabAt k m j)) := rowOf_get _ j h
end W
theorem zero44 : Tryd.zeroCells100 = W.rowAt 0 0 := by kernel_rfl

theorem info44 : (Tryd.prog.info? 100).map (·.size) = some 256 := by kernel_rfl

set_option maxHeartbeats 1000000 in
theorem table_any (w : World) :
    Calls Tryd.prog 84 #[] w fun e w' => e = .returned (.agg W.rowTab) ∧ w' = w.alloc (.cells W.rowTab 100) := by
  go_enter Tryd.func84, Tryd.ntmps84
  go_wp2
  rw [zero44]
  go_loopw [3] (fun i wr => ∃ k : Nat, k ≤ 26 ∧ i = .int .i64 k ∧ wr = w.alloc (.cells (W.rowAt k 0) 100)) (fun i _ => 26 - (intOf i).toNat)
  case atStart => exact ⟨0, by omega, rfl, rfl⟩
  case round =>
    obtain ⟨k, hk, rfl, rfl⟩ := hrel
    by_cases hlt : k < 26
    · have g1 := W.rowAt_get k 0 (97 + k) (by omega)
      have g2 := W.rowAt_get k 0 (65 + k) (by omega)
      have hs := Lib.hid (W.rowAt_letters k hlt)
      go_wp2
      go_roundw
      case rel => exact ⟨k + 1, by omega, by go_num, by rw [← hs.out]⟩
      case measure => simp [intOf]; omega
    · obtain rfl : k = 26 := by omega
      go_wp2
      go_loopw [13] (fun i wr => ∃ k : Nat, k ≤ 10 ∧ i = .int .i64 k ∧ wr = w.alloc (.cells (W.rowAt 26 k) 100)) (fun i _ => 10 - (intOf i).toNat)
      case atStart => exact ⟨0, by omega, rfl, rfl⟩
      case round =>
        obtain ⟨k, hk, rfl, rfl⟩ := hrel
        by_cases hlt : k < 10
        · have g1 := W.rowAt_get 26 k (48 + k) (by omega)
          have hs := Lib.hid (W.rowAt_digit k hlt)
          go_wp2
          go_roundw
          case rel => exact ⟨k + 1, by omega, by go_num, by rw [← hs.out]⟩
          case measure => simp [intOf]; omega
        · obtain rfl : k = 10 := by omega
          have g1 := W.rowAt_get 26 10 45 (by omega)
          have g2 := W.rowAt_get 26 10 46 (by omega)
          have g3 := W.rowAt_get 26 10 95 (by omega)
          have hs := Lib.hid W.rowAt_end
          go_upto_region 12 with fail
          rw [hs.out]
          apply wp_region_lit
          refine wpList_load_row rfl 100 (.tmp 0) rfl w.heap.size rfl 100 W.rowTab (0, 0) (.array 256 5) (heap_alloc_last w _) Tryd.underlying100 rfl (by rw [W.rowTab_size]; exact info44) ?_
          refine wpList_store_row rfl 100 (.tmp 0) (.tmp 23) rfl w.heap.size W.rowTab rfl rfl 100 W.rowTab (heap_alloc_last w _) (by rw [W.rowTab_size]; exact info44) rfl W.rowTab_one ?_
          rw [World.setRow_alloc_new]
          go_wp2
          exact bodyPost_ret (v := .agg W.rowTab) (results_cell_row rfl _ _ w.heap.size 100 W.rowTab (0, 0) (.array 256 5) rfl (heap_alloc_last w _) Tryd.underlying100 rfl (by rw [W.rowTab_size]; exact info44)) rfl ⟨rfl, rfl⟩

namespace W
/-- what Go's text asks of a byte -/
theorem tab_zero (n : Nat) (h : (letter n || other n) = true) : (tab n == 0) = false := by
  unfold tab
  cases h1 : letter n <;> cases h2 : other n <;> simp_all
theorem tab_some (n : Nat) (h : (letter n || other n) = false) : (tab n == 0) = true := by
  unfold tab
  cases h1 : letter n <;> cases h2 : other n <;> simp_all
theorem tab_two (n : Nat) : (tab n == 2) = letter n := by
  unfold tab
  cases h1 : letter n <;> cases h2 : other n <;> simp_all
end W

set_option maxRecDepth 100000 in
set_option maxHeartbeats 2000000 in
theorem name_any (s : ByteArray) (w : World) (hs : s.size ≤ 9223372036854775807) :
    Calls Tryd.prog 63 #[.string s] w fun e w' => e = .returned (.bool (W.nameB s.data.toList)) ∧ Below w.heap.size w w' := by
  by_cases h : 1 ≤ s.size ∧ s.size ≤ 32
  · rw [W.nameB_of s h]
    obtain ⟨h1, h2⟩ := h
    have hl0 : ((s.size : Int) == 0) = false := beq_eq_false_iff_ne.2 (by omega)
    have hl1 : ¬ ((32 : Int) < (s.size : Int)) := by omega
    have hsz : W.rowTab.size = 256 := W.rowTab_size
    have hst : (storeCells ⟨w.heap.size + 1, 0, none⟩ W.rowTab.toList 0).run Tryd.prog ((w.alloc (.cells W.rowTab 100)).alloc (.cells Tryd.zeroCells100 100)) = .ok () ((w.alloc (.cells W.rowTab 100)).alloc (.cells W.rowTab 100)) := by
      have := run_storeCells_new (P := Tryd.prog) (w.alloc (.cells W.rowTab 100)) 100 Tryd.zeroCells100 W.rowTab (by rw [W.rowTab_size]; exact info44) (by rw [zero44, W.rowAt_size, W.rowTab_size]) W.rowTab_one
      simpa using this
    go_enter Tryd.func63, Tryd.ntmps63
    go_wp2_with (go_at_call 84; refine (table_any _).mono ?_; rintro e w' ⟨rfl, rfl⟩)
    go_loop [16] (fun i => ∃ k : Nat, k ≤ s.size ∧ i = .int .i64 k ∧ W.okAll s.data.toList = W.okAll (s.data.toList.drop k)) (fun i => s.size - (intOf i).toNat)
    case atStart => exact ⟨0, by omega, rfl, rfl⟩
    case round =>
      clear hst hsz
      obtain ⟨k, hk, rfl, hrl⟩ := hrel
      have hR := Lib.hid hrl
      clear hrl
      by_cases hlt : k < s.size
      · have hb : s[k].toNat < 256 := s[k].toNat_lt
        have g1 := W.rowTab_get s[k].toNat hb
        cases hc : (W.letter s[k].toNat || W.other s[k].toNat)
        · have hF := Lib.hid (show W.standsAll 0 s.data.toList = false by
            rw [W.stands_first s h1, hR.out, W.ok_round s k hlt, hc]; simp)
          have ht := W.tab_some _ hc
          clear hc
          go_wp2
          go_ret
          exact ⟨ret_bool hF.out.symm, ((Below.refl _ _).alloc (Nat.le_refl _) _).alloc (by simp) _⟩
        · have hF := Lib.hid (show W.okAll s.data.toList = W.okAll (s.data.toList.drop (k + 1)) by
            rw [hR.out, W.ok_round s k hlt, hc]; simp)
          have ht := W.tab_zero _ hc
          clear hc
          go_wp2
          go_round
          case rel => exact ⟨_, by omega, by go_num, hF.out⟩
          case measure => simp [intOf]; omega
      · obtain rfl : k = s.size := by omega
        have h00 : 0 < s.size := h1
        have hb : s[0].toNat < 256 := s[0].toNat_lt
        have g1 := W.rowTab_get s[0].toNat hb
        have hF := Lib.hid (show W.standsAll 0 s.data.toList = (W.tab s[0].toNat == 2) by
            rw [W.stands_first s h1, hR.out, W.ok_end s, W.tab_two]; simp)
        go_wp2
        go_ret
        exact ⟨ret_bool hF.out.symm, ((Below.refl _ _).alloc (Nat.le_refl _) _).alloc (by simp) _⟩
  · rw [W.nameB_len s h]
    by_cases h0 : s.size = 0
    · have hl0 : ((s.size : Int) == 0) = true := beq_iff_eq.2 (by omega)
      go_enter Tryd.func63, Tryd.ntmps63
      go_wp2_with fail
      go_ret
      exact ⟨rfl, Below.refl _ _⟩
    · have hl0 : ((s.size : Int) == 0) = false := beq_eq_false_iff_ne.2 (by omega)
      have hl1 : (32 : Int) < (s.size : Int) := by omega
      go_enter Tryd.func63, Tryd.ntmps63
      go_wp2_with fail
      go_ret
      exact ⟨rfl, Below.refl _ _⟩
end Go.Proofs.YtohdifffdgoaaaaDoor
