/- The walk of value.Check. Printed by a program of the prover's. -/
import Derived.Test.YtohdifffdgoaaaaDoorVCheck
import Derived.Deep.RegionLaw
namespace Go.Proofs.YtohdifffdgoaaaaDoor
open Go.RowKit
open Go.Lib (hid)

theorem tabs_held {w X : World} (hT : Tabs w) (h : Hid (Below w.heap.size w X)) : Tabs X := Utf8Tabs_below hT h.out
theorem after_held {w X w1 : World} (h : Hid (Below w.heap.size w X)) (b : Below X.heap.size X w1) : Hid (Below w.heap.size w w1) := h.out.trans (b.mono h.out.size)
theorem list_ne {s : ByteArray} (h : s.size ≠ 0) : ¬ s.toList = [] := by
  rw [Lib.toList_data]
  intro e
  exact h (show s.data.toList.length = 0 by rw [e]; rfl)

set_option maxRecDepth 100000 in
set_option maxHeartbeats 4000000 in
theorem chk1 (n : Int) (w : World) :
    Calls Tryd.prog 34 #[.agg #[.int .u8 ((1 : Nat) : Int), .int .i64 n, .bool false, .string ⟨#[]⟩]] w fun e w' => e = .returned (.int .i64 0) ∧ Below w.heap.size w w' := by
  have t1 : (((1 : Nat) : Int) == 1) = true := rfl
  have t2 : (((1 : Nat) : Int) == 2) = false := rfl
  have t3 : (((1 : Nat) : Int) == 3) = false := rfl
  have hbA : Below w.heap.size w (w.alloc (.cells #[.int .u8 ((1 : Nat) : Int), .int .i64 n, .bool false, .string ⟨#[]⟩] 23)) := (Below.refl _ w).alloc (Nat.le_refl _) _
  have HA := hid hbA
  clear hbA
  go_enter Tryd.func34, Tryd.ntmps34
  go_wp2_with fail
  first | go_region_held3 (fun w' => w'.cell? ⟨w.heap.size, 0, none⟩ = some (.int .u8 1) ∧ w'.cell? ⟨w.heap.size, 1, none⟩ = some (.int .i64 n) ∧ w'.cell? ⟨w.heap.size, 2, none⟩ = some (.bool false) ∧ w'.cell? ⟨w.heap.size, 3, none⟩ = some (.string ⟨#[]⟩) ∧ w.heap.size < w'.heap.size ∧ Hid (Below w.heap.size w w'))
    (first
      | assumption
      | exact ⟨by simp, by simp, by simp, by simp, by simp, HA.out.drew⟩
      | (go_split_ands
         refine ⟨?_, ?_, ?_, ?_, ?_, ?_⟩
         · (rw [b1.cell (p := ⟨w.heap.size, 0, none⟩) (by assumption)]; assumption)
         · (rw [b1.cell (p := ⟨w.heap.size, 1, none⟩) (by assumption)]; assumption)
         · (rw [b1.cell (p := ⟨w.heap.size, 2, none⟩) (by assumption)]; assumption)
         · (rw [b1.cell (p := ⟨w.heap.size, 3, none⟩) (by assumption)]; assumption)
         · exact Nat.lt_of_lt_of_le (by assumption) b1.size
         · exact after_held (by assumption) b1))
    (first
      | (go_at_call 42
         refine (vnumber_any _ _).mono ?_
         rintro e w1 ⟨rfl, b1⟩)) | fail
  all_goals
    go_split_ands
    have B2 := hid (Hid.out (p := Below w.heap.size w _) (by assumption))
    go_wp2_with fail
    go_ret
    exact ⟨rfl, B2.out⟩

set_option maxRecDepth 100000 in
set_option maxHeartbeats 4000000 in
theorem chk1b (n : Int) (s : ByteArray) (w : World) :
    Calls Tryd.prog 34 #[.agg #[.int .u8 ((1 : Nat) : Int), .int .i64 n, .bool true, .string s]] w fun e w' => e = .returned (.int .i64 1) ∧ Below w.heap.size w w' := by
  have t1 : (((1 : Nat) : Int) == 1) = true := rfl
  have t2 : (((1 : Nat) : Int) == 2) = false := rfl
  have t3 : (((1 : Nat) : Int) == 3) = false := rfl
  have hbA : Below w.heap.size w (w.alloc (.cells #[.int .u8 ((1 : Nat) : Int), .int .i64 n, .bool true, .string s] 23)) := (Below.refl _ w).alloc (Nat.le_refl _) _
  have HA := hid hbA
  clear hbA
  go_enter Tryd.func34, Tryd.ntmps34
  go_wp2_with fail
  first | go_region_held3 (fun w' => w'.cell? ⟨w.heap.size, 0, none⟩ = some (.int .u8 1) ∧ w'.cell? ⟨w.heap.size, 1, none⟩ = some (.int .i64 n) ∧ w'.cell? ⟨w.heap.size, 2, none⟩ = some (.bool true) ∧ w'.cell? ⟨w.heap.size, 3, none⟩ = some (.string s) ∧ w.heap.size < w'.heap.size ∧ Hid (Below w.heap.size w w'))
    (first
      | assumption
      | exact ⟨by simp, by simp, by simp, by simp, by simp, HA.out.drew⟩
      | (go_split_ands
         refine ⟨?_, ?_, ?_, ?_, ?_, ?_⟩
         · (rw [b1.cell (p := ⟨w.heap.size, 0, none⟩) (by assumption)]; assumption)
         · (rw [b1.cell (p := ⟨w.heap.size, 1, none⟩) (by assumption)]; assumption)
         · (rw [b1.cell (p := ⟨w.heap.size, 2, none⟩) (by assumption)]; assumption)
         · (rw [b1.cell (p := ⟨w.heap.size, 3, none⟩) (by assumption)]; assumption)
         · exact Nat.lt_of_lt_of_le (by assumption) b1.size
         · exact after_held (by assumption) b1))
    (first
      | (go_at_call 42
         refine (vnumber_any _ _).mono ?_
         rintro e w1 ⟨rfl, b1⟩)) | fail
  all_goals
    go_split_ands
    have B2 := hid (Hid.out (p := Below w.heap.size w _) (by assumption))
    go_wp2_with fail
    go_ret
    exact ⟨rfl, B2.out⟩

set_option maxRecDepth 100000 in
set_option maxHeartbeats 4000000 in
theorem chk1s (n : Int) (s : ByteArray) (hs : s.size ≠ 0) (w : World) :
    Calls Tryd.prog 34 #[.agg #[.int .u8 ((1 : Nat) : Int), .int .i64 n, .bool false, .string s]] w fun e w' => e = .returned (.int .i64 1) ∧ Below w.heap.size w w' := by
  have t1 : (((1 : Nat) : Int) == 1) = true := rfl
  have t2 : (((1 : Nat) : Int) == 2) = false := rfl
  have t3 : (((1 : Nat) : Int) == 3) = false := rfl
  have ht := list_ne hs
  clear hs
  have hbA : Below w.heap.size w (w.alloc (.cells #[.int .u8 ((1 : Nat) : Int), .int .i64 n, .bool false, .string s] 23)) := (Below.refl _ w).alloc (Nat.le_refl _) _
  have HA := hid hbA
  clear hbA
  go_enter Tryd.func34, Tryd.ntmps34
  go_wp2_with fail
  first | go_region_held3 (fun w' => w'.cell? ⟨w.heap.size, 0, none⟩ = some (.int .u8 1) ∧ w'.cell? ⟨w.heap.size, 1, none⟩ = some (.int .i64 n) ∧ w'.cell? ⟨w.heap.size, 2, none⟩ = some (.bool false) ∧ w'.cell? ⟨w.heap.size, 3, none⟩ = some (.string s) ∧ w.heap.size < w'.heap.size ∧ Hid (Below w.heap.size w w'))
    (first
      | assumption
      | exact ⟨by simp, by simp, by simp, by simp, by simp, HA.out.drew⟩
      | (go_split_ands
         refine ⟨?_, ?_, ?_, ?_, ?_, ?_⟩
         · (rw [b1.cell (p := ⟨w.heap.size, 0, none⟩) (by assumption)]; assumption)
         · (rw [b1.cell (p := ⟨w.heap.size, 1, none⟩) (by assumption)]; assumption)
         · (rw [b1.cell (p := ⟨w.heap.size, 2, none⟩) (by assumption)]; assumption)
         · (rw [b1.cell (p := ⟨w.heap.size, 3, none⟩) (by assumption)]; assumption)
         · exact Nat.lt_of_lt_of_le (by assumption) b1.size
         · exact after_held (by assumption) b1))
    (first
      | (go_at_call 42
         refine (vnumber_any _ _).mono ?_
         rintro e w1 ⟨rfl, b1⟩)) | fail
  all_goals
    go_split_ands
    have B2 := hid (Hid.out (p := Below w.heap.size w _) (by assumption))
    go_wp2_with fail
    go_ret
    exact ⟨rfl, B2.out⟩

set_option maxRecDepth 100000 in
set_option maxHeartbeats 4000000 in
theorem chk2 (b : Bool) (w : World) :
    Calls Tryd.prog 34 #[.agg #[.int .u8 ((2 : Nat) : Int), .int .i64 0, .bool b, .string ⟨#[]⟩]] w fun e w' => e = .returned (.int .i64 0) ∧ Below w.heap.size w w' := by
  have t1 : (((2 : Nat) : Int) == 1) = false := rfl
  have t2 : (((2 : Nat) : Int) == 2) = true := rfl
  have t3 : (((2 : Nat) : Int) == 3) = false := rfl
  have hbA : Below w.heap.size w (w.alloc (.cells #[.int .u8 ((2 : Nat) : Int), .int .i64 0, .bool b, .string ⟨#[]⟩] 23)) := (Below.refl _ w).alloc (Nat.le_refl _) _
  have HA := hid hbA
  clear hbA
  go_enter Tryd.func34, Tryd.ntmps34
  go_wp2_with fail
  first | go_region_held3 (fun w' => w'.cell? ⟨w.heap.size, 0, none⟩ = some (.int .u8 2) ∧ w'.cell? ⟨w.heap.size, 1, none⟩ = some (.int .i64 0) ∧ w'.cell? ⟨w.heap.size, 2, none⟩ = some (.bool b) ∧ w'.cell? ⟨w.heap.size, 3, none⟩ = some (.string ⟨#[]⟩) ∧ w.heap.size < w'.heap.size ∧ Hid (Below w.heap.size w w'))
    (first
      | assumption
      | exact ⟨by simp, by simp, by simp, by simp, by simp, HA.out.drew⟩
      | (go_split_ands
         refine ⟨?_, ?_, ?_, ?_, ?_, ?_⟩
         · (rw [b1.cell (p := ⟨w.heap.size, 0, none⟩) (by assumption)]; assumption)
         · (rw [b1.cell (p := ⟨w.heap.size, 1, none⟩) (by assumption)]; assumption)
         · (rw [b1.cell (p := ⟨w.heap.size, 2, none⟩) (by assumption)]; assumption)
         · (rw [b1.cell (p := ⟨w.heap.size, 3, none⟩) (by assumption)]; assumption)
         · exact Nat.lt_of_lt_of_le (by assumption) b1.size
         · exact after_held (by assumption) b1))
    (first
      | (go_at_call 45
         refine (truth_any _ _).mono ?_
         rintro e w1 ⟨rfl, b1⟩)) | fail
  all_goals
    go_split_ands
    have B2 := hid (Hid.out (p := Below w.heap.size w _) (by assumption))
    go_wp2_with fail
    go_ret
    exact ⟨rfl, B2.out⟩

set_option maxRecDepth 100000 in
set_option maxHeartbeats 4000000 in
theorem chk2n (n : Int) (b : Bool) (s : ByteArray) (hn : ¬ n = 0) (w : World) :
    Calls Tryd.prog 34 #[.agg #[.int .u8 ((2 : Nat) : Int), .int .i64 n, .bool b, .string s]] w fun e w' => e = .returned (.int .i64 1) ∧ Below w.heap.size w w' := by
  have t1 : (((2 : Nat) : Int) == 1) = false := rfl
  have t2 : (((2 : Nat) : Int) == 2) = true := rfl
  have t3 : (((2 : Nat) : Int) == 3) = false := rfl
  have hbA : Below w.heap.size w (w.alloc (.cells #[.int .u8 ((2 : Nat) : Int), .int .i64 n, .bool b, .string s] 23)) := (Below.refl _ w).alloc (Nat.le_refl _) _
  have HA := hid hbA
  clear hbA
  go_enter Tryd.func34, Tryd.ntmps34
  go_wp2_with fail
  first | go_region_held3 (fun w' => w'.cell? ⟨w.heap.size, 0, none⟩ = some (.int .u8 2) ∧ w'.cell? ⟨w.heap.size, 1, none⟩ = some (.int .i64 n) ∧ w'.cell? ⟨w.heap.size, 2, none⟩ = some (.bool b) ∧ w'.cell? ⟨w.heap.size, 3, none⟩ = some (.string s) ∧ w.heap.size < w'.heap.size ∧ Hid (Below w.heap.size w w'))
    (first
      | assumption
      | exact ⟨by simp, by simp, by simp, by simp, by simp, HA.out.drew⟩
      | (go_split_ands
         refine ⟨?_, ?_, ?_, ?_, ?_, ?_⟩
         · (rw [b1.cell (p := ⟨w.heap.size, 0, none⟩) (by assumption)]; assumption)
         · (rw [b1.cell (p := ⟨w.heap.size, 1, none⟩) (by assumption)]; assumption)
         · (rw [b1.cell (p := ⟨w.heap.size, 2, none⟩) (by assumption)]; assumption)
         · (rw [b1.cell (p := ⟨w.heap.size, 3, none⟩) (by assumption)]; assumption)
         · exact Nat.lt_of_lt_of_le (by assumption) b1.size
         · exact after_held (by assumption) b1))
    (first
      | (go_at_call 45
         refine (truth_any _ _).mono ?_
         rintro e w1 ⟨rfl, b1⟩)) | fail
  all_goals
    go_split_ands
    have B2 := hid (Hid.out (p := Below w.heap.size w _) (by assumption))
    go_wp2_with fail
    go_ret
    exact ⟨rfl, B2.out⟩

set_option maxRecDepth 100000 in
set_option maxHeartbeats 4000000 in
theorem chk2s (b : Bool) (s : ByteArray) (hs : s.size ≠ 0) (w : World) :
    Calls Tryd.prog 34 #[.agg #[.int .u8 ((2 : Nat) : Int), .int .i64 0, .bool b, .string s]] w fun e w' => e = .returned (.int .i64 1) ∧ Below w.heap.size w w' := by
  have t1 : (((2 : Nat) : Int) == 1) = false := rfl
  have t2 : (((2 : Nat) : Int) == 2) = true := rfl
  have t3 : (((2 : Nat) : Int) == 3) = false := rfl
  have ht := list_ne hs
  clear hs
  have hbA : Below w.heap.size w (w.alloc (.cells #[.int .u8 ((2 : Nat) : Int), .int .i64 0, .bool b, .string s] 23)) := (Below.refl _ w).alloc (Nat.le_refl _) _
  have HA := hid hbA
  clear hbA
  go_enter Tryd.func34, Tryd.ntmps34
  go_wp2_with fail
  first | go_region_held3 (fun w' => w'.cell? ⟨w.heap.size, 0, none⟩ = some (.int .u8 2) ∧ w'.cell? ⟨w.heap.size, 1, none⟩ = some (.int .i64 0) ∧ w'.cell? ⟨w.heap.size, 2, none⟩ = some (.bool b) ∧ w'.cell? ⟨w.heap.size, 3, none⟩ = some (.string s) ∧ w.heap.size < w'.heap.size ∧ Hid (Below w.heap.size w w'))
    (first
      | assumption
      | exact ⟨by simp, by simp, by simp, by simp, by simp, HA.out.drew⟩
      | (go_split_ands
         refine ⟨?_, ?_, ?_, ?_, ?_, ?_⟩
         · (rw [b1.cell (p := ⟨w.heap.size, 0, none⟩) (by assumption)]; assumption)
         · (rw [b1.cell (p := ⟨w.heap.size, 1, none⟩) (by assumption)]; assumption)
         · (rw [b1.cell (p := ⟨w.heap.size, 2, none⟩) (by assumption)]; assumption)
         · (rw [b1.cell (p := ⟨w.heap.size, 3, none⟩) (by assumption)]; assumption)
         · exact Nat.lt_of_lt_of_le (by assumption) b1.size
         · exact after_held (by assumption) b1))
    (first
      | (go_at_call 45
         refine (truth_any _ _).mono ?_
         rintro e w1 ⟨rfl, b1⟩)) | fail
  all_goals
    go_split_ands
    have B2 := hid (Hid.out (p := Below w.heap.size w _) (by assumption))
    go_wp2_with fail
    go_ret
    exact ⟨rfl, B2.out⟩

set_option maxRecDepth 100000 in
set_option maxHeartbeats 4000000 in
theorem chk3t (s : ByteArray) (hl : s.size ≤ 1024) (hv : Lib.validD s.data.toList = true) (w : World) (hT : Tabs w) :
    Calls Tryd.prog 34 #[.agg #[.int .u8 ((3 : Nat) : Int), .int .i64 0, .bool false, .string s]] w fun e w' => e = .returned (.int .i64 0) ∧ Below w.heap.size w w' := by
  have t1 : (((3 : Nat) : Int) == 1) = false := rfl
  have t2 : (((3 : Nat) : Int) == 2) = false := rfl
  have t3 : (((3 : Nat) : Int) == 3) = true := rfl
  have l0 : decide ((s.size : Int) ≤ 1024) = true := by simp; omega
  have cU := fun X hX => utf8_any s X (by omega) hX
  rw [hv] at cU
  clear hv
  have hbA : Below w.heap.size w (w.alloc (.cells #[.int .u8 ((3 : Nat) : Int), .int .i64 0, .bool false, .string s] 23)) := (Below.refl _ w).alloc (Nat.le_refl _) _
  have HA := hid hbA
  clear hbA
  go_enter Tryd.func34, Tryd.ntmps34
  go_wp2_with fail
  first | go_region_held3 (fun w' => w'.cell? ⟨w.heap.size, 0, none⟩ = some (.int .u8 3) ∧ w'.cell? ⟨w.heap.size, 1, none⟩ = some (.int .i64 0) ∧ w'.cell? ⟨w.heap.size, 2, none⟩ = some (.bool false) ∧ w'.cell? ⟨w.heap.size, 3, none⟩ = some (.string s) ∧ w.heap.size < w'.heap.size ∧ Hid (Below w.heap.size w w'))
    (first
      | assumption
      | exact ⟨by simp, by simp, by simp, by simp, by simp, HA.out.drew⟩
      | (go_split_ands
         refine ⟨?_, ?_, ?_, ?_, ?_, ?_⟩
         · (rw [b1.cell (p := ⟨w.heap.size, 0, none⟩) (by assumption)]; assumption)
         · (rw [b1.cell (p := ⟨w.heap.size, 1, none⟩) (by assumption)]; assumption)
         · (rw [b1.cell (p := ⟨w.heap.size, 2, none⟩) (by assumption)]; assumption)
         · (rw [b1.cell (p := ⟨w.heap.size, 3, none⟩) (by assumption)]; assumption)
         · exact Nat.lt_of_lt_of_le (by assumption) b1.size
         · exact after_held (by assumption) b1))
    (first
      | (go_at_call 44
         refine (words_any _ _).mono ?_
         rintro e w1 ⟨rfl, b1⟩)
      | (go_at_call 70
         go_split_ands
         refine (cU _ (tabs_held hT (by assumption))).mono ?_
         rintro e w1 ⟨rfl, b1⟩)) | fail
  all_goals
    go_split_ands
    have B2 := hid (Hid.out (p := Below w.heap.size w _) (by assumption))
    go_wp2_with fail
    go_ret
    exact ⟨rfl, B2.out⟩

set_option maxRecDepth 100000 in
set_option maxHeartbeats 4000000 in
theorem chk3f (s : ByteArray) (hl : s.size ≤ 1024) (hv : Lib.validD s.data.toList = false) (w : World) (hT : Tabs w) :
    Calls Tryd.prog 34 #[.agg #[.int .u8 ((3 : Nat) : Int), .int .i64 0, .bool false, .string s]] w fun e w' => e = .returned (.int .i64 1) ∧ Below w.heap.size w w' := by
  have t1 : (((3 : Nat) : Int) == 1) = false := rfl
  have t2 : (((3 : Nat) : Int) == 2) = false := rfl
  have t3 : (((3 : Nat) : Int) == 3) = true := rfl
  have l0 : decide ((s.size : Int) ≤ 1024) = true := by simp; omega
  have cU := fun X hX => utf8_any s X (by omega) hX
  rw [hv] at cU
  clear hv
  have hbA : Below w.heap.size w (w.alloc (.cells #[.int .u8 ((3 : Nat) : Int), .int .i64 0, .bool false, .string s] 23)) := (Below.refl _ w).alloc (Nat.le_refl _) _
  have HA := hid hbA
  clear hbA
  go_enter Tryd.func34, Tryd.ntmps34
  go_wp2_with fail
  first | go_region_held3 (fun w' => w'.cell? ⟨w.heap.size, 0, none⟩ = some (.int .u8 3) ∧ w'.cell? ⟨w.heap.size, 1, none⟩ = some (.int .i64 0) ∧ w'.cell? ⟨w.heap.size, 2, none⟩ = some (.bool false) ∧ w'.cell? ⟨w.heap.size, 3, none⟩ = some (.string s) ∧ w.heap.size < w'.heap.size ∧ Hid (Below w.heap.size w w'))
    (first
      | assumption
      | exact ⟨by simp, by simp, by simp, by simp, by simp, HA.out.drew⟩
      | (go_split_ands
         refine ⟨?_, ?_, ?_, ?_, ?_, ?_⟩
         · (rw [b1.cell (p := ⟨w.heap.size, 0, none⟩) (by assumption)]; assumption)
         · (rw [b1.cell (p := ⟨w.heap.size, 1, none⟩) (by assumption)]; assumption)
         · (rw [b1.cell (p := ⟨w.heap.size, 2, none⟩) (by assumption)]; assumption)
         · (rw [b1.cell (p := ⟨w.heap.size, 3, none⟩) (by assumption)]; assumption)
         · exact Nat.lt_of_lt_of_le (by assumption) b1.size
         · exact after_held (by assumption) b1))
    (first
      | (go_at_call 44
         refine (words_any _ _).mono ?_
         rintro e w1 ⟨rfl, b1⟩)
      | (go_at_call 70
         go_split_ands
         refine (cU _ (tabs_held hT (by assumption))).mono ?_
         rintro e w1 ⟨rfl, b1⟩)) | fail
  all_goals
    go_split_ands
    have B2 := hid (Hid.out (p := Below w.heap.size w _) (by assumption))
    go_wp2_with fail
    go_ret
    exact ⟨rfl, B2.out⟩

set_option maxRecDepth 100000 in
set_option maxHeartbeats 4000000 in
theorem chk3nt (n : Int) (s : ByteArray) (w : World) :
    Calls Tryd.prog 34 #[.agg #[.int .u8 ((3 : Nat) : Int), .int .i64 n, .bool true, .string s]] w fun e w' => e = .returned (.int .i64 1) ∧ Below w.heap.size w w' := by
  have t1 : (((3 : Nat) : Int) == 1) = false := rfl
  have t2 : (((3 : Nat) : Int) == 2) = false := rfl
  have t3 : (((3 : Nat) : Int) == 3) = true := rfl
  have hbA : Below w.heap.size w (w.alloc (.cells #[.int .u8 ((3 : Nat) : Int), .int .i64 n, .bool true, .string s] 23)) := (Below.refl _ w).alloc (Nat.le_refl _) _
  have HA := hid hbA
  clear hbA
  go_enter Tryd.func34, Tryd.ntmps34
  go_wp2_with fail
  first | go_region_with (
    go_at_call 44
    refine (words_any _ _).mono ?_
    rintro e w1 ⟨rfl, b1⟩
    have c1 := fun o => b1.cell (p := ⟨w.heap.size, o, none⟩) (by show _ < (World.alloc _ _).heap.size; simp)
    have B1 := hid ((HA.out.drew).trans (b1.mono HA.out.size))
    clear b1) | fail
  all_goals
    go_wp2_with fail
    go_ret
    exact ⟨rfl, B1.out⟩

set_option maxRecDepth 100000 in
set_option maxHeartbeats 4000000 in
theorem chk3nf (n : Int) (s : ByteArray) (hn : ¬ n = 0) (w : World) :
    Calls Tryd.prog 34 #[.agg #[.int .u8 ((3 : Nat) : Int), .int .i64 n, .bool false, .string s]] w fun e w' => e = .returned (.int .i64 1) ∧ Below w.heap.size w w' := by
  have t1 : (((3 : Nat) : Int) == 1) = false := rfl
  have t2 : (((3 : Nat) : Int) == 2) = false := rfl
  have t3 : (((3 : Nat) : Int) == 3) = true := rfl
  have hbA : Below w.heap.size w (w.alloc (.cells #[.int .u8 ((3 : Nat) : Int), .int .i64 n, .bool false, .string s] 23)) := (Below.refl _ w).alloc (Nat.le_refl _) _
  have HA := hid hbA
  clear hbA
  go_enter Tryd.func34, Tryd.ntmps34
  go_wp2_with fail
  first | go_region_with (
    go_at_call 44
    refine (words_any _ _).mono ?_
    rintro e w1 ⟨rfl, b1⟩
    have c1 := fun o => b1.cell (p := ⟨w.heap.size, o, none⟩) (by show _ < (World.alloc _ _).heap.size; simp)
    have B1 := hid ((HA.out.drew).trans (b1.mono HA.out.size))
    clear b1) | fail
  all_goals
    go_wp2_with fail
    go_ret
    exact ⟨rfl, B1.out⟩

set_option maxRecDepth 100000 in
set_option maxHeartbeats 4000000 in
theorem chk3b (s : ByteArray) (w : World) :
    Calls Tryd.prog 34 #[.agg #[.int .u8 ((3 : Nat) : Int), .int .i64 0, .bool true, .string s]] w fun e w' => e = .returned (.int .i64 1) ∧ Below w.heap.size w w' := by
  have t1 : (((3 : Nat) : Int) == 1) = false := rfl
  have t2 : (((3 : Nat) : Int) == 2) = false := rfl
  have t3 : (((3 : Nat) : Int) == 3) = true := rfl
  have hbA : Below w.heap.size w (w.alloc (.cells #[.int .u8 ((3 : Nat) : Int), .int .i64 0, .bool true, .string s] 23)) := (Below.refl _ w).alloc (Nat.le_refl _) _
  have HA := hid hbA
  clear hbA
  go_enter Tryd.func34, Tryd.ntmps34
  go_wp2_with fail
  first | go_region_with (
    go_at_call 44
    refine (words_any _ _).mono ?_
    rintro e w1 ⟨rfl, b1⟩
    have c1 := fun o => b1.cell (p := ⟨w.heap.size, o, none⟩) (by show _ < (World.alloc _ _).heap.size; simp)
    have B1 := hid ((HA.out.drew).trans (b1.mono HA.out.size))
    clear b1) | fail
  all_goals
    go_wp2_with fail
    go_ret
    exact ⟨rfl, B1.out⟩

set_option maxRecDepth 100000 in
set_option maxHeartbeats 4000000 in
theorem chk3l (s : ByteArray) (hl : 1024 < s.size) (w : World) :
    Calls Tryd.prog 34 #[.agg #[.int .u8 ((3 : Nat) : Int), .int .i64 0, .bool false, .string s]] w fun e w' => e = .returned (.int .i64 1) ∧ Below w.heap.size w w' := by
  have t1 : (((3 : Nat) : Int) == 1) = false := rfl
  have t2 : (((3 : Nat) : Int) == 2) = false := rfl
  have t3 : (((3 : Nat) : Int) == 3) = true := rfl
  have l0 : decide ((s.size : Int) ≤ 1024) = false := by simp; omega
  have hbA : Below w.heap.size w (w.alloc (.cells #[.int .u8 ((3 : Nat) : Int), .int .i64 0, .bool false, .string s] 23)) := (Below.refl _ w).alloc (Nat.le_refl _) _
  have HA := hid hbA
  clear hbA
  go_enter Tryd.func34, Tryd.ntmps34
  go_wp2_with fail
  first | go_region_with (
    go_at_call 44
    refine (words_any _ _).mono ?_
    rintro e w1 ⟨rfl, b1⟩
    have c1 := fun o => b1.cell (p := ⟨w.heap.size, o, none⟩) (by show _ < (World.alloc _ _).heap.size; simp)
    have B1 := hid ((HA.out.drew).trans (b1.mono HA.out.size))
    clear b1) | fail
  all_goals
    go_wp2_with fail
    go_ret
    exact ⟨rfl, B1.out⟩

set_option maxRecDepth 100000 in
set_option maxHeartbeats 4000000 in
theorem chk0 (k : Nat) (n : Int) (b : Bool) (s : ByteArray) (w : World) (h1 : k ≠ 1) (h2 : k ≠ 2) (h3 : k ≠ 3) :
    Calls Tryd.prog 34 #[.agg #[.int .u8 k, .int .i64 n, .bool b, .string s]] w fun e w' => e = .returned (.int .i64 1) ∧ Below w.heap.size w w' := by
  have t1 : ((k : Int) == 1) = false := beq_eq_false_iff_ne.2 (by omega)
  have t2 : ((k : Int) == 2) = false := beq_eq_false_iff_ne.2 (by omega)
  have t3 : ((k : Int) == 3) = false := beq_eq_false_iff_ne.2 (by omega)
  clear h1 h2 h3
  go_enter Tryd.func34, Tryd.ntmps34
  go_wp2_with fail
  go_ret
  exact ⟨rfl, (Below.refl _ w).alloc (Nat.le_refl _) _⟩

theorem check_any (k : Nat) (n : Int) (b : Bool) (s : ByteArray) (w : World) (hT : Tabs w) :
    Calls Tryd.prog 34 #[.agg #[.int .u8 k, .int .i64 n, .bool b, .string s]] w fun e w' => e = .returned (.int .i64 (V.okE ⟨k, n, b, s⟩)) ∧ Below w.heap.size w w' := by
  by_cases k1 : k = 1
  · subst k1
    cases b
    · by_cases hs : s.size = 0
      · obtain rfl := nil_of_size hs
        exact chk1 n w
      · rw [show V.okE ⟨1, n, false, s⟩ = 1 by simp [V.okE, V.ok, hs]]
        exact chk1s n s hs w
    · rw [show V.okE ⟨1, n, true, s⟩ = 1 by simp [V.okE, V.ok]]
      exact chk1b n s w
  · by_cases k2 : k = 2
    · subst k2
      by_cases n0 : n = 0
      · subst n0
        by_cases hs : s.size = 0
        · obtain rfl := nil_of_size hs
          exact chk2 b w
        · rw [show V.okE ⟨2, 0, b, s⟩ = 1 by simp [V.okE, V.ok, hs]]
          exact chk2s b s hs w
      · rw [show V.okE ⟨2, n, b, s⟩ = 1 by simp [V.okE, V.ok, n0]]
        exact chk2n n b s n0 w
    · by_cases k3 : k = 3
      · subst k3
        by_cases n0 : n = 0
        · subst n0
          cases b
          · by_cases hl : s.size ≤ 1024
            · cases hv : Lib.validD s.data.toList
              · rw [show V.okE ⟨3, 0, false, s⟩ = 1 by simp [V.okE, V.ok, hl, hv]]
                exact chk3f s hl hv w hT
              · rw [show V.okE ⟨3, 0, false, s⟩ = 0 by simp [V.okE, V.ok, hl, hv]]
                exact chk3t s hl hv w hT
            · rw [show V.okE ⟨3, 0, false, s⟩ = 1 by simp [V.okE, V.ok, hl]]
              exact chk3l s (by omega) w
          · rw [show V.okE ⟨3, 0, true, s⟩ = 1 by simp [V.okE, V.ok]]
            exact chk3b s w
        · rw [show V.okE ⟨3, n, b, s⟩ = 1 by simp [V.okE, V.ok, n0]]
          cases b
          · exact chk3nf n s n0 w
          · exact chk3nt n s w
      · rw [show V.okE ⟨k, n, b, s⟩ = 1 by simp [V.okE, V.ok, k1, k2, k3]]
        exact chk0 k n b s w k1 k2 k3
end Go.Proofs.YtohdifffdgoaaaaDoor
