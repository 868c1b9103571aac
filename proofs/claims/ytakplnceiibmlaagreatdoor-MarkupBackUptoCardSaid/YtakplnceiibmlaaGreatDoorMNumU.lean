/- The walks of the library's ParseUint at few digits of base ten or sixteen. After the shelf's walk at base ten. -/
import Derived.Test.YtakplnceiibmlaaGreatDoorMMap
import Derived.Test.YtakplnceiibmlaaGreatDoorShelfN
import Derived.Lib.ConvBytes
namespace Go.Proofs.YtakplnceiibmlaaGreatDoor
open Go.RowKit
open Go.Lib (hid)
theorem lower_bits (c : UInt8) : bits .or .u8 (c.toNat : Int) 32 = ((c.toNat ||| 32 : Nat) : Int) := by
  have hf : ∀ y : Fin 256, bits .or .u8 ((y.val : Nat) : Int) 32 = ((y.val ||| 32 : Nat) : Int) := by decide +kernel
  exact hf ⟨c.toNat, c.toNat_lt⟩
theorem lower_any (c : UInt8) (w : World) :
    Calls Tryz.prog 121 #[.int .u8 c.toNat] w fun e w' => e = .returned (.int .u8 ((c.toNat ||| 32 : Nat) : Int)) ∧ w' = w := by
  have hb := lower_bits c
  obtain ⟨L, hL⟩ : ∃ L : Nat, c.toNat ||| 32 = L := ⟨_, rfl⟩
  rw [hL] at hb ⊢
  go_enter Tryz.func121, Tryz.ntmps121
  go_wp2
  go_ret
  exact ⟨rfl, rfl⟩
namespace X
theorem dig16 (c : UInt8) (h : ¬ (48 ≤ c.toNat ∧ c.toNat ≤ 57)) : dig 16 c = if 97 ≤ c.toNat ||| 32 ∧ c.toNat ||| 32 ≤ 102 then some ((c.toNat ||| 32) - 87) else none := by
  have hf : ∀ y : Fin 256, ¬ (48 ≤ y.val ∧ y.val ≤ 57) → (if 97 ≤ y.val ∧ y.val ≤ 102 then some (y.val - 87) else if 65 ≤ y.val ∧ y.val ≤ 70 then some (y.val - 55) else none) = if 97 ≤ y.val ||| 32 ∧ y.val ||| 32 ≤ 102 then some ((y.val ||| 32) - 87) else none := by decide +kernel
  have := hf ⟨c.toNat, c.toNat_lt⟩ h
  unfold dig
  rw [if_neg h, ← this]
  simp
theorem dig10 (c : UInt8) (h : ¬ (48 ≤ c.toNat ∧ c.toNat ≤ 57)) : dig 10 c = none := by
  unfold dig
  rw [if_neg h, if_neg (by omega), if_neg (by omega)]
theorem digD (b : Nat) (c : UInt8) (h : 48 ≤ c.toNat ∧ c.toNat ≤ 57) : dig b c = some (c.toNat - 48) := by unfold dig; rw [if_pos h]
theorem numB_some {b v d : Nat} {c : UInt8} {r : List UInt8} (h : dig b c = some d) : numB b v (c :: r) = numB b (v * b + d) r := by rw [numB, h]
theorem numB_none {b v : Nat} {c : UInt8} {r : List UInt8} (h : dig b c = none) : numB b v (c :: r) = none := by rw [numB, h]
end X
/-- what the inner reader hands back -/
def uintT : Option Nat → Value
  | some x => .tuple #[.int .u64 x, .nilIface]
  | none => .tuple #[.int .u64 0, .iface 194 (.int .i64 2)]
set_option maxHeartbeats 32000000 in
set_option maxRecDepth 100000 in
theorem innerUint_16 (t : ByteArray) (h1 : 1 ≤ t.size) (h2 : t.size ≤ 6) (w : World) :
    Calls Tryz.prog 108 #[.string t, .int .i64 16, .int .i64 32] w fun e w' => e = .returned (uintT (X.numB 16 0 t.data.toList)) ∧ w' = Lib.bytesWorld w 5 t := by
  have hemp : t.toList.isEmpty = false := by
    rw [← decide_eq_emptyBytes]
    exact decide_eq_false (fun h => by rw [h] at h1; exact absurd h1 (by decide))
  have hcv := Lib.run_convert_string_bytes (P := Tryz.prog) w 9 103 5 t (u := .string) Tryz.underlying9 Tryz.underlying103 Tryz.underlying5
  have hB : ∀ j, j < t.size → (Lib.bytesWorld w 5 t).cell? ⟨w.heap.size, j, none⟩ = some (.int .u8 (t.data.toList.getD j 0).toNat) := fun j hj => Lib.bytesWorld_cell w 5 t j hj
  obtain ⟨W1, hW1⟩ : ∃ W1, W1 = Lib.bytesWorld w 5 t := ⟨_, rfl⟩
  rw [← hW1] at hcv hB ⊢
  clear hW1
  obtain ⟨bs, hL⟩ : ∃ bs, bs = t.data.toList := ⟨_, rfl⟩
  have hLn : bs.length = t.size := by rw [hL, Lib.size_eq]
  rw [← hL] at hB ⊢
  clear hL
  obtain ⟨RES, hRES⟩ : ∃ RES, X.numB 16 0 bs = RES := ⟨_, rfl⟩
  rw [hRES]
  have hmv : IntKind.u64.wrap (IntKind.u64.wrap 4294967296 - 1) = 4294967295 := by
    rw [IntKind.wrap_u64, IntKind.wrap_u64]
    decide
  go_enter Tryz.func108, Tryz.ntmps108
  go_wp2
  go_loop [12, 13, 101] (fun vu vn vi => ∃ (k acc : Nat) (a : Int), vu = .bool false ∧ vn = .int .u64 a ∧ vi = .int .i64 k ∧ k ≤ t.size ∧ Hid (a = (acc : Int) ∧ acc + 1 ≤ 16 ^ k ∧ X.numB 16 acc (bs.drop k) = RES))
    (fun _ _ vi => t.size - (intOf vi).toNat)
  case atStart => exact ⟨0, 0, 0, rfl, rfl, rfl, by omega, rfl, by simp, hRES⟩
  case round =>
    obtain ⟨k, acc, a, rfl, rfl, rfl, hk, hh⟩ := hrel
    obtain ⟨ha, hp, hd⟩ := hh.out
    clear hh
    clear hRES
    by_cases hkn : k < t.size
    · have hpk : 16 ^ k ≤ 1048576 := by
        have := Nat.pow_le_pow_right (n := 16) (by omega) (show k ≤ 5 by omega)
        exact Nat.le_trans this (by decide)
      have a0 : 0 ≤ a := by omega
      have a2 : a ≤ 1048575 := by omega
      have hc := hB k (by omega)
      have hdrop : bs.drop k = bs[k]'(by omega) :: bs.drop (k + 1) := List.drop_eq_getElem_cons (by omega)
      have hget : bs.getD k 0 = bs[k]'(by omega) := by simp [List.getD, List.getElem?_eq_getElem (show k < bs.length by omega)]
      rw [hdrop] at hd
      rw [hget] at hc
      generalize bs[k]'(by omega) = c at hc hd
      have hc256 : c.toNat < 256 := c.toNat_lt
      have hl256 : (c.toNat ||| 32) < 256 := by have := (c ||| 32).toNat_lt; rwa [UInt8.toNat_or] at this
      have cL := fun w' : World => lower_any c w'
      have hl : decide ((k : Int) < (t.size : Int)) = true := by simp; omega
      clear hB hdrop hget
      have hstep : ∀ d : Nat, d < 16 → X.dig 16 c = some d → Hid (a * 16 + (d : Int) = ((acc * 16 + d : Nat) : Int) ∧ acc * 16 + d + 1 ≤ 16 ^ (k + 1) ∧ X.numB 16 (acc * 16 + d) (bs.drop (k + 1)) = RES) := by
        intro d hd16 hv
        rw [X.numB_some hv] at hd
        exact ⟨by omega, by rw [Nat.pow_succ]; omega, hd⟩
      have hnone : X.dig 16 c = none → Hid (RES = none) := by
        intro hv
        rw [X.numB_none hv] at hd
        exact hd.symm
      clear hd ha
      by_cases hdig : 48 ≤ c.toNat ∧ c.toNat ≤ 57
      · have hv : X.dig 16 c = some (c.toNat - 48) := X.digD 16 c hdig
        have HN := hstep _ (by omega) hv
        have e0 : ((c.toNat : Int) == 95) = false := beq_eq_false_iff_ne.2 (by omega)
        have e1 : decide ((48 : Int) ≤ (c.toNat : Int)) = true := by simp; omega
        have e2 : decide ((c.toNat : Int) ≤ 57) = true := by simp; omega
        have iov : a * 16 + ((c.toNat : Int) - 48) ≤ 4294967295 := by omega
        have ez : decide (a * 16 + ((c.toNat : Int) - 48) < a * 16) = false := decide_eq_false (by omega)
        have ez1 : ¬ (a * 16 + ((c.toNat : Int) - 48) < a * 16) := by omega
        have ez2 : ¬ ((4294967295 : Int) < a * 16 + ((c.toNat : Int) - 48)) := by omega
        have ex : decide ((4294967295 : Int) < a * 16 + ((c.toNat : Int) - 48)) = false := decide_eq_false (by omega)
        have eg : decide ((16 : Int) ≤ (c.toNat : Int) - 48) = false := decide_eq_false (by omega)
        clear hv hstep hnone hp hpk
        go_wp2_with fail
        refine ⟨⟨k + 1, acc * 16 + (c.toNat - 48), a * 16 + ((c.toNat - 48 : Nat) : Int), rfl, (by first | rfl | (congr 1; omega)), (by first | rfl | (congr 1; omega)), by omega, HN⟩, by simp [intOf]; omega⟩
      · obtain ⟨L, hLL⟩ : ∃ L : Nat, c.toNat ||| 32 = L := ⟨_, rfl⟩
        have hV : X.dig 16 c = if 97 ≤ L ∧ L ≤ 102 then some (L - 87) else none := by rw [X.dig16 c hdig, hLL]
        have hu : c.toNat = 95 → ¬ (97 ≤ L ∧ L ≤ 122) := by
          intro h; rw [h] at hLL; subst hLL; decide
        rw [hLL] at hl256 cL
        clear hLL hp hpk
        have e95 : ∀ q, decide (c.toNat = 95) = q → ((c.toNat : Int) == 95) = q := by
          intro q h; rw [← h]
          by_cases h' : c.toNat = 95
          · rw [h']; rfl
          · rw [decide_eq_false h']; exact beq_eq_false_iff_ne.2 (by omega)
        have hdg : decide ((48 : Int) ≤ (c.toNat : Int)) = false ∨ (decide ((48 : Int) ≤ (c.toNat : Int)) = true ∧ decide ((c.toNat : Int) ≤ 57) = false) := by
          by_cases h : 48 ≤ c.toNat
          · right; exact ⟨by simp; omega, by simp; omega⟩
          · left; simp; omega
        by_cases hlet : 97 ≤ L ∧ L ≤ 122
        · have e0 := e95 false (decide_eq_false (fun h => hu h hlet))
          have e3 : decide ((97 : Int) ≤ (L : Int)) = true := by simp; omega
          have e4 : decide ((L : Int) ≤ 122) = true := by simp; omega
          by_cases h6 : L ≤ 102
          · have HN := hstep (L - 87) (by omega) (by rw [hV, if_pos (by omega)])
            have iov : a * 16 + ((L : Int) - 97 + 10) ≤ 4294967295 := by omega
            have eg : decide ((16 : Int) ≤ (L : Int) - 97 + 10) = false := decide_eq_false (by omega)
            obtain ⟨hlet0, -⟩ := hlet
            clear hV hu e95 hstep hnone hdig
            rcases hdg with e1 | ⟨e1, e2⟩
            all_goals
              go_wp2_with (go_at_call 121; refine (cL _).mono ?_; rintro e w' ⟨rfl, rfl⟩)
              refine ⟨⟨k + 1, acc * 16 + (L - 87), a * 16 + ((L - 87 : Nat) : Int), rfl, (by first | rfl | (congr 1; omega)), (by first | rfl | (congr 1; omega)), by omega, HN⟩, by simp [intOf]; omega⟩
          · have HN := hnone (by rw [hV, if_neg (by omega)])
            obtain ⟨hlet0, hlet1⟩ := hlet
            clear hV hu e95 hstep hnone hdig
            rcases hdg with e1 | ⟨e1, e2⟩
            all_goals
              go_wp2_with (go_at_call 121; refine (cL _).mono ?_; rintro e w' ⟨rfl, rfl⟩)
              go_ret2
              exact ⟨by rw [HN.out]; rfl, rfl⟩
        · have HN := hnone (by rw [hV, if_neg (by omega)])
          have hlt : decide ((97 : Int) ≤ (L : Int)) = false ∨ (decide ((97 : Int) ≤ (L : Int)) = true ∧ decide ((L : Int) ≤ 122) = false) := by
            by_cases h : 97 ≤ L
            · right; exact ⟨by simp; omega, by simp; omega⟩
            · left; simp; omega
          clear hV hu hstep hnone hdig hlet
          by_cases h95 : c.toNat = 95
          all_goals
            have e0 := e95 _ (by first | exact decide_eq_true h95 | exact decide_eq_false h95)
            clear e95 h95
            rcases hdg with e1 | ⟨e1, e2⟩
            all_goals
              rcases hlt with e3 | ⟨e3, e4⟩
              all_goals
                go_wp2_with (go_at_call 121; refine (cL _).mono ?_; rintro e w' ⟨rfl, rfl⟩)
                go_ret2
                exact ⟨by rw [HN.out]; rfl, rfl⟩
    · obtain rfl : k = t.size := by omega
      rw [List.drop_of_length_le (by omega)] at hd
      have hl : decide ((t.size : Int) < (t.size : Int)) = false := by simp
      have HD : Hid (RES = some acc) := hd.symm
      subst ha
      clear hd hB hp
      go_wp2_with fail
      go_ret2
      exact ⟨by rw [HD.out]; rfl, rfl⟩
set_option maxHeartbeats 32000000 in
set_option maxRecDepth 100000 in
theorem innerUint_10 (t : ByteArray) (h1 : 1 ≤ t.size) (h2 : t.size ≤ 7) (w : World) :
    Calls Tryz.prog 108 #[.string t, .int .i64 10, .int .i64 32] w fun e w' => e = .returned (uintT (X.numB 10 0 t.data.toList)) ∧ w' = Lib.bytesWorld w 5 t := by
  have hemp : t.toList.isEmpty = false := by
    rw [← decide_eq_emptyBytes]
    exact decide_eq_false (fun h => by rw [h] at h1; exact absurd h1 (by decide))
  have hcv := Lib.run_convert_string_bytes (P := Tryz.prog) w 9 103 5 t (u := .string) Tryz.underlying9 Tryz.underlying103 Tryz.underlying5
  have hB : ∀ j, j < t.size → (Lib.bytesWorld w 5 t).cell? ⟨w.heap.size, j, none⟩ = some (.int .u8 (t.data.toList.getD j 0).toNat) := fun j hj => Lib.bytesWorld_cell w 5 t j hj
  obtain ⟨W1, hW1⟩ : ∃ W1, W1 = Lib.bytesWorld w 5 t := ⟨_, rfl⟩
  rw [← hW1] at hcv hB ⊢
  clear hW1
  obtain ⟨bs, hL⟩ : ∃ bs, bs = t.data.toList := ⟨_, rfl⟩
  have hLn : bs.length = t.size := by rw [hL, Lib.size_eq]
  rw [← hL] at hB ⊢
  clear hL
  obtain ⟨RES, hRES⟩ : ∃ RES, X.numB 10 0 bs = RES := ⟨_, rfl⟩
  rw [hRES]
  have hmv : IntKind.u64.wrap (IntKind.u64.wrap 4294967296 - 1) = 4294967295 := by
    rw [IntKind.wrap_u64, IntKind.wrap_u64]
    decide
  go_enter Tryz.func108, Tryz.ntmps108
  go_wp2
  go_loop [12, 13, 101] (fun vu vn vi => ∃ (k acc : Nat) (a : Int), vu = .bool false ∧ vn = .int .u64 a ∧ vi = .int .i64 k ∧ k ≤ t.size ∧ Hid (a = (acc : Int) ∧ acc + 1 ≤ 10 ^ k ∧ X.numB 10 acc (bs.drop k) = RES))
    (fun _ _ vi => t.size - (intOf vi).toNat)
  case atStart => exact ⟨0, 0, 0, rfl, rfl, rfl, by omega, rfl, by simp, hRES⟩
  case round =>
    obtain ⟨k, acc, a, rfl, rfl, rfl, hk, hh⟩ := hrel
    obtain ⟨ha, hp, hd⟩ := hh.out
    clear hh
    clear hRES
    by_cases hkn : k < t.size
    · have hpk : 10 ^ k ≤ 1000000 := by
        have := Nat.pow_le_pow_right (n := 10) (by omega) (show k ≤ 6 by omega)
        exact Nat.le_trans this (by decide)
      have a0 : 0 ≤ a := by omega
      have a2 : a ≤ 999999 := by omega
      have hc := hB k (by omega)
      have hdrop : bs.drop k = bs[k]'(by omega) :: bs.drop (k + 1) := List.drop_eq_getElem_cons (by omega)
      have hget : bs.getD k 0 = bs[k]'(by omega) := by simp [List.getD, List.getElem?_eq_getElem (show k < bs.length by omega)]
      rw [hdrop] at hd
      rw [hget] at hc
      generalize bs[k]'(by omega) = c at hc hd
      have hc256 : c.toNat < 256 := c.toNat_lt
      have hl256 : (c.toNat ||| 32) < 256 := by have := (c ||| 32).toNat_lt; rwa [UInt8.toNat_or] at this
      have cL := fun w' : World => lower_any c w'
      have hl : decide ((k : Int) < (t.size : Int)) = true := by simp; omega
      clear hB hdrop hget
      have hstep : ∀ d : Nat, d < 10 → X.dig 10 c = some d → Hid (a * 10 + (d : Int) = ((acc * 10 + d : Nat) : Int) ∧ acc * 10 + d + 1 ≤ 10 ^ (k + 1) ∧ X.numB 10 (acc * 10 + d) (bs.drop (k + 1)) = RES) := by
        intro d hd16 hv
        rw [X.numB_some hv] at hd
        exact ⟨by omega, by rw [Nat.pow_succ]; omega, hd⟩
      have hnone : X.dig 10 c = none → Hid (RES = none) := by
        intro hv
        rw [X.numB_none hv] at hd
        exact hd.symm
      clear hd ha
      by_cases hdig : 48 ≤ c.toNat ∧ c.toNat ≤ 57
      · have hv : X.dig 10 c = some (c.toNat - 48) := X.digD 10 c hdig
        have HN := hstep _ (by omega) hv
        have e0 : ((c.toNat : Int) == 95) = false := beq_eq_false_iff_ne.2 (by omega)
        have e1 : decide ((48 : Int) ≤ (c.toNat : Int)) = true := by simp; omega
        have e2 : decide ((c.toNat : Int) ≤ 57) = true := by simp; omega
        have iov : a * 10 + ((c.toNat : Int) - 48) ≤ 4294967295 := by omega
        have ez : decide (a * 10 + ((c.toNat : Int) - 48) < a * 10) = false := decide_eq_false (by omega)
        have ez1 : ¬ (a * 10 + ((c.toNat : Int) - 48) < a * 10) := by omega
        have ez2 : ¬ ((4294967295 : Int) < a * 10 + ((c.toNat : Int) - 48)) := by omega
        have ex : decide ((4294967295 : Int) < a * 10 + ((c.toNat : Int) - 48)) = false := decide_eq_false (by omega)
        have eg : decide ((10 : Int) ≤ (c.toNat : Int) - 48) = false := decide_eq_false (by omega)
        clear hv hstep hnone hp hpk
        go_wp2_with fail
        refine ⟨⟨k + 1, acc * 10 + (c.toNat - 48), a * 10 + ((c.toNat - 48 : Nat) : Int), rfl, (by first | rfl | (congr 1; omega)), (by first | rfl | (congr 1; omega)), by omega, HN⟩, by simp [intOf]; omega⟩
      · obtain ⟨L, hLL⟩ : ∃ L : Nat, c.toNat ||| 32 = L := ⟨_, rfl⟩
        have hV : X.dig 10 c = none := X.dig10 c hdig
        have hu : c.toNat = 95 → ¬ (97 ≤ L ∧ L ≤ 122) := by
          intro h; rw [h] at hLL; subst hLL; decide
        rw [hLL] at hl256 cL
        clear hLL hp hpk
        have e95 : ∀ q, decide (c.toNat = 95) = q → ((c.toNat : Int) == 95) = q := by
          intro q h; rw [← h]
          by_cases h' : c.toNat = 95
          · rw [h']; rfl
          · rw [decide_eq_false h']; exact beq_eq_false_iff_ne.2 (by omega)
        have hdg : decide ((48 : Int) ≤ (c.toNat : Int)) = false ∨ (decide ((48 : Int) ≤ (c.toNat : Int)) = true ∧ decide ((c.toNat : Int) ≤ 57) = false) := by
          by_cases h : 48 ≤ c.toNat
          · right; exact ⟨by simp; omega, by simp; omega⟩
          · left; simp; omega
        by_cases hlet : 97 ≤ L ∧ L ≤ 122
        · have e0 := e95 false (decide_eq_false (fun h => hu h hlet))
          have e3 : decide ((97 : Int) ≤ (L : Int)) = true := by simp; omega
          have e4 : decide ((L : Int) ≤ 122) = true := by simp; omega
          have HN := hnone hV
          obtain ⟨hlet0, hlet1⟩ := hlet
          clear hV hu e95 hstep hnone hdig
          rcases hdg with e1 | ⟨e1, e2⟩
          all_goals
            go_wp2_with (go_at_call 121; refine (cL _).mono ?_; rintro e w' ⟨rfl, rfl⟩)
            go_ret2
            exact ⟨by rw [HN.out]; rfl, rfl⟩
        · have HN := hnone hV
          have hlt : decide ((97 : Int) ≤ (L : Int)) = false ∨ (decide ((97 : Int) ≤ (L : Int)) = true ∧ decide ((L : Int) ≤ 122) = false) := by
            by_cases h : 97 ≤ L
            · right; exact ⟨by simp; omega, by simp; omega⟩
            · left; simp; omega
          clear hV hu hstep hnone hdig hlet
          by_cases h95 : c.toNat = 95
          all_goals
            have e0 := e95 _ (by first | exact decide_eq_true h95 | exact decide_eq_false h95)
            clear e95 h95
            rcases hdg with e1 | ⟨e1, e2⟩
            all_goals
              rcases hlt with e3 | ⟨e3, e4⟩
              all_goals
                go_wp2_with (go_at_call 121; refine (cL _).mono ?_; rintro e w' ⟨rfl, rfl⟩)
                go_ret2
                exact ⟨by rw [HN.out]; rfl, rfl⟩
    · obtain rfl : k = t.size := by omega
      rw [List.drop_of_length_le (by omega)] at hd
      have hl : decide ((t.size : Int) < (t.size : Int)) = false := by simp
      have HD : Hid (RES = some acc) := hd.symm
      subst ha
      clear hd hB hp
      go_wp2_with fail
      go_ret2
      exact ⟨by rw [HD.out]; rfl, rfl⟩
set_option maxHeartbeats 4000000 in
set_option maxRecDepth 100000 in
theorem parseUint_16 (t : ByteArray) (h1 : 1 ≤ t.size) (h2 : t.size ≤ 6) (w : World) (hE : Errs w) :
    Calls Tryz.prog 97 #[.string t, .int .i64 16, .int .i64 32] w fun e w' =>
      (match X.numB 16 0 t.data.toList with
        | some x => e = .returned (.tuple #[.int .u64 x, .nilIface])
        | none => ∃ N, e = .returned (.tuple #[.int .u64 0, .iface 196 (.pointer (some ⟨N, 0, none⟩))])) ∧ Below w.heap.size w w' := by
  have hI := innerUint_16 t h1 h2 w
  cases hx : X.numB 16 0 t.data.toList with
  | some x =>
    rw [hx] at hI
    clear hx
    simp only [uintT] at hI
    go_enter Tryz.func97, Tryz.ntmps97
    go_wp2_with fail
    refine hI.mono ?_
    rintro e w1 ⟨rfl, rfl⟩
    go_wp2_with fail
    go_ret2
    exact ⟨rfl, Lib.bytesWorld_below _ _ _⟩
  | none =>
    rw [hx] at hI
    clear hx
    simp only [uintT] at hI
    obtain ⟨⟨t1, p1, hv1⟩, _⟩ := hE
    have hc : w.cell? ⟨3, 0, none⟩ = some (.iface t1 p1) := by
      have h0 := World.var?_cell (show Tryz.prog.globalNamed "strconv.ErrSyntax" = some 3 by kernel_rfl) hv1 0
      simpa using h0
    have hlt := Lib.lt_of_cell hc
    have hc2 : (Lib.bytesWorld w 5 t).cell? ⟨3, 0, none⟩ = some (.iface t1 p1) := ((Lib.bytesWorld_below w 5 t).cell hlt).trans hc
    have hE := Tryz.strconv_toError_syntax ⟨#[80, 97, 114, 115, 101, 85, 105, 110, 116]⟩ t 16 32 (.iface t1 p1) _ (by omega) hc2 (Or.inr ⟨_, _, rfl⟩)
    have hb0 := Lib.bytesWorld_below w 5 t
    obtain ⟨W1, hW1⟩ : ∃ W1, W1 = Lib.bytesWorld w 5 t := ⟨_, rfl⟩
    rw [← hW1] at hI hE hb0
    clear hW1 hc hc2 hv1
    go_enter Tryz.func97, Tryz.ntmps97
    go_wp2_with fail
    refine hI.mono ?_
    rintro e w1 ⟨rfl, rfl⟩
    go_wp2_with fail
    refine hE.mono ?_
    rintro e w2 ⟨N, rfl, _, _, hb⟩
    go_wp2_with fail
    go_ret2
    exact ⟨⟨N, rfl⟩, hb0.trans (hb.mono hb0.size)⟩
set_option maxHeartbeats 4000000 in
set_option maxRecDepth 100000 in
theorem parseUint_10 (t : ByteArray) (h1 : 1 ≤ t.size) (h2 : t.size ≤ 7) (w : World) (hE : Errs w) :
    Calls Tryz.prog 97 #[.string t, .int .i64 10, .int .i64 32] w fun e w' =>
      (match X.numB 10 0 t.data.toList with
        | some x => e = .returned (.tuple #[.int .u64 x, .nilIface])
        | none => ∃ N, e = .returned (.tuple #[.int .u64 0, .iface 196 (.pointer (some ⟨N, 0, none⟩))])) ∧ Below w.heap.size w w' := by
  have hI := innerUint_10 t h1 h2 w
  cases hx : X.numB 10 0 t.data.toList with
  | some x =>
    rw [hx] at hI
    clear hx
    simp only [uintT] at hI
    go_enter Tryz.func97, Tryz.ntmps97
    go_wp2_with fail
    refine hI.mono ?_
    rintro e w1 ⟨rfl, rfl⟩
    go_wp2_with fail
    go_ret2
    exact ⟨rfl, Lib.bytesWorld_below _ _ _⟩
  | none =>
    rw [hx] at hI
    clear hx
    simp only [uintT] at hI
    obtain ⟨⟨t1, p1, hv1⟩, _⟩ := hE
    have hc : w.cell? ⟨3, 0, none⟩ = some (.iface t1 p1) := by
      have h0 := World.var?_cell (show Tryz.prog.globalNamed "strconv.ErrSyntax" = some 3 by kernel_rfl) hv1 0
      simpa using h0
    have hlt := Lib.lt_of_cell hc
    have hc2 : (Lib.bytesWorld w 5 t).cell? ⟨3, 0, none⟩ = some (.iface t1 p1) := ((Lib.bytesWorld_below w 5 t).cell hlt).trans hc
    have hE := Tryz.strconv_toError_syntax ⟨#[80, 97, 114, 115, 101, 85, 105, 110, 116]⟩ t 10 32 (.iface t1 p1) _ (by omega) hc2 (Or.inr ⟨_, _, rfl⟩)
    have hb0 := Lib.bytesWorld_below w 5 t
    obtain ⟨W1, hW1⟩ : ∃ W1, W1 = Lib.bytesWorld w 5 t := ⟨_, rfl⟩
    rw [← hW1] at hI hE hb0
    clear hW1 hc hc2 hv1
    go_enter Tryz.func97, Tryz.ntmps97
    go_wp2_with fail
    refine hI.mono ?_
    rintro e w1 ⟨rfl, rfl⟩
    go_wp2_with fail
    refine hE.mono ?_
    rintro e w2 ⟨N, rfl, _, _, hb⟩
    go_wp2_with fail
    go_ret2
    exact ⟨⟨N, rfl⟩, hb0.trans (hb.mono hb0.size)⟩
end Go.Proofs.YtakplnceiibmlaaGreatDoor
