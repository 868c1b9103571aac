/- Numbers and references. -/
import Derived.Test.YteejphiklpnjhaaGreatDoorMJ3
import Derived.Test.YteejphiklpnjhaaGreatDoorShelfN
import Derived.Lib.ConvBytes
import Derived.Test.YteejphiklpnjhaaGreatDoorShelfI
import Derived.Laws.RangeAny
import Derived.Lib.OthersKept
import Derived.Lib.IndexLaws
import Derived.Deep.QuietTactic
import Derived.BigQuiet
import Derived.Deep.LoopGhost
import Derived.WalkMore
import Derived.Test.YteejphiklpnjhaaGreatDoorMJ1
import Derived.Test.YteejphiklpnjhaaGreatDoorShelf
import Derived.Lib.MinMax
import Derived.OwnWalk
namespace Go.Proofs.YteejphiklpnjhaaGreatDoor
set_option maxRecDepth 100000
set_option maxHeartbeats 16000000
open Go.RowKit
open Go.Lib (hid)
theorem lower_bits (c : UInt8) : bits .or .u8 (c.toNat : Int) 32 = ((c.toNat ||| 32 : Nat) : Int) := by
 have hf : ∀ y : Fin 256, bits .or .u8 ((y.val : Nat) : Int) 32 = ((y.val ||| 32 : Nat) : Int) := by decide +kernel
 exact hf ⟨c.toNat, c.toNat_lt⟩
theorem lower_any (c : UInt8) (w : World) :
  Calls Tryz.prog 148 #[.int .u8 c.toNat] w fun e w' => e = .returned (.int .u8 ((c.toNat ||| 32 : Nat) : Int)) ∧ w' = w := by
 have hb := lower_bits c
 obtain ⟨L, hL⟩ : ∃ L : Nat, c.toNat ||| 32 = L := ⟨_, rfl⟩
 rw [hL] at hb ⊢
 go_enter Tryz.func148, Tryz.ntmps148
 go_wp2
 go_ret
 exact ⟨rfl, rfl⟩
namespace X
theorem dig16 (c : UInt8) (h : ¬ (48 ≤ c.toNat ∧ c.toNat ≤ 57)) : dig 16 c = if 97 ≤ c.toNat ||| 32 ∧ c.toNat ||| 32 ≤ 102 then some ((c.toNat ||| 32) - 87) else none := by
 have hf : ∀ y : Fin 256, ¬ (48 ≤ y.val ∧ y.val ≤ 57) → (if 97 ≤ y.val ∧ y.val ≤ 102 then some (y.val - 87) else if 65 ≤ y.val ∧ y.val ≤ 70 then some (y.val - 55) else none) = if 97 ≤ y.val ||| 32 ∧ y.val ||| 32 ≤ 102 then some ((y.val ||| 32) - 87) else none := by decide +kernel
 have := hf ⟨c.toNat, c.toNat_lt⟩ h
 unfold dig
 rw [if_neg h, ← this]
 simp
theorem dig10 (c : UInt8) (h : ¬ (48 ≤ c.toNat ∧ c.toNat ≤ 57)) : dig 10 c = none := by
 unfold dig
 rw [if_neg h, if_neg (by omega), if_neg (by omega)]
theorem digD (b : Nat) (c : UInt8) (h : 48 ≤ c.toNat ∧ c.toNat ≤ 57) : dig b c = some (c.toNat - 48) := by unfold dig; rw [if_pos h]
theorem numB_some {b v d : Nat} {c : UInt8} {r : List UInt8} (h : dig b c = some d) : numB b v (c :: r) = numB b (v * b + d) r := by rw [numB, h]
theorem numB_none {b v : Nat} {c : UInt8} {r : List UInt8} (h : dig b c = none) : numB b v (c :: r) = none := by rw [numB, h]
end X
def uintT : Option Nat → Value
 | some x => .tuple #[.int .u64 x, .nilIface]
 | none => .tuple #[.int .u64 0, .iface 212 (.int .i64 2)]
theorem innerUint_16 (t : ByteArray) (h1 : 1 ≤ t.size) (h2 : t.size ≤ 6) (w : World) :
  Calls Tryz.prog 131 #[.string t, .int .i64 16, .int .i64 32] w fun e w' => e = .returned (uintT (X.numB 16 0 t.data.toList)) ∧ w' = Lib.bytesWorld w 5 t := by
 have hemp : t.toList.isEmpty = false := by
  rw [← decide_eq_emptyBytes]
  exact decide_eq_false (fun h => by rw [h] at h1; exact absurd h1 (by decide))
 have hcv := Lib.run_convert_string_bytes (P := Tryz.prog) w 9 128 5 t (u := .string) Tryz.underlying9 Tryz.underlying128 Tryz.underlying5
 have hB : ∀ j, j < t.size → (Lib.bytesWorld w 5 t).cell? ⟨w.heap.size, j, none⟩ = some (.int .u8 (t.data.toList.getD j 0).toNat) := fun j hj => Lib.bytesWorld_cell w 5 t j hj
 obtain ⟨W1, hW1⟩ : ∃ W1, W1 = Lib.bytesWorld w 5 t := ⟨_, rfl⟩
 rw [← hW1] at hcv hB ⊢
 clear hW1
 obtain ⟨bs, hL⟩ : ∃ bs, bs = t.data.toList := ⟨_, rfl⟩
 have hLn : bs.length = t.size := by rw [hL, Lib.size_eq]
 rw [← hL] at hB ⊢
 clear hL
 obtain ⟨RES, hRES⟩ : ∃ RES, X.numB 16 0 bs = RES := ⟨_, rfl⟩
 rw [hRES]
 have hmv : IntKind.u64.wrap (IntKind.u64.wrap 4294967296 - 1) = 4294967295 := by
  rw [IntKind.wrap_u64, IntKind.wrap_u64]
  decide
 go_enter Tryz.func131, Tryz.ntmps131
 go_wp2
 go_loop [12, 13, 101] (fun vu vn vi => ∃ (k acc : Nat) (a : Int), vu = .bool false ∧ vn = .int .u64 a ∧ vi = .int .i64 k ∧ k ≤ t.size ∧ Hid (a = (acc : Int) ∧ acc + 1 ≤ 16 ^ k ∧ X.numB 16 acc (bs.drop k) = RES))
  (fun _ _ vi => t.size - (intOf vi).toNat)
 case atStart => exact ⟨0, 0, 0, rfl, rfl, rfl, by omega, rfl, by simp, hRES⟩
 case round =>
  obtain ⟨k, acc, a, rfl, rfl, rfl, hk, hh⟩ := hrel
  obtain ⟨ha, hp, hd⟩ := hh.out
  clear hh
  clear hRES
  by_cases hkn : k < t.size
  · have hpk : 16 ^ k ≤ 1048576 := by
      have := Nat.pow_le_pow_right (n := 16) (by omega) (show k ≤ 5 by omega)
      exact Nat.le_trans this (by decide)
    have a0 : 0 ≤ a := by omega
    have a2 : a ≤ 1048575 := by omega
    have hc := hB k (by omega)
    have hdrop : bs.drop k = bs[k]'(by omega) :: bs.drop (k + 1) := List.drop_eq_getElem_cons (by omega)
    have hget : bs.getD k 0 = bs[k]'(by omega) := by simp [List.getD, List.getElem?_eq_getElem (show k < bs.length by omega)]
    rw [hdrop] at hd
    rw [hget] at hc
    generalize bs[k]'(by omega) = c at hc hd
    have hc256 : c.toNat < 256 := c.toNat_lt
    have hl256 : (c.toNat ||| 32) < 256 := by have := (c ||| 32).toNat_lt; rwa [UInt8.toNat_or] at this
    have cL := fun w' : World => lower_any c w'
    have hl : decide ((k : Int) < (t.size : Int)) = true := by simp; omega
    clear hB hdrop hget
    have hstep : ∀ d : Nat, d < 16 → X.dig 16 c = some d → Hid (a * 16 + (d : Int) = ((acc * 16 + d : Nat) : Int) ∧ acc * 16 + d + 1 ≤ 16 ^ (k + 1) ∧ X.numB 16 (acc * 16 + d) (bs.drop (k + 1)) = RES) := by
      intro d hd16 hv
      rw [X.numB_some hv] at hd
      exact ⟨by omega, by rw [Nat.pow_succ]; omega, hd⟩
    have hnone : X.dig 16 c = none → Hid (RES = none) := by
      intro hv
      rw [X.numB_none hv] at hd
      exact hd.symm
    clear hd ha
    by_cases hdig : 48 ≤ c.toNat ∧ c.toNat ≤ 57
    · have hv : X.dig 16 c = some (c.toNat - 48) := X.digD 16 c hdig
      have HN := hstep _ (by omega) hv
      have e0 : ((c.toNat : Int) == 95) = false := beq_eq_false_iff_ne.2 (by omega)
      have e1 : decide ((48 : Int) ≤ (c.toNat : Int)) = true := by simp; omega
      have e2 : decide ((c.toNat : Int) ≤ 57) = true := by simp; omega
      have iov : a * 16 + ((c.toNat : Int) - 48) ≤ 4294967295 := by omega
      have ez : decide (a * 16 + ((c.toNat : Int) - 48) < a * 16) = false := decide_eq_false (by omega)
      have ez1 : ¬ (a * 16 + ((c.toNat : Int) - 48) < a * 16) := by omega
      have ez2 : ¬ ((4294967295 : Int) < a * 16 + ((c.toNat : Int) - 48)) := by omega
      have ex : decide ((4294967295 : Int) < a * 16 + ((c.toNat : Int) - 48)) = false := decide_eq_false (by omega)
      have eg : decide ((16 : Int) ≤ (c.toNat : Int) - 48) = false := decide_eq_false (by omega)
      clear hv hstep hnone hp hpk
      go_wp2_with fail
      refine ⟨⟨k + 1, acc * 16 + (c.toNat - 48), a * 16 + ((c.toNat - 48 : Nat) : Int), rfl, (by first | rfl | (congr 1; omega)), (by first | rfl | (congr 1; omega)), by omega, HN⟩, by simp [intOf]; omega⟩
    · obtain ⟨L, hLL⟩ : ∃ L : Nat, c.toNat ||| 32 = L := ⟨_, rfl⟩
      have hV : X.dig 16 c = if 97 ≤ L ∧ L ≤ 102 then some (L - 87) else none := by rw [X.dig16 c hdig, hLL]
      have hu : c.toNat = 95 → ¬ (97 ≤ L ∧ L ≤ 122) := by
        intro h; rw [h] at hLL; subst hLL; decide
      rw [hLL] at hl256 cL
      clear hLL hp hpk
      have e95 : ∀ q, decide (c.toNat = 95) = q → ((c.toNat : Int) == 95) = q := by
        intro q h; rw [← h]
        by_cases h' : c.toNat = 95
        · rw [h']; rfl
        · rw [decide_eq_false h']; exact beq_eq_false_iff_ne.2 (by omega)
      have hdg : decide ((48 : Int) ≤ (c.toNat : Int)) = false ∨ (decide ((48 : Int) ≤ (c.toNat : Int)) = true ∧ decide ((c.toNat : Int) ≤ 57) = false) := by
        by_cases h : 48 ≤ c.toNat
        · right; exact ⟨by simp; omega, by simp; omega⟩
        · left; simp; omega
      by_cases hlet : 97 ≤ L ∧ L ≤ 122
      · have e0 := e95 false (decide_eq_false (fun h => hu h hlet))
        have e3 : decide ((97 : Int) ≤ (L : Int)) = true := by simp; omega
        have e4 : decide ((L : Int) ≤ 122) = true := by simp; omega
        by_cases h6 : L ≤ 102
        · have HN := hstep (L - 87) (by omega) (by rw [hV, if_pos (by omega)])
          have iov : a * 16 + ((L : Int) - 97 + 10) ≤ 4294967295 := by omega
          have eg : decide ((16 : Int) ≤ (L : Int) - 97 + 10) = false := decide_eq_false (by omega)
          obtain ⟨hlet0, -⟩ := hlet
          clear hV hu e95 hstep hnone hdig
          rcases hdg with e1 | ⟨e1, e2⟩
          all_goals
            go_wp2_with (go_at_call 148; refine (cL _).mono ?_; rintro e w' ⟨rfl, rfl⟩)
            refine ⟨⟨k + 1, acc * 16 + (L - 87), a * 16 + ((L - 87 : Nat) : Int), rfl, (by first | rfl | (congr 1; omega)), (by first | rfl | (congr 1; omega)), by omega, HN⟩, by simp [intOf]; omega⟩
        · have HN := hnone (by rw [hV, if_neg (by omega)])
          obtain ⟨hlet0, hlet1⟩ := hlet
          clear hV hu e95 hstep hnone hdig
          rcases hdg with e1 | ⟨e1, e2⟩
          all_goals
            go_wp2_with (go_at_call 148; refine (cL _).mono ?_; rintro e w' ⟨rfl, rfl⟩)
            go_ret2
            exact ⟨by rw [HN.out]; rfl, rfl⟩
      · have HN := hnone (by rw [hV, if_neg (by omega)])
        have hlt : decide ((97 : Int) ≤ (L : Int)) = false ∨ (decide ((97 : Int) ≤ (L : Int)) = true ∧ decide ((L : Int) ≤ 122) = false) := by
          by_cases h : 97 ≤ L
          · right; exact ⟨by simp; omega, by simp; omega⟩
          · left; simp; omega
        clear hV hu hstep hnone hdig hlet
        by_cases h95 : c.toNat = 95
        all_goals
          have e0 := e95 _ (by first | exact decide_eq_true h95 | exact decide_eq_false h95)
          clear e95 h95
          rcases hdg with e1 | ⟨e1, e2⟩
          all_goals
            rcases hlt with e3 | ⟨e3, e4⟩
            all_goals
             go_wp2_with (go_at_call 148; refine (cL _).mono ?_; rintro e w' ⟨rfl, rfl⟩)
             go_ret2
             exact ⟨by rw [HN.out]; rfl, rfl⟩
  · obtain rfl : k = t.size := by omega
    rw [List.drop_of_length_le (by omega)] at hd
    have hl : decide ((t.size : Int) < (t.size : Int)) = false := by simp
    have HD : Hid (RES = some acc) := hd.symm
    subst ha
    clear hd hB hp
    go_wp2_with fail
    go_ret2
    exact ⟨by rw [HD.out]; rfl, rfl⟩
theorem innerUint_10 (t : ByteArray) (h1 : 1 ≤ t.size) (h2 : t.size ≤ 7) (w : World) :
  Calls Tryz.prog 131 #[.string t, .int .i64 10, .int .i64 32] w fun e w' => e = .returned (uintT (X.numB 10 0 t.data.toList)) ∧ w' = Lib.bytesWorld w 5 t := by
 have hemp : t.toList.isEmpty = false := by
  rw [← decide_eq_emptyBytes]
  exact decide_eq_false (fun h => by rw [h] at h1; exact absurd h1 (by decide))
 have hcv := Lib.run_convert_string_bytes (P := Tryz.prog) w 9 128 5 t (u := .string) Tryz.underlying9 Tryz.underlying128 Tryz.underlying5
 have hB : ∀ j, j < t.size → (Lib.bytesWorld w 5 t).cell? ⟨w.heap.size, j, none⟩ = some (.int .u8 (t.data.toList.getD j 0).toNat) := fun j hj => Lib.bytesWorld_cell w 5 t j hj
 obtain ⟨W1, hW1⟩ : ∃ W1, W1 = Lib.bytesWorld w 5 t := ⟨_, rfl⟩
 rw [← hW1] at hcv hB ⊢
 clear hW1
 obtain ⟨bs, hL⟩ : ∃ bs, bs = t.data.toList := ⟨_, rfl⟩
 have hLn : bs.length = t.size := by rw [hL, Lib.size_eq]
 rw [← hL] at hB ⊢
 clear hL
 obtain ⟨RES, hRES⟩ : ∃ RES, X.numB 10 0 bs = RES := ⟨_, rfl⟩
 rw [hRES]
 have hmv : IntKind.u64.wrap (IntKind.u64.wrap 4294967296 - 1) = 4294967295 := by
  rw [IntKind.wrap_u64, IntKind.wrap_u64]
  decide
 go_enter Tryz.func131, Tryz.ntmps131
 go_wp2
 go_loop [12, 13, 101] (fun vu vn vi => ∃ (k acc : Nat) (a : Int), vu = .bool false ∧ vn = .int .u64 a ∧ vi = .int .i64 k ∧ k ≤ t.size ∧ Hid (a = (acc : Int) ∧ acc + 1 ≤ 10 ^ k ∧ X.numB 10 acc (bs.drop k) = RES))
  (fun _ _ vi => t.size - (intOf vi).toNat)
 case atStart => exact ⟨0, 0, 0, rfl, rfl, rfl, by omega, rfl, by simp, hRES⟩
 case round =>
  obtain ⟨k, acc, a, rfl, rfl, rfl, hk, hh⟩ := hrel
  obtain ⟨ha, hp, hd⟩ := hh.out
  clear hh
  clear hRES
  by_cases hkn : k < t.size
  · have hpk : 10 ^ k ≤ 1000000 := by
      have := Nat.pow_le_pow_right (n := 10) (by omega) (show k ≤ 6 by omega)
      exact Nat.le_trans this (by decide)
    have a0 : 0 ≤ a := by omega
    have a2 : a ≤ 999999 := by omega
    have hc := hB k (by omega)
    have hdrop : bs.drop k = bs[k]'(by omega) :: bs.drop (k + 1) := List.drop_eq_getElem_cons (by omega)
    have hget : bs.getD k 0 = bs[k]'(by omega) := by simp [List.getD, List.getElem?_eq_getElem (show k < bs.length by omega)]
    rw [hdrop] at hd
    rw [hget] at hc
    generalize bs[k]'(by omega) = c at hc hd
    have hc256 : c.toNat < 256 := c.toNat_lt
    have hl256 : (c.toNat ||| 32) < 256 := by have := (c ||| 32).toNat_lt; rwa [UInt8.toNat_or] at this
    have cL := fun w' : World => lower_any c w'
    have hl : decide ((k : Int) < (t.size : Int)) = true := by simp; omega
    clear hB hdrop hget
    have hstep : ∀ d : Nat, d < 10 → X.dig 10 c = some d → Hid (a * 10 + (d : Int) = ((acc * 10 + d : Nat) : Int) ∧ acc * 10 + d + 1 ≤ 10 ^ (k + 1) ∧ X.numB 10 (acc * 10 + d) (bs.drop (k + 1)) = RES) := by
      intro d hd16 hv
      rw [X.numB_some hv] at hd
      exact ⟨by omega, by rw [Nat.pow_succ]; omega, hd⟩
    have hnone : X.dig 10 c = none → Hid (RES = none) := by
      intro hv
      rw [X.numB_none hv] at hd
      exact hd.symm
    clear hd ha
    by_cases hdig : 48 ≤ c.toNat ∧ c.toNat ≤ 57
    · have hv : X.dig 10 c = some (c.toNat - 48) := X.digD 10 c hdig
      have HN := hstep _ (by omega) hv
      have e0 : ((c.toNat : Int) == 95) = false := beq_eq_false_iff_ne.2 (by omega)
      have e1 : decide ((48 : Int) ≤ (c.toNat : Int)) = true := by simp; omega
      have e2 : decide ((c.toNat : Int) ≤ 57) = true := by simp; omega
      have iov : a * 10 + ((c.toNat : Int) - 48) ≤ 4294967295 := by omega
      have ez : decide (a * 10 + ((c.toNat : Int) - 48) < a * 10) = false := decide_eq_false (by omega)
      have ez1 : ¬ (a * 10 + ((c.toNat : Int) - 48) < a * 10) := by omega
      have ez2 : ¬ ((4294967295 : Int) < a * 10 + ((c.toNat : Int) - 48)) := by omega
      have ex : decide ((4294967295 : Int) < a * 10 + ((c.toNat : Int) - 48)) = false := decide_eq_false (by omega)
      have eg : decide ((10 : Int) ≤ (c.toNat : Int) - 48) = false := decide_eq_false (by omega)
      clear hv hstep hnone hp hpk
      go_wp2_with fail
      refine ⟨⟨k + 1, acc * 10 + (c.toNat - 48), a * 10 + ((c.toNat - 48 : Nat) : Int), rfl, (by first | rfl | (congr 1; omega)), (by first | rfl | (congr 1; omega)), by omega, HN⟩, by simp [intOf]; omega⟩
    · obtain ⟨L, hLL⟩ : ∃ L : Nat, c.toNat ||| 32 = L := ⟨_, rfl⟩
      have hV : X.dig 10 c = none := X.dig10 c hdig
      have hu : c.toNat = 95 → ¬ (97 ≤ L ∧ L ≤ 122) := by
        intro h; rw [h] at hLL; subst hLL; decide
      rw [hLL] at hl256 cL
      clear hLL hp hpk
      have e95 : ∀ q, decide (c.toNat = 95) = q → ((c.toNat : Int) == 95) = q := by
        intro q h; rw [← h]
        by_cases h' : c.toNat = 95
        · rw [h']; rfl
        · rw [decide_eq_false h']; exact beq_eq_false_iff_ne.2 (by omega)
      have hdg : decide ((48 : Int) ≤ (c.toNat : Int)) = false ∨ (decide ((48 : Int) ≤ (c.toNat : Int)) = true ∧ decide ((c.toNat : Int) ≤ 57) = false) := by
        by_cases h : 48 ≤ c.toNat
        · right; exact ⟨by simp; omega, by simp; omega⟩
        · left; simp; omega
      by_cases hlet : 97 ≤ L ∧ L ≤ 122
      · have e0 := e95 false (decide_eq_false (fun h => hu h hlet))
        have e3 : decide ((97 : Int) ≤ (L : Int)) = true := by simp; omega
        have e4 : decide ((L : Int) ≤ 122) = true := by simp; omega
        have HN := hnone hV
        obtain ⟨hlet0, hlet1⟩ := hlet
        clear hV hu e95 hstep hnone hdig
        rcases hdg with e1 | ⟨e1, e2⟩
        all_goals
          go_wp2_with (go_at_call 148; refine (cL _).mono ?_; rintro e w' ⟨rfl, rfl⟩)
          go_ret2
          exact ⟨by rw [HN.out]; rfl, rfl⟩
      · have HN := hnone hV
        have hlt : decide ((97 : Int) ≤ (L : Int)) = false ∨ (decide ((97 : Int) ≤ (L : Int)) = true ∧ decide ((L : Int) ≤ 122) = false) := by
          by_cases h : 97 ≤ L
          · right; exact ⟨by simp; omega, by simp; omega⟩
          · left; simp; omega
        clear hV hu hstep hnone hdig hlet
        by_cases h95 : c.toNat = 95
        all_goals
          have e0 := e95 _ (by first | exact decide_eq_true h95 | exact decide_eq_false h95)
          clear e95 h95
          rcases hdg with e1 | ⟨e1, e2⟩
          all_goals
            rcases hlt with e3 | ⟨e3, e4⟩
            all_goals
             go_wp2_with (go_at_call 148; refine (cL _).mono ?_; rintro e w' ⟨rfl, rfl⟩)
             go_ret2
             exact ⟨by rw [HN.out]; rfl, rfl⟩
  · obtain rfl : k = t.size := by omega
    rw [List.drop_of_length_le (by omega)] at hd
    have hl : decide ((t.size : Int) < (t.size : Int)) = false := by simp
    have HD : Hid (RES = some acc) := hd.symm
    subst ha
    clear hd hB hp
    go_wp2_with fail
    go_ret2
    exact ⟨by rw [HD.out]; rfl, rfl⟩
theorem parseUint_16 (t : ByteArray) (h1 : 1 ≤ t.size) (h2 : t.size ≤ 6) (w : World) (hE : Errs w) :
   Calls Tryz.prog 111 #[.string t, .int .i64 16, .int .i64 32] w fun e w' =>
    (match X.numB 16 0 t.data.toList with
     | some x => e = .returned (.tuple #[.int .u64 x, .nilIface])
     | none => ∃ N, e = .returned (.tuple #[.int .u64 0, .iface 213 (.pointer (some ⟨N, 0, none⟩))])) ∧ Below w.heap.size w w' := by
 have hI := innerUint_16 t h1 h2 w
 cases hx : X.numB 16 0 t.data.toList with
 | some x =>
   rw [hx] at hI
   clear hx
   simp only [uintT] at hI
   go_enter Tryz.func111, Tryz.ntmps111
   go_wp2_with fail
   refine hI.mono ?_
   rintro e w1 ⟨rfl, rfl⟩
   go_wp2_with fail
   go_ret2
   exact ⟨rfl, Lib.bytesWorld_below _ _ _⟩
 | none =>
   rw [hx] at hI
   clear hx
   simp only [uintT] at hI
   obtain ⟨⟨t1, p1, hv1⟩, _⟩ := hE
   have hc : w.cell? ⟨3, 0, none⟩ = some (.iface t1 p1) := by
    have h0 := World.var?_cell (show Tryz.prog.globalNamed "strconv.ErrSyntax" = some 3 by kernel_rfl) hv1 0
    simpa using h0
   have hlt := Lib.lt_of_cell hc
   have hc2 : (Lib.bytesWorld w 5 t).cell? ⟨3, 0, none⟩ = some (.iface t1 p1) := ((Lib.bytesWorld_below w 5 t).cell hlt).trans hc
   have hE := Tryz.strconv_toError_syntax ⟨#[80, 97, 114, 115, 101, 85, 105, 110, 116]⟩ t 16 32 (.iface t1 p1) _ (by omega) hc2 (Or.inr ⟨_, _, rfl⟩)
   have hb0 := Lib.bytesWorld_below w 5 t
   obtain ⟨W1, hW1⟩ : ∃ W1, W1 = Lib.bytesWorld w 5 t := ⟨_, rfl⟩
   rw [← hW1] at hI hE hb0
   clear hW1 hc hc2 hv1
   go_enter Tryz.func111, Tryz.ntmps111
   go_wp2_with fail
   refine hI.mono ?_
   rintro e w1 ⟨rfl, rfl⟩
   go_wp2_with fail
   refine hE.mono ?_
   rintro e w2 ⟨N, rfl, _, _, hb⟩
   go_wp2_with fail
   go_ret2
   exact ⟨⟨N, rfl⟩, hb0.trans (hb.mono hb0.size)⟩
theorem parseUint_10 (t : ByteArray) (h1 : 1 ≤ t.size) (h2 : t.size ≤ 7) (w : World) (hE : Errs w) :
   Calls Tryz.prog 111 #[.string t, .int .i64 10, .int .i64 32] w fun e w' =>
    (match X.numB 10 0 t.data.toList with
     | some x => e = .returned (.tuple #[.int .u64 x, .nilIface])
     | none => ∃ N, e = .returned (.tuple #[.int .u64 0, .iface 213 (.pointer (some ⟨N, 0, none⟩))])) ∧ Below w.heap.size w w' := by
 have hI := innerUint_10 t h1 h2 w
 cases hx : X.numB 10 0 t.data.toList with
 | some x =>
   rw [hx] at hI
   clear hx
   simp only [uintT] at hI
   go_enter Tryz.func111, Tryz.ntmps111
   go_wp2_with fail
   refine hI.mono ?_
   rintro e w1 ⟨rfl, rfl⟩
   go_wp2_with fail
   go_ret2
   exact ⟨rfl, Lib.bytesWorld_below _ _ _⟩
 | none =>
   rw [hx] at hI
   clear hx
   simp only [uintT] at hI
   obtain ⟨⟨t1, p1, hv1⟩, _⟩ := hE
   have hc : w.cell? ⟨3, 0, none⟩ = some (.iface t1 p1) := by
    have h0 := World.var?_cell (show Tryz.prog.globalNamed "strconv.ErrSyntax" = some 3 by kernel_rfl) hv1 0
    simpa using h0
   have hlt := Lib.lt_of_cell hc
   have hc2 : (Lib.bytesWorld w 5 t).cell? ⟨3, 0, none⟩ = some (.iface t1 p1) := ((Lib.bytesWorld_below w 5 t).cell hlt).trans hc
   have hE := Tryz.strconv_toError_syntax ⟨#[80, 97, 114, 115, 101, 85, 105, 110, 116]⟩ t 10 32 (.iface t1 p1) _ (by omega) hc2 (Or.inr ⟨_, _, rfl⟩)
   have hb0 := Lib.bytesWorld_below w 5 t
   obtain ⟨W1, hW1⟩ : ∃ W1, W1 = Lib.bytesWorld w 5 t := ⟨_, rfl⟩
   rw [← hW1] at hI hE hb0
   clear hW1 hc hc2 hv1
   go_enter Tryz.func111, Tryz.ntmps111
   go_wp2_with fail
   refine hI.mono ?_
   rintro e w1 ⟨rfl, rfl⟩
   go_wp2_with fail
   refine hE.mono ?_
   rintro e w2 ⟨N, rfl, _, _, hb⟩
   go_wp2_with fail
   go_ret2
   exact ⟨⟨N, rfl⟩, hb0.trans (hb.mono hb0.size)⟩
end Go.Proofs.YteejphiklpnjhaaGreatDoor
namespace Go.Proofs.YteejphiklpnjhaaGreatDoor
set_option maxRecDepth 100000
set_option maxHeartbeats 16000000
open Go.RowKit
open Go.Lib (hid)
def Asc (s : ByteArray) : Prop := ∀ (j : Nat) b, s.data.toList[j]? = some b → b.toNat < 128
theorem Asc.at {s : ByteArray} (h : Asc s) {i : Nat} (hi : i < s.size) : s[i].toNat < 128 := h i _ (Lib.data_getElem? s i hi)
theorem index_high {s : ByteArray} (h : Asc s) {l : List UInt8} (hl : ∃ k, l = s.data.toList.drop k) {c : UInt8} (hc : 128 ≤ c.toNat) : Lib.indexByte l c = -1 := by
 have hge := Lib.indexByte_ge l c
 by_cases h0 : Lib.indexByte l c < 0
 · omega
 · obtain ⟨o, ho⟩ := Int.eq_ofNat_of_zero_le (Int.not_lt.1 h0)
   have h1 := (Lib.indexByte_some ho).1
   obtain ⟨k, rfl⟩ := hl
   rw [List.getElem?_drop] at h1
   have := h _ _ h1
   omega
theorem Below.iter (w : World) (s : ByteArray) (i : Nat) : Below w.heap.size w (w.iter s i) := (Below.refl _ w).alloc (Nat.le_refl _) _
theorem indexRune_high (s : ByteArray) (hA : Asc s) (_hs : s.size ≤ 1000) (r : Int) (h0 : 128 ≤ r) (h1 : r ≤ 2147483647) (w : World) :
   Calls Tryz.prog 130 #[.string s, .int .i32 r] w fun e w' => e = .returned (.int .i64 (-1)) ∧ Below w.heap.size w w' := by
 have HA := hid hA
 clear hA
 have t0 : decide ((0 : Int) ≤ r) = true := by simp; omega
 have t1 : decide (r < 128) = false := by simp; omega
 by_cases he : r = 65533
 · subst he
   clear t0 t1 h0 h1
   go_enter Tryz.func130, Tryz.ntmps130
   go_wp2_with fail
   go_loopg [] s.size (fun g wx => ∃ i : Nat, i + g = s.size ∧ wx = w.iter s i)
   case atStart => exact ⟨0, by omega, rfl⟩
   case round =>
     obtain ⟨i, hig, rfl⟩ := hrel
     cases gk with
     | zero =>
       obtain rfl : i = s.size := by omega
       have hnx := run_next_end (P := Tryz.prog) w s s.size
       go_wp2_with fail
       go_ret
       exact ⟨rfl, Below.iter w s _⟩
     | succ g =>
       have hi : i < s.size := by omega
       have hx := HA.out.at hi
       have hnx := fun ty => run_next_ascii (P := Tryz.prog) w s i ty hi hx
       have t2 : ((s[i].toNat : Int) == 65533) = false := beq_eq_false_iff_ne.2 (by omega)
       clear hx
       go_wp2_with fail
       go_roundg g
       case measure => omega
       case rel => exact ⟨i + 1, by omega, rfl⟩
 · have t2 : (r == 65533) = false := beq_eq_false_iff_ne.2 he
   have hv := validRune_ok r
   cases hok : W.charOk r
   · rw [hok] at hv
     clear hok he
     go_enter Tryz.func130, Tryz.ntmps130
     go_wp2_with fail
     refine (Tryz.utf8_ValidRune _ _).mono ?_
     rintro e w' ⟨rfl, hw'⟩
     rw [hw']
     rw [hv]
     go_wp2_with fail
     go_ret
     exact ⟨rfl, Below.refl _ _⟩
   · rw [hok] at hv
     obtain ⟨b, l, hl, hb, hbs, l1, l3, hb8⟩ := enc_last h0 hok
     have HB := hid hb8
     have e1 : (b.size : Int) - 1 = (l : Int) := by omega
     have e3 : (l : Int) + 1 = ((l + 1 : Nat) : Int) := by omega
     have L0 : (0 : Int) ≤ (l : Int) := by omega
     have L1 : (l : Int) < (b.size : Int) := by omega
     clear hok he hb8 hbs
     go_enter Tryz.func130, Tryz.ntmps130
     go_wp2_with fail
     refine (Tryz.utf8_ValidRune _ _).mono ?_
     rintro e w' ⟨rfl, hw'⟩
     rw [hw']
     rw [hv]
     go_wp2_with fail
     go_step3
     go_wp2_with fail
     go_loop [9] (fun v => v = .int .i64 l) (fun _ => 1)
     case atStart => exact rfl
     case round =>
       obtain rfl := hrel
       by_cases hls : l < s.size
       · have t3 : decide ((l : Int) < (s.size : Int)) = true := by simp; omega
         have L2 : (l : Int) < (s.size : Int) := by omega
         obtain ⟨m, hm⟩ : ∃ m, l + 1 = m := ⟨_, rfl⟩
         have L3 : (l : Int) + 1 = (m : Int) := by omega
         have L4 : IntKind.i64.wrap (m : Int) = (m : Int) := by rw [IntKind.wrap_i64]; omega
         have L5 : (0 : Int) ≤ (m : Int) := by omega
         have L6 : (m : Int) ≤ (s.size : Int) := by omega
         have t4 : ((s[l].toNat : Int) != (b[l].toNat : Int)) = true := by
          rw [bne_iff_ne]
          have := HA.out.at hls
          have := HB.out
          omega
         have HX := hid (index_high (l := (s.extract m s.size).data.toList) HA.out ⟨m, Lib.extract_to_end s m⟩ (c := b[l]) HB.out)
         have cI := fun W => Tryz.strings_IndexByte (s.extract m s.size) (b[l].toNat : Int) W
         have e4 : ((b[l].toNat : Int)).toNat.toUInt8 = b[l] := by simp
         rw [e4, HX.out] at cI
         clear HX e4 hm e3
         go_wp2_with fail
         go_step3
         go_wp2_with fail
         go_quiet (fail)
         go_wp2_with fail
         go_quiet (first | (go_at_call 80; exact (cI _).mono (fun _ _ h => ⟨h.1, _, h.2⟩)))
         go_wp2_with fail
         (repeat (first | rw [Exit.noGoto_ret] | simp only [Exit.inBlock]))
         go_big_unhide
         (repeat (first | rw [Exit.noGoto_ret] | simp only [Exit.inBlock, Exit.then]))
         go_ret
         exact ⟨rfl, below_drewN (Below.refl _ w) _⟩
       · have t3 : decide ((l : Int) < (s.size : Int)) = false := by simp; omega
         go_wp2_with fail
         go_ret
         exact ⟨rfl, Below.refl _ _⟩
def Any4 (s cs : ByteArray) (v : Int) : Prop := v = -1 ∨ (∃ (i : Nat) (h : i < s.size), v = (i : Int) ∧ s[i] ∈ cs.data.toList)
theorem indexAny_short (s cs : ByteArray) (hA : Asc cs) (h2 : 2 ≤ cs.size) (hc : cs.size ≤ 1000) (h8 : s.size ≤ 8) (w : World) :
  Calls Tryz.prog 132 #[.string s, .string cs] w fun e w' => (∃ v : Int, e = .returned (.int .i64 v) ∧ Any4 s cs v) ∧ Below w.heap.size w w' := by
 have hemp : cs.toList.isEmpty = false := by
  rw [Lib.toList_data]
  cases h : cs.data.toList with
  | nil => have := Lib.size_eq cs; rw [h, List.length_nil] at this; omega
  | cons _ _ => rfl
 have hn1 : ((cs.size : Int) == 1) = false := beq_eq_false_iff_ne.2 (by omega)
 have h8z : decide ((8 : Int) < (s.size : Int)) = false := decide_eq_false (by omega)
 have HA := hid hA
 clear hA
 go_enter Tryz.func132, Tryz.ntmps132
 go_wp2_with fail
 refine (Tryz.strings_shouldUseASCIISet _ _).mono ?_
 rintro e w' ⟨rfl, hw'⟩
 rw [hw']
 rw [h8z]
 go_wp2_with fail
 go_loopg [] s.size (fun g wx => ∃ i : Nat, s.size - i ≤ g ∧ Hid (Below w.heap.size w wx ∧ wx.heap[w.heap.size]? = some (.stringIter s i)))
 case atStart => exact ⟨0, by omega, hid ⟨Below.iter w s 0, World.iter_heap w s 0⟩⟩
 case round =>
  obtain ⟨i, hig, hI⟩ := hrel
  have hk := hI.out.2
  have HB := hid hI.out.1
  have hlt := Go.lt_of_block hk
  clear hI
  by_cases hi : i < s.size
  · have hnx := fun ty => Lib.run_next_any_at (P := Tryz.prog) wr w.heap.size s i ty hk hi
    have hk2 := fun p => Lib.iterAt_heap wr w.heap.size s i p hk
    have hb2 := fun p => Lib.below_iterAt HB.out (Nat.le_refl _) s p
    have hsz := fun p => Lib.iterAt_size wr w.heap.size s p
    by_cases ha : s[i].toNat < 128
    · rw [decode_ascii s i hi ha] at hnx
      have K2 := hid (hk2 (i + 1))
      have B2 := hid (hb2 (i + 1))
      have hcon := Lib.contains_iff_indexByte cs.data.toList s[i]
      have hback : ((s[i].toNat : Int)).toNat.toUInt8 = s[i] := by simp
      have cR := fun W => Tryz.strings_IndexRune_ascii cs (s[i].toNat : Int) W (by omega) (by omega)
      rw [hback] at cR
      clear hk2 hb2 hsz hk hback
      simp only at hnx
      generalize wr.iterAt w.heap.size s (i + 1) = w2 at *
      cases hin : cs.data.toList.contains s[i]
      · rw [hin] at hcon
        have hlt0 : decide ((0 : Int) ≤ Lib.indexByte cs.data.toList s[i]) = false := hcon.symm
        clear hcon hin
        go_wp2_with fail
        refine (cR _).mono ?_
        rintro e w' ⟨rfl, hw'⟩
        rw [hw']
        go_wp2_with fail
        go_roundg (s.size - (i + 1))
        case measure => omega
        case rel => exact ⟨i + 1, Nat.le_refl _, hid ⟨B2.out, K2.out⟩⟩
      · rw [hin] at hcon
        have hlt0 : decide ((0 : Int) ≤ Lib.indexByte cs.data.toList s[i]) = true := hcon.symm
        have HM : Hid (s[i] ∈ cs.data.toList) := by show s[i] ∈ _; simpa using hin
        clear hcon hin
        go_wp2_with fail
        refine (cR _).mono ?_
        rintro e w' ⟨rfl, hw'⟩
        rw [hw']
        go_wp2_with fail
        go_ret
        exact ⟨⟨_, rfl, Or.inr ⟨i, hi, rfl, HM.out⟩⟩, B2.out⟩
    · have hh := decode_high s i hi (by omega)
      have hle := decode_le s i
      obtain ⟨d, hd⟩ : ∃ d, Utf8.decode s i = d := ⟨_, rfl⟩
      rw [hd] at hnx hh hle
      obtain ⟨c, k⟩ := d
      simp only at hnx hh hle
      obtain ⟨c128, k1⟩ := hh
      have K2 := hid (hk2 (i + k))
      have B2 := hid (hb2 (i + k))
      have S2 := hid (hsz (i + k))
      clear hk2 hb2 hsz hk hd
      generalize wr.iterAt w.heap.size s (i + k) = w2 at *
      have cR := fun W => indexRune_high cs HA.out hc (c : Int) (by omega) (by omega) W
      go_wp2_with fail
      refine (cR _).mono ?_
      rintro e w' ⟨rfl, hb⟩
      have K3 : Hid (w'.heap[w.heap.size]? = some (.stringIter s (i + k))) := by
        show _ = _
        rw [hb.block _ (by rw [S2.out]; exact hlt)]; exact K2.out
      have B3 := hid (B2.out.trans (hb.mono (by rw [S2.out]; omega)))
      clear hb
      go_wp2_with fail
      go_roundg (s.size - (i + k))
      case measure => omega
      case rel => exact ⟨i + k, Nat.le_refl _, hid ⟨B3.out, K3.out⟩⟩
  · have hnx := fun ty => Lib.run_next_end_at (P := Tryz.prog) wr w.heap.size s i ty hk hi
    clear hk
    go_wp2_with fail
    go_ret
    exact ⟨⟨-1, rfl, Or.inl rfl⟩, HB.out⟩
theorem containsAny_short (s cs : ByteArray) (hA : Asc cs) (h2 : 2 ≤ cs.size) (hc : cs.size ≤ 1000) (h8 : s.size ≤ 8) (w : World) :
   Calls Tryz.prog 112 #[.string s, .string cs] w fun e w' => (∃ v : Bool, e = .returned (.bool v) ∧ (v = true → ∃ (i : Nat) (h : i < s.size), s[i] ∈ cs.data.toList)) ∧ Below w.heap.size w w' := by
 have cI := indexAny_short s cs hA h2 hc h8 w
 clear hA
 go_enter Tryz.func112, Tryz.ntmps112
 go_wp2_with fail
 refine cI.mono ?_
 rintro e w' ⟨⟨v, rfl, hv⟩, hb⟩
 have HV := hid hv
 have HB := hid hb
 clear hv hb
 go_wp2_with fail
 go_ret
 refine ⟨⟨_, rfl, fun ht => ?_⟩, HB.out⟩
 rcases HV.out with h | ⟨i, hi, -, hm⟩
 · subst h; simp at ht
 · exact ⟨i, hi, hm⟩
end Go.Proofs.YteejphiklpnjhaaGreatDoor
namespace Go.Proofs.YteejphiklpnjhaaGreatDoor
set_option maxRecDepth 100000
set_option maxHeartbeats 16000000
open Go.RowKit
open Go.Lib (hid)
namespace X
theorem dig_lt {b d : Nat} {c : UInt8} (hb : b = 10 ∨ b = 16) (h : dig b c = some d) : d < b ∧ c ≠ 95 ∧ c ≠ 43 := by
 have hne : ∀ k : UInt8, c.toNat ≠ k.toNat → c ≠ k := fun k hk e => hk (by rw [e])
 have h95 : (95 : UInt8).toNat = 95 := rfl
 have h43 : (43 : UInt8).toNat = 43 := rfl
 unfold dig at h
 split at h
 · cases h; exact ⟨by omega, hne _ (by omega), hne _ (by omega)⟩
 · split at h
   · cases h; exact ⟨by omega, hne _ (by omega), hne _ (by omega)⟩
   · split at h
     · cases h; exact ⟨by omega, hne _ (by omega), hne _ (by omega)⟩
     · cases h
theorem numB_lt {b : Nat} (hb : b = 10 ∨ b = 16) : ∀ (l : List UInt8) (v x : Nat), numB b v l = some x → x + 1 ≤ (v + 1) * b ^ l.length ∧ ∀ c ∈ l, c ≠ 95 ∧ c ≠ 43
 | [], v, x, h => by cases h; exact ⟨by simp, fun _ h => by cases h⟩
 | c :: r, v, x, h => by
   unfold numB at h
   cases hd : dig b c with
   | none => rw [hd] at h; cases h
   | some d =>
     rw [hd] at h
     have h1 := numB_lt hb r _ _ h
     have h2 := dig_lt hb hd
     refine ⟨?_, fun y hy => ?_⟩
     · have h3 : (v * b + d + 1) * b ^ r.length ≤ ((v + 1) * b) * b ^ r.length := Nat.mul_le_mul_right _ (by rw [Nat.add_mul]; omega)
       rw [List.length_cons, Nat.pow_succ]
       calc x + 1 ≤ (v * b + d + 1) * b ^ r.length := h1.1
         _ ≤ ((v + 1) * b) * b ^ r.length := h3
         _ = (v + 1) * (b ^ r.length * b) := by rw [Nat.mul_assoc, Nat.mul_comm b]
     · rcases List.mem_cons.1 hy with rfl | hy
       · exact h2.2
       · exact h1.2 y hy
end X
def numT (x : Option Int) : Value := .tuple #[.int .i32 (x.getD 0), .bool x.isSome]
def tailN (b most : Nat) (ds : List UInt8) : Option Int := if ds.length < 1 ∨ most < ds.length then none else match X.numB b 0 ds with | none => none | some n => if X.stands n then some (n : Int) else none
theorem number_hex {l r : List UInt8} (h : l = 120 :: r) : X.number l = tailN 16 6 r := by subst h; rfl
theorem number_dec {l : List UInt8} (h : [120].isPrefixOf l = false) : X.number l = tailN 10 7 l := by
 unfold X.number tailN
 simp only [h, Bool.false_eq_true, if_false]
 rfl
theorem number_any (s : ByteArray) (hs : s.size ≤ 1000000000000) (W : World) (hE : Errs W) :
   Calls Tryz.prog 88 #[.string s] W fun en W' => en = .returned (numT (X.number s.data.toList)) ∧ Below W.heap.size W W' := by
 have cP := fun U => Tryz.strings_HasPrefix s ⟨#[120]⟩ U
 unfold Lib.hasPrefix at cP
 rw [show (⟨#[120]⟩ : ByteArray).data.toList = [120] from rfl] at cP
 obtain ⟨RES, hRES⟩ : ∃ x, X.number s.data.toList = x := ⟨_, rfl⟩
 rw [hRES]
 cases hb : [120].isPrefixOf s.data.toList
 · rw [hb] at cP
   have hR : RES = tailN 10 7 s.data.toList := by rw [← hRES]; exact number_dec hb
   clear hb hRES
   go_enter Tryz.func88, Tryz.ntmps88
   go_wp2_with fail
   refine (cP _).mono ?_
   rintro e w1 ⟨rfl, hw⟩
   rw [hw]
   clear hw w1
   have HR := hid hR
   have HE := hid hE
   clear hR
   have hsz : (s).size = (s).data.toList.length := (Lib.size_eq _)
   by_cases l1 : (s).size < 1
   · have l0 : decide (((s).size : Int) < 1) = true := decide_eq_true (by omega)
     have HN : Hid (RES = none) := by show _ = _; rw [HR.out]; unfold tailN; rw [if_pos (Or.inl (by omega))]
     clear hsz
     go_wp2_with fail
     go_ret2
     exact ⟨by rw [HN.out]; rfl, Below.refl _ W⟩
   · have l0 : decide (((s).size : Int) < 1) = false := decide_eq_false (by omega)
     by_cases l2 : 7 < (s).size
     · have l3 : decide ((7 : Int) < ((s).size : Int)) = true := decide_eq_true (by omega)
       have HN : Hid (RES = none) := by show _ = _; rw [HR.out]; unfold tailN; rw [if_pos (Or.inr (by omega))]
       clear hsz
       go_wp2_with fail
       go_ret2
       exact ⟨by rw [HN.out]; rfl, Below.refl _ W⟩
     · have l3 : decide ((7 : Int) < ((s).size : Int)) = false := decide_eq_false (by omega)
       have cU := parseUint_10 (s) (by omega) (by omega) W (HE.out)
       have HT : Hid (RES = match X.numB 10 0 (s).data.toList with | none => none | some n => if X.stands n then some (n : Int) else none) := by
         show _ = _
         rw [HR.out]; unfold tailN; rw [if_neg (by omega)]
       cases hx : X.numB 10 0 (s).data.toList with
       | none =>
         rw [hx] at cU HT
         have HN : Hid (RES = none) := HT.out
         clear hx HT HR hsz
         go_wp2_with fail
         refine cU.mono ?_
         rintro e w2 ⟨⟨N, rfl⟩, hb⟩
         have HB := hid hb
         clear hb
         go_wp2_with fail
         go_ret2
         exact ⟨by rw [HN.out]; rfl, HB.out⟩
       | some x =>
         rw [hx] at cU HT
         have hlt := X.numB_lt (by omega) _ _ _ hx
         have hx1 : x + 1 ≤ 10000000 := by
           have h1 : (10 : Nat) ^ (s).data.toList.length ≤ 10 ^ 7 := Nat.pow_le_pow_right (by omega) (by omega)
           have h2 : (10 : Nat) ^ 7 = 10000000 := by decide
           omega
         have hcs := hlt.2
         have HCS := hid hcs
         have cC := fun U => containsAny_short (s) ⟨#[95, 43]⟩ (fun j b hj => by
           have : (⟨#[95, 43]⟩ : ByteArray).data.toList = [95, 43] := rfl
           rw [this] at hj
           have hm := List.mem_of_getElem? hj
           simp only [List.mem_cons, List.not_mem_nil, or_false] at hm
           rcases hm with rfl | rfl <;> decide) (by decide) (by decide) (by omega) U
         have cS := fun U => stands_any (x : Int) U
         have x0 : IntKind.i32.wrap (x : Int) = (x : Int) := by rw [IntKind.wrap_i32]; omega
         clear hx HR hsz hlt hcs
         have hv : ∀ v : Bool, (v = true → ∃ (i : Nat) (h : i < (s).size), (s)[i] ∈ (⟨#[95, 43]⟩ : ByteArray).data.toList) → v = false := fun v h => by
           cases v
           · rfl
           · obtain ⟨i, hi, hm⟩ := h rfl
             have h1 : (s)[i] ∈ (s).data.toList := by
               have := Lib.data_getElem? (s) i hi
               exact List.mem_of_getElem? this
             have h2 := HCS.out _ h1
             have : (⟨#[95, 43]⟩ : ByteArray).data.toList = [95, 43] := rfl
             rw [this] at hm
             simp only [List.mem_cons, List.not_mem_nil, or_false] at hm
             rcases hm with hm | hm
             · exact absurd hm h2.1
             · exact absurd hm h2.2
         have HV := hid hv
         clear hv HCS
         cases hst : X.stands (x : Int)
         · rw [hst] at cS
           have HN : Hid (RES = none) := by show _ = _; rw [HT.out]; simp only [hst]; rfl
           clear HT hst
           go_wp2_with fail
           refine cU.mono ?_
           rintro e w2 ⟨rfl, hb⟩
           have HB := hid hb
           clear hb cU
           go_wp2_with fail
           refine (cC _).mono ?_
           rintro e w3 ⟨⟨v, rfl, hv⟩, hb⟩
           obtain rfl := HV.out v hv
           have HB3 := hid hb
           clear hb hv cC
           go_wp2_with fail
           refine (cS _).mono ?_
           rintro e w4 ⟨rfl, rfl⟩
           go_wp2_with fail
           go_ret2
           exact ⟨by rw [HN.out]; rfl, HB.out.trans (HB3.out.mono HB.out.size)⟩
         · rw [hst] at cS
           have HN : Hid (RES = some (x : Int)) := by show _ = _; rw [HT.out]; simp only [hst]; rfl
           clear HT hst
           go_wp2_with fail
           refine cU.mono ?_
           rintro e w2 ⟨rfl, hb⟩
           have HB := hid hb
           clear hb cU
           go_wp2_with fail
           refine (cC _).mono ?_
           rintro e w3 ⟨⟨v, rfl, hv⟩, hb⟩
           obtain rfl := HV.out v hv
           have HB3 := hid hb
           clear hb hv cC
           go_wp2_with fail
           refine (cS _).mono ?_
           rintro e w4 ⟨rfl, rfl⟩
           go_wp2_with fail
           go_ret2
           exact ⟨by rw [HN.out]; rfl, HB.out.trans (HB3.out.mono HB.out.size)⟩
 · rw [hb] at cP
   obtain ⟨r, hr⟩ := X.pre_first hb
   have hlen : 1 ≤ s.size := by rw [Lib.size_eq, hr]; simp
   have hT : (s.extract 1 s.size).data.toList = r := by
     rw [Lib.extract_to_end, hr]; rfl
   have hR : RES = tailN 16 6 (s.extract 1 s.size).data.toList := by rw [← hRES, hT]; exact number_hex hr
   have i1 : (1 : Int) ≤ (s.size : Int) := by omega
   obtain ⟨t, ht⟩ : ∃ t, s.extract 1 s.size = t := ⟨_, rfl⟩
   rw [ht] at hR
   have hts : t.size ≤ 1000000000000 := by rw [← ht, ByteArray.size_extract]; omega
   clear hb hRES hr hT
   go_enter Tryz.func88, Tryz.ntmps88
   go_wp2_with fail
   refine (cP _).mono ?_
   rintro e w1 ⟨rfl, hw⟩
   rw [hw]
   clear hw w1
   go_wp2_with fail
   go_region
   clear ht
   have HR := hid hR
   have HE := hid hE
   clear hR
   have hsz : (t).size = (t).data.toList.length := (Lib.size_eq _)
   by_cases l1 : (t).size < 1
   · have l0 : decide (((t).size : Int) < 1) = true := decide_eq_true (by omega)
     have HN : Hid (RES = none) := by show _ = _; rw [HR.out]; unfold tailN; rw [if_pos (Or.inl (by omega))]
     clear hsz
     go_wp2_with fail
     go_ret2
     exact ⟨by rw [HN.out]; rfl, (Below.refl _ W).drew⟩
   · have l0 : decide (((t).size : Int) < 1) = false := decide_eq_false (by omega)
     by_cases l2 : 6 < (t).size
     · have l3 : decide ((6 : Int) < ((t).size : Int)) = true := decide_eq_true (by omega)
       have HN : Hid (RES = none) := by show _ = _; rw [HR.out]; unfold tailN; rw [if_pos (Or.inr (by omega))]
       clear hsz
       go_wp2_with fail
       go_ret2
       exact ⟨by rw [HN.out]; rfl, (Below.refl _ W).drew⟩
     · have l3 : decide ((6 : Int) < ((t).size : Int)) = false := decide_eq_false (by omega)
       have cU := parseUint_16 (t) (by omega) (by omega) W.drew (HE.out.keep (Below.refl _ W).drew)
       have HT : Hid (RES = match X.numB 16 0 (t).data.toList with | none => none | some n => if X.stands n then some (n : Int) else none) := by
         show _ = _
         rw [HR.out]; unfold tailN; rw [if_neg (by omega)]
       cases hx : X.numB 16 0 (t).data.toList with
       | none =>
         rw [hx] at cU HT
         have HN : Hid (RES = none) := HT.out
         clear hx HT HR hsz
         go_wp2_with fail
         refine cU.mono ?_
         rintro e w2 ⟨⟨N, rfl⟩, hb⟩
         have HB := hid hb
         clear hb
         go_wp2_with fail
         go_ret2
         exact ⟨by rw [HN.out]; rfl, ((Below.refl _ W).drew).trans HB.out⟩
       | some x =>
         rw [hx] at cU HT
         have hlt := X.numB_lt (by omega) _ _ _ hx
         have hx1 : x + 1 ≤ 16777216 := by
           have h1 : (16 : Nat) ^ (t).data.toList.length ≤ 16 ^ 6 := Nat.pow_le_pow_right (by omega) (by omega)
           have h2 : (16 : Nat) ^ 6 = 16777216 := by decide
           omega
         have hcs := hlt.2
         have HCS := hid hcs
         have cC := fun U => containsAny_short (t) ⟨#[95, 43]⟩ (fun j b hj => by
           have : (⟨#[95, 43]⟩ : ByteArray).data.toList = [95, 43] := rfl
           rw [this] at hj
           have hm := List.mem_of_getElem? hj
           simp only [List.mem_cons, List.not_mem_nil, or_false] at hm
           rcases hm with rfl | rfl <;> decide) (by decide) (by decide) (by omega) U
         have cS := fun U => stands_any (x : Int) U
         have x0 : IntKind.i32.wrap (x : Int) = (x : Int) := by rw [IntKind.wrap_i32]; omega
         clear hx HR hsz hlt hcs
         have hv : ∀ v : Bool, (v = true → ∃ (i : Nat) (h : i < (t).size), (t)[i] ∈ (⟨#[95, 43]⟩ : ByteArray).data.toList) → v = false := fun v h => by
           cases v
           · rfl
           · obtain ⟨i, hi, hm⟩ := h rfl
             have h1 : (t)[i] ∈ (t).data.toList := by
               have := Lib.data_getElem? (t) i hi
               exact List.mem_of_getElem? this
             have h2 := HCS.out _ h1
             have : (⟨#[95, 43]⟩ : ByteArray).data.toList = [95, 43] := rfl
             rw [this] at hm
             simp only [List.mem_cons, List.not_mem_nil, or_false] at hm
             rcases hm with hm | hm
             · exact absurd hm h2.1
             · exact absurd hm h2.2
         have HV := hid hv
         clear hv HCS
         cases hst : X.stands (x : Int)
         · rw [hst] at cS
           have HN : Hid (RES = none) := by show _ = _; rw [HT.out]; simp only [hst]; rfl
           clear HT hst
           go_wp2_with fail
           refine cU.mono ?_
           rintro e w2 ⟨rfl, hb⟩
           have HB := hid hb
           clear hb cU
           go_wp2_with fail
           refine (cC _).mono ?_
           rintro e w3 ⟨⟨v, rfl, hv⟩, hb⟩
           obtain rfl := HV.out v hv
           have HB3 := hid hb
           clear hb hv cC
           go_wp2_with fail
           refine (cS _).mono ?_
           rintro e w4 ⟨rfl, rfl⟩
           go_wp2_with fail
           go_ret2
           exact ⟨by rw [HN.out]; rfl, (((Below.refl _ W).drew).trans HB.out).trans (HB3.out.mono HB.out.size)⟩
         · rw [hst] at cS
           have HN : Hid (RES = some (x : Int)) := by show _ = _; rw [HT.out]; simp only [hst]; rfl
           clear HT hst
           go_wp2_with fail
           refine cU.mono ?_
           rintro e w2 ⟨rfl, hb⟩
           have HB := hid hb
           clear hb cU
           go_wp2_with fail
           refine (cC _).mono ?_
           rintro e w3 ⟨⟨v, rfl, hv⟩, hb⟩
           obtain rfl := HV.out v hv
           have HB3 := hid hb
           clear hb hv cC
           go_wp2_with fail
           refine (cS _).mono ?_
           rintro e w4 ⟨rfl, rfl⟩
           go_wp2_with fail
           go_ret2
           exact ⟨by rw [HN.out]; rfl, (((Below.refl _ W).drew).trans HB.out).trans (HB3.out.mono HB.out.size)⟩
end Go.Proofs.YteejphiklpnjhaaGreatDoor
namespace Go.Proofs.YteejphiklpnjhaaGreatDoor
set_option maxRecDepth 100000
set_option maxHeartbeats 16000000
open Go.RowKit
open Go.Lib (hid)
theorem indexByte_tw (c : UInt8) : ∀ l : List UInt8, (c ∈ l → Lib.indexByte l c = ((l.takeWhile (fun x => x != c)).length : Int)) ∧ (c ∉ l → Lib.indexByte l c = -1)
 | [] => ⟨(fun h => by cases h), fun _ => rfl⟩
 | x :: r => by
   obtain ⟨h1, h2⟩ := indexByte_tw c r
   have e : Lib.indexByte (x :: r) c = if x == c then 0 else if Lib.indexByte r c == -1 then -1 else Lib.indexByte r c + 1 := rfl
   by_cases hx : x = c
   · subst hx
     refine ⟨fun _ => ?_, fun h => absurd (List.mem_cons_self ..) h⟩
     rw [e, if_pos (by simp)]
     simp
   · rw [if_neg (by simpa using hx)] at e
     constructor
     · intro h
       have hm : c ∈ r := by
        rcases List.mem_cons.1 h with h | h
        · exact absurd h.symm hx
        · exact h
       rw [e, h1 hm, if_neg (by simp only [beq_iff_eq]; omega), List.takeWhile_cons]
       simp [hx]
     · intro h
       have hm : c ∉ r := fun hr => h (List.mem_cons_of_mem _ hr)
       rw [e, h2 hm, if_pos (by decide)]
theorem tw_lt {c : UInt8} : ∀ {l : List UInt8}, c ∈ l → (l.takeWhile (fun x => x != c)).length < l.length
 | x :: r, h => by
   by_cases hx : x = c
   · rw [List.takeWhile_cons, if_neg (by simp [hx])]; simp
   · rw [List.takeWhile_cons, if_pos (by simp [hx])]
     have := tw_lt (l := r) (by
      rcases List.mem_cons.1 h with h | h
      · exact absurd h.symm hx
      · exact h)
     simp; omega
theorem tw_all {c : UInt8} : ∀ {l : List UInt8}, c ∉ l → l.takeWhile (fun x => x != c) = l
 | [], _ => rfl
 | x :: r, h => by
   rw [List.takeWhile_cons, if_pos (by simp only [bne_iff_ne, ne_eq]; intro e; subst e; exact h (List.mem_cons_self ..)), tw_all (fun hr => h (List.mem_cons_of_mem _ hr))]
theorem take_tw (p : UInt8 → Bool) : ∀ l : List UInt8, l.take (l.takeWhile p).length = l.takeWhile p
 | [] => rfl
 | x :: r => by
   rw [List.takeWhile_cons]
   split
   · simp [take_tw p r]
   · rfl
theorem ba_self (s : ByteArray) : X.ba s.data.toList = s := by simp [X.ba]
def cutR (s : ByteArray) (c : UInt8) : ByteArray := if c ∈ s.data.toList then s.extract ((s.data.toList.takeWhile (fun x => x != c)).length + 1) s.size else ⟨#[]⟩
def cutT (s : ByteArray) (c : UInt8) : Value := .tuple #[.string (X.ba (s.data.toList.takeWhile (fun x => x != c))), .string (cutR s c), .bool (decide (c ∈ s.data.toList))]
theorem cutL_any (s : ByteArray) (c : UInt8) (hs : s.size ≤ 1000000000000) (W : World) :
   Calls Tryz.prog 109 #[.string s, .string ⟨#[c]⟩] W fun en W' => en = .returned (cutT s c) ∧ Below W.heap.size W W' := by
 have cI := fun U => Tryz.stringslite_Index_one s c U
 have hI := indexByte_tw c s.data.toList
 by_cases hm : c ∈ s.data.toList
 · obtain ⟨k, hk⟩ : ∃ k, (s.data.toList.takeWhile (fun x => x != c)).length = k := ⟨_, rfl⟩
   rw [hI.1 hm, hk] at cI
   have hlt := tw_lt hm
   rw [hk, ← Lib.size_eq] at hlt
   obtain ⟨t, ht⟩ : ∃ t, s.extract 0 k = t := ⟨_, rfl⟩
   have HE : Hid (cutT s c = .tuple #[.string t, .string (s.extract (k + 1) s.size), .bool true]) := by
    show _ = _
    unfold cutT cutR
    rw [decide_eq_true hm, if_pos hm, ← ht, hk]
    have := Go.Proofs.YteejphiklpnjhaaGreatDoor.W.extract_eq s 0 k
    rw [Nat.zero_add] at this
    rw [this, List.drop_zero, ← hk, take_tw]
    rfl
   have k0 : decide ((0 : Int) ≤ (k : Int)) = true := decide_eq_true (by omega)
   obtain ⟨k1, hk1⟩ : ∃ k1, k + 1 = k1 := ⟨_, rfl⟩
   have e1 : IntKind.i64.wrap ((k : Int) + 1) = (k1 : Int) := by rw [IntKind.wrap_i64] <;> omega
   have P1 : (0 : Int) ≤ (k : Int) := by omega
   have P2 : (k : Int) ≤ (s.size : Int) := by omega
   have P3 : (k1 : Int) ≤ (s.size : Int) := by omega
   have P4 : (0 : Int) ≤ (k1 : Int) := by omega
   rw [hk1] at HE
   clear hI hm hk hlt hk1
   go_enter Tryz.func109, Tryz.ntmps109
   go_wp2_with fail
   refine (cI _).mono ?_
   rintro e w1 ⟨rfl, hw⟩
   rw [hw]
   clear hw w1 cI
   go_wp2_with fail
   go_region
   go_wp2_with fail
   go_ret3
   exact ⟨by rw [HE.out]; rfl, (Below.refl _ W).drew⟩
 · rw [hI.2 hm] at cI
   have HE : Hid (cutT s c = .tuple #[.string s, .string ⟨#[]⟩, .bool false]) := by
    show _ = _
    unfold cutT cutR
    rw [decide_eq_false hm, if_neg hm, tw_all hm, ba_self]
   clear hI hm
   go_enter Tryz.func109, Tryz.ntmps109
   go_wp2_with fail
   refine (cI _).mono ?_
   rintro e w1 ⟨rfl, hw⟩
   rw [hw]
   clear hw w1 cI
   go_wp2_with fail
   go_ret3
   exact ⟨by rw [HE.out]; rfl, Below.refl _ W⟩
theorem cut_any (s : ByteArray) (c : UInt8) (hs : s.size ≤ 1000000000000) (W : World) :
  Calls Tryz.prog 85 #[.string s, .string ⟨#[c]⟩] W fun en W' => en = .returned (cutT s c) ∧ Below W.heap.size W W' := by
 have cC := cutL_any s c hs W
 unfold cutT at cC ⊢
 obtain ⟨a, ha⟩ : ∃ a, X.ba (s.data.toList.takeWhile (fun x => x != c)) = a := ⟨_, rfl⟩
 obtain ⟨b, hb⟩ : ∃ b, cutR s c = b := ⟨_, rfl⟩
 obtain ⟨d, hd⟩ : ∃ d, decide (c ∈ s.data.toList) = d := ⟨_, rfl⟩
 rw [ha, hb, hd] at cC ⊢
 clear ha hb hd hs
 go_enter Tryz.func85, Tryz.ntmps85
 go_wp2_with fail
 refine cC.mono ?_
 rintro e w1 ⟨rfl, hb⟩
 have HB := hid hb
 clear hb cC
 go_wp2_with fail
 go_ret3
 exact ⟨rfl, HB.out⟩
end Go.Proofs.YteejphiklpnjhaaGreatDoor
namespace Go.Proofs.YteejphiklpnjhaaGreatDoor
set_option maxRecDepth 100000
set_option maxHeartbeats 16000000
open Go.RowKit
open Go.Lib (hid)
theorem win_list (s : ByteArray) (p : Nat) : (s.extract (p + 1) (min s.size (p + 12))).data.toList = ((rest s p).drop 1).take 11 := by
 rw [cut_list, rest_drop]
 show (rest s (p + 1)).take _ = _
 by_cases h : p + 12 ≤ s.size
 · rw [Nat.min_eq_right h, show p + 12 - (p + 1) = 11 by omega]
 · rw [List.take_of_length_le (by rw [rest_len]; omega), List.take_of_length_le (by rw [rest_len]; omega)]
theorem refOf_num (ds : List UInt8) : X.refOf (35 :: ds) = X.number ds := rfl
theorem refOf_ent {l : List UInt8} (h : [35].isPrefixOf l = false) : X.refOf l = X.entity l := by
 match l with
 | [] => rfl
 | c :: r =>
   unfold X.refOf
   split
   · rename_i e; simp only [List.cons.injEq] at e; rw [e.1] at h; exact absurd h (by simp [List.isPrefixOf])
   · rfl
theorem reference_any {R p c B : Nat} {s : ByteArray} {W : World} (h : Rd W R s p c W) (hp : p < s.size) (hs : s.size ≤ 1000000000000) (hG : Ground B W) (hB : B ≤ R) :
   Calls Tryz.prog 62 #[.pointer (some ⟨R, 0, none⟩)] W (Ends W R s c (X.ref (rest s p)) (fun v => .int .i32 v)) := by
 obtain ⟨m, hm⟩ : ∃ m, min s.size (p + 12) = m := ⟨_, rfl⟩
 have hwin := win_list s p
 rw [hm] at hwin
 obtain ⟨win, hw⟩ : ∃ win, s.extract (p + 1) m = win := ⟨_, rfl⟩
 have hwsz : win.size ≤ 1000000000000 := by rw [← hw, ByteArray.size_extract]; omega
 have cC := fun U => cut_any win 59 hwsz U
 rw [hw] at hwin
 unfold cutT at cC
 obtain ⟨nm, hnm⟩ : ∃ nm, win.data.toList.takeWhile (fun x => x != 59) = nm := ⟨_, rfl⟩
 obtain ⟨cl, hcl⟩ : ∃ cl, decide ((59 : UInt8) ∈ win.data.toList) = cl := ⟨_, rfl⟩
 obtain ⟨aft, haft⟩ : ∃ aft, cutR win 59 = aft := ⟨_, rfl⟩
 rw [hnm, hcl, haft] at cC
 rw [hwin] at hnm hcl
 have hlen : nm.length + (if cl = true then 1 else 0) ≤ ((rest s p).drop 1).length := by
   by_cases hc : cl = true
   · rw [if_pos hc]
     have h0 := tw_lt (of_decide_eq_true (hcl.trans hc))
     rw [hnm] at h0
     have h1 : (((rest s p).drop 1).take 11).length ≤ ((rest s p).drop 1).length := by rw [List.length_take]; omega
     omega
   · rw [if_neg hc, ← hnm]
     have h0 := (List.takeWhile_prefix (fun x : UInt8 => x != 59) (l := ((rest s p).drop 1).take 11)).length_le
     have h1 : (((rest s p).drop 1).take 11).length ≤ ((rest s p).drop 1).length := by rw [List.length_take]; omega
     omega
 rw [rest_drop, rest_len] at hlen
 have HX : Hid (X.ref (rest s p) = if cl = true then (match X.refOf nm with | some v => .ok (v, rest s (p + (nm.length + 2))) | none => .error (s.size - p, 82)) else .error (s.size - p, 82)) := by
   show _ = _
   unfold X.ref X.refName
   rw [hnm, rest_len]
   by_cases hc : cl = true
   · rw [if_pos hc, if_pos (of_decide_eq_true (hcl.trans hc)), rest_drop]
     cases X.refOf nm <;> rfl
   · rw [if_neg hc, if_neg (fun hh => hc (hcl.symm.trans (decide_eq_true hh)))]
 have cE := fun U => entity_any (X.ba nm) (by show nm.toArray.size ≤ _; rw [List.size_toArray]; have := hlen; split at this <;> omega) U
 have cP := fun U => Tryz.strings_CutPrefix (X.ba nm) ⟨#[35]⟩ U
 rw [show (X.ba nm).data.toList = nm from by simp [X.ba], show (⟨#[35]⟩ : ByteArray).data.toList = [35] from rfl] at cP
 rw [show (X.ba nm).data.toList = nm from by simp [X.ba]] at cE
 have HSZ : Hid ((X.ba nm).size = nm.length) := by show nm.toArray.size = _; rw [List.size_toArray]
 obtain ⟨p1, hp1⟩ : ∃ p1, p + 1 = p1 := ⟨_, rfl⟩
 obtain ⟨p2, hp2⟩ : ∃ p2, p + 12 = p2 := ⟨_, rfl⟩
 rw [hp1] at hw
 rw [← hw] at cC
 have w1 : IntKind.i64.wrap ((p : Int) + 1) = (p1 : Int) := by rw [IntKind.wrap_i64] <;> omega
 have w2 : IntKind.i64.wrap ((p : Int) + 12) = (p2 : Int) := by rw [IntKind.wrap_i64] <;> omega
 have mn : min (s.size : Int) (p2 : Int) = (m : Int) := by omega
 have P0 : (0 : Int) ≤ (p1 : Int) := by omega
 have P1 : (p1 : Int) ≤ (m : Int) := by omega
 have P2 : (m : Int) ≤ (s.size : Int) := by omega
 have HC := hid cC
 have HE := hid cE
 have HP := hid cP
 have HR := hid h
 have HG := hid hG
 have HLEN := hid hlen
 have HW := hid hw
 have HRET : Hid (∀ v, cl = true → X.refOf nm = some v → X.ref (rest s p) = .ok (v, rest s (p + (nm.length + 2))) ∧ s.size - (rest s (p + (nm.length + 2))).length = p + (nm.length + 2)) := by
   intro v hc ho
   refine ⟨?_, ?_⟩
   · rw [HX.out, if_pos hc, ho]
   · have := HLEN.out; rw [if_pos hc] at this; rw [rest_len]; omega
 have HERR : Hid (cl = false ∨ X.refOf nm = none → X.ref (rest s p) = .error (s.size - p, 82)) := by
   intro ho
   rw [HX.out]
   rcases ho with ho | ho
   · rw [if_neg (by rw [ho]; decide)]
   · rw [ho]; split <;> rfl
 obtain ⟨c0, c1, -⟩ := h.cells
 clear hm hp1 hp2 hwin hwsz cC cE cP h hG hlen hw hnm hcl haft HX
 go_enter Tryz.func62, Tryz.ntmps62
 go_wp2_with fail
 refine quiet_lit (C := (fun w1 => Rd W R s p c w1)) (by kernel_rfl) (by kernel_rfl) (HR.out.drew) ?_
 repeat (first
   | go_big_quiet_skip
   | (go_big_quiet_want
      refine quiet_val (x := ?_) (fun vv hC => ?_) ?_
      rotate_left
      · skip
        obtain ⟨c0, c1, -⟩ := hC.cells
        clear hC
        go_simp
        with_reducible rfl
      go_big_quiet_on
      try simp only [Act.put, List.setIfInBounds_toArray, List.set_cons_zero, List.set_cons_succ])
   | (go_big_quiet_want
      refine quiet_call (f := ?_) (args := ?_) (x := ?_) (fun vv hC => ?_) (fun vv hC => ?_) ?_
      rotate_left 3
      · go_simp
        first | with_reducible rfl | (apply And.intro <;> with_reducible rfl)
      · first
         | (go_at_call 85; with_reducible refine (HC.out _).mono ?_; rintro e ww ⟨rfl, bb⟩; refine And.intro ?_ (hC.below bb); with_reducible rfl)
      go_big_quiet_on
      try simp only [Act.put, List.setIfInBounds_toArray, List.set_cons_zero, List.set_cons_succ]))
 refine wpQuiet_nil ?_
 intro vq hq
 have HRQ := hid hq
 clear hq c0 c1 HC HR HW
 have cF := fun U => fail_any 82 (p : Int) U
 by_cases hpre : [35].isPrefixOf nm = true
 · obtain ⟨ds, rfl⟩ : ∃ ds, nm = 35 :: ds := by
     match nm, hpre with
     | a :: r, hh => simp only [List.isPrefixOf, Bool.and_true, beq_iff_eq] at hh; exact ⟨r, by rw [hh]⟩
   have HP1 : Hid (∀ U, Calls Tryz.prog 87 #[.string (X.ba (35 :: ds)), .string ⟨#[35]⟩] U fun e w' => e = .returned (.tuple #[.string (X.ba ds), .bool true]) ∧ w' = U) := by
     intro U
     have := HP.out U
     rw [show Lib.trimPrefix (35 :: ds) [35] = ds from rfl, show Lib.hasPrefix (35 :: ds) [35] = true from rfl] at this
     exact this
   have cN := fun U (hE : Errs U) => number_any (X.ba ds) (by show ds.toArray.size ≤ _; rw [List.size_toArray]; have := HLEN.out; rw [List.length_cons] at this; split at this <;> omega) U hE
   rw [show (X.ba ds).data.toList = ds from by simp [X.ba], ← refOf_num] at cN
   have HN := hid cN
   obtain ⟨o, ho⟩ : ∃ o, X.refOf (35 :: ds) = o := ⟨_, rfl⟩
   rw [ho] at HN HRET HERR
   obtain ⟨nm, hnm⟩ : ∃ nm, 35 :: ds = nm := ⟨_, rfl⟩
   rw [hnm] at HP1 HRET HSZ HLEN HE ⊢
   have HE1 : Hid (∃ ev eb, ∀ U, Calls Tryz.prog 86 #[.string (X.ba nm)] U fun en W' => en = .returned (.tuple #[.int .i32 ev, .bool eb]) ∧ Below U.heap.size U W') := ⟨_, _, HE.out⟩
   obtain ⟨ev, eb, cE⟩ := HE1.out
   have HNM : Hid (∀ U, Calls Tryz.prog 87 #[.string (X.ba nm), .string ⟨#[35]⟩] U fun e w' => e = .returned (.tuple #[.string (X.ba ds), .bool true]) ∧ w' = U) := HP1.out
   clear hpre HP HP1 HE HE1 cN ho hnm
   obtain ⟨t, ht⟩ : ∃ t, X.ba nm = t := ⟨_, rfl⟩
   obtain ⟨td, htd⟩ : ∃ td, X.ba ds = td := ⟨_, rfl⟩
   rw [ht] at cE HNM HSZ ⊢
   rw [htd] at HNM HN
   clear ht htd
   go_wp2_with fail
   refine (cE _).mono ?_
   rintro e w2 ⟨rfl, hb⟩
   have HR2 := hid (HRQ.out.below hb)
   clear hb cE
   go_wp2_with fail
   refine (HNM.out _).mono ?_
   rintro e w3 ⟨rfl, hw3⟩
   rw [hw3]
   clear hw3 w3 HNM
   go_wp2_with fail
   refine (HN.out _ ((HG.out.rd HR2.out hB).errs _ (Below.refl _ _))).mono ?_
   rintro e w3 ⟨rfl, hb⟩
   have HR3 := hid (HR2.out.below hb)
   clear hb HN HR2 HRQ
   unfold numT
   cases o with
   | none =>
     have HE2 := hid (HERR.out (Or.inr rfl))
     clear HERR HRET
     cases cl
     all_goals
       go_wp2_with fail
       refine (cF _).mono ?_
       rintro e w4 ⟨rfl, rfl⟩
       exact ⟨rfl, Or.inr ⟨_, _, HE2.out, by rw [Nat.sub_sub_self (Nat.le_of_lt hp)], HR3.out.g⟩⟩
   | some v =>
     cases cl with
     | false =>
       have HE2 := hid (HERR.out (Or.inl rfl))
       clear HERR HRET
       go_wp2_with fail
       refine (cF _).mono ?_
       rintro e w4 ⟨rfl, rfl⟩
       exact ⟨rfl, Or.inr ⟨_, _, HE2.out, by rw [Nat.sub_sub_self (Nat.le_of_lt hp)], HR3.out.g⟩⟩
     | true =>
       have HE2 := hid (HRET.out v rfl rfl)
       clear HERR HRET
       obtain ⟨c0, c1, -⟩ := HR3.out.cells
       have f1 := HR3.out.free 1
       obtain ⟨q1, hq1⟩ : ∃ q1, p + t.size = q1 := ⟨_, rfl⟩
       obtain ⟨q, hq⟩ : ∃ q, p + (nm.length + 2) = q := ⟨_, rfl⟩
       have hle := HLEN.out
       have hsz := HSZ.out
       simp only [if_true] at hle
       rw [hq] at HE2
       have e1 : IntKind.i64.wrap ((p : Int) + (t.size : Int)) = (q1 : Int) := by rw [IntKind.wrap_i64] <;> omega
       have e2 : IntKind.i64.wrap ((q1 : Int) + 2) = (q : Int) := by rw [IntKind.wrap_i64] <;> omega
       clear hq1 hq hle hsz HLEN HSZ cF
       go_wp2_with fail
       go_ret
       exact Or.inl ⟨_, _, HE2.out.1, rfl, by rw [HE2.out.2]; exact HR3.out.set1 q⟩
 · have hpre0 : [35].isPrefixOf nm = false := Bool.eq_false_iff.2 hpre
   have HP1 : Hid (∃ t', ∀ U, Calls Tryz.prog 87 #[.string (X.ba nm), .string ⟨#[35]⟩] U fun e w' => e = .returned (.tuple #[.string t', .bool false]) ∧ w' = U) := by
     refine ⟨X.ba nm, fun U => ?_⟩
     have := HP.out U
     rw [show Lib.trimPrefix nm [35] = nm from by unfold Lib.trimPrefix Lib.hasPrefix; rw [hpre0]; rfl, show Lib.hasPrefix nm [35] = false from hpre0] at this
     exact this
   obtain ⟨t', HNM⟩ := HP1.out
   have HN := hid HE.out
   rw [← refOf_ent hpre0] at HN
   obtain ⟨o, ho⟩ : ∃ o, X.refOf nm = o := ⟨_, rfl⟩
   rw [ho] at HN HRET HERR
   clear hpre hpre0 HP HP1 HE ho
   obtain ⟨t, ht⟩ : ∃ t, X.ba nm = t := ⟨_, rfl⟩
   rw [ht] at HN HNM HSZ ⊢
   clear ht
   go_wp2_with fail
   refine (HN.out _).mono ?_
   rintro e w2 ⟨rfl, hb⟩
   have HR3 := hid (HRQ.out.below hb)
   clear hb HN HRQ
   go_wp2_with fail
   refine (HNM _).mono ?_
   rintro e w3 ⟨rfl, hw3⟩
   rw [hw3]
   clear hw3 w3 HNM
   cases o with
   | none =>
     have HE2 := hid (HERR.out (Or.inr rfl))
     clear HERR HRET
     cases cl
     all_goals
       go_wp2_with fail
       refine (cF _).mono ?_
       rintro e w4 ⟨rfl, rfl⟩
       exact ⟨rfl, Or.inr ⟨_, _, HE2.out, by rw [Nat.sub_sub_self (Nat.le_of_lt hp)], HR3.out.g⟩⟩
   | some v =>
     cases cl with
     | false =>
       have HE2 := hid (HERR.out (Or.inl rfl))
       clear HERR HRET
       go_wp2_with fail
       refine (cF _).mono ?_
       rintro e w4 ⟨rfl, rfl⟩
       exact ⟨rfl, Or.inr ⟨_, _, HE2.out, by rw [Nat.sub_sub_self (Nat.le_of_lt hp)], HR3.out.g⟩⟩
     | true =>
       have HE2 := hid (HRET.out v rfl rfl)
       clear HERR HRET
       obtain ⟨c0, c1, -⟩ := HR3.out.cells
       have f1 := HR3.out.free 1
       obtain ⟨q1, hq1⟩ : ∃ q1, p + t.size = q1 := ⟨_, rfl⟩
       obtain ⟨q, hq⟩ : ∃ q, p + (nm.length + 2) = q := ⟨_, rfl⟩
       have hle := HLEN.out
       have hsz := HSZ.out
       simp only [if_true] at hle
       rw [hq] at HE2
       have e1 : IntKind.i64.wrap ((p : Int) + (t.size : Int)) = (q1 : Int) := by rw [IntKind.wrap_i64] <;> omega
       have e2 : IntKind.i64.wrap ((q1 : Int) + 2) = (q : Int) := by rw [IntKind.wrap_i64] <;> omega
       clear hq1 hq hle hsz HLEN HSZ cF
       go_wp2_with fail
       go_ret
       exact Or.inl ⟨_, _, HE2.out.1, rfl, by rw [HE2.out.2]; exact HR3.out.set1 q⟩
end Go.Proofs.YteejphiklpnjhaaGreatDoor
