/- The walks of the library's ParseUint at two digits of base sixteen. After the shelf's walk at base ten. -/
import Derived.Test.YtohdifffdgoaaaaDoorWParse
import Derived.Test.YtohdifffdgoaaaaDoorWPlainU
import Derived.Lib.ConvBytes
namespace Go.Proofs.YtohdifffdgoaaaaDoor
open Go.RowKit
open Go.Lib (hid)

theorem lower_bits (c : UInt8) : bits .or .u8 (c.toNat : Int) 32 = ((c.toNat ||| 32 : Nat) : Int) := by
  have hf : ∀ y : Fin 256, bits .or .u8 ((y.val : Nat) : Int) 32 = ((y.val ||| 32 : Nat) : Int) := by decide +kernel
  exact hf ⟨c.toNat, c.toNat_lt⟩
theorem lower_any (c : UInt8) (w : World) :
    Calls Tryd.prog 114 #[.int .u8 c.toNat] w fun e w' => e = .returned (.int .u8 ((c.toNat ||| 32 : Nat) : Int)) ∧ w' = w := by
  have hb := lower_bits c
  obtain ⟨L, hL⟩ : ∃ L : Nat, c.toNat ||| 32 = L := ⟨_, rfl⟩
  rw [hL] at hb ⊢
  go_enter Tryd.func114, Tryd.ntmps114
  go_wp2
  go_ret
  exact ⟨rfl, rfl⟩

/-- what the inner reader hands back -/
def hexT : Option Nat → Value
  | some x => .tuple #[.int .u64 x, .nilIface]
  | none => .tuple #[.int .u64 0, .iface 132 (.int .i64 2)]

set_option maxHeartbeats 32000000 in
set_option maxRecDepth 100000 in
theorem innerUint_hex (t : ByteArray) (h2 : t.size = 2) (w : World) :
    Calls Tryd.prog 103 #[.string t, .int .i64 16, .int .i64 8] w fun e w' => e = .returned (hexT (W.hexP 0 t.data.toList)) ∧ w' = Lib.bytesWorld w 5 t := by
  have hemp : t.toList.isEmpty = false := by
    rw [← decide_eq_emptyBytes]
    exact decide_eq_false (fun h => by rw [h] at h2; exact absurd h2 (by decide))
  have hcv := Lib.run_convert_string_bytes (P := Tryd.prog) w 9 59 5 t (u := .string) Tryd.underlying9 Tryd.underlying59 Tryd.underlying5
  have hB : ∀ j, j < t.size → (Lib.bytesWorld w 5 t).cell? ⟨w.heap.size, j, none⟩ = some (.int .u8 (t.data.toList.getD j 0).toNat) := fun j hj => Lib.bytesWorld_cell w 5 t j hj
  obtain ⟨W1, hW1⟩ : ∃ W1, W1 = Lib.bytesWorld w 5 t := ⟨_, rfl⟩
  rw [← hW1] at hcv hB ⊢
  clear hW1
  obtain ⟨bs, hL⟩ : ∃ bs, bs = t.data.toList := ⟨_, rfl⟩
  have hLn : bs.length = t.size := by rw [hL, Lib.size_eq]
  rw [← hL] at hB ⊢
  clear hL
  obtain ⟨RES, hRES⟩ : ∃ RES, W.hexP 0 bs = RES := ⟨_, rfl⟩
  rw [hRES]
  have hmv : IntKind.u64.wrap (IntKind.u64.wrap 256 - 1) = 255 := by
    rw [IntKind.wrap_u64, IntKind.wrap_u64]
    decide
  go_enter Tryd.func103, Tryd.ntmps103
  go_wp2
  go_loop [12, 13, 101] (fun vu vn vi => ∃ (k acc : Nat) (a : Int), vu = .bool false ∧ vn = .int .u64 a ∧ vi = .int .i64 k ∧ k ≤ 2 ∧ Hid (a = (acc : Int) ∧ (k ≤ 1 → acc ≤ 15) ∧ acc ≤ 255 ∧ (k = 0 → acc = 0) ∧ W.hexP acc (bs.drop k) = RES))
    (fun _ _ vi => 2 - (intOf vi).toNat)
  case atStart => exact ⟨0, 0, 0, rfl, rfl, rfl, by omega, rfl, by omega, by omega, by omega, hRES⟩
  case round =>
    obtain ⟨k, acc, a, rfl, rfl, rfl, hk, hh⟩ := hrel
    obtain ⟨ha, hk1, hacc, hk0, hd⟩ := hh.out
    clear hh
    have a0 : 0 ≤ a := by omega
    have a1 : a ≤ 255 := by omega
    clear hRES
    by_cases hkn : k < 2
    · have hc := hB k (by omega)
      have hdrop : bs.drop k = bs[k]'(by omega) :: bs.drop (k + 1) := List.drop_eq_getElem_cons (by omega)
      have hget : bs.getD k 0 = bs[k]'(by omega) := by simp [List.getD, List.getElem?_eq_getElem (show k < bs.length by omega)]
      rw [hdrop] at hd
      rw [hget] at hc
      generalize bs[k]'(by omega) = c at hc hd
      have hc256 : c.toNat < 256 := c.toNat_lt
      have hl256 : (c.toNat ||| 32) < 256 := by have := (c ||| 32).toNat_lt; rwa [UInt8.toNat_or] at this
      have a2 : a ≤ 15 := by have := hk1 (by omega); omega
      have cL := fun w' : World => lower_any c w'
      have hl : decide ((k : Int) < (t.size : Int)) = true := by simp; omega
      clear hB hdrop hget
      have hstep : ∀ d : Nat, d < 16 → W.hexV c = some d → Hid (a * 16 + (d : Int) = ((acc * 16 + d : Nat) : Int) ∧ (k + 1 ≤ 1 → acc * 16 + d ≤ 15) ∧ acc * 16 + d ≤ 255 ∧ (k + 1 = 0 → acc * 16 + d = 0) ∧ W.hexP (acc * 16 + d) (bs.drop (k + 1)) = RES) := by
        intro d hd16 hv
        rw [W.hexP_some _ _ _ _ hv] at hd
        exact ⟨by omega, by intro h; have := hk0 (by omega); omega, by omega, by omega, hd⟩
      have hnone : W.hexV c = none → Hid (RES = none) := by
        intro hv
        rw [W.hexP_none _ _ _ hv] at hd
        exact hd.symm
      clear hd hk1 hk0 hacc ha
      by_cases hdig : 48 ≤ c.toNat ∧ c.toNat ≤ 57
      · have hv : W.hexV c = some (c.toNat - 48) := by unfold W.hexV; rw [if_pos hdig]
        have HN := hstep _ (by omega) hv
        have e0 : ((c.toNat : Int) == 95) = false := beq_eq_false_iff_ne.2 (by omega)
        have e1 : decide ((48 : Int) ≤ (c.toNat : Int)) = true := by simp; omega
        have e2 : decide ((c.toNat : Int) ≤ 57) = true := by simp; omega
        have iov : a * 16 + ((c.toNat : Int) - 48) ≤ 255 := by omega
        clear hv hstep hnone
        go_wp2_with fail
        refine ⟨⟨k + 1, acc * 16 + (c.toNat - 48), a * 16 + ((c.toNat - 48 : Nat) : Int), rfl, (by first | rfl | (congr 1; omega)), (by first | rfl | (congr 1; omega)), by omega, HN⟩, by simp [intOf]; omega⟩
      · obtain ⟨L, hLL⟩ : ∃ L : Nat, c.toNat ||| 32 = L := ⟨_, rfl⟩
        have hV : W.hexV c = if 97 ≤ L ∧ L ≤ 102 then some (L - 87) else none := by unfold W.hexV; rw [if_neg hdig, hLL]
        have hu : c.toNat = 95 → ¬ (97 ≤ L ∧ L ≤ 122) := by
          intro h; rw [h] at hLL; subst hLL; decide
        rw [hLL] at hl256 cL
        clear hLL
        have e95 : ∀ q, decide (c.toNat = 95) = q → ((c.toNat : Int) == 95) = q := by
          intro q h; rw [← h]
          by_cases h' : c.toNat = 95
          · rw [h']; rfl
          · rw [decide_eq_false h']; exact beq_eq_false_iff_ne.2 (by omega)
        have hdg : decide ((48 : Int) ≤ (c.toNat : Int)) = false ∨ (decide ((48 : Int) ≤ (c.toNat : Int)) = true ∧ decide ((c.toNat : Int) ≤ 57) = false) := by
          by_cases h : 48 ≤ c.toNat
          · right; exact ⟨by simp; omega, by simp; omega⟩
          · left; simp; omega
        by_cases hlet : 97 ≤ L ∧ L ≤ 122
        · have e0 := e95 false (decide_eq_false (fun h => hu h hlet))
          have e3 : decide ((97 : Int) ≤ (L : Int)) = true := by simp; omega
          have e4 : decide ((L : Int) ≤ 122) = true := by simp; omega
          by_cases h6 : L ≤ 102
          · have HN := hstep (L - 87) (by omega) (by rw [hV, if_pos (by omega)])
            have iov : a * 16 + ((L : Int) - 97 + 10) ≤ 255 := by omega
            obtain ⟨hlet0, -⟩ := hlet
            clear hV hu e95 hstep hnone hdig
            rcases hdg with e1 | ⟨e1, e2⟩
            all_goals
              go_wp2_with (go_at_call 114; refine (cL _).mono ?_; rintro e w' ⟨rfl, rfl⟩)
              refine ⟨⟨k + 1, acc * 16 + (L - 87), a * 16 + ((L - 87 : Nat) : Int), rfl, (by first | rfl | (congr 1; omega)), (by first | rfl | (congr 1; omega)), by omega, HN⟩, by simp [intOf]; omega⟩
          · have HN := hnone (by rw [hV, if_neg (by omega)])
            obtain ⟨hlet0, hlet1⟩ := hlet
            clear hV hu e95 hstep hnone hdig
            rcases hdg with e1 | ⟨e1, e2⟩
            all_goals
              go_wp2_with (go_at_call 114; refine (cL _).mono ?_; rintro e w' ⟨rfl, rfl⟩)
              go_ret2
              exact ⟨by rw [HN.out]; rfl, rfl⟩
        · have HN := hnone (by rw [hV, if_neg (by omega)])
          have hlt : decide ((97 : Int) ≤ (L : Int)) = false ∨ (decide ((97 : Int) ≤ (L : Int)) = true ∧ decide ((L : Int) ≤ 122) = false) := by
            by_cases h : 97 ≤ L
            · right; exact ⟨by simp; omega, by simp; omega⟩
            · left; simp; omega
          clear hV hu hstep hnone hdig hlet
          by_cases h95 : c.toNat = 95
          all_goals
            have e0 := e95 _ (by first | exact decide_eq_true h95 | exact decide_eq_false h95)
            clear e95 h95
            rcases hdg with e1 | ⟨e1, e2⟩
            all_goals
              rcases hlt with e3 | ⟨e3, e4⟩
              all_goals
                go_wp2_with (go_at_call 114; refine (cL _).mono ?_; rintro e w' ⟨rfl, rfl⟩)
                go_ret2
                exact ⟨by rw [HN.out]; rfl, rfl⟩
    · obtain rfl : k = 2 := by omega
      rw [List.drop_of_length_le (by omega)] at hd
      have hl : decide ((2 : Int) < (t.size : Int)) = false := by simp; omega
      have HD : Hid (RES = some acc) := hd.symm
      subst ha
      clear hd hB hk1 hk0 hacc a0 a1
      go_wp2_with fail
      go_ret2
      exact ⟨by rw [HD.out]; rfl, rfl⟩
end Go.Proofs.YtohdifffdgoaaaaDoor
