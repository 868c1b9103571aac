/- The walks of key.seven and key.uvarint. -/
import Derived.Test.YtfadnhihcobclaaDoorKPlainD
import Derived.Test.YtfadnhihcobclaaDoorKGet
namespace Go.Proofs.YtfadnhihcobclaaDoor
open Go.RowKit
open Go.Lib (hid)
open K
def sevV : Option (Nat × Nat) → Value
  | none => .tuple #[.int .u64 0, .int .i64 0]
  | some p => .tuple #[.int .u64 p.1, .int .i64 p.2]
theorem and127 (m : Nat) (h : m < 256) : bits .and .u8 (m : Int) 127 = ((m % 128 : Nat) : Int) := by
  have h1 := u8_and_nat m 127 h (by omega)
  have e : ∀ x : Fin 256, x.val &&& 127 = x.val % 128 := by decide +kernel
  have e2 := e ⟨m, h⟩
  simp only at e2
  rw [e2] at h1
  exact h1
theorem or_high (a y n : Nat) (h : a < 2 ^ n) : a ||| (y * 2 ^ n) = a + y * 2 ^ n := by
  have := Nat.two_pow_add_eq_or_of_lt (i := n) (b := a) h y
  rw [Nat.or_comm, Nat.mul_comm y, ← this]; omega
theorem sev_bound (k acc y : Nat) (hk : k ≤ 9) (ha : acc < 2 ^ (7 * k)) (hy : y < 128) (h9 : k = 9 → y ≤ 1) : acc + y * 2 ^ (7 * k) < 18446744073709551616 := by
  rcases (by omega : k ≤ 8 ∨ k = 9) with h | h
  · have h1 : 2 ^ (7 * k) ≤ 2 ^ 56 := Nat.pow_le_pow_right (by decide) (by omega)
    have h2 : y * 2 ^ (7 * k) ≤ 127 * 2 ^ (7 * k) := Nat.mul_le_mul_right _ (by omega)
    omega
  · subst h
    have := h9 rfl
    rw [show 2 ^ (7 * 9) = 9223372036854775808 from rfl] at *
    omega
theorem ret_sev {a b : Option (Nat × Nat)} (h : a = b) : Ending.returned (sevV a) = .returned (sevV b) := by rw [h]
set_option maxRecDepth 100000 in
set_option maxHeartbeats 4000000 in
theorem seven_any (s : ByteArray) (w : World) (hs : s.size ≤ 4000000) :
    Calls Tryd.prog 53 #[.string s] w fun e w' => e = .returned (sevV (sevF 10 s.data.toList)) ∧ w' = w := by
  obtain ⟨R, hR⟩ : ∃ R, sevF 10 s.data.toList = R := ⟨_, rfl⟩
  rw [hR]
  have HR := hid hR
  clear hR
  go_enter Tryd.func53, Tryd.ntmps53
  go_wp2_with fail
  go_loop [4, 10] (fun v i => ∃ (k acc : Nat), k ≤ 10 ∧ k ≤ s.size ∧ i = .int .i64 k ∧ v = .int .u64 acc ∧ acc < 2 ^ (7 * k) ∧ Hid (R = (sevF (10 - k) (s.data.toList.drop k)).map fun p => (acc + 2 ^ (7 * k) * p.1, p.2 + k))) (fun _ i => 10 - (intOf i).toNat)
  case atStart => exact ⟨0, 0, by omega, by omega, rfl, rfl, by decide, by show R = _; rw [HR.out.symm]; simp⟩
  case round =>
    obtain ⟨k, acc, hk, hks, rfl, rfl, hacc, hI⟩ := hrel
    clear HR
    by_cases hlt : k < 10 ∧ k < s.size
    · obtain ⟨hk10, hks'⟩ := hlt
      have hl : decide ((k : Int) < min (s.size : Int) 10) = true := by simp; omega
      have hd := drop_cons s k hks'
      have hI2 := hI.out
      rw [hd, show 10 - k = (9 - k) + 1 by omega, sevF] at hI2
      have hc8 := s[k].toNat_lt
      obtain ⟨x, hx⟩ : ∃ x, s[k].toNat = x := ⟨_, rfl⟩
      rw [hx] at hI2 hc8
      clear hd hI
      by_cases h9 : k = 9 ∧ 1 < x
      · obtain ⟨h9, h1x⟩ := h9
        have t0 : decide ((1 : Int) < (x : Int)) = true := by simp; omega
        have q0 : ((k : Int) == 9) = true := by simp; omega
        rw [if_pos ⟨by omega, h1x⟩] at hI2
        have HE := hid (p := R = none) hI2
        clear hI2 h9
        go_wp2_with fail
        go_ret2
        exact ⟨ret_sev (a := none) HE.out.symm, rfl⟩
      · have t1 : ((k : Int) == 9 && decide ((1 : Int) < (x : Int))) = false := by
          rw [Bool.and_eq_false_iff, beq_eq_false_iff_ne, decide_eq_false_iff_not]; omega
        rw [if_neg (by omega)] at hI2
        have hy := sev_bound k acc (x % 128) (by omega) hacc (by omega) (by omega)
        have hand := and127 x hc8
        have hoh := or_high acc (x % 128) (7 * k) hacc
        obtain ⟨y, hyy⟩ : ∃ y, x % 128 = y := ⟨_, rfl⟩
        rw [hyy] at hy hand hoh
        have hpw : ((y : Int) * 2 ^ (7 * k)) = ((y * 2 ^ (7 * k) : Nat) : Int) := by simp
        obtain ⟨B, hB⟩ : ∃ B, y * 2 ^ (7 * k) = B := ⟨_, rfl⟩
        rw [hB] at hy hoh hpw
        have hsh : IntKind.u64.wrap ((y : Int) * 2 ^ (7 * k)) = (B : Int) := by rw [hpw, IntKind.wrap_u64]; omega
        have hw1 : IntKind.u64.wrap (y : Int) = (y : Int) := by rw [IntKind.wrap_u64]; omega
        have hor : bits .or .u64 (acc : Int) (B : Int) = ((acc + B : Nat) : Int) := by
          have := bits_or_u64_nat acc B (by omega) (by omega)
          rw [hoh] at this; exact this
        have HB := hid hB
        have HY := hid hyy
        have HA := hid hacc
        have hk0 : (0 : Int) ≤ 7 * (k : Int) := by omega
        have hk1 : 7 * (k : Int) ≤ 63 := by omega
        clear hpw hoh hyy hB hacc hy
        by_cases h128 : x < 128
        · have t0 : decide ((x : Int) < 128) = true := by simp; omega
          rw [if_pos h128] at hI2
          have HE := hid (p := R = _) hI2
          have HN : Hid (some (acc + B, k + 1) = R) := by
            show _ = _
            rw [HE.out, ← HB.out, ← HY.out, Nat.mod_eq_of_lt h128, Nat.mul_comm, Nat.add_comm k]; rfl
          clear hI2 HE
          by_cases hk9 : k = 9
          · have q0 : ((k : Int) == 9) = true := by simp; omega
            have q1 : decide ((1 : Int) < (x : Int)) = false := by simp; omega
            clear t1 hk9 h9
            go_wp2_with fail
            go_ret2
            exact ⟨ret_sev (a := some (acc + B, k + 1)) HN.out, rfl⟩
          · have q0 : ((k : Int) == 9) = false := by simp; omega
            clear t1
            go_wp2_with fail
            go_ret2
            exact ⟨ret_sev (a := some (acc + B, k + 1)) HN.out, rfl⟩
        · have t0 : decide ((x : Int) < 128) = false := by simp; omega
          have q0 : ((k : Int) == 9) = false := by simp; omega
          rw [if_neg h128] at hI2
          have HE := hid (p := R = _) hI2
          have HN : Hid (R = (sevF (10 - (k + 1)) (s.data.toList.drop (k + 1))).map fun p => (acc + B + 2 ^ (7 * (k + 1)) * p.1, p.2 + (k + 1))) := by
            show _ = _
            rw [HE.out, ← HB.out, ← HY.out, show 10 - (k + 1) = 9 - k by omega, Option.map_map]
            congr 1
            funext p
            simp only [Function.comp]
            have e1 : x % 128 = x - 128 := by omega
            have e2 : 2 ^ (7 * (k + 1)) = 2 ^ (7 * k) * 128 := by rw [Nat.mul_add, Nat.pow_add]
            rw [e1, e2, Nat.mul_add, Nat.mul_comm (x - 128), Nat.mul_assoc]
            congr 1
            · omega
            · omega
          have HA2 : acc + B < 2 ^ (7 * (k + 1)) := by
            have e2 : 2 ^ (7 * (k + 1)) = 2 ^ (7 * k) * 128 := by rw [Nat.mul_add, Nat.pow_add]
            have h1 := HA.out
            have h2 := HB.out
            have h3 := HY.out
            have h4 : y * 2 ^ (7 * k) ≤ 127 * 2 ^ (7 * k) := Nat.mul_le_mul_right _ (by omega)
            omega
          have HA3 := hid HA2
          clear t1 hI2 HE HA2
          go_wp2_with fail
          go_round
          case rel => exact ⟨k + 1, acc + B, by omega, by omega, by go_num, rfl, HA3.out, HN⟩
          case measure => simp [intOf]; omega
    · have hl : decide ((k : Int) < min (s.size : Int) 10) = false := by simp; omega
      have HE : Hid (R = none) := by
        show _ = _
        rw [hI.out]
        rcases (by omega : k = 10 ∨ k = s.size) with rfl | rfl
        · simp [sevF]
        · rw [List.drop_of_length_le (by rw [Array.length_toList]; exact Nat.le_refl _)]
          cases 10 - s.size <;> rfl
      clear hI
      go_wp2_with fail
      go_ret2
      exact ⟨ret_sev (a := none) HE.out.symm, rfl⟩
def uvV : Option (Nat × List UInt8) → Value
  | none => .tuple #[.int .u64 0, .string ⟨#[]⟩, .bool false]
  | some p => .tuple #[.int .u64 p.1, .string ⟨p.2.toArray⟩, .bool true]
theorem ret_uv {a b : Option (Nat × List UInt8)} (h : a = b) : Ending.returned (uvV a) = .returned (uvV b) := by rw [h]
set_option maxRecDepth 100000 in
set_option maxHeartbeats 4000000 in
theorem uvarint_any (s : ByteArray) (w : World) (hs : s.size ≤ 4000000) :
    Calls Tryd.prog 45 #[.string s] w fun e w' => e = .returned (uvV (uvar s.data.toList)) ∧ Below w.heap.size w w' := by
  have c7 := seven_any s w hs
  unfold uvar
  cases h7 : sevF 10 s.data.toList with
  | none =>
    rw [h7] at c7
    simp only [sevV] at c7
    clear h7
    go_enter Tryd.func45, Tryd.ntmps45
    go_wp2_with fail
    refine c7.mono ?_
    rintro e w1 ⟨rfl, rfl⟩
    go_wp2_with fail
    go_ret3
    exact ⟨rfl, Below.refl _ _⟩
  | some p =>
    obtain ⟨n, u⟩ := p
    obtain ⟨hu1, hu2, hu3⟩ := sevF_len 10 _ n u h7
    have hu4 : u ≤ s.size := by rw [Array.length_toList] at hu2; exact hu2
    rw [h7] at c7
    simp only [sevV] at c7
    clear h7 hu2
    simp only
    have t0 : decide ((u : Int) ≤ 0) = false := by simp; omega
    have hsub : IntKind.i64.wrap ((u : Int) - 1) = (u : Int) - 1 := by rw [IntKind.wrap_i64]; omega
    have HE := hid (p := s.extract u s.size = _) (extract_eq s u)
    by_cases h1 : 1 < u
    · have t1 : decide ((1 : Int) < (u : Int)) = true := by simp; omega
      obtain ⟨x, hx⟩ : ∃ x, s[u - 1] = x := ⟨_, rfl⟩
      have hg : s.data.toList[u - 1]? = some x := by
        rw [List.getElem?_eq_getElem (by rw [Array.length_toList]; show u - 1 < s.size; omega)]
        rw [← hx]; rfl
      rw [hg]
      by_cases h0 : x = 0
      · rw [if_pos ⟨h1, by rw [h0]⟩]
        have q0 : ((s[u - 1].toNat : Int) == 0) = true := by rw [hx, h0]; rfl
        clear hg hx h0
        go_enter Tryd.func45, Tryd.ntmps45
        go_wp2_with fail
        refine c7.mono ?_
        rintro e w1 ⟨rfl, rfl⟩
        go_wp2_with fail
        go_ret3
        exact ⟨rfl, Below.refl _ _⟩
      · rw [if_neg (fun e => h0 (Option.some.inj e.2))]
        have q0 : ((s[u - 1].toNat : Int) == 0) = false := by rw [hx, beq_eq_false_iff_ne]; exact fun e => h0 (u8eq (b := 0) (by show _ = 0; omega))
        clear hg hx h0
        go_enter Tryd.func45, Tryd.ntmps45
        go_wp2_with fail
        refine c7.mono ?_
        rintro e w1 ⟨rfl, rfl⟩
        go_wp2_with fail
        go_quiet (fail)
        go_wp2_with fail
        go_ret3
        rw [HE.out]
        exact ⟨rfl, below_drewK (Below.refl _ _) _⟩
    · have t1 : decide ((1 : Int) < (u : Int)) = false := by simp; omega
      rw [if_neg (fun e => h1 e.1)]
      go_enter Tryd.func45, Tryd.ntmps45
      go_wp2_with fail
      refine c7.mono ?_
      rintro e w1 ⟨rfl, rfl⟩
      go_wp2_with fail
      go_quiet (fail)
      go_wp2_with fail
      go_ret3
      rw [HE.out]
      exact ⟨rfl, below_drewK (Below.refl _ _) _⟩
end Go.Proofs.YtfadnhihcobclaaDoor
