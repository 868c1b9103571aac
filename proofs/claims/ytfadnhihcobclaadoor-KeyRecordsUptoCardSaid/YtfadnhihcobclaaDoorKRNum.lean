/- The walk of the reference's num. -/
import Derived.Test.YtfadnhihcobclaaDoorKSeven
namespace Go.Proofs.YtfadnhihcobclaaDoor
open Go.RowKit
open Go.Lib (hid)
open K
namespace K
/-- a count and how many bytes it takes -/
def uv2 (l : List UInt8) : Option (Nat × Nat) := match sevF 10 l with
  | none => none
  | some p => if 1 < p.2 ∧ l[p.2 - 1]? = some 0 then none else some p
theorem uvar_uv2 (l : List UInt8) : uvar l = (uv2 l).map fun p => (p.1, l.drop p.2) := by
  unfold uvar uv2
  cases sevF 10 l with
  | none => rfl
  | some p =>
    simp only
    split <;> rfl
def numV (at_ : Nat) : Option (Nat × Nat) → Value
  | none => .tuple #[.int .u64 0, .int .i64 (-1)]
  | some p => .tuple #[.int .u64 p.1, .int .i64 ((at_ + p.2 : Nat) : Int)]
theorem uv2_len {l : List UInt8} {n u : Nat} (h : uv2 l = some (n, u)) : 1 ≤ u ∧ u ≤ l.length ∧ n < 18446744073709551616 := by
  unfold uv2 at h
  cases hs : sevF 10 l with
  | none => rw [hs] at h; cases h
  | some p =>
    rw [hs] at h
    simp only at h
    split at h
    · cases h
    · simp only [Option.some.injEq] at h
      subst h
      have h1 := sevF_len 10 l n u hs
      have h2 := sevF_lt 9 l n u hs
      exact ⟨h1.1, h1.2.1, h2⟩
end K
theorem ret_num {at_ : Nat} {a b : Option (Nat × Nat)} (h : a = b) : Ending.returned (numV at_ a) = .returned (numV at_ b) := by rw [h]
theorem wrap_top (x : Nat) : IntKind.u64.wrap ((x : Int) * 2 ^ 63) = ((x % 2 * 9223372036854775808 : Nat) : Int) := by
  rw [IntKind.wrap_u64]
  omega
set_option maxRecDepth 100000 in
set_option maxHeartbeats 8000000 in
theorem rnum_any (s : ByteArray) (a : Nat) (w : World) (hs : s.size ≤ 4000000) (ha : a ≤ s.size) :
    Calls Tryd.prog 54 #[.string s, .int .i64 a] w fun e w' => e = .returned (numV a (uv2 (s.data.toList.drop a))) ∧ w' = w := by
  obtain ⟨U, hU⟩ : ∃ U, uv2 (s.data.toList.drop a) = U := ⟨_, rfl⟩
  obtain ⟨R, hR⟩ : ∃ R, sevF 10 (s.data.toList.drop a) = R := ⟨_, rfl⟩
  rw [hU]
  unfold uv2 at hU
  rw [hR] at hU
  have HR := hid hR
  have HU := hid hU
  clear hR hU
  go_enter Tryd.func54, Tryd.ntmps54
  go_wp2_with fail
  go_loop [6, 7, 8] (fun v pl iv => ∃ (k acc i p : Nat), k ≤ 10 ∧ i ≤ s.size ∧ a ≤ i ∧ v = .int .u64 acc ∧ pl = .int .i64 p ∧ iv = .int .i64 i ∧ Hid (i = a + k ∧ p = 7 * k ∧ acc < 2 ^ p) ∧ Hid (R = (sevF (10 - k) (s.data.toList.drop i)).map fun q => (acc + 2 ^ p * q.1, q.2 + k))) (fun _ _ i => s.size - (intOf i).toNat)
  case atStart => exact ⟨0, 0, a, 0, by omega, ha, Nat.le_refl _, rfl, rfl, rfl, ⟨by omega, by omega, by decide⟩, by show R = _; rw [← HR.out]; simp⟩
  case round =>
    obtain ⟨k, acc, i, p, hk, his, hai, rfl, rfl, rfl, hQ, hI⟩ := hrel
    by_cases hlt : i < s.size
    · have hl : decide ((i : Int) < (s.size : Int)) = true := by simp; omega
      by_cases hk10 : k = 10
      · have hp64 : decide ((p : Int) < 64) = false := by have := hQ.out.2.1; simp; omega
        have HE : Hid (none = U) := by
          show _ = _
          have h1 := hI.out
          rw [hk10] at h1
          simp only [Nat.sub_self, sevF, Option.map_none] at h1
          have h2 := HU.out
          rw [h1] at h2
          exact h2
        clear hk10 hI
        go_wp2_with fail
        go_ret2
        exact ⟨ret_num (a := none) HE.out, rfl⟩
      · have hp64 : decide ((p : Int) < 64) = true := by have := hQ.out.2.1; simp; omega
        have hp63 : (p : Int) ≤ 63 := by have := hQ.out.2.1; omega
        have hd := drop_cons s i hlt
        have hI2 := hI.out
        rw [hd, show 10 - k = (9 - k) + 1 by omega, sevF] at hI2
        have hc8 := s[i].toNat_lt
        have hgi : (s.data.toList.drop a)[k]? = some s[i] := by
          rw [List.getElem?_drop, ← hQ.out.1]
          rw [List.getElem?_eq_getElem (by rw [Array.length_toList]; exact hlt)]
          rfl
        have h0x : s[i] = 0 ↔ s[i].toNat = 0 := ⟨fun e => by rw [e]; rfl, fun e => u8eq (b := 0) e⟩
        obtain ⟨x, hx⟩ : ∃ x, s[i].toNat = x := ⟨_, rfl⟩
        rw [hx] at hI2 hc8 h0x
        have hacc : acc < 2 ^ (7 * k) := by have := hQ.out.2.2; rw [hQ.out.2.1] at this; exact this
        obtain ⟨y, hyy⟩ : ∃ y, x % 128 = y := ⟨_, rfl⟩
        have hm : (x : Int) % 128 = (y : Int) := by omega
        have hw1 : IntKind.u64.wrap (y : Int) = (y : Int) := by rw [IntKind.wrap_u64]; omega
        have HX0 := hid h0x
        have HGI := hid hgi
        clear hd hI hgi h0x
        by_cases h9 : k = 9 ∧ 1 < y
        · obtain ⟨h9, h1x⟩ := h9
          have hpe : p = 63 := by have := hQ.out.2.1; omega
          have hsh : IntKind.u64.wrap ((y : Int) * 2 ^ p) = ((y % 2 * 9223372036854775808 : Nat) : Int) := by rw [hpe]; exact wrap_top y
          obtain ⟨B, hB⟩ : ∃ B, y % 2 * 9223372036854775808 = B := ⟨_, rfl⟩
          rw [hB] at hsh
          have hdv : (B : Int) / 2 ^ p = ((y % 2 : Nat) : Int) := by rw [hpe, ← hB]; omega
          obtain ⟨z, hz⟩ : ∃ z, y % 2 = z := ⟨_, rfl⟩
          rw [hz] at hdv
          have t0 : ((z : Int) != (y : Int)) = true := by rw [bne_iff_ne]; omega
          have HE : Hid (none = U) := by
            show _ = _
            rw [if_pos ⟨by omega, by omega⟩] at hI2
            have h2 := HU.out
            rw [hI2] at h2
            exact h2
          clear h9 hpe hB hz hyy hI2
          go_wp2_with fail
          go_ret2
          exact ⟨ret_num (a := none) HE.out, rfl⟩
        · have hsb := sev_bound k acc y (by omega) hacc (by omega) (by omega)
          have hoh := or_high acc y (7 * k) hacc
          rw [← hQ.out.2.1] at hsb hoh
          have hpw : ((y : Int) * 2 ^ p) = ((y * 2 ^ p : Nat) : Int) := by simp
          have hdv0 : y * 2 ^ p / 2 ^ p = y := Nat.mul_div_cancel _ (Nat.two_pow_pos p)
          have hp2 : ((2 : Int) ^ p) = ((2 ^ p : Nat) : Int) := by simp
          obtain ⟨B, hB⟩ : ∃ B, y * 2 ^ p = B := ⟨_, rfl⟩
          rw [hB] at hsb hoh hpw hdv0
          have hsh : IntKind.u64.wrap ((y : Int) * 2 ^ p) = (B : Int) := by rw [hpw, IntKind.wrap_u64]; omega
          have hdv : (B : Int) / 2 ^ p = (y : Int) := by rw [hp2, ← Int.natCast_ediv, hdv0]
          have t0 : ((y : Int) != (y : Int)) = false := by simp
          have hor : bits .or .u64 (acc : Int) (B : Int) = ((acc + B : Nat) : Int) := by
            have := bits_or_u64_nat acc B (by omega) (by omega)
            rw [hoh] at this; exact this
          have HB := hid hB
          have HY := hid hyy
          have hai2 : (a : Int) ≤ (i : Int) := by omega
          clear hpw hoh hyy hB hacc hsb hdv0 hp2
          by_cases h128 : x < 128
          · have q0 : decide ((x : Int) < 128) = true := by simp; omega
            rw [if_neg (by have := HY.out; omega), if_pos h128] at hI2
            have HE := hid (p := R = _) hI2
            clear hI2
            by_cases h0 : x = 0 ∧ a < i
            · have q1 : ((x : Int) == 0) = true := by simp; omega
              have q2 : decide ((a : Int) < (i : Int)) = true := by simp; omega
              have HN : Hid (none = U) := by
                show _ = _
                have h2 := HU.out
                rw [HE.out] at h2
                simp only [Option.map_some] at h2
                rw [if_pos ⟨by have := hQ.out.1; omega, by rw [show 1 + k - 1 = k by omega, HGI.out, HX0.out.2 h0.1]⟩] at h2
                exact h2
              obtain ⟨h0, h0'⟩ := h0
              clear h0 h9 hk10
              go_wp2_with fail
              go_ret2
              exact ⟨ret_num (a := none) HN.out, rfl⟩
            · have HN : Hid (some (acc + B, k + 1) = U) := by
                show _ = _
                have h2 := HU.out
                rw [HE.out] at h2
                simp only [Option.map_some] at h2
                have hcond : ¬ (1 < 1 + k ∧ (s.data.toList.drop a)[1 + k - 1]? = some 0) := by
                  intro ⟨g1, g2⟩
                  rw [show 1 + k - 1 = k by omega, HGI.out] at g2
                  exact h0 ⟨HX0.out.1 (Option.some.inj g2), by have := hQ.out.1; omega⟩
                rw [if_neg hcond] at h2
                rw [← h2, ← HB.out, ← HY.out, Nat.mod_eq_of_lt h128, Nat.mul_comm, Nat.add_comm k]
              have HA : Hid (a + (k + 1) = i + 1) := by show _ = _; have := hQ.out.1; omega
              by_cases h00 : x = 0
              · have q1 : ((x : Int) == 0) = true := by simp; omega
                have q2 : decide ((a : Int) < (i : Int)) = false := by simp; omega
                have hia : (i : Int) ≤ (a : Int) := by omega
                clear h0 h00 h9 hk10
                go_wp2_with fail
                go_ret2
                refine ⟨?_, rfl⟩
                rw [← HN.out, numV, HA.out]; rfl
              · have q1 : ((x : Int) == 0) = false := by simp; omega
                clear h0 h00 h9 hk10
                go_wp2_with fail
                go_ret2
                refine ⟨?_, rfl⟩
                rw [← HN.out, numV, HA.out]; rfl
          · have q0 : decide ((x : Int) < 128) = false := by simp; omega
            have HN : Hid (R = (sevF (10 - (k + 1)) (s.data.toList.drop (i + 1))).map fun q => (acc + B + 2 ^ (p + 7) * q.1, q.2 + (k + 1))) := by
              show _ = _
              by_cases hk9 : k = 9
              · rw [if_pos ⟨by omega, by omega⟩] at hI2
                rw [hI2, hk9]
                rfl
              · rw [if_neg (by omega), if_neg h128] at hI2
                rw [hI2, ← HB.out, ← HY.out, show 10 - (k + 1) = 9 - k by omega, Option.map_map]
                congr 1
                funext q
                simp only [Function.comp]
                have e1 : x % 128 = x - 128 := by omega
                rw [e1, show 2 ^ (p + 7) = 2 ^ p * 128 by rw [Nat.pow_add], Nat.mul_add, Nat.mul_comm (x - 128), Nat.mul_assoc]
                congr 1
                · omega
                · omega
            have HQ2 : Hid (i + 1 = a + (k + 1) ∧ p + 7 = 7 * (k + 1) ∧ acc + B < 2 ^ (p + 7)) := by
              have h1 := hQ.out
              have h2 := HB.out
              have h3 := HY.out
              refine ⟨by omega, by omega, ?_⟩
              have h4 : y * 2 ^ p ≤ 127 * 2 ^ p := Nat.mul_le_mul_right _ (by omega)
              have h5 := h1.2.2
              rw [show 2 ^ (p + 7) = 2 ^ p * 128 by rw [Nat.pow_add]]
              generalize 2 ^ p = Z at h2 h4 h5
              clear hor hsh hdv h1
              omega
            have hk11 : k + 1 ≤ 10 := by omega
            clear hI2 h9 hk10
            go_wp2_with fail
            go_round
            case rel => exact ⟨k + 1, acc + B, i + 1, p + 7, hk11, by omega, by omega, rfl, by go_num, by go_num, HQ2, HN⟩
            case measure => simp [intOf]; omega
    · have hl : decide ((i : Int) < (s.size : Int)) = false := by simp; omega
      have HE : Hid (none = U) := by
        show _ = _
        have h1 := hI.out
        rw [List.drop_of_length_le (by rw [Array.length_toList]; show s.size ≤ i; omega)] at h1
        have h3 : sevF (10 - k) [] = none := by cases 10 - k <;> rfl
        rw [h3] at h1
        have h2 := HU.out
        rw [h1] at h2
        exact h2
      clear hI
      go_wp2_with fail
      go_ret2
      exact ⟨ret_num (a := none) HE.out, rfl⟩
end Go.Proofs.YtfadnhihcobclaaDoor
