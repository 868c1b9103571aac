/- Plain: a quotient bit by bit. No program in sight. Written by hand for this claim. -/
import Derived.RowKit
namespace Go.Proofs.YtohdifffdgoaaaaDoor
theorem half_div (A i : Nat) : A / 2 ^ i = 2 * (A / 2 ^ (i + 1)) + A / 2 ^ i % 2 := by
  have h1 : A / 2 ^ (i + 1) = A / 2 ^ i / 2 := by rw [Nat.div_div_eq_div_mul, Nat.pow_succ]
  rw [h1]; omega
theorem bit_low (a0 a1 i : Nat) (hi : i < 32) : a0 / 2 ^ i % 2 = (a0 + 4294967296 * a1) / 2 ^ i % 2 := by
  have e : (4294967296 : Nat) * a1 = 2 ^ i * (2 * (2 ^ (31 - i) * a1)) := by
    have : (4294967296 : Nat) = 2 ^ i * (2 * 2 ^ (31 - i)) := by
      rw [Nat.mul_left_comm, ← Nat.pow_add, show i + (31 - i) = 31 by omega]
    rw [this, Nat.mul_assoc, Nat.mul_assoc]
  rw [e, Nat.add_mul_div_left _ _ (Nat.pow_pos (by omega))]
  omega
theorem bit_high (a0 a1 i : Nat) (h0 : a0 < 4294967296) (hi : 32 ≤ i) : a1 / 2 ^ (i - 32) % 2 = (a0 + 4294967296 * a1) / 2 ^ i % 2 := by
  have e : (2 : Nat) ^ i = 4294967296 * 2 ^ (i - 32) := by
    have : (4294967296 : Nat) = 2 ^ 32 := by decide
    rw [this, ← Nat.pow_add, show 32 + (i - 32) = i by omega]
  rw [e, ← Nat.div_div_eq_div_mul]
  have : (a0 + 4294967296 * a1) / 4294967296 = a1 := by omega
  rw [this]
/-- one bit more, nothing taken -/
theorem quo_low {H D bt : Nat} (h : 2 * (H % D) + bt < D) : (2 * H + bt) / D = 2 * (H / D) ∧ (2 * H + bt) % D = 2 * (H % D) + bt := by
  have e := Nat.div_add_mod H D
  refine (Nat.div_mod_unique (by omega)).2 ⟨?_, h⟩
  have e2 : D * (2 * (H / D)) = 2 * (D * (H / D)) := Nat.mul_left_comm _ _ _
  omega
/-- one bit more, the divisor taken -/
theorem quo_high {H D bt : Nat} (hD : 0 < D) (hb : bt ≤ 1) (h : D ≤ 2 * (H % D) + bt) : (2 * H + bt) / D = 2 * (H / D) + 1 ∧ (2 * H + bt) % D = 2 * (H % D) + bt - D := by
  have e := Nat.div_add_mod H D
  have hl := Nat.mod_lt H hD
  refine (Nat.div_mod_unique hD).2 ⟨?_, by omega⟩
  have e2 : D * (2 * (H / D) + 1) = 2 * (D * (H / D)) + D := by rw [Nat.mul_add, Nat.mul_one, Nat.mul_left_comm]
  omega
theorem pow_low {i : Nat} (hi : i < 32) : (2 : Nat) ^ (min (i + 1) 32) = 2 * 2 ^ i ∧ (2 : Nat) ^ (min i 32) = 2 ^ i ∧ (2 : Nat) ^ (i + 1 - 32) = 1 ∧ (2 : Nat) ^ (i - 32) = 1 := by
  rw [show min (i + 1) 32 = i + 1 by omega, show min i 32 = i by omega, show i + 1 - 32 = 0 by omega, show i - 32 = 0 by omega, Nat.pow_succ, Nat.mul_comm]
  exact ⟨rfl, rfl, rfl, rfl⟩
theorem pow_high {i : Nat} (hi : 32 ≤ i) : (2 : Nat) ^ (min (i + 1) 32) = 4294967296 ∧ (2 : Nat) ^ (min i 32) = 4294967296 ∧ (2 : Nat) ^ (i + 1 - 32) = 2 * 2 ^ (i - 32) ∧ (2 : Nat) ^ i = 4294967296 * 2 ^ (i - 32) := by
  have e1 : min (i + 1) 32 = 32 := by omega
  have e2 : min i 32 = 32 := by omega
  have e3 : i + 1 - 32 = (i - 32) + 1 := by omega
  have e4 : (2 : Nat) ^ 32 = 4294967296 := by decide
  refine ⟨by rw [e1, e4], by rw [e2, e4], by rw [e3, Nat.pow_succ, Nat.mul_comm], ?_⟩
  rw [← e4, ← Nat.pow_add, show 32 + (i - 32) = i by omega]
end Go.Proofs.YtohdifffdgoaaaaDoor
