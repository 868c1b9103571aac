/- Sums and numbers of signs, as contracts with one answer each. -/
import Derived.Test.YtohdifffdgoaaaaDoorVDo1
import Derived.Test.YtohdifffdgoaaaaDoorVDivW
namespace Go.Proofs.YtohdifffdgoaaaaDoor
open Go.RowKit
open Go.Lib (hid)

/-- the sum of two wide numbers, whatever their signs -/
theorem plus_any (m m' : Bool) (a b c d a' b' c' d' : Nat) (w : World) (ha : small4 a b c d) (ha' : small4 a' b' c' d') (hT : digs a b c d + digs a' b' c' d' < 340282366920938463463374607431768211456) :
    Calls Tryd.prog 51 #[.agg #[.bool m, .int .u64 a, .int .u64 b, .int .u64 c, .int .u64 d], .agg #[.bool m', .int .u64 a', .int .u64 b', .int .u64 c', .int .u64 d']] w fun e w' => ∃ (q : Bool) (x y z u : Nat), e = .returned (.agg #[.bool q, .int .u64 x, .int .u64 y, .int .u64 z, .int .u64 u]) ∧ sgnd q (digs x y z u) = sgnd m (digs a b c d) + sgnd m' (digs a' b' c' d') ∧ small4 x y z u ∧ Below w.heap.size w w' := by
  by_cases hm : m = m'
  · subst hm
    refine (plus_same m a b c d a' b' c' d' w ha ha' hT).mono ?_
    rintro e w' ⟨x, y, z, u, rfl, h1, h2, h3⟩
    refine ⟨m, x, y, z, u, rfl, ?_, h2, h3⟩
    rw [h1]
    cases m <;> simp [sgnd] <;> omega
  · have hm' : (m == m') = false := by simpa using hm
    cases hl : lessB a b c d a' b' c' d'
    · have hle := lessB_false ha ha' hl
      refine (plus_no m m' hm' a b c d a' b' c' d' w ha ha' hl).mono ?_
      rintro e w' ⟨x, y, z, u, rfl, h1, h2, h3⟩
      refine ⟨m, x, y, z, u, rfl, ?_, h2, h3⟩
      rw [h1]
      cases m <;> cases m' <;> simp [sgnd] at hm ⊢ <;> omega
    · have hle := lessB_true ha ha' hl
      refine (plus_yes m m' hm' a b c d a' b' c' d' w ha ha' hl).mono ?_
      rintro e w' ⟨x, y, z, u, rfl, h1, h2, h3⟩
      refine ⟨m', x, y, z, u, rfl, ?_, h2, h3⟩
      rw [h1]
      cases m <;> cases m' <;> simp [sgnd] at hm ⊢ <;> omega

/-- a wide number as a value, or what it is not -/
theorem number_any2 (m : Bool) (a b c d : Nat) (w : World) (ha : small4 a b c d) (R : V.Res) (hR : V.ranged (sgnd m (digs a b c d)) = R) :
    Calls Tryd.prog 50 #[.agg #[.bool m, .int .u64 a, .int .u64 b, .int .u64 c, .int .u64 d]] w fun e w' => e = .returned (.tuple #[.agg #[.int .u8 R.k, .int .i64 R.n, .bool false, .string ⟨#[]⟩], .int .i64 R.e]) ∧ Below w.heap.size w w' := by
  subst hR
  by_cases h : digs a b c d ≤ (if m then 9223372036854775808 else 9223372036854775807)
  · have e : V.ranged (sgnd m (digs a b c d)) = V.num (sgnd m (digs a b c d)) := by
      unfold V.ranged
      rw [if_pos]
      cases m <;> simp [sgnd] at h ⊢ <;> omega
    rw [e]
    exact number_yes m a b c d w ha h
  · have e : V.ranged (sgnd m (digs a b c d)) = V.over := by
      unfold V.ranged
      rw [if_neg]
      cases m <;> simp [sgnd] at h ⊢ <;> omega
    rw [e]
    exact number_over m a b c d w ha (by omega)
end Go.Proofs.YtohdifffdgoaaaaDoor
