/- The program's reckonings, each with one answer. -/
import Derived.Test.YtohdifffdgoaaaaDoorVOps
import Derived.Test.YtohdifffdgoaaaaDoorVOps2
import Derived.Test.YtohdifffdgoaaaaDoorVOps3
namespace Go.Proofs.YtohdifffdgoaaaaDoor
open Go.RowKit
open Go.Lib (hid)
namespace V
def divR (n n' : Int) : Res := if n' = 0 then over else ranged (n.tdiv n')
def modR (n n' : Int) : Res := if n' = 0 then over else ranged (n.tmod n')
/-- what a reckoning of two values answers -/
def on (f : Int → Int → Res) (v u : Val) : Res := if isInt v && isInt u then f v.n u.n else typ
/-- what a contract of a reckoning says -/
def Answers (R : Res) (w : World) (e : Ending) (w' : World) : Prop := e = .returned (.tuple #[.agg #[.int .u8 R.k, .int .i64 R.n, .bool false, .string ⟨#[]⟩], .int .i64 R.e]) ∧ Below w.heap.size w w'
theorem ranged_yes {n : Int} (h : In n) : ranged n = num n := by unfold ranged; exact if_pos h
theorem ranged_no {n : Int} (h : ¬ In n) : ranged n = over := by unfold ranged; exact if_neg h
theorem isInt_shape {k : Nat} {n : Int} {b : Bool} {s : ByteArray} (h : isInt ⟨k, n, b, s⟩ = true) : k = 1 ∧ b = false ∧ s = ⟨#[]⟩ := by
  unfold isInt at h
  rw [Bool.and_eq_true, Bool.and_eq_true] at h
  exact ⟨by simpa using h.1.1, by simpa using h.1.2, nil_of_size (of_decide_eq_true h.2)⟩
theorem tdiv_in {n n' : Int} (h : In n) (h0 : n' ≠ 0) (h1 : ¬ (n = -9223372036854775808 ∧ n' = -1)) : In (n.tdiv n') := by
  unfold In at *
  have hk := Int.natAbs_tdiv n n'
  have h2 : n.natAbs / n'.natAbs ≤ n.natAbs := Nat.div_le_self _ _
  have h3 : (n.tdiv n').natAbs = n.natAbs / n'.natAbs := hk
  by_cases hm : n = -9223372036854775808
  · have hn1 : n' ≠ -1 := fun e => h1 ⟨hm, e⟩
    by_cases h11 : n' = 1
    · subst h11; simp; exact h
    · have : 2 ≤ n'.natAbs := by omega
      have : n.natAbs / n'.natAbs ≤ n.natAbs / 2 := Nat.div_le_div_left this (by omega)
      omega
  · omega
theorem tmod_in {n n' : Int} (h' : In n') (h0 : n' ≠ 0) : In (n.tmod n') := by
  unfold In at *
  have hk : (n.tmod n').natAbs = n.natAbs % n'.natAbs := Int.natAbs_tmod n n'
  have : n.natAbs % n'.natAbs < n'.natAbs := Nat.mod_lt _ (by omega)
  omega
theorem wrap_in {n : Int} (h : In n) : wrap64 n = n := IntWalk.wrap64_in n h
theorem modR_minus (n : Int) : modR n (-1) = num 0 := by
  have e : n.tmod (-1) = 0 := by
    have hk : (n.tmod (-1)).natAbs = n.natAbs % 1 := Int.natAbs_tmod n (-1)
    omega
  unfold modR
  rw [if_neg (by decide), e]; exact ranged_yes ⟨by decide, by decide⟩
end V
open V
theorem addV (v u : Val) (w : World) (hT : Tabs w) (h : In v.n) (h' : In u.n) : Calls Tryd.prog 12 #[.agg #[.int .u8 v.k, .int .i64 v.n, .bool v.b, .string v.s], .agg #[.int .u8 u.k, .int .i64 u.n, .bool u.b, .string u.s]] w (Answers (on (fun n n' => ranged (n + n')) v u) w) := by
  obtain ⟨k, n, b, s⟩ := v
  obtain ⟨k', n', b', s'⟩ := u
  cases hv : (isInt ⟨k, n, b, s⟩ && isInt ⟨k', n', b', s'⟩)
  · rw [show on _ ⟨k, n, b, s⟩ ⟨k', n', b', s'⟩ = typ by unfold on; rw [hv]; rfl]
    exact add_typ k n b s k' n' b' s' w hT hv
  · have hv' := hv
    rw [Bool.and_eq_true] at hv'
    obtain ⟨rfl, rfl, rfl⟩ := isInt_shape hv'.1
    obtain ⟨rfl, rfl, rfl⟩ := isInt_shape hv'.2
    rw [show on _ _ _ = ranged (n + n') by unfold on; rw [hv]; rfl]
    by_cases hr : In (n + n')
    · rw [ranged_yes hr]; exact add_yes n n' w hT h h' hr
    · rw [ranged_no hr]; exact add_no n n' w hT h h' hr
theorem subV (v u : Val) (w : World) (hT : Tabs w) (h : In v.n) (h' : In u.n) : Calls Tryd.prog 15 #[.agg #[.int .u8 v.k, .int .i64 v.n, .bool v.b, .string v.s], .agg #[.int .u8 u.k, .int .i64 u.n, .bool u.b, .string u.s]] w (Answers (on (fun n n' => ranged (n - n')) v u) w) := by
  obtain ⟨k, n, b, s⟩ := v
  obtain ⟨k', n', b', s'⟩ := u
  cases hv : (isInt ⟨k, n, b, s⟩ && isInt ⟨k', n', b', s'⟩)
  · rw [show on _ ⟨k, n, b, s⟩ ⟨k', n', b', s'⟩ = typ by unfold on; rw [hv]; rfl]
    exact sub_typ k n b s k' n' b' s' w hT hv
  · have hv' := hv
    rw [Bool.and_eq_true] at hv'
    obtain ⟨rfl, rfl, rfl⟩ := isInt_shape hv'.1
    obtain ⟨rfl, rfl, rfl⟩ := isInt_shape hv'.2
    rw [show on _ _ _ = ranged (n - n') by unfold on; rw [hv]; rfl]
    by_cases hr : In (n - n')
    · rw [ranged_yes hr]; exact sub_yes n n' w hT h h' hr
    · rw [ranged_no hr]; exact sub_no n n' w hT h h' hr
theorem mulV (v u : Val) (w : World) (hT : Tabs w) (h : In v.n) (h' : In u.n) : Calls Tryd.prog 16 #[.agg #[.int .u8 v.k, .int .i64 v.n, .bool v.b, .string v.s], .agg #[.int .u8 u.k, .int .i64 u.n, .bool u.b, .string u.s]] w (Answers (on (fun n n' => ranged (n * n')) v u) w) := by
  obtain ⟨k, n, b, s⟩ := v
  obtain ⟨k', n', b', s'⟩ := u
  cases hv : (isInt ⟨k, n, b, s⟩ && isInt ⟨k', n', b', s'⟩)
  · rw [show on _ ⟨k, n, b, s⟩ ⟨k', n', b', s'⟩ = typ by unfold on; rw [hv]; rfl]
    exact mul_typ k n b s k' n' b' s' w hT hv
  · have hv' := hv
    rw [Bool.and_eq_true] at hv'
    obtain ⟨rfl, rfl, rfl⟩ := isInt_shape hv'.1
    obtain ⟨rfl, rfl, rfl⟩ := isInt_shape hv'.2
    rw [show on _ _ _ = ranged (n * n') by unfold on; rw [hv]; rfl]
    by_cases hn : n < 0 <;> by_cases hn' : n' < 0 <;> by_cases hr : In (n * n')
    · rw [ranged_yes hr]; exact mul_mm_yes n n' w hT hn hn' h h' hr
    · rw [ranged_no hr]; exact mul_mm_no n n' w hT hn hn' h h' hr
    · rw [ranged_yes hr]; exact mul_mp_yes n n' w hT hn (by omega) h h' hr
    · rw [ranged_no hr]; exact mul_mp_no n n' w hT hn (by omega) h h' hr
    · rw [ranged_yes hr]; exact mul_pm_yes n n' w hT (by omega) hn' h h' hr
    · rw [ranged_no hr]; exact mul_pm_no n n' w hT (by omega) hn' h h' hr
    · rw [ranged_yes hr]; exact mul_pp_yes n n' w hT (by omega) (by omega) h h' hr
    · rw [ranged_no hr]; exact mul_pp_no n n' w hT (by omega) (by omega) h h' hr
theorem divV (v u : Val) (w : World) (hT : Tabs w) (h : In v.n) : Calls Tryd.prog 17 #[.agg #[.int .u8 v.k, .int .i64 v.n, .bool v.b, .string v.s], .agg #[.int .u8 u.k, .int .i64 u.n, .bool u.b, .string u.s]] w (Answers (on divR v u) w) := by
  obtain ⟨k, n, b, s⟩ := v
  obtain ⟨k', n', b', s'⟩ := u
  cases hv : (isInt ⟨k, n, b, s⟩ && isInt ⟨k', n', b', s'⟩)
  · rw [show on _ ⟨k, n, b, s⟩ ⟨k', n', b', s'⟩ = typ by unfold on; rw [hv]; rfl]
    exact div_typ k n b s k' n' b' s' w hT hv
  · have hv' := hv
    rw [Bool.and_eq_true] at hv'
    obtain ⟨rfl, rfl, rfl⟩ := isInt_shape hv'.1
    obtain ⟨rfl, rfl, rfl⟩ := isInt_shape hv'.2
    rw [show on _ _ _ = divR n n' by unfold on; rw [hv]; rfl]
    unfold divR
    by_cases h0 : n' = 0
    · rw [if_pos h0]; exact div_zero n n' w hT h0
    · rw [if_neg h0]
      by_cases h1 : n = -9223372036854775808
      · by_cases h2 : n' = -1
        · subst h1 h2
          rw [show ranged ((-9223372036854775808 : Int).tdiv (-1)) = over from ranged_no (by intro hh; exact absurd hh.2 (by decide))]
          exact div_over _ _ w hT rfl rfl
        · have hr := tdiv_in h h0 (fun e => h2 e.2)
          rw [ranged_yes hr]; exact div_min n n' w hT h0 h1 h2 (wrap_in hr)
      · have hr := tdiv_in h h0 (fun e => h1 e.1)
        rw [ranged_yes hr]; exact div_yes n n' w hT h0 h1 (wrap_in hr)
theorem modV (v u : Val) (w : World) (hT : Tabs w) (h' : In u.n) : Calls Tryd.prog 18 #[.agg #[.int .u8 v.k, .int .i64 v.n, .bool v.b, .string v.s], .agg #[.int .u8 u.k, .int .i64 u.n, .bool u.b, .string u.s]] w (Answers (on modR v u) w) := by
  obtain ⟨k, n, b, s⟩ := v
  obtain ⟨k', n', b', s'⟩ := u
  cases hv : (isInt ⟨k, n, b, s⟩ && isInt ⟨k', n', b', s'⟩)
  · rw [show on _ ⟨k, n, b, s⟩ ⟨k', n', b', s'⟩ = typ by unfold on; rw [hv]; rfl]
    exact mod_typ k n b s k' n' b' s' w hT hv
  · have hv' := hv
    rw [Bool.and_eq_true] at hv'
    obtain ⟨rfl, rfl, rfl⟩ := isInt_shape hv'.1
    obtain ⟨rfl, rfl, rfl⟩ := isInt_shape hv'.2
    rw [show on _ _ _ = modR n n' by unfold on; rw [hv]; rfl]
    by_cases h0 : n' = 0
    · unfold modR; rw [if_pos h0]; exact mod_zero n n' w hT h0
    · by_cases h1 : n' = -1
      · subst h1; rw [modR_minus]; exact mod_minus n (-1) w hT rfl
      · have hr : In (n.tmod n') := tmod_in h' h0
        unfold modR
        rw [if_neg h0, ranged_yes hr]; exact mod_yes n n' w hT h0 h1 (wrap_in hr)
end Go.Proofs.YtohdifffdgoaaaaDoor
