/- The walk of Mul. -/
import Derived.Test.YtohdifffdgoaaaaDoorVOps
namespace Go.Proofs.YtohdifffdgoaaaaDoor
open Go.RowKit
open Go.Lib (hid)

set_option maxRecDepth 100000 in
set_option maxHeartbeats 4000000 in
theorem mul_mm_yes (n n' : Int) (w : World) (hT : Tabs w) (hn : n < 0) (hn' : n' < 0) (h0 : -9223372036854775808 ≤ n ∧ n ≤ 9223372036854775807) (h0' : -9223372036854775808 ≤ n' ∧ n' ≤ 9223372036854775807) (hr : -9223372036854775808 ≤ n * n' ∧ n * n' ≤ 9223372036854775807) :
    Calls Tryd.prog 16 #[.agg #[.int .u8 1, .int .i64 n, .bool false, .string ⟨#[]⟩], .agg #[.int .u8 1, .int .i64 n', .bool false, .string ⟨#[]⟩]] w fun e w' => e = .returned (.tuple #[.agg #[.int .u8 1, .int .i64 (n * n'), .bool false, .string ⟨#[]⟩], .int .i64 0]) ∧ Below w.heap.size w w' := by
  have d0 : decide (n < 0) = true := by simp; omega
  have d1 : decide (n' < 0) = true := by simp; omega
  have cS := fun X => size_any n X h0.1 h0.2
  have cS' := fun X => size_any n' X h0'.1 h0'.2
  obtain ⟨a, ha⟩ : ∃ a, n.natAbs = a := ⟨_, rfl⟩
  obtain ⟨b, hb⟩ : ∃ b, n'.natAbs = b := ⟨_, rfl⟩
  rw [ha] at cS
  rw [hb] at cS'
  have cM := Tryd.bits_Mul64 a b (by omega) (by omega)
  have en : n = -(a : Int) := by omega
  have en' : n' = -(b : Int) := by omega
  have eP : n * n' = ((a * b : Nat) : Int) := by rw [en, en']; simp [Int.neg_mul, Int.mul_neg]
  obtain ⟨P, hP⟩ : ∃ P, a * b = P := ⟨_, rfl⟩
  rw [hP] at eP cM
  obtain ⟨hi, hhi⟩ : ∃ hi, P / 18446744073709551616 = hi := ⟨_, rfl⟩
  obtain ⟨lo, hlo⟩ : ∃ lo, P % 18446744073709551616 = lo := ⟨_, rfl⟩
  rw [hhi, hlo] at cM
  have q0 : ((hi : Int) == 0) = true := by rw [beq_iff_eq]; omega
  have q1 : decide ((lo : Int) ≤ 9223372036854775807) = true := by rw [decide_eq_true_eq]; omega
  have e1 : wrap64 (n * n') = n * n' := by unfold wrap64; omega
  obtain ⟨r, hr0⟩ : ∃ r, n * n' = r := ⟨_, rfl⟩
  rw [hr0] at e1
  rw [hr0]
  have e2 : wrap64 (n * n') = r := by rw [hr0, e1]
  clear eP en en' hP hhi hlo hr h0 h0' hn hn' ha hb
  obtain ⟨h0, h1, h2, h3⟩ := heap4 w (.cells #[.int .u8 1, .int .i64 n, .bool false, .string ⟨#[]⟩] 23) (.cells #[.int .u8 1, .int .i64 n', .bool false, .string ⟨#[]⟩] 23) (.cells #[.int .u8 0, .int .i64 0, .bool false, .string ⟨#[]⟩] 23) (.cells #[.int .u8 1, .int .i64 n, .bool false, .string ⟨#[]⟩, .int .u8 1, .int .i64 n', .bool false, .string ⟨#[]⟩] 23)
  have hz := size4 w (.cells #[.int .u8 1, .int .i64 n, .bool false, .string ⟨#[]⟩] 23) (.cells #[.int .u8 1, .int .i64 n', .bool false, .string ⟨#[]⟩] 23) (.cells #[.int .u8 0, .int .i64 0, .bool false, .string ⟨#[]⟩] 23) (.cells #[.int .u8 1, .int .i64 n, .bool false, .string ⟨#[]⟩, .int .u8 1, .int .i64 n', .bool false, .string ⟨#[]⟩] 23)
  have hB := grown4 w (.cells #[.int .u8 1, .int .i64 n, .bool false, .string ⟨#[]⟩] 23) (.cells #[.int .u8 1, .int .i64 n', .bool false, .string ⟨#[]⟩] 23) (.cells #[.int .u8 0, .int .i64 0, .bool false, .string ⟨#[]⟩] 23) (.cells #[.int .u8 1, .int .i64 n, .bool false, .string ⟨#[]⟩, .int .u8 1, .int .i64 n', .bool false, .string ⟨#[]⟩] 23)
  have hTW := Utf8Tabs_below hT hB
  have cN := numbers2 _ _ _ _ _ _ _ _ _ _ hTW h3
  have cN := cN.mono (fun e w' h => by rw [show (V.isInt ⟨1, _, false, ⟨#[]⟩⟩ && V.isInt ⟨1, _, false, ⟨#[]⟩⟩) = true from rfl] at h; exact h)
  go_enter Tryd.func16, Tryd.ntmps16
  go_wp2_with fail
  refine cN.mono ?_
  rintro e w1 ⟨rfl, b1⟩
  rw [← b1.block w.heap.size (by omega)] at h0
  rw [← b1.block (w.heap.size + 1) (by omega)] at h1
  rw [← b1.block (w.heap.size + 2) (by omega)] at h2
  have B1 := hid (hB.trans (b1.mono (by omega)))
  have hs1 : w.heap.size + 4 ≤ w1.heap.size := by have := b1.size; omega
  clear cN h3 hz hB hTW b1
  obtain ⟨a1, a2, a3, a4⟩ := row4 h0
  obtain ⟨b1, b2, b3, b4⟩ := row4 h1
  have H2 := hid h2
  clear h0 h1 h2
  go_wp2_with fail
  go_quiet ((first
    | (go_at_call_of 55 (Value.int .i64 n); exact Calls.quiet_of_same (cS _))
    | (go_at_call_of 55 (Value.int .i64 n'); exact Calls.quiet_of_same (cS' _))
    | (go_at_call 54; exact Calls.quiet_of_same (cM _))))
  go_wp2_with fail
  refine (answer_yes r _).mono ?_
  rintro e w2 ⟨rfl, d2⟩
  have h2 := (d2.block (w.heap.size + 2) (by show _ < w1.heap.size; omega)).trans H2.out
  have B2 := hid ((B1.out.drewN _).trans (d2.mono (by show _ ≤ w1.heap.size; omega)))
  obtain ⟨c1, c2, c3, c4⟩ := row4 h2
  obtain ⟨f1, f2, f3, f4⟩ := free4 h2
  clear H2
  have H2 := hid h2
  clear h2 d2 a1 a2 a3 a4 b1 b2 b3 b4
  go_wp2_with fail
  exact bodyPost_ret (v := .tuple #[.agg #[.int .u8 1, .int .i64 r, .bool false, .string ⟨#[]⟩], .int .i64 0]) (results_pair rfl _ _ (w.heap.size + 2) 23 _ (0, 0) _ (.int .i64 0) rfl (row4_set H2.out _ _ _ _) (by rfl) Tryd.underlying23 rfl infoValue) rfl ⟨rfl, below4_set B2.out (by omega) _ _ _ _⟩

set_option maxRecDepth 100000 in
set_option maxHeartbeats 4000000 in
theorem mul_mm_no (n n' : Int) (w : World) (hT : Tabs w) (hn : n < 0) (hn' : n' < 0) (h0 : -9223372036854775808 ≤ n ∧ n ≤ 9223372036854775807) (h0' : -9223372036854775808 ≤ n' ∧ n' ≤ 9223372036854775807) (hr : ¬ (-9223372036854775808 ≤ n * n' ∧ n * n' ≤ 9223372036854775807)) :
    Calls Tryd.prog 16 #[.agg #[.int .u8 1, .int .i64 n, .bool false, .string ⟨#[]⟩], .agg #[.int .u8 1, .int .i64 n', .bool false, .string ⟨#[]⟩]] w fun e w' => e = .returned (.tuple #[.agg #[.int .u8 0, .int .i64 0, .bool false, .string ⟨#[]⟩], .int .i64 91]) ∧ Below w.heap.size w w' := by
  have d0 : decide (n < 0) = true := by simp; omega
  have d1 : decide (n' < 0) = true := by simp; omega
  have cS := fun X => size_any n X h0.1 h0.2
  have cS' := fun X => size_any n' X h0'.1 h0'.2
  obtain ⟨a, ha⟩ : ∃ a, n.natAbs = a := ⟨_, rfl⟩
  obtain ⟨b, hb⟩ : ∃ b, n'.natAbs = b := ⟨_, rfl⟩
  rw [ha] at cS
  rw [hb] at cS'
  have cM := Tryd.bits_Mul64 a b (by omega) (by omega)
  have en : n = -(a : Int) := by omega
  have en' : n' = -(b : Int) := by omega
  have eP : n * n' = ((a * b : Nat) : Int) := by rw [en, en']; simp [Int.neg_mul, Int.mul_neg]
  obtain ⟨P, hP⟩ : ∃ P, a * b = P := ⟨_, rfl⟩
  rw [hP] at eP cM
  obtain ⟨hi, hhi⟩ : ∃ hi, P / 18446744073709551616 = hi := ⟨_, rfl⟩
  obtain ⟨lo, hlo⟩ : ∃ lo, P % 18446744073709551616 = lo := ⟨_, rfl⟩
  rw [hhi, hlo] at cM
  obtain ⟨x, hx⟩ : ∃ x, ((hi : Int) == 0) = x := ⟨_, rfl⟩
  obtain ⟨y, hy⟩ : ∃ y, decide ((lo : Int) ≤ 9223372036854775807) = y := ⟨_, rfl⟩
  have HXY : Hid (x = true → y = false) := by
    show _ → _
    intro h
    rw [h, beq_iff_eq] at hx
    rw [← hy, decide_eq_false_iff_not]
    omega
  obtain ⟨r, hr0⟩ : ∃ r, wrap64 (n * n') = r := ⟨_, rfl⟩
  clear eP en en' hP hhi hlo hr h0 h0' hn hn' ha hb
  obtain ⟨h0, h1, h2, h3⟩ := heap4 w (.cells #[.int .u8 1, .int .i64 n, .bool false, .string ⟨#[]⟩] 23) (.cells #[.int .u8 1, .int .i64 n', .bool false, .string ⟨#[]⟩] 23) (.cells #[.int .u8 0, .int .i64 0, .bool false, .string ⟨#[]⟩] 23) (.cells #[.int .u8 1, .int .i64 n, .bool false, .string ⟨#[]⟩, .int .u8 1, .int .i64 n', .bool false, .string ⟨#[]⟩] 23)
  have hz := size4 w (.cells #[.int .u8 1, .int .i64 n, .bool false, .string ⟨#[]⟩] 23) (.cells #[.int .u8 1, .int .i64 n', .bool false, .string ⟨#[]⟩] 23) (.cells #[.int .u8 0, .int .i64 0, .bool false, .string ⟨#[]⟩] 23) (.cells #[.int .u8 1, .int .i64 n, .bool false, .string ⟨#[]⟩, .int .u8 1, .int .i64 n', .bool false, .string ⟨#[]⟩] 23)
  have hB := grown4 w (.cells #[.int .u8 1, .int .i64 n, .bool false, .string ⟨#[]⟩] 23) (.cells #[.int .u8 1, .int .i64 n', .bool false, .string ⟨#[]⟩] 23) (.cells #[.int .u8 0, .int .i64 0, .bool false, .string ⟨#[]⟩] 23) (.cells #[.int .u8 1, .int .i64 n, .bool false, .string ⟨#[]⟩, .int .u8 1, .int .i64 n', .bool false, .string ⟨#[]⟩] 23)
  have hTW := Utf8Tabs_below hT hB
  have cN := numbers2 _ _ _ _ _ _ _ _ _ _ hTW h3
  have cN := cN.mono (fun e w' h => by rw [show (V.isInt ⟨1, _, false, ⟨#[]⟩⟩ && V.isInt ⟨1, _, false, ⟨#[]⟩⟩) = true from rfl] at h; exact h)
  have key : x = false ∨ (x = true ∧ y = false) := by
    cases x
    · exact Or.inl rfl
    · exact Or.inr ⟨rfl, HXY.out rfl⟩
  clear HXY
  rcases key with rfl | ⟨rfl, rfl⟩
  all_goals
    go_enter Tryd.func16, Tryd.ntmps16
    go_wp2_with fail
    refine cN.mono ?_
    rintro e w1 ⟨rfl, b1⟩
    rw [← b1.block w.heap.size (by omega)] at h0
    rw [← b1.block (w.heap.size + 1) (by omega)] at h1
    rw [← b1.block (w.heap.size + 2) (by omega)] at h2
    have B1 := hid (hB.trans (b1.mono (by omega)))
    have hs1 : w.heap.size + 4 ≤ w1.heap.size := by have := b1.size; omega
    clear cN h3 hz hB hTW b1
    obtain ⟨a1, a2, a3, a4⟩ := row4 h0
    obtain ⟨b1, b2, b3, b4⟩ := row4 h1
    have H2 := hid h2
    clear h0 h1 h2
    go_wp2_with fail
    go_quiet ((first
      | (go_at_call_of 55 (Value.int .i64 n); exact Calls.quiet_of_same (cS _))
      | (go_at_call_of 55 (Value.int .i64 n'); exact Calls.quiet_of_same (cS' _))
      | (go_at_call 54; exact Calls.quiet_of_same (cM _))))
    go_wp2_with fail
    refine (answer_no r _).mono ?_
    rintro e w2 ⟨rfl, d2⟩
    have h2 := (d2.block (w.heap.size + 2) (by show _ < w1.heap.size; omega)).trans H2.out
    have B2 := hid ((B1.out.drewN _).trans (d2.mono (by show _ ≤ w1.heap.size; omega)))
    obtain ⟨c1, c2, c3, c4⟩ := row4 h2
    obtain ⟨f1, f2, f3, f4⟩ := free4 h2
    clear H2
    have H2 := hid h2
    clear h2 d2 a1 a2 a3 a4 b1 b2 b3 b4
    go_wp2_with fail
    exact bodyPost_ret (v := .tuple #[.agg #[.int .u8 0, .int .i64 0, .bool false, .string ⟨#[]⟩], .int .i64 91]) (results_pair rfl _ _ (w.heap.size + 2) 23 _ (0, 0) _ (.int .i64 91) rfl (row4_set H2.out _ _ _ _) (by rfl) Tryd.underlying23 rfl infoValue) rfl ⟨rfl, below4_set B2.out (by omega) _ _ _ _⟩

set_option maxRecDepth 100000 in
set_option maxHeartbeats 4000000 in
theorem mul_mp_yes (n n' : Int) (w : World) (hT : Tabs w) (hn : n < 0) (hn' : 0 ≤ n') (h0 : -9223372036854775808 ≤ n ∧ n ≤ 9223372036854775807) (h0' : -9223372036854775808 ≤ n' ∧ n' ≤ 9223372036854775807) (hr : -9223372036854775808 ≤ n * n' ∧ n * n' ≤ 9223372036854775807) :
    Calls Tryd.prog 16 #[.agg #[.int .u8 1, .int .i64 n, .bool false, .string ⟨#[]⟩], .agg #[.int .u8 1, .int .i64 n', .bool false, .string ⟨#[]⟩]] w fun e w' => e = .returned (.tuple #[.agg #[.int .u8 1, .int .i64 (n * n'), .bool false, .string ⟨#[]⟩], .int .i64 0]) ∧ Below w.heap.size w w' := by
  have d0 : decide (n < 0) = true := by simp; omega
  have d1 : decide (n' < 0) = false := by simp; omega
  have cS := fun X => size_any n X h0.1 h0.2
  have cS' := fun X => size_any n' X h0'.1 h0'.2
  obtain ⟨a, ha⟩ : ∃ a, n.natAbs = a := ⟨_, rfl⟩
  obtain ⟨b, hb⟩ : ∃ b, n'.natAbs = b := ⟨_, rfl⟩
  rw [ha] at cS
  rw [hb] at cS'
  have cM := Tryd.bits_Mul64 a b (by omega) (by omega)
  have en : n = -(a : Int) := by omega
  have en' : n' = (b : Int) := by omega
  have eP : n * n' = -((a * b : Nat) : Int) := by rw [en, en']; simp [Int.neg_mul]
  obtain ⟨P, hP⟩ : ∃ P, a * b = P := ⟨_, rfl⟩
  rw [hP] at eP cM
  obtain ⟨hi, hhi⟩ : ∃ hi, P / 18446744073709551616 = hi := ⟨_, rfl⟩
  obtain ⟨lo, hlo⟩ : ∃ lo, P % 18446744073709551616 = lo := ⟨_, rfl⟩
  rw [hhi, hlo] at cM
  have q0 : ((hi : Int) == 0) = true := by rw [beq_iff_eq]; omega
  have q1 : decide ((lo : Int) ≤ 9223372036854775808) = true := by rw [decide_eq_true_eq]; omega
  have e1 : wrap64 (n * n') = n * n' := by unfold wrap64; omega
  obtain ⟨r, hr0⟩ : ∃ r, n * n' = r := ⟨_, rfl⟩
  rw [hr0] at e1
  rw [hr0]
  have e2 : wrap64 (n * n') = r := by rw [hr0, e1]
  clear eP en en' hP hhi hlo hr h0 h0' hn hn' ha hb
  obtain ⟨h0, h1, h2, h3⟩ := heap4 w (.cells #[.int .u8 1, .int .i64 n, .bool false, .string ⟨#[]⟩] 23) (.cells #[.int .u8 1, .int .i64 n', .bool false, .string ⟨#[]⟩] 23) (.cells #[.int .u8 0, .int .i64 0, .bool false, .string ⟨#[]⟩] 23) (.cells #[.int .u8 1, .int .i64 n, .bool false, .string ⟨#[]⟩, .int .u8 1, .int .i64 n', .bool false, .string ⟨#[]⟩] 23)
  have hz := size4 w (.cells #[.int .u8 1, .int .i64 n, .bool false, .string ⟨#[]⟩] 23) (.cells #[.int .u8 1, .int .i64 n', .bool false, .string ⟨#[]⟩] 23) (.cells #[.int .u8 0, .int .i64 0, .bool false, .string ⟨#[]⟩] 23) (.cells #[.int .u8 1, .int .i64 n, .bool false, .string ⟨#[]⟩, .int .u8 1, .int .i64 n', .bool false, .string ⟨#[]⟩] 23)
  have hB := grown4 w (.cells #[.int .u8 1, .int .i64 n, .bool false, .string ⟨#[]⟩] 23) (.cells #[.int .u8 1, .int .i64 n', .bool false, .string ⟨#[]⟩] 23) (.cells #[.int .u8 0, .int .i64 0, .bool false, .string ⟨#[]⟩] 23) (.cells #[.int .u8 1, .int .i64 n, .bool false, .string ⟨#[]⟩, .int .u8 1, .int .i64 n', .bool false, .string ⟨#[]⟩] 23)
  have hTW := Utf8Tabs_below hT hB
  have cN := numbers2 _ _ _ _ _ _ _ _ _ _ hTW h3
  have cN := cN.mono (fun e w' h => by rw [show (V.isInt ⟨1, _, false, ⟨#[]⟩⟩ && V.isInt ⟨1, _, false, ⟨#[]⟩⟩) = true from rfl] at h; exact h)
  go_enter Tryd.func16, Tryd.ntmps16
  go_wp2_with fail
  refine cN.mono ?_
  rintro e w1 ⟨rfl, b1⟩
  rw [← b1.block w.heap.size (by omega)] at h0
  rw [← b1.block (w.heap.size + 1) (by omega)] at h1
  rw [← b1.block (w.heap.size + 2) (by omega)] at h2
  have B1 := hid (hB.trans (b1.mono (by omega)))
  have hs1 : w.heap.size + 4 ≤ w1.heap.size := by have := b1.size; omega
  clear cN h3 hz hB hTW b1
  obtain ⟨a1, a2, a3, a4⟩ := row4 h0
  obtain ⟨b1, b2, b3, b4⟩ := row4 h1
  have H2 := hid h2
  clear h0 h1 h2
  go_wp2_with fail
  go_quiet ((first
    | (go_at_call_of 55 (Value.int .i64 n); exact Calls.quiet_of_same (cS _))
    | (go_at_call_of 55 (Value.int .i64 n'); exact Calls.quiet_of_same (cS' _))
    | (go_at_call 54; exact Calls.quiet_of_same (cM _))))
  go_wp2_with fail
  refine (answer_yes r _).mono ?_
  rintro e w2 ⟨rfl, d2⟩
  have h2 := (d2.block (w.heap.size + 2) (by show _ < w1.heap.size; omega)).trans H2.out
  have B2 := hid ((B1.out.drewN _).trans (d2.mono (by show _ ≤ w1.heap.size; omega)))
  obtain ⟨c1, c2, c3, c4⟩ := row4 h2
  obtain ⟨f1, f2, f3, f4⟩ := free4 h2
  clear H2
  have H2 := hid h2
  clear h2 d2 a1 a2 a3 a4 b1 b2 b3 b4
  go_wp2_with fail
  exact bodyPost_ret (v := .tuple #[.agg #[.int .u8 1, .int .i64 r, .bool false, .string ⟨#[]⟩], .int .i64 0]) (results_pair rfl _ _ (w.heap.size + 2) 23 _ (0, 0) _ (.int .i64 0) rfl (row4_set H2.out _ _ _ _) (by rfl) Tryd.underlying23 rfl infoValue) rfl ⟨rfl, below4_set B2.out (by omega) _ _ _ _⟩

set_option maxRecDepth 100000 in
set_option maxHeartbeats 4000000 in
theorem mul_mp_no (n n' : Int) (w : World) (hT : Tabs w) (hn : n < 0) (hn' : 0 ≤ n') (h0 : -9223372036854775808 ≤ n ∧ n ≤ 9223372036854775807) (h0' : -9223372036854775808 ≤ n' ∧ n' ≤ 9223372036854775807) (hr : ¬ (-9223372036854775808 ≤ n * n' ∧ n * n' ≤ 9223372036854775807)) :
    Calls Tryd.prog 16 #[.agg #[.int .u8 1, .int .i64 n, .bool false, .string ⟨#[]⟩], .agg #[.int .u8 1, .int .i64 n', .bool false, .string ⟨#[]⟩]] w fun e w' => e = .returned (.tuple #[.agg #[.int .u8 0, .int .i64 0, .bool false, .string ⟨#[]⟩], .int .i64 91]) ∧ Below w.heap.size w w' := by
  have d0 : decide (n < 0) = true := by simp; omega
  have d1 : decide (n' < 0) = false := by simp; omega
  have cS := fun X => size_any n X h0.1 h0.2
  have cS' := fun X => size_any n' X h0'.1 h0'.2
  obtain ⟨a, ha⟩ : ∃ a, n.natAbs = a := ⟨_, rfl⟩
  obtain ⟨b, hb⟩ : ∃ b, n'.natAbs = b := ⟨_, rfl⟩
  rw [ha] at cS
  rw [hb] at cS'
  have cM := Tryd.bits_Mul64 a b (by omega) (by omega)
  have en : n = -(a : Int) := by omega
  have en' : n' = (b : Int) := by omega
  have eP : n * n' = -((a * b : Nat) : Int) := by rw [en, en']; simp [Int.neg_mul]
  obtain ⟨P, hP⟩ : ∃ P, a * b = P := ⟨_, rfl⟩
  rw [hP] at eP cM
  obtain ⟨hi, hhi⟩ : ∃ hi, P / 18446744073709551616 = hi := ⟨_, rfl⟩
  obtain ⟨lo, hlo⟩ : ∃ lo, P % 18446744073709551616 = lo := ⟨_, rfl⟩
  rw [hhi, hlo] at cM
  obtain ⟨x, hx⟩ : ∃ x, ((hi : Int) == 0) = x := ⟨_, rfl⟩
  obtain ⟨y, hy⟩ : ∃ y, decide ((lo : Int) ≤ 9223372036854775808) = y := ⟨_, rfl⟩
  have HXY : Hid (x = true → y = false) := by
    show _ → _
    intro h
    rw [h, beq_iff_eq] at hx
    rw [← hy, decide_eq_false_iff_not]
    omega
  obtain ⟨r, hr0⟩ : ∃ r, wrap64 (n * n') = r := ⟨_, rfl⟩
  clear eP en en' hP hhi hlo hr h0 h0' hn hn' ha hb
  obtain ⟨h0, h1, h2, h3⟩ := heap4 w (.cells #[.int .u8 1, .int .i64 n, .bool false, .string ⟨#[]⟩] 23) (.cells #[.int .u8 1, .int .i64 n', .bool false, .string ⟨#[]⟩] 23) (.cells #[.int .u8 0, .int .i64 0, .bool false, .string ⟨#[]⟩] 23) (.cells #[.int .u8 1, .int .i64 n, .bool false, .string ⟨#[]⟩, .int .u8 1, .int .i64 n', .bool false, .string ⟨#[]⟩] 23)
  have hz := size4 w (.cells #[.int .u8 1, .int .i64 n, .bool false, .string ⟨#[]⟩] 23) (.cells #[.int .u8 1, .int .i64 n', .bool false, .string ⟨#[]⟩] 23) (.cells #[.int .u8 0, .int .i64 0, .bool false, .string ⟨#[]⟩] 23) (.cells #[.int .u8 1, .int .i64 n, .bool false, .string ⟨#[]⟩, .int .u8 1, .int .i64 n', .bool false, .string ⟨#[]⟩] 23)
  have hB := grown4 w (.cells #[.int .u8 1, .int .i64 n, .bool false, .string ⟨#[]⟩] 23) (.cells #[.int .u8 1, .int .i64 n', .bool false, .string ⟨#[]⟩] 23) (.cells #[.int .u8 0, .int .i64 0, .bool false, .string ⟨#[]⟩] 23) (.cells #[.int .u8 1, .int .i64 n, .bool false, .string ⟨#[]⟩, .int .u8 1, .int .i64 n', .bool false, .string ⟨#[]⟩] 23)
  have hTW := Utf8Tabs_below hT hB
  have cN := numbers2 _ _ _ _ _ _ _ _ _ _ hTW h3
  have cN := cN.mono (fun e w' h => by rw [show (V.isInt ⟨1, _, false, ⟨#[]⟩⟩ && V.isInt ⟨1, _, false, ⟨#[]⟩⟩) = true from rfl] at h; exact h)
  have key : x = false ∨ (x = true ∧ y = false) := by
    cases x
    · exact Or.inl rfl
    · exact Or.inr ⟨rfl, HXY.out rfl⟩
  clear HXY
  rcases key with rfl | ⟨rfl, rfl⟩
  all_goals
    go_enter Tryd.func16, Tryd.ntmps16
    go_wp2_with fail
    refine cN.mono ?_
    rintro e w1 ⟨rfl, b1⟩
    rw [← b1.block w.heap.size (by omega)] at h0
    rw [← b1.block (w.heap.size + 1) (by omega)] at h1
    rw [← b1.block (w.heap.size + 2) (by omega)] at h2
    have B1 := hid (hB.trans (b1.mono (by omega)))
    have hs1 : w.heap.size + 4 ≤ w1.heap.size := by have := b1.size; omega
    clear cN h3 hz hB hTW b1
    obtain ⟨a1, a2, a3, a4⟩ := row4 h0
    obtain ⟨b1, b2, b3, b4⟩ := row4 h1
    have H2 := hid h2
    clear h0 h1 h2
    go_wp2_with fail
    go_quiet ((first
      | (go_at_call_of 55 (Value.int .i64 n); exact Calls.quiet_of_same (cS _))
      | (go_at_call_of 55 (Value.int .i64 n'); exact Calls.quiet_of_same (cS' _))
      | (go_at_call 54; exact Calls.quiet_of_same (cM _))))
    go_wp2_with fail
    refine (answer_no r _).mono ?_
    rintro e w2 ⟨rfl, d2⟩
    have h2 := (d2.block (w.heap.size + 2) (by show _ < w1.heap.size; omega)).trans H2.out
    have B2 := hid ((B1.out.drewN _).trans (d2.mono (by show _ ≤ w1.heap.size; omega)))
    obtain ⟨c1, c2, c3, c4⟩ := row4 h2
    obtain ⟨f1, f2, f3, f4⟩ := free4 h2
    clear H2
    have H2 := hid h2
    clear h2 d2 a1 a2 a3 a4 b1 b2 b3 b4
    go_wp2_with fail
    exact bodyPost_ret (v := .tuple #[.agg #[.int .u8 0, .int .i64 0, .bool false, .string ⟨#[]⟩], .int .i64 91]) (results_pair rfl _ _ (w.heap.size + 2) 23 _ (0, 0) _ (.int .i64 91) rfl (row4_set H2.out _ _ _ _) (by rfl) Tryd.underlying23 rfl infoValue) rfl ⟨rfl, below4_set B2.out (by omega) _ _ _ _⟩

set_option maxRecDepth 100000 in
set_option maxHeartbeats 4000000 in
theorem mul_pm_yes (n n' : Int) (w : World) (hT : Tabs w) (hn : 0 ≤ n) (hn' : n' < 0) (h0 : -9223372036854775808 ≤ n ∧ n ≤ 9223372036854775807) (h0' : -9223372036854775808 ≤ n' ∧ n' ≤ 9223372036854775807) (hr : -9223372036854775808 ≤ n * n' ∧ n * n' ≤ 9223372036854775807) :
    Calls Tryd.prog 16 #[.agg #[.int .u8 1, .int .i64 n, .bool false, .string ⟨#[]⟩], .agg #[.int .u8 1, .int .i64 n', .bool false, .string ⟨#[]⟩]] w fun e w' => e = .returned (.tuple #[.agg #[.int .u8 1, .int .i64 (n * n'), .bool false, .string ⟨#[]⟩], .int .i64 0]) ∧ Below w.heap.size w w' := by
  have d0 : decide (n < 0) = false := by simp; omega
  have d1 : decide (n' < 0) = true := by simp; omega
  have cS := fun X => size_any n X h0.1 h0.2
  have cS' := fun X => size_any n' X h0'.1 h0'.2
  obtain ⟨a, ha⟩ : ∃ a, n.natAbs = a := ⟨_, rfl⟩
  obtain ⟨b, hb⟩ : ∃ b, n'.natAbs = b := ⟨_, rfl⟩
  rw [ha] at cS
  rw [hb] at cS'
  have cM := Tryd.bits_Mul64 a b (by omega) (by omega)
  have en : n = (a : Int) := by omega
  have en' : n' = -(b : Int) := by omega
  have eP : n * n' = -((a * b : Nat) : Int) := by rw [en, en']; simp [Int.mul_neg]
  obtain ⟨P, hP⟩ : ∃ P, a * b = P := ⟨_, rfl⟩
  rw [hP] at eP cM
  obtain ⟨hi, hhi⟩ : ∃ hi, P / 18446744073709551616 = hi := ⟨_, rfl⟩
  obtain ⟨lo, hlo⟩ : ∃ lo, P % 18446744073709551616 = lo := ⟨_, rfl⟩
  rw [hhi, hlo] at cM
  have q0 : ((hi : Int) == 0) = true := by rw [beq_iff_eq]; omega
  have q1 : decide ((lo : Int) ≤ 9223372036854775808) = true := by rw [decide_eq_true_eq]; omega
  have e1 : wrap64 (n * n') = n * n' := by unfold wrap64; omega
  obtain ⟨r, hr0⟩ : ∃ r, n * n' = r := ⟨_, rfl⟩
  rw [hr0] at e1
  rw [hr0]
  have e2 : wrap64 (n * n') = r := by rw [hr0, e1]
  clear eP en en' hP hhi hlo hr h0 h0' hn hn' ha hb
  obtain ⟨h0, h1, h2, h3⟩ := heap4 w (.cells #[.int .u8 1, .int .i64 n, .bool false, .string ⟨#[]⟩] 23) (.cells #[.int .u8 1, .int .i64 n', .bool false, .string ⟨#[]⟩] 23) (.cells #[.int .u8 0, .int .i64 0, .bool false, .string ⟨#[]⟩] 23) (.cells #[.int .u8 1, .int .i64 n, .bool false, .string ⟨#[]⟩, .int .u8 1, .int .i64 n', .bool false, .string ⟨#[]⟩] 23)
  have hz := size4 w (.cells #[.int .u8 1, .int .i64 n, .bool false, .string ⟨#[]⟩] 23) (.cells #[.int .u8 1, .int .i64 n', .bool false, .string ⟨#[]⟩] 23) (.cells #[.int .u8 0, .int .i64 0, .bool false, .string ⟨#[]⟩] 23) (.cells #[.int .u8 1, .int .i64 n, .bool false, .string ⟨#[]⟩, .int .u8 1, .int .i64 n', .bool false, .string ⟨#[]⟩] 23)
  have hB := grown4 w (.cells #[.int .u8 1, .int .i64 n, .bool false, .string ⟨#[]⟩] 23) (.cells #[.int .u8 1, .int .i64 n', .bool false, .string ⟨#[]⟩] 23) (.cells #[.int .u8 0, .int .i64 0, .bool false, .string ⟨#[]⟩] 23) (.cells #[.int .u8 1, .int .i64 n, .bool false, .string ⟨#[]⟩, .int .u8 1, .int .i64 n', .bool false, .string ⟨#[]⟩] 23)
  have hTW := Utf8Tabs_below hT hB
  have cN := numbers2 _ _ _ _ _ _ _ _ _ _ hTW h3
  have cN := cN.mono (fun e w' h => by rw [show (V.isInt ⟨1, _, false, ⟨#[]⟩⟩ && V.isInt ⟨1, _, false, ⟨#[]⟩⟩) = true from rfl] at h; exact h)
  go_enter Tryd.func16, Tryd.ntmps16
  go_wp2_with fail
  refine cN.mono ?_
  rintro e w1 ⟨rfl, b1⟩
  rw [← b1.block w.heap.size (by omega)] at h0
  rw [← b1.block (w.heap.size + 1) (by omega)] at h1
  rw [← b1.block (w.heap.size + 2) (by omega)] at h2
  have B1 := hid (hB.trans (b1.mono (by omega)))
  have hs1 : w.heap.size + 4 ≤ w1.heap.size := by have := b1.size; omega
  clear cN h3 hz hB hTW b1
  obtain ⟨a1, a2, a3, a4⟩ := row4 h0
  obtain ⟨b1, b2, b3, b4⟩ := row4 h1
  have H2 := hid h2
  clear h0 h1 h2
  go_wp2_with fail
  go_quiet ((first
    | (go_at_call_of 55 (Value.int .i64 n); exact Calls.quiet_of_same (cS _))
    | (go_at_call_of 55 (Value.int .i64 n'); exact Calls.quiet_of_same (cS' _))
    | (go_at_call 54; exact Calls.quiet_of_same (cM _))))
  go_wp2_with fail
  refine (answer_yes r _).mono ?_
  rintro e w2 ⟨rfl, d2⟩
  have h2 := (d2.block (w.heap.size + 2) (by show _ < w1.heap.size; omega)).trans H2.out
  have B2 := hid ((B1.out.drewN _).trans (d2.mono (by show _ ≤ w1.heap.size; omega)))
  obtain ⟨c1, c2, c3, c4⟩ := row4 h2
  obtain ⟨f1, f2, f3, f4⟩ := free4 h2
  clear H2
  have H2 := hid h2
  clear h2 d2 a1 a2 a3 a4 b1 b2 b3 b4
  go_wp2_with fail
  exact bodyPost_ret (v := .tuple #[.agg #[.int .u8 1, .int .i64 r, .bool false, .string ⟨#[]⟩], .int .i64 0]) (results_pair rfl _ _ (w.heap.size + 2) 23 _ (0, 0) _ (.int .i64 0) rfl (row4_set H2.out _ _ _ _) (by rfl) Tryd.underlying23 rfl infoValue) rfl ⟨rfl, below4_set B2.out (by omega) _ _ _ _⟩

set_option maxRecDepth 100000 in
set_option maxHeartbeats 4000000 in
theorem mul_pm_no (n n' : Int) (w : World) (hT : Tabs w) (hn : 0 ≤ n) (hn' : n' < 0) (h0 : -9223372036854775808 ≤ n ∧ n ≤ 9223372036854775807) (h0' : -9223372036854775808 ≤ n' ∧ n' ≤ 9223372036854775807) (hr : ¬ (-9223372036854775808 ≤ n * n' ∧ n * n' ≤ 9223372036854775807)) :
    Calls Tryd.prog 16 #[.agg #[.int .u8 1, .int .i64 n, .bool false, .string ⟨#[]⟩], .agg #[.int .u8 1, .int .i64 n', .bool false, .string ⟨#[]⟩]] w fun e w' => e = .returned (.tuple #[.agg #[.int .u8 0, .int .i64 0, .bool false, .string ⟨#[]⟩], .int .i64 91]) ∧ Below w.heap.size w w' := by
  have d0 : decide (n < 0) = false := by simp; omega
  have d1 : decide (n' < 0) = true := by simp; omega
  have cS := fun X => size_any n X h0.1 h0.2
  have cS' := fun X => size_any n' X h0'.1 h0'.2
  obtain ⟨a, ha⟩ : ∃ a, n.natAbs = a := ⟨_, rfl⟩
  obtain ⟨b, hb⟩ : ∃ b, n'.natAbs = b := ⟨_, rfl⟩
  rw [ha] at cS
  rw [hb] at cS'
  have cM := Tryd.bits_Mul64 a b (by omega) (by omega)
  have en : n = (a : Int) := by omega
  have en' : n' = -(b : Int) := by omega
  have eP : n * n' = -((a * b : Nat) : Int) := by rw [en, en']; simp [Int.mul_neg]
  obtain ⟨P, hP⟩ : ∃ P, a * b = P := ⟨_, rfl⟩
  rw [hP] at eP cM
  obtain ⟨hi, hhi⟩ : ∃ hi, P / 18446744073709551616 = hi := ⟨_, rfl⟩
  obtain ⟨lo, hlo⟩ : ∃ lo, P % 18446744073709551616 = lo := ⟨_, rfl⟩
  rw [hhi, hlo] at cM
  obtain ⟨x, hx⟩ : ∃ x, ((hi : Int) == 0) = x := ⟨_, rfl⟩
  obtain ⟨y, hy⟩ : ∃ y, decide ((lo : Int) ≤ 9223372036854775808) = y := ⟨_, rfl⟩
  have HXY : Hid (x = true → y = false) := by
    show _ → _
    intro h
    rw [h, beq_iff_eq] at hx
    rw [← hy, decide_eq_false_iff_not]
    omega
  obtain ⟨r, hr0⟩ : ∃ r, wrap64 (n * n') = r := ⟨_, rfl⟩
  clear eP en en' hP hhi hlo hr h0 h0' hn hn' ha hb
  obtain ⟨h0, h1, h2, h3⟩ := heap4 w (.cells #[.int .u8 1, .int .i64 n, .bool false, .string ⟨#[]⟩] 23) (.cells #[.int .u8 1, .int .i64 n', .bool false, .string ⟨#[]⟩] 23) (.cells #[.int .u8 0, .int .i64 0, .bool false, .string ⟨#[]⟩] 23) (.cells #[.int .u8 1, .int .i64 n, .bool false, .string ⟨#[]⟩, .int .u8 1, .int .i64 n', .bool false, .string ⟨#[]⟩] 23)
  have hz := size4 w (.cells #[.int .u8 1, .int .i64 n, .bool false, .string ⟨#[]⟩] 23) (.cells #[.int .u8 1, .int .i64 n', .bool false, .string ⟨#[]⟩] 23) (.cells #[.int .u8 0, .int .i64 0, .bool false, .string ⟨#[]⟩] 23) (.cells #[.int .u8 1, .int .i64 n, .bool false, .string ⟨#[]⟩, .int .u8 1, .int .i64 n', .bool false, .string ⟨#[]⟩] 23)
  have hB := grown4 w (.cells #[.int .u8 1, .int .i64 n, .bool false, .string ⟨#[]⟩] 23) (.cells #[.int .u8 1, .int .i64 n', .bool false, .string ⟨#[]⟩] 23) (.cells #[.int .u8 0, .int .i64 0, .bool false, .string ⟨#[]⟩] 23) (.cells #[.int .u8 1, .int .i64 n, .bool false, .string ⟨#[]⟩, .int .u8 1, .int .i64 n', .bool false, .string ⟨#[]⟩] 23)
  have hTW := Utf8Tabs_below hT hB
  have cN := numbers2 _ _ _ _ _ _ _ _ _ _ hTW h3
  have cN := cN.mono (fun e w' h => by rw [show (V.isInt ⟨1, _, false, ⟨#[]⟩⟩ && V.isInt ⟨1, _, false, ⟨#[]⟩⟩) = true from rfl] at h; exact h)
  have key : x = false ∨ (x = true ∧ y = false) := by
    cases x
    · exact Or.inl rfl
    · exact Or.inr ⟨rfl, HXY.out rfl⟩
  clear HXY
  rcases key with rfl | ⟨rfl, rfl⟩
  all_goals
    go_enter Tryd.func16, Tryd.ntmps16
    go_wp2_with fail
    refine cN.mono ?_
    rintro e w1 ⟨rfl, b1⟩
    rw [← b1.block w.heap.size (by omega)] at h0
    rw [← b1.block (w.heap.size + 1) (by omega)] at h1
    rw [← b1.block (w.heap.size + 2) (by omega)] at h2
    have B1 := hid (hB.trans (b1.mono (by omega)))
    have hs1 : w.heap.size + 4 ≤ w1.heap.size := by have := b1.size; omega
    clear cN h3 hz hB hTW b1
    obtain ⟨a1, a2, a3, a4⟩ := row4 h0
    obtain ⟨b1, b2, b3, b4⟩ := row4 h1
    have H2 := hid h2
    clear h0 h1 h2
    go_wp2_with fail
    go_quiet ((first
      | (go_at_call_of 55 (Value.int .i64 n); exact Calls.quiet_of_same (cS _))
      | (go_at_call_of 55 (Value.int .i64 n'); exact Calls.quiet_of_same (cS' _))
      | (go_at_call 54; exact Calls.quiet_of_same (cM _))))
    go_wp2_with fail
    refine (answer_no r _).mono ?_
    rintro e w2 ⟨rfl, d2⟩
    have h2 := (d2.block (w.heap.size + 2) (by show _ < w1.heap.size; omega)).trans H2.out
    have B2 := hid ((B1.out.drewN _).trans (d2.mono (by show _ ≤ w1.heap.size; omega)))
    obtain ⟨c1, c2, c3, c4⟩ := row4 h2
    obtain ⟨f1, f2, f3, f4⟩ := free4 h2
    clear H2
    have H2 := hid h2
    clear h2 d2 a1 a2 a3 a4 b1 b2 b3 b4
    go_wp2_with fail
    exact bodyPost_ret (v := .tuple #[.agg #[.int .u8 0, .int .i64 0, .bool false, .string ⟨#[]⟩], .int .i64 91]) (results_pair rfl _ _ (w.heap.size + 2) 23 _ (0, 0) _ (.int .i64 91) rfl (row4_set H2.out _ _ _ _) (by rfl) Tryd.underlying23 rfl infoValue) rfl ⟨rfl, below4_set B2.out (by omega) _ _ _ _⟩

set_option maxRecDepth 100000 in
set_option maxHeartbeats 4000000 in
theorem mul_pp_yes (n n' : Int) (w : World) (hT : Tabs w) (hn : 0 ≤ n) (hn' : 0 ≤ n') (h0 : -9223372036854775808 ≤ n ∧ n ≤ 9223372036854775807) (h0' : -9223372036854775808 ≤ n' ∧ n' ≤ 9223372036854775807) (hr : -9223372036854775808 ≤ n * n' ∧ n * n' ≤ 9223372036854775807) :
    Calls Tryd.prog 16 #[.agg #[.int .u8 1, .int .i64 n, .bool false, .string ⟨#[]⟩], .agg #[.int .u8 1, .int .i64 n', .bool false, .string ⟨#[]⟩]] w fun e w' => e = .returned (.tuple #[.agg #[.int .u8 1, .int .i64 (n * n'), .bool false, .string ⟨#[]⟩], .int .i64 0]) ∧ Below w.heap.size w w' := by
  have d0 : decide (n < 0) = false := by simp; omega
  have d1 : decide (n' < 0) = false := by simp; omega
  have cS := fun X => size_any n X h0.1 h0.2
  have cS' := fun X => size_any n' X h0'.1 h0'.2
  obtain ⟨a, ha⟩ : ∃ a, n.natAbs = a := ⟨_, rfl⟩
  obtain ⟨b, hb⟩ : ∃ b, n'.natAbs = b := ⟨_, rfl⟩
  rw [ha] at cS
  rw [hb] at cS'
  have cM := Tryd.bits_Mul64 a b (by omega) (by omega)
  have en : n = (a : Int) := by omega
  have en' : n' = (b : Int) := by omega
  have eP : n * n' = ((a * b : Nat) : Int) := by rw [en, en']; simp
  obtain ⟨P, hP⟩ : ∃ P, a * b = P := ⟨_, rfl⟩
  rw [hP] at eP cM
  obtain ⟨hi, hhi⟩ : ∃ hi, P / 18446744073709551616 = hi := ⟨_, rfl⟩
  obtain ⟨lo, hlo⟩ : ∃ lo, P % 18446744073709551616 = lo := ⟨_, rfl⟩
  rw [hhi, hlo] at cM
  have q0 : ((hi : Int) == 0) = true := by rw [beq_iff_eq]; omega
  have q1 : decide ((lo : Int) ≤ 9223372036854775807) = true := by rw [decide_eq_true_eq]; omega
  have e1 : wrap64 (n * n') = n * n' := by unfold wrap64; omega
  obtain ⟨r, hr0⟩ : ∃ r, n * n' = r := ⟨_, rfl⟩
  rw [hr0] at e1
  rw [hr0]
  have e2 : wrap64 (n * n') = r := by rw [hr0, e1]
  clear eP en en' hP hhi hlo hr h0 h0' hn hn' ha hb
  obtain ⟨h0, h1, h2, h3⟩ := heap4 w (.cells #[.int .u8 1, .int .i64 n, .bool false, .string ⟨#[]⟩] 23) (.cells #[.int .u8 1, .int .i64 n', .bool false, .string ⟨#[]⟩] 23) (.cells #[.int .u8 0, .int .i64 0, .bool false, .string ⟨#[]⟩] 23) (.cells #[.int .u8 1, .int .i64 n, .bool false, .string ⟨#[]⟩, .int .u8 1, .int .i64 n', .bool false, .string ⟨#[]⟩] 23)
  have hz := size4 w (.cells #[.int .u8 1, .int .i64 n, .bool false, .string ⟨#[]⟩] 23) (.cells #[.int .u8 1, .int .i64 n', .bool false, .string ⟨#[]⟩] 23) (.cells #[.int .u8 0, .int .i64 0, .bool false, .string ⟨#[]⟩] 23) (.cells #[.int .u8 1, .int .i64 n, .bool false, .string ⟨#[]⟩, .int .u8 1, .int .i64 n', .bool false, .string ⟨#[]⟩] 23)
  have hB := grown4 w (.cells #[.int .u8 1, .int .i64 n, .bool false, .string ⟨#[]⟩] 23) (.cells #[.int .u8 1, .int .i64 n', .bool false, .string ⟨#[]⟩] 23) (.cells #[.int .u8 0, .int .i64 0, .bool false, .string ⟨#[]⟩] 23) (.cells #[.int .u8 1, .int .i64 n, .bool false, .string ⟨#[]⟩, .int .u8 1, .int .i64 n', .bool false, .string ⟨#[]⟩] 23)
  have hTW := Utf8Tabs_below hT hB
  have cN := numbers2 _ _ _ _ _ _ _ _ _ _ hTW h3
  have cN := cN.mono (fun e w' h => by rw [show (V.isInt ⟨1, _, false, ⟨#[]⟩⟩ && V.isInt ⟨1, _, false, ⟨#[]⟩⟩) = true from rfl] at h; exact h)
  go_enter Tryd.func16, Tryd.ntmps16
  go_wp2_with fail
  refine cN.mono ?_
  rintro e w1 ⟨rfl, b1⟩
  rw [← b1.block w.heap.size (by omega)] at h0
  rw [← b1.block (w.heap.size + 1) (by omega)] at h1
  rw [← b1.block (w.heap.size + 2) (by omega)] at h2
  have B1 := hid (hB.trans (b1.mono (by omega)))
  have hs1 : w.heap.size + 4 ≤ w1.heap.size := by have := b1.size; omega
  clear cN h3 hz hB hTW b1
  obtain ⟨a1, a2, a3, a4⟩ := row4 h0
  obtain ⟨b1, b2, b3, b4⟩ := row4 h1
  have H2 := hid h2
  clear h0 h1 h2
  go_wp2_with fail
  go_quiet ((first
    | (go_at_call_of 55 (Value.int .i64 n); exact Calls.quiet_of_same (cS _))
    | (go_at_call_of 55 (Value.int .i64 n'); exact Calls.quiet_of_same (cS' _))
    | (go_at_call 54; exact Calls.quiet_of_same (cM _))))
  go_wp2_with fail
  refine (answer_yes r _).mono ?_
  rintro e w2 ⟨rfl, d2⟩
  have h2 := (d2.block (w.heap.size + 2) (by show _ < w1.heap.size; omega)).trans H2.out
  have B2 := hid ((B1.out.drewN _).trans (d2.mono (by show _ ≤ w1.heap.size; omega)))
  obtain ⟨c1, c2, c3, c4⟩ := row4 h2
  obtain ⟨f1, f2, f3, f4⟩ := free4 h2
  clear H2
  have H2 := hid h2
  clear h2 d2 a1 a2 a3 a4 b1 b2 b3 b4
  go_wp2_with fail
  exact bodyPost_ret (v := .tuple #[.agg #[.int .u8 1, .int .i64 r, .bool false, .string ⟨#[]⟩], .int .i64 0]) (results_pair rfl _ _ (w.heap.size + 2) 23 _ (0, 0) _ (.int .i64 0) rfl (row4_set H2.out _ _ _ _) (by rfl) Tryd.underlying23 rfl infoValue) rfl ⟨rfl, below4_set B2.out (by omega) _ _ _ _⟩

set_option maxRecDepth 100000 in
set_option maxHeartbeats 4000000 in
theorem mul_pp_no (n n' : Int) (w : World) (hT : Tabs w) (hn : 0 ≤ n) (hn' : 0 ≤ n') (h0 : -9223372036854775808 ≤ n ∧ n ≤ 9223372036854775807) (h0' : -9223372036854775808 ≤ n' ∧ n' ≤ 9223372036854775807) (hr : ¬ (-9223372036854775808 ≤ n * n' ∧ n * n' ≤ 9223372036854775807)) :
    Calls Tryd.prog 16 #[.agg #[.int .u8 1, .int .i64 n, .bool false, .string ⟨#[]⟩], .agg #[.int .u8 1, .int .i64 n', .bool false, .string ⟨#[]⟩]] w fun e w' => e = .returned (.tuple #[.agg #[.int .u8 0, .int .i64 0, .bool false, .string ⟨#[]⟩], .int .i64 91]) ∧ Below w.heap.size w w' := by
  have d0 : decide (n < 0) = false := by simp; omega
  have d1 : decide (n' < 0) = false := by simp; omega
  have cS := fun X => size_any n X h0.1 h0.2
  have cS' := fun X => size_any n' X h0'.1 h0'.2
  obtain ⟨a, ha⟩ : ∃ a, n.natAbs = a := ⟨_, rfl⟩
  obtain ⟨b, hb⟩ : ∃ b, n'.natAbs = b := ⟨_, rfl⟩
  rw [ha] at cS
  rw [hb] at cS'
  have cM := Tryd.bits_Mul64 a b (by omega) (by omega)
  have en : n = (a : Int) := by omega
  have en' : n' = (b : Int) := by omega
  have eP : n * n' = ((a * b : Nat) : Int) := by rw [en, en']; simp
  obtain ⟨P, hP⟩ : ∃ P, a * b = P := ⟨_, rfl⟩
  rw [hP] at eP cM
  obtain ⟨hi, hhi⟩ : ∃ hi, P / 18446744073709551616 = hi := ⟨_, rfl⟩
  obtain ⟨lo, hlo⟩ : ∃ lo, P % 18446744073709551616 = lo := ⟨_, rfl⟩
  rw [hhi, hlo] at cM
  obtain ⟨x, hx⟩ : ∃ x, ((hi : Int) == 0) = x := ⟨_, rfl⟩
  obtain ⟨y, hy⟩ : ∃ y, decide ((lo : Int) ≤ 9223372036854775807) = y := ⟨_, rfl⟩
  have HXY : Hid (x = true → y = false) := by
    show _ → _
    intro h
    rw [h, beq_iff_eq] at hx
    rw [← hy, decide_eq_false_iff_not]
    omega
  obtain ⟨r, hr0⟩ : ∃ r, wrap64 (n * n') = r := ⟨_, rfl⟩
  clear eP en en' hP hhi hlo hr h0 h0' hn hn' ha hb
  obtain ⟨h0, h1, h2, h3⟩ := heap4 w (.cells #[.int .u8 1, .int .i64 n, .bool false, .string ⟨#[]⟩] 23) (.cells #[.int .u8 1, .int .i64 n', .bool false, .string ⟨#[]⟩] 23) (.cells #[.int .u8 0, .int .i64 0, .bool false, .string ⟨#[]⟩] 23) (.cells #[.int .u8 1, .int .i64 n, .bool false, .string ⟨#[]⟩, .int .u8 1, .int .i64 n', .bool false, .string ⟨#[]⟩] 23)
  have hz := size4 w (.cells #[.int .u8 1, .int .i64 n, .bool false, .string ⟨#[]⟩] 23) (.cells #[.int .u8 1, .int .i64 n', .bool false, .string ⟨#[]⟩] 23) (.cells #[.int .u8 0, .int .i64 0, .bool false, .string ⟨#[]⟩] 23) (.cells #[.int .u8 1, .int .i64 n, .bool false, .string ⟨#[]⟩, .int .u8 1, .int .i64 n', .bool false, .string ⟨#[]⟩] 23)
  have hB := grown4 w (.cells #[.int .u8 1, .int .i64 n, .bool false, .string ⟨#[]⟩] 23) (.cells #[.int .u8 1, .int .i64 n', .bool false, .string ⟨#[]⟩] 23) (.cells #[.int .u8 0, .int .i64 0, .bool false, .string ⟨#[]⟩] 23) (.cells #[.int .u8 1, .int .i64 n, .bool false, .string ⟨#[]⟩, .int .u8 1, .int .i64 n', .bool false, .string ⟨#[]⟩] 23)
  have hTW := Utf8Tabs_below hT hB
  have cN := numbers2 _ _ _ _ _ _ _ _ _ _ hTW h3
  have cN := cN.mono (fun e w' h => by rw [show (V.isInt ⟨1, _, false, ⟨#[]⟩⟩ && V.isInt ⟨1, _, false, ⟨#[]⟩⟩) = true from rfl] at h; exact h)
  have key : x = false ∨ (x = true ∧ y = false) := by
    cases x
    · exact Or.inl rfl
    · exact Or.inr ⟨rfl, HXY.out rfl⟩
  clear HXY
  rcases key with rfl | ⟨rfl, rfl⟩
  all_goals
    go_enter Tryd.func16, Tryd.ntmps16
    go_wp2_with fail
    refine cN.mono ?_
    rintro e w1 ⟨rfl, b1⟩
    rw [← b1.block w.heap.size (by omega)] at h0
    rw [← b1.block (w.heap.size + 1) (by omega)] at h1
    rw [← b1.block (w.heap.size + 2) (by omega)] at h2
    have B1 := hid (hB.trans (b1.mono (by omega)))
    have hs1 : w.heap.size + 4 ≤ w1.heap.size := by have := b1.size; omega
    clear cN h3 hz hB hTW b1
    obtain ⟨a1, a2, a3, a4⟩ := row4 h0
    obtain ⟨b1, b2, b3, b4⟩ := row4 h1
    have H2 := hid h2
    clear h0 h1 h2
    go_wp2_with fail
    go_quiet ((first
      | (go_at_call_of 55 (Value.int .i64 n); exact Calls.quiet_of_same (cS _))
      | (go_at_call_of 55 (Value.int .i64 n'); exact Calls.quiet_of_same (cS' _))
      | (go_at_call 54; exact Calls.quiet_of_same (cM _))))
    go_wp2_with fail
    refine (answer_no r _).mono ?_
    rintro e w2 ⟨rfl, d2⟩
    have h2 := (d2.block (w.heap.size + 2) (by show _ < w1.heap.size; omega)).trans H2.out
    have B2 := hid ((B1.out.drewN _).trans (d2.mono (by show _ ≤ w1.heap.size; omega)))
    obtain ⟨c1, c2, c3, c4⟩ := row4 h2
    obtain ⟨f1, f2, f3, f4⟩ := free4 h2
    clear H2
    have H2 := hid h2
    clear h2 d2 a1 a2 a3 a4 b1 b2 b3 b4
    go_wp2_with fail
    exact bodyPost_ret (v := .tuple #[.agg #[.int .u8 0, .int .i64 0, .bool false, .string ⟨#[]⟩], .int .i64 91]) (results_pair rfl _ _ (w.heap.size + 2) 23 _ (0, 0) _ (.int .i64 91) rfl (row4_set H2.out _ _ _ _) (by rfl) Tryd.underlying23 rfl infoValue) rfl ⟨rfl, below4_set B2.out (by omega) _ _ _ _⟩
end Go.Proofs.YtohdifffdgoaaaaDoor
