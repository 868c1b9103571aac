/- The walks of the document's number and isNumber. -/
import Derived.Test.YtohdifffdgoaaaaDoorVTimes
import Derived.Test.YtohdifffdgoaaaaDoorVNums
namespace Go.Proofs.YtohdifffdgoaaaaDoor
open Go.RowKit
open Go.Lib (hid)

set_option maxRecDepth 100000 in
set_option maxHeartbeats 4000000 in
theorem isNumber_any (k : Nat) (n : Int) (b : Bool) (s : ByteArray) (w : World) (hs : s.size ≤ 9223372036854775803) :
    Calls Tryd.prog 48 #[.agg #[.int .u8 k, .int .i64 n, .bool b, .string s]] w fun e w' => e = .returned (.bool (V.isInt ⟨k, n, b, s⟩)) ∧ Below w.heap.size w w' := by
  have cC := fun X => refCheck_any k n b s X hs
  have hb0 : Below w.heap.size w (w.alloc (.cells #[.int .u8 k, .int .i64 n, .bool b, .string s] 23)) := (Below.refl _ w).alloc (Nat.le_refl _) _
  have HB0 := hid hb0
  clear hb0
  by_cases k1 : k = 1
  · subst k1
    have t1 : (((1 : Nat) : Int) == 1) = true := rfl
    rw [V.okE_one] at cC
    obtain ⟨q, hq⟩ : ∃ q, V.isInt ⟨1, n, b, s⟩ = q := ⟨_, rfl⟩
    rw [hq] at cC ⊢
    clear hq
    cases q
    all_goals
      go_enter Tryd.func48, Tryd.ntmps48
      go_wp2_with fail
      refine (cC _).mono ?_
      rintro e w1 ⟨rfl, b1⟩
      have B1 := hid (HB0.out.trans (b1.mono HB0.out.size))
      clear b1
      go_wp2_with fail
      go_ret
      exact ⟨rfl, B1.out⟩
  · have t1 : ((k : Int) == 1) = false := beq_eq_false_iff_ne.2 (by omega)
    rw [show V.isInt ⟨k, n, b, s⟩ = false by simp [V.isInt, k1]]
    clear k1 cC
    go_enter Tryd.func48, Tryd.ntmps48
    go_wp2_with fail
    go_ret
    exact ⟨rfl, HB0.out⟩

set_option maxRecDepth 100000 in
set_option maxHeartbeats 4000000 in
theorem number_over (m : Bool) (a b c d : Nat) (w : World) (ha : small4 a b c d) (h : (if m then 9223372036854775808 else 9223372036854775807) < digs a b c d) :
    Calls Tryd.prog 50 #[.agg #[.bool m, .int .u64 a, .int .u64 b, .int .u64 c, .int .u64 d]] w fun e w' => e = .returned (.tuple #[.agg #[.int .u8 0, .int .i64 0, .bool false, .string ⟨#[]⟩], .int .i64 91]) ∧ Below w.heap.size w w' := by
  obtain ⟨h1, h2, h3, h4⟩ := ha
  have e0 : IntKind.u64.wrap ((b : Int) * 4294967296) = ((b * 4294967296 : Nat) : Int) := by rw [IntKind.wrap_u64]; omega
  obtain ⟨x, hx⟩ : ∃ x, b * 4294967296 = x := ⟨_, rfl⟩
  rw [hx] at e0
  have e1 : IntKind.u64.wrap ((x : Int) + (a : Int)) = ((x + a : Nat) : Int) := by rw [IntKind.wrap_u64]; omega
  obtain ⟨u, hu⟩ : ∃ u, x + a = u := ⟨_, rfl⟩
  rw [hu] at e1
  have key : ((c : Int) == 0) = false ∨ (((c : Int) == 0) = true ∧ ((d : Int) == 0) = false) ∨ (((c : Int) == 0) = true ∧ ((d : Int) == 0) = true ∧ decide ((if m then (9223372036854775808 : Int) else 9223372036854775807) < (u : Int)) = true) := by
    by_cases hc : c = 0
    · by_cases hd : d = 0
      · refine Or.inr (Or.inr ⟨by simp [hc], by simp [hd], ?_⟩)
        subst hc hd
        unfold digs at h
        rw [decide_eq_true_eq]
        cases m
        · simp at h ⊢; omega
        · simp at h ⊢; omega
      · exact Or.inr (Or.inl ⟨by simp [hc], beq_eq_false_iff_ne.2 (by omega)⟩)
    · exact Or.inl (beq_eq_false_iff_ne.2 (by omega))
  have hB : Below w.heap.size w ((w.alloc (wideRow m a b c d)).alloc (.cells #[.int .u8 0, .int .i64 0, .bool false, .string ⟨#[]⟩] 23)) := ((Below.refl _ w).alloc (Nat.le_refl _) _).alloc (by simp) _
  have hg : ((w.alloc (wideRow m a b c d)).alloc (.cells #[.int .u8 0, .int .i64 0, .bool false, .string ⟨#[]⟩] 23)).heap[w.heap.size + 1]? = some (.cells #[.int .u8 0, .int .i64 0, .bool false, .string ⟨#[]⟩] 23 (0, 0)) := by
    have := heap_alloc_new (w.alloc (wideRow m a b c d)) (.cells #[.int .u8 0, .int .i64 0, .bool false, .string ⟨#[]⟩] 23)
    rw [show (w.alloc (wideRow m a b c d)).heap.size = w.heap.size + 1 by simp] at this
    exact this
  have HB := hid hB
  have HG := hid hg
  clear hB hg h hx hu h1 h2 h3 h4
  rcases key with k1 | ⟨k1, k2⟩ | ⟨k1, k2, k3⟩
  · have k1' : ((c : Int) != 0) = true := by rw [bne, k1]; rfl
    cases m
    all_goals
      go_enter Tryd.func50, Tryd.ntmps50
      go_wp2_with fail
      exact bodyPost_ret (v := .tuple #[.agg #[.int .u8 0, .int .i64 0, .bool false, .string ⟨#[]⟩], .int .i64 91]) (results_pair rfl _ _ (w.heap.size + 1) 23 _ (0, 0) _ (.int .i64 91) rfl HG.out (by rfl) Tryd.underlying23 rfl infoValue) rfl ⟨rfl, HB.out⟩
  · have k1' : ((c : Int) != 0) = false := by rw [bne, k1]; rfl
    have k2' : ((d : Int) != 0) = true := by rw [bne, k2]; rfl
    cases m
    all_goals
      go_enter Tryd.func50, Tryd.ntmps50
      go_wp2_with fail
      exact bodyPost_ret (v := .tuple #[.agg #[.int .u8 0, .int .i64 0, .bool false, .string ⟨#[]⟩], .int .i64 91]) (results_pair rfl _ _ (w.heap.size + 1) 23 _ (0, 0) _ (.int .i64 91) rfl HG.out (by rfl) Tryd.underlying23 rfl infoValue) rfl ⟨rfl, HB.out⟩
  · have k1' : ((c : Int) != 0) = false := by rw [bne, k1]; rfl
    have k2' : ((d : Int) != 0) = false := by rw [bne, k2]; rfl
    cases m
    all_goals
      simp only [if_true, Bool.false_eq_true, if_false] at k3
      go_enter Tryd.func50, Tryd.ntmps50
      go_wp2_with fail
      exact bodyPost_ret (v := .tuple #[.agg #[.int .u8 0, .int .i64 0, .bool false, .string ⟨#[]⟩], .int .i64 91]) (results_pair rfl _ _ (w.heap.size + 1) 23 _ (0, 0) _ (.int .i64 91) rfl HG.out (by rfl) Tryd.underlying23 rfl infoValue) rfl ⟨rfl, HB.out⟩

/-- the whole number of a sign and a size -/
def sgnd (m : Bool) (x : Nat) : Int := if m then -(x : Int) else (x : Int)

set_option maxRecDepth 100000 in
set_option maxHeartbeats 4000000 in
theorem number_yes (m : Bool) (a b c d : Nat) (w : World) (ha : small4 a b c d) (h : digs a b c d ≤ (if m then 9223372036854775808 else 9223372036854775807)) :
    Calls Tryd.prog 50 #[.agg #[.bool m, .int .u64 a, .int .u64 b, .int .u64 c, .int .u64 d]] w fun e w' => e = .returned (.tuple #[.agg #[.int .u8 1, .int .i64 (sgnd m (digs a b c d)), .bool false, .string ⟨#[]⟩], .int .i64 0]) ∧ Below w.heap.size w w' := by
  obtain ⟨h1, h2, h3, h4⟩ := ha
  have e0 : IntKind.u64.wrap ((b : Int) * 4294967296) = ((b * 4294967296 : Nat) : Int) := by rw [IntKind.wrap_u64]; omega
  obtain ⟨x, hx⟩ : ∃ x, b * 4294967296 = x := ⟨_, rfl⟩
  rw [hx] at e0
  have e1 : IntKind.u64.wrap ((x : Int) + (a : Int)) = ((x + a : Nat) : Int) := by rw [IntKind.wrap_u64]; omega
  obtain ⟨u, hu⟩ : ∃ u, x + a = u := ⟨_, rfl⟩
  rw [hu] at e1
  have hl : digs a b c d ≤ 9223372036854775808 := by split at h <;> omega
  have hcd : c = 0 ∧ d = 0 := by unfold digs at hl; omega
  obtain ⟨rfl, rfl⟩ := hcd
  have hdu : digs a b 0 0 = u := by unfold digs; omega
  rw [hdu] at h hl ⊢
  obtain ⟨r, hr⟩ : ∃ r, sgnd m u = r := ⟨_, rfl⟩
  rw [hr]
  have hB : Below w.heap.size w ((w.alloc (wideRow m a b 0 0)).alloc (.cells #[.int .u8 1, .int .i64 r, .bool false, .string ⟨#[]⟩] 23)) := ((Below.refl _ w).alloc (Nat.le_refl _) _).alloc (by simp) _
  have hg : ((w.alloc (wideRow m a b 0 0)).alloc (.cells #[.int .u8 1, .int .i64 r, .bool false, .string ⟨#[]⟩] 23)).heap[w.heap.size + 1]? = some (.cells #[.int .u8 1, .int .i64 r, .bool false, .string ⟨#[]⟩] 23 (0, 0)) := by
    have := heap_alloc_new (w.alloc (wideRow m a b 0 0)) (.cells #[.int .u8 1, .int .i64 r, .bool false, .string ⟨#[]⟩] 23)
    rw [show (w.alloc (wideRow m a b 0 0)).heap.size = w.heap.size + 1 by simp] at this
    exact this
  have HB := hid hB
  have HG := hid hg
  cases m
  · have k3 : decide ((9223372036854775807 : Int) < (u : Int)) = false := by simp at h ⊢; omega
    have e2 : wrap64 (u : Int) = r := by rw [← hr]; simp [sgnd]; unfold wrap64; simp at h; omega
    clear hB hg h hx hu h1 h2 h3 h4 hl hdu hr
    go_enter Tryd.func50, Tryd.ntmps50
    go_wp2_with fail
    exact bodyPost_ret (v := .tuple #[.agg #[.int .u8 1, .int .i64 r, .bool false, .string ⟨#[]⟩], .int .i64 0]) (results_pair rfl _ _ (w.heap.size + 1) 23 _ (0, 0) _ (.int .i64 0) rfl HG.out (by rfl) Tryd.underlying23 rfl infoValue) rfl ⟨rfl, HB.out⟩
  · have k3 : decide ((9223372036854775808 : Int) < (u : Int)) = false := by simp at h ⊢; omega
    have e2 := neg_bits u (by omega)
    obtain ⟨v, hv⟩ : ∃ v, (18446744073709551616 - u) % 18446744073709551616 = v := ⟨_, rfl⟩
    rw [hv] at e2
    have e3 : wrap64 (v : Int) = r := by rw [← hr]; simp [sgnd]; unfold wrap64; omega
    clear hB hg h hx hu h1 h2 h3 h4 hl hdu hr hv
    go_enter Tryd.func50, Tryd.ntmps50
    go_wp2_with fail
    exact bodyPost_ret (v := .tuple #[.agg #[.int .u8 1, .int .i64 r, .bool false, .string ⟨#[]⟩], .int .i64 0]) (results_pair rfl _ _ (w.heap.size + 1) 23 _ (0, 0) _ (.int .i64 0) rfl HG.out (by rfl) Tryd.underlying23 rfl infoValue) rfl ⟨rfl, HB.out⟩
end Go.Proofs.YtohdifffdgoaaaaDoor
