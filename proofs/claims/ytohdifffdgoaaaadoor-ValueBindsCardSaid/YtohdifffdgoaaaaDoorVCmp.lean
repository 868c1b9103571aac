/- The walks of the document's sign, Cmp, and of answers. -/
import Derived.Test.YtohdifffdgoaaaaDoorVCheck
import Derived.WalkLawsBesides
import Derived.Laws.Cover1
namespace Go.Proofs.YtohdifffdgoaaaaDoor
open Go.RowKit
open Go.Lib (hid)
namespace V
def sgn (b : Bool) : Int := if b then -1 else 1
/-- the order of values -/
def cmp (v u : Val) : Int :=
  if v.k ≠ u.k then sgn (decide (v.k < u.k)) else if v.n ≠ u.n then sgn (decide (v.n < u.n)) else if v.b ≠ u.b then sgn u.b else if v.s.data.toList ≠ u.s.data.toList then sgn (Op.bytesLess v.s.data.toList u.s.data.toList) else 0
end V
theorem sign_any (b : Bool) (w : World) : Calls Tryd.prog 65 #[.bool b] w fun e w' => e = .returned (.int .i64 (V.sgn b)) ∧ w' = w := by
  cases b
  all_goals
    go_enter Tryd.func65, Tryd.ntmps65
    go_wp2_with fail
    go_ret
    exact ⟨rfl, rfl⟩

set_option maxRecDepth 100000 in
set_option maxHeartbeats 4000000 in
theorem refCmp_any (k k' : Nat) (n n' : Int) (b b' : Bool) (s s' : ByteArray) (w : World) :
    Calls Tryd.prog 29 #[.agg #[.int .u8 k, .int .i64 n, .bool b, .string s], .agg #[.int .u8 k', .int .i64 n', .bool b', .string s']] w fun e w' => e = .returned (.int .i64 (V.cmp ⟨k, n, b, s⟩ ⟨k', n', b', s'⟩)) ∧ Below w.heap.size w w' := by
  obtain ⟨R, hR⟩ : ∃ R, V.cmp ⟨k, n, b, s⟩ ⟨k', n', b', s'⟩ = R := ⟨_, rfl⟩
  rw [hR]
  unfold V.cmp at hR
  simp only at hR
  have hB : ∀ o o', Below w.heap.size w ((w.alloc o).alloc o') := fun o o' => ((Below.refl _ w).alloc (Nat.le_refl _) o).alloc (by simp) o'
  have HB := hid hB
  clear hB
  by_cases hk : k = k'
  · subst hk
    rw [if_neg (by simp)] at hR
    have t0 : ((k : Int) != (k : Int)) = false := by simp
    by_cases hn : n = n'
    · subst hn
      rw [if_neg (by simp)] at hR
      have t1 : (n != n) = false := by simp
      by_cases hb : b = b'
      · subst hb
        rw [if_neg (by simp)] at hR
        have t2 : (b != b) = false := by simp
        by_cases hs : s.data.toList = s'.data.toList
        · rw [if_neg (by simp [hs])] at hR
          have t3 : (s.toList == s'.toList) = true := by rw [Lib.toList_data, Lib.toList_data]; simp [hs]
          have HR := hid hR
          clear hR hs
          go_enter Tryd.func29, Tryd.ntmps29
          go_wp2_with fail
          go_ret
          exact ⟨ret_i (a := 0) HR.out, HB.out _ _⟩
        · rw [if_pos hs] at hR
          have t3 : (s.toList == s'.toList) = false := by rw [Lib.toList_data, Lib.toList_data]; exact beq_eq_false_iff_ne.2 hs
          rw [← Lib.toList_data s, ← Lib.toList_data s'] at hR
          have cS := sign_any (Op.bytesLess s.toList s'.toList)
          have HR := hid hR
          clear hR hs
          go_enter Tryd.func29, Tryd.ntmps29
          go_wp2_with fail
          refine (cS _).mono ?_
          rintro e w' ⟨rfl, rfl⟩
          go_wp2_with fail
          go_ret
          exact ⟨ret_i HR.out, HB.out _ _⟩
      · rw [if_pos hb] at hR
        have t2 : (b == b') = false := by simpa using hb
        have cS := sign_any b'
        have HR := hid hR
        clear hR hb
        go_enter Tryd.func29, Tryd.ntmps29
        go_wp2_with fail
        refine (cS _).mono ?_
        rintro e w' ⟨rfl, rfl⟩
        go_wp2_with fail
        go_ret
        exact ⟨ret_i HR.out, HB.out _ _⟩
    · rw [if_pos hn] at hR
      have t1 : (n != n') = true := by simpa using hn
      have cS := sign_any (decide (n < n'))
      have HR := hid hR
      clear hR hn
      go_enter Tryd.func29, Tryd.ntmps29
      go_wp2_with fail
      refine (cS _).mono ?_
      rintro e w' ⟨rfl, rfl⟩
      go_wp2_with fail
      go_ret
      exact ⟨ret_i HR.out, HB.out _ _⟩
  · rw [if_pos hk] at hR
    have t0 : ((k : Int) != (k' : Int)) = true := by rw [bne_iff_ne]; omega
    have cS := sign_any (decide (k < k'))
    have HR := hid hR
    clear hR hk
    go_enter Tryd.func29, Tryd.ntmps29
    go_wp2_with fail
    refine (cS _).mono ?_
    rintro e w' ⟨rfl, rfl⟩
    go_wp2_with fail
    go_ret
    exact ⟨ret_i HR.out, HB.out _ _⟩

theorem V.cmp_self (v : V.Val) : V.cmp v v = 0 := by simp [V.cmp]

set_option maxRecDepth 100000 in
set_option maxHeartbeats 4000000 in
theorem answers_same (k : Nat) (n e : Int) (b : Bool) (s : ByteArray) (w : World) :
    Calls Tryd.prog 14 #[.agg #[.int .u8 k, .int .i64 n, .bool b, .string s], .int .i64 e, .agg #[.int .u8 k, .int .i64 n, .bool b, .string s], .int .i64 e] w fun e w' => e = .returned (.bool true) ∧ Below w.heap.size w w' := by
  have cC := refCmp_any k k n n b b s s
  rw [V.cmp_self] at cC
  have t0 : (e == e) = true := by simp
  go_enter Tryd.func14, Tryd.ntmps14
  go_wp2_with fail
  refine (cC _).mono ?_
  rintro e w' ⟨rfl, b1⟩
  have hB : Below w.heap.size w w' := Below.trans (((Below.refl _ w).alloc (Nat.le_refl _) _).alloc (by simp) _) (b1.mono (by simp; omega))
  clear b1
  go_wp2_with fail
  go_ret
  exact ⟨rfl, hB⟩
end Go.Proofs.YtohdifffdgoaaaaDoor
