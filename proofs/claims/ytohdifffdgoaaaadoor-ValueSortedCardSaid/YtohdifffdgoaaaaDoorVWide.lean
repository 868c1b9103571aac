/- The walks of wide numbers: widen, below. -/
import Derived.Test.YtohdifffdgoaaaaDoorVCheck
import Derived.Laws.BitsAllLaws
import Derived.Laws.Bits64
namespace Go.Proofs.YtohdifffdgoaaaaDoor
open Go.RowKit
open Go.Lib (hid)
theorem _root_.Go.RowKit.Below.drewN {B : Nat} {a w : World} (h : Below B a w) (n : Nat) : Below B a (w.drewN n) := ⟨h.os, h.tape, h.output, h.size, h.block⟩
theorem infoWide : (Tryd.prog.info? 66).map (·.size) = some 5 := by kernel_rfl

theorem xor_ones (y : Nat) (h : y < 18446744073709551616) : 18446744073709551615 ^^^ y = 18446744073709551615 - y := by
  have e := congrArg BitVec.toNat (BitVec.xor_allOnes (x := BitVec.ofNat 64 y))
  rw [BitVec.toNat_xor, BitVec.toNat_not, BitVec.toNat_ofNat, BitVec.toNat_allOnes] at e
  rw [Nat.mod_eq_of_lt h] at e
  rw [Nat.xor_comm]
  exact e
/-- '1 + ^uint64(n)' -/
theorem neg_bits (u : Nat) (hu : u < 18446744073709551616) : IntKind.u64.wrap (1 + bits .xor .u64 IntKind.u64.max (u : Int)) = (((18446744073709551616 - u) % 18446744073709551616 : Nat) : Int) := by
  have e : IntKind.u64.max = ((18446744073709551615 : Nat) : Int) := rfl
  rw [e, bits_xor_u64_nat _ _ (by omega) hu, xor_ones u hu, IntKind.wrap_u64]
  omega

set_option maxRecDepth 100000 in
set_option maxHeartbeats 4000000 in
theorem widen_any (n : Int) (w : World) (h0 : -9223372036854775808 ≤ n) (h1 : n ≤ 9223372036854775807) :
    Calls Tryd.prog 49 #[.int .i64 n] w fun e w' => e = .returned (.agg #[.bool (decide (n < 0)), .int .u64 ((n.natAbs % 4294967296 : Nat) : Int), .int .u64 ((n.natAbs / 4294967296 : Nat) : Int), .int .u64 0, .int .u64 0]) ∧ Below w.heap.size w w' := by
  obtain ⟨a, ha⟩ : ∃ a, n.natAbs = a := ⟨_, rfl⟩
  rw [ha]
  obtain ⟨lo, hlo⟩ : ∃ lo, a % 4294967296 = lo := ⟨_, rfl⟩
  obtain ⟨hi, hhi⟩ : ∃ hi, a / 4294967296 = hi := ⟨_, rfl⟩
  rw [hlo, hhi]
  have m1 : (a : Int).tmod 4294967296 = (lo : Int) := by rw [Int.tmod_eq_emod_of_nonneg (by omega)]; omega
  have m2 : IntKind.u64.wrap ((a : Int) / 4294967296) = (hi : Int) := by rw [IntKind.wrap_u64]; omega
  have m3 : IntKind.u64.wrap ((a : Int).tdiv 4294967296) = (hi : Int) := by rw [IntKind.wrap_u64, Int.tdiv_eq_ediv_of_nonneg (by omega)]; omega
  by_cases hn : n < 0
  · have d0 : decide (n < 0) = true := decide_eq_true hn
    have hw : IntKind.u64.wrap n = ((18446744073709551616 - a : Nat) : Int) := by rw [IntKind.wrap_u64]; omega
    have hb : IntKind.u64.wrap (1 + bits .xor .u64 IntKind.u64.max ((18446744073709551616 - a : Nat) : Int)) = (a : Int) := by
      rw [neg_bits _ (by omega)]; omega
    rw [d0]
    clear ha h0 h1 hlo hhi
    go_enter Tryd.func49, Tryd.ntmps49
    go_wp2_with fail
    exact bodyPost_ret (v := .agg #[.bool true, .int .u64 lo, .int .u64 hi, .int .u64 0, .int .u64 0]) (results_cell_row rfl _ _ w.heap.size 66 _ (0, 0) _ rfl (heap_alloc_new w _) Tryd.underlying66 rfl infoWide) rfl ⟨rfl, (Below.refl _ w).alloc (Nat.le_refl _) _⟩
  · have d0 : decide (n < 0) = false := decide_eq_false hn
    have hw : IntKind.u64.wrap n = (a : Int) := by rw [IntKind.wrap_u64]; omega
    rw [d0]
    clear ha h0 h1 hlo hhi
    go_enter Tryd.func49, Tryd.ntmps49
    go_wp2_with fail
    exact bodyPost_ret (v := .agg #[.bool false, .int .u64 lo, .int .u64 hi, .int .u64 0, .int .u64 0]) (results_cell_row rfl _ _ w.heap.size 66 _ (0, 0) _ rfl (heap_alloc_new w _) Tryd.underlying66 rfl infoWide) rfl ⟨rfl, (Below.refl _ w).alloc (Nat.le_refl _) _⟩

/-- is one without its sign less than the other one? -/
def lessB (a b c d a' b' c' d' : Nat) : Bool := if d ≠ d' then decide (d < d') else if c ≠ c' then decide (c < c') else if b ≠ b' then decide (b < b') else decide (a < a')
theorem ret_b {a b : Bool} (h : a = b) : Ending.returned (.bool a) = .returned (.bool b) := by rw [h]

set_option maxRecDepth 100000 in
set_option maxHeartbeats 4000000 in
theorem below_any (m m' : Bool) (a b c d a' b' c' d' : Nat) (w : World) :
    Calls Tryd.prog 81 #[.agg #[.bool m, .int .u64 a, .int .u64 b, .int .u64 c, .int .u64 d], .agg #[.bool m', .int .u64 a', .int .u64 b', .int .u64 c', .int .u64 d']] w fun e w' => e = .returned (.bool (lessB a b c d a' b' c' d')) ∧ Below w.heap.size w w' := by
  obtain ⟨R, hR⟩ : ∃ R, lessB a b c d a' b' c' d' = R := ⟨_, rfl⟩
  rw [hR]
  unfold lessB at hR
  have HR := hid hR
  clear hR
  have i0 : ((1 : Nat) : Int) - 1 = 0 := rfl
  have i1 : ((2 : Nat) : Int) - 1 = 1 := rfl
  have i2 : ((3 : Nat) : Int) - 1 = 2 := rfl
  have i3 : ((4 : Nat) : Int) - 1 = 3 := rfl
  go_enter Tryd.func81, Tryd.ntmps81
  go_wp2_with fail
  go_loopw [5] (fun i wr => ∃ k : Nat, k ≤ 4 ∧ i = .int .i64 ((k : Int) - 1) ∧ Hid (Below w.heap.size w wr) ∧ Hid (wr.heap[w.heap.size]? = some (.cells #[.bool m, .int .u64 a, .int .u64 b, .int .u64 c, .int .u64 d] 66 (0, 0)) ∧ wr.heap[w.heap.size + 1]? = some (.cells #[.bool m', .int .u64 a', .int .u64 b', .int .u64 c', .int .u64 d'] 66 (0, 0))) ∧ Hid ((k ≤ 3 → d = d') ∧ (k ≤ 2 → c = c') ∧ (k ≤ 1 → b = b') ∧ (k ≤ 0 → a = a'))) (fun i _ => (intOf i + 1).toNat)
  case atStart =>
    refine ⟨4, by omega, by rfl, ((Below.refl _ w).alloc (Nat.le_refl _) _).alloc (by simp) _, ⟨?_, ?_⟩, ⟨by omega, by omega, by omega, by omega⟩⟩
    · rw [Lib.alloc_old _ _ _ (by simp)]; exact heap_alloc_new w _
    · have := heap_alloc_new (w.alloc (.cells #[.bool m, .int .u64 a, .int .u64 b, .int .u64 c, .int .u64 d] 66)) (.cells #[.bool m', .int .u64 a', .int .u64 b', .int .u64 c', .int .u64 d'] 66)
      rw [show (w.alloc (.cells #[.bool m, .int .u64 a, .int .u64 b, .int .u64 c, .int .u64 d] 66)).heap.size = w.heap.size + 1 by simp] at this
      exact this
  case round =>
    obtain ⟨k, hk, rfl, hb, hc, he⟩ := hrel
    obtain ⟨hc1, hc2⟩ := hc.out
    rcases (by omega : k = 0 ∨ k = 1 ∨ k = 2 ∨ k = 3 ∨ k = 4) with rfl | rfl | rfl | rfl | rfl
    · have j0 : ((0 : Nat) : Int) - 1 = -1 := rfl
      have hF : Hid (R = false) := by
        show _ = _
        obtain ⟨e1, e2, e3, e4⟩ := he.out
        rw [← HR.out, if_neg (by simp [e1]), if_neg (by simp [e2]), if_neg (by simp [e3])]
        rw [e4 (by omega)]; simp
      clear hc1 hc2
      go_wp2_with fail
      go_ret
      exact ⟨ret_b (a := false) hF.out.symm, hb.out⟩
    · have c1 : wr.cell? ⟨w.heap.size, 1 + 0, none⟩ = some (.int .u64 a) := by rw [cell_of_row _ _ _ _ _ _ hc1]; rfl
      have c2 : wr.cell? ⟨w.heap.size + 1, 1 + 0, none⟩ = some (.int .u64 a') := by rw [cell_of_row _ _ _ _ _ _ hc2]; rfl
      have hHc := hid (And.intro hc1 hc2)
      obtain ⟨e1, e2, e3, e4⟩ := he.out
      clear hc hc1 hc2
      by_cases hx : a = a'
      · have q0 : ((a : Int) != (a' : Int)) = false := by simp [hx]
        have q1 : ((a : Int) == (a' : Int)) = true := by simp [hx]
        have HE : Hid ((0 ≤ 3 → d = d') ∧ (0 ≤ 2 → c = c') ∧ (0 ≤ 1 → b = b') ∧ (0 ≤ 0 → a = a')) := by
          refine ⟨?_, ?_, ?_, ?_⟩ <;> intro _ <;> first | exact hx | exact e1 (by omega) | exact e2 (by omega) | exact e3 (by omega) | omega
        clear e1 e2 e3 e4 hx HR
        go_wp2_with fail
        go_quiet (fail)
        go_wp2_with fail
        go_roundw
        case rel => exact ⟨0, by omega, by rfl, hid (hb.out.drewN _), hHc, HE⟩
        case measure => simp [intOf]
      · have q0 : ((a : Int) != (a' : Int)) = true := by rw [bne_iff_ne]; omega
        have q1 : ((a : Int) == (a' : Int)) = false := beq_eq_false_iff_ne.2 (by omega)
        have HF : Hid (decide (a < a') = R) := by
          show _ = _
          rw [← HR.out]
          rw [if_neg (by simp [e1 (by omega)])]; rw [if_neg (by simp [e2 (by omega)])]; rw [if_neg (by simp [e3 (by omega)])]
        clear e1 e2 e3 e4 hx HR
        go_wp2_with fail
        go_quiet (fail)
        go_wp2_with fail
        go_quiet (fail)
        go_wp2_with fail
        go_ret
        exact ⟨ret_b (by rw [← HF.out]), (hb.out.drewN _).drewN _⟩
    · have c1 : wr.cell? ⟨w.heap.size, 1 + 1, none⟩ = some (.int .u64 b) := by rw [cell_of_row _ _ _ _ _ _ hc1]; rfl
      have c2 : wr.cell? ⟨w.heap.size + 1, 1 + 1, none⟩ = some (.int .u64 b') := by rw [cell_of_row _ _ _ _ _ _ hc2]; rfl
      have hHc := hid (And.intro hc1 hc2)
      obtain ⟨e1, e2, e3, e4⟩ := he.out
      clear hc hc1 hc2
      by_cases hx : b = b'
      · have q0 : ((b : Int) != (b' : Int)) = false := by simp [hx]
        have q1 : ((b : Int) == (b' : Int)) = true := by simp [hx]
        have HE : Hid ((1 ≤ 3 → d = d') ∧ (1 ≤ 2 → c = c') ∧ (1 ≤ 1 → b = b') ∧ (1 ≤ 0 → a = a')) := by
          refine ⟨?_, ?_, ?_, ?_⟩ <;> intro _ <;> first | exact hx | exact e1 (by omega) | exact e2 (by omega) | exact e3 (by omega) | omega
        clear e1 e2 e3 e4 hx HR
        go_wp2_with fail
        go_quiet (fail)
        go_wp2_with fail
        go_roundw
        case rel => exact ⟨1, by omega, by rfl, hid (hb.out.drewN _), hHc, HE⟩
        case measure => simp [intOf]
      · have q0 : ((b : Int) != (b' : Int)) = true := by rw [bne_iff_ne]; omega
        have q1 : ((b : Int) == (b' : Int)) = false := beq_eq_false_iff_ne.2 (by omega)
        have HF : Hid (decide (b < b') = R) := by
          show _ = _
          rw [← HR.out]
          rw [if_neg (by simp [e1 (by omega)])]; rw [if_neg (by simp [e2 (by omega)])]; rw [if_pos hx]
        clear e1 e2 e3 e4 hx HR
        go_wp2_with fail
        go_quiet (fail)
        go_wp2_with fail
        go_quiet (fail)
        go_wp2_with fail
        go_ret
        exact ⟨ret_b (by rw [← HF.out]), (hb.out.drewN _).drewN _⟩
    · have c1 : wr.cell? ⟨w.heap.size, 1 + 2, none⟩ = some (.int .u64 c) := by rw [cell_of_row _ _ _ _ _ _ hc1]; rfl
      have c2 : wr.cell? ⟨w.heap.size + 1, 1 + 2, none⟩ = some (.int .u64 c') := by rw [cell_of_row _ _ _ _ _ _ hc2]; rfl
      have hHc := hid (And.intro hc1 hc2)
      obtain ⟨e1, e2, e3, e4⟩ := he.out
      clear hc hc1 hc2
      by_cases hx : c = c'
      · have q0 : ((c : Int) != (c' : Int)) = false := by simp [hx]
        have q1 : ((c : Int) == (c' : Int)) = true := by simp [hx]
        have HE : Hid ((2 ≤ 3 → d = d') ∧ (2 ≤ 2 → c = c') ∧ (2 ≤ 1 → b = b') ∧ (2 ≤ 0 → a = a')) := by
          refine ⟨?_, ?_, ?_, ?_⟩ <;> intro _ <;> first | exact hx | exact e1 (by omega) | exact e2 (by omega) | exact e3 (by omega) | omega
        clear e1 e2 e3 e4 hx HR
        go_wp2_with fail
        go_quiet (fail)
        go_wp2_with fail
        go_roundw
        case rel => exact ⟨2, by omega, by rfl, hid (hb.out.drewN _), hHc, HE⟩
        case measure => simp [intOf]
      · have q0 : ((c : Int) != (c' : Int)) = true := by rw [bne_iff_ne]; omega
        have q1 : ((c : Int) == (c' : Int)) = false := beq_eq_false_iff_ne.2 (by omega)
        have HF : Hid (decide (c < c') = R) := by
          show _ = _
          rw [← HR.out]
          rw [if_neg (by simp [e1 (by omega)])]; rw [if_pos hx]
        clear e1 e2 e3 e4 hx HR
        go_wp2_with fail
        go_quiet (fail)
        go_wp2_with fail
        go_quiet (fail)
        go_wp2_with fail
        go_ret
        exact ⟨ret_b (by rw [← HF.out]), (hb.out.drewN _).drewN _⟩
    · have c1 : wr.cell? ⟨w.heap.size, 1 + 3, none⟩ = some (.int .u64 d) := by rw [cell_of_row _ _ _ _ _ _ hc1]; rfl
      have c2 : wr.cell? ⟨w.heap.size + 1, 1 + 3, none⟩ = some (.int .u64 d') := by rw [cell_of_row _ _ _ _ _ _ hc2]; rfl
      have hHc := hid (And.intro hc1 hc2)
      obtain ⟨e1, e2, e3, e4⟩ := he.out
      clear hc hc1 hc2
      by_cases hx : d = d'
      · have q0 : ((d : Int) != (d' : Int)) = false := by simp [hx]
        have q1 : ((d : Int) == (d' : Int)) = true := by simp [hx]
        have HE : Hid ((3 ≤ 3 → d = d') ∧ (3 ≤ 2 → c = c') ∧ (3 ≤ 1 → b = b') ∧ (3 ≤ 0 → a = a')) := by
          refine ⟨?_, ?_, ?_, ?_⟩ <;> intro _ <;> first | exact hx | exact e1 (by omega) | exact e2 (by omega) | exact e3 (by omega) | omega
        clear e1 e2 e3 e4 hx HR
        go_wp2_with fail
        go_quiet (fail)
        go_wp2_with fail
        go_roundw
        case rel => exact ⟨3, by omega, by rfl, hid (hb.out.drewN _), hHc, HE⟩
        case measure => simp [intOf]
      · have q0 : ((d : Int) != (d' : Int)) = true := by rw [bne_iff_ne]; omega
        have q1 : ((d : Int) == (d' : Int)) = false := beq_eq_false_iff_ne.2 (by omega)
        have HF : Hid (decide (d < d') = R) := by
          show _ = _
          rw [← HR.out]
          rw [if_pos hx]
        clear e1 e2 e3 e4 hx HR
        go_wp2_with fail
        go_quiet (fail)
        go_wp2_with fail
        go_quiet (fail)
        go_wp2_with fail
        go_ret
        exact ⟨ret_b (by rw [← HF.out]), (hb.out.drewN _).drewN _⟩
end Go.Proofs.YtohdifffdgoaaaaDoor
