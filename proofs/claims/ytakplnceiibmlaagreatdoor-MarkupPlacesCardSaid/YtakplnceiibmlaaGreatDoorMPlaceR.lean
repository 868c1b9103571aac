/- The law's before; the document's Place. -/
import Derived.Test.YtakplnceiibmlaaGreatDoorMAwake
namespace Go.Proofs.YtakplnceiibmlaaGreatDoor
open Go.RowKit
open Go.Lib (hid)
def bef (a b : Nat × Nat) : Bool := decide (a.1 < b.1 ∨ (a.1 = b.1 ∧ a.2 < b.2))
def posAgg (a : Nat × Nat) : Value := .agg #[.int .i64 a.1, .int .i64 a.2]
set_option maxRecDepth 100000 in
theorem before_any (a b : Nat × Nat) (W : World) :
    Calls Tryz.prog 10 #[posAgg a, posAgg b] W fun en W' => en = .returned (.bool (bef a b)) ∧ Below W.heap.size W W' := by
  obtain ⟨a1, a2⟩ := a
  obtain ⟨b1, b2⟩ := b
  unfold posAgg bef
  simp only
  obtain ⟨w1, hw1⟩ : ∃ w1, (W.alloc (.cells #[.int .i64 a1, .int .i64 a2] 26)).alloc (.cells #[.int .i64 b1, .int .i64 b2] 26) = w1 := ⟨_, rfl⟩
  have hA : w1.heap[W.heap.size]? = some (.cells #[.int .i64 a1, .int .i64 a2] 26 (0, 0)) := by
    rw [← hw1, Go.Lib.alloc_old _ _ _ (by simp)]; exact heap_alloc_new W _
  have hB : w1.heap[W.heap.size + 1]? = some (.cells #[.int .i64 b1, .int .i64 b2] 26 (0, 0)) := by
    have := heap_alloc_new (W.alloc (.cells #[.int .i64 a1, .int .i64 a2] 26)) (.cells #[.int .i64 b1, .int .i64 b2] 26)
    rw [hw1] at this
    simpa using this
  have HB : Hid (Below W.heap.size W w1) := by show Below _ _ _; rw [← hw1]; exact ((Below.refl _ W).alloc (Nat.le_refl _) _).alloc (by simp) _
  obtain ⟨x0, x1⟩ := row2 hA
  obtain ⟨y0, y1⟩ := row2 hB
  have HW1 := hid hw1
  clear hA hB hw1
  have hc : a1 < b1 ∨ (¬ a1 < b1 ∧ a1 = b1 ∧ a2 < b2) ∨ (¬ a1 < b1 ∧ a1 = b1 ∧ ¬ a2 < b2) ∨ (¬ a1 < b1 ∧ ¬ a1 = b1) := by omega
  rcases hc with h | ⟨h, rfl, h''⟩ | ⟨h, rfl, h''⟩ | ⟨h, h'⟩
  · rw [decide_eq_true (Or.inl h : a1 < b1 ∨ (a1 = b1 ∧ a2 < b2))]
    have k1 : decide ((a1 : Int) < (b1 : Int)) = true := decide_eq_true (by omega)
    have k2 : decide (a1 < b1) = true := decide_eq_true h
    go_enter Tryz.func10, Tryz.ntmps10
    go_upto_region 1 with fail
    rw [HW1.out]
    go_wp2_with fail
    go_ret
    exact ⟨rfl, HB.out⟩
  · rw [decide_eq_true (Or.inr ⟨rfl, h''⟩ : a1 < a1 ∨ (a1 = a1 ∧ a2 < b2))]
    have k1 : decide ((a1 : Int) < (a1 : Int)) = false := decide_eq_false (by omega)
    have k2 : decide (a1 < a1) = false := decide_eq_false h
    have k3 : ((a1 : Int) == (a1 : Int)) = true := by simp
    have k4 : decide ((a2 : Int) < (b2 : Int)) = true := decide_eq_true (by omega)
    have k5 : decide (a2 < b2) = true := decide_eq_true h''
    go_enter Tryz.func10, Tryz.ntmps10
    go_upto_region 1 with fail
    rw [HW1.out]
    go_wp2_with fail
    go_ret
    exact ⟨rfl, HB.out⟩
  · rw [decide_eq_false (show ¬ (a1 < a1 ∨ (a1 = a1 ∧ a2 < b2)) from by omega)]
    have k1 : decide ((a1 : Int) < (a1 : Int)) = false := decide_eq_false (by omega)
    have k2 : decide (a1 < a1) = false := decide_eq_false h
    have k3 : ((a1 : Int) == (a1 : Int)) = true := by simp
    have k4 : decide ((a2 : Int) < (b2 : Int)) = false := decide_eq_false (by omega)
    have k5 : decide (a2 < b2) = false := decide_eq_false h''
    go_enter Tryz.func10, Tryz.ntmps10
    go_upto_region 1 with fail
    rw [HW1.out]
    go_wp2_with fail
    go_ret
    exact ⟨rfl, HB.out⟩
  · rw [decide_eq_false (show ¬ (a1 < b1 ∨ (a1 = b1 ∧ a2 < b2)) from by omega)]
    have k1 : decide ((a1 : Int) < (b1 : Int)) = false := decide_eq_false (by omega)
    have k2 : decide (a1 < b1) = false := decide_eq_false h
    have k3 : ((a1 : Int) == (b1 : Int)) = false := beq_eq_false_iff_ne.2 (by omega)
    go_enter Tryz.func10, Tryz.ntmps10
    go_upto_region 1 with fail
    rw [HW1.out]
    go_wp2_with fail
    go_ret
    exact ⟨rfl, HB.out⟩
theorem byte_some {s : ByteArray} {i : Nat} (h : i < s.size) : s.data.toList[i]? = some (s[i]'h) := by
  rw [List.getElem?_eq_getElem (by rw [← Lib.size_eq]; exact h)]; rfl
set_option maxRecDepth 100000 in
set_option maxHeartbeats 1000000 in
theorem refPlace_any (s : ByteArray) (p : Nat) (hp : p ≤ s.size) (hs : s.size ≤ 1000000000000) (W : World) :
    Calls Tryz.prog 9 #[.string s, .int .i64 p] W fun en W' => en = .returned (posAgg (X.at_ s.data.toList p)) ∧ Below W.heap.size W W' := by
  obtain ⟨H, hH⟩ : ∃ H, W.heap.size = H := ⟨_, rfl⟩
  obtain ⟨w1, hw1⟩ : ∃ w1, (W.alloc (.cells #[.int .i64 0, .int .i64 0] 26)).alloc (.cells #[.int .i64 1, .int .i64 1] 26) = w1 := ⟨_, rfl⟩
  have hA : w1.heap[H]? = some (.cells #[.int .i64 0, .int .i64 0] 26 (0, 0)) := by
    rw [← hw1, Go.Lib.alloc_old _ _ _ (by simp; omega), ← hH]; exact heap_alloc_new W _
  have hB : w1.heap[H + 1]? = some (.cells #[.int .i64 1, .int .i64 1] 26 (0, 0)) := by
    have := heap_alloc_new (W.alloc (.cells #[.int .i64 0, .int .i64 0] 26)) (.cells #[.int .i64 1, .int .i64 1] 26)
    rw [hw1] at this
    simpa [hH] using this
  have HB0 : Hid (Below W.heap.size W w1) := by show Below _ _ _; rw [← hw1]; exact ((Below.refl _ W).alloc (Nat.le_refl _) _).alloc (by simp) _
  have HA1 := hid hA
  have HC1 := hid hB
  have HW1 := hid hw1
  have HH := hid hH
  clear hA hB hw1 hH
  go_enter Tryz.func9, Tryz.ntmps9
  go_upto_region 2 with fail
  rw [HW1.out, HH.out]
  go_wp2_with fail
  go_loopw [6] (fun vi wr => ∃ (i : Nat), vi = .int .i64 i ∧ Hid (i ≤ p) ∧ Hid (Below W.heap.size W wr) ∧ Hid (wr.heap[H]? = some (.cells #[.int .i64 0, .int .i64 0] 26 (0, 0))) ∧ Hid (wr.heap[H + 1]? = some (.cells #[.int .i64 (X.lineOf s.data.toList i), .int .i64 (X.colOf s.data.toList i)] 26 (0, 0)))) (fun vi _ => p - (intOf vi).toNat)
  case atStart => exact ⟨0, rfl, hid (Nat.zero_le _), HB0, HA1, by rw [X.line_zero, X.col_zero]; exact HC1⟩
  case round =>
    obtain ⟨i, rfl, HI, HB, HA, HC⟩ := hrel
    clear HB0 HA1 HC1
    obtain ⟨y0, y1⟩ := row2 HC.out
    have fy0 := rowFree HC.out 0
    have fy1 := rowFree HC.out 1
    have hip := HI.out
    rcases Nat.lt_or_ge i p with hlt | hge
    · have k0 : decide ((i : Int) < (p : Int)) = true := decide_eq_true (by omega)
      have k1 : decide (i < p) = true := decide_eq_true hlt
      have his : i < s.size := by omega
      have P0 : (0 : Int) ≤ (i : Int) := by omega
      have P1 : (i : Int) < (s.size : Int) := by omega
      have hb := byte_some his
      have hln := X.line_next hb
      have hcn := X.col_next hb
      have hl1 := X.line_le s.data.toList i
      have hc1 := X.col_le s.data.toList i
      obtain ⟨c, hc⟩ : ∃ c, s[i]'his = c := ⟨_, rfl⟩
      rw [hc] at hln hcn
      obtain ⟨ln, hlne⟩ : ∃ ln, X.lineOf s.data.toList i = ln := ⟨_, rfl⟩
      obtain ⟨cl, hcle⟩ : ∃ cl, X.colOf s.data.toList i = cl := ⟨_, rfl⟩
      rw [hlne] at hln hl1 y0 HC
      rw [hcle] at hcn hc1 y1 HC
      obtain ⟨i1, hi1⟩ : ∃ i1, i + 1 = i1 := ⟨_, rfl⟩
      obtain ⟨l1, hll⟩ : ∃ l1, ln + 1 = l1 := ⟨_, rfl⟩
      obtain ⟨c1, hcc⟩ : ∃ c1, cl + 1 = c1 := ⟨_, rfl⟩
      rw [hi1, hll] at hln
      rw [hi1, hcc] at hcn
      have e1 : IntKind.i64.wrap ((i : Int) + 1) = (i1 : Int) := by rw [IntKind.wrap_i64] <;> omega
      have e2 : IntKind.i64.wrap ((ln : Int) + 1) = (l1 : Int) := by rw [IntKind.wrap_i64] <;> omega
      have e3 : IntKind.i64.wrap ((cl : Int) + 1) = (c1 : Int) := by rw [IntKind.wrap_i64] <;> omega
      have HI1 : Hid (i1 ≤ p ∧ p - i1 < p - i) := by show _ ∧ _; omega
      by_cases h10 : c = 10
      · rw [if_pos h10] at hln hcn
        have b1 : ((c.toNat : Int) == 10) = true := by rw [h10]; rfl
        have HC2 : Hid (((((wr.setCell ⟨H + 1, 1, none⟩ (.int .i64 c1)).setCell ⟨H + 1, 0, none⟩ (.int .i64 l1)).setCell ⟨H + 1, 1, none⟩ (.int .i64 1))).heap[H + 1]? = some (.cells #[.int .i64 (X.lineOf s.data.toList i1), .int .i64 (X.colOf s.data.toList i1)] 26 (0, 0))) := by
          rw [hln, hcn]
          exact row_set (row_set (row_set HC.out 1 _) 0 _) 1 _
        have HA2 : Hid (((((wr.setCell ⟨H + 1, 1, none⟩ (.int .i64 c1)).setCell ⟨H + 1, 0, none⟩ (.int .i64 l1)).setCell ⟨H + 1, 1, none⟩ (.int .i64 1))).heap[H]? = some (.cells #[.int .i64 0, .int .i64 0] 26 (0, 0))) := by
          have g := ((grownBy_set wr (H + 1) 1 (.int .i64 c1)).trans (grownBy_set _ (H + 1) 0 (.int .i64 l1))).trans (grownBy_set _ (H + 1) 1 (.int .i64 1))
          exact (g.block H (Go.lt_of_block HA.out) (fun e => by have := Option.some.inj e; omega)).trans HA.out
        have hw : W.heap.size ≤ H + 1 := by have := HH.out; omega
        have HB2 : Hid (Below W.heap.size W ((((wr.setCell ⟨H + 1, 1, none⟩ (.int .i64 c1)).setCell ⟨H + 1, 0, none⟩ (.int .i64 l1)).setCell ⟨H + 1, 1, none⟩ (.int .i64 1)))) := ((HB.out.setCell (p := ⟨H + 1, 1, none⟩) hw _).setCell (p := ⟨H + 1, 0, none⟩) hw _).setCell (p := ⟨H + 1, 1, none⟩) hw _
        clear hln hcn hl1 hc1 hlne hcle hi1 hll hcc h10 hb HA HB HC hw
        go_wp2_with fail
        go_roundw
        case rel => exact ⟨i1, rfl, hid HI1.out.1, HB2, HA2, HC2⟩
        case measure => simpa [intOf] using HI1.out.2
      · rw [if_neg h10] at hln hcn
        have b1 : ((c.toNat : Int) == 10) = false := by
          rw [beq_eq_false_iff_ne]
          intro e
          exact h10 (UInt8.toNat.inj (by have : c.toNat = 10 := by omega
                                         exact this))
        have HC2 : Hid ((wr.setCell ⟨H + 1, 1, none⟩ (.int .i64 c1)).heap[H + 1]? = some (.cells #[.int .i64 (X.lineOf s.data.toList i1), .int .i64 (X.colOf s.data.toList i1)] 26 (0, 0))) := by
          rw [hln, hcn]
          exact row_set HC.out 1 _
        have HA2 : Hid ((wr.setCell ⟨H + 1, 1, none⟩ (.int .i64 c1)).heap[H]? = some (.cells #[.int .i64 0, .int .i64 0] 26 (0, 0))) :=
          ((grownBy_set wr (H + 1) 1 (.int .i64 c1)).block H (Go.lt_of_block HA.out) (fun e => by have := Option.some.inj e; omega)).trans HA.out
        have HB2 : Hid (Below W.heap.size W (wr.setCell ⟨H + 1, 1, none⟩ (.int .i64 c1))) := HB.out.setCell (p := ⟨H + 1, 1, none⟩) (by have := HH.out; show _ ≤ H + 1; omega) _
        clear hln hcn hl1 hc1 hlne hcle hi1 hll hcc h10 hb HA HB HC
        go_wp2_with fail
        go_roundw
        case rel => exact ⟨i1, rfl, hid HI1.out.1, HB2, HA2, HC2⟩
        case measure => simpa [intOf] using HI1.out.2
    · have k0 : decide ((i : Int) < (p : Int)) = false := decide_eq_false (by omega)
      have k1 : decide (i < p) = false := decide_eq_false (by omega)
      obtain rfl : i = p := by omega
      obtain ⟨x0, x1⟩ := row2 HA.out
      have f0 := rowFree HA.out 0
      have f1 := rowFree HA.out 1
      have hw : W.heap.size ≤ H := by have := HH.out; omega
      go_wp2_with fail
      exact bodyPost_ret (v := posAgg (X.at_ s.data.toList i)) (results_cell_row rfl _ _ H 26 _ (0, 0) _ rfl (row_set (row_set HA.out 0 _) 1 _) Tryz.underlying26 rfl infoPos) rfl ⟨rfl, (HB.out.setCell (p := ⟨H, 0, none⟩) hw _).setCell (p := ⟨H, 1, none⟩) hw _⟩
end Go.Proofs.YtakplnceiibmlaaGreatDoor
