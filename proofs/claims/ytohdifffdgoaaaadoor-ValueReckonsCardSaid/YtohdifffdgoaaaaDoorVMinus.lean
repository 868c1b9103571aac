/- The walk of the document's sum of wide numbers of unlike signs. -/
import Derived.Test.YtohdifffdgoaaaaDoorVPlus
namespace Go.Proofs.YtohdifffdgoaaaaDoor
open Go.RowKit
open Go.Lib (hid)
theorem lessB_true {a b c d a' b' c' d' : Nat} (ha : small4 a b c d) (ha' : small4 a' b' c' d') (h : lessB a b c d a' b' c' d' = true) : digs a b c d < digs a' b' c' d' := by
  obtain ⟨h1, h2, h3, h4⟩ := ha
  obtain ⟨h5, h6, h7, h8⟩ := ha'
  unfold lessB at h
  unfold digs
  split at h
  · have := of_decide_eq_true h; omega
  · split at h
    · have := of_decide_eq_true h; omega
    · split at h
      · have := of_decide_eq_true h; omega
      · have := of_decide_eq_true h; omega
theorem lessB_false {a b c d a' b' c' d' : Nat} (ha : small4 a b c d) (ha' : small4 a' b' c' d') (h : lessB a b c d a' b' c' d' = false) : digs a' b' c' d' ≤ digs a b c d := by
  obtain ⟨h1, h2, h3, h4⟩ := ha
  obtain ⟨h5, h6, h7, h8⟩ := ha'
  unfold lessB at h
  unfold digs
  split at h
  · have := of_decide_eq_false h; omega
  · split at h
    · have := of_decide_eq_false h; omega
    · split at h
      · have := of_decide_eq_false h; omega
      · have := of_decide_eq_false h; omega

set_option maxRecDepth 100000 in
set_option maxHeartbeats 8000000 in
theorem plus_no (m m' : Bool) (hm : (m == m') = false) (a b c d a' b' c' d' : Nat) (w : World) (ha : small4 a b c d) (ha' : small4 a' b' c' d') (hl : lessB a b c d a' b' c' d' = false) :
    Calls Tryd.prog 51 #[.agg #[.bool m, .int .u64 a, .int .u64 b, .int .u64 c, .int .u64 d], .agg #[.bool m', .int .u64 a', .int .u64 b', .int .u64 c', .int .u64 d']] w fun e w' => ∃ x y z u, e = .returned (.agg #[.bool m, .int .u64 (x : Nat), .int .u64 (y : Nat), .int .u64 (z : Nat), .int .u64 (u : Nat)]) ∧ digs x y z u = digs a b c d - digs a' b' c' d' ∧ small4 x y z u ∧ Below w.heap.size w w' := by
  have hle := lessB_false ha ha' hl
  have cB := fun X => below_any m m' a b c d a' b' c' d' X
  rw [hl] at cB
  obtain ⟨A, hA⟩ : ∃ A, digs a b c d = A := ⟨_, rfl⟩
  obtain ⟨D, hD⟩ : ∃ D, digs a' b' c' d' = D := ⟨_, rfl⟩
  rw [hA, hD] at hle
  rw [hA, hD]
  have HA := hid hA
  have HD := hid hD
  have HL := hid hle
  clear hA hD hle hl
  go_enter Tryd.func51, Tryd.ntmps51
  go_wp2_with fail
  refine (cB _).mono ?_
  rintro e w1 ⟨rfl, b1⟩
  obtain ⟨f1, f2, f3⟩ := fresh3 w (.cells #[.bool m, .int .u64 a, .int .u64 b, .int .u64 c, .int .u64 d] 66) (.cells #[.bool m', .int .u64 a', .int .u64 b', .int .u64 c', .int .u64 d'] 66) (.cells #[.bool false, .int .u64 0, .int .u64 0, .int .u64 0, .int .u64 0] 66)
  have hs3 : (((w.alloc (.cells #[.bool m, .int .u64 a, .int .u64 b, .int .u64 c, .int .u64 d] 66)).alloc (.cells #[.bool m', .int .u64 a', .int .u64 b', .int .u64 c', .int .u64 d'] 66)).alloc (.cells #[.bool false, .int .u64 0, .int .u64 0, .int .u64 0, .int .u64 0] 66)).heap.size = w.heap.size + 3 := by simp
  rw [← b1.block w.heap.size (by omega)] at f1
  rw [← b1.block (w.heap.size + 1) (by omega)] at f2
  rw [← b1.block (w.heap.size + 2) (by omega)] at f3
  have B1 := hid ((below3 w (.cells #[.bool m, .int .u64 a, .int .u64 b, .int .u64 c, .int .u64 d] 66) (.cells #[.bool m', .int .u64 a', .int .u64 b', .int .u64 c', .int .u64 d'] 66) (.cells #[.bool false, .int .u64 0, .int .u64 0, .int .u64 0, .int .u64 0] 66)).trans (b1.mono (by omega)))
  clear b1 cB hs3
  have HW : Hid (Below w.heap.size w w1 ∧ w1.heap[w.heap.size]? = some (.cells #[.bool m, .int .u64 a, .int .u64 b, .int .u64 c, .int .u64 d] 66 (0, 0)) ∧ w1.heap[w.heap.size + 1]? = some (.cells #[.bool m', .int .u64 a', .int .u64 b', .int .u64 c', .int .u64 d'] 66 (0, 0)) ∧ w1.heap[w.heap.size + 2]? = some (.cells #[.bool false, .int .u64 0, .int .u64 0, .int .u64 0, .int .u64 0] 66 (0, 0))) := ⟨B1.out, f1, f2, f3⟩
  clear f1 f2 f3
  go_wp2_with fail
  go_loopw [8, 9] (fun v i wr => ∃ (k x y z u cy : Nat), k ≤ 4 ∧ i = .int .i64 k ∧ v = .int .u64 cy ∧ Hid (Below w.heap.size w wr) ∧
      Hid (wr.heap[w.heap.size]? = some (.cells #[.bool m, .int .u64 x, .int .u64 y, .int .u64 z, .int .u64 u] 66 (0, 0)) ∧ wr.heap[w.heap.size + 1]? = some (.cells #[.bool m', .int .u64 a', .int .u64 b', .int .u64 c', .int .u64 d'] 66 (0, 0)) ∧ wr.heap[w.heap.size + 2]? = some (.cells #[.bool false, .int .u64 0, .int .u64 0, .int .u64 0, .int .u64 0] 66 (0, 0))) ∧
      Hid (small4 x y z u ∧ cy ≤ 1 ∧ digs x y z u + D = place k * cy + rest k a' b' c' d' + A)) (fun _ i _ => 4 - (intOf i).toNat)
  case atStart =>
    exact ⟨0, a, b, c, d, 0, by omega, rfl, rfl, HW.out.1, HW.out.2, ⟨ha, by omega, by rw [HA.out, ← HD.out]; simp [rest, digs]; omega⟩⟩
  case round =>
    obtain ⟨k, x, y, z, u, cy, hk, rfl, rfl, hb, hc, hI⟩ := hrel
    obtain ⟨hc1, hc2, hc3⟩ := hc.out
    obtain ⟨⟨hx, hy, hz, hu⟩, hcy, hI⟩ := hI.out
    obtain ⟨ha1, hb1, hc1', hd1⟩ := ha'
    clear HW B1 
    rcases (by omega : k = 0 ∨ k = 1 ∨ k = 2 ∨ k = 3 ∨ k = 4) with rfl | rfl | rfl | rfl | rfl
    · have e1 : wr.cell? ⟨w.heap.size, 1 + 0, none⟩ = some (.int .u64 x) := by rw [cell_of_row _ _ _ _ _ _ hc1]; rfl
      have e2 : wr.cell? ⟨w.heap.size + 1, 1 + 0, none⟩ = some (.int .u64 a') := by rw [cell_of_row _ _ _ _ _ _ hc2]; rfl
      have f1 : wr.frozen? ⟨w.heap.size, 1 + 0, none⟩ = false := by simp [World.frozen?, hc1]
      obtain ⟨s0, hs0⟩ : ∃ s0, 4294967296 + x = s0 := ⟨_, rfl⟩
      have sw0 : IntKind.u64.wrap (4294967296 + (x : Int)) = (s0 : Int) := by rw [IntKind.wrap_u64]; omega
      obtain ⟨s1, hs1⟩ : ∃ s1, s0 - a' = s1 := ⟨_, rfl⟩
      have sw1 : IntKind.u64.wrap ((s0 : Int) - (a' : Int)) = (s1 : Int) := by rw [IntKind.wrap_u64]; omega
      obtain ⟨s, hs⟩ : ∃ s, s1 - cy = s := ⟨_, rfl⟩
      have sw2 : IntKind.u64.wrap ((s1 : Int) - (cy : Int)) = (s : Int) := by rw [IntKind.wrap_u64]; omega
      obtain ⟨lo, hlo⟩ : ∃ lo, s % 4294967296 = lo := ⟨_, rfl⟩
      obtain ⟨hi, hhi⟩ : ∃ hi, s / 4294967296 = hi := ⟨_, rfl⟩
      have m1 : (s : Int).tmod 4294967296 = (lo : Int) := by rw [Int.tmod_eq_emod_of_nonneg (by omega)]; omega
      have m2 : IntKind.u64.wrap ((s : Int) / 4294967296) = (hi : Int) := by rw [IntKind.wrap_u64]; omega
      have m3 : IntKind.u64.wrap ((s : Int).tdiv 4294967296) = (hi : Int) := by rw [IntKind.wrap_u64, Int.tdiv_eq_ediv_of_nonneg (by omega)]; omega
      obtain ⟨hj, hhj⟩ : ∃ hj, 1 - hi = hj := ⟨_, rfl⟩
      have m4 : IntKind.u64.wrap (1 - (hi : Int)) = (hj : Int) := by rw [IntKind.wrap_u64]; omega
      have HI : Hid (small4 lo y z u ∧ hj ≤ 1 ∧ digs lo y z u + D = place 1 * hj + rest 1 a' b' c' d' + A) := by
        refine ⟨⟨by omega, by omega, by omega, by omega⟩, by omega, ?_⟩
        simp [digs, place, rest] at hI ⊢
        omega
      have HW : ∀ nq, Hid (((wr.drewN nq).setCell ⟨w.heap.size, 1, none⟩ (.int .u64 lo)).heap[w.heap.size]? = some (.cells #[.bool m, .int .u64 lo, .int .u64 y, .int .u64 z, .int .u64 u] 66 (0, 0)) ∧ ((wr.drewN nq).setCell ⟨w.heap.size, 1, none⟩ (.int .u64 lo)).heap[w.heap.size + 1]? = some (.cells #[.bool m', .int .u64 a', .int .u64 b', .int .u64 c', .int .u64 d'] 66 (0, 0)) ∧ ((wr.drewN nq).setCell ⟨w.heap.size, 1, none⟩ (.int .u64 lo)).heap[w.heap.size + 2]? = some (.cells #[.bool false, .int .u64 0, .int .u64 0, .int .u64 0, .int .u64 0] 66 (0, 0))) := by
        intro nq
        refine ⟨row_setCell (w := wr.drewN nq) hc1 _ _, ?_, ?_⟩
        · rw [Below.heap_setCell _ _ _ _ (by simp)]; exact hc2
        · rw [Below.heap_setCell _ _ _ _ (by simp)]; exact hc3
      clear hI hx hy hz hu hcy hs0 hs1 hhj hs hlo hhi hc hc1 hc2 hc3
      go_wp2_with fail
      go_quiet (fail)
      go_wp2_with fail
      go_roundw
      case rel => exact ⟨1, lo, y, z, u, hj, by omega, by rfl, rfl, hid ((hb.out.drewN _).setCell (p := ⟨w.heap.size, 1, none⟩) (Nat.le_refl _) _), HW _, HI⟩
      case measure => simp [intOf]
    · have e1 : wr.cell? ⟨w.heap.size, 1 + 1, none⟩ = some (.int .u64 y) := by rw [cell_of_row _ _ _ _ _ _ hc1]; rfl
      have e2 : wr.cell? ⟨w.heap.size + 1, 1 + 1, none⟩ = some (.int .u64 b') := by rw [cell_of_row _ _ _ _ _ _ hc2]; rfl
      have f1 : wr.frozen? ⟨w.heap.size, 1 + 1, none⟩ = false := by simp [World.frozen?, hc1]
      obtain ⟨s0, hs0⟩ : ∃ s0, 4294967296 + y = s0 := ⟨_, rfl⟩
      have sw0 : IntKind.u64.wrap (4294967296 + (y : Int)) = (s0 : Int) := by rw [IntKind.wrap_u64]; omega
      obtain ⟨s1, hs1⟩ : ∃ s1, s0 - b' = s1 := ⟨_, rfl⟩
      have sw1 : IntKind.u64.wrap ((s0 : Int) - (b' : Int)) = (s1 : Int) := by rw [IntKind.wrap_u64]; omega
      obtain ⟨s, hs⟩ : ∃ s, s1 - cy = s := ⟨_, rfl⟩
      have sw2 : IntKind.u64.wrap ((s1 : Int) - (cy : Int)) = (s : Int) := by rw [IntKind.wrap_u64]; omega
      obtain ⟨lo, hlo⟩ : ∃ lo, s % 4294967296 = lo := ⟨_, rfl⟩
      obtain ⟨hi, hhi⟩ : ∃ hi, s / 4294967296 = hi := ⟨_, rfl⟩
      have m1 : (s : Int).tmod 4294967296 = (lo : Int) := by rw [Int.tmod_eq_emod_of_nonneg (by omega)]; omega
      have m2 : IntKind.u64.wrap ((s : Int) / 4294967296) = (hi : Int) := by rw [IntKind.wrap_u64]; omega
      have m3 : IntKind.u64.wrap ((s : Int).tdiv 4294967296) = (hi : Int) := by rw [IntKind.wrap_u64, Int.tdiv_eq_ediv_of_nonneg (by omega)]; omega
      obtain ⟨hj, hhj⟩ : ∃ hj, 1 - hi = hj := ⟨_, rfl⟩
      have m4 : IntKind.u64.wrap (1 - (hi : Int)) = (hj : Int) := by rw [IntKind.wrap_u64]; omega
      have HI : Hid (small4 x lo z u ∧ hj ≤ 1 ∧ digs x lo z u + D = place 2 * hj + rest 2 a' b' c' d' + A) := by
        refine ⟨⟨by omega, by omega, by omega, by omega⟩, by omega, ?_⟩
        simp [digs, place, rest] at hI ⊢
        omega
      have HW : ∀ nq, Hid (((wr.drewN nq).setCell ⟨w.heap.size, 2, none⟩ (.int .u64 lo)).heap[w.heap.size]? = some (.cells #[.bool m, .int .u64 x, .int .u64 lo, .int .u64 z, .int .u64 u] 66 (0, 0)) ∧ ((wr.drewN nq).setCell ⟨w.heap.size, 2, none⟩ (.int .u64 lo)).heap[w.heap.size + 1]? = some (.cells #[.bool m', .int .u64 a', .int .u64 b', .int .u64 c', .int .u64 d'] 66 (0, 0)) ∧ ((wr.drewN nq).setCell ⟨w.heap.size, 2, none⟩ (.int .u64 lo)).heap[w.heap.size + 2]? = some (.cells #[.bool false, .int .u64 0, .int .u64 0, .int .u64 0, .int .u64 0] 66 (0, 0))) := by
        intro nq
        refine ⟨row_setCell (w := wr.drewN nq) hc1 _ _, ?_, ?_⟩
        · rw [Below.heap_setCell _ _ _ _ (by simp)]; exact hc2
        · rw [Below.heap_setCell _ _ _ _ (by simp)]; exact hc3
      clear hI hx hy hz hu hcy hs0 hs1 hhj hs hlo hhi hc hc1 hc2 hc3
      go_wp2_with fail
      go_quiet (fail)
      go_wp2_with fail
      go_roundw
      case rel => exact ⟨2, x, lo, z, u, hj, by omega, by rfl, rfl, hid ((hb.out.drewN _).setCell (p := ⟨w.heap.size, 2, none⟩) (Nat.le_refl _) _), HW _, HI⟩
      case measure => simp [intOf]
    · have e1 : wr.cell? ⟨w.heap.size, 1 + 2, none⟩ = some (.int .u64 z) := by rw [cell_of_row _ _ _ _ _ _ hc1]; rfl
      have e2 : wr.cell? ⟨w.heap.size + 1, 1 + 2, none⟩ = some (.int .u64 c') := by rw [cell_of_row _ _ _ _ _ _ hc2]; rfl
      have f1 : wr.frozen? ⟨w.heap.size, 1 + 2, none⟩ = false := by simp [World.frozen?, hc1]
      obtain ⟨s0, hs0⟩ : ∃ s0, 4294967296 + z = s0 := ⟨_, rfl⟩
      have sw0 : IntKind.u64.wrap (4294967296 + (z : Int)) = (s0 : Int) := by rw [IntKind.wrap_u64]; omega
      obtain ⟨s1, hs1⟩ : ∃ s1, s0 - c' = s1 := ⟨_, rfl⟩
      have sw1 : IntKind.u64.wrap ((s0 : Int) - (c' : Int)) = (s1 : Int) := by rw [IntKind.wrap_u64]; omega
      obtain ⟨s, hs⟩ : ∃ s, s1 - cy = s := ⟨_, rfl⟩
      have sw2 : IntKind.u64.wrap ((s1 : Int) - (cy : Int)) = (s : Int) := by rw [IntKind.wrap_u64]; omega
      obtain ⟨lo, hlo⟩ : ∃ lo, s % 4294967296 = lo := ⟨_, rfl⟩
      obtain ⟨hi, hhi⟩ : ∃ hi, s / 4294967296 = hi := ⟨_, rfl⟩
      have m1 : (s : Int).tmod 4294967296 = (lo : Int) := by rw [Int.tmod_eq_emod_of_nonneg (by omega)]; omega
      have m2 : IntKind.u64.wrap ((s : Int) / 4294967296) = (hi : Int) := by rw [IntKind.wrap_u64]; omega
      have m3 : IntKind.u64.wrap ((s : Int).tdiv 4294967296) = (hi : Int) := by rw [IntKind.wrap_u64, Int.tdiv_eq_ediv_of_nonneg (by omega)]; omega
      obtain ⟨hj, hhj⟩ : ∃ hj, 1 - hi = hj := ⟨_, rfl⟩
      have m4 : IntKind.u64.wrap (1 - (hi : Int)) = (hj : Int) := by rw [IntKind.wrap_u64]; omega
      have HI : Hid (small4 x y lo u ∧ hj ≤ 1 ∧ digs x y lo u + D = place 3 * hj + rest 3 a' b' c' d' + A) := by
        refine ⟨⟨by omega, by omega, by omega, by omega⟩, by omega, ?_⟩
        simp [digs, place, rest] at hI ⊢
        omega
      have HW : ∀ nq, Hid (((wr.drewN nq).setCell ⟨w.heap.size, 3, none⟩ (.int .u64 lo)).heap[w.heap.size]? = some (.cells #[.bool m, .int .u64 x, .int .u64 y, .int .u64 lo, .int .u64 u] 66 (0, 0)) ∧ ((wr.drewN nq).setCell ⟨w.heap.size, 3, none⟩ (.int .u64 lo)).heap[w.heap.size + 1]? = some (.cells #[.bool m', .int .u64 a', .int .u64 b', .int .u64 c', .int .u64 d'] 66 (0, 0)) ∧ ((wr.drewN nq).setCell ⟨w.heap.size, 3, none⟩ (.int .u64 lo)).heap[w.heap.size + 2]? = some (.cells #[.bool false, .int .u64 0, .int .u64 0, .int .u64 0, .int .u64 0] 66 (0, 0))) := by
        intro nq
        refine ⟨row_setCell (w := wr.drewN nq) hc1 _ _, ?_, ?_⟩
        · rw [Below.heap_setCell _ _ _ _ (by simp)]; exact hc2
        · rw [Below.heap_setCell _ _ _ _ (by simp)]; exact hc3
      clear hI hx hy hz hu hcy hs0 hs1 hhj hs hlo hhi hc hc1 hc2 hc3
      go_wp2_with fail
      go_quiet (fail)
      go_wp2_with fail
      go_roundw
      case rel => exact ⟨3, x, y, lo, u, hj, by omega, by rfl, rfl, hid ((hb.out.drewN _).setCell (p := ⟨w.heap.size, 3, none⟩) (Nat.le_refl _) _), HW _, HI⟩
      case measure => simp [intOf]
    · have e1 : wr.cell? ⟨w.heap.size, 1 + 3, none⟩ = some (.int .u64 u) := by rw [cell_of_row _ _ _ _ _ _ hc1]; rfl
      have e2 : wr.cell? ⟨w.heap.size + 1, 1 + 3, none⟩ = some (.int .u64 d') := by rw [cell_of_row _ _ _ _ _ _ hc2]; rfl
      have f1 : wr.frozen? ⟨w.heap.size, 1 + 3, none⟩ = false := by simp [World.frozen?, hc1]
      obtain ⟨s0, hs0⟩ : ∃ s0, 4294967296 + u = s0 := ⟨_, rfl⟩
      have sw0 : IntKind.u64.wrap (4294967296 + (u : Int)) = (s0 : Int) := by rw [IntKind.wrap_u64]; omega
      obtain ⟨s1, hs1⟩ : ∃ s1, s0 - d' = s1 := ⟨_, rfl⟩
      have sw1 : IntKind.u64.wrap ((s0 : Int) - (d' : Int)) = (s1 : Int) := by rw [IntKind.wrap_u64]; omega
      obtain ⟨s, hs⟩ : ∃ s, s1 - cy = s := ⟨_, rfl⟩
      have sw2 : IntKind.u64.wrap ((s1 : Int) - (cy : Int)) = (s : Int) := by rw [IntKind.wrap_u64]; omega
      obtain ⟨lo, hlo⟩ : ∃ lo, s % 4294967296 = lo := ⟨_, rfl⟩
      obtain ⟨hi, hhi⟩ : ∃ hi, s / 4294967296 = hi := ⟨_, rfl⟩
      have m1 : (s : Int).tmod 4294967296 = (lo : Int) := by rw [Int.tmod_eq_emod_of_nonneg (by omega)]; omega
      have m2 : IntKind.u64.wrap ((s : Int) / 4294967296) = (hi : Int) := by rw [IntKind.wrap_u64]; omega
      have m3 : IntKind.u64.wrap ((s : Int).tdiv 4294967296) = (hi : Int) := by rw [IntKind.wrap_u64, Int.tdiv_eq_ediv_of_nonneg (by omega)]; omega
      obtain ⟨hj, hhj⟩ : ∃ hj, 1 - hi = hj := ⟨_, rfl⟩
      have m4 : IntKind.u64.wrap (1 - (hi : Int)) = (hj : Int) := by rw [IntKind.wrap_u64]; omega
      have HI : Hid (small4 x y z lo ∧ hj ≤ 1 ∧ digs x y z lo + D = place 4 * hj + rest 4 a' b' c' d' + A) := by
        refine ⟨⟨by omega, by omega, by omega, by omega⟩, by omega, ?_⟩
        simp [digs, place, rest] at hI ⊢
        omega
      have HW : ∀ nq, Hid (((wr.drewN nq).setCell ⟨w.heap.size, 4, none⟩ (.int .u64 lo)).heap[w.heap.size]? = some (.cells #[.bool m, .int .u64 x, .int .u64 y, .int .u64 z, .int .u64 lo] 66 (0, 0)) ∧ ((wr.drewN nq).setCell ⟨w.heap.size, 4, none⟩ (.int .u64 lo)).heap[w.heap.size + 1]? = some (.cells #[.bool m', .int .u64 a', .int .u64 b', .int .u64 c', .int .u64 d'] 66 (0, 0)) ∧ ((wr.drewN nq).setCell ⟨w.heap.size, 4, none⟩ (.int .u64 lo)).heap[w.heap.size + 2]? = some (.cells #[.bool false, .int .u64 0, .int .u64 0, .int .u64 0, .int .u64 0] 66 (0, 0))) := by
        intro nq
        refine ⟨row_setCell (w := wr.drewN nq) hc1 _ _, ?_, ?_⟩
        · rw [Below.heap_setCell _ _ _ _ (by simp)]; exact hc2
        · rw [Below.heap_setCell _ _ _ _ (by simp)]; exact hc3
      clear hI hx hy hz hu hcy hs0 hs1 hhj hs hlo hhi hc hc1 hc2 hc3
      go_wp2_with fail
      go_quiet (fail)
      go_wp2_with fail
      go_roundw
      case rel => exact ⟨4, x, y, z, lo, hj, by omega, by rfl, rfl, hid ((hb.out.drewN _).setCell (p := ⟨w.heap.size, 4, none⟩) (Nat.le_refl _) _), HW _, HI⟩
      case measure => simp [intOf]
    · have HF : Hid (digs x y z u = A - D) := by
        have h1 := HL.out
        have h2 : digs x y z u < 340282366920938463463374607431768211456 := by unfold digs; omega
        simp [place, rest] at hI
        show _ = _
        rcases (by omega : cy = 0 ∨ cy = 1) with rfl | rfl
        · omega
        · omega
      have hsm : small4 x y z u := ⟨hx, hy, hz, hu⟩
      have d0 : wr.cell? ⟨w.heap.size, 0, none⟩ = some (.bool m) := by rw [cell_of_row _ _ _ _ _ _ hc1]; rfl
      have d1 : wr.cell? ⟨w.heap.size, 1, none⟩ = some (.int .u64 x) := by rw [cell_of_row _ _ _ _ _ _ hc1]; rfl
      have d2 : wr.cell? ⟨w.heap.size, 2, none⟩ = some (.int .u64 y) := by rw [cell_of_row _ _ _ _ _ _ hc1]; rfl
      have d3 : wr.cell? ⟨w.heap.size, 3, none⟩ = some (.int .u64 z) := by rw [cell_of_row _ _ _ _ _ _ hc1]; rfl
      have d4 : wr.cell? ⟨w.heap.size, 4, none⟩ = some (.int .u64 u) := by rw [cell_of_row _ _ _ _ _ _ hc1]; rfl
      have hr0 := row_setCell hc3 0 (.bool m)
      have hr1 := row_setCell hr0 1 (.int .u64 x)
      have hr2 := row_setCell hr1 2 (.int .u64 y)
      have hr3 := row_setCell hr2 3 (.int .u64 z)
      have hr4 := row_setCell hr3 4 (.int .u64 u)
      have HR4 := hid hr4
      have HB4 := hid (((((hb.out.setCell (p := ⟨w.heap.size + 2, 0, none⟩) (by simp) (.bool m)).setCell (p := ⟨w.heap.size + 2, 1, none⟩) (by simp) (.int .u64 x)).setCell (p := ⟨w.heap.size + 2, 2, none⟩) (by simp) (.int .u64 y)).setCell (p := ⟨w.heap.size + 2, 3, none⟩) (by simp) (.int .u64 z)).setCell (p := ⟨w.heap.size + 2, 4, none⟩) (by simp) (.int .u64 u))
      clear hr0 hr1 hr2 hr3 hr4 hI hx hy hz hu hcy hc hc1 hc2
      have g0 : ∀ i, wr.cell? ⟨w.heap.size + 2, i, none⟩ = (#[Value.bool false, .int .u64 0, .int .u64 0, .int .u64 0, .int .u64 0] : Array Value)[i]? := fun i => by rw [cell_of_row _ _ _ _ _ _ hc3]
      have g1 : ∀ i, wr.frozen? ⟨w.heap.size + 2, i, none⟩ = false := fun i => by simp [World.frozen?, hc3]
      have k0 := g0 0
      have k1 := g0 1
      have k2 := g0 2
      have k3 := g0 3
      have k4 := g0 4
      have l0 := g1 0
      have l1 := g1 1
      have l2 := g1 2
      have l3 := g1 3
      have l4 := g1 4
      clear g0 g1 hc3
      go_wp2_with fail
      exact bodyPost_ret (v := .agg #[.bool m, .int .u64 x, .int .u64 y, .int .u64 z, .int .u64 u]) (results_cell_row rfl _ _ (w.heap.size + 2) 66 _ (0, 0) _ rfl HR4.out Tryd.underlying66 rfl infoWide) rfl ⟨x, y, z, u, rfl, HF.out, hsm, HB4.out⟩

set_option maxRecDepth 100000 in
set_option maxHeartbeats 8000000 in
theorem plus_yes (m m' : Bool) (hm : (m == m') = false) (a b c d a' b' c' d' : Nat) (w : World) (ha : small4 a b c d) (ha' : small4 a' b' c' d') (hl : lessB a b c d a' b' c' d' = true) :
    Calls Tryd.prog 51 #[.agg #[.bool m, .int .u64 a, .int .u64 b, .int .u64 c, .int .u64 d], .agg #[.bool m', .int .u64 a', .int .u64 b', .int .u64 c', .int .u64 d']] w fun e w' => ∃ x y z u, e = .returned (.agg #[.bool m', .int .u64 (x : Nat), .int .u64 (y : Nat), .int .u64 (z : Nat), .int .u64 (u : Nat)]) ∧ digs x y z u = digs a' b' c' d' - digs a b c d ∧ small4 x y z u ∧ Below w.heap.size w w' := by
  have hle := lessB_true ha ha' hl
  have cB := fun X => below_any m m' a b c d a' b' c' d' X
  rw [hl] at cB
  obtain ⟨A, hA⟩ : ∃ A, digs a' b' c' d' = A := ⟨_, rfl⟩
  obtain ⟨D, hD⟩ : ∃ D, digs a b c d = D := ⟨_, rfl⟩
  rw [hA, hD] at hle
  rw [hA, hD]
  have HA := hid hA
  have HD := hid hD
  have HL := hid hle
  clear hA hD hle hl
  go_enter Tryd.func51, Tryd.ntmps51
  go_wp2_with fail
  refine (cB _).mono ?_
  rintro e w1 ⟨rfl, b1⟩
  obtain ⟨f1, f2, f3⟩ := fresh3 w (.cells #[.bool m, .int .u64 a, .int .u64 b, .int .u64 c, .int .u64 d] 66) (.cells #[.bool m', .int .u64 a', .int .u64 b', .int .u64 c', .int .u64 d'] 66) (.cells #[.bool false, .int .u64 0, .int .u64 0, .int .u64 0, .int .u64 0] 66)
  have hs3 : (((w.alloc (.cells #[.bool m, .int .u64 a, .int .u64 b, .int .u64 c, .int .u64 d] 66)).alloc (.cells #[.bool m', .int .u64 a', .int .u64 b', .int .u64 c', .int .u64 d'] 66)).alloc (.cells #[.bool false, .int .u64 0, .int .u64 0, .int .u64 0, .int .u64 0] 66)).heap.size = w.heap.size + 3 := by simp
  rw [← b1.block w.heap.size (by omega)] at f1
  rw [← b1.block (w.heap.size + 1) (by omega)] at f2
  rw [← b1.block (w.heap.size + 2) (by omega)] at f3
  have B1 := hid ((below3 w (.cells #[.bool m, .int .u64 a, .int .u64 b, .int .u64 c, .int .u64 d] 66) (.cells #[.bool m', .int .u64 a', .int .u64 b', .int .u64 c', .int .u64 d'] 66) (.cells #[.bool false, .int .u64 0, .int .u64 0, .int .u64 0, .int .u64 0] 66)).trans (b1.mono (by omega)))
  clear b1 cB hs3
  have p0 : w1.cell? ⟨w.heap.size, 0, none⟩ = some (.bool m) := by rw [cell_of_row _ _ _ _ _ _ f1]; rfl
  have q0 : w1.cell? ⟨w.heap.size + 1, 0, none⟩ = some (.bool m') := by rw [cell_of_row _ _ _ _ _ _ f2]; rfl
  have r0 : w1.frozen? ⟨w.heap.size, 0, none⟩ = false := by simp [World.frozen?, f1]
  have s0 : w1.frozen? ⟨w.heap.size + 1, 0, none⟩ = false := by simp [World.frozen?, f2]
  have p1 : w1.cell? ⟨w.heap.size, 1, none⟩ = some (.int .u64 a) := by rw [cell_of_row _ _ _ _ _ _ f1]; rfl
  have q1 : w1.cell? ⟨w.heap.size + 1, 1, none⟩ = some (.int .u64 a') := by rw [cell_of_row _ _ _ _ _ _ f2]; rfl
  have r1 : w1.frozen? ⟨w.heap.size, 1, none⟩ = false := by simp [World.frozen?, f1]
  have s1 : w1.frozen? ⟨w.heap.size + 1, 1, none⟩ = false := by simp [World.frozen?, f2]
  have p2 : w1.cell? ⟨w.heap.size, 2, none⟩ = some (.int .u64 b) := by rw [cell_of_row _ _ _ _ _ _ f1]; rfl
  have q2 : w1.cell? ⟨w.heap.size + 1, 2, none⟩ = some (.int .u64 b') := by rw [cell_of_row _ _ _ _ _ _ f2]; rfl
  have r2 : w1.frozen? ⟨w.heap.size, 2, none⟩ = false := by simp [World.frozen?, f1]
  have s2 : w1.frozen? ⟨w.heap.size + 1, 2, none⟩ = false := by simp [World.frozen?, f2]
  have p3 : w1.cell? ⟨w.heap.size, 3, none⟩ = some (.int .u64 c) := by rw [cell_of_row _ _ _ _ _ _ f1]; rfl
  have q3 : w1.cell? ⟨w.heap.size + 1, 3, none⟩ = some (.int .u64 c') := by rw [cell_of_row _ _ _ _ _ _ f2]; rfl
  have r3 : w1.frozen? ⟨w.heap.size, 3, none⟩ = false := by simp [World.frozen?, f1]
  have s3 : w1.frozen? ⟨w.heap.size + 1, 3, none⟩ = false := by simp [World.frozen?, f2]
  have p4 : w1.cell? ⟨w.heap.size, 4, none⟩ = some (.int .u64 d) := by rw [cell_of_row _ _ _ _ _ _ f1]; rfl
  have q4 : w1.cell? ⟨w.heap.size + 1, 4, none⟩ = some (.int .u64 d') := by rw [cell_of_row _ _ _ _ _ _ f2]; rfl
  have r4 : w1.frozen? ⟨w.heap.size, 4, none⟩ = false := by simp [World.frozen?, f1]
  have s4 : w1.frozen? ⟨w.heap.size + 1, 4, none⟩ = false := by simp [World.frozen?, f2]
  have HW : Hid (Below w.heap.size w ((((((((((w1.setCell ⟨w.heap.size, 0, none⟩ (.bool m')).setCell ⟨w.heap.size, 1, none⟩ (.int .u64 a')).setCell ⟨w.heap.size, 2, none⟩ (.int .u64 b')).setCell ⟨w.heap.size, 3, none⟩ (.int .u64 c')).setCell ⟨w.heap.size, 4, none⟩ (.int .u64 d')).setCell ⟨w.heap.size + 1, 0, none⟩ (.bool m)).setCell ⟨w.heap.size + 1, 1, none⟩ (.int .u64 a)).setCell ⟨w.heap.size + 1, 2, none⟩ (.int .u64 b)).setCell ⟨w.heap.size + 1, 3, none⟩ (.int .u64 c)).setCell ⟨w.heap.size + 1, 4, none⟩ (.int .u64 d)) ∧ ((((((((((w1.setCell ⟨w.heap.size, 0, none⟩ (.bool m')).setCell ⟨w.heap.size, 1, none⟩ (.int .u64 a')).setCell ⟨w.heap.size, 2, none⟩ (.int .u64 b')).setCell ⟨w.heap.size, 3, none⟩ (.int .u64 c')).setCell ⟨w.heap.size, 4, none⟩ (.int .u64 d')).setCell ⟨w.heap.size + 1, 0, none⟩ (.bool m)).setCell ⟨w.heap.size + 1, 1, none⟩ (.int .u64 a)).setCell ⟨w.heap.size + 1, 2, none⟩ (.int .u64 b)).setCell ⟨w.heap.size + 1, 3, none⟩ (.int .u64 c)).setCell ⟨w.heap.size + 1, 4, none⟩ (.int .u64 d)).heap[w.heap.size]? = some (.cells #[.bool m', .int .u64 a', .int .u64 b', .int .u64 c', .int .u64 d'] 66 (0, 0)) ∧ ((((((((((w1.setCell ⟨w.heap.size, 0, none⟩ (.bool m')).setCell ⟨w.heap.size, 1, none⟩ (.int .u64 a')).setCell ⟨w.heap.size, 2, none⟩ (.int .u64 b')).setCell ⟨w.heap.size, 3, none⟩ (.int .u64 c')).setCell ⟨w.heap.size, 4, none⟩ (.int .u64 d')).setCell ⟨w.heap.size + 1, 0, none⟩ (.bool m)).setCell ⟨w.heap.size + 1, 1, none⟩ (.int .u64 a)).setCell ⟨w.heap.size + 1, 2, none⟩ (.int .u64 b)).setCell ⟨w.heap.size + 1, 3, none⟩ (.int .u64 c)).setCell ⟨w.heap.size + 1, 4, none⟩ (.int .u64 d)).heap[w.heap.size + 1]? = some (.cells #[.bool m, .int .u64 a, .int .u64 b, .int .u64 c, .int .u64 d] 66 (0, 0)) ∧ ((((((((((w1.setCell ⟨w.heap.size, 0, none⟩ (.bool m')).setCell ⟨w.heap.size, 1, none⟩ (.int .u64 a')).setCell ⟨w.heap.size, 2, none⟩ (.int .u64 b')).setCell ⟨w.heap.size, 3, none⟩ (.int .u64 c')).setCell ⟨w.heap.size, 4, none⟩ (.int .u64 d')).setCell ⟨w.heap.size + 1, 0, none⟩ (.bool m)).setCell ⟨w.heap.size + 1, 1, none⟩ (.int .u64 a)).setCell ⟨w.heap.size + 1, 2, none⟩ (.int .u64 b)).setCell ⟨w.heap.size + 1, 3, none⟩ (.int .u64 c)).setCell ⟨w.heap.size + 1, 4, none⟩ (.int .u64 d)).heap[w.heap.size + 2]? = some (.cells #[.bool false, .int .u64 0, .int .u64 0, .int .u64 0, .int .u64 0] 66 (0, 0))) := by
    refine ⟨?_, ?_, ?_, ?_⟩
    · repeat (refine Below.setCell ?_ (by simp) _)
      exact B1.out
    · repeat rw [Below.heap_setCell _ ⟨w.heap.size + 1, _, none⟩ _ _ (by simp)]
      exact row_setCell (row_setCell (row_setCell (row_setCell (row_setCell f1 _ _) _ _) _ _) _ _) _ _
    · refine row_setCell (row_setCell (row_setCell (row_setCell (row_setCell (cs := #[.bool m', .int .u64 a', .int .u64 b', .int .u64 c', .int .u64 d']) ?_ _ _) _ _) _ _) _ _) _ _
      repeat rw [Below.heap_setCell _ ⟨w.heap.size, _, none⟩ _ _ (by simp)]
      exact f2
    · repeat rw [Below.heap_setCell _ _ _ _ (by simp)]
      exact f3
  clear f1 f2 f3
  go_wp2_with fail
  go_loopw [8, 9] (fun v i wr => ∃ (k x y z u cy : Nat), k ≤ 4 ∧ i = .int .i64 k ∧ v = .int .u64 cy ∧ Hid (Below w.heap.size w wr) ∧
      Hid (wr.heap[w.heap.size]? = some (.cells #[.bool m', .int .u64 x, .int .u64 y, .int .u64 z, .int .u64 u] 66 (0, 0)) ∧ wr.heap[w.heap.size + 1]? = some (.cells #[.bool m, .int .u64 a, .int .u64 b, .int .u64 c, .int .u64 d] 66 (0, 0)) ∧ wr.heap[w.heap.size + 2]? = some (.cells #[.bool false, .int .u64 0, .int .u64 0, .int .u64 0, .int .u64 0] 66 (0, 0))) ∧
      Hid (small4 x y z u ∧ cy ≤ 1 ∧ digs x y z u + D = place k * cy + rest k a b c d + A)) (fun _ i _ => 4 - (intOf i).toNat)
  case atStart =>
    exact ⟨0, a', b', c', d', 0, by omega, rfl, rfl, HW.out.1, HW.out.2, ⟨ha', by omega, by rw [HA.out, ← HD.out]; simp [rest, digs]; omega⟩⟩
  case round =>
    obtain ⟨k, x, y, z, u, cy, hk, rfl, rfl, hb, hc, hI⟩ := hrel
    obtain ⟨hc1, hc2, hc3⟩ := hc.out
    obtain ⟨⟨hx, hy, hz, hu⟩, hcy, hI⟩ := hI.out
    obtain ⟨ha1, hb1, hc1', hd1⟩ := ha
    clear HW B1 p0 p1 p2 p3 p4 q0 q1 q2 q3 q4 r0 r1 r2 r3 r4 s0 s1 s2 s3 s4
    rcases (by omega : k = 0 ∨ k = 1 ∨ k = 2 ∨ k = 3 ∨ k = 4) with rfl | rfl | rfl | rfl | rfl
    · have e1 : wr.cell? ⟨w.heap.size, 1 + 0, none⟩ = some (.int .u64 x) := by rw [cell_of_row _ _ _ _ _ _ hc1]; rfl
      have e2 : wr.cell? ⟨w.heap.size + 1, 1 + 0, none⟩ = some (.int .u64 a) := by rw [cell_of_row _ _ _ _ _ _ hc2]; rfl
      have f1 : wr.frozen? ⟨w.heap.size, 1 + 0, none⟩ = false := by simp [World.frozen?, hc1]
      obtain ⟨s0, hs0⟩ : ∃ s0, 4294967296 + x = s0 := ⟨_, rfl⟩
      have sw0 : IntKind.u64.wrap (4294967296 + (x : Int)) = (s0 : Int) := by rw [IntKind.wrap_u64]; omega
      obtain ⟨s1, hs1⟩ : ∃ s1, s0 - a = s1 := ⟨_, rfl⟩
      have sw1 : IntKind.u64.wrap ((s0 : Int) - (a : Int)) = (s1 : Int) := by rw [IntKind.wrap_u64]; omega
      obtain ⟨s, hs⟩ : ∃ s, s1 - cy = s := ⟨_, rfl⟩
      have sw2 : IntKind.u64.wrap ((s1 : Int) - (cy : Int)) = (s : Int) := by rw [IntKind.wrap_u64]; omega
      obtain ⟨lo, hlo⟩ : ∃ lo, s % 4294967296 = lo := ⟨_, rfl⟩
      obtain ⟨hi, hhi⟩ : ∃ hi, s / 4294967296 = hi := ⟨_, rfl⟩
      have m1 : (s : Int).tmod 4294967296 = (lo : Int) := by rw [Int.tmod_eq_emod_of_nonneg (by omega)]; omega
      have m2 : IntKind.u64.wrap ((s : Int) / 4294967296) = (hi : Int) := by rw [IntKind.wrap_u64]; omega
      have m3 : IntKind.u64.wrap ((s : Int).tdiv 4294967296) = (hi : Int) := by rw [IntKind.wrap_u64, Int.tdiv_eq_ediv_of_nonneg (by omega)]; omega
      obtain ⟨hj, hhj⟩ : ∃ hj, 1 - hi = hj := ⟨_, rfl⟩
      have m4 : IntKind.u64.wrap (1 - (hi : Int)) = (hj : Int) := by rw [IntKind.wrap_u64]; omega
      have HI : Hid (small4 lo y z u ∧ hj ≤ 1 ∧ digs lo y z u + D = place 1 * hj + rest 1 a b c d + A) := by
        refine ⟨⟨by omega, by omega, by omega, by omega⟩, by omega, ?_⟩
        simp [digs, place, rest] at hI ⊢
        omega
      have HW : ∀ nq, Hid (((wr.drewN nq).setCell ⟨w.heap.size, 1, none⟩ (.int .u64 lo)).heap[w.heap.size]? = some (.cells #[.bool m', .int .u64 lo, .int .u64 y, .int .u64 z, .int .u64 u] 66 (0, 0)) ∧ ((wr.drewN nq).setCell ⟨w.heap.size, 1, none⟩ (.int .u64 lo)).heap[w.heap.size + 1]? = some (.cells #[.bool m, .int .u64 a, .int .u64 b, .int .u64 c, .int .u64 d] 66 (0, 0)) ∧ ((wr.drewN nq).setCell ⟨w.heap.size, 1, none⟩ (.int .u64 lo)).heap[w.heap.size + 2]? = some (.cells #[.bool false, .int .u64 0, .int .u64 0, .int .u64 0, .int .u64 0] 66 (0, 0))) := by
        intro nq
        refine ⟨row_setCell (w := wr.drewN nq) hc1 _ _, ?_, ?_⟩
        · rw [Below.heap_setCell _ _ _ _ (by simp)]; exact hc2
        · rw [Below.heap_setCell _ _ _ _ (by simp)]; exact hc3
      clear hI hx hy hz hu hcy hs0 hs1 hhj hs hlo hhi hc hc1 hc2 hc3
      go_wp2_with fail
      go_quiet (fail)
      go_wp2_with fail
      go_roundw
      case rel => exact ⟨1, lo, y, z, u, hj, by omega, by rfl, rfl, hid ((hb.out.drewN _).setCell (p := ⟨w.heap.size, 1, none⟩) (Nat.le_refl _) _), HW _, HI⟩
      case measure => simp [intOf]
    · have e1 : wr.cell? ⟨w.heap.size, 1 + 1, none⟩ = some (.int .u64 y) := by rw [cell_of_row _ _ _ _ _ _ hc1]; rfl
      have e2 : wr.cell? ⟨w.heap.size + 1, 1 + 1, none⟩ = some (.int .u64 b) := by rw [cell_of_row _ _ _ _ _ _ hc2]; rfl
      have f1 : wr.frozen? ⟨w.heap.size, 1 + 1, none⟩ = false := by simp [World.frozen?, hc1]
      obtain ⟨s0, hs0⟩ : ∃ s0, 4294967296 + y = s0 := ⟨_, rfl⟩
      have sw0 : IntKind.u64.wrap (4294967296 + (y : Int)) = (s0 : Int) := by rw [IntKind.wrap_u64]; omega
      obtain ⟨s1, hs1⟩ : ∃ s1, s0 - b = s1 := ⟨_, rfl⟩
      have sw1 : IntKind.u64.wrap ((s0 : Int) - (b : Int)) = (s1 : Int) := by rw [IntKind.wrap_u64]; omega
      obtain ⟨s, hs⟩ : ∃ s, s1 - cy = s := ⟨_, rfl⟩
      have sw2 : IntKind.u64.wrap ((s1 : Int) - (cy : Int)) = (s : Int) := by rw [IntKind.wrap_u64]; omega
      obtain ⟨lo, hlo⟩ : ∃ lo, s % 4294967296 = lo := ⟨_, rfl⟩
      obtain ⟨hi, hhi⟩ : ∃ hi, s / 4294967296 = hi := ⟨_, rfl⟩
      have m1 : (s : Int).tmod 4294967296 = (lo : Int) := by rw [Int.tmod_eq_emod_of_nonneg (by omega)]; omega
      have m2 : IntKind.u64.wrap ((s : Int) / 4294967296) = (hi : Int) := by rw [IntKind.wrap_u64]; omega
      have m3 : IntKind.u64.wrap ((s : Int).tdiv 4294967296) = (hi : Int) := by rw [IntKind.wrap_u64, Int.tdiv_eq_ediv_of_nonneg (by omega)]; omega
      obtain ⟨hj, hhj⟩ : ∃ hj, 1 - hi = hj := ⟨_, rfl⟩
      have m4 : IntKind.u64.wrap (1 - (hi : Int)) = (hj : Int) := by rw [IntKind.wrap_u64]; omega
      have HI : Hid (small4 x lo z u ∧ hj ≤ 1 ∧ digs x lo z u + D = place 2 * hj + rest 2 a b c d + A) := by
        refine ⟨⟨by omega, by omega, by omega, by omega⟩, by omega, ?_⟩
        simp [digs, place, rest] at hI ⊢
        omega
      have HW : ∀ nq, Hid (((wr.drewN nq).setCell ⟨w.heap.size, 2, none⟩ (.int .u64 lo)).heap[w.heap.size]? = some (.cells #[.bool m', .int .u64 x, .int .u64 lo, .int .u64 z, .int .u64 u] 66 (0, 0)) ∧ ((wr.drewN nq).setCell ⟨w.heap.size, 2, none⟩ (.int .u64 lo)).heap[w.heap.size + 1]? = some (.cells #[.bool m, .int .u64 a, .int .u64 b, .int .u64 c, .int .u64 d] 66 (0, 0)) ∧ ((wr.drewN nq).setCell ⟨w.heap.size, 2, none⟩ (.int .u64 lo)).heap[w.heap.size + 2]? = some (.cells #[.bool false, .int .u64 0, .int .u64 0, .int .u64 0, .int .u64 0] 66 (0, 0))) := by
        intro nq
        refine ⟨row_setCell (w := wr.drewN nq) hc1 _ _, ?_, ?_⟩
        · rw [Below.heap_setCell _ _ _ _ (by simp)]; exact hc2
        · rw [Below.heap_setCell _ _ _ _ (by simp)]; exact hc3
      clear hI hx hy hz hu hcy hs0 hs1 hhj hs hlo hhi hc hc1 hc2 hc3
      go_wp2_with fail
      go_quiet (fail)
      go_wp2_with fail
      go_roundw
      case rel => exact ⟨2, x, lo, z, u, hj, by omega, by rfl, rfl, hid ((hb.out.drewN _).setCell (p := ⟨w.heap.size, 2, none⟩) (Nat.le_refl _) _), HW _, HI⟩
      case measure => simp [intOf]
    · have e1 : wr.cell? ⟨w.heap.size, 1 + 2, none⟩ = some (.int .u64 z) := by rw [cell_of_row _ _ _ _ _ _ hc1]; rfl
      have e2 : wr.cell? ⟨w.heap.size + 1, 1 + 2, none⟩ = some (.int .u64 c) := by rw [cell_of_row _ _ _ _ _ _ hc2]; rfl
      have f1 : wr.frozen? ⟨w.heap.size, 1 + 2, none⟩ = false := by simp [World.frozen?, hc1]
      obtain ⟨s0, hs0⟩ : ∃ s0, 4294967296 + z = s0 := ⟨_, rfl⟩
      have sw0 : IntKind.u64.wrap (4294967296 + (z : Int)) = (s0 : Int) := by rw [IntKind.wrap_u64]; omega
      obtain ⟨s1, hs1⟩ : ∃ s1, s0 - c = s1 := ⟨_, rfl⟩
      have sw1 : IntKind.u64.wrap ((s0 : Int) - (c : Int)) = (s1 : Int) := by rw [IntKind.wrap_u64]; omega
      obtain ⟨s, hs⟩ : ∃ s, s1 - cy = s := ⟨_, rfl⟩
      have sw2 : IntKind.u64.wrap ((s1 : Int) - (cy : Int)) = (s : Int) := by rw [IntKind.wrap_u64]; omega
      obtain ⟨lo, hlo⟩ : ∃ lo, s % 4294967296 = lo := ⟨_, rfl⟩
      obtain ⟨hi, hhi⟩ : ∃ hi, s / 4294967296 = hi := ⟨_, rfl⟩
      have m1 : (s : Int).tmod 4294967296 = (lo : Int) := by rw [Int.tmod_eq_emod_of_nonneg (by omega)]; omega
      have m2 : IntKind.u64.wrap ((s : Int) / 4294967296) = (hi : Int) := by rw [IntKind.wrap_u64]; omega
      have m3 : IntKind.u64.wrap ((s : Int).tdiv 4294967296) = (hi : Int) := by rw [IntKind.wrap_u64, Int.tdiv_eq_ediv_of_nonneg (by omega)]; omega
      obtain ⟨hj, hhj⟩ : ∃ hj, 1 - hi = hj := ⟨_, rfl⟩
      have m4 : IntKind.u64.wrap (1 - (hi : Int)) = (hj : Int) := by rw [IntKind.wrap_u64]; omega
      have HI : Hid (small4 x y lo u ∧ hj ≤ 1 ∧ digs x y lo u + D = place 3 * hj + rest 3 a b c d + A) := by
        refine ⟨⟨by omega, by omega, by omega, by omega⟩, by omega, ?_⟩
        simp [digs, place, rest] at hI ⊢
        omega
      have HW : ∀ nq, Hid (((wr.drewN nq).setCell ⟨w.heap.size, 3, none⟩ (.int .u64 lo)).heap[w.heap.size]? = some (.cells #[.bool m', .int .u64 x, .int .u64 y, .int .u64 lo, .int .u64 u] 66 (0, 0)) ∧ ((wr.drewN nq).setCell ⟨w.heap.size, 3, none⟩ (.int .u64 lo)).heap[w.heap.size + 1]? = some (.cells #[.bool m, .int .u64 a, .int .u64 b, .int .u64 c, .int .u64 d] 66 (0, 0)) ∧ ((wr.drewN nq).setCell ⟨w.heap.size, 3, none⟩ (.int .u64 lo)).heap[w.heap.size + 2]? = some (.cells #[.bool false, .int .u64 0, .int .u64 0, .int .u64 0, .int .u64 0] 66 (0, 0))) := by
        intro nq
        refine ⟨row_setCell (w := wr.drewN nq) hc1 _ _, ?_, ?_⟩
        · rw [Below.heap_setCell _ _ _ _ (by simp)]; exact hc2
        · rw [Below.heap_setCell _ _ _ _ (by simp)]; exact hc3
      clear hI hx hy hz hu hcy hs0 hs1 hhj hs hlo hhi hc hc1 hc2 hc3
      go_wp2_with fail
      go_quiet (fail)
      go_wp2_with fail
      go_roundw
      case rel => exact ⟨3, x, y, lo, u, hj, by omega, by rfl, rfl, hid ((hb.out.drewN _).setCell (p := ⟨w.heap.size, 3, none⟩) (Nat.le_refl _) _), HW _, HI⟩
      case measure => simp [intOf]
    · have e1 : wr.cell? ⟨w.heap.size, 1 + 3, none⟩ = some (.int .u64 u) := by rw [cell_of_row _ _ _ _ _ _ hc1]; rfl
      have e2 : wr.cell? ⟨w.heap.size + 1, 1 + 3, none⟩ = some (.int .u64 d) := by rw [cell_of_row _ _ _ _ _ _ hc2]; rfl
      have f1 : wr.frozen? ⟨w.heap.size, 1 + 3, none⟩ = false := by simp [World.frozen?, hc1]
      obtain ⟨s0, hs0⟩ : ∃ s0, 4294967296 + u = s0 := ⟨_, rfl⟩
      have sw0 : IntKind.u64.wrap (4294967296 + (u : Int)) = (s0 : Int) := by rw [IntKind.wrap_u64]; omega
      obtain ⟨s1, hs1⟩ : ∃ s1, s0 - d = s1 := ⟨_, rfl⟩
      have sw1 : IntKind.u64.wrap ((s0 : Int) - (d : Int)) = (s1 : Int) := by rw [IntKind.wrap_u64]; omega
      obtain ⟨s, hs⟩ : ∃ s, s1 - cy = s := ⟨_, rfl⟩
      have sw2 : IntKind.u64.wrap ((s1 : Int) - (cy : Int)) = (s : Int) := by rw [IntKind.wrap_u64]; omega
      obtain ⟨lo, hlo⟩ : ∃ lo, s % 4294967296 = lo := ⟨_, rfl⟩
      obtain ⟨hi, hhi⟩ : ∃ hi, s / 4294967296 = hi := ⟨_, rfl⟩
      have m1 : (s : Int).tmod 4294967296 = (lo : Int) := by rw [Int.tmod_eq_emod_of_nonneg (by omega)]; omega
      have m2 : IntKind.u64.wrap ((s : Int) / 4294967296) = (hi : Int) := by rw [IntKind.wrap_u64]; omega
      have m3 : IntKind.u64.wrap ((s : Int).tdiv 4294967296) = (hi : Int) := by rw [IntKind.wrap_u64, Int.tdiv_eq_ediv_of_nonneg (by omega)]; omega
      obtain ⟨hj, hhj⟩ : ∃ hj, 1 - hi = hj := ⟨_, rfl⟩
      have m4 : IntKind.u64.wrap (1 - (hi : Int)) = (hj : Int) := by rw [IntKind.wrap_u64]; omega
      have HI : Hid (small4 x y z lo ∧ hj ≤ 1 ∧ digs x y z lo + D = place 4 * hj + rest 4 a b c d + A) := by
        refine ⟨⟨by omega, by omega, by omega, by omega⟩, by omega, ?_⟩
        simp [digs, place, rest] at hI ⊢
        omega
      have HW : ∀ nq, Hid (((wr.drewN nq).setCell ⟨w.heap.size, 4, none⟩ (.int .u64 lo)).heap[w.heap.size]? = some (.cells #[.bool m', .int .u64 x, .int .u64 y, .int .u64 z, .int .u64 lo] 66 (0, 0)) ∧ ((wr.drewN nq).setCell ⟨w.heap.size, 4, none⟩ (.int .u64 lo)).heap[w.heap.size + 1]? = some (.cells #[.bool m, .int .u64 a, .int .u64 b, .int .u64 c, .int .u64 d] 66 (0, 0)) ∧ ((wr.drewN nq).setCell ⟨w.heap.size, 4, none⟩ (.int .u64 lo)).heap[w.heap.size + 2]? = some (.cells #[.bool false, .int .u64 0, .int .u64 0, .int .u64 0, .int .u64 0] 66 (0, 0))) := by
        intro nq
        refine ⟨row_setCell (w := wr.drewN nq) hc1 _ _, ?_, ?_⟩
        · rw [Below.heap_setCell _ _ _ _ (by simp)]; exact hc2
        · rw [Below.heap_setCell _ _ _ _ (by simp)]; exact hc3
      clear hI hx hy hz hu hcy hs0 hs1 hhj hs hlo hhi hc hc1 hc2 hc3
      go_wp2_with fail
      go_quiet (fail)
      go_wp2_with fail
      go_roundw
      case rel => exact ⟨4, x, y, z, lo, hj, by omega, by rfl, rfl, hid ((hb.out.drewN _).setCell (p := ⟨w.heap.size, 4, none⟩) (Nat.le_refl _) _), HW _, HI⟩
      case measure => simp [intOf]
    · have HF : Hid (digs x y z u = A - D) := by
        have h1 := HL.out
        have h2 : digs x y z u < 340282366920938463463374607431768211456 := by unfold digs; omega
        simp [place, rest] at hI
        show _ = _
        rcases (by omega : cy = 0 ∨ cy = 1) with rfl | rfl
        · omega
        · omega
      have hsm : small4 x y z u := ⟨hx, hy, hz, hu⟩
      have d0 : wr.cell? ⟨w.heap.size, 0, none⟩ = some (.bool m') := by rw [cell_of_row _ _ _ _ _ _ hc1]; rfl
      have d1 : wr.cell? ⟨w.heap.size, 1, none⟩ = some (.int .u64 x) := by rw [cell_of_row _ _ _ _ _ _ hc1]; rfl
      have d2 : wr.cell? ⟨w.heap.size, 2, none⟩ = some (.int .u64 y) := by rw [cell_of_row _ _ _ _ _ _ hc1]; rfl
      have d3 : wr.cell? ⟨w.heap.size, 3, none⟩ = some (.int .u64 z) := by rw [cell_of_row _ _ _ _ _ _ hc1]; rfl
      have d4 : wr.cell? ⟨w.heap.size, 4, none⟩ = some (.int .u64 u) := by rw [cell_of_row _ _ _ _ _ _ hc1]; rfl
      have hr0 := row_setCell hc3 0 (.bool m')
      have hr1 := row_setCell hr0 1 (.int .u64 x)
      have hr2 := row_setCell hr1 2 (.int .u64 y)
      have hr3 := row_setCell hr2 3 (.int .u64 z)
      have hr4 := row_setCell hr3 4 (.int .u64 u)
      have HR4 := hid hr4
      have HB4 := hid (((((hb.out.setCell (p := ⟨w.heap.size + 2, 0, none⟩) (by simp) (.bool m')).setCell (p := ⟨w.heap.size + 2, 1, none⟩) (by simp) (.int .u64 x)).setCell (p := ⟨w.heap.size + 2, 2, none⟩) (by simp) (.int .u64 y)).setCell (p := ⟨w.heap.size + 2, 3, none⟩) (by simp) (.int .u64 z)).setCell (p := ⟨w.heap.size + 2, 4, none⟩) (by simp) (.int .u64 u))
      clear hr0 hr1 hr2 hr3 hr4 hI hx hy hz hu hcy hc hc1 hc2
      have g0 : ∀ i, wr.cell? ⟨w.heap.size + 2, i, none⟩ = (#[Value.bool false, .int .u64 0, .int .u64 0, .int .u64 0, .int .u64 0] : Array Value)[i]? := fun i => by rw [cell_of_row _ _ _ _ _ _ hc3]
      have g1 : ∀ i, wr.frozen? ⟨w.heap.size + 2, i, none⟩ = false := fun i => by simp [World.frozen?, hc3]
      have k0 := g0 0
      have k1 := g0 1
      have k2 := g0 2
      have k3 := g0 3
      have k4 := g0 4
      have l0 := g1 0
      have l1 := g1 1
      have l2 := g1 2
      have l3 := g1 3
      have l4 := g1 4
      clear g0 g1 hc3
      go_wp2_with fail
      exact bodyPost_ret (v := .agg #[.bool m', .int .u64 x, .int .u64 y, .int .u64 z, .int .u64 u]) (results_cell_row rfl _ _ (w.heap.size + 2) 66 _ (0, 0) _ rfl HR4.out Tryd.underlying66 rfl infoWide) rfl ⟨x, y, z, u, rfl, HF.out, hsm, HB4.out⟩
end Go.Proofs.YtohdifffdgoaaaaDoor
