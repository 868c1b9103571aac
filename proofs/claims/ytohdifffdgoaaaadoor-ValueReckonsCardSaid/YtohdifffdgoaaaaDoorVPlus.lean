/- The walk of the document's sum of wide numbers. -/
import Derived.Test.YtohdifffdgoaaaaDoorVWide
import Derived.Deep.CutRange
import Derived.OneCell
namespace Go.Proofs.YtohdifffdgoaaaaDoor
open Go.RowKit
open Go.Lib (hid)
/-- four digits of 32 bits -/
def digs (a b c d : Nat) : Nat := a + 4294967296 * b + 18446744073709551616 * c + 79228162514264337593543950336 * d
/-- what is left of the second number, from digit k on -/
def rest (k a b c d : Nat) : Nat := (if k ≤ 0 then a else 0) + 4294967296 * (if k ≤ 1 then b else 0) + 18446744073709551616 * (if k ≤ 2 then c else 0) + 79228162514264337593543950336 * (if k ≤ 3 then d else 0)
/-- what a carry at digit k is worth -/
def place (k : Nat) : Nat := if k = 0 then 1 else if k = 1 then 4294967296 else if k = 2 then 18446744073709551616 else if k = 3 then 79228162514264337593543950336 else 340282366920938463463374607431768211456
def small4 (a b c d : Nat) : Prop := a < 4294967296 ∧ b < 4294967296 ∧ c < 4294967296 ∧ d < 4294967296
abbrev wideRow (m : Bool) (a b c d : Nat) : Obj := .cells #[.bool m, .int .u64 a, .int .u64 b, .int .u64 c, .int .u64 d] 66

theorem row_setCell {w : World} {b : Nat} {cs : Array Value} {t : TypeId} (h : w.heap[b]? = some (.cells cs t (0, 0))) (i : Nat) (v : Value) : (w.setCell ⟨b, i, none⟩ v).heap[b]? = some (.cells (cs.setIfInBounds i v) t (0, 0)) := by
  have hlt := lt_of_block h
  have h' : w.heap[b] = .cells cs t (0, 0) := by simpa [Array.getElem?_eq_getElem hlt] using h
  show (w.heap.modify b _)[b]? = _
  rw [Array.getElem?_eq_getElem (by simpa using hlt), Array.getElem_modify_self, h']
  rfl
theorem fresh3 (w : World) (o o' o'' : Obj) : ((((w.alloc o).alloc o').alloc o'').heap[w.heap.size]? = some o) ∧ ((((w.alloc o).alloc o').alloc o'').heap[w.heap.size + 1]? = some o') ∧ ((((w.alloc o).alloc o').alloc o'').heap[w.heap.size + 2]? = some o'') := by
  have s1 : (w.alloc o).heap.size = w.heap.size + 1 := by simp
  have s2 : ((w.alloc o).alloc o').heap.size = w.heap.size + 2 := by simp
  refine ⟨?_, ?_, ?_⟩
  · rw [Lib.alloc_old _ _ _ (by omega), Lib.alloc_old _ _ _ (by omega)]; exact heap_alloc_new w _
  · rw [Lib.alloc_old _ _ _ (by omega), ← s1]; exact heap_alloc_new _ _
  · rw [← s2]; exact heap_alloc_new _ _
theorem below3 (w : World) (o o' o'' : Obj) : Below w.heap.size w (((w.alloc o).alloc o').alloc o'') := (((Below.refl _ w).alloc (Nat.le_refl _) o).alloc (by simp) o').alloc (by simp; omega) o''
set_option maxRecDepth 100000 in
set_option maxHeartbeats 8000000 in
theorem plus_same (m : Bool) (a b c d a' b' c' d' : Nat) (w : World) (ha : small4 a b c d) (ha' : small4 a' b' c' d') (hT : digs a b c d + digs a' b' c' d' < 340282366920938463463374607431768211456) :
    Calls Tryd.prog 51 #[.agg #[.bool m, .int .u64 a, .int .u64 b, .int .u64 c, .int .u64 d], .agg #[.bool m, .int .u64 a', .int .u64 b', .int .u64 c', .int .u64 d']] w fun e w' => ∃ x y z u, e = .returned (.agg #[.bool m, .int .u64 (x : Nat), .int .u64 (y : Nat), .int .u64 (z : Nat), .int .u64 (u : Nat)]) ∧ digs x y z u = digs a b c d + digs a' b' c' d' ∧ small4 x y z u ∧ Below w.heap.size w w' := by
  have t0 : (m == m) = true := by simp
  obtain ⟨T, hTT⟩ : ∃ T, digs a b c d + digs a' b' c' d' = T := ⟨_, rfl⟩
  rw [hTT] at hT
  rw [hTT]
  have HT := hid hTT
  have HL := hid hT
  clear hTT hT
  go_enter Tryd.func51, Tryd.ntmps51
  go_wp2_with fail
  go_loopw [5, 6] (fun v i wr => ∃ (k x y z u cy : Nat), k ≤ 4 ∧ i = .int .i64 k ∧ v = .int .u64 cy ∧ Hid (Below w.heap.size w wr) ∧
      Hid (wr.heap[w.heap.size]? = some (.cells #[.bool m, .int .u64 x, .int .u64 y, .int .u64 z, .int .u64 u] 66 (0, 0)) ∧ wr.heap[w.heap.size + 1]? = some (.cells #[.bool m, .int .u64 a', .int .u64 b', .int .u64 c', .int .u64 d'] 66 (0, 0)) ∧ wr.heap[w.heap.size + 2]? = some (.cells #[.bool false, .int .u64 0, .int .u64 0, .int .u64 0, .int .u64 0] 66 (0, 0))) ∧
      Hid (small4 x y z u ∧ cy ≤ 1 ∧ digs x y z u + place k * cy + rest k a' b' c' d' = T)) (fun _ i _ => 4 - (intOf i).toNat)
  case atStart =>
    exact ⟨0, a, b, c, d, 0, by omega, rfl, rfl, below3 w _ _ _, fresh3 w _ _ _, ⟨ha, by omega, by rw [← HT.out]; simp [rest, digs]⟩⟩
  case round =>
    obtain ⟨k, x, y, z, u, cy, hk, rfl, rfl, hb, hc, hI⟩ := hrel
    obtain ⟨hc1, hc2, hc3⟩ := hc.out
    obtain ⟨⟨hx, hy, hz, hu⟩, hcy, hI⟩ := hI.out
    obtain ⟨ha1, hb1, hc1', hd1⟩ := ha'
    rcases (by omega : k = 0 ∨ k = 1 ∨ k = 2 ∨ k = 3 ∨ k = 4) with rfl | rfl | rfl | rfl | rfl
    · have e1 : wr.cell? ⟨w.heap.size, 1 + 0, none⟩ = some (.int .u64 x) := by rw [cell_of_row _ _ _ _ _ _ hc1]; rfl
      have e2 : wr.cell? ⟨w.heap.size + 1, 1 + 0, none⟩ = some (.int .u64 a') := by rw [cell_of_row _ _ _ _ _ _ hc2]; rfl
      have f1 : wr.frozen? ⟨w.heap.size, 1 + 0, none⟩ = false := by simp [World.frozen?, hc1]
      obtain ⟨s0, hs0⟩ : ∃ s0, x + a' = s0 := ⟨_, rfl⟩
      have sw0 : IntKind.u64.wrap ((x : Int) + (a' : Int)) = (s0 : Int) := by rw [IntKind.wrap_u64]; omega
      obtain ⟨s, hs⟩ : ∃ s, s0 + cy = s := ⟨_, rfl⟩
      have sw1 : IntKind.u64.wrap ((s0 : Int) + (cy : Int)) = (s : Int) := by rw [IntKind.wrap_u64]; omega
      obtain ⟨lo, hlo⟩ : ∃ lo, s % 4294967296 = lo := ⟨_, rfl⟩
      obtain ⟨hi, hhi⟩ : ∃ hi, s / 4294967296 = hi := ⟨_, rfl⟩
      have m1 : (s : Int).tmod 4294967296 = (lo : Int) := by rw [Int.tmod_eq_emod_of_nonneg (by omega)]; omega
      have m2 : IntKind.u64.wrap ((s : Int) / 4294967296) = (hi : Int) := by rw [IntKind.wrap_u64]; omega
      have m3 : IntKind.u64.wrap ((s : Int).tdiv 4294967296) = (hi : Int) := by rw [IntKind.wrap_u64, Int.tdiv_eq_ediv_of_nonneg (by omega)]; omega
      have HI : Hid (small4 lo y z u ∧ hi ≤ 1 ∧ digs lo y z u + place 1 * hi + rest 1 a' b' c' d' = T) := by
        refine ⟨⟨by omega, by omega, by omega, by omega⟩, by omega, ?_⟩
        simp [digs, place, rest] at hI ⊢
        omega
      have HW : ∀ nq, Hid (((wr.drewN nq).setCell ⟨w.heap.size, 1, none⟩ (.int .u64 lo)).heap[w.heap.size]? = some (.cells #[.bool m, .int .u64 lo, .int .u64 y, .int .u64 z, .int .u64 u] 66 (0, 0)) ∧ ((wr.drewN nq).setCell ⟨w.heap.size, 1, none⟩ (.int .u64 lo)).heap[w.heap.size + 1]? = some (.cells #[.bool m, .int .u64 a', .int .u64 b', .int .u64 c', .int .u64 d'] 66 (0, 0)) ∧ ((wr.drewN nq).setCell ⟨w.heap.size, 1, none⟩ (.int .u64 lo)).heap[w.heap.size + 2]? = some (.cells #[.bool false, .int .u64 0, .int .u64 0, .int .u64 0, .int .u64 0] 66 (0, 0))) := by
        intro nq
        refine ⟨row_setCell (w := wr.drewN nq) hc1 _ _, ?_, ?_⟩
        · rw [Below.heap_setCell _ _ _ _ (by simp)]; exact hc2
        · rw [Below.heap_setCell _ _ _ _ (by simp)]; exact hc3
      clear hI hx hy hz hu hcy hs0  hs hlo hhi hc hc1 hc2 hc3
      go_wp2_with fail
      go_quiet (fail)
      go_wp2_with fail
      go_roundw
      case rel => exact ⟨1, lo, y, z, u, hi, by omega, by rfl, rfl, hid ((hb.out.drewN _).setCell (p := ⟨w.heap.size, 1, none⟩) (Nat.le_refl _) _), HW _, HI⟩
      case measure => simp [intOf]
    · have e1 : wr.cell? ⟨w.heap.size, 1 + 1, none⟩ = some (.int .u64 y) := by rw [cell_of_row _ _ _ _ _ _ hc1]; rfl
      have e2 : wr.cell? ⟨w.heap.size + 1, 1 + 1, none⟩ = some (.int .u64 b') := by rw [cell_of_row _ _ _ _ _ _ hc2]; rfl
      have f1 : wr.frozen? ⟨w.heap.size, 1 + 1, none⟩ = false := by simp [World.frozen?, hc1]
      obtain ⟨s0, hs0⟩ : ∃ s0, y + b' = s0 := ⟨_, rfl⟩
      have sw0 : IntKind.u64.wrap ((y : Int) + (b' : Int)) = (s0 : Int) := by rw [IntKind.wrap_u64]; omega
      obtain ⟨s, hs⟩ : ∃ s, s0 + cy = s := ⟨_, rfl⟩
      have sw1 : IntKind.u64.wrap ((s0 : Int) + (cy : Int)) = (s : Int) := by rw [IntKind.wrap_u64]; omega
      obtain ⟨lo, hlo⟩ : ∃ lo, s % 4294967296 = lo := ⟨_, rfl⟩
      obtain ⟨hi, hhi⟩ : ∃ hi, s / 4294967296 = hi := ⟨_, rfl⟩
      have m1 : (s : Int).tmod 4294967296 = (lo : Int) := by rw [Int.tmod_eq_emod_of_nonneg (by omega)]; omega
      have m2 : IntKind.u64.wrap ((s : Int) / 4294967296) = (hi : Int) := by rw [IntKind.wrap_u64]; omega
      have m3 : IntKind.u64.wrap ((s : Int).tdiv 4294967296) = (hi : Int) := by rw [IntKind.wrap_u64, Int.tdiv_eq_ediv_of_nonneg (by omega)]; omega
      have HI : Hid (small4 x lo z u ∧ hi ≤ 1 ∧ digs x lo z u + place 2 * hi + rest 2 a' b' c' d' = T) := by
        refine ⟨⟨by omega, by omega, by omega, by omega⟩, by omega, ?_⟩
        simp [digs, place, rest] at hI ⊢
        omega
      have HW : ∀ nq, Hid (((wr.drewN nq).setCell ⟨w.heap.size, 2, none⟩ (.int .u64 lo)).heap[w.heap.size]? = some (.cells #[.bool m, .int .u64 x, .int .u64 lo, .int .u64 z, .int .u64 u] 66 (0, 0)) ∧ ((wr.drewN nq).setCell ⟨w.heap.size, 2, none⟩ (.int .u64 lo)).heap[w.heap.size + 1]? = some (.cells #[.bool m, .int .u64 a', .int .u64 b', .int .u64 c', .int .u64 d'] 66 (0, 0)) ∧ ((wr.drewN nq).setCell ⟨w.heap.size, 2, none⟩ (.int .u64 lo)).heap[w.heap.size + 2]? = some (.cells #[.bool false, .int .u64 0, .int .u64 0, .int .u64 0, .int .u64 0] 66 (0, 0))) := by
        intro nq
        refine ⟨row_setCell (w := wr.drewN nq) hc1 _ _, ?_, ?_⟩
        · rw [Below.heap_setCell _ _ _ _ (by simp)]; exact hc2
        · rw [Below.heap_setCell _ _ _ _ (by simp)]; exact hc3
      clear hI hx hy hz hu hcy hs0  hs hlo hhi hc hc1 hc2 hc3
      go_wp2_with fail
      go_quiet (fail)
      go_wp2_with fail
      go_roundw
      case rel => exact ⟨2, x, lo, z, u, hi, by omega, by rfl, rfl, hid ((hb.out.drewN _).setCell (p := ⟨w.heap.size, 2, none⟩) (Nat.le_refl _) _), HW _, HI⟩
      case measure => simp [intOf]
    · have e1 : wr.cell? ⟨w.heap.size, 1 + 2, none⟩ = some (.int .u64 z) := by rw [cell_of_row _ _ _ _ _ _ hc1]; rfl
      have e2 : wr.cell? ⟨w.heap.size + 1, 1 + 2, none⟩ = some (.int .u64 c') := by rw [cell_of_row _ _ _ _ _ _ hc2]; rfl
      have f1 : wr.frozen? ⟨w.heap.size, 1 + 2, none⟩ = false := by simp [World.frozen?, hc1]
      obtain ⟨s0, hs0⟩ : ∃ s0, z + c' = s0 := ⟨_, rfl⟩
      have sw0 : IntKind.u64.wrap ((z : Int) + (c' : Int)) = (s0 : Int) := by rw [IntKind.wrap_u64]; omega
      obtain ⟨s, hs⟩ : ∃ s, s0 + cy = s := ⟨_, rfl⟩
      have sw1 : IntKind.u64.wrap ((s0 : Int) + (cy : Int)) = (s : Int) := by rw [IntKind.wrap_u64]; omega
      obtain ⟨lo, hlo⟩ : ∃ lo, s % 4294967296 = lo := ⟨_, rfl⟩
      obtain ⟨hi, hhi⟩ : ∃ hi, s / 4294967296 = hi := ⟨_, rfl⟩
      have m1 : (s : Int).tmod 4294967296 = (lo : Int) := by rw [Int.tmod_eq_emod_of_nonneg (by omega)]; omega
      have m2 : IntKind.u64.wrap ((s : Int) / 4294967296) = (hi : Int) := by rw [IntKind.wrap_u64]; omega
      have m3 : IntKind.u64.wrap ((s : Int).tdiv 4294967296) = (hi : Int) := by rw [IntKind.wrap_u64, Int.tdiv_eq_ediv_of_nonneg (by omega)]; omega
      have HI : Hid (small4 x y lo u ∧ hi ≤ 1 ∧ digs x y lo u + place 3 * hi + rest 3 a' b' c' d' = T) := by
        refine ⟨⟨by omega, by omega, by omega, by omega⟩, by omega, ?_⟩
        simp [digs, place, rest] at hI ⊢
        omega
      have HW : ∀ nq, Hid (((wr.drewN nq).setCell ⟨w.heap.size, 3, none⟩ (.int .u64 lo)).heap[w.heap.size]? = some (.cells #[.bool m, .int .u64 x, .int .u64 y, .int .u64 lo, .int .u64 u] 66 (0, 0)) ∧ ((wr.drewN nq).setCell ⟨w.heap.size, 3, none⟩ (.int .u64 lo)).heap[w.heap.size + 1]? = some (.cells #[.bool m, .int .u64 a', .int .u64 b', .int .u64 c', .int .u64 d'] 66 (0, 0)) ∧ ((wr.drewN nq).setCell ⟨w.heap.size, 3, none⟩ (.int .u64 lo)).heap[w.heap.size + 2]? = some (.cells #[.bool false, .int .u64 0, .int .u64 0, .int .u64 0, .int .u64 0] 66 (0, 0))) := by
        intro nq
        refine ⟨row_setCell (w := wr.drewN nq) hc1 _ _, ?_, ?_⟩
        · rw [Below.heap_setCell _ _ _ _ (by simp)]; exact hc2
        · rw [Below.heap_setCell _ _ _ _ (by simp)]; exact hc3
      clear hI hx hy hz hu hcy hs0  hs hlo hhi hc hc1 hc2 hc3
      go_wp2_with fail
      go_quiet (fail)
      go_wp2_with fail
      go_roundw
      case rel => exact ⟨3, x, y, lo, u, hi, by omega, by rfl, rfl, hid ((hb.out.drewN _).setCell (p := ⟨w.heap.size, 3, none⟩) (Nat.le_refl _) _), HW _, HI⟩
      case measure => simp [intOf]
    · have e1 : wr.cell? ⟨w.heap.size, 1 + 3, none⟩ = some (.int .u64 u) := by rw [cell_of_row _ _ _ _ _ _ hc1]; rfl
      have e2 : wr.cell? ⟨w.heap.size + 1, 1 + 3, none⟩ = some (.int .u64 d') := by rw [cell_of_row _ _ _ _ _ _ hc2]; rfl
      have f1 : wr.frozen? ⟨w.heap.size, 1 + 3, none⟩ = false := by simp [World.frozen?, hc1]
      obtain ⟨s0, hs0⟩ : ∃ s0, u + d' = s0 := ⟨_, rfl⟩
      have sw0 : IntKind.u64.wrap ((u : Int) + (d' : Int)) = (s0 : Int) := by rw [IntKind.wrap_u64]; omega
      obtain ⟨s, hs⟩ : ∃ s, s0 + cy = s := ⟨_, rfl⟩
      have sw1 : IntKind.u64.wrap ((s0 : Int) + (cy : Int)) = (s : Int) := by rw [IntKind.wrap_u64]; omega
      obtain ⟨lo, hlo⟩ : ∃ lo, s % 4294967296 = lo := ⟨_, rfl⟩
      obtain ⟨hi, hhi⟩ : ∃ hi, s / 4294967296 = hi := ⟨_, rfl⟩
      have m1 : (s : Int).tmod 4294967296 = (lo : Int) := by rw [Int.tmod_eq_emod_of_nonneg (by omega)]; omega
      have m2 : IntKind.u64.wrap ((s : Int) / 4294967296) = (hi : Int) := by rw [IntKind.wrap_u64]; omega
      have m3 : IntKind.u64.wrap ((s : Int).tdiv 4294967296) = (hi : Int) := by rw [IntKind.wrap_u64, Int.tdiv_eq_ediv_of_nonneg (by omega)]; omega
      have HI : Hid (small4 x y z lo ∧ hi ≤ 1 ∧ digs x y z lo + place 4 * hi + rest 4 a' b' c' d' = T) := by
        refine ⟨⟨by omega, by omega, by omega, by omega⟩, by omega, ?_⟩
        simp [digs, place, rest] at hI ⊢
        omega
      have HW : ∀ nq, Hid (((wr.drewN nq).setCell ⟨w.heap.size, 4, none⟩ (.int .u64 lo)).heap[w.heap.size]? = some (.cells #[.bool m, .int .u64 x, .int .u64 y, .int .u64 z, .int .u64 lo] 66 (0, 0)) ∧ ((wr.drewN nq).setCell ⟨w.heap.size, 4, none⟩ (.int .u64 lo)).heap[w.heap.size + 1]? = some (.cells #[.bool m, .int .u64 a', .int .u64 b', .int .u64 c', .int .u64 d'] 66 (0, 0)) ∧ ((wr.drewN nq).setCell ⟨w.heap.size, 4, none⟩ (.int .u64 lo)).heap[w.heap.size + 2]? = some (.cells #[.bool false, .int .u64 0, .int .u64 0, .int .u64 0, .int .u64 0] 66 (0, 0))) := by
        intro nq
        refine ⟨row_setCell (w := wr.drewN nq) hc1 _ _, ?_, ?_⟩
        · rw [Below.heap_setCell _ _ _ _ (by simp)]; exact hc2
        · rw [Below.heap_setCell _ _ _ _ (by simp)]; exact hc3
      clear hI hx hy hz hu hcy hs0  hs hlo hhi hc hc1 hc2 hc3
      go_wp2_with fail
      go_quiet (fail)
      go_wp2_with fail
      go_roundw
      case rel => exact ⟨4, x, y, z, lo, hi, by omega, by rfl, rfl, hid ((hb.out.drewN _).setCell (p := ⟨w.heap.size, 4, none⟩) (Nat.le_refl _) _), HW _, HI⟩
      case measure => simp [intOf]
    · have HF : Hid (digs x y z u = T) := by
        have := HL.out
        simp [place, rest] at hI
        show _ = _
        omega
      have hsm : small4 x y z u := ⟨hx, hy, hz, hu⟩
      have d0 : wr.cell? ⟨w.heap.size, 0, none⟩ = some (.bool m) := by rw [cell_of_row _ _ _ _ _ _ hc1]; rfl
      have d1 : wr.cell? ⟨w.heap.size, 1, none⟩ = some (.int .u64 x) := by rw [cell_of_row _ _ _ _ _ _ hc1]; rfl
      have d2 : wr.cell? ⟨w.heap.size, 2, none⟩ = some (.int .u64 y) := by rw [cell_of_row _ _ _ _ _ _ hc1]; rfl
      have d3 : wr.cell? ⟨w.heap.size, 3, none⟩ = some (.int .u64 z) := by rw [cell_of_row _ _ _ _ _ _ hc1]; rfl
      have d4 : wr.cell? ⟨w.heap.size, 4, none⟩ = some (.int .u64 u) := by rw [cell_of_row _ _ _ _ _ _ hc1]; rfl
      have hr0 := row_setCell hc3 0 (.bool m)
      have hr1 := row_setCell hr0 1 (.int .u64 x)
      have hr2 := row_setCell hr1 2 (.int .u64 y)
      have hr3 := row_setCell hr2 3 (.int .u64 z)
      have hr4 := row_setCell hr3 4 (.int .u64 u)
      have HR4 := hid hr4
      have HB4 := hid (((((hb.out.setCell (p := ⟨w.heap.size + 2, 0, none⟩) (by simp) (.bool m)).setCell (p := ⟨w.heap.size + 2, 1, none⟩) (by simp) (.int .u64 x)).setCell (p := ⟨w.heap.size + 2, 2, none⟩) (by simp) (.int .u64 y)).setCell (p := ⟨w.heap.size + 2, 3, none⟩) (by simp) (.int .u64 z)).setCell (p := ⟨w.heap.size + 2, 4, none⟩) (by simp) (.int .u64 u))
      clear hr0 hr1 hr2 hr3 hr4 hI hx hy hz hu hcy hc hc1 hc2
      have g0 : ∀ i, wr.cell? ⟨w.heap.size + 2, i, none⟩ = (#[Value.bool false, .int .u64 0, .int .u64 0, .int .u64 0, .int .u64 0] : Array Value)[i]? := fun i => by rw [cell_of_row _ _ _ _ _ _ hc3]
      have g1 : ∀ i, wr.frozen? ⟨w.heap.size + 2, i, none⟩ = false := fun i => by simp [World.frozen?, hc3]
      have k0 := g0 0
      have k1 := g0 1
      have k2 := g0 2
      have k3 := g0 3
      have k4 := g0 4
      have l0 := g1 0
      have l1 := g1 1
      have l2 := g1 2
      have l3 := g1 3
      have l4 := g1 4
      clear g0 g1 hc3
      go_wp2_with fail
      exact bodyPost_ret (v := .agg #[.bool m, .int .u64 x, .int .u64 y, .int .u64 z, .int .u64 u]) (results_cell_row rfl _ _ (w.heap.size + 2) 66 _ (0, 0) _ rfl HR4.out Tryd.underlying66 rfl infoWide) rfl ⟨x, y, z, u, rfl, HF.out, hsm, HB4.out⟩
end Go.Proofs.YtohdifffdgoaaaaDoor
