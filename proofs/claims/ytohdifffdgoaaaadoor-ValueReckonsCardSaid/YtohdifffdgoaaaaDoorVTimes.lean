/- The walk of the document's product of wide numbers. -/
import Derived.Test.YtohdifffdgoaaaaDoorVMinus
namespace Go.Proofs.YtohdifffdgoaaaaDoor
open Go.RowKit
open Go.Lib (hid)
theorem fresh4 (w : World) (o o' o'' o3 : Obj) : (((((w.alloc o).alloc o').alloc o'').alloc o3).heap[w.heap.size]? = some o) ∧ (((((w.alloc o).alloc o').alloc o'').alloc o3).heap[w.heap.size + 1]? = some o') ∧ (((((w.alloc o).alloc o').alloc o'').alloc o3).heap[w.heap.size + 2]? = some o'') ∧ (((((w.alloc o).alloc o').alloc o'').alloc o3).heap[w.heap.size + 3]? = some o3) := by
  obtain ⟨h1, h2, h3⟩ := fresh3 w o o' o''
  have s3 : (((w.alloc o).alloc o').alloc o'').heap.size = w.heap.size + 3 := by simp
  refine ⟨?_, ?_, ?_, ?_⟩
  · rw [Lib.alloc_old _ _ _ (by omega)]; exact h1
  · rw [Lib.alloc_old _ _ _ (by omega)]; exact h2
  · rw [Lib.alloc_old _ _ _ (by omega)]; exact h3
  · rw [← s3]; exact heap_alloc_new _ _
theorem below4 (w : World) (o o' o'' o3 : Obj) : Below w.heap.size w ((((w.alloc o).alloc o').alloc o'').alloc o3) := (below3 w o o' o'').alloc (by simp; omega) o3
theorem prod_le {a b : Nat} (ha : a < 4294967296) (hb : b < 4294967296) : a * b ≤ 18446744065119617025 := by
  have := Nat.mul_le_mul (show a ≤ 4294967295 by omega) (show b ≤ 4294967295 by omega)
  omega
/-- the products that are in after so many rounds -/
def prods (i k p q r s : Nat) : Nat := (if 2 * i + k ≥ 1 then p else 0) + 4294967296 * (if 2 * i + k ≥ 2 then q else 0) + 4294967296 * (if 2 * i + k ≥ 3 then r else 0) + 18446744073709551616 * (if 2 * i + k ≥ 4 then s else 0)

set_option maxRecDepth 100000 in
set_option maxHeartbeats 8000000 in
theorem times_any (m m' q : Bool) (hm : (m == m') = q) (a b c d a' b' c' d' : Nat) (w : World) (ha : small4 a b c d) (ha' : small4 a' b' c' d') :
    Calls Tryd.prog 52 #[.agg #[.bool m, .int .u64 a, .int .u64 b, .int .u64 c, .int .u64 d], .agg #[.bool m', .int .u64 a', .int .u64 b', .int .u64 c', .int .u64 d']] w fun e w' => ∃ x y z u, e = .returned (.agg #[.bool (!q), .int .u64 (x : Nat), .int .u64 (y : Nat), .int .u64 (z : Nat), .int .u64 (u : Nat)]) ∧ digs x y z u = a * a' + 4294967296 * (a * b') + 4294967296 * (b * a') + 18446744073709551616 * (b * b') ∧ small4 x y z u ∧ Below w.heap.size w w' := by
  obtain ⟨ha1, hb1, _, _⟩ := ha
  obtain ⟨ha2, hb2, _, _⟩ := ha'
  have l00 := prod_le ha1 ha2
  have l01 := prod_le ha1 hb2
  have l10 := prod_le hb1 ha2
  have l11 := prod_le hb1 hb2
  have pw00 : IntKind.u64.wrap ((a : Int) * (a' : Int)) = ((a * a' : Nat) : Int) := by rw [IntKind.wrap_u64, ← Int.natCast_mul]; omega
  have pw01 : IntKind.u64.wrap ((a : Int) * (b' : Int)) = ((a * b' : Nat) : Int) := by rw [IntKind.wrap_u64, ← Int.natCast_mul]; omega
  have pw10 : IntKind.u64.wrap ((b : Int) * (a' : Int)) = ((b * a' : Nat) : Int) := by rw [IntKind.wrap_u64, ← Int.natCast_mul]; omega
  have pw11 : IntKind.u64.wrap ((b : Int) * (b' : Int)) = ((b * b' : Nat) : Int) := by rw [IntKind.wrap_u64, ← Int.natCast_mul]; omega
  obtain ⟨p00, e00⟩ : ∃ p, a * a' = p := ⟨_, rfl⟩
  obtain ⟨p01, e01⟩ : ∃ p, a * b' = p := ⟨_, rfl⟩
  obtain ⟨p10, e10⟩ : ∃ p, b * a' = p := ⟨_, rfl⟩
  obtain ⟨p11, e11⟩ : ∃ p, b * b' = p := ⟨_, rfl⟩
  rw [e00] at pw00 l00 ⊢
  rw [e01] at pw01 l01 ⊢
  rw [e10] at pw10 l10 ⊢
  rw [e11] at pw11 l11 ⊢
  clear e00 e01 e10 e11 ha1 hb1 ha2 hb2
  go_enter Tryd.func52, Tryd.ntmps52
  go_wp2_with fail
  go_loopw [6] (fun iv wr => ∃ (i x y z u : Nat), i ≤ 2 ∧ iv = .int .i64 i ∧ Hid (Below w.heap.size w wr) ∧
      Hid (wr.heap[w.heap.size]? = some (.cells #[.bool m, .int .u64 a, .int .u64 b, .int .u64 c, .int .u64 d] 66 (0, 0)) ∧ wr.heap[w.heap.size + 1]? = some (.cells #[.bool m', .int .u64 a', .int .u64 b', .int .u64 c', .int .u64 d'] 66 (0, 0)) ∧ wr.heap[w.heap.size + 2]? = some (.cells #[.bool false, .int .u64 0, .int .u64 0, .int .u64 0, .int .u64 0] 66 (0, 0)) ∧ wr.heap[w.heap.size + 3]? = some (.cells #[.bool (!q), .int .u64 x, .int .u64 y, .int .u64 z, .int .u64 u] 66 (0, 0))) ∧
      Hid (small4 x y z u ∧ digs x y z u = prods i 0 p00 p01 p10 p11 ∧ (i = 0 → z = 0 ∧ u = 0) ∧ (i = 1 → u = 0))) (fun iv _ => 2 - (intOf iv).toNat)
  case atStart =>
    exact ⟨0, 0, 0, 0, 0, by omega, rfl, below4 w _ _ _ _, fresh4 w _ _ _ _, ⟨⟨by omega, by omega, by omega, by omega⟩, by simp [digs, prods], fun _ => ⟨rfl, rfl⟩, fun h => by cases h⟩⟩
  case round =>
    obtain ⟨i, x, y, z, u, hi, rfl, hb, hc, hI⟩ := hrel
    rcases (by omega : i = 0 ∨ i = 1 ∨ i = 2) with rfl | rfl | rfl
    · go_wp2_with fail
      obtain ⟨wo, hwo⟩ : ∃ wo : World, wo = wr := ⟨_, rfl⟩
      go_loopw [7, 8] (fun cv kv wi => ∃ (k cy x y z u : Nat), k ≤ 2 ∧ kv = .int .i64 k ∧ cv = .int .u64 cy ∧ Hid (Below w.heap.size w wi) ∧
        Hid (wi.heap[w.heap.size]? = some (.cells #[.bool m, .int .u64 a, .int .u64 b, .int .u64 c, .int .u64 d] 66 (0, 0)) ∧ wi.heap[w.heap.size + 1]? = some (.cells #[.bool m', .int .u64 a', .int .u64 b', .int .u64 c', .int .u64 d'] 66 (0, 0)) ∧ wi.heap[w.heap.size + 2]? = some (.cells #[.bool false, .int .u64 0, .int .u64 0, .int .u64 0, .int .u64 0] 66 (0, 0)) ∧ wi.heap[w.heap.size + 3]? = some (.cells #[.bool (!q), .int .u64 x, .int .u64 y, .int .u64 z, .int .u64 u] 66 (0, 0))) ∧
        Hid (small4 x y z u ∧ cy < 4294967296 ∧ digs x y z u + place (0 + k) * cy = prods 0 k p00 p01 p10 p11 ∧ z = 0 ∧ u = 0)) (fun _ kv _ => 2 - (intOf kv).toNat)
      case atStart =>
        obtain ⟨h1, h2, h3, h4⟩ := hI.out
        exact ⟨0, 0, x, y, z, u, by omega, rfl, rfl, hb, hc, ⟨h1, by omega, by simpa using h2, h3 (by simp)⟩⟩
      case round =>
        clear hI hb hc hwo
        obtain ⟨k, cy, x, y, z, u, hk, rfl, rfl, hb, hc, hI⟩ := hrel
        obtain ⟨hc1, hc2, hc3, hc4⟩ := hc.out
        obtain ⟨⟨hx, hy, hz, hu⟩, hcy, hI, hZ⟩ := hI.out
        rcases (by omega : k = 0 ∨ k = 1 ∨ k = 2) with rfl | rfl | rfl
        · have e1 : wr.cell? ⟨w.heap.size, 1 + 0, none⟩ = some (.int .u64 a) := by rw [cell_of_row _ _ _ _ _ _ hc1]; rfl
          have e2 : wr.cell? ⟨w.heap.size + 1, 1 + 0, none⟩ = some (.int .u64 a') := by rw [cell_of_row _ _ _ _ _ _ hc2]; rfl
          have e3 : wr.cell? ⟨w.heap.size + 3, 1 + 0, none⟩ = some (.int .u64 x) := by rw [cell_of_row _ _ _ _ _ _ hc4]; rfl
          have f1 : wr.frozen? ⟨w.heap.size + 3, 1 + 0, none⟩ = false := by simp [World.frozen?, hc4]
          obtain ⟨s0, hs0⟩ : ∃ s0, p00 + x = s0 := ⟨_, rfl⟩
          have sw0 : IntKind.u64.wrap ((p00 : Int) + (x : Int)) = (s0 : Int) := by rw [IntKind.wrap_u64]; omega
          obtain ⟨s, hs⟩ : ∃ s, s0 + cy = s := ⟨_, rfl⟩
          have sw1 : IntKind.u64.wrap ((s0 : Int) + (cy : Int)) = (s : Int) := by rw [IntKind.wrap_u64]; omega
          obtain ⟨lo, hlo⟩ : ∃ lo, s % 4294967296 = lo := ⟨_, rfl⟩
          obtain ⟨hi, hhi⟩ : ∃ hi, s / 4294967296 = hi := ⟨_, rfl⟩
          have m1 : (s : Int).tmod 4294967296 = (lo : Int) := by rw [Int.tmod_eq_emod_of_nonneg (by omega)]; omega
          have m2 : IntKind.u64.wrap ((s : Int) / 4294967296) = (hi : Int) := by rw [IntKind.wrap_u64]; omega
          have m3 : IntKind.u64.wrap ((s : Int).tdiv 4294967296) = (hi : Int) := by rw [IntKind.wrap_u64, Int.tdiv_eq_ediv_of_nonneg (by omega)]; omega
          have HI : Hid (small4 lo y z u ∧ hi < 4294967296 ∧ digs lo y z u + place (0 + 1) * hi = prods 0 1 p00 p01 p10 p11 ∧ z = 0 ∧ u = 0) := by
            refine ⟨⟨by omega, by omega, by omega, by omega⟩, by omega, ?_, hZ⟩
            simp [digs, place, prods] at hI ⊢
            omega
          have HW : ∀ nq, Hid (((wr.drewN nq).setCell ⟨w.heap.size + 3, 1, none⟩ (.int .u64 lo)).heap[w.heap.size]? = some (.cells #[.bool m, .int .u64 a, .int .u64 b, .int .u64 c, .int .u64 d] 66 (0, 0)) ∧ ((wr.drewN nq).setCell ⟨w.heap.size + 3, 1, none⟩ (.int .u64 lo)).heap[w.heap.size + 1]? = some (.cells #[.bool m', .int .u64 a', .int .u64 b', .int .u64 c', .int .u64 d'] 66 (0, 0)) ∧ ((wr.drewN nq).setCell ⟨w.heap.size + 3, 1, none⟩ (.int .u64 lo)).heap[w.heap.size + 2]? = some (.cells #[.bool false, .int .u64 0, .int .u64 0, .int .u64 0, .int .u64 0] 66 (0, 0)) ∧ ((wr.drewN nq).setCell ⟨w.heap.size + 3, 1, none⟩ (.int .u64 lo)).heap[w.heap.size + 3]? = some (.cells #[.bool (!q), .int .u64 lo, .int .u64 y, .int .u64 z, .int .u64 u] 66 (0, 0))) := by
            intro nq
            refine ⟨?_, ?_, ?_, row_setCell (w := wr.drewN nq) hc4 _ _⟩
            · rw [Below.heap_setCell _ _ _ _ (by simp)]; exact hc1
            · rw [Below.heap_setCell _ _ _ _ (by simp)]; exact hc2
            · rw [Below.heap_setCell _ _ _ _ (by simp)]; exact hc3
          clear hI hx hy hz hu hcy hs0 hs hlo hhi hc hc1 hc2 hc3 hc4 hZ l00 l01 l10 l11
          go_wp2_with fail
          go_quiet (fail)
          go_wp2_with fail
          go_roundw
          case rel => exact ⟨1, hi, lo, y, z, u, by omega, by rfl, rfl, hid ((hb.out.drewN _).setCell (p := ⟨w.heap.size + 3, 1, none⟩) (by simp) _), HW _, HI⟩
          case measure => simp [intOf]
        · have e1 : wr.cell? ⟨w.heap.size, 1 + 0, none⟩ = some (.int .u64 a) := by rw [cell_of_row _ _ _ _ _ _ hc1]; rfl
          have e2 : wr.cell? ⟨w.heap.size + 1, 1 + 1, none⟩ = some (.int .u64 b') := by rw [cell_of_row _ _ _ _ _ _ hc2]; rfl
          have e3 : wr.cell? ⟨w.heap.size + 3, 1 + 1, none⟩ = some (.int .u64 y) := by rw [cell_of_row _ _ _ _ _ _ hc4]; rfl
          have f1 : wr.frozen? ⟨w.heap.size + 3, 1 + 1, none⟩ = false := by simp [World.frozen?, hc4]
          obtain ⟨s0, hs0⟩ : ∃ s0, p01 + y = s0 := ⟨_, rfl⟩
          have sw0 : IntKind.u64.wrap ((p01 : Int) + (y : Int)) = (s0 : Int) := by rw [IntKind.wrap_u64]; omega
          obtain ⟨s, hs⟩ : ∃ s, s0 + cy = s := ⟨_, rfl⟩
          have sw1 : IntKind.u64.wrap ((s0 : Int) + (cy : Int)) = (s : Int) := by rw [IntKind.wrap_u64]; omega
          obtain ⟨lo, hlo⟩ : ∃ lo, s % 4294967296 = lo := ⟨_, rfl⟩
          obtain ⟨hi, hhi⟩ : ∃ hi, s / 4294967296 = hi := ⟨_, rfl⟩
          have m1 : (s : Int).tmod 4294967296 = (lo : Int) := by rw [Int.tmod_eq_emod_of_nonneg (by omega)]; omega
          have m2 : IntKind.u64.wrap ((s : Int) / 4294967296) = (hi : Int) := by rw [IntKind.wrap_u64]; omega
          have m3 : IntKind.u64.wrap ((s : Int).tdiv 4294967296) = (hi : Int) := by rw [IntKind.wrap_u64, Int.tdiv_eq_ediv_of_nonneg (by omega)]; omega
          have HI : Hid (small4 x lo z u ∧ hi < 4294967296 ∧ digs x lo z u + place (0 + 2) * hi = prods 0 2 p00 p01 p10 p11 ∧ z = 0 ∧ u = 0) := by
            refine ⟨⟨by omega, by omega, by omega, by omega⟩, by omega, ?_, hZ⟩
            simp [digs, place, prods] at hI ⊢
            omega
          have HW : ∀ nq, Hid (((wr.drewN nq).setCell ⟨w.heap.size + 3, 2, none⟩ (.int .u64 lo)).heap[w.heap.size]? = some (.cells #[.bool m, .int .u64 a, .int .u64 b, .int .u64 c, .int .u64 d] 66 (0, 0)) ∧ ((wr.drewN nq).setCell ⟨w.heap.size + 3, 2, none⟩ (.int .u64 lo)).heap[w.heap.size + 1]? = some (.cells #[.bool m', .int .u64 a', .int .u64 b', .int .u64 c', .int .u64 d'] 66 (0, 0)) ∧ ((wr.drewN nq).setCell ⟨w.heap.size + 3, 2, none⟩ (.int .u64 lo)).heap[w.heap.size + 2]? = some (.cells #[.bool false, .int .u64 0, .int .u64 0, .int .u64 0, .int .u64 0] 66 (0, 0)) ∧ ((wr.drewN nq).setCell ⟨w.heap.size + 3, 2, none⟩ (.int .u64 lo)).heap[w.heap.size + 3]? = some (.cells #[.bool (!q), .int .u64 x, .int .u64 lo, .int .u64 z, .int .u64 u] 66 (0, 0))) := by
            intro nq
            refine ⟨?_, ?_, ?_, row_setCell (w := wr.drewN nq) hc4 _ _⟩
            · rw [Below.heap_setCell _ _ _ _ (by simp)]; exact hc1
            · rw [Below.heap_setCell _ _ _ _ (by simp)]; exact hc2
            · rw [Below.heap_setCell _ _ _ _ (by simp)]; exact hc3
          clear hI hx hy hz hu hcy hs0 hs hlo hhi hc hc1 hc2 hc3 hc4 hZ l00 l01 l10 l11
          go_wp2_with fail
          go_quiet (fail)
          go_wp2_with fail
          go_roundw
          case rel => exact ⟨2, hi, x, lo, z, u, by omega, by rfl, rfl, hid ((hb.out.drewN _).setCell (p := ⟨w.heap.size + 3, 2, none⟩) (by simp) _), HW _, HI⟩
          case measure => simp [intOf]
        · have f1 : wr.frozen? ⟨w.heap.size + 3, 1 + 2, none⟩ = false := by simp [World.frozen?, hc4]
          have e3 : wr.cell? ⟨w.heap.size + 3, 1 + 2, none⟩ = some (.int .u64 z) := by rw [cell_of_row _ _ _ _ _ _ hc4]; rfl
          have HI : Hid (small4 x y cy u ∧ digs x y cy u = prods 1 0 p00 p01 p10 p11 ∧ (1 = 0 → cy = 0 ∧ u = 0) ∧ (1 = 1 → u = 0)) := by
            refine ⟨⟨by omega, by omega, by omega, by omega⟩, ?_, by omega, by omega⟩
            simp [digs, place, prods] at hI ⊢
            omega
          have HW : Hid ((wr.setCell ⟨w.heap.size + 3, 3, none⟩ (.int .u64 cy)).heap[w.heap.size]? = some (.cells #[.bool m, .int .u64 a, .int .u64 b, .int .u64 c, .int .u64 d] 66 (0, 0)) ∧ (wr.setCell ⟨w.heap.size + 3, 3, none⟩ (.int .u64 cy)).heap[w.heap.size + 1]? = some (.cells #[.bool m', .int .u64 a', .int .u64 b', .int .u64 c', .int .u64 d'] 66 (0, 0)) ∧ (wr.setCell ⟨w.heap.size + 3, 3, none⟩ (.int .u64 cy)).heap[w.heap.size + 2]? = some (.cells #[.bool false, .int .u64 0, .int .u64 0, .int .u64 0, .int .u64 0] 66 (0, 0)) ∧ (wr.setCell ⟨w.heap.size + 3, 3, none⟩ (.int .u64 cy)).heap[w.heap.size + 3]? = some (.cells #[.bool (!q), .int .u64 x, .int .u64 y, .int .u64 cy, .int .u64 u] 66 (0, 0))) := by
            refine ⟨?_, ?_, ?_, row_setCell hc4 _ _⟩
            · rw [Below.heap_setCell _ _ _ _ (by simp)]; exact hc1
            · rw [Below.heap_setCell _ _ _ _ (by simp)]; exact hc2
            · rw [Below.heap_setCell _ _ _ _ (by simp)]; exact hc3
          clear hI hx hy hz hu hcy hc hc1 hc2 hc3 hc4 hZ l00 l01 l10 l11
          go_wp2_with fail
          go_roundw
          case rel => exact ⟨1, x, y, cy, u, by omega, by rfl, hid (hb.out.setCell (p := ⟨w.heap.size + 3, 3, none⟩) (by simp) _), HW, HI⟩
          case measure => simp [intOf]
    · go_wp2_with fail
      obtain ⟨wo, hwo⟩ : ∃ wo : World, wo = wr := ⟨_, rfl⟩
      go_loopw [7, 8] (fun cv kv wi => ∃ (k cy x y z u : Nat), k ≤ 2 ∧ kv = .int .i64 k ∧ cv = .int .u64 cy ∧ Hid (Below w.heap.size w wi) ∧
        Hid (wi.heap[w.heap.size]? = some (.cells #[.bool m, .int .u64 a, .int .u64 b, .int .u64 c, .int .u64 d] 66 (0, 0)) ∧ wi.heap[w.heap.size + 1]? = some (.cells #[.bool m', .int .u64 a', .int .u64 b', .int .u64 c', .int .u64 d'] 66 (0, 0)) ∧ wi.heap[w.heap.size + 2]? = some (.cells #[.bool false, .int .u64 0, .int .u64 0, .int .u64 0, .int .u64 0] 66 (0, 0)) ∧ wi.heap[w.heap.size + 3]? = some (.cells #[.bool (!q), .int .u64 x, .int .u64 y, .int .u64 z, .int .u64 u] 66 (0, 0))) ∧
        Hid (small4 x y z u ∧ cy < 4294967296 ∧ digs x y z u + place (1 + k) * cy = prods 1 k p00 p01 p10 p11 ∧ u = 0)) (fun _ kv _ => 2 - (intOf kv).toNat)
      case atStart =>
        obtain ⟨h1, h2, h3, h4⟩ := hI.out
        exact ⟨0, 0, x, y, z, u, by omega, rfl, rfl, hb, hc, ⟨h1, by omega, by simpa using h2, h4 (by simp)⟩⟩
      case round =>
        clear hI hb hc hwo
        obtain ⟨k, cy, x, y, z, u, hk, rfl, rfl, hb, hc, hI⟩ := hrel
        obtain ⟨hc1, hc2, hc3, hc4⟩ := hc.out
        obtain ⟨⟨hx, hy, hz, hu⟩, hcy, hI, hZ⟩ := hI.out
        rcases (by omega : k = 0 ∨ k = 1 ∨ k = 2) with rfl | rfl | rfl
        · have e1 : wr.cell? ⟨w.heap.size, 1 + 1, none⟩ = some (.int .u64 b) := by rw [cell_of_row _ _ _ _ _ _ hc1]; rfl
          have e2 : wr.cell? ⟨w.heap.size + 1, 1 + 0, none⟩ = some (.int .u64 a') := by rw [cell_of_row _ _ _ _ _ _ hc2]; rfl
          have e3 : wr.cell? ⟨w.heap.size + 3, 1 + 1, none⟩ = some (.int .u64 y) := by rw [cell_of_row _ _ _ _ _ _ hc4]; rfl
          have f1 : wr.frozen? ⟨w.heap.size + 3, 1 + 1, none⟩ = false := by simp [World.frozen?, hc4]
          obtain ⟨s0, hs0⟩ : ∃ s0, p10 + y = s0 := ⟨_, rfl⟩
          have sw0 : IntKind.u64.wrap ((p10 : Int) + (y : Int)) = (s0 : Int) := by rw [IntKind.wrap_u64]; omega
          obtain ⟨s, hs⟩ : ∃ s, s0 + cy = s := ⟨_, rfl⟩
          have sw1 : IntKind.u64.wrap ((s0 : Int) + (cy : Int)) = (s : Int) := by rw [IntKind.wrap_u64]; omega
          obtain ⟨lo, hlo⟩ : ∃ lo, s % 4294967296 = lo := ⟨_, rfl⟩
          obtain ⟨hi, hhi⟩ : ∃ hi, s / 4294967296 = hi := ⟨_, rfl⟩
          have m1 : (s : Int).tmod 4294967296 = (lo : Int) := by rw [Int.tmod_eq_emod_of_nonneg (by omega)]; omega
          have m2 : IntKind.u64.wrap ((s : Int) / 4294967296) = (hi : Int) := by rw [IntKind.wrap_u64]; omega
          have m3 : IntKind.u64.wrap ((s : Int).tdiv 4294967296) = (hi : Int) := by rw [IntKind.wrap_u64, Int.tdiv_eq_ediv_of_nonneg (by omega)]; omega
          have HI : Hid (small4 x lo z u ∧ hi < 4294967296 ∧ digs x lo z u + place (1 + 1) * hi = prods 1 1 p00 p01 p10 p11 ∧ u = 0) := by
            refine ⟨⟨by omega, by omega, by omega, by omega⟩, by omega, ?_, hZ⟩
            simp [digs, place, prods] at hI ⊢
            omega
          have HW : ∀ nq, Hid (((wr.drewN nq).setCell ⟨w.heap.size + 3, 2, none⟩ (.int .u64 lo)).heap[w.heap.size]? = some (.cells #[.bool m, .int .u64 a, .int .u64 b, .int .u64 c, .int .u64 d] 66 (0, 0)) ∧ ((wr.drewN nq).setCell ⟨w.heap.size + 3, 2, none⟩ (.int .u64 lo)).heap[w.heap.size + 1]? = some (.cells #[.bool m', .int .u64 a', .int .u64 b', .int .u64 c', .int .u64 d'] 66 (0, 0)) ∧ ((wr.drewN nq).setCell ⟨w.heap.size + 3, 2, none⟩ (.int .u64 lo)).heap[w.heap.size + 2]? = some (.cells #[.bool false, .int .u64 0, .int .u64 0, .int .u64 0, .int .u64 0] 66 (0, 0)) ∧ ((wr.drewN nq).setCell ⟨w.heap.size + 3, 2, none⟩ (.int .u64 lo)).heap[w.heap.size + 3]? = some (.cells #[.bool (!q), .int .u64 x, .int .u64 lo, .int .u64 z, .int .u64 u] 66 (0, 0))) := by
            intro nq
            refine ⟨?_, ?_, ?_, row_setCell (w := wr.drewN nq) hc4 _ _⟩
            · rw [Below.heap_setCell _ _ _ _ (by simp)]; exact hc1
            · rw [Below.heap_setCell _ _ _ _ (by simp)]; exact hc2
            · rw [Below.heap_setCell _ _ _ _ (by simp)]; exact hc3
          clear hI hx hy hz hu hcy hs0 hs hlo hhi hc hc1 hc2 hc3 hc4 hZ l00 l01 l10 l11
          go_wp2_with fail
          go_quiet (fail)
          go_wp2_with fail
          go_roundw
          case rel => exact ⟨1, hi, x, lo, z, u, by omega, by rfl, rfl, hid ((hb.out.drewN _).setCell (p := ⟨w.heap.size + 3, 2, none⟩) (by simp) _), HW _, HI⟩
          case measure => simp [intOf]
        · have e1 : wr.cell? ⟨w.heap.size, 1 + 1, none⟩ = some (.int .u64 b) := by rw [cell_of_row _ _ _ _ _ _ hc1]; rfl
          have e2 : wr.cell? ⟨w.heap.size + 1, 1 + 1, none⟩ = some (.int .u64 b') := by rw [cell_of_row _ _ _ _ _ _ hc2]; rfl
          have e3 : wr.cell? ⟨w.heap.size + 3, 1 + 2, none⟩ = some (.int .u64 z) := by rw [cell_of_row _ _ _ _ _ _ hc4]; rfl
          have f1 : wr.frozen? ⟨w.heap.size + 3, 1 + 2, none⟩ = false := by simp [World.frozen?, hc4]
          obtain ⟨s0, hs0⟩ : ∃ s0, p11 + z = s0 := ⟨_, rfl⟩
          have sw0 : IntKind.u64.wrap ((p11 : Int) + (z : Int)) = (s0 : Int) := by rw [IntKind.wrap_u64]; omega
          obtain ⟨s, hs⟩ : ∃ s, s0 + cy = s := ⟨_, rfl⟩
          have sw1 : IntKind.u64.wrap ((s0 : Int) + (cy : Int)) = (s : Int) := by rw [IntKind.wrap_u64]; omega
          obtain ⟨lo, hlo⟩ : ∃ lo, s % 4294967296 = lo := ⟨_, rfl⟩
          obtain ⟨hi, hhi⟩ : ∃ hi, s / 4294967296 = hi := ⟨_, rfl⟩
          have m1 : (s : Int).tmod 4294967296 = (lo : Int) := by rw [Int.tmod_eq_emod_of_nonneg (by omega)]; omega
          have m2 : IntKind.u64.wrap ((s : Int) / 4294967296) = (hi : Int) := by rw [IntKind.wrap_u64]; omega
          have m3 : IntKind.u64.wrap ((s : Int).tdiv 4294967296) = (hi : Int) := by rw [IntKind.wrap_u64, Int.tdiv_eq_ediv_of_nonneg (by omega)]; omega
          have HI : Hid (small4 x y lo u ∧ hi < 4294967296 ∧ digs x y lo u + place (1 + 2) * hi = prods 1 2 p00 p01 p10 p11 ∧ u = 0) := by
            refine ⟨⟨by omega, by omega, by omega, by omega⟩, by omega, ?_, hZ⟩
            simp [digs, place, prods] at hI ⊢
            omega
          have HW : ∀ nq, Hid (((wr.drewN nq).setCell ⟨w.heap.size + 3, 3, none⟩ (.int .u64 lo)).heap[w.heap.size]? = some (.cells #[.bool m, .int .u64 a, .int .u64 b, .int .u64 c, .int .u64 d] 66 (0, 0)) ∧ ((wr.drewN nq).setCell ⟨w.heap.size + 3, 3, none⟩ (.int .u64 lo)).heap[w.heap.size + 1]? = some (.cells #[.bool m', .int .u64 a', .int .u64 b', .int .u64 c', .int .u64 d'] 66 (0, 0)) ∧ ((wr.drewN nq).setCell ⟨w.heap.size + 3, 3, none⟩ (.int .u64 lo)).heap[w.heap.size + 2]? = some (.cells #[.bool false, .int .u64 0, .int .u64 0, .int .u64 0, .int .u64 0] 66 (0, 0)) ∧ ((wr.drewN nq).setCell ⟨w.heap.size + 3, 3, none⟩ (.int .u64 lo)).heap[w.heap.size + 3]? = some (.cells #[.bool (!q), .int .u64 x, .int .u64 y, .int .u64 lo, .int .u64 u] 66 (0, 0))) := by
            intro nq
            refine ⟨?_, ?_, ?_, row_setCell (w := wr.drewN nq) hc4 _ _⟩
            · rw [Below.heap_setCell _ _ _ _ (by simp)]; exact hc1
            · rw [Below.heap_setCell _ _ _ _ (by simp)]; exact hc2
            · rw [Below.heap_setCell _ _ _ _ (by simp)]; exact hc3
          clear hI hx hy hz hu hcy hs0 hs hlo hhi hc hc1 hc2 hc3 hc4 hZ l00 l01 l10 l11
          go_wp2_with fail
          go_quiet (fail)
          go_wp2_with fail
          go_roundw
          case rel => exact ⟨2, hi, x, y, lo, u, by omega, by rfl, rfl, hid ((hb.out.drewN _).setCell (p := ⟨w.heap.size + 3, 3, none⟩) (by simp) _), HW _, HI⟩
          case measure => simp [intOf]
        · have f1 : wr.frozen? ⟨w.heap.size + 3, 1 + 3, none⟩ = false := by simp [World.frozen?, hc4]
          have e3 : wr.cell? ⟨w.heap.size + 3, 1 + 3, none⟩ = some (.int .u64 u) := by rw [cell_of_row _ _ _ _ _ _ hc4]; rfl
          have HI : Hid (small4 x y z cy ∧ digs x y z cy = prods 2 0 p00 p01 p10 p11 ∧ (2 = 0 → z = 0 ∧ cy = 0) ∧ (2 = 1 → cy = 0)) := by
            refine ⟨⟨by omega, by omega, by omega, by omega⟩, ?_, by omega, by omega⟩
            simp [digs, place, prods] at hI ⊢
            omega
          have HW : Hid ((wr.setCell ⟨w.heap.size + 3, 4, none⟩ (.int .u64 cy)).heap[w.heap.size]? = some (.cells #[.bool m, .int .u64 a, .int .u64 b, .int .u64 c, .int .u64 d] 66 (0, 0)) ∧ (wr.setCell ⟨w.heap.size + 3, 4, none⟩ (.int .u64 cy)).heap[w.heap.size + 1]? = some (.cells #[.bool m', .int .u64 a', .int .u64 b', .int .u64 c', .int .u64 d'] 66 (0, 0)) ∧ (wr.setCell ⟨w.heap.size + 3, 4, none⟩ (.int .u64 cy)).heap[w.heap.size + 2]? = some (.cells #[.bool false, .int .u64 0, .int .u64 0, .int .u64 0, .int .u64 0] 66 (0, 0)) ∧ (wr.setCell ⟨w.heap.size + 3, 4, none⟩ (.int .u64 cy)).heap[w.heap.size + 3]? = some (.cells #[.bool (!q), .int .u64 x, .int .u64 y, .int .u64 z, .int .u64 cy] 66 (0, 0))) := by
            refine ⟨?_, ?_, ?_, row_setCell hc4 _ _⟩
            · rw [Below.heap_setCell _ _ _ _ (by simp)]; exact hc1
            · rw [Below.heap_setCell _ _ _ _ (by simp)]; exact hc2
            · rw [Below.heap_setCell _ _ _ _ (by simp)]; exact hc3
          clear hI hx hy hz hu hcy hc hc1 hc2 hc3 hc4 hZ l00 l01 l10 l11
          go_wp2_with fail
          go_roundw
          case rel => exact ⟨2, x, y, z, cy, by omega, by rfl, hid (hb.out.setCell (p := ⟨w.heap.size + 3, 4, none⟩) (by simp) _), HW, HI⟩
          case measure => simp [intOf]
    · obtain ⟨hc1, hc2, hc3, hc4⟩ := hc.out
      obtain ⟨⟨hx, hy, hz, hu⟩, hI, _, _⟩ := hI.out
      have HF : Hid (digs x y z u = p00 + 4294967296 * p01 + 4294967296 * p10 + 18446744073709551616 * p11) := by
        show _ = _
        rw [hI]; simp [prods]
      have hsm : small4 x y z u := ⟨hx, hy, hz, hu⟩
      have d0 : wr.cell? ⟨w.heap.size + 3, 0, none⟩ = some (.bool (!q)) := by rw [cell_of_row _ _ _ _ _ _ hc4]; rfl
      have d1 : wr.cell? ⟨w.heap.size + 3, 1, none⟩ = some (.int .u64 x) := by rw [cell_of_row _ _ _ _ _ _ hc4]; rfl
      have d2 : wr.cell? ⟨w.heap.size + 3, 2, none⟩ = some (.int .u64 y) := by rw [cell_of_row _ _ _ _ _ _ hc4]; rfl
      have d3 : wr.cell? ⟨w.heap.size + 3, 3, none⟩ = some (.int .u64 z) := by rw [cell_of_row _ _ _ _ _ _ hc4]; rfl
      have d4 : wr.cell? ⟨w.heap.size + 3, 4, none⟩ = some (.int .u64 u) := by rw [cell_of_row _ _ _ _ _ _ hc4]; rfl
      have hr0 := row_setCell hc3 0 (.bool (!q))
      have hr1 := row_setCell hr0 1 (.int .u64 x)
      have hr2 := row_setCell hr1 2 (.int .u64 y)
      have hr3 := row_setCell hr2 3 (.int .u64 z)
      have hr4 := row_setCell hr3 4 (.int .u64 u)
      have HR4 := hid hr4
      have HB4 := hid (((((hb.out.setCell (p := ⟨w.heap.size + 2, 0, none⟩) (by simp) (.bool (!q))).setCell (p := ⟨w.heap.size + 2, 1, none⟩) (by simp) (.int .u64 x)).setCell (p := ⟨w.heap.size + 2, 2, none⟩) (by simp) (.int .u64 y)).setCell (p := ⟨w.heap.size + 2, 3, none⟩) (by simp) (.int .u64 z)).setCell (p := ⟨w.heap.size + 2, 4, none⟩) (by simp) (.int .u64 u))
      clear hr0 hr1 hr2 hr3 hr4 hI hx hy hz hu hc hc1 hc2 hc4
      have g0 : ∀ i, wr.cell? ⟨w.heap.size + 2, i, none⟩ = (#[Value.bool false, .int .u64 0, .int .u64 0, .int .u64 0, .int .u64 0] : Array Value)[i]? := fun i => by rw [cell_of_row _ _ _ _ _ _ hc3]
      have g1 : ∀ i, wr.frozen? ⟨w.heap.size + 2, i, none⟩ = false := fun i => by simp [World.frozen?, hc3]
      have k0 := g0 0
      have k1 := g0 1
      have k2 := g0 2
      have k3 := g0 3
      have k4 := g0 4
      have l0 := g1 0
      have l1 := g1 1
      have l2 := g1 2
      have l3 := g1 3
      have l4 := g1 4
      clear g0 g1 hc3
      go_wp2_with fail
      exact bodyPost_ret (v := .agg #[.bool (!q), .int .u64 x, .int .u64 y, .int .u64 z, .int .u64 u]) (results_cell_row rfl _ _ (w.heap.size + 2) 66 _ (0, 0) _ rfl HR4.out Tryd.underlying66 rfl infoWide) rfl ⟨x, y, z, u, rfl, HF.out, hsm, HB4.out⟩
end Go.Proofs.YtohdifffdgoaaaaDoor
