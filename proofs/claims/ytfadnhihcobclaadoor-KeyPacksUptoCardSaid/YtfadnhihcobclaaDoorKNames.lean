/- The walks of Pack of no part and of many parts, of Unpack of a text that begins with a number cut short; and of the law KeyNames. -/
import Derived.Test.YtfadnhihcobclaaDoorKAwake
import Derived.Laws.StructEq
namespace Go.Proofs.YtfadnhihcobclaaDoor
open Go.RowKit
open Go.Lib (hid)

set_option maxRecDepth 100000 in
set_option maxHeartbeats 4000000 in
theorem pack_nil (w : World) : Calls Tryd.prog 14 #[.slice none 0 0] w fun e w' => e = .returned (.tuple #[.string ⟨#[]⟩, .int .i64 0]) ∧ Below w.heap.size w w' := by
  have hconv := (Row.nil w.heap.size w).conv
  go_enter Tryd.func14, Tryd.ntmps14
  go_wp2_with fail
  go_loopw [4, 12] (fun b i wr => b = .slice none 0 0 ∧ i = .int .i64 0 ∧ Hid (wr = w)) (fun _ i _ => 0)
  case atStart => exact ⟨rfl, rfl, rfl⟩
  case round =>
    obtain ⟨rfl, rfl, hw⟩ := hrel
    have hw' := hw.out
    subst hw'
    go_wp2_with fail
    go_ret2
    exact ⟨rfl, Below.refl _ _⟩

set_option maxRecDepth 100000 in
theorem pack_many (a : Option Addr) (n c : Nat) (hn : 16 < n) (hn2 : n ≤ 1000000) (w : World) :
    Calls Tryd.prog 14 #[.slice a n c] w fun e w' => e = .returned (.tuple #[.string ⟨#[]⟩, .int .i64 3]) ∧ Below w.heap.size w w' := by
  have t0 : decide ((16 : Int) < (n : Int)) = true := by simp; omega
  go_enter Tryd.func14, Tryd.ntmps14
  go_wp2_with fail
  go_ret2
  exact ⟨rfl, Below.refl _ _⟩

set_option maxRecDepth 100000 in
set_option maxHeartbeats 4000000 in
theorem unpack_short (w : World) : Calls Tryd.prog 15 #[.string ⟨#[1, 0]⟩] w fun e w' => e = .returned (.tuple #[.slice none 0 0, .int .i64 4]) ∧ Below w.heap.size w w' := by
  go_enter Tryd.func15, Tryd.ntmps15
  go_wp2_with fail
  go_loopw [0, 4] (fun s o wr => s = .string ⟨#[1, 0]⟩ ∧ o = .slice none 0 0 ∧ Hid (wr = w)) (fun _ _ _ => 0)
  case atStart => exact ⟨rfl, rfl, rfl⟩
  case round =>
    obtain ⟨rfl, rfl, hw⟩ := hrel
    have hw' := hw.out
    subst hw'
    go_wp2_with fail
    go_ret2
    exact ⟨rfl, Below.refl _ _⟩

set_option maxRecDepth 100000 in
set_option maxHeartbeats 4000000 in
theorem make17 : ∃ o : Obj, ∀ w : World, (Instr.makeSlice 32 (.int .i64 17) (.int .i64 17)).run Tryd.prog w = .ok (.slice (some ⟨w.heap.size, 0, none⟩) 17 17) (w.alloc o) :=
  ⟨.cells (List.replicate 17 [Value.bool false, .int .i64 0, .string ⟨#[]⟩]).flatten.toArray 26, fun w => by kernel_rfl⟩

set_option maxRecDepth 100000 in
set_option maxHeartbeats 4000000 in
theorem names_walk (w : World) (hM : Max w) : Calls Tryd.prog 4 #[] w fun e w' => e = .returned (.bool true) ∧ Below w.heap.size w w' := by
  have HM := hid hM
  clear hM
  go_enter Tryd.func4, Tryd.ntmps4
  go_wp2_with fail
  refine (num_any (-5) w).mono ?_
  rintro e w1 ⟨rfl, b1⟩
  have B1 := hid b1
  clear b1
  go_wp2_with fail
  refine (str_any ⟨#[120]⟩ w1).mono ?_
  rintro e w2 ⟨rfl, b2⟩
  have B2 := hid (B1.out.trans (b2.mono B1.out.size))
  clear b2 B1
  go_wp2_with fail
  refine (pack_nil _).mono ?_
  rintro e w3 ⟨rfl, b3⟩
  obtain ⟨s2, hs2⟩ : ∃ s2, w2.heap.size = s2 := ⟨_, rfl⟩
  have f1 : ((w2.alloc (.cells #[.bool false, .int .i64 (-5), .string ⟨#[]⟩] 26)).alloc (.cells #[.bool true, .int .i64 0, .string ⟨#[120]⟩] 26)).heap[w2.heap.size]? = some (.cells #[.bool false, .int .i64 (-5), .string ⟨#[]⟩] 26 (0, 0)) := by rw [Lib.alloc_old _ _ _ (by simp)]; exact heap_alloc_new w2 _
  have f2 : ((w2.alloc (.cells #[.bool false, .int .i64 (-5), .string ⟨#[]⟩] 26)).alloc (.cells #[.bool true, .int .i64 0, .string ⟨#[120]⟩] 26)).heap[w2.heap.size + 1]? = some (.cells #[.bool true, .int .i64 0, .string ⟨#[120]⟩] 26 (0, 0)) := by
    have := heap_alloc_new (w2.alloc (.cells #[.bool false, .int .i64 (-5), .string ⟨#[]⟩] 26)) (.cells #[.bool true, .int .i64 0, .string ⟨#[120]⟩] 26)
    rw [show (w2.alloc (.cells #[.bool false, .int .i64 (-5), .string ⟨#[]⟩] 26)).heap.size = w2.heap.size + 1 by simp] at this
    exact this
  have hz : ((w2.alloc (.cells #[.bool false, .int .i64 (-5), .string ⟨#[]⟩] 26)).alloc (.cells #[.bool true, .int .i64 0, .string ⟨#[120]⟩] 26)).heap.size = w2.heap.size + 2 := by simp
  rw [← b3.block w2.heap.size (by omega)] at f1
  rw [← b3.block (w2.heap.size + 1) (by omega)] at f2
  have B3 := hid (((B2.out.alloc B2.out.size _).alloc (by have := B2.out.size; simp; omega) _).trans (b3.mono (by rw [hz]; have := B2.out.size; omega)))
  have hs3 : s2 + 2 ≤ w3.heap.size := by have := b3.size; omega
  rw [hs2] at f1 f2
  rw [hs2]
  have F3 := hid (And.intro f1 f2)
  obtain ⟨O, hmk⟩ := make17
  clear f1 f2 hz b3 B2 hs2
  go_wp2_with fail
  have hw0 : w.heap.size ≤ w3.heap.size := B3.out.size
  refine (pack_many _ 17 17 (by omega) (by omega) _).mono ?_
  rintro e w4 ⟨rfl, b4⟩
  have B4 := hid ((B3.out.alloc hw0 O).trans (b4.mono (by simp; omega)))
  have f1 := F3.out.1
  have f2 := F3.out.2
  rw [← Lib.alloc_old w3 O _ (by omega), ← b4.block _ (by simp; omega)] at f1 f2
  have F4 := hid (And.intro f1 f2)
  have hs4 : s2 + 2 ≤ w4.heap.size := by have := b4.size; simp at this; omega
  have hw4 : w.heap.size ≤ w4.heap.size := B4.out.size
  clear f1 f2 b4 F3 B3 hs3 hw0 hmk
  go_wp2_with fail
  have cP := pack_any w4.heap.size 1 1 [⟨false, 0, ⟨#[120]⟩⟩] rfl (by omega) (w4.alloc (.cells #[.bool false, .int .i64 0, .string ⟨#[120]⟩] 26)) (fun j u hj => by
    rw [cell_of_row _ _ _ _ _ _ (heap_alloc_new w4 _)]
    simpa [K.rowOf, K.Part.cells] using hj) (fun p hp => by
    simp only [List.mem_cons, List.not_mem_nil, or_false] at hp
    subst hp
    exact ⟨by decide, by decide, by decide⟩) (HM.out.below (B4.out.alloc hw4 _))
  rw [show K.pack [⟨false, 0, ⟨#[120]⟩⟩] = ([], 1) by decide +kernel] at cP
  refine cP.mono ?_
  rintro e w5 ⟨rfl, b5⟩
  have B5 := hid ((B4.out.alloc hw4 _).trans (b5.mono (by simp; omega)))
  have f1 := F4.out.1
  have f2 := F4.out.2
  rw [← Lib.alloc_old w4 (.cells #[.bool false, .int .i64 0, .string ⟨#[120]⟩] 26) _ (by omega), ← b5.block _ (by simp; omega)] at f1 f2
  have F5 := hid (And.intro f1 f2)
  have hs5 : s2 + 2 ≤ w5.heap.size := by have := b5.size; simp at this; omega
  have hw5 : w.heap.size ≤ w5.heap.size := B5.out.size
  clear f1 f2 b5 F4 B4 hs4 hw4 cP
  go_wp2_with fail
  refine (unpack_short _).mono ?_
  rintro e w6 ⟨rfl, b6⟩
  have B6 := hid (B5.out.trans (b6.mono hw5))
  have f1 := F5.out.1
  have f2 := F5.out.2
  rw [← b6.block _ (by omega)] at f1 f2
  have hw6 : w.heap.size ≤ w6.heap.size := B6.out.size
  have p0 : w6.cell? ⟨s2, 0, none⟩ = some (.bool false) := by rw [cell_of_row _ _ _ _ _ _ f1]; rfl
  have p1 : w6.cell? ⟨s2, 1, none⟩ = some (.int .i64 (-5)) := by rw [cell_of_row _ _ _ _ _ _ f1]; rfl
  have p2 : w6.cell? ⟨s2, 2, none⟩ = some (.string ⟨#[]⟩) := by rw [cell_of_row _ _ _ _ _ _ f1]; rfl
  have q0 : w6.cell? ⟨s2 + 1, 0, none⟩ = some (.bool true) := by rw [cell_of_row _ _ _ _ _ _ f2]; rfl
  have q1 : w6.cell? ⟨s2 + 1, 1, none⟩ = some (.int .i64 0) := by rw [cell_of_row _ _ _ _ _ _ f2]; rfl
  have q2 : w6.cell? ⟨s2 + 1, 2, none⟩ = some (.string ⟨#[120]⟩) := by rw [cell_of_row _ _ _ _ _ _ f2]; rfl
  clear f1 f2 b6 F5 B5 hs5 hw5
  have c1 := after_any ⟨#[97, 255]⟩ w6 (by decide)
  rw [show K.afterL (⟨#[97, 255]⟩ : ByteArray).data.toList = [98] by decide +kernel] at c1
  go_wp2_with fail
  refine c1.mono ?_
  rintro e w7 ⟨rfl, b7⟩
  have B7 := hid (B6.out.trans (b7.mono hw6))
  have hw7 : w.heap.size ≤ w7.heap.size := B7.out.size
  clear b7 c1 p0 p1 p2 q0 q1 q2
  have c1 := after_any ⟨#[255]⟩ w7 (by decide)
  rw [show K.afterL (⟨#[255]⟩ : ByteArray).data.toList = [] by decide +kernel] at c1
  go_wp2_with fail
  refine c1.mono ?_
  rintro e w8 ⟨rfl, b8⟩
  have B8 := hid (B7.out.trans (b8.mono hw7))
  have hw8 : w.heap.size ≤ w8.heap.size := B8.out.size
  have c2 := awake_any w8 (HM.out.below B8.out)
  clear b8 c1
  go_wp2_with fail
  refine c2.mono ?_
  rintro e w9 ⟨rfl, b9⟩
  have B9 := hid (B8.out.trans (b9.mono hw8))
  clear b9 c2
  go_wp2_with fail
  go_ret
  exact ⟨rfl, B9.out⟩
end Go.Proofs.YtfadnhihcobclaaDoor
