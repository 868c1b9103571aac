/- Same: at two flat values that are the same. -/
import Derived.Test.YtphjfighamadgaaGreatDoorJA7
import Derived.Test.YtphjfighamadgaaGreatDoorShelfS
namespace Go.Proofs.YtphjfighamadgaaGreatDoor
open Go.RowKit
open Go.Lib (hid)
set_option maxRecDepth 100000 in
set_option maxHeartbeats 1000000 in
theorem equalFunc_empty (a1 a2 : Option Addr) (c1 c2 : Nat) (f : Value) (w : World) : Calls Tryz.prog 39 #[.slice a1 0 c1, .slice a2 0 c2, f] w fun e w' => e = .returned (.bool true) ∧ Below w.heap.size w w' := by
  have HB : Hid (Below w.heap.size w w) := Below.refl _ w
  go_enter Tryz.func39, Tryz.ntmps39
  go_upto_region 4 with fail
  go_loopw [17] (fun vi wr => vi = .int .i64 0 ∧ Hid (Below w.heap.size w wr)) (fun _ _ => 0)
  case atStart => exact ⟨rfl, HB⟩
  case round =>
    obtain ⟨rfl, HI⟩ := hrel
    go_wp2_with fail
    go_ret
    exact ⟨rfl, HI.out⟩
set_option maxRecDepth 100000 in
set_option maxHeartbeats 2000000 in
theorem same_flat (k : Int) (b : Bool) (n : Int) (s : ByteArray) (w : World) : Calls Tryz.prog 19 #[.agg #[.int .u8 k, .bool b, .int .i64 n, .string s, .slice none 0 0, .slice none 0 0], .agg #[.int .u8 k, .bool b, .int .i64 n, .string s, .slice none 0 0, .slice none 0 0]] w fun e w' => e = .returned (.bool true) ∧ Below w.heap.size w w' := by
  obtain ⟨w1, hw1⟩ : ∃ w1, (w.alloc (.cells #[.int .u8 k, .bool b, .int .i64 n, .string s, .slice none 0 0, .slice none 0 0] 25)).alloc (.cells #[.int .u8 k, .bool b, .int .i64 n, .string s, .slice none 0 0, .slice none 0 0] 25) = w1 := ⟨_, rfl⟩
  have hb1 : Below w.heap.size w w1 := by rw [← hw1]; exact ((Below.refl _ w).alloc (Nat.le_refl _) _).alloc (by simp) _
  have hv1 : w1.heap[w.heap.size]? = some (.cells #[.int .u8 k, .bool b, .int .i64 n, .string s, .slice none 0 0, .slice none 0 0] 25 (0, 0)) := by rw [← hw1, Lib.alloc_old _ _ _ (by simp)]; exact heap_alloc_new w _
  have hv2 : w1.heap[w.heap.size + 1]? = some (.cells #[.int .u8 k, .bool b, .int .i64 n, .string s, .slice none 0 0, .slice none 0 0] 25 (0, 0)) := by
    rw [← hw1]
    have := heap_alloc_new (w.alloc (.cells #[.int .u8 k, .bool b, .int .i64 n, .string s, .slice none 0 0, .slice none 0 0] 25)) (.cells #[.int .u8 k, .bool b, .int .i64 n, .string s, .slice none 0 0, .slice none 0 0] 25)
    rw [show (w.alloc (.cells #[.int .u8 k, .bool b, .int .i64 n, .string s, .slice none 0 0, .slice none 0 0] 25)).heap.size = w.heap.size + 1 by simp] at this
    exact this
  obtain ⟨x0, x1, x2, x3, x4, x5⟩ := x6_of hv1
  obtain ⟨y0, y1, y2, y3, y4, y5⟩ := x6_of hv2
  have HB := hid hb1
  have HW1 := hid hw1
  have cE := Tryz.slices_Equal_string_empty none none 0 0 0 w1 (by decide)
  clear hb1 hw1 hv1 hv2
  go_enter Tryz.func19, Tryz.ntmps19
  go_upto_region 1 with fail
  rw [HW1.out]
  clear HW1
  go_wp2_with fail
  refine cE.mono ?_
  rintro e w2 ⟨rfl, hw⟩
  rw [hw]
  clear hw cE
  go_wp2_with fail
  refine (equalFunc_empty none none 0 0 _ w1).mono ?_
  rintro e w2 ⟨rfl, hb⟩
  have HB2 := hid (HB.out.trans (hb.mono HB.out.size))
  clear hb x0 x1 x2 x3 x4 x5 y0 y1 y2 y3 y4 y5
  go_wp2_with fail
  go_ret
  exact ⟨rfl, HB2.out⟩
end Go.Proofs.YtphjfighamadgaaGreatDoor
