/- The walk of value.Cmp. -/
import Derived.Test.YtohdifffdgoaaaaDoorVOr
import Derived.StillTailTactics
namespace Go.Proofs.YtohdifffdgoaaaaDoor
open Go.RowKit
open Go.Lib (hid)

set_option maxRecDepth 100000 in
set_option maxHeartbeats 8000000 in
theorem cmpV_any (k k' : Nat) (n n' : Int) (b b' : Bool) (s s' : ByteArray) (w : World) :
    Calls Tryd.prog 37 #[.agg #[.int .u8 k, .int .i64 n, .bool b, .string s], .agg #[.int .u8 k', .int .i64 n', .bool b', .string s']] w fun e w' => e = .returned (.int .i64 (or4 (ordI k k') (ordI n n') ((if b then 1 else 0) - (if b' then 1 else 0)) (Lib.compareBytes s.data.toList s'.data.toList))) ∧ Below w.heap.size w w' := by
  have cS := Tryd.strings_Compare s s'
  obtain ⟨x, hx⟩ : ∃ x, ordI k k' = x := ⟨_, rfl⟩
  obtain ⟨y, hy⟩ : ∃ y, ordI n n' = y := ⟨_, rfl⟩
  obtain ⟨u, hu⟩ : ∃ u, Lib.compareBytes s.data.toList s'.data.toList = u := ⟨_, rfl⟩
  have cK := compare_u8 k k'
  have cN := compare_i64 n n'
  rw [hx] at cK ⊢
  rw [hy] at cN ⊢
  rw [hu] at cS ⊢
  clear hx hy hu
  obtain ⟨p, hp⟩ : ∃ p : Int, (if b then 1 else 0) = p := ⟨_, rfl⟩
  obtain ⟨p', hp'⟩ : ∃ p : Int, (if b' then 1 else 0) = p := ⟨_, rfl⟩
  have cB := boolean_any b
  have cB' := boolean_any b'
  rw [hp] at cB ⊢
  rw [hp'] at cB' ⊢
  have hzb : -1 ≤ p - p' ∧ p - p' ≤ 1 := by
    subst hp hp'
    cases b <;> cases b' <;> simp
  have hw : wrap64 (p - p') = p - p' := by unfold wrap64; omega
  have hw2 : IntKind.i64.wrap (p - p') = p - p' := by rw [IntKind.wrap_i64]; omega
  obtain ⟨z, hzz⟩ : ∃ z, p - p' = z := ⟨_, rfl⟩
  rw [hzz] at hw hw2
  rw [hzz]
  have hw3 : IntKind.i64.wrap (p - p') = z := by rw [hzz]; exact hw2
  have hw4 : wrap64 (p - p') = z := by rw [hzz]; exact hw
  clear hp hp' hzb hw hw2 hzz
  obtain ⟨f1, f2⟩ := fresh2 w (.cells #[.int .u8 k, .int .i64 n, .bool b, .string s] 23) (.cells #[.int .u8 k', .int .i64 n', .bool b', .string s'] 23)
  have hB := grown2 w (.cells #[.int .u8 k, .int .i64 n, .bool b, .string s] 23) (.cells #[.int .u8 k', .int .i64 n', .bool b', .string s'] 23)
  have hz := size2 w (.cells #[.int .u8 k, .int .i64 n, .bool b, .string s] 23) (.cells #[.int .u8 k', .int .i64 n', .bool b', .string s'] 23)
  go_enter Tryd.func37, Tryd.ntmps37
  go_upto_region 1 with fail
  generalize World.alloc (World.alloc w _) _ = w0 at *
  obtain ⟨x0, x1, x2, x3⟩ := row4 f1
  obtain ⟨y0, y1, y2, y3⟩ := row4 f2
  have hz' : w.heap.size + 2 ≤ w0.heap.size := by omega
  have HB := hid hB
  clear f1 f2 hB hz
  refine wp_region_still_tail 22 (by kernel_rfl) (by kernel_rfl) ?_
  simp only [List.take_succ_cons, List.take_zero, List.drop_succ_cons, List.drop_zero]
  repeat still_step
  still_call (cK _)
  repeat still_step
  still_call (cN _)
  repeat still_step
  still_call (cB _)
  repeat still_step
  still_call (cB' _)
  repeat still_step
  still_call (cS _)
  refine wpStill_nil ?_
  go_wp2_with fail
  have hnew : (w0.alloc (.cells #[.int .i64 x, .int .i64 y, .int .i64 z, .int .i64 u] 3)).drew.heap[w0.heap.size]? = some (.cells #[.int .i64 x, .int .i64 y, .int .i64 z, .int .i64 u] 3 (0, 0)) := heap_alloc_new w0 _
  refine (or4_any _ x y z u _ hnew).mono ?_
  rintro e w1 ⟨rfl, rfl⟩
  go_wp2_with fail
  go_ret
  exact ⟨rfl, HB.out.drew.alloc (by show _ ≤ w0.heap.size; omega) _⟩
end Go.Proofs.YtohdifffdgoaaaaDoor
