/- The walks of the reckonings: Add, Sub, Div, Mod, Mul. -/
import Derived.Test.YtohdifffdgoaaaaDoorVNums
import Derived.Test.YtohdifffdgoaaaaDoorShelf
import Derived.Test.YtohdifffdgoaaaaDoorVWide
namespace Go.Proofs.YtohdifffdgoaaaaDoor
open Go.RowKit
open Go.Lib (hid)
theorem heap4 (w : World) (o o' o'' o3 : Obj) : (((((w.alloc o).alloc o').alloc o'').alloc o3).heap[w.heap.size]? = some o) ∧ (((((w.alloc o).alloc o').alloc o'').alloc o3).heap[w.heap.size + 1]? = some o') ∧ (((((w.alloc o).alloc o').alloc o'').alloc o3).heap[w.heap.size + 2]? = some o'') ∧ (((((w.alloc o).alloc o').alloc o'').alloc o3).heap[w.heap.size + 3]? = some o3) := by
  have s1 : (w.alloc o).heap.size = w.heap.size + 1 := by simp
  have s2 : ((w.alloc o).alloc o').heap.size = w.heap.size + 2 := by simp
  have s3 : (((w.alloc o).alloc o').alloc o'').heap.size = w.heap.size + 3 := by simp
  refine ⟨?_, ?_, ?_, ?_⟩
  · rw [Lib.alloc_old _ _ _ (by omega), Lib.alloc_old _ _ _ (by omega), Lib.alloc_old _ _ _ (by omega)]; exact heap_alloc_new w _
  · rw [Lib.alloc_old _ _ _ (by omega), Lib.alloc_old _ _ _ (by omega), ← s1]; exact heap_alloc_new _ _
  · rw [Lib.alloc_old _ _ _ (by omega), ← s2]; exact heap_alloc_new _ _
  · rw [← s3]; exact heap_alloc_new _ _
theorem grown4 (w : World) (o o' o'' o3 : Obj) : Below w.heap.size w ((((w.alloc o).alloc o').alloc o'').alloc o3) := ((((Below.refl _ w).alloc (Nat.le_refl _) o).alloc (by simp) o').alloc (by simp; omega) o'').alloc (by simp; omega) o3
theorem size4 (w : World) (o o' o'' o3 : Obj) : ((((w.alloc o).alloc o').alloc o'').alloc o3).heap.size = w.heap.size + 4 := by simp

set_option maxRecDepth 100000 in
set_option maxHeartbeats 4000000 in
theorem add_typ (k : Nat) (n : Int) (b : Bool) (s : ByteArray) (k' : Nat) (n' : Int) (b' : Bool) (s' : ByteArray) (w : World) (hT : Tabs w) (hv : (V.isInt ⟨k, n, b, s⟩ && V.isInt ⟨k', n', b', s'⟩) = false) :
    Calls Tryd.prog 12 #[.agg #[.int .u8 k, .int .i64 n, .bool b, .string s], .agg #[.int .u8 k', .int .i64 n', .bool b', .string s']] w fun e w' => e = .returned (.tuple #[.agg #[.int .u8 0, .int .i64 0, .bool false, .string ⟨#[]⟩], .int .i64 90]) ∧ Below w.heap.size w w' := by
  obtain ⟨h0, h1, h2, h3⟩ := heap4 w (.cells #[.int .u8 k, .int .i64 n, .bool b, .string s] 23) (.cells #[.int .u8 k', .int .i64 n', .bool b', .string s'] 23) (.cells #[.int .u8 0, .int .i64 0, .bool false, .string ⟨#[]⟩] 23) (.cells #[.int .u8 k, .int .i64 n, .bool b, .string s, .int .u8 k', .int .i64 n', .bool b', .string s'] 23)
  have hz := size4 w (.cells #[.int .u8 k, .int .i64 n, .bool b, .string s] 23) (.cells #[.int .u8 k', .int .i64 n', .bool b', .string s'] 23) (.cells #[.int .u8 0, .int .i64 0, .bool false, .string ⟨#[]⟩] 23) (.cells #[.int .u8 k, .int .i64 n, .bool b, .string s, .int .u8 k', .int .i64 n', .bool b', .string s'] 23)
  have hB := grown4 w (.cells #[.int .u8 k, .int .i64 n, .bool b, .string s] 23) (.cells #[.int .u8 k', .int .i64 n', .bool b', .string s'] 23) (.cells #[.int .u8 0, .int .i64 0, .bool false, .string ⟨#[]⟩] 23) (.cells #[.int .u8 k, .int .i64 n, .bool b, .string s, .int .u8 k', .int .i64 n', .bool b', .string s'] 23)
  have hTW := Utf8Tabs_below hT hB
  have cN := numbers2 _ _ _ _ _ _ _ _ _ _ hTW h3
  rw [hv] at cN
  clear hv
  go_enter Tryd.func12, Tryd.ntmps12
  go_wp2_with fail
  refine cN.mono ?_
  rintro e w1 ⟨rfl, b1⟩
  rw [← b1.block w.heap.size (by omega)] at h0
  rw [← b1.block (w.heap.size + 1) (by omega)] at h1
  rw [← b1.block (w.heap.size + 2) (by omega)] at h2
  have B1 := hid (hB.trans (b1.mono (by omega)))
  have hs1 : w.heap.size + 4 ≤ w1.heap.size := by have := b1.size; omega
  clear cN h3 hz hB hTW b1
  obtain ⟨c1, c2, c3, c4⟩ := row4 h2
  obtain ⟨f1, f2, f3, f4⟩ := free4 h2
  have H2 := hid h2
  clear h0 h1 h2
  go_wp2_with fail
  exact bodyPost_ret (v := .tuple #[.agg #[.int .u8 0, .int .i64 0, .bool false, .string ⟨#[]⟩], .int .i64 90]) (results_pair rfl _ _ (w.heap.size + 2) 23 _ (0, 0) _ (.int .i64 90) rfl (row4_set H2.out _ _ _ _) (by rfl) Tryd.underlying23 rfl infoValue) rfl ⟨rfl, below4_set B1.out (by omega) _ _ _ _⟩

set_option maxRecDepth 100000 in
set_option maxHeartbeats 4000000 in
theorem sub_typ (k : Nat) (n : Int) (b : Bool) (s : ByteArray) (k' : Nat) (n' : Int) (b' : Bool) (s' : ByteArray) (w : World) (hT : Tabs w) (hv : (V.isInt ⟨k, n, b, s⟩ && V.isInt ⟨k', n', b', s'⟩) = false) :
    Calls Tryd.prog 15 #[.agg #[.int .u8 k, .int .i64 n, .bool b, .string s], .agg #[.int .u8 k', .int .i64 n', .bool b', .string s']] w fun e w' => e = .returned (.tuple #[.agg #[.int .u8 0, .int .i64 0, .bool false, .string ⟨#[]⟩], .int .i64 90]) ∧ Below w.heap.size w w' := by
  obtain ⟨h0, h1, h2, h3⟩ := heap4 w (.cells #[.int .u8 k, .int .i64 n, .bool b, .string s] 23) (.cells #[.int .u8 k', .int .i64 n', .bool b', .string s'] 23) (.cells #[.int .u8 0, .int .i64 0, .bool false, .string ⟨#[]⟩] 23) (.cells #[.int .u8 k, .int .i64 n, .bool b, .string s, .int .u8 k', .int .i64 n', .bool b', .string s'] 23)
  have hz := size4 w (.cells #[.int .u8 k, .int .i64 n, .bool b, .string s] 23) (.cells #[.int .u8 k', .int .i64 n', .bool b', .string s'] 23) (.cells #[.int .u8 0, .int .i64 0, .bool false, .string ⟨#[]⟩] 23) (.cells #[.int .u8 k, .int .i64 n, .bool b, .string s, .int .u8 k', .int .i64 n', .bool b', .string s'] 23)
  have hB := grown4 w (.cells #[.int .u8 k, .int .i64 n, .bool b, .string s] 23) (.cells #[.int .u8 k', .int .i64 n', .bool b', .string s'] 23) (.cells #[.int .u8 0, .int .i64 0, .bool false, .string ⟨#[]⟩] 23) (.cells #[.int .u8 k, .int .i64 n, .bool b, .string s, .int .u8 k', .int .i64 n', .bool b', .string s'] 23)
  have hTW := Utf8Tabs_below hT hB
  have cN := numbers2 _ _ _ _ _ _ _ _ _ _ hTW h3
  rw [hv] at cN
  clear hv
  go_enter Tryd.func15, Tryd.ntmps15
  go_wp2_with fail
  refine cN.mono ?_
  rintro e w1 ⟨rfl, b1⟩
  rw [← b1.block w.heap.size (by omega)] at h0
  rw [← b1.block (w.heap.size + 1) (by omega)] at h1
  rw [← b1.block (w.heap.size + 2) (by omega)] at h2
  have B1 := hid (hB.trans (b1.mono (by omega)))
  have hs1 : w.heap.size + 4 ≤ w1.heap.size := by have := b1.size; omega
  clear cN h3 hz hB hTW b1
  obtain ⟨c1, c2, c3, c4⟩ := row4 h2
  obtain ⟨f1, f2, f3, f4⟩ := free4 h2
  have H2 := hid h2
  clear h0 h1 h2
  go_wp2_with fail
  exact bodyPost_ret (v := .tuple #[.agg #[.int .u8 0, .int .i64 0, .bool false, .string ⟨#[]⟩], .int .i64 90]) (results_pair rfl _ _ (w.heap.size + 2) 23 _ (0, 0) _ (.int .i64 90) rfl (row4_set H2.out _ _ _ _) (by rfl) Tryd.underlying23 rfl infoValue) rfl ⟨rfl, below4_set B1.out (by omega) _ _ _ _⟩

set_option maxRecDepth 100000 in
set_option maxHeartbeats 4000000 in
theorem mul_typ (k : Nat) (n : Int) (b : Bool) (s : ByteArray) (k' : Nat) (n' : Int) (b' : Bool) (s' : ByteArray) (w : World) (hT : Tabs w) (hv : (V.isInt ⟨k, n, b, s⟩ && V.isInt ⟨k', n', b', s'⟩) = false) :
    Calls Tryd.prog 16 #[.agg #[.int .u8 k, .int .i64 n, .bool b, .string s], .agg #[.int .u8 k', .int .i64 n', .bool b', .string s']] w fun e w' => e = .returned (.tuple #[.agg #[.int .u8 0, .int .i64 0, .bool false, .string ⟨#[]⟩], .int .i64 90]) ∧ Below w.heap.size w w' := by
  obtain ⟨h0, h1, h2, h3⟩ := heap4 w (.cells #[.int .u8 k, .int .i64 n, .bool b, .string s] 23) (.cells #[.int .u8 k', .int .i64 n', .bool b', .string s'] 23) (.cells #[.int .u8 0, .int .i64 0, .bool false, .string ⟨#[]⟩] 23) (.cells #[.int .u8 k, .int .i64 n, .bool b, .string s, .int .u8 k', .int .i64 n', .bool b', .string s'] 23)
  have hz := size4 w (.cells #[.int .u8 k, .int .i64 n, .bool b, .string s] 23) (.cells #[.int .u8 k', .int .i64 n', .bool b', .string s'] 23) (.cells #[.int .u8 0, .int .i64 0, .bool false, .string ⟨#[]⟩] 23) (.cells #[.int .u8 k, .int .i64 n, .bool b, .string s, .int .u8 k', .int .i64 n', .bool b', .string s'] 23)
  have hB := grown4 w (.cells #[.int .u8 k, .int .i64 n, .bool b, .string s] 23) (.cells #[.int .u8 k', .int .i64 n', .bool b', .string s'] 23) (.cells #[.int .u8 0, .int .i64 0, .bool false, .string ⟨#[]⟩] 23) (.cells #[.int .u8 k, .int .i64 n, .bool b, .string s, .int .u8 k', .int .i64 n', .bool b', .string s'] 23)
  have hTW := Utf8Tabs_below hT hB
  have cN := numbers2 _ _ _ _ _ _ _ _ _ _ hTW h3
  rw [hv] at cN
  clear hv
  go_enter Tryd.func16, Tryd.ntmps16
  go_wp2_with fail
  refine cN.mono ?_
  rintro e w1 ⟨rfl, b1⟩
  rw [← b1.block w.heap.size (by omega)] at h0
  rw [← b1.block (w.heap.size + 1) (by omega)] at h1
  rw [← b1.block (w.heap.size + 2) (by omega)] at h2
  have B1 := hid (hB.trans (b1.mono (by omega)))
  have hs1 : w.heap.size + 4 ≤ w1.heap.size := by have := b1.size; omega
  clear cN h3 hz hB hTW b1
  obtain ⟨c1, c2, c3, c4⟩ := row4 h2
  obtain ⟨f1, f2, f3, f4⟩ := free4 h2
  have H2 := hid h2
  clear h0 h1 h2
  go_wp2_with fail
  exact bodyPost_ret (v := .tuple #[.agg #[.int .u8 0, .int .i64 0, .bool false, .string ⟨#[]⟩], .int .i64 90]) (results_pair rfl _ _ (w.heap.size + 2) 23 _ (0, 0) _ (.int .i64 90) rfl (row4_set H2.out _ _ _ _) (by rfl) Tryd.underlying23 rfl infoValue) rfl ⟨rfl, below4_set B1.out (by omega) _ _ _ _⟩

set_option maxRecDepth 100000 in
set_option maxHeartbeats 4000000 in
theorem div_typ (k : Nat) (n : Int) (b : Bool) (s : ByteArray) (k' : Nat) (n' : Int) (b' : Bool) (s' : ByteArray) (w : World) (hT : Tabs w) (hv : (V.isInt ⟨k, n, b, s⟩ && V.isInt ⟨k', n', b', s'⟩) = false) :
    Calls Tryd.prog 17 #[.agg #[.int .u8 k, .int .i64 n, .bool b, .string s], .agg #[.int .u8 k', .int .i64 n', .bool b', .string s']] w fun e w' => e = .returned (.tuple #[.agg #[.int .u8 0, .int .i64 0, .bool false, .string ⟨#[]⟩], .int .i64 90]) ∧ Below w.heap.size w w' := by
  obtain ⟨h0, h1, h2, h3⟩ := heap4 w (.cells #[.int .u8 k, .int .i64 n, .bool b, .string s] 23) (.cells #[.int .u8 k', .int .i64 n', .bool b', .string s'] 23) (.cells #[.int .u8 0, .int .i64 0, .bool false, .string ⟨#[]⟩] 23) (.cells #[.int .u8 k, .int .i64 n, .bool b, .string s, .int .u8 k', .int .i64 n', .bool b', .string s'] 23)
  have hz := size4 w (.cells #[.int .u8 k, .int .i64 n, .bool b, .string s] 23) (.cells #[.int .u8 k', .int .i64 n', .bool b', .string s'] 23) (.cells #[.int .u8 0, .int .i64 0, .bool false, .string ⟨#[]⟩] 23) (.cells #[.int .u8 k, .int .i64 n, .bool b, .string s, .int .u8 k', .int .i64 n', .bool b', .string s'] 23)
  have hB := grown4 w (.cells #[.int .u8 k, .int .i64 n, .bool b, .string s] 23) (.cells #[.int .u8 k', .int .i64 n', .bool b', .string s'] 23) (.cells #[.int .u8 0, .int .i64 0, .bool false, .string ⟨#[]⟩] 23) (.cells #[.int .u8 k, .int .i64 n, .bool b, .string s, .int .u8 k', .int .i64 n', .bool b', .string s'] 23)
  have hTW := Utf8Tabs_below hT hB
  have cN := numbers2 _ _ _ _ _ _ _ _ _ _ hTW h3
  rw [hv] at cN
  clear hv
  go_enter Tryd.func17, Tryd.ntmps17
  go_wp2_with fail
  refine cN.mono ?_
  rintro e w1 ⟨rfl, b1⟩
  rw [← b1.block w.heap.size (by omega)] at h0
  rw [← b1.block (w.heap.size + 1) (by omega)] at h1
  rw [← b1.block (w.heap.size + 2) (by omega)] at h2
  have B1 := hid (hB.trans (b1.mono (by omega)))
  have hs1 : w.heap.size + 4 ≤ w1.heap.size := by have := b1.size; omega
  clear cN h3 hz hB hTW b1
  obtain ⟨c1, c2, c3, c4⟩ := row4 h2
  obtain ⟨f1, f2, f3, f4⟩ := free4 h2
  have H2 := hid h2
  clear h0 h1 h2
  go_wp2_with fail
  exact bodyPost_ret (v := .tuple #[.agg #[.int .u8 0, .int .i64 0, .bool false, .string ⟨#[]⟩], .int .i64 90]) (results_pair rfl _ _ (w.heap.size + 2) 23 _ (0, 0) _ (.int .i64 90) rfl (row4_set H2.out _ _ _ _) (by rfl) Tryd.underlying23 rfl infoValue) rfl ⟨rfl, below4_set B1.out (by omega) _ _ _ _⟩

set_option maxRecDepth 100000 in
set_option maxHeartbeats 4000000 in
theorem mod_typ (k : Nat) (n : Int) (b : Bool) (s : ByteArray) (k' : Nat) (n' : Int) (b' : Bool) (s' : ByteArray) (w : World) (hT : Tabs w) (hv : (V.isInt ⟨k, n, b, s⟩ && V.isInt ⟨k', n', b', s'⟩) = false) :
    Calls Tryd.prog 18 #[.agg #[.int .u8 k, .int .i64 n, .bool b, .string s], .agg #[.int .u8 k', .int .i64 n', .bool b', .string s']] w fun e w' => e = .returned (.tuple #[.agg #[.int .u8 0, .int .i64 0, .bool false, .string ⟨#[]⟩], .int .i64 90]) ∧ Below w.heap.size w w' := by
  obtain ⟨h0, h1, h2, h3⟩ := heap4 w (.cells #[.int .u8 k, .int .i64 n, .bool b, .string s] 23) (.cells #[.int .u8 k', .int .i64 n', .bool b', .string s'] 23) (.cells #[.int .u8 0, .int .i64 0, .bool false, .string ⟨#[]⟩] 23) (.cells #[.int .u8 k, .int .i64 n, .bool b, .string s, .int .u8 k', .int .i64 n', .bool b', .string s'] 23)
  have hz := size4 w (.cells #[.int .u8 k, .int .i64 n, .bool b, .string s] 23) (.cells #[.int .u8 k', .int .i64 n', .bool b', .string s'] 23) (.cells #[.int .u8 0, .int .i64 0, .bool false, .string ⟨#[]⟩] 23) (.cells #[.int .u8 k, .int .i64 n, .bool b, .string s, .int .u8 k', .int .i64 n', .bool b', .string s'] 23)
  have hB := grown4 w (.cells #[.int .u8 k, .int .i64 n, .bool b, .string s] 23) (.cells #[.int .u8 k', .int .i64 n', .bool b', .string s'] 23) (.cells #[.int .u8 0, .int .i64 0, .bool false, .string ⟨#[]⟩] 23) (.cells #[.int .u8 k, .int .i64 n, .bool b, .string s, .int .u8 k', .int .i64 n', .bool b', .string s'] 23)
  have hTW := Utf8Tabs_below hT hB
  have cN := numbers2 _ _ _ _ _ _ _ _ _ _ hTW h3
  rw [hv] at cN
  clear hv
  go_enter Tryd.func18, Tryd.ntmps18
  go_wp2_with fail
  refine cN.mono ?_
  rintro e w1 ⟨rfl, b1⟩
  rw [← b1.block w.heap.size (by omega)] at h0
  rw [← b1.block (w.heap.size + 1) (by omega)] at h1
  rw [← b1.block (w.heap.size + 2) (by omega)] at h2
  have B1 := hid (hB.trans (b1.mono (by omega)))
  have hs1 : w.heap.size + 4 ≤ w1.heap.size := by have := b1.size; omega
  clear cN h3 hz hB hTW b1
  obtain ⟨c1, c2, c3, c4⟩ := row4 h2
  obtain ⟨f1, f2, f3, f4⟩ := free4 h2
  have H2 := hid h2
  clear h0 h1 h2
  go_wp2_with fail
  exact bodyPost_ret (v := .tuple #[.agg #[.int .u8 0, .int .i64 0, .bool false, .string ⟨#[]⟩], .int .i64 90]) (results_pair rfl _ _ (w.heap.size + 2) 23 _ (0, 0) _ (.int .i64 90) rfl (row4_set H2.out _ _ _ _) (by rfl) Tryd.underlying23 rfl infoValue) rfl ⟨rfl, below4_set B1.out (by omega) _ _ _ _⟩

set_option maxRecDepth 100000 in
set_option maxHeartbeats 4000000 in
theorem add_yes (n n' : Int) (w : World) (hT : Tabs w) (_ : -9223372036854775808 ≤ n ∧ n ≤ 9223372036854775807) (hn' : -9223372036854775808 ≤ n' ∧ n' ≤ 9223372036854775807) (hr : -9223372036854775808 ≤ n + n' ∧ n + n' ≤ 9223372036854775807) :
    Calls Tryd.prog 12 #[.agg #[.int .u8 1, .int .i64 n, .bool false, .string ⟨#[]⟩], .agg #[.int .u8 1, .int .i64 n', .bool false, .string ⟨#[]⟩]] w fun e w' => e = .returned (.tuple #[.agg #[.int .u8 1, .int .i64 (n + n'), .bool false, .string ⟨#[]⟩], .int .i64 0]) ∧ Below w.heap.size w w' := by
  have e0 : wrap64 (n + n') = n + n' := by unfold wrap64; omega
  have e1 : (decide (n + n' < n) == decide (n' < 0)) = true := by
    rw [beq_iff_eq, decide_eq_decide]; omega
  obtain ⟨r, hr0⟩ : ∃ r, n + n' = r := ⟨_, rfl⟩
  rw [hr0] at e1
  have e2 : wrap64 (n + n') = r := by rw [e0, hr0]
  rw [hr0]
  clear e0 hr hn' hr0
  obtain ⟨h0, h1, h2, h3⟩ := heap4 w (.cells #[.int .u8 1, .int .i64 n, .bool false, .string ⟨#[]⟩] 23) (.cells #[.int .u8 1, .int .i64 n', .bool false, .string ⟨#[]⟩] 23) (.cells #[.int .u8 0, .int .i64 0, .bool false, .string ⟨#[]⟩] 23) (.cells #[.int .u8 1, .int .i64 n, .bool false, .string ⟨#[]⟩, .int .u8 1, .int .i64 n', .bool false, .string ⟨#[]⟩] 23)
  have hz := size4 w (.cells #[.int .u8 1, .int .i64 n, .bool false, .string ⟨#[]⟩] 23) (.cells #[.int .u8 1, .int .i64 n', .bool false, .string ⟨#[]⟩] 23) (.cells #[.int .u8 0, .int .i64 0, .bool false, .string ⟨#[]⟩] 23) (.cells #[.int .u8 1, .int .i64 n, .bool false, .string ⟨#[]⟩, .int .u8 1, .int .i64 n', .bool false, .string ⟨#[]⟩] 23)
  have hB := grown4 w (.cells #[.int .u8 1, .int .i64 n, .bool false, .string ⟨#[]⟩] 23) (.cells #[.int .u8 1, .int .i64 n', .bool false, .string ⟨#[]⟩] 23) (.cells #[.int .u8 0, .int .i64 0, .bool false, .string ⟨#[]⟩] 23) (.cells #[.int .u8 1, .int .i64 n, .bool false, .string ⟨#[]⟩, .int .u8 1, .int .i64 n', .bool false, .string ⟨#[]⟩] 23)
  have hTW := Utf8Tabs_below hT hB
  have cN := numbers2 _ _ _ _ _ _ _ _ _ _ hTW h3
  have cN := cN.mono (fun e w' h => by rw [show (V.isInt ⟨1, _, false, ⟨#[]⟩⟩ && V.isInt ⟨1, _, false, ⟨#[]⟩⟩) = true from rfl] at h; exact h)
  go_enter Tryd.func12, Tryd.ntmps12
  go_wp2_with fail
  refine cN.mono ?_
  rintro e w1 ⟨rfl, b1⟩
  rw [← b1.block w.heap.size (by omega)] at h0
  rw [← b1.block (w.heap.size + 1) (by omega)] at h1
  rw [← b1.block (w.heap.size + 2) (by omega)] at h2
  have B1 := hid (hB.trans (b1.mono (by omega)))
  have hs1 : w.heap.size + 4 ≤ w1.heap.size := by have := b1.size; omega
  clear cN h3 hz hB hTW b1
  obtain ⟨a1, a2, a3, a4⟩ := row4 h0
  obtain ⟨b1, b2, b3, b4⟩ := row4 h1
  have H2 := hid h2
  clear h0 h1 h2
  go_wp2_with fail
  refine (answer_yes r _).mono ?_
  rintro e w2 ⟨rfl, d2⟩
  have h2 := (d2.block (w.heap.size + 2) (by show _ < w1.heap.size; omega)).trans H2.out
  have B2 := hid (B1.out.trans (d2.mono (by show _ ≤ w1.heap.size; omega)))
  obtain ⟨c1, c2, c3, c4⟩ := row4 h2
  obtain ⟨f1, f2, f3, f4⟩ := free4 h2
  clear H2
  have H2 := hid h2
  clear h2 d2 a1 a2 a3 a4 b1 b2 b3 b4
  go_wp2_with fail
  exact bodyPost_ret (v := .tuple #[.agg #[.int .u8 1, .int .i64 r, .bool false, .string ⟨#[]⟩], .int .i64 0]) (results_pair rfl _ _ (w.heap.size + 2) 23 _ (0, 0) _ (.int .i64 0) rfl (row4_set H2.out _ _ _ _) (by rfl) Tryd.underlying23 rfl infoValue) rfl ⟨rfl, below4_set B2.out (by omega) _ _ _ _⟩

set_option maxRecDepth 100000 in
set_option maxHeartbeats 4000000 in
theorem add_no (n n' : Int) (w : World) (hT : Tabs w) (hn : -9223372036854775808 ≤ n ∧ n ≤ 9223372036854775807) (hn' : -9223372036854775808 ≤ n' ∧ n' ≤ 9223372036854775807) (hr : ¬ (-9223372036854775808 ≤ n + n' ∧ n + n' ≤ 9223372036854775807)) :
    Calls Tryd.prog 12 #[.agg #[.int .u8 1, .int .i64 n, .bool false, .string ⟨#[]⟩], .agg #[.int .u8 1, .int .i64 n', .bool false, .string ⟨#[]⟩]] w fun e w' => e = .returned (.tuple #[.agg #[.int .u8 0, .int .i64 0, .bool false, .string ⟨#[]⟩], .int .i64 91]) ∧ Below w.heap.size w w' := by
  obtain ⟨r, hr0⟩ : ∃ r, wrap64 (n + n') = r := ⟨_, rfl⟩
  have e1 : (decide (r < n) == decide (n' < 0)) = false := by
    rw [beq_eq_false_iff_ne]
    intro h
    rw [decide_eq_decide] at h
    unfold wrap64 at hr0; omega
  clear hr hn hn'
  obtain ⟨h0, h1, h2, h3⟩ := heap4 w (.cells #[.int .u8 1, .int .i64 n, .bool false, .string ⟨#[]⟩] 23) (.cells #[.int .u8 1, .int .i64 n', .bool false, .string ⟨#[]⟩] 23) (.cells #[.int .u8 0, .int .i64 0, .bool false, .string ⟨#[]⟩] 23) (.cells #[.int .u8 1, .int .i64 n, .bool false, .string ⟨#[]⟩, .int .u8 1, .int .i64 n', .bool false, .string ⟨#[]⟩] 23)
  have hz := size4 w (.cells #[.int .u8 1, .int .i64 n, .bool false, .string ⟨#[]⟩] 23) (.cells #[.int .u8 1, .int .i64 n', .bool false, .string ⟨#[]⟩] 23) (.cells #[.int .u8 0, .int .i64 0, .bool false, .string ⟨#[]⟩] 23) (.cells #[.int .u8 1, .int .i64 n, .bool false, .string ⟨#[]⟩, .int .u8 1, .int .i64 n', .bool false, .string ⟨#[]⟩] 23)
  have hB := grown4 w (.cells #[.int .u8 1, .int .i64 n, .bool false, .string ⟨#[]⟩] 23) (.cells #[.int .u8 1, .int .i64 n', .bool false, .string ⟨#[]⟩] 23) (.cells #[.int .u8 0, .int .i64 0, .bool false, .string ⟨#[]⟩] 23) (.cells #[.int .u8 1, .int .i64 n, .bool false, .string ⟨#[]⟩, .int .u8 1, .int .i64 n', .bool false, .string ⟨#[]⟩] 23)
  have hTW := Utf8Tabs_below hT hB
  have cN := numbers2 _ _ _ _ _ _ _ _ _ _ hTW h3
  have cN := cN.mono (fun e w' h => by rw [show (V.isInt ⟨1, _, false, ⟨#[]⟩⟩ && V.isInt ⟨1, _, false, ⟨#[]⟩⟩) = true from rfl] at h; exact h)
  go_enter Tryd.func12, Tryd.ntmps12
  go_wp2_with fail
  refine cN.mono ?_
  rintro e w1 ⟨rfl, b1⟩
  rw [← b1.block w.heap.size (by omega)] at h0
  rw [← b1.block (w.heap.size + 1) (by omega)] at h1
  rw [← b1.block (w.heap.size + 2) (by omega)] at h2
  have B1 := hid (hB.trans (b1.mono (by omega)))
  have hs1 : w.heap.size + 4 ≤ w1.heap.size := by have := b1.size; omega
  clear cN h3 hz hB hTW b1
  obtain ⟨a1, a2, a3, a4⟩ := row4 h0
  obtain ⟨b1, b2, b3, b4⟩ := row4 h1
  have H2 := hid h2
  clear h0 h1 h2
  go_wp2_with fail
  refine (answer_no r _).mono ?_
  rintro e w2 ⟨rfl, d2⟩
  have h2 := (d2.block (w.heap.size + 2) (by show _ < w1.heap.size; omega)).trans H2.out
  have B2 := hid (B1.out.trans (d2.mono (by show _ ≤ w1.heap.size; omega)))
  obtain ⟨c1, c2, c3, c4⟩ := row4 h2
  obtain ⟨f1, f2, f3, f4⟩ := free4 h2
  clear H2
  have H2 := hid h2
  clear h2 d2 a1 a2 a3 a4 b1 b2 b3 b4
  go_wp2_with fail
  exact bodyPost_ret (v := .tuple #[.agg #[.int .u8 0, .int .i64 0, .bool false, .string ⟨#[]⟩], .int .i64 91]) (results_pair rfl _ _ (w.heap.size + 2) 23 _ (0, 0) _ (.int .i64 91) rfl (row4_set H2.out _ _ _ _) (by rfl) Tryd.underlying23 rfl infoValue) rfl ⟨rfl, below4_set B2.out (by omega) _ _ _ _⟩

set_option maxRecDepth 100000 in
set_option maxHeartbeats 4000000 in
theorem sub_yes (n n' : Int) (w : World) (hT : Tabs w) (_ : -9223372036854775808 ≤ n ∧ n ≤ 9223372036854775807) (hn' : -9223372036854775808 ≤ n' ∧ n' ≤ 9223372036854775807) (hr : -9223372036854775808 ≤ n - n' ∧ n - n' ≤ 9223372036854775807) :
    Calls Tryd.prog 15 #[.agg #[.int .u8 1, .int .i64 n, .bool false, .string ⟨#[]⟩], .agg #[.int .u8 1, .int .i64 n', .bool false, .string ⟨#[]⟩]] w fun e w' => e = .returned (.tuple #[.agg #[.int .u8 1, .int .i64 (n - n'), .bool false, .string ⟨#[]⟩], .int .i64 0]) ∧ Below w.heap.size w w' := by
  have e0 : wrap64 (n - n') = n - n' := by unfold wrap64; omega
  have e1 : (decide (n < n - n') == decide (n' < 0)) = true := by
    rw [beq_iff_eq, decide_eq_decide]; omega
  obtain ⟨r, hr0⟩ : ∃ r, n - n' = r := ⟨_, rfl⟩
  rw [hr0] at e1
  have e2 : wrap64 (n - n') = r := by rw [e0, hr0]
  rw [hr0]
  clear e0 hr hn' hr0
  obtain ⟨h0, h1, h2, h3⟩ := heap4 w (.cells #[.int .u8 1, .int .i64 n, .bool false, .string ⟨#[]⟩] 23) (.cells #[.int .u8 1, .int .i64 n', .bool false, .string ⟨#[]⟩] 23) (.cells #[.int .u8 0, .int .i64 0, .bool false, .string ⟨#[]⟩] 23) (.cells #[.int .u8 1, .int .i64 n, .bool false, .string ⟨#[]⟩, .int .u8 1, .int .i64 n', .bool false, .string ⟨#[]⟩] 23)
  have hz := size4 w (.cells #[.int .u8 1, .int .i64 n, .bool false, .string ⟨#[]⟩] 23) (.cells #[.int .u8 1, .int .i64 n', .bool false, .string ⟨#[]⟩] 23) (.cells #[.int .u8 0, .int .i64 0, .bool false, .string ⟨#[]⟩] 23) (.cells #[.int .u8 1, .int .i64 n, .bool false, .string ⟨#[]⟩, .int .u8 1, .int .i64 n', .bool false, .string ⟨#[]⟩] 23)
  have hB := grown4 w (.cells #[.int .u8 1, .int .i64 n, .bool false, .string ⟨#[]⟩] 23) (.cells #[.int .u8 1, .int .i64 n', .bool false, .string ⟨#[]⟩] 23) (.cells #[.int .u8 0, .int .i64 0, .bool false, .string ⟨#[]⟩] 23) (.cells #[.int .u8 1, .int .i64 n, .bool false, .string ⟨#[]⟩, .int .u8 1, .int .i64 n', .bool false, .string ⟨#[]⟩] 23)
  have hTW := Utf8Tabs_below hT hB
  have cN := numbers2 _ _ _ _ _ _ _ _ _ _ hTW h3
  have cN := cN.mono (fun e w' h => by rw [show (V.isInt ⟨1, _, false, ⟨#[]⟩⟩ && V.isInt ⟨1, _, false, ⟨#[]⟩⟩) = true from rfl] at h; exact h)
  go_enter Tryd.func15, Tryd.ntmps15
  go_wp2_with fail
  refine cN.mono ?_
  rintro e w1 ⟨rfl, b1⟩
  rw [← b1.block w.heap.size (by omega)] at h0
  rw [← b1.block (w.heap.size + 1) (by omega)] at h1
  rw [← b1.block (w.heap.size + 2) (by omega)] at h2
  have B1 := hid (hB.trans (b1.mono (by omega)))
  have hs1 : w.heap.size + 4 ≤ w1.heap.size := by have := b1.size; omega
  clear cN h3 hz hB hTW b1
  obtain ⟨a1, a2, a3, a4⟩ := row4 h0
  obtain ⟨b1, b2, b3, b4⟩ := row4 h1
  have H2 := hid h2
  clear h0 h1 h2
  go_wp2_with fail
  refine (answer_yes r _).mono ?_
  rintro e w2 ⟨rfl, d2⟩
  have h2 := (d2.block (w.heap.size + 2) (by show _ < w1.heap.size; omega)).trans H2.out
  have B2 := hid (B1.out.trans (d2.mono (by show _ ≤ w1.heap.size; omega)))
  obtain ⟨c1, c2, c3, c4⟩ := row4 h2
  obtain ⟨f1, f2, f3, f4⟩ := free4 h2
  clear H2
  have H2 := hid h2
  clear h2 d2 a1 a2 a3 a4 b1 b2 b3 b4
  go_wp2_with fail
  exact bodyPost_ret (v := .tuple #[.agg #[.int .u8 1, .int .i64 r, .bool false, .string ⟨#[]⟩], .int .i64 0]) (results_pair rfl _ _ (w.heap.size + 2) 23 _ (0, 0) _ (.int .i64 0) rfl (row4_set H2.out _ _ _ _) (by rfl) Tryd.underlying23 rfl infoValue) rfl ⟨rfl, below4_set B2.out (by omega) _ _ _ _⟩

set_option maxRecDepth 100000 in
set_option maxHeartbeats 4000000 in
theorem sub_no (n n' : Int) (w : World) (hT : Tabs w) (hn : -9223372036854775808 ≤ n ∧ n ≤ 9223372036854775807) (hn' : -9223372036854775808 ≤ n' ∧ n' ≤ 9223372036854775807) (hr : ¬ (-9223372036854775808 ≤ n - n' ∧ n - n' ≤ 9223372036854775807)) :
    Calls Tryd.prog 15 #[.agg #[.int .u8 1, .int .i64 n, .bool false, .string ⟨#[]⟩], .agg #[.int .u8 1, .int .i64 n', .bool false, .string ⟨#[]⟩]] w fun e w' => e = .returned (.tuple #[.agg #[.int .u8 0, .int .i64 0, .bool false, .string ⟨#[]⟩], .int .i64 91]) ∧ Below w.heap.size w w' := by
  obtain ⟨r, hr0⟩ : ∃ r, wrap64 (n - n') = r := ⟨_, rfl⟩
  have e1 : (decide (n < r) == decide (n' < 0)) = false := by
    rw [beq_eq_false_iff_ne]
    intro h
    rw [decide_eq_decide] at h
    unfold wrap64 at hr0; omega
  clear hr hn hn'
  obtain ⟨h0, h1, h2, h3⟩ := heap4 w (.cells #[.int .u8 1, .int .i64 n, .bool false, .string ⟨#[]⟩] 23) (.cells #[.int .u8 1, .int .i64 n', .bool false, .string ⟨#[]⟩] 23) (.cells #[.int .u8 0, .int .i64 0, .bool false, .string ⟨#[]⟩] 23) (.cells #[.int .u8 1, .int .i64 n, .bool false, .string ⟨#[]⟩, .int .u8 1, .int .i64 n', .bool false, .string ⟨#[]⟩] 23)
  have hz := size4 w (.cells #[.int .u8 1, .int .i64 n, .bool false, .string ⟨#[]⟩] 23) (.cells #[.int .u8 1, .int .i64 n', .bool false, .string ⟨#[]⟩] 23) (.cells #[.int .u8 0, .int .i64 0, .bool false, .string ⟨#[]⟩] 23) (.cells #[.int .u8 1, .int .i64 n, .bool false, .string ⟨#[]⟩, .int .u8 1, .int .i64 n', .bool false, .string ⟨#[]⟩] 23)
  have hB := grown4 w (.cells #[.int .u8 1, .int .i64 n, .bool false, .string ⟨#[]⟩] 23) (.cells #[.int .u8 1, .int .i64 n', .bool false, .string ⟨#[]⟩] 23) (.cells #[.int .u8 0, .int .i64 0, .bool false, .string ⟨#[]⟩] 23) (.cells #[.int .u8 1, .int .i64 n, .bool false, .string ⟨#[]⟩, .int .u8 1, .int .i64 n', .bool false, .string ⟨#[]⟩] 23)
  have hTW := Utf8Tabs_below hT hB
  have cN := numbers2 _ _ _ _ _ _ _ _ _ _ hTW h3
  have cN := cN.mono (fun e w' h => by rw [show (V.isInt ⟨1, _, false, ⟨#[]⟩⟩ && V.isInt ⟨1, _, false, ⟨#[]⟩⟩) = true from rfl] at h; exact h)
  go_enter Tryd.func15, Tryd.ntmps15
  go_wp2_with fail
  refine cN.mono ?_
  rintro e w1 ⟨rfl, b1⟩
  rw [← b1.block w.heap.size (by omega)] at h0
  rw [← b1.block (w.heap.size + 1) (by omega)] at h1
  rw [← b1.block (w.heap.size + 2) (by omega)] at h2
  have B1 := hid (hB.trans (b1.mono (by omega)))
  have hs1 : w.heap.size + 4 ≤ w1.heap.size := by have := b1.size; omega
  clear cN h3 hz hB hTW b1
  obtain ⟨a1, a2, a3, a4⟩ := row4 h0
  obtain ⟨b1, b2, b3, b4⟩ := row4 h1
  have H2 := hid h2
  clear h0 h1 h2
  go_wp2_with fail
  refine (answer_no r _).mono ?_
  rintro e w2 ⟨rfl, d2⟩
  have h2 := (d2.block (w.heap.size + 2) (by show _ < w1.heap.size; omega)).trans H2.out
  have B2 := hid (B1.out.trans (d2.mono (by show _ ≤ w1.heap.size; omega)))
  obtain ⟨c1, c2, c3, c4⟩ := row4 h2
  obtain ⟨f1, f2, f3, f4⟩ := free4 h2
  clear H2
  have H2 := hid h2
  clear h2 d2 a1 a2 a3 a4 b1 b2 b3 b4
  go_wp2_with fail
  exact bodyPost_ret (v := .tuple #[.agg #[.int .u8 0, .int .i64 0, .bool false, .string ⟨#[]⟩], .int .i64 91]) (results_pair rfl _ _ (w.heap.size + 2) 23 _ (0, 0) _ (.int .i64 91) rfl (row4_set H2.out _ _ _ _) (by rfl) Tryd.underlying23 rfl infoValue) rfl ⟨rfl, below4_set B2.out (by omega) _ _ _ _⟩
end Go.Proofs.YtohdifffdgoaaaaDoor
