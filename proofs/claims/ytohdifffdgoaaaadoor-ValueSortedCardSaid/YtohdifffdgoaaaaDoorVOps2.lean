/- The walks of the reckonings: Div, Mod. -/
import Derived.Test.YtohdifffdgoaaaaDoorVOps
namespace Go.Proofs.YtohdifffdgoaaaaDoor
open Go.RowKit
open Go.Lib (hid)

set_option maxRecDepth 100000 in
set_option maxHeartbeats 4000000 in
theorem div_zero (n n' : Int) (w : World) (hT : Tabs w) (h0 : n' = 0) :
    Calls Tryd.prog 17 #[.agg #[.int .u8 1, .int .i64 n, .bool false, .string ⟨#[]⟩], .agg #[.int .u8 1, .int .i64 n', .bool false, .string ⟨#[]⟩]] w fun e w' => e = .returned (.tuple #[.agg #[.int .u8 0, .int .i64 0, .bool false, .string ⟨#[]⟩], .int .i64 91]) ∧ Below w.heap.size w w' := by
  have z0 : (n' == 0) = true := beq_iff_eq.2 h0
  clear h0
  obtain ⟨h0, h1, h2, h3⟩ := heap4 w (.cells #[.int .u8 1, .int .i64 n, .bool false, .string ⟨#[]⟩] 23) (.cells #[.int .u8 1, .int .i64 n', .bool false, .string ⟨#[]⟩] 23) (.cells #[.int .u8 0, .int .i64 0, .bool false, .string ⟨#[]⟩] 23) (.cells #[.int .u8 1, .int .i64 n, .bool false, .string ⟨#[]⟩, .int .u8 1, .int .i64 n', .bool false, .string ⟨#[]⟩] 23)
  have hz := size4 w (.cells #[.int .u8 1, .int .i64 n, .bool false, .string ⟨#[]⟩] 23) (.cells #[.int .u8 1, .int .i64 n', .bool false, .string ⟨#[]⟩] 23) (.cells #[.int .u8 0, .int .i64 0, .bool false, .string ⟨#[]⟩] 23) (.cells #[.int .u8 1, .int .i64 n, .bool false, .string ⟨#[]⟩, .int .u8 1, .int .i64 n', .bool false, .string ⟨#[]⟩] 23)
  have hB := grown4 w (.cells #[.int .u8 1, .int .i64 n, .bool false, .string ⟨#[]⟩] 23) (.cells #[.int .u8 1, .int .i64 n', .bool false, .string ⟨#[]⟩] 23) (.cells #[.int .u8 0, .int .i64 0, .bool false, .string ⟨#[]⟩] 23) (.cells #[.int .u8 1, .int .i64 n, .bool false, .string ⟨#[]⟩, .int .u8 1, .int .i64 n', .bool false, .string ⟨#[]⟩] 23)
  have hTW := Utf8Tabs_below hT hB
  have cN := numbers2 _ _ _ _ _ _ _ _ _ _ hTW h3
  have cN := cN.mono (fun e w' h => by rw [show (V.isInt ⟨1, _, false, ⟨#[]⟩⟩ && V.isInt ⟨1, _, false, ⟨#[]⟩⟩) = true from rfl] at h; exact h)
  go_enter Tryd.func17, Tryd.ntmps17
  go_wp2_with fail
  refine cN.mono ?_
  rintro e w1 ⟨rfl, b1⟩
  rw [← b1.block w.heap.size (by omega)] at h0
  rw [← b1.block (w.heap.size + 1) (by omega)] at h1
  rw [← b1.block (w.heap.size + 2) (by omega)] at h2
  have B1 := hid (hB.trans (b1.mono (by omega)))
  have hs1 : w.heap.size + 4 ≤ w1.heap.size := by have := b1.size; omega
  clear cN h3 hz hB hTW b1
  obtain ⟨a1, a2, a3, a4⟩ := row4 h0
  obtain ⟨b1, b2, b3, b4⟩ := row4 h1
  have H2 := hid h2
  clear h0 h1 h2
  go_wp2_with fail
  refine (answer_no 0 _).mono ?_
  rintro e w2 ⟨rfl, d2⟩
  have h2 := (d2.block (w.heap.size + 2) (by show _ < w1.heap.size; omega)).trans H2.out
  have B2 := hid (B1.out.trans (d2.mono (by show _ ≤ w1.heap.size; omega)))
  obtain ⟨c1, c2, c3, c4⟩ := row4 h2
  obtain ⟨f1, f2, f3, f4⟩ := free4 h2
  clear H2
  have H2 := hid h2
  clear h2 d2 a1 a2 a3 a4 b1 b2 b3 b4
  go_wp2_with fail
  exact bodyPost_ret (v := .tuple #[.agg #[.int .u8 0, .int .i64 0, .bool false, .string ⟨#[]⟩], .int .i64 91]) (results_pair rfl _ _ (w.heap.size + 2) 23 _ (0, 0) _ (.int .i64 91) rfl (row4_set H2.out _ _ _ _) (by rfl) Tryd.underlying23 rfl infoValue) rfl ⟨rfl, below4_set B2.out (by omega) _ _ _ _⟩

set_option maxRecDepth 100000 in
set_option maxHeartbeats 4000000 in
theorem div_over (n n' : Int) (w : World) (hT : Tabs w) (h0 : n = -9223372036854775808) (h1 : n' = -1) :
    Calls Tryd.prog 17 #[.agg #[.int .u8 1, .int .i64 n, .bool false, .string ⟨#[]⟩], .agg #[.int .u8 1, .int .i64 n', .bool false, .string ⟨#[]⟩]] w fun e w' => e = .returned (.tuple #[.agg #[.int .u8 0, .int .i64 0, .bool false, .string ⟨#[]⟩], .int .i64 91]) ∧ Below w.heap.size w w' := by
  have z0 : (n' == 0) = false := beq_eq_false_iff_ne.2 (by omega)
  have y0 : (n == -9223372036854775808) = true := beq_iff_eq.2 h0
  have y1 : (n' == -1) = true := beq_iff_eq.2 h1
  clear h0 h1
  obtain ⟨h0, h1, h2, h3⟩ := heap4 w (.cells #[.int .u8 1, .int .i64 n, .bool false, .string ⟨#[]⟩] 23) (.cells #[.int .u8 1, .int .i64 n', .bool false, .string ⟨#[]⟩] 23) (.cells #[.int .u8 0, .int .i64 0, .bool false, .string ⟨#[]⟩] 23) (.cells #[.int .u8 1, .int .i64 n, .bool false, .string ⟨#[]⟩, .int .u8 1, .int .i64 n', .bool false, .string ⟨#[]⟩] 23)
  have hz := size4 w (.cells #[.int .u8 1, .int .i64 n, .bool false, .string ⟨#[]⟩] 23) (.cells #[.int .u8 1, .int .i64 n', .bool false, .string ⟨#[]⟩] 23) (.cells #[.int .u8 0, .int .i64 0, .bool false, .string ⟨#[]⟩] 23) (.cells #[.int .u8 1, .int .i64 n, .bool false, .string ⟨#[]⟩, .int .u8 1, .int .i64 n', .bool false, .string ⟨#[]⟩] 23)
  have hB := grown4 w (.cells #[.int .u8 1, .int .i64 n, .bool false, .string ⟨#[]⟩] 23) (.cells #[.int .u8 1, .int .i64 n', .bool false, .string ⟨#[]⟩] 23) (.cells #[.int .u8 0, .int .i64 0, .bool false, .string ⟨#[]⟩] 23) (.cells #[.int .u8 1, .int .i64 n, .bool false, .string ⟨#[]⟩, .int .u8 1, .int .i64 n', .bool false, .string ⟨#[]⟩] 23)
  have hTW := Utf8Tabs_below hT hB
  have cN := numbers2 _ _ _ _ _ _ _ _ _ _ hTW h3
  have cN := cN.mono (fun e w' h => by rw [show (V.isInt ⟨1, _, false, ⟨#[]⟩⟩ && V.isInt ⟨1, _, false, ⟨#[]⟩⟩) = true from rfl] at h; exact h)
  go_enter Tryd.func17, Tryd.ntmps17
  go_wp2_with fail
  refine cN.mono ?_
  rintro e w1 ⟨rfl, b1⟩
  rw [← b1.block w.heap.size (by omega)] at h0
  rw [← b1.block (w.heap.size + 1) (by omega)] at h1
  rw [← b1.block (w.heap.size + 2) (by omega)] at h2
  have B1 := hid (hB.trans (b1.mono (by omega)))
  have hs1 : w.heap.size + 4 ≤ w1.heap.size := by have := b1.size; omega
  clear cN h3 hz hB hTW b1
  obtain ⟨a1, a2, a3, a4⟩ := row4 h0
  obtain ⟨b1, b2, b3, b4⟩ := row4 h1
  have H2 := hid h2
  clear h0 h1 h2
  go_wp2_with fail
  refine (answer_no 0 _).mono ?_
  rintro e w2 ⟨rfl, d2⟩
  have h2 := (d2.block (w.heap.size + 2) (by show _ < w1.heap.size; omega)).trans H2.out
  have B2 := hid (B1.out.trans (d2.mono (by show _ ≤ w1.heap.size; omega)))
  obtain ⟨c1, c2, c3, c4⟩ := row4 h2
  obtain ⟨f1, f2, f3, f4⟩ := free4 h2
  clear H2
  have H2 := hid h2
  clear h2 d2 a1 a2 a3 a4 b1 b2 b3 b4
  go_wp2_with fail
  exact bodyPost_ret (v := .tuple #[.agg #[.int .u8 0, .int .i64 0, .bool false, .string ⟨#[]⟩], .int .i64 91]) (results_pair rfl _ _ (w.heap.size + 2) 23 _ (0, 0) _ (.int .i64 91) rfl (row4_set H2.out _ _ _ _) (by rfl) Tryd.underlying23 rfl infoValue) rfl ⟨rfl, below4_set B2.out (by omega) _ _ _ _⟩

set_option maxRecDepth 100000 in
set_option maxHeartbeats 4000000 in
theorem div_yes (n n' : Int) (w : World) (hT : Tabs w) (h0 : n' ≠ 0) (h1 : n ≠ -9223372036854775808) (hr : wrap64 (n.tdiv n') = n.tdiv n') :
    Calls Tryd.prog 17 #[.agg #[.int .u8 1, .int .i64 n, .bool false, .string ⟨#[]⟩], .agg #[.int .u8 1, .int .i64 n', .bool false, .string ⟨#[]⟩]] w fun e w' => e = .returned (.tuple #[.agg #[.int .u8 1, .int .i64 (n.tdiv n'), .bool false, .string ⟨#[]⟩], .int .i64 0]) ∧ Below w.heap.size w w' := by
  have z0 : (n' == 0) = false := beq_eq_false_iff_ne.2 h0
  have z1 : (n' != 0) = true := by rw [bne_iff_ne]; exact h0
  have y0 : (n == -9223372036854775808) = false := beq_eq_false_iff_ne.2 h1
  obtain ⟨r, hr0⟩ : ∃ r, n.tdiv n' = r := ⟨_, rfl⟩
  have e2 : wrap64 r = r := by rw [← hr0, hr]
  rw [hr0]
  clear h1 hr
  obtain ⟨h0, h1, h2, h3⟩ := heap4 w (.cells #[.int .u8 1, .int .i64 n, .bool false, .string ⟨#[]⟩] 23) (.cells #[.int .u8 1, .int .i64 n', .bool false, .string ⟨#[]⟩] 23) (.cells #[.int .u8 0, .int .i64 0, .bool false, .string ⟨#[]⟩] 23) (.cells #[.int .u8 1, .int .i64 n, .bool false, .string ⟨#[]⟩, .int .u8 1, .int .i64 n', .bool false, .string ⟨#[]⟩] 23)
  have hz := size4 w (.cells #[.int .u8 1, .int .i64 n, .bool false, .string ⟨#[]⟩] 23) (.cells #[.int .u8 1, .int .i64 n', .bool false, .string ⟨#[]⟩] 23) (.cells #[.int .u8 0, .int .i64 0, .bool false, .string ⟨#[]⟩] 23) (.cells #[.int .u8 1, .int .i64 n, .bool false, .string ⟨#[]⟩, .int .u8 1, .int .i64 n', .bool false, .string ⟨#[]⟩] 23)
  have hB := grown4 w (.cells #[.int .u8 1, .int .i64 n, .bool false, .string ⟨#[]⟩] 23) (.cells #[.int .u8 1, .int .i64 n', .bool false, .string ⟨#[]⟩] 23) (.cells #[.int .u8 0, .int .i64 0, .bool false, .string ⟨#[]⟩] 23) (.cells #[.int .u8 1, .int .i64 n, .bool false, .string ⟨#[]⟩, .int .u8 1, .int .i64 n', .bool false, .string ⟨#[]⟩] 23)
  have hTW := Utf8Tabs_below hT hB
  have cN := numbers2 _ _ _ _ _ _ _ _ _ _ hTW h3
  have cN := cN.mono (fun e w' h => by rw [show (V.isInt ⟨1, _, false, ⟨#[]⟩⟩ && V.isInt ⟨1, _, false, ⟨#[]⟩⟩) = true from rfl] at h; exact h)
  go_enter Tryd.func17, Tryd.ntmps17
  go_wp2_with fail
  refine cN.mono ?_
  rintro e w1 ⟨rfl, b1⟩
  rw [← b1.block w.heap.size (by omega)] at h0
  rw [← b1.block (w.heap.size + 1) (by omega)] at h1
  rw [← b1.block (w.heap.size + 2) (by omega)] at h2
  have B1 := hid (hB.trans (b1.mono (by omega)))
  have hs1 : w.heap.size + 4 ≤ w1.heap.size := by have := b1.size; omega
  clear cN h3 hz hB hTW b1
  obtain ⟨a1, a2, a3, a4⟩ := row4 h0
  obtain ⟨b1, b2, b3, b4⟩ := row4 h1
  have H2 := hid h2
  clear h0 h1 h2
  go_wp2_with fail
  refine (answer_yes r _).mono ?_
  rintro e w2 ⟨rfl, d2⟩
  have h2 := (d2.block (w.heap.size + 2) (by show _ < w1.heap.size; omega)).trans H2.out
  have B2 := hid (B1.out.trans (d2.mono (by show _ ≤ w1.heap.size; omega)))
  obtain ⟨c1, c2, c3, c4⟩ := row4 h2
  obtain ⟨f1, f2, f3, f4⟩ := free4 h2
  clear H2
  have H2 := hid h2
  clear h2 d2 a1 a2 a3 a4 b1 b2 b3 b4
  go_wp2_with fail
  exact bodyPost_ret (v := .tuple #[.agg #[.int .u8 1, .int .i64 r, .bool false, .string ⟨#[]⟩], .int .i64 0]) (results_pair rfl _ _ (w.heap.size + 2) 23 _ (0, 0) _ (.int .i64 0) rfl (row4_set H2.out _ _ _ _) (by rfl) Tryd.underlying23 rfl infoValue) rfl ⟨rfl, below4_set B2.out (by omega) _ _ _ _⟩

set_option maxRecDepth 100000 in
set_option maxHeartbeats 4000000 in
theorem div_min (n n' : Int) (w : World) (hT : Tabs w) (h0 : n' ≠ 0) (h1 : n = -9223372036854775808) (h2 : n' ≠ -1) (hr : wrap64 (n.tdiv n') = n.tdiv n') :
    Calls Tryd.prog 17 #[.agg #[.int .u8 1, .int .i64 n, .bool false, .string ⟨#[]⟩], .agg #[.int .u8 1, .int .i64 n', .bool false, .string ⟨#[]⟩]] w fun e w' => e = .returned (.tuple #[.agg #[.int .u8 1, .int .i64 (n.tdiv n'), .bool false, .string ⟨#[]⟩], .int .i64 0]) ∧ Below w.heap.size w w' := by
  have z0 : (n' == 0) = false := beq_eq_false_iff_ne.2 h0
  have z1 : (n' != 0) = true := by rw [bne_iff_ne]; exact h0
  have y0 : (n == -9223372036854775808) = true := beq_iff_eq.2 h1
  have y1 : (n' == -1) = false := beq_eq_false_iff_ne.2 h2
  clear h2
  obtain ⟨r, hr0⟩ : ∃ r, n.tdiv n' = r := ⟨_, rfl⟩
  have e2 : wrap64 r = r := by rw [← hr0, hr]
  rw [hr0]
  clear h1 hr
  obtain ⟨h0, h1, h2, h3⟩ := heap4 w (.cells #[.int .u8 1, .int .i64 n, .bool false, .string ⟨#[]⟩] 23) (.cells #[.int .u8 1, .int .i64 n', .bool false, .string ⟨#[]⟩] 23) (.cells #[.int .u8 0, .int .i64 0, .bool false, .string ⟨#[]⟩] 23) (.cells #[.int .u8 1, .int .i64 n, .bool false, .string ⟨#[]⟩, .int .u8 1, .int .i64 n', .bool false, .string ⟨#[]⟩] 23)
  have hz := size4 w (.cells #[.int .u8 1, .int .i64 n, .bool false, .string ⟨#[]⟩] 23) (.cells #[.int .u8 1, .int .i64 n', .bool false, .string ⟨#[]⟩] 23) (.cells #[.int .u8 0, .int .i64 0, .bool false, .string ⟨#[]⟩] 23) (.cells #[.int .u8 1, .int .i64 n, .bool false, .string ⟨#[]⟩, .int .u8 1, .int .i64 n', .bool false, .string ⟨#[]⟩] 23)
  have hB := grown4 w (.cells #[.int .u8 1, .int .i64 n, .bool false, .string ⟨#[]⟩] 23) (.cells #[.int .u8 1, .int .i64 n', .bool false, .string ⟨#[]⟩] 23) (.cells #[.int .u8 0, .int .i64 0, .bool false, .string ⟨#[]⟩] 23) (.cells #[.int .u8 1, .int .i64 n, .bool false, .string ⟨#[]⟩, .int .u8 1, .int .i64 n', .bool false, .string ⟨#[]⟩] 23)
  have hTW := Utf8Tabs_below hT hB
  have cN := numbers2 _ _ _ _ _ _ _ _ _ _ hTW h3
  have cN := cN.mono (fun e w' h => by rw [show (V.isInt ⟨1, _, false, ⟨#[]⟩⟩ && V.isInt ⟨1, _, false, ⟨#[]⟩⟩) = true from rfl] at h; exact h)
  go_enter Tryd.func17, Tryd.ntmps17
  go_wp2_with fail
  refine cN.mono ?_
  rintro e w1 ⟨rfl, b1⟩
  rw [← b1.block w.heap.size (by omega)] at h0
  rw [← b1.block (w.heap.size + 1) (by omega)] at h1
  rw [← b1.block (w.heap.size + 2) (by omega)] at h2
  have B1 := hid (hB.trans (b1.mono (by omega)))
  have hs1 : w.heap.size + 4 ≤ w1.heap.size := by have := b1.size; omega
  clear cN h3 hz hB hTW b1
  obtain ⟨a1, a2, a3, a4⟩ := row4 h0
  obtain ⟨b1, b2, b3, b4⟩ := row4 h1
  have H2 := hid h2
  clear h0 h1 h2
  go_wp2_with fail
  refine (answer_yes r _).mono ?_
  rintro e w2 ⟨rfl, d2⟩
  have h2 := (d2.block (w.heap.size + 2) (by show _ < w1.heap.size; omega)).trans H2.out
  have B2 := hid (B1.out.trans (d2.mono (by show _ ≤ w1.heap.size; omega)))
  obtain ⟨c1, c2, c3, c4⟩ := row4 h2
  obtain ⟨f1, f2, f3, f4⟩ := free4 h2
  clear H2
  have H2 := hid h2
  clear h2 d2 a1 a2 a3 a4 b1 b2 b3 b4
  go_wp2_with fail
  exact bodyPost_ret (v := .tuple #[.agg #[.int .u8 1, .int .i64 r, .bool false, .string ⟨#[]⟩], .int .i64 0]) (results_pair rfl _ _ (w.heap.size + 2) 23 _ (0, 0) _ (.int .i64 0) rfl (row4_set H2.out _ _ _ _) (by rfl) Tryd.underlying23 rfl infoValue) rfl ⟨rfl, below4_set B2.out (by omega) _ _ _ _⟩

set_option maxRecDepth 100000 in
set_option maxHeartbeats 4000000 in
theorem mod_zero (n n' : Int) (w : World) (hT : Tabs w) (h0 : n' = 0) :
    Calls Tryd.prog 18 #[.agg #[.int .u8 1, .int .i64 n, .bool false, .string ⟨#[]⟩], .agg #[.int .u8 1, .int .i64 n', .bool false, .string ⟨#[]⟩]] w fun e w' => e = .returned (.tuple #[.agg #[.int .u8 0, .int .i64 0, .bool false, .string ⟨#[]⟩], .int .i64 91]) ∧ Below w.heap.size w w' := by
  have z0 : (n' == 0) = true := beq_iff_eq.2 h0
  have z1 : (n' != 0) = false := by rw [bne, z0]; rfl
  clear h0
  obtain ⟨h0, h1, h2, h3⟩ := heap4 w (.cells #[.int .u8 1, .int .i64 n, .bool false, .string ⟨#[]⟩] 23) (.cells #[.int .u8 1, .int .i64 n', .bool false, .string ⟨#[]⟩] 23) (.cells #[.int .u8 0, .int .i64 0, .bool false, .string ⟨#[]⟩] 23) (.cells #[.int .u8 1, .int .i64 n, .bool false, .string ⟨#[]⟩, .int .u8 1, .int .i64 n', .bool false, .string ⟨#[]⟩] 23)
  have hz := size4 w (.cells #[.int .u8 1, .int .i64 n, .bool false, .string ⟨#[]⟩] 23) (.cells #[.int .u8 1, .int .i64 n', .bool false, .string ⟨#[]⟩] 23) (.cells #[.int .u8 0, .int .i64 0, .bool false, .string ⟨#[]⟩] 23) (.cells #[.int .u8 1, .int .i64 n, .bool false, .string ⟨#[]⟩, .int .u8 1, .int .i64 n', .bool false, .string ⟨#[]⟩] 23)
  have hB := grown4 w (.cells #[.int .u8 1, .int .i64 n, .bool false, .string ⟨#[]⟩] 23) (.cells #[.int .u8 1, .int .i64 n', .bool false, .string ⟨#[]⟩] 23) (.cells #[.int .u8 0, .int .i64 0, .bool false, .string ⟨#[]⟩] 23) (.cells #[.int .u8 1, .int .i64 n, .bool false, .string ⟨#[]⟩, .int .u8 1, .int .i64 n', .bool false, .string ⟨#[]⟩] 23)
  have hTW := Utf8Tabs_below hT hB
  have cN := numbers2 _ _ _ _ _ _ _ _ _ _ hTW h3
  have cN := cN.mono (fun e w' h => by rw [show (V.isInt ⟨1, _, false, ⟨#[]⟩⟩ && V.isInt ⟨1, _, false, ⟨#[]⟩⟩) = true from rfl] at h; exact h)
  go_enter Tryd.func18, Tryd.ntmps18
  go_wp2_with fail
  refine cN.mono ?_
  rintro e w1 ⟨rfl, b1⟩
  rw [← b1.block w.heap.size (by omega)] at h0
  rw [← b1.block (w.heap.size + 1) (by omega)] at h1
  rw [← b1.block (w.heap.size + 2) (by omega)] at h2
  have B1 := hid (hB.trans (b1.mono (by omega)))
  have hs1 : w.heap.size + 4 ≤ w1.heap.size := by have := b1.size; omega
  clear cN h3 hz hB hTW b1
  obtain ⟨a1, a2, a3, a4⟩ := row4 h0
  obtain ⟨b1, b2, b3, b4⟩ := row4 h1
  have H2 := hid h2
  clear h0 h1 h2
  go_wp2_with fail
  refine (answer_no 0 _).mono ?_
  rintro e w2 ⟨rfl, d2⟩
  have h2 := (d2.block (w.heap.size + 2) (by show _ < w1.heap.size; omega)).trans H2.out
  have B2 := hid (B1.out.trans (d2.mono (by show _ ≤ w1.heap.size; omega)))
  obtain ⟨c1, c2, c3, c4⟩ := row4 h2
  obtain ⟨f1, f2, f3, f4⟩ := free4 h2
  clear H2
  have H2 := hid h2
  clear h2 d2 a1 a2 a3 a4 b1 b2 b3 b4
  go_wp2_with fail
  exact bodyPost_ret (v := .tuple #[.agg #[.int .u8 0, .int .i64 0, .bool false, .string ⟨#[]⟩], .int .i64 91]) (results_pair rfl _ _ (w.heap.size + 2) 23 _ (0, 0) _ (.int .i64 91) rfl (row4_set H2.out _ _ _ _) (by rfl) Tryd.underlying23 rfl infoValue) rfl ⟨rfl, below4_set B2.out (by omega) _ _ _ _⟩

set_option maxRecDepth 100000 in
set_option maxHeartbeats 4000000 in
theorem mod_minus (n n' : Int) (w : World) (hT : Tabs w) (h0 : n' = -1) :
    Calls Tryd.prog 18 #[.agg #[.int .u8 1, .int .i64 n, .bool false, .string ⟨#[]⟩], .agg #[.int .u8 1, .int .i64 n', .bool false, .string ⟨#[]⟩]] w fun e w' => e = .returned (.tuple #[.agg #[.int .u8 1, .int .i64 0, .bool false, .string ⟨#[]⟩], .int .i64 0]) ∧ Below w.heap.size w w' := by
  have z0 : (n' == 0) = false := beq_eq_false_iff_ne.2 (by omega)
  have z1 : (n' != 0) = true := by rw [bne, z0]; rfl
  have y1 : (n' == -1) = true := beq_iff_eq.2 h0
  clear h0
  obtain ⟨h0, h1, h2, h3⟩ := heap4 w (.cells #[.int .u8 1, .int .i64 n, .bool false, .string ⟨#[]⟩] 23) (.cells #[.int .u8 1, .int .i64 n', .bool false, .string ⟨#[]⟩] 23) (.cells #[.int .u8 0, .int .i64 0, .bool false, .string ⟨#[]⟩] 23) (.cells #[.int .u8 1, .int .i64 n, .bool false, .string ⟨#[]⟩, .int .u8 1, .int .i64 n', .bool false, .string ⟨#[]⟩] 23)
  have hz := size4 w (.cells #[.int .u8 1, .int .i64 n, .bool false, .string ⟨#[]⟩] 23) (.cells #[.int .u8 1, .int .i64 n', .bool false, .string ⟨#[]⟩] 23) (.cells #[.int .u8 0, .int .i64 0, .bool false, .string ⟨#[]⟩] 23) (.cells #[.int .u8 1, .int .i64 n, .bool false, .string ⟨#[]⟩, .int .u8 1, .int .i64 n', .bool false, .string ⟨#[]⟩] 23)
  have hB := grown4 w (.cells #[.int .u8 1, .int .i64 n, .bool false, .string ⟨#[]⟩] 23) (.cells #[.int .u8 1, .int .i64 n', .bool false, .string ⟨#[]⟩] 23) (.cells #[.int .u8 0, .int .i64 0, .bool false, .string ⟨#[]⟩] 23) (.cells #[.int .u8 1, .int .i64 n, .bool false, .string ⟨#[]⟩, .int .u8 1, .int .i64 n', .bool false, .string ⟨#[]⟩] 23)
  have hTW := Utf8Tabs_below hT hB
  have cN := numbers2 _ _ _ _ _ _ _ _ _ _ hTW h3
  have cN := cN.mono (fun e w' h => by rw [show (V.isInt ⟨1, _, false, ⟨#[]⟩⟩ && V.isInt ⟨1, _, false, ⟨#[]⟩⟩) = true from rfl] at h; exact h)
  go_enter Tryd.func18, Tryd.ntmps18
  go_wp2_with fail
  refine cN.mono ?_
  rintro e w1 ⟨rfl, b1⟩
  rw [← b1.block w.heap.size (by omega)] at h0
  rw [← b1.block (w.heap.size + 1) (by omega)] at h1
  rw [← b1.block (w.heap.size + 2) (by omega)] at h2
  have B1 := hid (hB.trans (b1.mono (by omega)))
  have hs1 : w.heap.size + 4 ≤ w1.heap.size := by have := b1.size; omega
  clear cN h3 hz hB hTW b1
  obtain ⟨a1, a2, a3, a4⟩ := row4 h0
  obtain ⟨b1, b2, b3, b4⟩ := row4 h1
  have H2 := hid h2
  clear h0 h1 h2
  go_wp2_with fail
  refine (answer_yes 0 _).mono ?_
  rintro e w2 ⟨rfl, d2⟩
  have h2 := (d2.block (w.heap.size + 2) (by show _ < w1.heap.size; omega)).trans H2.out
  have B2 := hid (B1.out.trans (d2.mono (by show _ ≤ w1.heap.size; omega)))
  obtain ⟨c1, c2, c3, c4⟩ := row4 h2
  obtain ⟨f1, f2, f3, f4⟩ := free4 h2
  clear H2
  have H2 := hid h2
  clear h2 d2 a1 a2 a3 a4 b1 b2 b3 b4
  go_wp2_with fail
  exact bodyPost_ret (v := .tuple #[.agg #[.int .u8 1, .int .i64 0, .bool false, .string ⟨#[]⟩], .int .i64 0]) (results_pair rfl _ _ (w.heap.size + 2) 23 _ (0, 0) _ (.int .i64 0) rfl (row4_set H2.out _ _ _ _) (by rfl) Tryd.underlying23 rfl infoValue) rfl ⟨rfl, below4_set B2.out (by omega) _ _ _ _⟩

set_option maxRecDepth 100000 in
set_option maxHeartbeats 4000000 in
theorem mod_yes (n n' : Int) (w : World) (hT : Tabs w) (h0 : n' ≠ 0) (h1 : n' ≠ -1) (hr : wrap64 (n.tmod n') = n.tmod n') :
    Calls Tryd.prog 18 #[.agg #[.int .u8 1, .int .i64 n, .bool false, .string ⟨#[]⟩], .agg #[.int .u8 1, .int .i64 n', .bool false, .string ⟨#[]⟩]] w fun e w' => e = .returned (.tuple #[.agg #[.int .u8 1, .int .i64 (n.tmod n'), .bool false, .string ⟨#[]⟩], .int .i64 0]) ∧ Below w.heap.size w w' := by
  have z0 : (n' == 0) = false := beq_eq_false_iff_ne.2 h0
  have z1 : (n' != 0) = true := by rw [bne_iff_ne]; exact h0
  have y0 : (n' == -1) = false := beq_eq_false_iff_ne.2 h1
  obtain ⟨r, hr0⟩ : ∃ r, n.tmod n' = r := ⟨_, rfl⟩
  have e2 : wrap64 r = r := by rw [← hr0, hr]
  rw [hr0]
  clear h1 hr
  obtain ⟨h0, h1, h2, h3⟩ := heap4 w (.cells #[.int .u8 1, .int .i64 n, .bool false, .string ⟨#[]⟩] 23) (.cells #[.int .u8 1, .int .i64 n', .bool false, .string ⟨#[]⟩] 23) (.cells #[.int .u8 0, .int .i64 0, .bool false, .string ⟨#[]⟩] 23) (.cells #[.int .u8 1, .int .i64 n, .bool false, .string ⟨#[]⟩, .int .u8 1, .int .i64 n', .bool false, .string ⟨#[]⟩] 23)
  have hz := size4 w (.cells #[.int .u8 1, .int .i64 n, .bool false, .string ⟨#[]⟩] 23) (.cells #[.int .u8 1, .int .i64 n', .bool false, .string ⟨#[]⟩] 23) (.cells #[.int .u8 0, .int .i64 0, .bool false, .string ⟨#[]⟩] 23) (.cells #[.int .u8 1, .int .i64 n, .bool false, .string ⟨#[]⟩, .int .u8 1, .int .i64 n', .bool false, .string ⟨#[]⟩] 23)
  have hB := grown4 w (.cells #[.int .u8 1, .int .i64 n, .bool false, .string ⟨#[]⟩] 23) (.cells #[.int .u8 1, .int .i64 n', .bool false, .string ⟨#[]⟩] 23) (.cells #[.int .u8 0, .int .i64 0, .bool false, .string ⟨#[]⟩] 23) (.cells #[.int .u8 1, .int .i64 n, .bool false, .string ⟨#[]⟩, .int .u8 1, .int .i64 n', .bool false, .string ⟨#[]⟩] 23)
  have hTW := Utf8Tabs_below hT hB
  have cN := numbers2 _ _ _ _ _ _ _ _ _ _ hTW h3
  have cN := cN.mono (fun e w' h => by rw [show (V.isInt ⟨1, _, false, ⟨#[]⟩⟩ && V.isInt ⟨1, _, false, ⟨#[]⟩⟩) = true from rfl] at h; exact h)
  go_enter Tryd.func18, Tryd.ntmps18
  go_wp2_with fail
  refine cN.mono ?_
  rintro e w1 ⟨rfl, b1⟩
  rw [← b1.block w.heap.size (by omega)] at h0
  rw [← b1.block (w.heap.size + 1) (by omega)] at h1
  rw [← b1.block (w.heap.size + 2) (by omega)] at h2
  have B1 := hid (hB.trans (b1.mono (by omega)))
  have hs1 : w.heap.size + 4 ≤ w1.heap.size := by have := b1.size; omega
  clear cN h3 hz hB hTW b1
  obtain ⟨a1, a2, a3, a4⟩ := row4 h0
  obtain ⟨b1, b2, b3, b4⟩ := row4 h1
  have H2 := hid h2
  clear h0 h1 h2
  go_wp2_with fail
  refine (answer_yes r _).mono ?_
  rintro e w2 ⟨rfl, d2⟩
  have h2 := (d2.block (w.heap.size + 2) (by show _ < w1.heap.size; omega)).trans H2.out
  have B2 := hid (B1.out.trans (d2.mono (by show _ ≤ w1.heap.size; omega)))
  obtain ⟨c1, c2, c3, c4⟩ := row4 h2
  obtain ⟨f1, f2, f3, f4⟩ := free4 h2
  clear H2
  have H2 := hid h2
  clear h2 d2 a1 a2 a3 a4 b1 b2 b3 b4
  go_wp2_with fail
  exact bodyPost_ret (v := .tuple #[.agg #[.int .u8 1, .int .i64 r, .bool false, .string ⟨#[]⟩], .int .i64 0]) (results_pair rfl _ _ (w.heap.size + 2) 23 _ (0, 0) _ (.int .i64 0) rfl (row4_set H2.out _ _ _ _) (by rfl) Tryd.underlying23 rfl infoValue) rfl ⟨rfl, below4_set B2.out (by omega) _ _ _ _⟩
end Go.Proofs.YtohdifffdgoaaaaDoor
