/- The walk of value.Neg. -/
import Derived.Test.YtohdifffdgoaaaaDoorVAll
namespace Go.Proofs.YtohdifffdgoaaaaDoor
open Go.RowKit
open Go.Lib (hid)

open V

set_option maxRecDepth 100000 in
set_option maxHeartbeats 4000000 in
theorem negV (v : Val) (w : World) (hT : Tabs w) (h : In v.n) : Calls Tryd.prog 19 #[.agg #[.int .u8 v.k, .int .i64 v.n, .bool v.b, .string v.s]] w (Answers (on (fun n n' => ranged (n - n')) ⟨1, 0, false, ⟨#[]⟩⟩ v) w) := by
  obtain ⟨k, n, b, s⟩ := v
  have hS := fun X (hX : Tabs X) => subV ⟨1, 0, false, ⟨#[]⟩⟩ ⟨k, n, b, s⟩ X hX ⟨by decide, by decide⟩ h
  obtain ⟨R, hR⟩ : ∃ R, on (fun n n' => ranged (n - n')) ⟨1, 0, false, ⟨#[]⟩⟩ ⟨k, n, b, s⟩ = R := ⟨_, rfl⟩
  rw [hR] at hS ⊢
  clear hR h
  obtain ⟨f1, f2⟩ := fresh2 w (.cells #[.int .u8 k, .int .i64 n, .bool b, .string s] 23) (.cells #[.int .u8 0, .int .i64 0, .bool false, .string ⟨#[]⟩] 23)
  have hB := grown2 w (.cells #[.int .u8 k, .int .i64 n, .bool b, .string s] 23) (.cells #[.int .u8 0, .int .i64 0, .bool false, .string ⟨#[]⟩] 23)
  have hz := size2 w (.cells #[.int .u8 k, .int .i64 n, .bool b, .string s] 23) (.cells #[.int .u8 0, .int .i64 0, .bool false, .string ⟨#[]⟩] 23)
  have HT := hid hT
  clear hT
  go_enter Tryd.func19, Tryd.ntmps19
  go_upto_region 1 with fail
  generalize World.alloc (World.alloc w _) _ = w0 at *
  obtain ⟨x0, x1, x2, x3⟩ := row4 f1
  obtain ⟨e0, e1, e2, e3⟩ := free4 f2
  obtain ⟨c0, c1, c2, c3⟩ := row4 f2
  have hz' : w.heap.size + 2 ≤ w0.heap.size := by omega
  have F1 := hid f1
  have F2 := hid f2
  have HB := hid hB
  clear f1 f2 hB hz
  go_region_with (first
    | (go_at_call 42
       refine (number_any 0 _).mono ?_
       rintro e w1 ⟨rfl, b1⟩
       have g1 := (b1.block w.heap.size (by show _ < w0.heap.size; omega)).trans F1.out
       have g2 := (b1.block (w.heap.size + 1) (by show _ < w0.heap.size; omega)).trans F2.out
       have B1 := HB.out.drew.trans (b1.mono (by show _ ≤ w0.heap.size; omega))
       have z1 : w0.heap.size ≤ w1.heap.size := b1.size
       have T1 := hid (Utf8Tabs_below HT.out B1)
       obtain ⟨y0, y1, y2, y3⟩ := row4 g1
       have G2 := hid g2
       have HB1 := hid B1
       clear b1 g1 g2 B1)
    | (go_at_call 15
       refine (hS _ T1.out).mono ?_
       rintro e w2 ⟨rfl, b2⟩
       have g2 := (b2.block (w.heap.size + 1) (by omega)).trans G2.out
       have B2 := HB1.out.trans (b2.mono (by omega))
       obtain ⟨p0, p1, p2, p3⟩ := row4 g2
       obtain ⟨q0, q1, q2, q3⟩ := free4 g2
       have K2 := hid g2
       have HB2 := hid B2
       clear b2 g2 B2))
  all_goals
    go_wp2_with fail
    exact bodyPost_ret (v := .tuple #[.agg #[.int .u8 R.k, .int .i64 R.n, .bool false, .string ⟨#[]⟩], .int .i64 R.e]) (results_pair rfl _ _ (w.heap.size + 1) 23 _ (0, 0) _ (.int .i64 R.e) rfl (row4_set K2.out _ _ _ _) (by rfl) Tryd.underlying23 rfl infoValue) rfl ⟨rfl, below4_set HB2.out (by omega) _ _ _ _⟩
end Go.Proofs.YtohdifffdgoaaaaDoor
