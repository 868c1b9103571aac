/- The walk of ValueNames. -/
import Derived.Test.YtohdifffdgoaaaaDoorVWorks
import Derived.Test.YtohdifffdgoaaaaDoorVOrdA
import Derived.Deep.DeepCutAuto
import Derived.Test.YtohdifffdgoaaaaDoorVAllP
import Derived.Laws.OwnMore
import Derived.Laws.Closers25b
namespace Go.Proofs.YtohdifffdgoaaaaDoor
open Go.RowKit
open Go.Lib (hid)
open V


set_option maxRecDepth 100000 in
set_option maxHeartbeats 4000000 in
theorem negV (v : Val) (w : World) (hT : Tabs w) (h : In v.n) : Calls Tryd.prog 19 #[.agg #[.int .u8 v.k, .int .i64 v.n, .bool v.b, .string v.s]] w (Answers (on (fun n n' => ranged (n - n')) ⟨1, 0, false, ⟨#[]⟩⟩ v) w) := by
  obtain ⟨k, n, b, s⟩ := v
  have hS := fun X (hX : Tabs X) => subV ⟨1, 0, false, ⟨#[]⟩⟩ ⟨k, n, b, s⟩ X hX ⟨by decide, by decide⟩ h
  obtain ⟨R, hR⟩ : ∃ R, on (fun n n' => ranged (n - n')) ⟨1, 0, false, ⟨#[]⟩⟩ ⟨k, n, b, s⟩ = R := ⟨_, rfl⟩
  rw [hR] at hS ⊢
  clear hR h
  obtain ⟨f1, f2⟩ := fresh2 w (.cells #[.int .u8 k, .int .i64 n, .bool b, .string s] 23) (.cells #[.int .u8 0, .int .i64 0, .bool false, .string ⟨#[]⟩] 23)
  have hB := grown2 w (.cells #[.int .u8 k, .int .i64 n, .bool b, .string s] 23) (.cells #[.int .u8 0, .int .i64 0, .bool false, .string ⟨#[]⟩] 23)
  have hz := size2 w (.cells #[.int .u8 k, .int .i64 n, .bool b, .string s] 23) (.cells #[.int .u8 0, .int .i64 0, .bool false, .string ⟨#[]⟩] 23)
  have HT := hid hT
  clear hT
  go_enter Tryd.func19, Tryd.ntmps19
  go_upto_region 1 with fail
  generalize World.alloc (World.alloc w _) _ = w0 at *
  obtain ⟨x0, x1, x2, x3⟩ := row4 f1
  obtain ⟨e0, e1, e2, e3⟩ := free4 f2
  obtain ⟨c0, c1, c2, c3⟩ := row4 f2
  have hz' : w.heap.size + 2 ≤ w0.heap.size := by omega
  have F1 := hid f1
  have F2 := hid f2
  have HB := hid hB
  clear f1 f2 hB hz
  go_region_with (first
    | (go_at_call 42
       refine (vnumber_any 0 _).mono ?_
       rintro e w1 ⟨rfl, b1⟩
       have g1 := (b1.block w.heap.size (by show _ < w0.heap.size; omega)).trans F1.out
       have g2 := (b1.block (w.heap.size + 1) (by show _ < w0.heap.size; omega)).trans F2.out
       have B1 := HB.out.drew.trans (b1.mono (by show _ ≤ w0.heap.size; omega))
       have z1 : w0.heap.size ≤ w1.heap.size := b1.size
       have T1 := hid (Utf8Tabs_below HT.out B1)
       obtain ⟨y0, y1, y2, y3⟩ := row4 g1
       have G2 := hid g2
       have HB1 := hid B1
       clear b1 g1 g2 B1)
    | (go_at_call 15
       refine (hS _ T1.out).mono ?_
       rintro e w2 ⟨rfl, b2⟩
       have g2 := (b2.block (w.heap.size + 1) (by omega)).trans G2.out
       have B2 := HB1.out.trans (b2.mono (by omega))
       obtain ⟨p0, p1, p2, p3⟩ := row4 g2
       obtain ⟨q0, q1, q2, q3⟩ := free4 g2
       have K2 := hid g2
       have HB2 := hid B2
       clear b2 g2 B2))
  all_goals
    go_wp2_with fail
    exact bodyPost_ret (v := .tuple #[.agg #[.int .u8 R.k, .int .i64 R.n, .bool false, .string ⟨#[]⟩], .int .i64 R.e]) (results_pair rfl _ _ (w.heap.size + 1) 23 _ (0, 0) _ (.int .i64 R.e) rfl (row4_set K2.out _ _ _ _) (by rfl) Tryd.underlying23 rfl infoValue) rfl ⟨rfl, below4_set HB2.out (by omega) _ _ _ _⟩
theorem nm_a1 (X : World) (hX : Tabs X) : Calls Tryd.prog 12 #[.agg #[.int .u8 1, .int .i64 9223372036854775807, .bool false, .string ⟨#[]⟩], .agg #[.int .u8 1, .int .i64 1, .bool false, .string ⟨#[]⟩]] X fun e w' => e = .returned (.tuple #[.agg #[.int .u8 0, .int .i64 0, .bool false, .string ⟨#[]⟩], .int .i64 91]) ∧ Below X.heap.size X w' := by
  have h := addV ⟨1, 9223372036854775807, false, ⟨#[]⟩⟩ ⟨1, 1, false, ⟨#[]⟩⟩ X hX ⟨by decide, by decide⟩ ⟨by decide, by decide⟩
  rw [show on (fun n n' => ranged (n + n')) ⟨1, 9223372036854775807, false, ⟨#[]⟩⟩ ⟨1, 1, false, ⟨#[]⟩⟩ = over from by (unfold on; rw [if_pos (show (isInt _ && isInt _) = true from rfl)]; exact ranged_no (by unfold In; decide))] at h
  exact h
theorem nm_s1 (X : World) (hX : Tabs X) : Calls Tryd.prog 15 #[.agg #[.int .u8 1, .int .i64 (-9223372036854775808), .bool false, .string ⟨#[]⟩], .agg #[.int .u8 1, .int .i64 1, .bool false, .string ⟨#[]⟩]] X fun e w' => e = .returned (.tuple #[.agg #[.int .u8 0, .int .i64 0, .bool false, .string ⟨#[]⟩], .int .i64 91]) ∧ Below X.heap.size X w' := by
  have h := subV ⟨1, (-9223372036854775808), false, ⟨#[]⟩⟩ ⟨1, 1, false, ⟨#[]⟩⟩ X hX ⟨by decide, by decide⟩ ⟨by decide, by decide⟩
  rw [show on (fun n n' => ranged (n - n')) ⟨1, (-9223372036854775808), false, ⟨#[]⟩⟩ ⟨1, 1, false, ⟨#[]⟩⟩ = over from by (unfold on; rw [if_pos (show (isInt _ && isInt _) = true from rfl)]; exact ranged_no (by unfold In; decide))] at h
  exact h
theorem nm_m1 (X : World) (hX : Tabs X) : Calls Tryd.prog 16 #[.agg #[.int .u8 1, .int .i64 (-9223372036854775808), .bool false, .string ⟨#[]⟩], .agg #[.int .u8 1, .int .i64 (-1), .bool false, .string ⟨#[]⟩]] X fun e w' => e = .returned (.tuple #[.agg #[.int .u8 0, .int .i64 0, .bool false, .string ⟨#[]⟩], .int .i64 91]) ∧ Below X.heap.size X w' := by
  have h := mulV ⟨1, (-9223372036854775808), false, ⟨#[]⟩⟩ ⟨1, (-1), false, ⟨#[]⟩⟩ X hX ⟨by decide, by decide⟩ ⟨by decide, by decide⟩
  rw [show on (fun n n' => ranged (n * n')) ⟨1, (-9223372036854775808), false, ⟨#[]⟩⟩ ⟨1, (-1), false, ⟨#[]⟩⟩ = over from by (unfold on; rw [if_pos (show (isInt _ && isInt _) = true from rfl)]; exact ranged_no (by unfold In; decide))] at h
  exact h
theorem nm_m2 (X : World) (hX : Tabs X) : Calls Tryd.prog 16 #[.agg #[.int .u8 1, .int .i64 (-9223372036854775808), .bool false, .string ⟨#[]⟩], .agg #[.int .u8 1, .int .i64 1, .bool false, .string ⟨#[]⟩]] X fun e w' => e = .returned (.tuple #[.agg #[.int .u8 1, .int .i64 (-9223372036854775808), .bool false, .string ⟨#[]⟩], .int .i64 0]) ∧ Below X.heap.size X w' := by
  have h := mulV ⟨1, (-9223372036854775808), false, ⟨#[]⟩⟩ ⟨1, 1, false, ⟨#[]⟩⟩ X hX ⟨by decide, by decide⟩ ⟨by decide, by decide⟩
  rw [show on (fun n n' => ranged (n * n')) ⟨1, (-9223372036854775808), false, ⟨#[]⟩⟩ ⟨1, 1, false, ⟨#[]⟩⟩ = num ((-9223372036854775808)) from by (unfold on; rw [if_pos (show (isInt _ && isInt _) = true from rfl)]; exact ranged_yes ⟨by decide, by decide⟩)] at h
  exact h
theorem nm_d1 (X : World) (hX : Tabs X) : Calls Tryd.prog 17 #[.agg #[.int .u8 1, .int .i64 (-9223372036854775808), .bool false, .string ⟨#[]⟩], .agg #[.int .u8 1, .int .i64 (-1), .bool false, .string ⟨#[]⟩]] X fun e w' => e = .returned (.tuple #[.agg #[.int .u8 0, .int .i64 0, .bool false, .string ⟨#[]⟩], .int .i64 91]) ∧ Below X.heap.size X w' := by
  have h := divV ⟨1, (-9223372036854775808), false, ⟨#[]⟩⟩ ⟨1, (-1), false, ⟨#[]⟩⟩ X hX ⟨by decide, by decide⟩
  rw [show on divR ⟨1, (-9223372036854775808), false, ⟨#[]⟩⟩ ⟨1, (-1), false, ⟨#[]⟩⟩ = over from by (unfold on; rw [if_pos (show (isInt _ && isInt _) = true from rfl)]; unfold divR; rw [if_neg (by decide)]; exact ranged_no (by unfold In; decide))] at h
  exact h
theorem nm_o1 (X : World) (hX : Tabs X) : Calls Tryd.prog 18 #[.agg #[.int .u8 1, .int .i64 (-9223372036854775808), .bool false, .string ⟨#[]⟩], .agg #[.int .u8 1, .int .i64 (-1), .bool false, .string ⟨#[]⟩]] X fun e w' => e = .returned (.tuple #[.agg #[.int .u8 1, .int .i64 0, .bool false, .string ⟨#[]⟩], .int .i64 0]) ∧ Below X.heap.size X w' := by
  have h := modV ⟨1, (-9223372036854775808), false, ⟨#[]⟩⟩ ⟨1, (-1), false, ⟨#[]⟩⟩ X hX ⟨by decide, by decide⟩
  rw [show on modR ⟨1, (-9223372036854775808), false, ⟨#[]⟩⟩ ⟨1, (-1), false, ⟨#[]⟩⟩ = num 0 from by (unfold on; rw [if_pos (show (isInt _ && isInt _) = true from rfl)]; exact modR_minus _)] at h
  exact h
theorem nm_d2 (X : World) (hX : Tabs X) : Calls Tryd.prog 17 #[.agg #[.int .u8 1, .int .i64 1, .bool false, .string ⟨#[]⟩], .agg #[.int .u8 1, .int .i64 0, .bool false, .string ⟨#[]⟩]] X fun e w' => e = .returned (.tuple #[.agg #[.int .u8 0, .int .i64 0, .bool false, .string ⟨#[]⟩], .int .i64 91]) ∧ Below X.heap.size X w' := by
  have h := divV ⟨1, 1, false, ⟨#[]⟩⟩ ⟨1, 0, false, ⟨#[]⟩⟩ X hX ⟨by decide, by decide⟩
  rw [show on divR ⟨1, 1, false, ⟨#[]⟩⟩ ⟨1, 0, false, ⟨#[]⟩⟩ = over from by (unfold on; rw [if_pos (show (isInt _ && isInt _) = true from rfl)]; unfold divR; rw [if_pos rfl])] at h
  exact h
theorem nm_o2 (X : World) (hX : Tabs X) : Calls Tryd.prog 18 #[.agg #[.int .u8 1, .int .i64 1, .bool false, .string ⟨#[]⟩], .agg #[.int .u8 1, .int .i64 0, .bool false, .string ⟨#[]⟩]] X fun e w' => e = .returned (.tuple #[.agg #[.int .u8 0, .int .i64 0, .bool false, .string ⟨#[]⟩], .int .i64 91]) ∧ Below X.heap.size X w' := by
  have h := modV ⟨1, 1, false, ⟨#[]⟩⟩ ⟨1, 0, false, ⟨#[]⟩⟩ X hX ⟨by decide, by decide⟩
  rw [show on modR ⟨1, 1, false, ⟨#[]⟩⟩ ⟨1, 0, false, ⟨#[]⟩⟩ = over from by (unfold on; rw [if_pos (show (isInt _ && isInt _) = true from rfl)]; unfold modR; rw [if_pos rfl])] at h
  exact h
theorem nm_o3 (X : World) (hX : Tabs X) : Calls Tryd.prog 18 #[.agg #[.int .u8 1, .int .i64 (-7), .bool false, .string ⟨#[]⟩], .agg #[.int .u8 1, .int .i64 2, .bool false, .string ⟨#[]⟩]] X fun e w' => e = .returned (.tuple #[.agg #[.int .u8 1, .int .i64 (-1), .bool false, .string ⟨#[]⟩], .int .i64 0]) ∧ Below X.heap.size X w' := by
  have h := modV ⟨1, (-7), false, ⟨#[]⟩⟩ ⟨1, 2, false, ⟨#[]⟩⟩ X hX ⟨by decide, by decide⟩
  rw [show on modR ⟨1, (-7), false, ⟨#[]⟩⟩ ⟨1, 2, false, ⟨#[]⟩⟩ = num (-1) from by (unfold on; rw [if_pos (show (isInt _ && isInt _) = true from rfl)]; unfold modR; rw [if_neg (by decide)]; exact ranged_yes ⟨by decide, by decide⟩)] at h
  exact h
theorem nm_n1 (X : World) (hX : Tabs X) : Calls Tryd.prog 19 #[.agg #[.int .u8 1, .int .i64 (-9223372036854775808), .bool false, .string ⟨#[]⟩]] X fun e w' => e = .returned (.tuple #[.agg #[.int .u8 0, .int .i64 0, .bool false, .string ⟨#[]⟩], .int .i64 91]) ∧ Below X.heap.size X w' := by
  have h := negV ⟨1, (-9223372036854775808), false, ⟨#[]⟩⟩ X hX ⟨by decide, by decide⟩
  rw [show on (fun n n' => ranged (n - n')) ⟨1, 0, false, ⟨#[]⟩⟩ ⟨1, (-9223372036854775808), false, ⟨#[]⟩⟩ = over from by (unfold on; rw [if_pos (show (isInt _ && isInt _) = true from rfl)]; exact ranged_no (by unfold In; decide))] at h
  exact h
theorem nm_a2 (X : World) (hX : Tabs X) : Calls Tryd.prog 12 #[.agg #[.int .u8 1, .int .i64 1, .bool false, .string ⟨#[]⟩], .agg #[.int .u8 3, .int .i64 0, .bool false, .string ⟨#[97]⟩]] X fun e w' => e = .returned (.tuple #[.agg #[.int .u8 0, .int .i64 0, .bool false, .string ⟨#[]⟩], .int .i64 90]) ∧ Below X.heap.size X w' := by
  have h := addV ⟨1, 1, false, ⟨#[]⟩⟩ ⟨3, 0, false, ⟨#[97]⟩⟩ X hX ⟨by decide, by decide⟩ ⟨by decide, by decide⟩
  rw [show on (fun n n' => ranged (n + n')) ⟨1, 1, false, ⟨#[]⟩⟩ ⟨3, 0, false, ⟨#[97]⟩⟩ = typ from by (unfold on; rw [if_neg (by decide)])] at h
  exact h
theorem nm_l1 (X : World) (hX : Tabs X) : Calls Tryd.prog 20 #[.agg #[.int .u8 2, .int .i64 0, .bool false, .string ⟨#[]⟩], .agg #[.int .u8 2, .int .i64 0, .bool true, .string ⟨#[]⟩]] X fun e w' => e = .returned (.tuple #[.bool false, .int .i64 90]) ∧ Below X.heap.size X w' := by
  have h := lessV ⟨2, 0, false, ⟨#[]⟩⟩ ⟨2, 0, true, ⟨#[]⟩⟩ X hX
  rw [show lessR ⟨2, 0, false, ⟨#[]⟩⟩ ⟨2, 0, true, ⟨#[]⟩⟩ = (false, 90) from by unfold lessR; rw [if_neg (by decide)]] at h
  exact h
theorem nm_l2 (X : World) (hX : Tabs X) : Calls Tryd.prog 20 #[.agg #[.int .u8 1, .int .i64 1, .bool false, .string ⟨#[]⟩], .agg #[.int .u8 3, .int .i64 0, .bool false, .string ⟨#[97]⟩]] X fun e w' => e = .returned (.tuple #[.bool false, .int .i64 90]) ∧ Below X.heap.size X w' := by
  have h := lessV ⟨1, 1, false, ⟨#[]⟩⟩ ⟨3, 0, false, ⟨#[97]⟩⟩ X hX
  rw [show lessR ⟨1, 1, false, ⟨#[]⟩⟩ ⟨3, 0, false, ⟨#[97]⟩⟩ = (false, 90) from by unfold lessR; rw [if_neg (by decide)]] at h
  exact h
theorem nm_c1 (X : World) : Calls Tryd.prog 37 #[.agg #[.int .u8 1, .int .i64 5, .bool false, .string ⟨#[]⟩], .agg #[.int .u8 2, .int .i64 0, .bool true, .string ⟨#[]⟩]] X fun e w' => e = .returned (.int .i64 (-1)) ∧ Below X.heap.size X w' := by
  exact (cmpV_any 1 2 5 0 false true ⟨#[]⟩ ⟨#[]⟩ X).mono fun e w' ⟨h1, h2⟩ => ⟨h1.trans (congrArg (fun x => Ending.returned (.int .i64 x)) ((or4_cmp ⟨1, 5, false, ⟨#[]⟩⟩ ⟨2, 0, true, ⟨#[]⟩⟩).trans (by decide +kernel))), h2⟩
theorem nm_c2 (X : World) : Calls Tryd.prog 37 #[.agg #[.int .u8 2, .int .i64 0, .bool false, .string ⟨#[]⟩], .agg #[.int .u8 2, .int .i64 0, .bool true, .string ⟨#[]⟩]] X fun e w' => e = .returned (.int .i64 (-1)) ∧ Below X.heap.size X w' := by
  exact (cmpV_any 2 2 0 0 false true ⟨#[]⟩ ⟨#[]⟩ X).mono fun e w' ⟨h1, h2⟩ => ⟨h1.trans (congrArg (fun x => Ending.returned (.int .i64 x)) ((or4_cmp ⟨2, 0, false, ⟨#[]⟩⟩ ⟨2, 0, true, ⟨#[]⟩⟩).trans (by decide +kernel))), h2⟩
theorem valid_as : ∀ n : Nat, Lib.validD (List.replicate n (97 : UInt8)) = true
  | 0 => rfl
  | n + 1 => by
    have := valid_as n
    rw [List.replicate_succ]
    rw [Lib.validD_cons 97 _ (by decide)]; exact this
def aaa (n : Nat) : ByteArray := ⟨(List.replicate n (97 : UInt8)).toArray⟩
theorem aaa_size (n : Nat) : (aaa n).size = n := by
  show (List.replicate n (97 : UInt8)).toArray.size = n
  simp
theorem nm_k1 (X : World) (hX : Tabs X) : Calls Tryd.prog 34 #[.agg #[.int .u8 3, .int .i64 0, .bool false, .string (aaa 1025)]] X fun e w' => e = .returned (.int .i64 1) ∧ Below X.heap.size X w' := by
  have h := check_any 3 0 false (aaa 1025) X hX
  rw [show okE ⟨3, 0, false, (aaa 1025)⟩ = 1 from by unfold okE ok; rw [aaa_size]; rfl] at h
  exact h
theorem nm_k2 (X : World) (hX : Tabs X) : Calls Tryd.prog 34 #[.agg #[.int .u8 3, .int .i64 0, .bool false, .string (aaa 1024)]] X fun e w' => e = .returned (.int .i64 0) ∧ Below X.heap.size X w' := by
  have h := check_any 3 0 false (aaa 1024) X hX
  rw [show okE ⟨3, 0, false, (aaa 1024)⟩ = 0 from by unfold okE ok; rw [aaa_size, show Lib.validD (aaa 1024).data.toList = true from valid_as 1024]; rfl] at h
  exact h
theorem nm_k3 (X : World) (hX : Tabs X) : Calls Tryd.prog 34 #[.agg #[.int .u8 3, .int .i64 0, .bool false, .string ⟨#[255]⟩]] X fun e w' => e = .returned (.int .i64 1) ∧ Below X.heap.size X w' := by
  have h := check_any 3 0 false ⟨#[255]⟩ X hX
  rw [show okE ⟨3, 0, false, ⟨#[255]⟩⟩ = 1 from by decide +kernel] at h
  exact h
theorem nm_k4 (X : World) (hX : Tabs X) : Calls Tryd.prog 34 #[.agg #[.int .u8 0, .int .i64 0, .bool false, .string ⟨#[]⟩]] X fun e w' => e = .returned (.int .i64 1) ∧ Below X.heap.size X w' := by
  have h := check_any 0 0 false ⟨#[]⟩ X hX
  rw [show okE ⟨0, 0, false, ⟨#[]⟩⟩ = 1 from by decide +kernel] at h
  exact h
theorem nm_k5 (X : World) (hX : Tabs X) : Calls Tryd.prog 34 #[.agg #[.int .u8 1, .int .i64 0, .bool true, .string ⟨#[]⟩]] X fun e w' => e = .returned (.int .i64 1) ∧ Below X.heap.size X w' := by
  have h := check_any 1 0 true ⟨#[]⟩ X hX
  rw [show okE ⟨1, 0, true, ⟨#[]⟩⟩ = 1 from by decide +kernel] at h
  exact h
theorem nm_p1 (X : World) (hX : VEnv X) : ∃ (k : Nat) (n : Int) (b : Bool) (s : ByteArray), Calls Tryd.prog 32 #[.int .u8 2, .string ⟨#[121, 101, 115]⟩] X fun e w' => e = .returned (.tuple #[.agg #[.int .u8 k, .int .i64 n, .bool b, .string s], .int .i64 4]) ∧ Below X.heap.size X w' := by
  have h := parseV 2 ⟨#[121, 101, 115]⟩ X hX (by decide)
  rw [show (parseP 2 ⟨#[121, 101, 115]⟩).2 = 4 from by decide +kernel] at h
  exact ⟨_, _, _, _, h⟩
theorem nm_p2 (X : World) (hX : VEnv X) : ∃ (k : Nat) (n : Int) (b : Bool) (s : ByteArray), Calls Tryd.prog 32 #[.int .u8 1, .string ⟨#[48, 49]⟩] X fun e w' => e = .returned (.tuple #[.agg #[.int .u8 k, .int .i64 n, .bool b, .string s], .int .i64 4]) ∧ Below X.heap.size X w' := by
  have h := parseV 1 ⟨#[48, 49]⟩ X hX (by decide)
  rw [show (parseP 1 ⟨#[48, 49]⟩).2 = 4 from by decide +kernel] at h
  exact ⟨_, _, _, _, h⟩
theorem nm_p3 (X : World) (hX : VEnv X) : ∃ (k : Nat) (n : Int) (b : Bool) (s : ByteArray), Calls Tryd.prog 32 #[.int .u8 7, .string ⟨#[49]⟩] X fun e w' => e = .returned (.tuple #[.agg #[.int .u8 k, .int .i64 n, .bool b, .string s], .int .i64 1]) ∧ Below X.heap.size X w' := by
  have h := parseV 7 ⟨#[49]⟩ X hX (by decide)
  rw [show (parseP 7 ⟨#[49]⟩).2 = 1 from by decide +kernel] at h
  exact ⟨_, _, _, _, h⟩
theorem nm_u1 (X : World) (sa sb : Value) (h1 : BIn X [⟨⟨#[120]⟩, ⟨1, 1, false, ⟨#[]⟩⟩⟩] sa) (h2 : BIn X [⟨⟨#[122]⟩, ⟨1, 1, false, ⟨#[]⟩⟩⟩] sb) (hX : Tabs X) : ∃ l, Calls Tryd.prog 25 #[sa, sb] X (PutOf (l, 100) X) := by
  have h := vput_any [⟨⟨#[120]⟩, ⟨1, 1, false, ⟨#[]⟩⟩⟩] [⟨⟨#[122]⟩, ⟨1, 1, false, ⟨#[]⟩⟩⟩] sa sb X h1 h2 hX (by decide) (by decide) (by decide) (by decide)
  obtain ⟨⟨l, r⟩, hR⟩ : ∃ R, put [⟨⟨#[120]⟩, ⟨1, 1, false, ⟨#[]⟩⟩⟩] [⟨⟨#[122]⟩, ⟨1, 1, false, ⟨#[]⟩⟩⟩] = R := ⟨_, rfl⟩
  have hr : (put [⟨⟨#[120]⟩, ⟨1, 1, false, ⟨#[]⟩⟩⟩] [⟨⟨#[122]⟩, ⟨1, 1, false, ⟨#[]⟩⟩⟩]).2 = 100 := by decide +kernel
  rw [hR] at h hr
  simp only at hr
  subst hr
  exact ⟨l, h⟩
theorem nm_u2 (X : World) (sa sb : Value) (h1 : BIn X [⟨⟨#[120]⟩, ⟨1, 1, false, ⟨#[]⟩⟩⟩] sa) (h2 : BIn X [⟨⟨#[120]⟩, ⟨3, 0, false, ⟨#[97]⟩⟩⟩] sb) (hX : Tabs X) : ∃ l, Calls Tryd.prog 25 #[sa, sb] X (PutOf (l, 90) X) := by
  have h := vput_any [⟨⟨#[120]⟩, ⟨1, 1, false, ⟨#[]⟩⟩⟩] [⟨⟨#[120]⟩, ⟨3, 0, false, ⟨#[97]⟩⟩⟩] sa sb X h1 h2 hX (by decide) (by decide) (by decide) (by decide)
  obtain ⟨⟨l, r⟩, hR⟩ : ∃ R, put [⟨⟨#[120]⟩, ⟨1, 1, false, ⟨#[]⟩⟩⟩] [⟨⟨#[120]⟩, ⟨3, 0, false, ⟨#[97]⟩⟩⟩] = R := ⟨_, rfl⟩
  have hr : (put [⟨⟨#[120]⟩, ⟨1, 1, false, ⟨#[]⟩⟩⟩] [⟨⟨#[120]⟩, ⟨3, 0, false, ⟨#[97]⟩⟩⟩]).2 = 90 := by decide +kernel
  rw [hR] at h hr
  simp only at hr
  subst hr
  exact ⟨l, h⟩
theorem nm_u3 (X : World) (sa sb : Value) (h1 : BIn X [⟨⟨#[120]⟩, ⟨1, 1, false, ⟨#[]⟩⟩⟩] sa) (h2 : BIn X [⟨⟨#[120]⟩, ⟨1, 1, false, ⟨#[]⟩⟩⟩, ⟨⟨#[120]⟩, ⟨1, 1, false, ⟨#[]⟩⟩⟩] sb) (hX : Tabs X) : ∃ l, Calls Tryd.prog 25 #[sa, sb] X (PutOf (l, 6) X) := by
  have h := vput_any [⟨⟨#[120]⟩, ⟨1, 1, false, ⟨#[]⟩⟩⟩] [⟨⟨#[120]⟩, ⟨1, 1, false, ⟨#[]⟩⟩⟩, ⟨⟨#[120]⟩, ⟨1, 1, false, ⟨#[]⟩⟩⟩] sa sb X h1 h2 hX (by decide) (by decide) (by decide) (by decide)
  obtain ⟨⟨l, r⟩, hR⟩ : ∃ R, put [⟨⟨#[120]⟩, ⟨1, 1, false, ⟨#[]⟩⟩⟩] [⟨⟨#[120]⟩, ⟨1, 1, false, ⟨#[]⟩⟩⟩, ⟨⟨#[120]⟩, ⟨1, 1, false, ⟨#[]⟩⟩⟩] = R := ⟨_, rfl⟩
  have hr : (put [⟨⟨#[120]⟩, ⟨1, 1, false, ⟨#[]⟩⟩⟩] [⟨⟨#[120]⟩, ⟨1, 1, false, ⟨#[]⟩⟩⟩, ⟨⟨#[120]⟩, ⟨1, 1, false, ⟨#[]⟩⟩⟩]).2 = 6 := by decide +kernel
  rw [hR] at h hr
  simp only at hr
  subst hr
  exact ⟨l, h⟩
theorem nm_u4 (X : World) (sa sb : Value) (h1 : BIn X [⟨⟨#[49]⟩, ⟨0, 0, false, ⟨#[]⟩⟩⟩] sa) (h2 : BIn X [] sb) (hX : Tabs X) : ∃ l, Calls Tryd.prog 25 #[sa, sb] X (PutOf (l, 1) X) := by
  have h := vput_any [⟨⟨#[49]⟩, ⟨0, 0, false, ⟨#[]⟩⟩⟩] [] sa sb X h1 h2 hX (by decide) (by decide) (by decide) (by decide)
  obtain ⟨⟨l, r⟩, hR⟩ : ∃ R, put [⟨⟨#[49]⟩, ⟨0, 0, false, ⟨#[]⟩⟩⟩] [] = R := ⟨_, rfl⟩
  have hr : (put [⟨⟨#[49]⟩, ⟨0, 0, false, ⟨#[]⟩⟩⟩] []).2 = 1 := by decide +kernel
  rw [hR] at h hr
  simp only at hr
  subst hr
  exact ⟨l, h⟩
structure KY (l : List (Nat × Val)) (M : Nat) (w r : World) : Prop where
  kv : KV l w r
  lt : ∀ p ∈ l, p.1 < M
  lo : w.heap.size ≤ M
theorem KY.drew {l : List (Nat × Val)} {M : Nat} {w r : World} (h : KY l M w r) : KY l M w r.drew := ⟨h.kv.drew, h.lt, h.lo⟩
theorem kyE {l : List (Nat × Val)} {M : Nat} {w r : World} (hE : Hid (VEnv w)) (h : Hid (KY l M w r)) : VEnv r := hE.out.below h.out.kv.hb
theorem ky_after {l : List (Nat × Val)} {M : Nat} {w r r' : World} (h : Hid (KY l M w r)) (b : Below r.heap.size r r') : Hid (KY l M w r') :=
  ⟨h.out.kv.below b, h.out.lt, h.out.lo⟩
theorem kvalloc {l : List (Nat × Val)} {w r : World} (h : KV l w r) (o : Obj) : KV l w (r.alloc o) := ⟨h.hb.alloc h.hb.size _, fun p hp => by rw [Lib.alloc_old r _ _ (Go.lt_of_block (h.got p hp))]; exact h.got p hp⟩
theorem ky_alloc {l : List (Nat × Val)} {M : Nat} {w r : World} {o : Obj} (h : Hid (KY l M w r)) : Hid (KY l M w (r.alloc o)) :=
  ⟨kvalloc h.out.kv o, h.out.lt, h.out.lo⟩
theorem ky_swap {l : List (Nat × Val)} {M : Nat} {w r : World} {o o' : Obj} (h : Hid (KY l M w (r.alloc o))) (s0 : M ≤ r.heap.size) : Hid (KY l M w (r.alloc o')) := by
  have hl := h.out.lo
  refine ⟨⟨⟨h.out.kv.hb.os, h.out.kv.hb.tape, h.out.kv.hb.output, ?_, ?_⟩, ?_⟩, h.out.lt, hl⟩
  · show _ ≤ (r.heap.push o').size
    simp; omega
  · intro k hk
    rw [Lib.alloc_old r _ _ (by omega), ← Lib.alloc_old r o _ (by omega)]
    exact h.out.kv.hb.block k hk
  · intro p hp
    have := h.out.lt p hp
    rw [Lib.alloc_old r _ _ (by omega), ← Lib.alloc_old r o _ (by omega)]
    exact h.out.kv.got p hp
theorem ky_set {l : List (Nat × Val)} {M B : Nat} {w r : World} {x y z u x' y' z' u' : Value} {t : TypeId} (h : Hid (KY l M w r)) (hN : r.heap[B]? = some (.cells #[x, y, z, u] t (0, 0)) ∧ M ≤ B) : Hid (KY l M w ((((r.setCell ⟨B, 0, none⟩ x').setCell ⟨B, 1, none⟩ y').setCell ⟨B, 2, none⟩ z').setCell ⟨B, 3, none⟩ u')) := by
  have b := below4_set (Below.refl M r) (b := B) hN.2 x' y' z' u'
  refine ⟨⟨h.out.kv.hb.trans (b.mono h.out.lo), fun p hp => ?_⟩, h.out.lt, h.out.lo⟩
  exact (b.block _ (h.out.lt p hp)).trans (h.out.kv.got p hp)
theorem ny_held {M : Nat} {r r' : World} {x y z u : Value} (b : Below (r.alloc (.cells #[x, y, z, u] 23)).heap.size (r.alloc (.cells #[x, y, z, u] 23)) r') (h : M ≤ r.heap.size) : r'.heap[r.heap.size]? = some (.cells #[x, y, z, u] 23 (0, 0)) ∧ M ≤ r.heap.size :=
  ⟨(b.block _ (by simp)).trans (heap_alloc_new _ _), h⟩
theorem ny_heldD {M : Nat} {r r' : World} {x y z u : Value} (b : Below (r.alloc (.cells #[x, y, z, u] 23)).drew.heap.size (r.alloc (.cells #[x, y, z, u] 23)).drew r') (h : M ≤ r.heap.size) : r'.heap[r.heap.size]? = some (.cells #[x, y, z, u] 23 (0, 0)) ∧ M ≤ r.heap.size :=
  ⟨(b.block _ (by show _ < (r.alloc _).heap.size; simp)).trans (heap_alloc_new _ _), h⟩
theorem ny_after {B M : Nat} {r r' : World} {o : Obj} (b : Below r.heap.size r r') (h : r.heap[B]? = some o ∧ M ≤ B) : r'.heap[B]? = some o ∧ M ≤ B := ⟨(b.block _ (Go.lt_of_block h.1)).trans h.1, h.2⟩
theorem of4 {p0 p1 p2 p3 Q : Prop} (h : p0 ∧ p1 ∧ p2 ∧ p3 ∧ Q) : Q := h.2.2.2.2

def fillN (n j : Nat) : List UInt8 := List.replicate j 97 ++ List.replicate (n - j) 0
def fillL (j : Nat) : List UInt8 := fillN 1025 j
theorem fillN_length (n j : Nat) (h : j ≤ n) : (Lib.byteCells (fillN n j)).length = n := by
  unfold Lib.byteCells fillN; simp; omega
theorem fillN_start (n : Nat) : Lib.byteCells (fillN n 0) = (madeCells (Value.int .u8 0).cells (n * 1)).toList := by
  rw [show (Value.int .u8 0).cells = #[.int .u8 0] from rfl, toList_madeCells_one]
  unfold Lib.byteCells fillN
  simp
theorem fillN_end (n : Nat) : Lib.byteCells (fillN n n) = Lib.byteCells (List.replicate n 97) := by
  unfold fillN; simp
theorem fillN_step (n j : Nat) (h : j < n) : (Lib.byteCells (fillN n j)).set j (.int .u8 97) = Lib.byteCells (fillN n (j + 1)) := by
  have e : (.int .u8 97 : Value) = (fun c : UInt8 => Value.int .u8 c.toNat) 97 := rfl
  unfold Lib.byteCells
  rw [e, ← List.map_set]
  congr 1
  unfold fillN
  rw [List.set_append_right _ _ (by simp), List.length_replicate, Nat.sub_self, show n - j = (n - (j + 1)) + 1 by omega, List.replicate_succ, List.set_cons_zero, List.replicate_succ', List.append_assoc]
  rfl
theorem fill_length (j : Nat) (h : j ≤ 1025) : (Lib.byteCells (fillL j)).length = 1025 := fillN_length 1025 j h
theorem fill_start : Lib.byteCells (fillL 0) = (madeCells (Value.int .u8 0).cells (1025 * 1)).toList := fillN_start 1025
theorem fill_end : Lib.byteCells (fillL 1025) = Lib.byteCells (List.replicate 1025 97) := fillN_end 1025
theorem fill_step (j : Nat) (h : j < 1025) : (Lib.byteCells (fillL j)).set j (.int .u8 97) = Lib.byteCells (fillL (j + 1)) := fillN_step 1025 j h
theorem conv_cells {l : List UInt8} {ad : Addr} {cap : Nat} {w : World} (hc : ∀ j u, (Lib.byteCells l)[j]? = some u → w.cell? (ad.add j) = some u) : (convert 59 9 (.slice (some ad) l.length cap)).run Tryd.prog w = .ok (.string ⟨l.toArray⟩) w := by
  rw [run_convert_bytes_string _ _ _ _ _ _ _ Tryd.underlying59 Tryd.underlying5 Tryd.underlying9]
  have hm : (l.map fun c => (c.toNat : Int)).map (Value.int .u8) = Lib.byteCells l := by
    unfold Lib.byteCells; simp
  have hl : (loadCells ad l.length).run Tryd.prog w = .ok ((l.map fun c => (c.toNat : Int)).map (Value.int .u8)).toArray w := by
    have := run_loadCells_list (P := Tryd.prog) w ad ((l.map fun c => (c.toNat : Int)).map (Value.int .u8)) (fun j u hu => by
      rw [hm] at hu; exact hc j u hu)
    simpa using this
  rw [run_bytesToString _ _ _ _ _ hl, foldl_push]
  have hid' : (l.map fun c => (c.toNat : Int)).map (fun n => UInt8.ofNat n.toNat) = l := by
    rw [List.map_map]
    conv => rhs; rw [← List.map_id l]
    refine List.map_congr_left (fun c _ => ?_)
    simp
  rw [hid']
  simp
theorem BIn_one (w : World) (p : Bind) (g : Nat) (h : w.heap[g]? = some (.cells #[.string p.name, .int .u8 p.v.k, .int .i64 p.v.n, .bool p.v.b, .string p.v.s] 43 (0, 0))) : BIn w [p] (.slice (some ⟨g, 0, none⟩) 1 1) := by
  refine Or.inr ⟨by simp, g, 0, 1, rfl, by simp, fun j u hj => ?_⟩
  rw [Nat.zero_add]
  have hj' : (#[Value.string p.name, .int .u8 p.v.k, .int .i64 p.v.n, .bool p.v.b, .string p.v.s] : Array Value)[j]? = some u := by
    rw [← hj]; simp [rowB, Bind.cells]
  rw [cell_of_row w g j _ _ (0, 0) h]; exact hj'
theorem BIn_two (w : World) (p q : Bind) (g : Nat) (h : w.heap[g]? = some (.cells #[.string p.name, .int .u8 p.v.k, .int .i64 p.v.n, .bool p.v.b, .string p.v.s, .string q.name, .int .u8 q.v.k, .int .i64 q.v.n, .bool q.v.b, .string q.v.s] 43 (0, 0))) : BIn w [p, q] (.slice (some ⟨g, 0, none⟩) 2 2) := by
  refine Or.inr ⟨by simp, g, 0, 2, rfl, by simp, fun j u hj => ?_⟩
  rw [Nat.zero_add]
  have hj' : (#[Value.string p.name, .int .u8 p.v.k, .int .i64 p.v.n, .bool p.v.b, .string p.v.s, .string q.name, .int .u8 q.v.k, .int .i64 q.v.n, .bool q.v.b, .string q.v.s] : Array Value)[j]? = some u := by
    rw [← hj]; simp [rowB, Bind.cells]
  rw [cell_of_row w g j _ _ (0, 0) h]; exact hj'
theorem new2 (w : World) (o : Obj) (cs : Array Value) {t : TypeId} : ((w.alloc o).alloc (.cells cs t)).heap[w.heap.size + 1]? = some (.cells cs t (0, 0)) := by
  have := heap_alloc_new (w.alloc o) (.cells cs t)
  simpa using this
/-- the boxes of values, and one of a bind -/
structure KB (l : List (Nat × Val)) (xb : Nat) (w r : World) : Prop where
  kv : KV l w r
  row : r.heap[xb]? = some (.cells #[.string ⟨#[120]⟩, .int .u8 1, .int .i64 1, .bool false, .string ⟨#[]⟩] 43 (0, 0))
theorem KB.drew {l : List (Nat × Val)} {xb : Nat} {w r : World} (h : KB l xb w r) : KB l xb w r.drew := ⟨h.kv.drew, h.row⟩
theorem kb_alloc {l : List (Nat × Val)} {xb : Nat} {w r : World} {o : Obj} (h : Hid (KB l xb w r)) : Hid (KB l xb w (r.alloc o)) := ⟨kvalloc h.out.kv o, by rw [Lib.alloc_old r _ _ (Go.lt_of_block h.out.row)]; exact h.out.row⟩
theorem kb_after {l : List (Nat × Val)} {xb : Nat} {w r r' : World} (h : Hid (KB l xb w r)) (b : Below r.heap.size r r') : Hid (KB l xb w r') := ⟨h.out.kv.below b, (b.block _ (Go.lt_of_block h.out.row)).trans h.out.row⟩
theorem kbE {l : List (Nat × Val)} {xb : Nat} {w r : World} (hE : Hid (VEnv w)) (h : Hid (KB l xb w r)) : VEnv r := hE.out.below h.out.kv.hb
theorem nm_u2c (X : World) (sa sb : Value) (h1 : BIn X [⟨⟨#[120]⟩, ⟨1, 1, false, ⟨#[]⟩⟩⟩] sa) (h2 : BIn X [⟨⟨#[120]⟩, ⟨3, 0, false, ⟨#[97]⟩⟩⟩] sb) (hX : Tabs X) : Calls Tryd.prog 25 #[sa, sb] X (fun e w' => ∃ l, PutOf (l, 90) X e w') := by
  obtain ⟨l, h⟩ := nm_u2 X sa sb h1 h2 hX
  exact h.mono fun e w' h => ⟨l, h⟩
theorem of5 {p0 p1 p2 p3 p4 Q : Prop} (h : p0 ∧ p1 ∧ p2 ∧ p3 ∧ p4 ∧ Q) : Q := h.2.2.2.2.2
theorem n5_held {r r' : World} {cs : Array Value} {t : TypeId} (b : Below (r.alloc (.cells cs t)).heap.size (r.alloc (.cells cs t)) r') : r'.heap[r.heap.size]? = some (.cells cs t (0, 0)) := (b.block _ (by simp)).trans (heap_alloc_new _ _)
theorem n5_heldD {r r' : World} {cs : Array Value} {t : TypeId} (b : Below (r.alloc (.cells cs t)).drew.heap.size (r.alloc (.cells cs t)).drew r') : r'.heap[r.heap.size]? = some (.cells cs t (0, 0)) := (b.block _ (by show _ < (r.alloc _).heap.size; simp)).trans (heap_alloc_new _ _)
theorem aaa_eq (n : Nat) : (⟨(List.replicate n 97).toArray⟩ : ByteArray) = aaa n := rfl

/-- the code behind a region of plain statements -/
def afterR (n : Nat) : Code → Option Code
  | .seq (.region k _ _) b => if k = n then some b else afterR n b
  | .seq a b => match afterR n a with
    | some c => some c
    | none => afterR n b
  | .block _ c => afterR n c
  | .scope c => afterR n c
  | _ => none
noncomputable def namesTail (n : Nat) : Code := (Tryd.f10.body.bind (afterR n)).getD .skip
set_option maxRecDepth 100000 in
set_option maxHeartbeats 20000000 in
theorem names_34 (w w57 : World) (x29 x27 x13 x4 x3 x2 x1 xb : Nat) (c0 c1 c2 c4 c5 c6 c7 c8 c9 c10 c11 c12 c13 c14 c15 c16 c17 c18 c19 c20 c21 c22 c23 c24 c25 c26 c27 c28 c29 c30 c31 c32 c33 c35 c37 c40 c42 c44 c45 c46 c47 c48 c49 c50 c51 c52 c53 c54 c55 c56 c57 c58 c59 c60 c61 c62 c63 c64 c65 c66 c67 c68 c69 c70 c71 c72 c73 c74 c75 c76 c77 c78 c79 c80 c81 c82 c83 c84 c85 c86 c87 c88 c89 c90 c91 c92 c93 c94 c95 c96 c97 c98 c99 c100 c101 c102 c103 c104 c105 c106 c107 c108 c109 c110 c111 c112 c113 c114 c115 c116 c117 c118 c119 c120 c121 c122 c123 c124 c125 c126 c127 c128 c129 c130 c131 c132 c133 c134 c135 c136 c137 c138 c139 c140 c141 c142 c143 c144 c145 c146 c147 c148 c149 c150 c151 c152 c153 c154 c155 c156 c157 c158 c159 c160 c161 c162 c163 c164 c165 c166 c167 c168 c169 c170 c171 c172 c173 c174 c175 c176 c177 c178 c179 c180 c181 c182 c183 c184 c185 c186 c187 c188 c189 c190 c191 c192 c193 c194 c195 c196 c197 c198 c199 c200 c201 c202 c203 c204 c205 c206 c207 c208 c209 c210 c211 c212 c213 c214 c215 c216 c217 c218 c219 c220 c221 c222 c223 c224 c225 c226 c227 c228 c229 c230 c231 c232 c233 c234 c235 c236 c237 c238 c239 c240 c241 c242 c243 c244 c245 c246 c247 c248 c249 c250 c251 c252 c253 c254 c255 c256 c257 c258 c259 c260 c261 c262 c263 c264 c265 c266 c267 c268 c269 c270 c271 c272 c273 c274 c275 c276 c277 c278 c279 c280 c281 c282 c283 c284 c285 c286 c287 c288 c289 c290 c291 c292 c293 c294 c295 c296 c297 c298 c299 c300 c301 c302 c303 c304 c305 c306 c307 c308 c309 c310 c311 c312 c313 c314 c315 c316 c317 c318 c319 c320 c321 c322 c323 c324 c325 c326 c327 c328 c329 c330 c331 c332 c333 c334 c335 c336 c337 c338 : Value) (hE : VEnv w) (hB : KB [(x29, ⟨1, (-9223372036854775808), false, ⟨#[]⟩⟩), (x27, ⟨1, (-1), false, ⟨#[]⟩⟩), (x13, ⟨1, 0, false, ⟨#[]⟩⟩), (x4, ⟨1, (-1), false, ⟨#[]⟩⟩), (x3, ⟨1, 1, false, ⟨#[]⟩⟩), (x2, ⟨1, 9223372036854775807, false, ⟨#[]⟩⟩), (x1, ⟨1, (-9223372036854775808), false, ⟨#[]⟩⟩)] xb w w57) :
    Code.wp Tryd.prog (namesTail 34) (bodyPost Tryd.prog Tryd.f10 (fun e w' => e = .returned (.bool true) ∧ Below w.heap.size w w')) ⟨(c0 :: c1 :: c2 :: (.pointer (some ⟨x3, 0, none⟩)) :: c4 :: c5 :: c6 :: c7 :: c8 :: c9 :: c10 :: c11 :: c12 :: c13 :: c14 :: c15 :: c16 :: c17 :: c18 :: c19 :: c20 :: c21 :: c22 :: c23 :: c24 :: c25 :: c26 :: c27 :: c28 :: c29 :: c30 :: c31 :: c32 :: c33 :: (.int .i64 4) :: c35 :: (.int .i64 4) :: c37 :: (.int .i64 1) :: (.pointer (some ⟨xb, 0, none⟩)) :: c40 :: (.int .i64 100) :: c42 :: (.int .i64 90) :: c44 :: c45 :: c46 :: c47 :: c48 :: c49 :: c50 :: c51 :: c52 :: c53 :: c54 :: c55 :: c56 :: c57 :: c58 :: c59 :: c60 :: c61 :: c62 :: c63 :: c64 :: c65 :: c66 :: c67 :: c68 :: c69 :: c70 :: c71 :: c72 :: c73 :: c74 :: c75 :: c76 :: c77 :: c78 :: c79 :: c80 :: c81 :: c82 :: c83 :: c84 :: c85 :: c86 :: c87 :: c88 :: c89 :: c90 :: c91 :: c92 :: c93 :: c94 :: c95 :: c96 :: c97 :: c98 :: c99 :: c100 :: c101 :: c102 :: c103 :: c104 :: c105 :: c106 :: c107 :: c108 :: c109 :: c110 :: c111 :: c112 :: c113 :: c114 :: c115 :: c116 :: c117 :: c118 :: c119 :: c120 :: c121 :: c122 :: c123 :: c124 :: c125 :: c126 :: c127 :: c128 :: c129 :: c130 :: c131 :: c132 :: c133 :: c134 :: c135 :: c136 :: c137 :: c138 :: c139 :: c140 :: c141 :: c142 :: c143 :: c144 :: c145 :: c146 :: c147 :: c148 :: c149 :: c150 :: c151 :: c152 :: c153 :: c154 :: c155 :: c156 :: c157 :: c158 :: c159 :: c160 :: c161 :: c162 :: c163 :: c164 :: c165 :: c166 :: c167 :: c168 :: c169 :: c170 :: c171 :: c172 :: c173 :: c174 :: c175 :: c176 :: c177 :: c178 :: c179 :: c180 :: c181 :: c182 :: c183 :: c184 :: c185 :: c186 :: c187 :: c188 :: c189 :: c190 :: c191 :: c192 :: c193 :: c194 :: c195 :: c196 :: c197 :: c198 :: c199 :: c200 :: c201 :: c202 :: c203 :: c204 :: c205 :: c206 :: c207 :: c208 :: c209 :: c210 :: c211 :: c212 :: c213 :: c214 :: c215 :: c216 :: c217 :: c218 :: c219 :: c220 :: c221 :: c222 :: c223 :: c224 :: c225 :: c226 :: c227 :: c228 :: c229 :: c230 :: c231 :: c232 :: c233 :: c234 :: c235 :: c236 :: c237 :: c238 :: c239 :: c240 :: c241 :: c242 :: c243 :: c244 :: c245 :: c246 :: c247 :: c248 :: c249 :: c250 :: c251 :: c252 :: c253 :: c254 :: c255 :: c256 :: c257 :: c258 :: c259 :: c260 :: c261 :: c262 :: c263 :: c264 :: c265 :: c266 :: c267 :: c268 :: c269 :: c270 :: c271 :: c272 :: c273 :: c274 :: c275 :: c276 :: c277 :: c278 :: c279 :: c280 :: c281 :: c282 :: c283 :: c284 :: c285 :: c286 :: c287 :: c288 :: c289 :: c290 :: c291 :: c292 :: c293 :: c294 :: c295 :: c296 :: c297 :: c298 :: c299 :: c300 :: c301 :: c302 :: c303 :: c304 :: c305 :: c306 :: c307 :: c308 :: c309 :: c310 :: c311 :: c312 :: c313 :: c314 :: c315 :: c316 :: c317 :: c318 :: c319 :: c320 :: c321 :: c322 :: c323 :: c324 :: c325 :: c326 :: c327 :: c328 :: c329 :: c330 :: c331 :: c332 :: c333 :: c334 :: c335 :: c336 :: c337 :: c338 :: []).toArray, []⟩ w57 := by
  conv => arg 2; whnf
  have HE := hid hE
  have HB := hid hB
  clear hE hB
  obtain ⟨b0, b1, b2, b3, b4⟩ := row5B HB.out.row
  obtain ⟨a0, a1, a2, a3⟩ := row4 (HB.out.kv.got (x3, ⟨1, 1, false, ⟨#[]⟩⟩) (by simp))
  have HBa : Hid (KB [(x29, ⟨1, (-9223372036854775808), false, ⟨#[]⟩⟩), (x27, ⟨1, (-1), false, ⟨#[]⟩⟩), (x13, ⟨1, 0, false, ⟨#[]⟩⟩), (x4, ⟨1, (-1), false, ⟨#[]⟩⟩), (x3, ⟨1, 1, false, ⟨#[]⟩⟩), (x2, ⟨1, 9223372036854775807, false, ⟨#[]⟩⟩), (x1, ⟨1, (-9223372036854775808), false, ⟨#[]⟩⟩)] xb w (w57.alloc (.cells #[.string ⟨#[120]⟩, .int .u8 1, .int .i64 1, .bool false, .string ⟨#[]⟩] 43))) := kb_alloc HB
  obtain ⟨d0, d1, d2, d3, d4⟩ := row5B HBa.out.row
  obtain ⟨e0, e1, e2, e3⟩ := row4 (HBa.out.kv.got (x3, ⟨1, 1, false, ⟨#[]⟩⟩) (by simp))
  go_wp2_with fail
  clear b0 b1 b2 b3 b4 a0 a1 a2 a3 d0 d1 d2 d3 d4 e0 e1 e2 e3 HBa
  have HB2 : Hid (KB [(x29, ⟨1, (-9223372036854775808), false, ⟨#[]⟩⟩), (x27, ⟨1, (-1), false, ⟨#[]⟩⟩), (x13, ⟨1, 0, false, ⟨#[]⟩⟩), (x4, ⟨1, (-1), false, ⟨#[]⟩⟩), (x3, ⟨1, 1, false, ⟨#[]⟩⟩), (x2, ⟨1, 9223372036854775807, false, ⟨#[]⟩⟩), (x1, ⟨1, (-9223372036854775808), false, ⟨#[]⟩⟩)] xb w ((w57.alloc (.cells #[.string ⟨#[120]⟩, .int .u8 1, .int .i64 1, .bool false, .string ⟨#[]⟩] 43)).alloc (.cells #[.string ⟨#[120]⟩, .int .u8 1, .int .i64 1, .bool false, .string ⟨#[]⟩, .string ⟨#[120]⟩, .int .u8 1, .int .i64 1, .bool false, .string ⟨#[]⟩] 43))) := kb_alloc (kb_alloc (HB))
  obtain ⟨ll, hP⟩ := nm_u3 ((w57.alloc (.cells #[.string ⟨#[120]⟩, .int .u8 1, .int .i64 1, .bool false, .string ⟨#[]⟩] 43)).alloc (.cells #[.string ⟨#[120]⟩, .int .u8 1, .int .i64 1, .bool false, .string ⟨#[]⟩, .string ⟨#[120]⟩, .int .u8 1, .int .i64 1, .bool false, .string ⟨#[]⟩] 43)) _ _ (BIn_one _ ⟨⟨#[120]⟩, ⟨1, 1, false, ⟨#[]⟩⟩⟩ w57.heap.size ((Lib.alloc_old _ _ _ (by simp)).trans (heap_alloc_new w57 _))) (BIn_two _ ⟨⟨#[120]⟩, ⟨1, 1, false, ⟨#[]⟩⟩⟩ ⟨⟨#[120]⟩, ⟨1, 1, false, ⟨#[]⟩⟩⟩ (w57.heap.size + 1) (new2 w57 _ _)) (HE.out.below HB2.out.kv.hb).tabs
  refine hP.mono ?_
  rintro e w58 ⟨vv, rfl, _, bb⟩
  have HB3 := kb_after HB2 bb
  clear bb HB HB2 hP
  have HB := hid HB3.out
  clear HB3
  simp only
  obtain ⟨b0, b1, b2, b3, b4⟩ := row5B HB.out.row
  obtain ⟨a0, a1, a2, a3⟩ := row4 (HB.out.kv.got (x3, ⟨1, 1, false, ⟨#[]⟩⟩) (by simp))
  have HBa : Hid (KB [(x29, ⟨1, (-9223372036854775808), false, ⟨#[]⟩⟩), (x27, ⟨1, (-1), false, ⟨#[]⟩⟩), (x13, ⟨1, 0, false, ⟨#[]⟩⟩), (x4, ⟨1, (-1), false, ⟨#[]⟩⟩), (x3, ⟨1, 1, false, ⟨#[]⟩⟩), (x2, ⟨1, 9223372036854775807, false, ⟨#[]⟩⟩), (x1, ⟨1, (-9223372036854775808), false, ⟨#[]⟩⟩)] xb w (w58.alloc (.cells #[.string ⟨#[49]⟩, .int .u8 0, .int .i64 0, .bool false, .string ⟨#[]⟩] 43))) := kb_alloc HB
  obtain ⟨d0, d1, d2, d3, d4⟩ := row5B HBa.out.row
  obtain ⟨e0, e1, e2, e3⟩ := row4 (HBa.out.kv.got (x3, ⟨1, 1, false, ⟨#[]⟩⟩) (by simp))
  go_wp2_with fail
  clear b0 b1 b2 b3 b4 a0 a1 a2 a3 d0 d1 d2 d3 d4 e0 e1 e2 e3 HBa
  have HB2 : Hid (KB [(x29, ⟨1, (-9223372036854775808), false, ⟨#[]⟩⟩), (x27, ⟨1, (-1), false, ⟨#[]⟩⟩), (x13, ⟨1, 0, false, ⟨#[]⟩⟩), (x4, ⟨1, (-1), false, ⟨#[]⟩⟩), (x3, ⟨1, 1, false, ⟨#[]⟩⟩), (x2, ⟨1, 9223372036854775807, false, ⟨#[]⟩⟩), (x1, ⟨1, (-9223372036854775808), false, ⟨#[]⟩⟩)] xb w (w58.alloc (.cells #[.string ⟨#[49]⟩, .int .u8 0, .int .i64 0, .bool false, .string ⟨#[]⟩] 43))) := kb_alloc (HB)
  obtain ⟨ll, hP⟩ := nm_u4 (w58.alloc (.cells #[.string ⟨#[49]⟩, .int .u8 0, .int .i64 0, .bool false, .string ⟨#[]⟩] 43)) _ _ (BIn_one _ ⟨⟨#[49]⟩, ⟨0, 0, false, ⟨#[]⟩⟩⟩ w58.heap.size (heap_alloc_new w58 _)) (Or.inl ⟨rfl, none, 0, rfl, fun _ => rfl⟩) (HE.out.below HB2.out.kv.hb).tabs
  refine hP.mono ?_
  rintro e w59 ⟨vv, rfl, _, bb⟩
  have HB3 := kb_after HB2 bb
  clear bb HB HB2 hP
  have HB := hid HB3.out
  clear HB3
  simp only
  go_wp2_with fail
  go_ret
  exact ⟨rfl, HB.out.kv.hb⟩
set_option maxRecDepth 100000 in
set_option maxHeartbeats 20000000 in
theorem names_29 (w w50 : World) (x29 x27 x13 x4 x3 x2 x1 : Nat) (c0 c5 c6 c7 c8 c9 c10 c11 c12 c13 c14 c15 c16 c17 c18 c19 c20 c21 c22 c23 c24 c25 c26 c27 c28 c29 c30 c31 c32 c33 c35 c36 c37 c38 c39 c40 c41 c42 c43 c44 c45 c46 c47 c48 c49 c50 c51 c52 c53 c54 c55 c56 c57 c58 c59 c60 c61 c62 c63 c64 c65 c66 c67 c68 c69 c70 c71 c72 c73 c74 c75 c76 c77 c78 c79 c80 c81 c82 c83 c84 c85 c86 c87 c88 c89 c90 c91 c92 c93 c94 c95 c96 c97 c98 c99 c100 c101 c102 c103 c104 c105 c106 c107 c108 c109 c110 c111 c112 c113 c114 c115 c116 c117 c118 c119 c120 c121 c122 c123 c124 c125 c126 c127 c128 c129 c130 c131 c132 c133 c134 c135 c136 c137 c138 c139 c140 c141 c142 c143 c144 c145 c146 c147 c148 c149 c150 c151 c152 c153 c154 c155 c156 c157 c158 c159 c160 c161 c162 c163 c164 c165 c166 c167 c168 c169 c170 c171 c172 c173 c174 c175 c176 c177 c178 c179 c180 c181 c182 c183 c184 c185 c186 c187 c188 c189 c190 c191 c192 c193 c194 c195 c196 c197 c198 c199 c200 c201 c202 c203 c204 c205 c206 c207 c208 c209 c210 c211 c212 c213 c214 c215 c216 c217 c218 c219 c220 c221 c222 c223 c224 c225 c226 c227 c228 c229 c230 c231 c232 c233 c234 c235 c236 c237 c238 c239 c240 c241 c242 c243 c244 c245 c246 c247 c248 c249 c250 c251 c252 c253 c254 c255 c256 c257 c258 c259 c260 c261 c262 c263 c264 c265 c266 c267 c268 c269 c270 c271 c272 c273 c274 c275 c276 c277 c278 c279 c280 c281 c282 c283 c284 c285 c286 c287 c288 c289 c290 c291 c292 c293 c294 c295 c296 c297 c298 c299 c300 c301 c302 c303 c304 c305 c306 c307 c308 c309 c310 c311 c312 c313 c314 c315 c316 c317 c318 c319 c320 c321 c322 c323 c324 c325 c326 c327 c328 c329 c330 c331 c332 c333 c334 c335 c336 c337 c338 : Value) (hE : VEnv w) (hK : KV [(x29, ⟨1, (-9223372036854775808), false, ⟨#[]⟩⟩), (x27, ⟨1, (-1), false, ⟨#[]⟩⟩), (x13, ⟨1, 0, false, ⟨#[]⟩⟩), (x4, ⟨1, (-1), false, ⟨#[]⟩⟩), (x3, ⟨1, 1, false, ⟨#[]⟩⟩), (x2, ⟨1, 9223372036854775807, false, ⟨#[]⟩⟩), (x1, ⟨1, (-9223372036854775808), false, ⟨#[]⟩⟩)] w w50) :
    Code.wp Tryd.prog (namesTail 29) (bodyPost Tryd.prog Tryd.f10 (fun e w' => e = .returned (.bool true) ∧ Below w.heap.size w w')) ⟨(c0 :: (.pointer (some ⟨x1, 0, none⟩)) :: (.pointer (some ⟨x2, 0, none⟩)) :: (.pointer (some ⟨x3, 0, none⟩)) :: (.pointer (some ⟨x4, 0, none⟩)) :: c5 :: c6 :: c7 :: c8 :: c9 :: c10 :: c11 :: c12 :: c13 :: c14 :: c15 :: c16 :: c17 :: c18 :: c19 :: c20 :: c21 :: c22 :: c23 :: c24 :: c25 :: c26 :: c27 :: c28 :: c29 :: c30 :: c31 :: c32 :: c33 :: (.int .i64 4) :: c35 :: c36 :: c37 :: c38 :: c39 :: c40 :: c41 :: c42 :: c43 :: c44 :: c45 :: c46 :: c47 :: c48 :: c49 :: c50 :: c51 :: c52 :: c53 :: c54 :: c55 :: c56 :: c57 :: c58 :: c59 :: c60 :: c61 :: c62 :: c63 :: c64 :: c65 :: c66 :: c67 :: c68 :: c69 :: c70 :: c71 :: c72 :: c73 :: c74 :: c75 :: c76 :: c77 :: c78 :: c79 :: c80 :: c81 :: c82 :: c83 :: c84 :: c85 :: c86 :: c87 :: c88 :: c89 :: c90 :: c91 :: c92 :: c93 :: c94 :: c95 :: c96 :: c97 :: c98 :: c99 :: c100 :: c101 :: c102 :: c103 :: c104 :: c105 :: c106 :: c107 :: c108 :: c109 :: c110 :: c111 :: c112 :: c113 :: c114 :: c115 :: c116 :: c117 :: c118 :: c119 :: c120 :: c121 :: c122 :: c123 :: c124 :: c125 :: c126 :: c127 :: c128 :: c129 :: c130 :: c131 :: c132 :: c133 :: c134 :: c135 :: c136 :: c137 :: c138 :: c139 :: c140 :: c141 :: c142 :: c143 :: c144 :: c145 :: c146 :: c147 :: c148 :: c149 :: c150 :: c151 :: c152 :: c153 :: c154 :: c155 :: c156 :: c157 :: c158 :: c159 :: c160 :: c161 :: c162 :: c163 :: c164 :: c165 :: c166 :: c167 :: c168 :: c169 :: c170 :: c171 :: c172 :: c173 :: c174 :: c175 :: c176 :: c177 :: c178 :: c179 :: c180 :: c181 :: c182 :: c183 :: c184 :: c185 :: c186 :: c187 :: c188 :: c189 :: c190 :: c191 :: c192 :: c193 :: c194 :: c195 :: c196 :: c197 :: c198 :: c199 :: c200 :: c201 :: c202 :: c203 :: c204 :: c205 :: c206 :: c207 :: c208 :: c209 :: c210 :: c211 :: c212 :: c213 :: c214 :: c215 :: c216 :: c217 :: c218 :: c219 :: c220 :: c221 :: c222 :: c223 :: c224 :: c225 :: c226 :: c227 :: c228 :: c229 :: c230 :: c231 :: c232 :: c233 :: c234 :: c235 :: c236 :: c237 :: c238 :: c239 :: c240 :: c241 :: c242 :: c243 :: c244 :: c245 :: c246 :: c247 :: c248 :: c249 :: c250 :: c251 :: c252 :: c253 :: c254 :: c255 :: c256 :: c257 :: c258 :: c259 :: c260 :: c261 :: c262 :: c263 :: c264 :: c265 :: c266 :: c267 :: c268 :: c269 :: c270 :: c271 :: c272 :: c273 :: c274 :: c275 :: c276 :: c277 :: c278 :: c279 :: c280 :: c281 :: c282 :: c283 :: c284 :: c285 :: c286 :: c287 :: c288 :: c289 :: c290 :: c291 :: c292 :: c293 :: c294 :: c295 :: c296 :: c297 :: c298 :: c299 :: c300 :: c301 :: c302 :: c303 :: c304 :: c305 :: c306 :: c307 :: c308 :: c309 :: c310 :: c311 :: c312 :: c313 :: c314 :: c315 :: c316 :: c317 :: c318 :: c319 :: c320 :: c321 :: c322 :: c323 :: c324 :: c325 :: c326 :: c327 :: c328 :: c329 :: c330 :: c331 :: c332 :: c333 :: c334 :: c335 :: c336 :: c337 :: c338 :: []).toArray, []⟩ w50 := by
  conv => arg 2; whnf
  have HE := hid hE
  have HK := hid hK
  clear hE hK
  go_wp2_with fail
  obtain ⟨qk, qn, qb, qs, hP⟩ := nm_p2 w50 (HE.out.below HK.out.hb)
  refine hP.mono ?_
  rintro e w51 ⟨rfl, bb⟩
  have HK1 := hid (HK.out.below bb)
  clear bb HK hP
  have HK := hid HK1.out
  clear HK1
  go_upto_region 31 with fail
  have HK1 := hid (kvalloc HK.out (.cells #[.int .u8 qk, .int .i64 qn, .bool qb, .string qs] 23))
  generalize World.alloc w51 _ = w52 at *
  clear HK
  have HK := hid HK1.out
  clear HK1
  go_wp2_with fail
  obtain ⟨qk, qn, qb, qs, hP⟩ := nm_p3 w52 (HE.out.below HK.out.hb)
  refine hP.mono ?_
  rintro e w53 ⟨rfl, bb⟩
  have HK1 := hid (HK.out.below bb)
  clear bb HK hP
  have HK := hid HK1.out
  clear HK1
  go_upto_region 32 with fail
  have HK1 := hid (kvalloc HK.out (.cells #[.int .u8 qk, .int .i64 qn, .bool qb, .string qs] 23))
  generalize World.alloc w53 _ = w54 at *
  clear HK
  have HK := hid HK1.out
  clear HK1
  have h0 : w54.heap[x3]? = some (.cells #[.int .u8 1, .int .i64 1, .bool false, .string ⟨#[]⟩] 23 (0, 0)) := HK.out.got (x3, ⟨1, 1, false, ⟨#[]⟩⟩) (by simp)
  obtain ⟨x30, x31, x32, x33⟩ := row4 h0
  clear h0
  go_upto_region 33 with fail
  clear x30 x31 x32 x33
  have HB : Hid (KB [(x29, ⟨1, (-9223372036854775808), false, ⟨#[]⟩⟩), (x27, ⟨1, (-1), false, ⟨#[]⟩⟩), (x13, ⟨1, 0, false, ⟨#[]⟩⟩), (x4, ⟨1, (-1), false, ⟨#[]⟩⟩), (x3, ⟨1, 1, false, ⟨#[]⟩⟩), (x2, ⟨1, 9223372036854775807, false, ⟨#[]⟩⟩), (x1, ⟨1, (-9223372036854775808), false, ⟨#[]⟩⟩)] w54.heap.size w (w54.alloc (.cells #[.string ⟨#[120]⟩, .int .u8 1, .int .i64 1, .bool false, .string ⟨#[]⟩] 43))) := ⟨kvalloc HK.out _, heap_alloc_new _ _⟩
  generalize World.alloc w54 _ = w55 at *
  obtain ⟨xb, hxb⟩ : ∃ xb, w54.heap.size = xb := ⟨_, rfl⟩
  rw [hxb] at HB ⊢
  clear hxb HK
  obtain ⟨b0, b1, b2, b3, b4⟩ := row5B HB.out.row
  obtain ⟨a0, a1, a2, a3⟩ := row4 (HB.out.kv.got (x3, ⟨1, 1, false, ⟨#[]⟩⟩) (by simp))
  have HBa : Hid (KB [(x29, ⟨1, (-9223372036854775808), false, ⟨#[]⟩⟩), (x27, ⟨1, (-1), false, ⟨#[]⟩⟩), (x13, ⟨1, 0, false, ⟨#[]⟩⟩), (x4, ⟨1, (-1), false, ⟨#[]⟩⟩), (x3, ⟨1, 1, false, ⟨#[]⟩⟩), (x2, ⟨1, 9223372036854775807, false, ⟨#[]⟩⟩), (x1, ⟨1, (-9223372036854775808), false, ⟨#[]⟩⟩)] xb w (w55.alloc (.cells #[.string ⟨#[120]⟩, .int .u8 1, .int .i64 1, .bool false, .string ⟨#[]⟩] 43))) := kb_alloc HB
  obtain ⟨d0, d1, d2, d3, d4⟩ := row5B HBa.out.row
  obtain ⟨e0, e1, e2, e3⟩ := row4 (HBa.out.kv.got (x3, ⟨1, 1, false, ⟨#[]⟩⟩) (by simp))
  go_wp2_with fail
  clear b0 b1 b2 b3 b4 a0 a1 a2 a3 d0 d1 d2 d3 d4 e0 e1 e2 e3 HBa
  have HB2 : Hid (KB [(x29, ⟨1, (-9223372036854775808), false, ⟨#[]⟩⟩), (x27, ⟨1, (-1), false, ⟨#[]⟩⟩), (x13, ⟨1, 0, false, ⟨#[]⟩⟩), (x4, ⟨1, (-1), false, ⟨#[]⟩⟩), (x3, ⟨1, 1, false, ⟨#[]⟩⟩), (x2, ⟨1, 9223372036854775807, false, ⟨#[]⟩⟩), (x1, ⟨1, (-9223372036854775808), false, ⟨#[]⟩⟩)] xb w ((w55.alloc (.cells #[.string ⟨#[120]⟩, .int .u8 1, .int .i64 1, .bool false, .string ⟨#[]⟩] 43)).alloc (.cells #[.string ⟨#[122]⟩, .int .u8 1, .int .i64 1, .bool false, .string ⟨#[]⟩] 43))) := kb_alloc (kb_alloc (HB))
  obtain ⟨ll, hP⟩ := nm_u1 ((w55.alloc (.cells #[.string ⟨#[120]⟩, .int .u8 1, .int .i64 1, .bool false, .string ⟨#[]⟩] 43)).alloc (.cells #[.string ⟨#[122]⟩, .int .u8 1, .int .i64 1, .bool false, .string ⟨#[]⟩] 43)) _ _ (BIn_one _ ⟨⟨#[120]⟩, ⟨1, 1, false, ⟨#[]⟩⟩⟩ w55.heap.size ((Lib.alloc_old _ _ _ (by simp)).trans (heap_alloc_new w55 _))) (BIn_one _ ⟨⟨#[122]⟩, ⟨1, 1, false, ⟨#[]⟩⟩⟩ (w55.heap.size + 1) (new2 w55 _ _)) (HE.out.below HB2.out.kv.hb).tabs
  refine hP.mono ?_
  rintro e w56 ⟨vv, rfl, _, bb⟩
  have HB3 := kb_after HB2 bb
  clear bb HB HB2 hP
  have HB := hid HB3.out
  clear HB3
  simp only
  go_upto_region 34 with fail
  go_cut [43] (fun s wc => s = .int .i64 90 ∧ Hid (KB [(x29, ⟨1, (-9223372036854775808), false, ⟨#[]⟩⟩), (x27, ⟨1, (-1), false, ⟨#[]⟩⟩), (x13, ⟨1, 0, false, ⟨#[]⟩⟩), (x4, ⟨1, (-1), false, ⟨#[]⟩⟩), (x3, ⟨1, 1, false, ⟨#[]⟩⟩), (x2, ⟨1, 9223372036854775807, false, ⟨#[]⟩⟩), (x1, ⟨1, (-9223372036854775808), false, ⟨#[]⟩⟩)] xb w wc))
  case first =>
    have k5 : ∀ r : World, Hid (KB [(x29, ⟨1, (-9223372036854775808), false, ⟨#[]⟩⟩), (x27, ⟨1, (-1), false, ⟨#[]⟩⟩), (x13, ⟨1, 0, false, ⟨#[]⟩⟩), (x4, ⟨1, (-1), false, ⟨#[]⟩⟩), (x3, ⟨1, 1, false, ⟨#[]⟩⟩), (x2, ⟨1, 9223372036854775807, false, ⟨#[]⟩⟩), (x1, ⟨1, (-9223372036854775808), false, ⟨#[]⟩⟩)] xb w r) → World.cell? r ⟨xb, 0, none⟩ = some (.string ⟨#[120]⟩) ∧ World.cell? r ⟨xb, 1, none⟩ = some (.int .u8 1) ∧ World.cell? r ⟨xb, 2, none⟩ = some (.int .i64 1) ∧ World.cell? r ⟨xb, 3, none⟩ = some (.bool false) ∧ World.cell? r ⟨xb, 4, none⟩ = some (.string ⟨#[]⟩) ∧ Hid (KB [(x29, ⟨1, (-9223372036854775808), false, ⟨#[]⟩⟩), (x27, ⟨1, (-1), false, ⟨#[]⟩⟩), (x13, ⟨1, 0, false, ⟨#[]⟩⟩), (x4, ⟨1, (-1), false, ⟨#[]⟩⟩), (x3, ⟨1, 1, false, ⟨#[]⟩⟩), (x2, ⟨1, 9223372036854775807, false, ⟨#[]⟩⟩), (x1, ⟨1, (-9223372036854775808), false, ⟨#[]⟩⟩)] xb w r) := fun r h => by
      obtain ⟨a0, a1, a2, a3, a4⟩ := row5B h.out.row
      exact ⟨a0, a1, a2, a3, a4, h⟩
    first | go_region_held3 (fun w' => World.cell? w' ⟨xb, 0, none⟩ = some (.string ⟨#[120]⟩) ∧ World.cell? w' ⟨xb, 1, none⟩ = some (.int .u8 1) ∧ World.cell? w' ⟨xb, 2, none⟩ = some (.int .i64 1) ∧ World.cell? w' ⟨xb, 3, none⟩ = some (.bool false) ∧ World.cell? w' ⟨xb, 4, none⟩ = some (.string ⟨#[]⟩) ∧ Hid (KB [(x29, ⟨1, (-9223372036854775808), false, ⟨#[]⟩⟩), (x27, ⟨1, (-1), false, ⟨#[]⟩⟩), (x13, ⟨1, 0, false, ⟨#[]⟩⟩), (x4, ⟨1, (-1), false, ⟨#[]⟩⟩), (x3, ⟨1, 1, false, ⟨#[]⟩⟩), (x2, ⟨1, 9223372036854775807, false, ⟨#[]⟩⟩), (x1, ⟨1, (-9223372036854775808), false, ⟨#[]⟩⟩)] xb w w'))
        (first
          | assumption
          | exact k5 _ (hid HB.out.drew)
          | exact k5 _ (kb_after (of5 (by assumption)) b2)
          | exact k5 _ (kb_after (of5 (by assumption)) b1)
          | exact k5 _ (kb_alloc (of5 (by assumption))))
        (first
          | (go_at_call 44; refine (words_any ⟨#[97]⟩ _).mono ?_; rintro e ww ⟨rfl, b1⟩; first | (have hN := n5_heldD b1) | (have hN := n5_held b1) | skip)
          | (go_at_call 25; refine (nm_u2c _ _ _ (by first | exact BIn_one _ ⟨⟨#[120]⟩, ⟨1, 1, false, ⟨#[]⟩⟩⟩ _ ((Lib.alloc_old _ _ _ (Go.lt_of_block hN)).trans hN) | exact BIn_one _ ⟨⟨#[120]⟩, ⟨1, 1, false, ⟨#[]⟩⟩⟩ _ ((Lib.alloc_old _ _ _ (by simp)).trans (heap_alloc_new _ _)) | exact BIn_one _ ⟨⟨#[120]⟩, ⟨1, 1, false, ⟨#[]⟩⟩⟩ _ (new2 _ _ _)) (by first | exact BIn_one _ ⟨⟨#[120]⟩, ⟨3, 0, false, ⟨#[97]⟩⟩⟩ _ (heap_alloc_new _ _) | exact BIn_one _ ⟨⟨#[120]⟩, ⟨3, 0, false, ⟨#[97]⟩⟩⟩ _ (new2 _ _ _) | exact BIn_one _ ⟨⟨#[120]⟩, ⟨3, 0, false, ⟨#[97]⟩⟩⟩ _ ((Lib.alloc_old _ _ _ (by simp)).trans (heap_alloc_new _ _))) (kbE HE (of5 (by assumption))).tabs).mono ?_; rintro e w55 ⟨ll, vv, rfl, _, b2⟩)) | fail
    all_goals
      go_split_ands
      have B2 := hid (Hid.out (p := KB [(x29, ⟨1, (-9223372036854775808), false, ⟨#[]⟩⟩), (x27, ⟨1, (-1), false, ⟨#[]⟩⟩), (x13, ⟨1, 0, false, ⟨#[]⟩⟩), (x4, ⟨1, (-1), false, ⟨#[]⟩⟩), (x3, ⟨1, 1, false, ⟨#[]⟩⟩), (x2, ⟨1, 9223372036854775807, false, ⟨#[]⟩⟩), (x1, ⟨1, (-9223372036854775808), false, ⟨#[]⟩⟩)] xb w _) (by assumption))
      clear HB
      go_wp2_with fail
      go_meet
      exact ⟨rfl, B2⟩
  case rest =>
    obtain ⟨rfl, hK⟩ := hcut
    apply_assumption
    exact names_34 w wc x29 x27 x13 x4 x3 x2 x1 xb _ _ _ _ _ _ _ _ _ _ _ _ _ _ _ _ _ _ _ _ _ _ _ _ _ _ _ _ _ _ _ _ _ _ _ _ _ _ _ _ _ _ _ _ _ _ _ _ _ _ _ _ _ _ _ _ _ _ _ _ _ _ _ _ _ _ _ _ _ _ _ _ _ _ _ _ _ _ _ _ _ _ _ _ _ _ _ _ _ _ _ _ _ _ _ _ _ _ _ _ _ _ _ _ _ _ _ _ _ _ _ _ _ _ _ _ _ _ _ _ _ _ _ _ _ _ _ _ _ _ _ _ _ _ _ _ _ _ _ _ _ _ _ _ _ _ _ _ _ _ _ _ _ _ _ _ _ _ _ _ _ _ _ _ _ _ _ _ _ _ _ _ _ _ _ _ _ _ _ _ _ _ _ _ _ _ _ _ _ _ _ _ _ _ _ _ _ _ _ _ _ _ _ _ _ _ _ _ _ _ _ _ _ _ _ _ _ _ _ _ _ _ _ _ _ _ _ _ _ _ _ _ _ _ _ _ _ _ _ _ _ _ _ _ _ _ _ _ _ _ _ _ _ _ _ _ _ _ _ _ _ _ _ _ _ _ _ _ _ _ _ _ _ _ _ _ _ _ _ _ _ _ _ _ _ _ _ _ _ _ _ _ _ _ _ _ _ _ _ _ _ _ _ _ _ _ _ _ _ _ _ _ _ _ _ _ _ _ _ _ _ _ _ _ _ _ _ _ _ _ _ _ HE.out hK.out
set_option maxRecDepth 100000 in
set_option maxHeartbeats 20000000 in
theorem names_15 (w w24 : World) (x13 x4 x3 x2 x1 : Nat) (c0 c5 c7 c9 c11 c15 c17 c19 c21 c23 c24 c25 c26 c27 c28 c29 c30 c31 c32 c33 c34 c35 c36 c37 c38 c39 c40 c41 c42 c43 c44 c45 c46 c47 c48 c49 c50 c51 c52 c53 c54 c55 c56 c57 c58 c59 c60 c61 c62 c63 c64 c65 c66 c67 c68 c69 c70 c71 c72 c73 c74 c75 c76 c77 c78 c79 c80 c81 c82 c83 c84 c85 c86 c87 c88 c89 c90 c91 c92 c93 c94 c95 c96 c97 c98 c99 c100 c101 c102 c103 c104 c105 c106 c107 c108 c109 c110 c111 c112 c113 c114 c115 c116 c117 c118 c119 c120 c121 c122 c123 c124 c125 c126 c127 c128 c129 c130 c131 c132 c133 c134 c135 c136 c137 c138 c139 c140 c141 c142 c143 c144 c145 c146 c147 c148 c149 c150 c151 c152 c153 c154 c155 c156 c157 c158 c159 c160 c161 c162 c163 c164 c165 c166 c167 c168 c169 c170 c171 c172 c173 c174 c175 c176 c177 c178 c179 c180 c181 c182 c183 c184 c185 c186 c187 c188 c189 c190 c191 c192 c193 c194 c195 c196 c197 c198 c199 c200 c201 c202 c203 c204 c205 c206 c207 c208 c209 c210 c211 c212 c213 c214 c215 c216 c217 c218 c219 c220 c221 c222 c223 c224 c225 c226 c227 c228 c229 c230 c231 c232 c233 c234 c235 c236 c237 c238 c239 c240 c241 c242 c243 c244 c245 c246 c247 c248 c249 c250 c251 c252 c253 c254 c255 c256 c257 c258 c259 c260 c261 c262 c263 c264 c265 c266 c267 c268 c269 c270 c271 c272 c273 c274 c275 c276 c277 c278 c279 c280 c281 c282 c283 c284 c285 c286 c287 c288 c289 c290 c291 c292 c293 c294 c295 c296 c297 c298 c299 c300 c301 c302 c303 c304 c305 c306 c307 c308 c309 c310 c311 c312 c313 c314 c315 c316 c317 c318 c319 c320 c321 c322 c323 c324 c325 c326 c327 c328 c329 c330 c331 c332 c333 c334 c335 c336 c337 c338 : Value) (hE : VEnv w) (hK : KV [(x13, ⟨1, 0, false, ⟨#[]⟩⟩), (x4, ⟨1, (-1), false, ⟨#[]⟩⟩), (x3, ⟨1, 1, false, ⟨#[]⟩⟩), (x2, ⟨1, 9223372036854775807, false, ⟨#[]⟩⟩), (x1, ⟨1, (-9223372036854775808), false, ⟨#[]⟩⟩)] w w24) :
    Code.wp Tryd.prog (namesTail 15) (bodyPost Tryd.prog Tryd.f10 (fun e w' => e = .returned (.bool true) ∧ Below w.heap.size w w')) ⟨(c0 :: (.pointer (some ⟨x1, 0, none⟩)) :: (.pointer (some ⟨x2, 0, none⟩)) :: (.pointer (some ⟨x3, 0, none⟩)) :: (.pointer (some ⟨x4, 0, none⟩)) :: c5 :: (.int .i64 91) :: c7 :: (.int .i64 91) :: c9 :: (.int .i64 91) :: c11 :: (.int .i64 91) :: (.pointer (some ⟨x13, 0, none⟩)) :: (.int .i64 0) :: c15 :: (.int .i64 91) :: c17 :: (.int .i64 91) :: c19 :: (.int .i64 91) :: c21 :: (.int .i64 90) :: c23 :: c24 :: c25 :: c26 :: c27 :: c28 :: c29 :: c30 :: c31 :: c32 :: c33 :: c34 :: c35 :: c36 :: c37 :: c38 :: c39 :: c40 :: c41 :: c42 :: c43 :: c44 :: c45 :: c46 :: c47 :: c48 :: c49 :: c50 :: c51 :: c52 :: c53 :: c54 :: c55 :: c56 :: c57 :: c58 :: c59 :: c60 :: c61 :: c62 :: c63 :: c64 :: c65 :: c66 :: c67 :: c68 :: c69 :: c70 :: c71 :: c72 :: c73 :: c74 :: c75 :: c76 :: c77 :: c78 :: c79 :: c80 :: c81 :: c82 :: c83 :: c84 :: c85 :: c86 :: c87 :: c88 :: c89 :: c90 :: c91 :: c92 :: c93 :: c94 :: c95 :: c96 :: c97 :: c98 :: c99 :: c100 :: c101 :: c102 :: c103 :: c104 :: c105 :: c106 :: c107 :: c108 :: c109 :: c110 :: c111 :: c112 :: c113 :: c114 :: c115 :: c116 :: c117 :: c118 :: c119 :: c120 :: c121 :: c122 :: c123 :: c124 :: c125 :: c126 :: c127 :: c128 :: c129 :: c130 :: c131 :: c132 :: c133 :: c134 :: c135 :: c136 :: c137 :: c138 :: c139 :: c140 :: c141 :: c142 :: c143 :: c144 :: c145 :: c146 :: c147 :: c148 :: c149 :: c150 :: c151 :: c152 :: c153 :: c154 :: c155 :: c156 :: c157 :: c158 :: c159 :: c160 :: c161 :: c162 :: c163 :: c164 :: c165 :: c166 :: c167 :: c168 :: c169 :: c170 :: c171 :: c172 :: c173 :: c174 :: c175 :: c176 :: c177 :: c178 :: c179 :: c180 :: c181 :: c182 :: c183 :: c184 :: c185 :: c186 :: c187 :: c188 :: c189 :: c190 :: c191 :: c192 :: c193 :: c194 :: c195 :: c196 :: c197 :: c198 :: c199 :: c200 :: c201 :: c202 :: c203 :: c204 :: c205 :: c206 :: c207 :: c208 :: c209 :: c210 :: c211 :: c212 :: c213 :: c214 :: c215 :: c216 :: c217 :: c218 :: c219 :: c220 :: c221 :: c222 :: c223 :: c224 :: c225 :: c226 :: c227 :: c228 :: c229 :: c230 :: c231 :: c232 :: c233 :: c234 :: c235 :: c236 :: c237 :: c238 :: c239 :: c240 :: c241 :: c242 :: c243 :: c244 :: c245 :: c246 :: c247 :: c248 :: c249 :: c250 :: c251 :: c252 :: c253 :: c254 :: c255 :: c256 :: c257 :: c258 :: c259 :: c260 :: c261 :: c262 :: c263 :: c264 :: c265 :: c266 :: c267 :: c268 :: c269 :: c270 :: c271 :: c272 :: c273 :: c274 :: c275 :: c276 :: c277 :: c278 :: c279 :: c280 :: c281 :: c282 :: c283 :: c284 :: c285 :: c286 :: c287 :: c288 :: c289 :: c290 :: c291 :: c292 :: c293 :: c294 :: c295 :: c296 :: c297 :: c298 :: c299 :: c300 :: c301 :: c302 :: c303 :: c304 :: c305 :: c306 :: c307 :: c308 :: c309 :: c310 :: c311 :: c312 :: c313 :: c314 :: c315 :: c316 :: c317 :: c318 :: c319 :: c320 :: c321 :: c322 :: c323 :: c324 :: c325 :: c326 :: c327 :: c328 :: c329 :: c330 :: c331 :: c332 :: c333 :: c334 :: c335 :: c336 :: c337 :: c338 :: []).toArray, []⟩ w24 := by
  conv => arg 2; whnf
  have HE := hid hE
  have HK := hid hK
  clear hE hK
  go_wp2_with fail
  refine (truth_any false _).mono ?_
  rintro e w25 ⟨rfl, bb⟩
  have HK1 := hid (HK.out.below bb)
  clear bb HK 
  have HK := hid HK1.out
  clear HK1
  go_wp2_with fail
  refine (truth_any true _).mono ?_
  rintro e w26 ⟨rfl, bb⟩
  have HK1 := hid (HK.out.below bb)
  clear bb HK 
  have HK := hid HK1.out
  clear HK1
  go_wp2_with fail
  refine (nm_l1 _ (HE.out.below HK.out.hb).tabs).mono ?_
  rintro e w27 ⟨rfl, bb⟩
  have HK1 := hid (HK.out.below bb)
  clear bb HK 
  have HK := hid HK1.out
  clear HK1
  go_upto_region 17 with fail
  refine q_start (C := fun w' => Hid (KV [(x13, ⟨1, 0, false, ⟨#[]⟩⟩), (x4, ⟨1, (-1), false, ⟨#[]⟩⟩), (x3, ⟨1, 1, false, ⟨#[]⟩⟩), (x2, ⟨1, 9223372036854775807, false, ⟨#[]⟩⟩), (x1, ⟨1, (-9223372036854775808), false, ⟨#[]⟩⟩)] w w')) (by kernel_rfl) (by kernel_rfl) (hid HK.out.drew) ?_
  repeat (first
    | (refine q_skip (by rfl) ?_
       try simp only [Act.put, List.setIfInBounds_toArray, List.set_cons_zero, List.set_cons_succ])
    | (refine q_val (by rfl) (x := ?_) (fun vv hC => ?_) ?_
       rotate_left
       · skip
         obtain ⟨a0, a1, a2, a3⟩ := row4 (hC.out.got (x3, ⟨1, 1, false, ⟨#[]⟩⟩) (by simp))
         clear hC
         go_simp
         with_reducible rfl
       try simp only [Act.put, List.setIfInBounds_toArray, List.set_cons_zero, List.set_cons_succ])
    | (refine q_call (by rfl) (f := ?_) (args := ?_) (x := ?_) (fun vv hC => ?_) (fun vv hC => ?_) ?_
       rotate_left 3
       · go_simp
         first | with_reducible rfl | (apply And.intro <;> with_reducible rfl)
       · first
           | (go_at_call 44; with_reducible refine (words_any ⟨#[97]⟩ _).mono ?_; rintro e ww ⟨rfl, bb⟩; refine And.intro ?_ (hid (hC.out.below bb)); with_reducible rfl)
           | (go_at_call 20; with_reducible refine (nm_l2 _ (HE.out.below hC.out.hb).tabs).mono ?_; rintro e ww ⟨rfl, bb⟩; refine And.intro ?_ (hid (hC.out.below bb)); with_reducible rfl)
       try simp only [Act.put, List.setIfInBounds_toArray, List.set_cons_zero, List.set_cons_succ])
    | fail)
  refine wpQuiet_nil ?_
  intro vq hq
  rename World => w28
  clear HK
  have HK := hid hq.out
  clear hq
  go_wp2_with fail
  refine (vnumber_any (-7) _).mono ?_
  rintro e w29 ⟨rfl, bb⟩
  have HK1 := hid (HK.out.below bb)
  clear bb HK 
  have HK := hid HK1.out
  clear HK1
  go_wp2_with fail
  refine (vnumber_any 2 _).mono ?_
  rintro e w30 ⟨rfl, bb⟩
  have HK1 := hid (HK.out.below bb)
  clear bb HK 
  have HK := hid HK1.out
  clear HK1
  go_wp2_with fail
  refine (nm_o3 _ (HE.out.below HK.out.hb).tabs).mono ?_
  rintro e w31 ⟨rfl, bb⟩
  have HK1 := hid (HK.out.below bb)
  clear bb HK 
  have HK := hid HK1.out
  clear HK1
  go_upto_region 19 with fail
  have HK1 : Hid (KV ((w31.heap.size, ⟨1, (-1), false, ⟨#[]⟩⟩) :: [(x13, ⟨1, 0, false, ⟨#[]⟩⟩), (x4, ⟨1, (-1), false, ⟨#[]⟩⟩), (x3, ⟨1, 1, false, ⟨#[]⟩⟩), (x2, ⟨1, 9223372036854775807, false, ⟨#[]⟩⟩), (x1, ⟨1, (-9223372036854775808), false, ⟨#[]⟩⟩)]) w (w31.alloc (.cells #[.int .u8 1, .int .i64 (-1), .bool false, .string ⟨#[]⟩] 23))) := HK.out.box ⟨1, (-1), false, ⟨#[]⟩⟩
  generalize World.alloc w31 _ = w32 at *
  obtain ⟨x27, hx27⟩ : ∃ x27, w31.heap.size = x27 := ⟨_, rfl⟩
  rw [hx27] at HK1 ⊢
  clear hx27 HK
  have HK := hid HK1.out
  clear HK1
  have h0 : w32.heap[x1]? = some (.cells #[.int .u8 1, .int .i64 (-9223372036854775808), .bool false, .string ⟨#[]⟩] 23 (0, 0)) := HK.out.got (x1, ⟨1, (-9223372036854775808), false, ⟨#[]⟩⟩) (by simp)
  obtain ⟨x10, x11, x12, x13⟩ := row4 h0
  clear h0
  have h0 : w32.heap[x3]? = some (.cells #[.int .u8 1, .int .i64 1, .bool false, .string ⟨#[]⟩] 23 (0, 0)) := HK.out.got (x3, ⟨1, 1, false, ⟨#[]⟩⟩) (by simp)
  obtain ⟨x30, x31, x32, x33⟩ := row4 h0
  clear h0
  go_wp2_with fail
  refine (nm_m2 _ (HE.out.below HK.out.hb).tabs).mono ?_
  rintro e w33 ⟨rfl, bb⟩
  have HK1 := hid (HK.out.below bb)
  clear bb HK 
  have HK := hid HK1.out
  clear HK1
  clear x10 x11 x12 x13 x30 x31 x32 x33
  go_upto_region 20 with fail
  have HK1 : Hid (KV ((w33.heap.size, ⟨1, (-9223372036854775808), false, ⟨#[]⟩⟩) :: [(x27, ⟨1, (-1), false, ⟨#[]⟩⟩), (x13, ⟨1, 0, false, ⟨#[]⟩⟩), (x4, ⟨1, (-1), false, ⟨#[]⟩⟩), (x3, ⟨1, 1, false, ⟨#[]⟩⟩), (x2, ⟨1, 9223372036854775807, false, ⟨#[]⟩⟩), (x1, ⟨1, (-9223372036854775808), false, ⟨#[]⟩⟩)]) w (w33.alloc (.cells #[.int .u8 1, .int .i64 (-9223372036854775808), .bool false, .string ⟨#[]⟩] 23))) := HK.out.box ⟨1, (-9223372036854775808), false, ⟨#[]⟩⟩
  generalize World.alloc w33 _ = w34 at *
  obtain ⟨x29, hx29⟩ : ∃ x29, w33.heap.size = x29 := ⟨_, rfl⟩
  rw [hx29] at HK1 ⊢
  clear hx29 HK
  have HK := hid HK1.out
  clear HK1
  have h0 : w34.heap[x13]? = some (.cells #[.int .u8 1, .int .i64 0, .bool false, .string ⟨#[]⟩] 23 (0, 0)) := HK.out.got (x13, ⟨1, 0, false, ⟨#[]⟩⟩) (by simp)
  obtain ⟨x130, x131, x132, x133⟩ := row4 h0
  clear h0
  have h0 : w34.heap[x27]? = some (.cells #[.int .u8 1, .int .i64 (-1), .bool false, .string ⟨#[]⟩] 23 (0, 0)) := HK.out.got (x27, ⟨1, (-1), false, ⟨#[]⟩⟩) (by simp)
  obtain ⟨x270, x271, x272, x273⟩ := row4 h0
  clear h0
  have h0 : w34.heap[x29]? = some (.cells #[.int .u8 1, .int .i64 (-9223372036854775808), .bool false, .string ⟨#[]⟩] 23 (0, 0)) := HK.out.got (x29, ⟨1, (-9223372036854775808), false, ⟨#[]⟩⟩) (by simp)
  obtain ⟨x290, x291, x292, x293⟩ := row4 h0
  clear h0
  have h0 : w34.heap[x1]? = some (.cells #[.int .u8 1, .int .i64 (-9223372036854775808), .bool false, .string ⟨#[]⟩] 23 (0, 0)) := HK.out.got (x1, ⟨1, (-9223372036854775808), false, ⟨#[]⟩⟩) (by simp)
  obtain ⟨x10, x11, x12, x13⟩ := row4 h0
  clear h0
  have hnn := fun X => neq_no 1 (-9223372036854775808) false ⟨#[]⟩ X
  go_upto_region 22 with fail
  clear hnn
  clear x130 x131 x132 x133 x270 x271 x272 x273 x290 x291 x292 x293 x10 x11 x12 x13
  obtain ⟨i0, hi, hz0, hz1, hz2⟩ := info_parts infoByte
  obtain ⟨wm, hmk, hom, hgm⟩ := run_make_full (P := Tryd.prog) w34 w34.heap.size 59 5 i0 (.int .u8 0) 1 Tryd.underlying59 hi hz0 hz1 .i64 .i64 1025 (by rw [hz2]; decide) (by decide) (Nat.le_refl _)
  have bm : Below w34.heap.size w34 wm := (Below.refl _ _).grown hgm (Nat.le_refl _) (fun k hk => by cases hk)
  have HO : Hid (World.ownsRow wm w34.heap.size 5 1 (.slice (some ⟨w34.heap.size, 0, none⟩) 1025 1025) 1025 (Lib.byteCells (fillL 0))) := by
    show World.ownsRow _ _ _ _ _ _ _
    rw [fill_start]
    exact hom
  have BM := hid bm
  replace hmk : (Instr.makeSlice 59 (.int .i64 1025) (.int .i64 1025)).run Tryd.prog w34 = .ok (.slice (some ⟨w34.heap.size, 0, none⟩) 1025 1025) wm := hmk
  clear hom hgm bm hi hz0 hz1 hz2
  go_wp2_with fail
  clear hmk
  obtain ⟨gl, hgl⟩ : ∃ gl, w34.heap.size = gl := ⟨_, rfl⟩
  rw [hgl] at HO BM ⊢
  have HGL := hid hgl
  clear hgl
  go_loopw [32] (fun i wr => ∃ j : Nat, j ≤ 1025 ∧ i = .int .i64 j ∧ Hid (World.ownsRow wr gl 5 1 (.slice (some ⟨gl, 0, none⟩) 1025 1025) 1025 (Lib.byteCells (fillL j))) ∧ Hid (Below gl w34 wr)) (fun i _ => 1025 - (intOf i).toNat)
  case atStart => exact ⟨0, by omega, rfl, HO.out, BM.out⟩
  case round =>
    obtain ⟨j, hj, rfl, hO, hB⟩ := hrel
    clear HO BM
    by_cases hlt : j < 1025
    · have hl0 : decide ((j : Int) < 1025) = true := by simp; omega
      have hj0 : (0 : Int) ≤ (j : Int) := by omega
      have hj1 : (j : Int) < 1025 := by omega
      have hcl := World.ownsRow.cellAt hO.out j (by omega)
      obtain ⟨v0, hv0⟩ : ∃ v, (Lib.byteCells (fillL j))[j]? = some v := ⟨_, List.getElem?_eq_getElem (by rw [fill_length j hj]; omega)⟩
      rw [hv0] at hcl
      have hfr := World.ownsRow.frozenAt hO.out j
      have hst := (World.ownsRow.stored hO.out j (.int .u8 97)).1
      rw [fill_step j hlt] at hst
      have HS := hid hst
      have HB2 := hid (hB.out.setCell (p := ⟨gl, j, none⟩) (Nat.le_refl _) (.int .u8 97))
      clear hst hv0 hO hB
      go_wp2_with fail
      go_roundw
      case rel => exact ⟨j + 1, by omega, by go_num, HS, HB2⟩
      case measure => simp [intOf]; omega
    · have hl0 : decide ((j : Int) < 1025) = false := by simp; omega
      obtain rfl : j = 1025 := by omega
      rename World => w35
      have hfl := hO.out
      rw [fill_end] at hfl
      have HFL := hid hfl
      have HK1 := hid (HK.out.below (by rw [HGL.out]; exact hB.out))
      clear hO hB hfl HK hlt
      have HK := hid HK1.out
      clear HK1
      have hcv := conv_cells (l := List.replicate 1025 97) (ad := ⟨gl, 0, none⟩) (cap := 1025) (fun j u hj => World.ownsRow.cells HFL.out rfl j u hj)
      rw [List.length_replicate] at hcv
      have hgs : gl < w35.heap.size := (World.ownsRow.lt HFL.out gl rfl).2
      have HC2 : Hid (∀ j u, (Lib.byteCells (List.replicate 1024 97))[j]? = some u → w35.cell? ⟨gl, 1 + j, none⟩ = some u) := by
        show ∀ j u, _
        intro j u hj
        have := World.ownsRow.cells HFL.out rfl (j + 1) u (by rw [show (1025 : Nat) = 1024 + 1 from rfl, List.replicate_succ]; exact hj)
        have e : (⟨gl, 0, none⟩ : Addr).add (j + 1) = ⟨gl, 1 + j, none⟩ := by simp [Addr.add]; omega
        rw [← e]; exact this
      have BL := hid (Below.refl w35.heap.size w35)
      have hwl := fun X : World => aaa_eq 1025
      go_wp2_with fail
      refine (words_any (aaa 1025) _).mono ?_
      rintro e w36 ⟨rfl, bb⟩
      have HK1 := hid (HK.out.below bb)
      have BL1 := hid (BL.out.trans (bb.mono BL.out.size))
      clear bb HK BL
      have HK := hid HK1.out
      have BL := hid BL1.out
      clear HK1 BL1
      clear hcv
      go_wp2_with fail
      refine (nm_k1 _ (HE.out.below HK.out.hb).tabs).mono ?_
      rintro e w37 ⟨rfl, bb⟩
      have HK1 := hid (HK.out.below bb)
      have BL1 := hid (BL.out.trans (bb.mono BL.out.size))
      clear bb HK BL
      have HK := hid HK1.out
      have BL := hid BL1.out
      clear HK1 BL1
      have hcv := conv_cells (l := List.replicate 1024 97) (ad := ⟨gl, 1, none⟩) (cap := 1024) (w := w37) (fun j u hj => by
        have e : (⟨gl, 1, none⟩ : Addr).add j = ⟨gl, 1 + j, none⟩ := by cases j <;> simp [Addr.add]
        rw [e, BL.out.cell (p := ⟨gl, 1 + j, none⟩) hgs]; exact HC2.out j u hj)
      rw [List.length_replicate] at hcv
      go_wp2_with fail
      refine (words_any (aaa 1024) _).mono ?_
      rintro e w38 ⟨rfl, bb⟩
      have HK1 := hid (HK.out.below bb)
      have BL1 := hid (BL.out.trans (bb.mono BL.out.size))
      clear bb HK BL
      have HK := hid HK1.out
      have BL := hid BL1.out
      clear HK1 BL1
      clear hcv BL HC2 HFL hgs hwl
      go_wp2_with fail
      refine (nm_k2 _ (HE.out.below HK.out.hb).tabs).mono ?_
      rintro e w39 ⟨rfl, bb⟩
      have HK1 := hid (HK.out.below bb)
      clear bb HK 
      have HK := hid HK1.out
      clear HK1
      go_wp2_with fail
      refine (words_any ⟨#[255]⟩ _).mono ?_
      rintro e w40 ⟨rfl, bb⟩
      have HK1 := hid (HK.out.below bb)
      clear bb HK 
      have HK := hid HK1.out
      clear HK1
      go_wp2_with fail
      refine (nm_k3 _ (HE.out.below HK.out.hb).tabs).mono ?_
      rintro e w41 ⟨rfl, bb⟩
      have HK1 := hid (HK.out.below bb)
      clear bb HK 
      have HK := hid HK1.out
      clear HK1
      go_wp2_with fail
      refine (nm_k4 _ (HE.out.below HK.out.hb).tabs).mono ?_
      rintro e w42 ⟨rfl, bb⟩
      have HK1 := hid (HK.out.below bb)
      clear bb HK 
      have HK := hid HK1.out
      clear HK1
      go_wp2_with fail
      refine (nm_k5 _ (HE.out.below HK.out.hb).tabs).mono ?_
      rintro e w43 ⟨rfl, bb⟩
      have HK1 := hid (HK.out.below bb)
      clear bb HK 
      have HK := hid HK1.out
      clear HK1
      go_wp2_with fail
      refine (vnumber_any 5 _).mono ?_
      rintro e w44 ⟨rfl, bb⟩
      have HK1 := hid (HK.out.below bb)
      clear bb HK 
      have HK := hid HK1.out
      clear HK1
      go_wp2_with fail
      refine (truth_any true _).mono ?_
      rintro e w45 ⟨rfl, bb⟩
      have HK1 := hid (HK.out.below bb)
      clear bb HK 
      have HK := hid HK1.out
      clear HK1
      go_wp2_with fail
      refine (nm_c1 _).mono ?_
      rintro e w46 ⟨rfl, bb⟩
      have HK1 := hid (HK.out.below bb)
      clear bb HK 
      have HK := hid HK1.out
      clear HK1
      go_wp2_with fail
      refine (truth_any false _).mono ?_
      rintro e w47 ⟨rfl, bb⟩
      have HK1 := hid (HK.out.below bb)
      clear bb HK 
      have HK := hid HK1.out
      clear HK1
      go_wp2_with fail
      refine (truth_any true _).mono ?_
      rintro e w48 ⟨rfl, bb⟩
      have HK1 := hid (HK.out.below bb)
      clear bb HK 
      have HK := hid HK1.out
      clear HK1
      go_wp2_with fail
      refine (nm_c2 _).mono ?_
      rintro e w49 ⟨rfl, bb⟩
      have HK1 := hid (HK.out.below bb)
      clear bb HK 
      have HK := hid HK1.out
      clear HK1
      go_upto_region 29 with fail
      go_cut [34] (fun s wc => s = .int .i64 4 ∧ Hid (KV [(x29, ⟨1, (-9223372036854775808), false, ⟨#[]⟩⟩), (x27, ⟨1, (-1), false, ⟨#[]⟩⟩), (x13, ⟨1, 0, false, ⟨#[]⟩⟩), (x4, ⟨1, (-1), false, ⟨#[]⟩⟩), (x3, ⟨1, 1, false, ⟨#[]⟩⟩), (x2, ⟨1, 9223372036854775807, false, ⟨#[]⟩⟩), (x1, ⟨1, (-9223372036854775808), false, ⟨#[]⟩⟩)] w wc))
      case first =>
        go_wp2_with fail
        obtain ⟨qk, qn, qb, qs, hP⟩ := nm_p1 w49 (HE.out.below HK.out.hb)
        refine hP.mono ?_
        rintro e ww ⟨rfl, bb⟩
        have HK1 := hid (kvalloc (HK.out.below bb) (.cells #[.int .u8 qk, .int .i64 qn, .bool qb, .string qs] 23))
        clear bb hP
        go_wp2_with fail
        go_meet
        exact ⟨rfl, HK1⟩
      case rest =>
        obtain ⟨rfl, hK⟩ := hcut
        apply_assumption
        exact names_29 w wc x29 x27 x13 x4 x3 x2 x1 _ _ _ _ _ _ _ _ _ _ _ _ _ _ _ _ _ _ _ _ _ _ _ _ _ _ _ _ _ _ _ _ _ _ _ _ _ _ _ _ _ _ _ _ _ _ _ _ _ _ _ _ _ _ _ _ _ _ _ _ _ _ _ _ _ _ _ _ _ _ _ _ _ _ _ _ _ _ _ _ _ _ _ _ _ _ _ _ _ _ _ _ _ _ _ _ _ _ _ _ _ _ _ _ _ _ _ _ _ _ _ _ _ _ _ _ _ _ _ _ _ _ _ _ _ _ _ _ _ _ _ _ _ _ _ _ _ _ _ _ _ _ _ _ _ _ _ _ _ _ _ _ _ _ _ _ _ _ _ _ _ _ _ _ _ _ _ _ _ _ _ _ _ _ _ _ _ _ _ _ _ _ _ _ _ _ _ _ _ _ _ _ _ _ _ _ _ _ _ _ _ _ _ _ _ _ _ _ _ _ _ _ _ _ _ _ _ _ _ _ _ _ _ _ _ _ _ _ _ _ _ _ _ _ _ _ _ _ _ _ _ _ _ _ _ _ _ _ _ _ _ _ _ _ _ _ _ _ _ _ _ _ _ _ _ _ _ _ _ _ _ _ _ _ _ _ _ _ _ _ _ _ _ _ _ _ _ _ _ _ _ _ _ _ _ _ _ _ _ _ _ _ _ _ _ _ _ _ _ _ _ _ _ _ _ _ _ _ _ _ _ _ _ _ _ _ _ _ _ _ _ _ _ _ HE.out hK.out
end Go.Proofs.YtohdifffdgoaaaaDoor
