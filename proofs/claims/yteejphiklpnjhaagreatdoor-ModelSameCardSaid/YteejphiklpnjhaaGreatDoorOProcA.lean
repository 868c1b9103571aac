/- A process: errors ahead of its attributes. -/
import Derived.Test.YteejphiklpnjhaaGreatDoorOProcH
namespace Go.Proofs.YteejphiklpnjhaaGreatDoor
set_option maxRecDepth 100000
set_option maxHeartbeats 16000000
open Go.RowKit Go.Maps
open Go.Lib (hid)
theorem proc_far1 {P : Nat → Prop} {W : World} {n : X.E} {cs : List Value} {lv : Value} (ok : KidOk W P n cs) (q1 : (n.sp.toList == [104, 116, 116, 112, 58, 47, 47, 119, 119, 119, 46, 111, 109, 103, 46, 111, 114, 103, 47, 115, 112, 101, 99, 47, 66, 80, 77, 78, 47, 50, 48, 49, 48, 48, 53, 50, 52, 47, 77, 79, 68, 69, 76]) = false) {RES : Except O.Er O.Pr} (HRES : RES = .error (121, n.ln, n.cl)) :
  Calls Tryz.prog 43 #[.agg cs.toArray, lv] W (PrOf W RES) := by
 have OK := hid ok
 have HX := hid HRES
 clear HRES
 obtain ⟨av, kv, rfl, hA, hK⟩ := ok.has
 obtain ⟨ka, kc, rfl⟩ := hK.shape
 obtain ⟨L, hL⟩ : ∃ L, n.ks.length = L := ⟨_, rfl⟩
 rw [hL] at OK hK ⊢
 obtain ⟨H, hH⟩ : ∃ H, W.heap.size = H := ⟨_, rfl⟩
 obtain ⟨w1, hw1⟩ : ∃ w1, (W.alloc (.cells #[.string n.sp, .string n.lo, av, .slice ka L kc, .string n.tx, .int .i64 n.ln, .int .i64 n.cl] 44)).alloc (.cells #[.string ⟨#[]⟩, .string ⟨#[]⟩, .slice none 0 0, .slice none 0 0] 106) = w1 := ⟨_, rfl⟩
 have HN1 : Hid (NB W H [.string n.sp, .string n.lo, av, .slice ka L kc, .string n.tx, .int .i64 n.ln, .int .i64 n.cl] 4 106 w1) := by
  show NB _ _ _ _ _ _
  rw [← hw1, ← hH]
  exact nb_first W _ zero4 _
 have HB1 : Hid (Below W.heap.size W w1) := by
  have := HN1.out.b
  rw [← hH] at this
  exact this
 obtain ⟨a0, a1, a2, a3, a4, a5, a6⟩ := row7 HN1.out.n
 have HW1 := hid hw1
 have HH := hid hH
 have cP := plain_any (hasB OK.out.has OK.out.p HB1.out) OK.out.t
 have HLL := hid hL
 have HKI := hid hK
 clear hA hK ok hw1 hH hL
 go_enter Tryz.func43, Tryz.ntmps43
 go_upto_region 1 with fail
 rw [HW1.out, HH.out]
 clear HW1
 clear cP a2 a3 a4 a5 a6
 obtain ⟨rs, hrk, hrow⟩ := HN1.out.r
 obtain ⟨x0, x1, x2, x3, rfl⟩ := len4 hrk
 obtain ⟨y0, y1, y2, y3, yf0, yf1, yf2, yf3⟩ := rowN4 hrow
 obtain ⟨-, -, -, -, -, b5, b6⟩ := row7 HN1.out.n
 have z1 : H + 1 < w1.heap.size := by have := HN1.out.sz; omega
 have z0 : H < w1.heap.size := by omega
 clear hrk hrow
 go_upto_region 2 with fail
 go_region
 clear y0 yf0 y1 yf1 y2 yf2 y3 yf3 z0 z1 b5 b6 a0 a1
 go_wp2_with fail
 exact bodyPost_ret (v := .tuple #[.agg zero4.toArray, .pointer (some ⟨w1.heap.size, 0, none⟩)]) (results_pair rfl _ _ (H + 1) 106 _ (0, 0) _ (.pointer (some ⟨w1.heap.size, 0, none⟩)) rfl (HN1.out.faultR zero4 rfl _) rfl Tryz.underlying106 rfl sizeProc) rfl (Or.inr ⟨_, HX.out, HN1.out.fault zero4 _ _ _⟩)
theorem proc_far2 {P : Nat → Prop} {W : World} {n : X.E} {cs : List Value} {lv : Value} (ok : KidOk W P n cs) (q1 : (n.sp.toList == [104, 116, 116, 112, 58, 47, 47, 119, 119, 119, 46, 111, 109, 103, 46, 111, 114, 103, 47, 115, 112, 101, 99, 47, 66, 80, 77, 78, 47, 50, 48, 49, 48, 48, 53, 50, 52, 47, 77, 79, 68, 69, 76]) = true) (q2 : (n.lo.toList == [112, 114, 111, 99, 101, 115, 115]) = false) {RES : Except O.Er O.Pr} (HRES : RES = .error (121, n.ln, n.cl)) :
  Calls Tryz.prog 43 #[.agg cs.toArray, lv] W (PrOf W RES) := by
 have OK := hid ok
 have HX := hid HRES
 clear HRES
 obtain ⟨av, kv, rfl, hA, hK⟩ := ok.has
 obtain ⟨ka, kc, rfl⟩ := hK.shape
 obtain ⟨L, hL⟩ : ∃ L, n.ks.length = L := ⟨_, rfl⟩
 rw [hL] at OK hK ⊢
 obtain ⟨H, hH⟩ : ∃ H, W.heap.size = H := ⟨_, rfl⟩
 obtain ⟨w1, hw1⟩ : ∃ w1, (W.alloc (.cells #[.string n.sp, .string n.lo, av, .slice ka L kc, .string n.tx, .int .i64 n.ln, .int .i64 n.cl] 44)).alloc (.cells #[.string ⟨#[]⟩, .string ⟨#[]⟩, .slice none 0 0, .slice none 0 0] 106) = w1 := ⟨_, rfl⟩
 have HN1 : Hid (NB W H [.string n.sp, .string n.lo, av, .slice ka L kc, .string n.tx, .int .i64 n.ln, .int .i64 n.cl] 4 106 w1) := by
  show NB _ _ _ _ _ _
  rw [← hw1, ← hH]
  exact nb_first W _ zero4 _
 have HB1 : Hid (Below W.heap.size W w1) := by
  have := HN1.out.b
  rw [← hH] at this
  exact this
 obtain ⟨a0, a1, a2, a3, a4, a5, a6⟩ := row7 HN1.out.n
 have HW1 := hid hw1
 have HH := hid hH
 have cP := plain_any (hasB OK.out.has OK.out.p HB1.out) OK.out.t
 have HLL := hid hL
 have HKI := hid hK
 clear hA hK ok hw1 hH hL
 go_enter Tryz.func43, Tryz.ntmps43
 go_upto_region 1 with fail
 rw [HW1.out, HH.out]
 clear HW1
 clear cP a2 a3 a4 a5 a6
 obtain ⟨rs, hrk, hrow⟩ := HN1.out.r
 obtain ⟨x0, x1, x2, x3, rfl⟩ := len4 hrk
 obtain ⟨y0, y1, y2, y3, yf0, yf1, yf2, yf3⟩ := rowN4 hrow
 obtain ⟨-, -, -, -, -, b5, b6⟩ := row7 HN1.out.n
 have z1 : H + 1 < w1.heap.size := by have := HN1.out.sz; omega
 have z0 : H < w1.heap.size := by omega
 clear hrk hrow
 go_upto_region 2 with fail
 go_region
 clear y0 yf0 y1 yf1 y2 yf2 y3 yf3 z0 z1 b5 b6 a0 a1
 go_wp2_with fail
 exact bodyPost_ret (v := .tuple #[.agg zero4.toArray, .pointer (some ⟨w1.heap.size, 0, none⟩)]) (results_pair rfl _ _ (H + 1) 106 _ (0, 0) _ (.pointer (some ⟨w1.heap.size, 0, none⟩)) rfl (HN1.out.faultR zero4 rfl _) rfl Tryz.underlying106 rfl sizeProc) rfl (Or.inr ⟨_, HX.out, HN1.out.fault zero4 _ _ _⟩)
theorem proc_text {P : Nat → Prop} {W : World} {n : X.E} {cs : List Value} {lv : Value} (ok : KidOk W P n cs) (q1 : (n.sp.toList == [104, 116, 116, 112, 58, 47, 47, 119, 119, 119, 46, 111, 109, 103, 46, 111, 114, 103, 47, 115, 112, 101, 99, 47, 66, 80, 77, 78, 47, 50, 48, 49, 48, 48, 53, 50, 52, 47, 77, 79, 68, 69, 76]) = true) (q2 : (n.lo.toList == [112, 114, 111, 99, 101, 115, 115]) = true) {e : O.Er} (hp : plainE n = some e) {RES : Except O.Er O.Pr} (HRES : RES = .error e) :
   Calls Tryz.prog 43 #[.agg cs.toArray, lv] W (PrOf W RES) := by
 have OK := hid ok
 have HX := hid HRES
 clear HRES
 obtain ⟨av, kv, rfl, hA, hK⟩ := ok.has
 obtain ⟨ka, kc, rfl⟩ := hK.shape
 obtain ⟨L, hL⟩ : ∃ L, n.ks.length = L := ⟨_, rfl⟩
 rw [hL] at OK hK ⊢
 obtain ⟨H, hH⟩ : ∃ H, W.heap.size = H := ⟨_, rfl⟩
 obtain ⟨w1, hw1⟩ : ∃ w1, (W.alloc (.cells #[.string n.sp, .string n.lo, av, .slice ka L kc, .string n.tx, .int .i64 n.ln, .int .i64 n.cl] 44)).alloc (.cells #[.string ⟨#[]⟩, .string ⟨#[]⟩, .slice none 0 0, .slice none 0 0] 106) = w1 := ⟨_, rfl⟩
 have HN1 : Hid (NB W H [.string n.sp, .string n.lo, av, .slice ka L kc, .string n.tx, .int .i64 n.ln, .int .i64 n.cl] 4 106 w1) := by
   show NB _ _ _ _ _ _
   rw [← hw1, ← hH]
   exact nb_first W _ zero4 _
 have HB1 : Hid (Below W.heap.size W w1) := by
   have := HN1.out.b
   rw [← hH] at this
   exact this
 obtain ⟨a0, a1, a2, a3, a4, a5, a6⟩ := row7 HN1.out.n
 have HW1 := hid hw1
 have HH := hid hH
 have cP := plain_any (hasB OK.out.has OK.out.p HB1.out) OK.out.t
 have HLL := hid hL
 have HKI := hid hK
 clear hA hK ok hw1 hH hL
 go_enter Tryz.func43, Tryz.ntmps43
 go_upto_region 1 with fail
 rw [HW1.out, HH.out]
 clear HW1
 rw [hp] at cP
 have HSZ := hid HN1.out.sz
 clear hp
 go_wp2_with fail
 refine cP.mono ?_
 rintro en w3 (⟨h, -, -⟩ | ⟨e', f, hx, rfl, hf, hr, hb⟩)
 · cases h
 obtain rfl := Option.some.inj hx
 have HN3 := hid (HN1.out.below hb)
 have HR := hid hr
 have HF := hid hf
 clear hf hr hb cP a0 a1 a2 a3 a4 a5 a6 hx
 obtain ⟨rs, hrk, hrow⟩ := HN3.out.r
 obtain ⟨x0, x1, x2, x3, rfl⟩ := len4 hrk
 obtain ⟨y0, y1, y2, y3, yf0, yf1, yf2, yf3⟩ := rowN4 hrow
 clear hrk hrow
 go_wp2_with fail
 exact bodyPost_ret (v := .tuple #[.agg zero4.toArray, .pointer (some ⟨f, 0, none⟩)]) (results_pair rfl _ _ (H + 1) 106 _ (0, 0) _ (.pointer (some ⟨f, 0, none⟩)) rfl (HN3.out.set zero4 rfl) rfl Tryz.underlying106 rfl sizeProc) rfl (Or.inr ⟨e, HX.out, HN3.out.pass zero4 e (by have := HSZ.out; have := HF.out; omega) HR.out⟩)
end Go.Proofs.YteejphiklpnjhaaGreatDoor
