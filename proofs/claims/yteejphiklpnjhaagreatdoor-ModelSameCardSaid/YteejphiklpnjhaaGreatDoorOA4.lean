/- build: its ways out ahead of the processes. -/
import Derived.Test.YteejphiklpnjhaaGreatDoorOBuildR
namespace Go.Proofs.YteejphiklpnjhaaGreatDoor
set_option maxRecDepth 100000
set_option maxHeartbeats 16000000
open Go.RowKit Go.Maps
open Go.Lib (hid)
theorem build_far1 {P : Nat → Prop} {W : World} {n : X.E} {cs : List Value} (ok : KidOk W P n cs) (q1 : (n.sp.toList == [104, 116, 116, 112, 58, 47, 47, 119, 119, 119, 46, 111, 109, 103, 46, 111, 114, 103, 47, 115, 112, 101, 99, 47, 66, 80, 77, 78, 47, 50, 48, 49, 48, 48, 53, 50, 52, 47, 77, 79, 68, 69, 76]) = false) {RES : Except O.Er O.M} (HRES : RES = .error (121, n.ln, n.cl)) :
  Calls Tryz.prog 29 #[.agg cs.toArray] W (MdOf W RES) := by
 have OK := hid ok
 have HX := hid HRES
 clear HRES
 obtain ⟨av, kv, rfl, hA, hK⟩ := ok.has
 obtain ⟨ka, kc, rfl⟩ := hK.shape
 obtain ⟨L, hL⟩ : ∃ L, n.ks.length = L := ⟨_, rfl⟩
 rw [hL] at OK hK ⊢
 obtain ⟨H, hH⟩ : ∃ H, W.heap.size = H := ⟨_, rfl⟩
 obtain ⟨w1, hw1⟩ : ∃ w1, (W.alloc (.cells #[.string n.sp, .string n.lo, av, .slice ka L kc, .string n.tx, .int .i64 n.ln, .int .i64 n.cl] 44)).alloc (.cells #[.string ⟨#[]⟩, .string ⟨#[]⟩, .slice none 0 0, .slice none 0 0, .slice none 0 0] 30) = w1 := ⟨_, rfl⟩
 have HN1 : Hid (NB W H [.string n.sp, .string n.lo, av, .slice ka L kc, .string n.tx, .int .i64 n.ln, .int .i64 n.cl] 5 30 w1) := by
  show NB _ _ _ _ _ _
  rw [← hw1, ← hH]
  exact nb_first W _ zero5m _
 have HB1 : Hid (Below W.heap.size W w1) := by
  have := HN1.out.b
  rw [← hH] at this
  exact this
 obtain ⟨a0, a1, a2, a3, a4, a5, a6⟩ := row7 HN1.out.n
 have HW1 := hid hw1
 have HH := hid hH
 have cP := plain_any (hasB OK.out.has OK.out.p HB1.out) OK.out.t
 have HLL := hid hL
 have HKI := hid hK
 clear hA hK ok hw1 hH hL
 go_enter Tryz.func29, Tryz.ntmps29
 go_upto_region 1 with fail
 rw [HW1.out, HH.out]
 clear HW1
 clear cP a2 a3 a4 a5 a6
 obtain ⟨rs, hrk, hrow⟩ := HN1.out.r
 obtain ⟨x0, x1, x2, x3, x4, rfl⟩ := len5 hrk
 obtain ⟨y0, y1, y2, y3, y4, yf0, yf1, yf2, yf3, yf4⟩ := rowN5 hrow
 obtain ⟨-, -, -, -, -, b5, b6⟩ := row7 HN1.out.n
 have z1 : H + 1 < w1.heap.size := by have := HN1.out.sz; omega
 have z0 : H < w1.heap.size := by omega
 clear hrk hrow
 go_upto_region 2 with fail
 go_region
 clear y0 yf0 y1 yf1 y2 yf2 y3 yf3 y4 yf4 z0 z1 b5 b6 a0 a1
 go_wp2_with fail
 exact bodyPost_ret (v := .tuple #[.agg zero5m.toArray, .pointer (some ⟨w1.heap.size, 0, none⟩)]) (results_pair rfl _ _ (H + 1) 30 _ (0, 0) _ (.pointer (some ⟨w1.heap.size, 0, none⟩)) rfl (HN1.out.faultR zero5m rfl _) rfl Tryz.underlying30 rfl sizeModel) rfl (Or.inr ⟨_, HX.out, HN1.out.fault zero5m _ _ _⟩)
theorem build_far2 {P : Nat → Prop} {W : World} {n : X.E} {cs : List Value} (ok : KidOk W P n cs) (q1 : (n.sp.toList == [104, 116, 116, 112, 58, 47, 47, 119, 119, 119, 46, 111, 109, 103, 46, 111, 114, 103, 47, 115, 112, 101, 99, 47, 66, 80, 77, 78, 47, 50, 48, 49, 48, 48, 53, 50, 52, 47, 77, 79, 68, 69, 76]) = true) (q2 : (n.lo.toList == [100, 101, 102, 105, 110, 105, 116, 105, 111, 110, 115]) = false) {RES : Except O.Er O.M} (HRES : RES = .error (121, n.ln, n.cl)) :
  Calls Tryz.prog 29 #[.agg cs.toArray] W (MdOf W RES) := by
 have OK := hid ok
 have HX := hid HRES
 clear HRES
 obtain ⟨av, kv, rfl, hA, hK⟩ := ok.has
 obtain ⟨ka, kc, rfl⟩ := hK.shape
 obtain ⟨L, hL⟩ : ∃ L, n.ks.length = L := ⟨_, rfl⟩
 rw [hL] at OK hK ⊢
 obtain ⟨H, hH⟩ : ∃ H, W.heap.size = H := ⟨_, rfl⟩
 obtain ⟨w1, hw1⟩ : ∃ w1, (W.alloc (.cells #[.string n.sp, .string n.lo, av, .slice ka L kc, .string n.tx, .int .i64 n.ln, .int .i64 n.cl] 44)).alloc (.cells #[.string ⟨#[]⟩, .string ⟨#[]⟩, .slice none 0 0, .slice none 0 0, .slice none 0 0] 30) = w1 := ⟨_, rfl⟩
 have HN1 : Hid (NB W H [.string n.sp, .string n.lo, av, .slice ka L kc, .string n.tx, .int .i64 n.ln, .int .i64 n.cl] 5 30 w1) := by
  show NB _ _ _ _ _ _
  rw [← hw1, ← hH]
  exact nb_first W _ zero5m _
 have HB1 : Hid (Below W.heap.size W w1) := by
  have := HN1.out.b
  rw [← hH] at this
  exact this
 obtain ⟨a0, a1, a2, a3, a4, a5, a6⟩ := row7 HN1.out.n
 have HW1 := hid hw1
 have HH := hid hH
 have cP := plain_any (hasB OK.out.has OK.out.p HB1.out) OK.out.t
 have HLL := hid hL
 have HKI := hid hK
 clear hA hK ok hw1 hH hL
 go_enter Tryz.func29, Tryz.ntmps29
 go_upto_region 1 with fail
 rw [HW1.out, HH.out]
 clear HW1
 clear cP a2 a3 a4 a5 a6
 obtain ⟨rs, hrk, hrow⟩ := HN1.out.r
 obtain ⟨x0, x1, x2, x3, x4, rfl⟩ := len5 hrk
 obtain ⟨y0, y1, y2, y3, y4, yf0, yf1, yf2, yf3, yf4⟩ := rowN5 hrow
 obtain ⟨-, -, -, -, -, b5, b6⟩ := row7 HN1.out.n
 have z1 : H + 1 < w1.heap.size := by have := HN1.out.sz; omega
 have z0 : H < w1.heap.size := by omega
 clear hrk hrow
 go_upto_region 2 with fail
 go_region
 clear y0 yf0 y1 yf1 y2 yf2 y3 yf3 y4 yf4 z0 z1 b5 b6 a0 a1
 go_wp2_with fail
 exact bodyPost_ret (v := .tuple #[.agg zero5m.toArray, .pointer (some ⟨w1.heap.size, 0, none⟩)]) (results_pair rfl _ _ (H + 1) 30 _ (0, 0) _ (.pointer (some ⟨w1.heap.size, 0, none⟩)) rfl (HN1.out.faultR zero5m rfl _) rfl Tryz.underlying30 rfl sizeModel) rfl (Or.inr ⟨_, HX.out, HN1.out.fault zero5m _ _ _⟩)
theorem build_text {P : Nat → Prop} {W : World} {n : X.E} {cs : List Value} (ok : KidOk W P n cs) (q1 : (n.sp.toList == [104, 116, 116, 112, 58, 47, 47, 119, 119, 119, 46, 111, 109, 103, 46, 111, 114, 103, 47, 115, 112, 101, 99, 47, 66, 80, 77, 78, 47, 50, 48, 49, 48, 48, 53, 50, 52, 47, 77, 79, 68, 69, 76]) = true) (q2 : (n.lo.toList == [100, 101, 102, 105, 110, 105, 116, 105, 111, 110, 115]) = true) {e : O.Er} (hp : plainE n = some e) {RES : Except O.Er O.M} (HRES : RES = .error e) :
   Calls Tryz.prog 29 #[.agg cs.toArray] W (MdOf W RES) := by
 have OK := hid ok
 have HX := hid HRES
 clear HRES
 obtain ⟨av, kv, rfl, hA, hK⟩ := ok.has
 obtain ⟨ka, kc, rfl⟩ := hK.shape
 obtain ⟨L, hL⟩ : ∃ L, n.ks.length = L := ⟨_, rfl⟩
 rw [hL] at OK hK ⊢
 obtain ⟨H, hH⟩ : ∃ H, W.heap.size = H := ⟨_, rfl⟩
 obtain ⟨w1, hw1⟩ : ∃ w1, (W.alloc (.cells #[.string n.sp, .string n.lo, av, .slice ka L kc, .string n.tx, .int .i64 n.ln, .int .i64 n.cl] 44)).alloc (.cells #[.string ⟨#[]⟩, .string ⟨#[]⟩, .slice none 0 0, .slice none 0 0, .slice none 0 0] 30) = w1 := ⟨_, rfl⟩
 have HN1 : Hid (NB W H [.string n.sp, .string n.lo, av, .slice ka L kc, .string n.tx, .int .i64 n.ln, .int .i64 n.cl] 5 30 w1) := by
   show NB _ _ _ _ _ _
   rw [← hw1, ← hH]
   exact nb_first W _ zero5m _
 have HB1 : Hid (Below W.heap.size W w1) := by
   have := HN1.out.b
   rw [← hH] at this
   exact this
 obtain ⟨a0, a1, a2, a3, a4, a5, a6⟩ := row7 HN1.out.n
 have HW1 := hid hw1
 have HH := hid hH
 have cP := plain_any (hasB OK.out.has OK.out.p HB1.out) OK.out.t
 have HLL := hid hL
 have HKI := hid hK
 clear hA hK ok hw1 hH hL
 go_enter Tryz.func29, Tryz.ntmps29
 go_upto_region 1 with fail
 rw [HW1.out, HH.out]
 clear HW1
 rw [hp] at cP
 have HSZ := hid HN1.out.sz
 clear hp
 go_wp2_with fail
 refine cP.mono ?_
 rintro en w3 (⟨h, -, -⟩ | ⟨e', f, hx, rfl, hf, hr, hb⟩)
 · cases h
 obtain rfl := Option.some.inj hx
 have HN3 := hid (HN1.out.below hb)
 have HR := hid hr
 have HF := hid hf
 clear hf hr hb cP a0 a1 a2 a3 a4 a5 a6 hx
 obtain ⟨rs, hrk, hrow⟩ := HN3.out.r
 obtain ⟨x0, x1, x2, x3, x4, rfl⟩ := len5 hrk
 obtain ⟨y0, y1, y2, y3, y4, yf0, yf1, yf2, yf3, yf4⟩ := rowN5 hrow
 clear hrk hrow
 go_wp2_with fail
 exact bodyPost_ret (v := .tuple #[.agg zero5m.toArray, .pointer (some ⟨f, 0, none⟩)]) (results_pair rfl _ _ (H + 1) 30 _ (0, 0) _ (.pointer (some ⟨f, 0, none⟩)) rfl (HN3.out.set zero5m rfl) rfl Tryz.underlying30 rfl sizeModel) rfl (Or.inr ⟨e, HX.out, HN3.out.pass zero5m e (by have := HSZ.out; have := HF.out; omega) HR.out⟩)
end Go.Proofs.YteejphiklpnjhaaGreatDoor
namespace Go.Proofs.YteejphiklpnjhaaGreatDoor
set_option maxRecDepth 100000
set_option maxHeartbeats 16000000
open Go.RowKit Go.Maps
open Go.Lib (hid)
theorem build_read {P : Nat → Prop} {W : World} {n : X.E} {cs : List Value} (ok : KidOk W P n cs) (q1 : (n.sp.toList == [104, 116, 116, 112, 58, 47, 47, 119, 119, 119, 46, 111, 109, 103, 46, 111, 114, 103, 47, 115, 112, 101, 99, 47, 66, 80, 77, 78, 47, 50, 48, 49, 48, 48, 53, 50, 52, 47, 77, 79, 68, 69, 76]) = true) (q2 : (n.lo.toList == [100, 101, 102, 105, 110, 105, 116, 105, 111, 110, 115]) = true) (hp : plainE n = none) {er : Int} (hrd : O.read [([116, 97, 114, 103, 101, 116, 78, 97, 109, 101, 115, 112, 97, 99, 101], ⟨false, false, []⟩), ([110, 97, 109, 101], ⟨false, false, []⟩), ([105, 100], ⟨false, false, []⟩)] (X.E.as n) = .error er) {RES : Except O.Er O.M} (HRES : RES = .error (er, n.ln, n.cl)) :
   Calls Tryz.prog 29 #[.agg cs.toArray] W (MdOf W RES) := by
 have OK := hid ok
 have HX := hid HRES
 have HRD := hid hrd
 clear HRES hrd
 obtain ⟨av, kv, rfl, hA, hK⟩ := ok.has
 obtain ⟨ka, kc, rfl⟩ := hK.shape
 obtain ⟨L, hL⟩ : ∃ L, n.ks.length = L := ⟨_, rfl⟩
 rw [hL] at OK hK ⊢
 obtain ⟨H, hH⟩ : ∃ H, W.heap.size = H := ⟨_, rfl⟩
 obtain ⟨w1, hw1⟩ : ∃ w1, (W.alloc (.cells #[.string n.sp, .string n.lo, av, .slice ka L kc, .string n.tx, .int .i64 n.ln, .int .i64 n.cl] 44)).alloc (.cells #[.string ⟨#[]⟩, .string ⟨#[]⟩, .slice none 0 0, .slice none 0 0, .slice none 0 0] 30) = w1 := ⟨_, rfl⟩
 have HN1 : Hid (NB W H [.string n.sp, .string n.lo, av, .slice ka L kc, .string n.tx, .int .i64 n.ln, .int .i64 n.cl] 5 30 w1) := by
   show NB _ _ _ _ _ _
   rw [← hw1, ← hH]
   exact nb_first W _ zero5m _
 have HB1 : Hid (Below W.heap.size W w1) := by
   have := HN1.out.b
   rw [← hH] at this
   exact this
 obtain ⟨a0, a1, a2, a3, a4, a5, a6⟩ := row7 HN1.out.n
 have HW1 := hid hw1
 have HH := hid hH
 have cP := plain_any (hasB OK.out.has OK.out.p HB1.out) OK.out.t
 have HLL := hid hL
 have HKI := hid hK
 clear hA hK ok hw1 hH hL
 go_enter Tryz.func29, Tryz.ntmps29
 go_upto_region 1 with fail
 rw [HW1.out, HH.out]
 clear HW1
 rw [hp] at cP
 clear hp
 go_wp2_with fail
 refine cP.mono ?_
 rintro en w3 (⟨-, rfl, hb⟩ | ⟨e', f, h, -, -⟩)
 rotate_left
 · cases h
 have HN3 := hid (HN1.out.below hb)
 have HB3 := hid (HB1.out.trans (hb.mono HB1.out.size))
 clear hb cP a0 a1 a2 a3 a4 a5 a6
 obtain ⟨b0, b1, b2, b3, b4, b5, b6⟩ := row7 HN3.out.n
 have hmm := @run_makeMap Tryz.prog
 have m0 : RM (w3.alloc (.map #[] 0)) w3.heap.size 0 [] := World.ownsMap_made (H := Unit) w3 Tryz.prog 9 ruleR
 obtain ⟨mw1, mr1, m1, mt1⟩ := RM.put m0 (by unfold maxLen; omega) ⟨#[105, 100]⟩ (by decide) ⟨false, false, []⟩
 have mu1 : (Instr.mapUpdate 99 (.map (some w3.heap.size)) (.string ⟨#[105, 100]⟩) (.agg #[.bool false, .bool false, .string ⟨#[]⟩])).run Tryz.prog (w3.alloc (.map #[] 0)) = .ok () mw1 := mr1
 obtain ⟨mw2, mr2, m2, mt2⟩ := RM.put m1 (by unfold maxLen; omega) ⟨#[110, 97, 109, 101]⟩ (by decide) ⟨false, false, []⟩
 have mu2 : (Instr.mapUpdate 99 (.map (some w3.heap.size)) (.string ⟨#[110, 97, 109, 101]⟩) (.agg #[.bool false, .bool false, .string ⟨#[]⟩])).run Tryz.prog mw1 = .ok () mw2 := mr2
 obtain ⟨mw3, mr3, m3, mt3⟩ := RM.put m2 (by unfold maxLen; omega) ⟨#[116, 97, 114, 103, 101, 116, 78, 97, 109, 101, 115, 112, 97, 99, 101]⟩ (by decide) ⟨false, false, []⟩
 have mu3 : (Instr.mapUpdate 99 (.map (some w3.heap.size)) (.string ⟨#[116, 97, 114, 103, 101, 116, 78, 97, 109, 101, 115, 112, 97, 99, 101]⟩) (.agg #[.bool false, .bool false, .string ⟨#[]⟩])).run Tryz.prog mw2 = .ok () mw3 := mr3
 have mb : Below w3.heap.size w3 mw3 := by
   have b0 : Below w3.heap.size w3 (w3.alloc (.map #[] 0)) := (Below.refl _ w3).alloc (Nat.le_refl _) _
   have g := ((mt1.grown.trans mt2.grown).trans mt3.grown)
   exact b0.grown g b0.size (fun q hq => by simp at hq; omega)
 clear mr1 mr2 mr3 mt1 mt2 mt3 m0 m1 m2
 have HN4 := hid (HN3.out.below mb)
 have HB4 := hid (HB3.out.trans (mb.mono HB3.out.size))
 have HM : Hid (RM mw3 w3.heap.size 3 [([116, 97, 114, 103, 101, 116, 78, 97, 109, 101, 115, 112, 97, 99, 101], ⟨false, false, []⟩), ([110, 97, 109, 101], ⟨false, false, []⟩), ([105, 100], ⟨false, false, []⟩)]) := m3
 obtain ⟨M, hM⟩ : ∃ M, w3.heap.size = M := ⟨_, rfl⟩
 rw [hM] at HM
 have c2 := read_any (hasB OK.out.has OK.out.p HB4.out) (fun b hb => Nat.lt_of_lt_of_le (OK.out.p b hb) HB4.out.size) HM.out (OK.out.e.below HB4.out) OK.out.l OK.out.s (by decide)
 have HME := hid hM
 have HS4 := hid HN4.out.sz
 clear mb m3 hM
 obtain ⟨c0, c1, c3, c4, c5, c6, c7⟩ := row7 HN4.out.n
 go_wp2_with fail
 rw [HME.out]
 refine c2.mono ?_
 clear c0 c1 c3 c4 c5 c6 c7 mu1 mu2 mu3
 intro en w5 hrd
 obtain ⟨A, hA⟩ : ∃ A, w5.heap.size = A := ⟨_, rfl⟩
 rcases hrd with ⟨g, Mv, Mn, hx, rfl, hv1, hn1, hKM, hKN, hb⟩ | ⟨er', ma, mc, f, hx, rfl, hf, hr, hb⟩
 · rw [HRD.out] at hx; cases hx
 have hee : er = er' := by
   have := HRD.out.symm.trans hx
   injection this
 subst hee
 obtain ⟨w6, hw6⟩ : ∃ w6, w5.alloc (.cells #[.map ma, .map mc] 94) = w6 := ⟨_, rfl⟩
 have hb6 : Below w5.heap.size w5 w6 := by rw [← hw6]; exact (Below.refl _ w5).alloc (Nat.le_refl _) _
 have HN6 := hid ((HN4.out.below hb).below hb6)
 have HF := hid hf
 have HR : Hid (w6.heap[f]? = some (faultRow er n.ln n.cl)) := (hb6.block f (Go.lt_of_block hr)).trans hr
 have HW6 := hid hw6
 have HAE := hid hA
 clear hx hf hr hb hb6 hw6 hA c2 b0 b1 b2 b3 b4 b5 b6
 go_upto_region 7 with fail
 rw [HW6.out, HAE.out]
 clear HW6 HAE
 obtain ⟨rs, hrk, hrow⟩ := HN6.out.r
 obtain ⟨x0, x1, x2, x3, x4, rfl⟩ := len5 hrk
 obtain ⟨y0, y1, y2, y3, y4, yf0, yf1, yf2, yf3, yf4⟩ := rowN5 hrow
 clear hrk hrow
 go_wp2_with fail
 exact bodyPost_ret (v := .tuple #[.agg zero5m.toArray, .pointer (some ⟨f, 0, none⟩)]) (results_pair rfl _ _ (H + 1) 30 _ (0, 0) _ (.pointer (some ⟨f, 0, none⟩)) rfl (HN6.out.set zero5m rfl) rfl Tryz.underlying30 rfl sizeModel) rfl (Or.inr ⟨(er, n.ln, n.cl), HX.out, HN6.out.pass zero5m (er, n.ln, n.cl) (by have := HS4.out; have := HF.out; omega) HR.out⟩)
end Go.Proofs.YteejphiklpnjhaaGreatDoor
