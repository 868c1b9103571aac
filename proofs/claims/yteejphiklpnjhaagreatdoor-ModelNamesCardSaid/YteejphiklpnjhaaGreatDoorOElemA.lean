/- An element that holds nothing: flow, far1, far2, none, text. -/
import Derived.Test.YteejphiklpnjhaaGreatDoorOElemH
namespace Go.Proofs.YteejphiklpnjhaaGreatDoor
open Go.RowKit Go.Maps
open Go.Lib (hid)
set_option maxRecDepth 100000 in
set_option maxHeartbeats 4000000 in
theorem elem_flow {P : Nat → Prop} {W : World} {n : X.E} {cs : List Value} (ok : NodeOk W P n cs) (q1 : (n.sp.toList == [104, 116, 116, 112, 58, 47, 47, 119, 119, 119, 46, 111, 109, 103, 46, 111, 114, 103, 47, 115, 112, 101, 99, 47, 66, 80, 77, 78, 47, 50, 48, 49, 48, 48, 53, 50, 52, 47, 77, 79, 68, 69, 76]) = true) (q2 : (n.lo.toList == [115, 101, 113, 117, 101, 110, 99, 101, 70, 108, 111, 119]) = true) {RES : Except O.Er O.It} (HRES : O.flow n = RES) :
    Calls Tryz.prog 68 #[.agg cs.toArray] W (ItOf W RES) := by
  have OK := hid ok
  obtain ⟨av, kv, rfl, hA, hK⟩ := ok.has
  obtain ⟨ka, kc, rfl⟩ : ∃ a c, kv = .slice a 0 c := by
    have := hK.shape
    rw [ok.k] at this
    exact this
  obtain ⟨H, hH⟩ : ∃ H, W.heap.size = H := ⟨_, rfl⟩
  obtain ⟨w1, hw1⟩ : ∃ w1, (W.alloc (.cells #[.string n.sp, .string n.lo, av, .slice ka 0 kc, .string n.tx, .int .i64 n.ln, .int .i64 n.cl] 44)).alloc (.cells #[.int .i64 0, .int .i64 0, .pointer none, .string ⟨#[]⟩, .string ⟨#[]⟩, .int .u8 0, .string ⟨#[]⟩, .string ⟨#[]⟩, .string ⟨#[]⟩, .int .u8 0, .string ⟨#[]⟩, .string ⟨#[]⟩, .int .i64 0, .int .i64 0, .string ⟨#[]⟩, .slice none 0 0] 144) = w1 := ⟨_, rfl⟩
  have HN1 : Hid (NB W H [.string n.sp, .string n.lo, av, .slice ka 0 kc, .string n.tx, .int .i64 n.ln, .int .i64 n.cl] 16 144 w1) := by
    show NB _ _ _ _ _ _
    rw [← hw1, ← hH]
    exact nb_first W _ zero16 _
  have HB1 : Hid (Below W.heap.size W w1) := by
    have := HN1.out.b
    rw [← hH] at this
    exact this
  obtain ⟨a0, a1, a2, a3, a4, a5, a6⟩ := row7 HN1.out.n
  have c1 := flow_any (hasB OK.out.has OK.out.p HB1.out) OK.out.k (fun b hb => Nat.lt_of_lt_of_le (OK.out.p b hb) HB1.out.size) (OK.out.e.below HB1.out) OK.out.l OK.out.s OK.out.t
  rw [HRES] at c1
  have HW1 := hid hw1
  have HH := hid hH
  clear hA hK ok hw1 hH
  go_enter Tryz.func68, Tryz.ntmps68
  go_upto_region 1 with fail
  rw [HW1.out, HH.out]
  clear HW1
  go_wp2_with fail
  refine c1.mono ?_
  rintro e w2 (⟨i, ds, hx, rfl, hi, hb⟩ | ⟨e, hx, f, rfl, hf, hr, hb⟩)
  · have HN2 := hid (HN1.out.below hb)
    have HI := hid hi
    have HX := hid hx
    obtain ⟨q, a, rfl⟩ := hi.form
    obtain ⟨rs, hk, hrow⟩ := HN2.out.r
    obtain ⟨x0, x1, x2, x3, x4, x5, x6, x7, x8, x9, x10, x11, x12, x13, x14, x15, rfl⟩ := len16 hk
    obtain ⟨y0, y1, y2, y3, y4, y5, y6, y7, y8, y9, y10, y11, y12, y13, y14, y15, yf0, yf1, yf2, yf3, yf4, yf5, yf6, yf7, yf8, yf9, yf10, yf11, yf12, yf13, yf14, yf15⟩ := rowN16 hrow
    have HSZ := hid HN1.out.sz
    clear hk hrow hx hi hb c1
    rw [show ((itC i (.pointer q) (.slice a 0 0)).toArray : Array Value) = #[.int .i64 i.ln, .int .i64 i.cl, .pointer q, .string (X.ba i.e.id), .string (X.ba i.e.nm), .int .u8 i.e.kind, .string (X.ba i.e.inn), .string (X.ba i.e.dflt), .string (X.ba i.e.att), .int .u8 0, .string ⟨#[]⟩, .string ⟨#[]⟩, .int .i64 0, .int .i64 i.e.tries, .string (X.ba i.called), .slice a 0 0] from rfl]
    go_wp2_with fail
    exact bodyPost_ret (v := .tuple #[.agg #[.int .i64 i.ln, .int .i64 i.cl, .pointer q, .string (X.ba i.e.id), .string (X.ba i.e.nm), .int .u8 i.e.kind, .string (X.ba i.e.inn), .string (X.ba i.e.dflt), .string (X.ba i.e.att), .int .u8 0, .string ⟨#[]⟩, .string ⟨#[]⟩, .int .i64 0, .int .i64 i.e.tries, .string (X.ba i.called), .slice a 0 0], .pointer none]) (results_pair rfl _ _ (H + 1) 144 _ (0, 0) _ (.pointer none) rfl (HN2.out.set [.int .i64 i.ln, .int .i64 i.cl, .pointer q, .string (X.ba i.e.id), .string (X.ba i.e.nm), .int .u8 i.e.kind, .string (X.ba i.e.inn), .string (X.ba i.e.dflt), .string (X.ba i.e.att), .int .u8 0, .string ⟨#[]⟩, .string ⟨#[]⟩, .int .i64 0, .int .i64 i.e.tries, .string (X.ba i.called), .slice a 0 0] rfl) rfl Tryz.underlying144 rfl sizeItem) rfl (HN2.out.item (B := w1.heap.size) (by have := HSZ.out; omega) HX.out HI.out)
  · have HX := hid hx
    have HN2 := hid (HN1.out.below hb)
    have HR := hid hr
    have HF := hid hf
    have HSZ := hid HN1.out.sz
    clear hx hf hr hb c1 a0 a1 a2 a3 a4 a5 a6
    rw [show (zero16.toArray : Array Value) = #[.int .i64 0, .int .i64 0, .pointer none, .string ⟨#[]⟩, .string ⟨#[]⟩, .int .u8 0, .string ⟨#[]⟩, .string ⟨#[]⟩, .string ⟨#[]⟩, .int .u8 0, .string ⟨#[]⟩, .string ⟨#[]⟩, .int .i64 0, .int .i64 0, .string ⟨#[]⟩, .slice none 0 0] from rfl]
    obtain ⟨rs, hk, hrow⟩ := HN2.out.r
    obtain ⟨x0, x1, x2, x3, x4, x5, x6, x7, x8, x9, x10, x11, x12, x13, x14, x15, rfl⟩ := len16 hk
    obtain ⟨y0, y1, y2, y3, y4, y5, y6, y7, y8, y9, y10, y11, y12, y13, y14, y15, yf0, yf1, yf2, yf3, yf4, yf5, yf6, yf7, yf8, yf9, yf10, yf11, yf12, yf13, yf14, yf15⟩ := rowN16 hrow
    clear hk hrow
    go_wp2_with fail
    exact bodyPost_ret (v := .tuple #[.agg zero16.toArray, .pointer (some ⟨f, 0, none⟩)]) (results_pair rfl _ _ (H + 1) 144 _ (0, 0) _ (.pointer (some ⟨f, 0, none⟩)) rfl (HN2.out.set zero16 rfl) rfl Tryz.underlying144 rfl sizeItem) rfl (Or.inr ⟨e, HX.out, HN2.out.pass zero16 e (by have := HSZ.out; have := HF.out; omega) HR.out⟩)
set_option maxRecDepth 100000 in
set_option maxHeartbeats 4000000 in
theorem elem_far1 {P : Nat → Prop} {W : World} {n : X.E} {cs : List Value} (ok : NodeOk W P n cs) (q1 : (n.sp.toList == [104, 116, 116, 112, 58, 47, 47, 119, 119, 119, 46, 111, 109, 103, 46, 111, 114, 103, 47, 115, 112, 101, 99, 47, 66, 80, 77, 78, 47, 50, 48, 49, 48, 48, 53, 50, 52, 47, 77, 79, 68, 69, 76]) = false) (hk : X.lookG kindsL n.lo.data.toList = none) {RES : Except O.Er O.It} (HRES : RES = .error (121, n.ln, n.cl)) :
    Calls Tryz.prog 68 #[.agg cs.toArray] W (ItOf W RES) := by
  have OK := hid ok
  obtain ⟨av, kv, rfl, hA, hK⟩ := ok.has
  obtain ⟨ka, kc, rfl⟩ : ∃ a c, kv = .slice a 0 c := by
    have := hK.shape
    rw [ok.k] at this
    exact this
  obtain ⟨H, hH⟩ : ∃ H, W.heap.size = H := ⟨_, rfl⟩
  obtain ⟨w1, hw1⟩ : ∃ w1, (W.alloc (.cells #[.string n.sp, .string n.lo, av, .slice ka 0 kc, .string n.tx, .int .i64 n.ln, .int .i64 n.cl] 44)).alloc (.cells #[.int .i64 0, .int .i64 0, .pointer none, .string ⟨#[]⟩, .string ⟨#[]⟩, .int .u8 0, .string ⟨#[]⟩, .string ⟨#[]⟩, .string ⟨#[]⟩, .int .u8 0, .string ⟨#[]⟩, .string ⟨#[]⟩, .int .i64 0, .int .i64 0, .string ⟨#[]⟩, .slice none 0 0] 144) = w1 := ⟨_, rfl⟩
  have HN1 : Hid (NB W H [.string n.sp, .string n.lo, av, .slice ka 0 kc, .string n.tx, .int .i64 n.ln, .int .i64 n.cl] 16 144 w1) := by
    show NB _ _ _ _ _ _
    rw [← hw1, ← hH]
    exact nb_first W _ zero16 _
  have HB1 : Hid (Below W.heap.size W w1) := by
    have := HN1.out.b
    rw [← hH] at this
    exact this
  obtain ⟨a0, a1, a2, a3, a4, a5, a6⟩ := row7 HN1.out.n
  have HW1 := hid hw1
  have HH := hid hH
  clear hA hK ok hw1 hH
  have HX := hid HRES
  go_enter Tryz.func68, Tryz.ntmps68
  go_upto_region 1 with fail
  rw [HW1.out, HH.out]
  clear HW1
  have HLT : Hid (H < w1.heap.size) := by have := HN1.out.sz; show _ < _; omega
  go_upto_region 3 with fail
  go_region_held3 (fun w' => w'.cell? ⟨H, 1, none⟩ = some (.string n.lo))
    (first
      | assumption
      | with_reducible exact cellBd hb2 HLT.out a1
      | fail)
    (first
      | (go_at_call 95; refine (kinds_any w1.drew).mono ?_; rintro e w2 ⟨rfl, hku, hb2⟩; have hlk : (Instr.lookup 176 (.map (some w1.heap.size)) (.string n.lo) true).run Tryz.prog w2 = .ok (.tuple #[.int .u8 0, .bool false]) w2 := hku.look_none n.lo (by have := OK.out.o; omega) hk)
      | fail)
  have hb2' : Below w1.heap.size w1 w2 := ((Below.refl _ w1).drew).trans hb2
  have HN2 := hid (HN1.out.below hb2')
  have HB2 := hid (HB1.out.trans (hb2'.mono HB1.out.size))
  clear hb2 hb2' hku hlk a0 a1 a2 a3 a4 a5 a6
  obtain ⟨rs, hrk, hrow⟩ := HN2.out.r
  obtain ⟨x0, x1, x2, x3, x4, x5, x6, x7, x8, x9, x10, x11, x12, x13, x14, x15, rfl⟩ := len16 hrk
  obtain ⟨y0, y1, y2, y3, y4, y5, y6, y7, y8, y9, y10, y11, y12, y13, y14, y15, yf0, yf1, yf2, yf3, yf4, yf5, yf6, yf7, yf8, yf9, yf10, yf11, yf12, yf13, yf14, yf15⟩ := rowN16 hrow
  obtain ⟨-, -, -, -, -, b5, b6⟩ := row7 HN2.out.n
  have z1 : H + 1 < w2.heap.size := by have := HN2.out.sz; omega
  have z0 : H < w2.heap.size := by omega
  clear hrk hrow
  go_upto_region 5 with fail
  go_region
  clear y0 yf0 y1 yf1 y2 yf2 y3 yf3 y4 yf4 y5 yf5 y6 yf6 y7 yf7 y8 yf8 y9 yf9 y10 yf10 y11 yf11 y12 yf12 y13 yf13 y14 yf14 y15 yf15 z0 z1 b5 b6
  go_wp2_with fail
  exact bodyPost_ret (v := .tuple #[.agg zero16.toArray, .pointer (some ⟨w2.heap.size, 0, none⟩)]) (results_pair rfl _ _ (H + 1) 144 _ (0, 0) _ (.pointer (some ⟨w2.heap.size, 0, none⟩)) rfl (HN2.out.faultR zero16 rfl _) rfl Tryz.underlying144 rfl sizeItem) rfl (Or.inr ⟨_, HX.out, HN2.out.fault zero16 _ _ _⟩)
set_option maxRecDepth 100000 in
set_option maxHeartbeats 4000000 in
theorem elem_far2 {P : Nat → Prop} {W : World} {n : X.E} {cs : List Value} (ok : NodeOk W P n cs) (q1 : (n.sp.toList == [104, 116, 116, 112, 58, 47, 47, 119, 119, 119, 46, 111, 109, 103, 46, 111, 114, 103, 47, 115, 112, 101, 99, 47, 66, 80, 77, 78, 47, 50, 48, 49, 48, 48, 53, 50, 52, 47, 77, 79, 68, 69, 76]) = false) {kd : Nat} (hk : X.lookG kindsL n.lo.data.toList = some kd) {RES : Except O.Er O.It} (HRES : RES = .error (121, n.ln, n.cl)) :
    Calls Tryz.prog 68 #[.agg cs.toArray] W (ItOf W RES) := by
  have OK := hid ok
  obtain ⟨av, kv, rfl, hA, hK⟩ := ok.has
  obtain ⟨ka, kc, rfl⟩ : ∃ a c, kv = .slice a 0 c := by
    have := hK.shape
    rw [ok.k] at this
    exact this
  obtain ⟨H, hH⟩ : ∃ H, W.heap.size = H := ⟨_, rfl⟩
  obtain ⟨w1, hw1⟩ : ∃ w1, (W.alloc (.cells #[.string n.sp, .string n.lo, av, .slice ka 0 kc, .string n.tx, .int .i64 n.ln, .int .i64 n.cl] 44)).alloc (.cells #[.int .i64 0, .int .i64 0, .pointer none, .string ⟨#[]⟩, .string ⟨#[]⟩, .int .u8 0, .string ⟨#[]⟩, .string ⟨#[]⟩, .string ⟨#[]⟩, .int .u8 0, .string ⟨#[]⟩, .string ⟨#[]⟩, .int .i64 0, .int .i64 0, .string ⟨#[]⟩, .slice none 0 0] 144) = w1 := ⟨_, rfl⟩
  have HN1 : Hid (NB W H [.string n.sp, .string n.lo, av, .slice ka 0 kc, .string n.tx, .int .i64 n.ln, .int .i64 n.cl] 16 144 w1) := by
    show NB _ _ _ _ _ _
    rw [← hw1, ← hH]
    exact nb_first W _ zero16 _
  have HB1 : Hid (Below W.heap.size W w1) := by
    have := HN1.out.b
    rw [← hH] at this
    exact this
  obtain ⟨a0, a1, a2, a3, a4, a5, a6⟩ := row7 HN1.out.n
  have HW1 := hid hw1
  have HH := hid hH
  clear hA hK ok hw1 hH
  have HX := hid HRES
  go_enter Tryz.func68, Tryz.ntmps68
  go_upto_region 1 with fail
  rw [HW1.out, HH.out]
  clear HW1
  have HLT : Hid (H < w1.heap.size) := by have := HN1.out.sz; show _ < _; omega
  go_upto_region 3 with fail
  go_region_held3 (fun w' => w'.cell? ⟨H, 1, none⟩ = some (.string n.lo))
    (first
      | assumption
      | with_reducible exact cellBd hb2 HLT.out a1
      | fail)
    (first
      | (go_at_call 95; refine (kinds_any w1.drew).mono ?_; rintro e w2 ⟨rfl, hku, hb2⟩; have hlk : (Instr.lookup 176 (.map (some w1.heap.size)) (.string n.lo) true).run Tryz.prog w2 = .ok (.tuple #[.int .u8 kd, .bool true]) w2 := hku.look_some n.lo (by have := OK.out.o; omega) hk)
      | fail)
  have hb2' : Below w1.heap.size w1 w2 := ((Below.refl _ w1).drew).trans hb2
  have HN2 := hid (HN1.out.below hb2')
  have HB2 := hid (HB1.out.trans (hb2'.mono HB1.out.size))
  clear hb2 hb2' hku hlk a0 a1 a2 a3 a4 a5 a6
  obtain ⟨rs, hrk, hrow⟩ := HN2.out.r
  obtain ⟨x0, x1, x2, x3, x4, x5, x6, x7, x8, x9, x10, x11, x12, x13, x14, x15, rfl⟩ := len16 hrk
  obtain ⟨y0, y1, y2, y3, y4, y5, y6, y7, y8, y9, y10, y11, y12, y13, y14, y15, yf0, yf1, yf2, yf3, yf4, yf5, yf6, yf7, yf8, yf9, yf10, yf11, yf12, yf13, yf14, yf15⟩ := rowN16 hrow
  obtain ⟨b0, -, -, -, -, b5, b6⟩ := row7 HN2.out.n
  have z1 : H + 1 < w2.heap.size := by have := HN2.out.sz; omega
  have z0 : H < w2.heap.size := by omega
  clear hrk hrow
  go_upto_region 5 with fail
  go_region
  clear y0 yf0 y1 yf1 y2 yf2 y3 yf3 y4 yf4 y5 yf5 y6 yf6 y7 yf7 y8 yf8 y9 yf9 y10 yf10 y11 yf11 y12 yf12 y13 yf13 y14 yf14 y15 yf15 z0 z1 b5 b6 b0
  go_wp2_with fail
  exact bodyPost_ret (v := .tuple #[.agg zero16.toArray, .pointer (some ⟨w2.heap.size, 0, none⟩)]) (results_pair rfl _ _ (H + 1) 144 _ (0, 0) _ (.pointer (some ⟨w2.heap.size, 0, none⟩)) rfl (HN2.out.faultR zero16 rfl _) rfl Tryz.underlying144 rfl sizeItem) rfl (Or.inr ⟨_, HX.out, HN2.out.fault zero16 _ _ _⟩)
set_option maxRecDepth 100000 in
set_option maxHeartbeats 4000000 in
theorem elem_none {P : Nat → Prop} {W : World} {n : X.E} {cs : List Value} (ok : NodeOk W P n cs) (q1 : (n.sp.toList == [104, 116, 116, 112, 58, 47, 47, 119, 119, 119, 46, 111, 109, 103, 46, 111, 114, 103, 47, 115, 112, 101, 99, 47, 66, 80, 77, 78, 47, 50, 48, 49, 48, 48, 53, 50, 52, 47, 77, 79, 68, 69, 76]) = true) (q2 : (n.lo.toList == [115, 101, 113, 117, 101, 110, 99, 101, 70, 108, 111, 119]) = false) (hk : X.lookG kindsL n.lo.data.toList = none) {RES : Except O.Er O.It} (HRES : RES = .error (121, n.ln, n.cl)) :
    Calls Tryz.prog 68 #[.agg cs.toArray] W (ItOf W RES) := by
  have OK := hid ok
  obtain ⟨av, kv, rfl, hA, hK⟩ := ok.has
  obtain ⟨ka, kc, rfl⟩ : ∃ a c, kv = .slice a 0 c := by
    have := hK.shape
    rw [ok.k] at this
    exact this
  obtain ⟨H, hH⟩ : ∃ H, W.heap.size = H := ⟨_, rfl⟩
  obtain ⟨w1, hw1⟩ : ∃ w1, (W.alloc (.cells #[.string n.sp, .string n.lo, av, .slice ka 0 kc, .string n.tx, .int .i64 n.ln, .int .i64 n.cl] 44)).alloc (.cells #[.int .i64 0, .int .i64 0, .pointer none, .string ⟨#[]⟩, .string ⟨#[]⟩, .int .u8 0, .string ⟨#[]⟩, .string ⟨#[]⟩, .string ⟨#[]⟩, .int .u8 0, .string ⟨#[]⟩, .string ⟨#[]⟩, .int .i64 0, .int .i64 0, .string ⟨#[]⟩, .slice none 0 0] 144) = w1 := ⟨_, rfl⟩
  have HN1 : Hid (NB W H [.string n.sp, .string n.lo, av, .slice ka 0 kc, .string n.tx, .int .i64 n.ln, .int .i64 n.cl] 16 144 w1) := by
    show NB _ _ _ _ _ _
    rw [← hw1, ← hH]
    exact nb_first W _ zero16 _
  have HB1 : Hid (Below W.heap.size W w1) := by
    have := HN1.out.b
    rw [← hH] at this
    exact this
  obtain ⟨a0, a1, a2, a3, a4, a5, a6⟩ := row7 HN1.out.n
  have HW1 := hid hw1
  have HH := hid hH
  clear hA hK ok hw1 hH
  have HX := hid HRES
  go_enter Tryz.func68, Tryz.ntmps68
  go_upto_region 1 with fail
  rw [HW1.out, HH.out]
  clear HW1
  have HLT : Hid (H < w1.heap.size) := by have := HN1.out.sz; show _ < _; omega
  go_upto_region 3 with fail
  go_region_held3 (fun w' => w'.cell? ⟨H, 1, none⟩ = some (.string n.lo))
    (first
      | assumption
      | with_reducible exact cellBd hb2 HLT.out a1
      | fail)
    (first
      | (go_at_call 95; refine (kinds_any w1.drew).mono ?_; rintro e w2 ⟨rfl, hku, hb2⟩; have hlk : (Instr.lookup 176 (.map (some w1.heap.size)) (.string n.lo) true).run Tryz.prog w2 = .ok (.tuple #[.int .u8 0, .bool false]) w2 := hku.look_none n.lo (by have := OK.out.o; omega) hk)
      | fail)
  have hb2' : Below w1.heap.size w1 w2 := ((Below.refl _ w1).drew).trans hb2
  have HN2 := hid (HN1.out.below hb2')
  have HB2 := hid (HB1.out.trans (hb2'.mono HB1.out.size))
  clear hb2 hb2' hku hlk a0 a1 a2 a3 a4 a5 a6
  obtain ⟨rs, hrk, hrow⟩ := HN2.out.r
  obtain ⟨x0, x1, x2, x3, x4, x5, x6, x7, x8, x9, x10, x11, x12, x13, x14, x15, rfl⟩ := len16 hrk
  obtain ⟨y0, y1, y2, y3, y4, y5, y6, y7, y8, y9, y10, y11, y12, y13, y14, y15, yf0, yf1, yf2, yf3, yf4, yf5, yf6, yf7, yf8, yf9, yf10, yf11, yf12, yf13, yf14, yf15⟩ := rowN16 hrow
  obtain ⟨-, -, -, -, -, b5, b6⟩ := row7 HN2.out.n
  have z1 : H + 1 < w2.heap.size := by have := HN2.out.sz; omega
  have z0 : H < w2.heap.size := by omega
  clear hrk hrow
  go_upto_region 5 with fail
  go_region
  clear y0 yf0 y1 yf1 y2 yf2 y3 yf3 y4 yf4 y5 yf5 y6 yf6 y7 yf7 y8 yf8 y9 yf9 y10 yf10 y11 yf11 y12 yf12 y13 yf13 y14 yf14 y15 yf15 z0 z1 b5 b6
  go_wp2_with fail
  exact bodyPost_ret (v := .tuple #[.agg zero16.toArray, .pointer (some ⟨w2.heap.size, 0, none⟩)]) (results_pair rfl _ _ (H + 1) 144 _ (0, 0) _ (.pointer (some ⟨w2.heap.size, 0, none⟩)) rfl (HN2.out.faultR zero16 rfl _) rfl Tryz.underlying144 rfl sizeItem) rfl (Or.inr ⟨_, HX.out, HN2.out.fault zero16 _ _ _⟩)
set_option maxRecDepth 100000 in
set_option maxHeartbeats 4000000 in
theorem elem_text {P : Nat → Prop} {W : World} {n : X.E} {cs : List Value} (ok : NodeOk W P n cs) (q1 : (n.sp.toList == [104, 116, 116, 112, 58, 47, 47, 119, 119, 119, 46, 111, 109, 103, 46, 111, 114, 103, 47, 115, 112, 101, 99, 47, 66, 80, 77, 78, 47, 50, 48, 49, 48, 48, 53, 50, 52, 47, 77, 79, 68, 69, 76]) = true) (q2 : (n.lo.toList == [115, 101, 113, 117, 101, 110, 99, 101, 70, 108, 111, 119]) = false) {kd : Nat} (hk : X.lookG kindsL n.lo.data.toList = some kd) {e : O.Er} (hp : plainE n = some e) {RES : Except O.Er O.It} (HRES : RES = .error e) :
    Calls Tryz.prog 68 #[.agg cs.toArray] W (ItOf W RES) := by
  have OK := hid ok
  obtain ⟨av, kv, rfl, hA, hK⟩ := ok.has
  obtain ⟨ka, kc, rfl⟩ : ∃ a c, kv = .slice a 0 c := by
    have := hK.shape
    rw [ok.k] at this
    exact this
  obtain ⟨H, hH⟩ : ∃ H, W.heap.size = H := ⟨_, rfl⟩
  obtain ⟨w1, hw1⟩ : ∃ w1, (W.alloc (.cells #[.string n.sp, .string n.lo, av, .slice ka 0 kc, .string n.tx, .int .i64 n.ln, .int .i64 n.cl] 44)).alloc (.cells #[.int .i64 0, .int .i64 0, .pointer none, .string ⟨#[]⟩, .string ⟨#[]⟩, .int .u8 0, .string ⟨#[]⟩, .string ⟨#[]⟩, .string ⟨#[]⟩, .int .u8 0, .string ⟨#[]⟩, .string ⟨#[]⟩, .int .i64 0, .int .i64 0, .string ⟨#[]⟩, .slice none 0 0] 144) = w1 := ⟨_, rfl⟩
  have HN1 : Hid (NB W H [.string n.sp, .string n.lo, av, .slice ka 0 kc, .string n.tx, .int .i64 n.ln, .int .i64 n.cl] 16 144 w1) := by
    show NB _ _ _ _ _ _
    rw [← hw1, ← hH]
    exact nb_first W _ zero16 _
  have HB1 : Hid (Below W.heap.size W w1) := by
    have := HN1.out.b
    rw [← hH] at this
    exact this
  obtain ⟨a0, a1, a2, a3, a4, a5, a6⟩ := row7 HN1.out.n
  have HW1 := hid hw1
  have HH := hid hH
  clear hA hK ok hw1 hH
  have HX := hid HRES
  have HP := hid hp
  clear hp
  go_enter Tryz.func68, Tryz.ntmps68
  go_upto_region 1 with fail
  rw [HW1.out, HH.out]
  clear HW1
  have HLT : Hid (H < w1.heap.size) := by have := HN1.out.sz; show _ < _; omega
  go_upto_region 3 with fail
  go_region_held3 (fun w' => w'.cell? ⟨H, 1, none⟩ = some (.string n.lo))
    (first
      | assumption
      | with_reducible exact cellBd hb2 HLT.out a1
      | fail)
    (first
      | (go_at_call 95; refine (kinds_any w1.drew).mono ?_; rintro e w2 ⟨rfl, hku, hb2⟩; have hlk : (Instr.lookup 176 (.map (some w1.heap.size)) (.string n.lo) true).run Tryz.prog w2 = .ok (.tuple #[.int .u8 kd, .bool true]) w2 := hku.look_some n.lo (by have := OK.out.o; omega) hk)
      | fail)
  have hb2' : Below w1.heap.size w1 w2 := ((Below.refl _ w1).drew).trans hb2
  have HN2 := hid (HN1.out.below hb2')
  have HB2 := hid (HB1.out.trans (hb2'.mono HB1.out.size))
  clear hb2 hb2' hku hlk a0 a1 a2 a3 a4 a5 a6
  have cP := plain_any (hasB OK.out.has OK.out.p HB2.out) OK.out.t
  rw [HP.out] at cP
  obtain ⟨b0, b1, b2, b3, b4, b5, b6⟩ := row7 HN2.out.n
  have HSZ := hid HN2.out.sz
  go_wp2_with fail
  refine cP.mono ?_
  rintro en w3 (⟨h, -, -⟩ | ⟨e', f, hx, rfl, hf, hr, hb⟩)
  · cases h
  obtain rfl := Option.some.inj hx
  have HN3 := hid (HN2.out.below hb)
  have HR := hid hr
  have HF := hid hf
  clear hf hr hb cP b0 b1 b2 b3 b4 b5 b6 hx
  obtain ⟨rs, hk, hrow⟩ := HN3.out.r
  obtain ⟨x0, x1, x2, x3, x4, x5, x6, x7, x8, x9, x10, x11, x12, x13, x14, x15, rfl⟩ := len16 hk
  obtain ⟨y0, y1, y2, y3, y4, y5, y6, y7, y8, y9, y10, y11, y12, y13, y14, y15, yf0, yf1, yf2, yf3, yf4, yf5, yf6, yf7, yf8, yf9, yf10, yf11, yf12, yf13, yf14, yf15⟩ := rowN16 hrow
  clear hk hrow
  go_wp2_with fail
  exact bodyPost_ret (v := .tuple #[.agg zero16.toArray, .pointer (some ⟨f, 0, none⟩)]) (results_pair rfl _ _ (H + 1) 144 _ (0, 0) _ (.pointer (some ⟨f, 0, none⟩)) rfl (HN3.out.set zero16 rfl) rfl Tryz.underlying144 rfl sizeItem) rfl (Or.inr ⟨e, HX.out, HN3.out.pass zero16 e (by have := HSZ.out; have := HF.out; omega) HR.out⟩)
end Go.Proofs.YteejphiklpnjhaaGreatDoor
