/- An element that holds nothing: flow, far1, far2, none, text. -/
import Derived.Test.YteejphiklpnjhaaGreatDoorOElemH
namespace Go.Proofs.YteejphiklpnjhaaGreatDoor
set_option maxRecDepth 100000
set_option maxHeartbeats 16000000
open Go.RowKit Go.Maps
open Go.Lib (hid)
theorem elem_flow {P : Nat → Prop} {W : World} {n : X.E} {cs : List Value} (ok : NodeOk W P n cs) (q1 : (n.sp.toList == [104, 116, 116, 112, 58, 47, 47, 119, 119, 119, 46, 111, 109, 103, 46, 111, 114, 103, 47, 115, 112, 101, 99, 47, 66, 80, 77, 78, 47, 50, 48, 49, 48, 48, 53, 50, 52, 47, 77, 79, 68, 69, 76]) = true) (q2 : (n.lo.toList == [115, 101, 113, 117, 101, 110, 99, 101, 70, 108, 111, 119]) = true) {RES : Except O.Er O.It} (HRES : O.flow n = RES) :
   Calls Tryz.prog 68 #[.agg cs.toArray] W (ItOf W RES) := by
 have OK := hid ok
 obtain ⟨av, kv, rfl, hA, hK⟩ := ok.has
 obtain ⟨ka, kc, rfl⟩ : ∃ a c, kv = .slice a 0 c := by
   have := hK.shape
   rw [ok.k] at this
   exact this
 obtain ⟨H, hH⟩ : ∃ H, W.heap.size = H := ⟨_, rfl⟩
 obtain ⟨w1, hw1⟩ : ∃ w1, (W.alloc (.cells #[.string n.sp, .string n.lo, av, .slice ka 0 kc, .string n.tx, .int .i64 n.ln, .int .i64 n.cl] 44)).alloc (.cells #[.int .i64 0, .int .i64 0, .pointer none, .string ⟨#[]⟩, .string ⟨#[]⟩, .int .u8 0, .string ⟨#[]⟩, .string ⟨#[]⟩, .string ⟨#[]⟩, .int .u8 0, .string ⟨#[]⟩, .string ⟨#[]⟩, .int .i64 0, .int .i64 0, .string ⟨#[]⟩, .slice none 0 0] 144) = w1 := ⟨_, rfl⟩
 have HN1 : Hid (NB W H [.string n.sp, .string n.lo, av, .slice ka 0 kc, .string n.tx, .int .i64 n.ln, .int .i64 n.cl] 16 144 w1) := by
   show NB _ _ _ _ _ _
   rw [← hw1, ← hH]
   exact nb_first W _ zero16 _
 have HB1 : Hid (Below W.heap.size W w1) := by
   have := HN1.out.b
   rw [← hH] at this
   exact this
 obtain ⟨a0, a1, a2, a3, a4, a5, a6⟩ := row7 HN1.out.n
 have c1 := flow_any (hasB OK.out.has OK.out.p HB1.out) OK.out.k (fun b hb => Nat.lt_of_lt_of_le (OK.out.p b hb) HB1.out.size) (OK.out.e.below HB1.out) OK.out.l OK.out.s OK.out.t
 rw [HRES] at c1
 have HW1 := hid hw1
 have HH := hid hH
 clear hA hK ok hw1 hH
 go_enter Tryz.func68, Tryz.ntmps68
 go_upto_region 1 with fail
 rw [HW1.out, HH.out]
 clear HW1
 go_wp2_with fail
 refine c1.mono ?_
 rintro e w2 (⟨i, ds, hx, rfl, hi, hb⟩ | ⟨e, hx, f, rfl, hf, hr, hb⟩)
 · have HN2 := hid (HN1.out.below hb)
   have HI := hid hi
   have HX := hid hx
   obtain ⟨q, a, rfl⟩ := hi.form
   obtain ⟨rs, hk, hrow⟩ := HN2.out.r
   obtain ⟨x0, x1, x2, x3, x4, x5, x6, x7, x8, x9, x10, x11, x12, x13, x14, x15, rfl⟩ := len16 hk
   obtain ⟨y0, y1, y2, y3, y4, y5, y6, y7, y8, y9, y10, y11, y12, y13, y14, y15, yf0, yf1, yf2, yf3, yf4, yf5, yf6, yf7, yf8, yf9, yf10, yf11, yf12, yf13, yf14, yf15⟩ := rowN16 hrow
   have HSZ := hid HN1.out.sz
   clear hk hrow hx hi hb c1
   rw [show ((itC i (.pointer q) (.slice a 0 0)).toArray : Array Value) = #[.int .i64 i.ln, .int .i64 i.cl, .pointer q, .string (X.ba i.e.id), .string (X.ba i.e.nm), .int .u8 i.e.kind, .string (X.ba i.e.inn), .string (X.ba i.e.dflt), .string (X.ba i.e.att), .int .u8 0, .string ⟨#[]⟩, .string ⟨#[]⟩, .int .i64 0, .int .i64 i.e.tries, .string (X.ba i.called), .slice a 0 0] from rfl]
   go_wp2_with fail
   exact bodyPost_ret (v := .tuple #[.agg #[.int .i64 i.ln, .int .i64 i.cl, .pointer q, .string (X.ba i.e.id), .string (X.ba i.e.nm), .int .u8 i.e.kind, .string (X.ba i.e.inn), .string (X.ba i.e.dflt), .string (X.ba i.e.att), .int .u8 0, .string ⟨#[]⟩, .string ⟨#[]⟩, .int .i64 0, .int .i64 i.e.tries, .string (X.ba i.called), .slice a 0 0], .pointer none]) (results_pair rfl _ _ (H + 1) 144 _ (0, 0) _ (.pointer none) rfl (HN2.out.set [.int .i64 i.ln, .int .i64 i.cl, .pointer q, .string (X.ba i.e.id), .string (X.ba i.e.nm), .int .u8 i.e.kind, .string (X.ba i.e.inn), .string (X.ba i.e.dflt), .string (X.ba i.e.att), .int .u8 0, .string ⟨#[]⟩, .string ⟨#[]⟩, .int .i64 0, .int .i64 i.e.tries, .string (X.ba i.called), .slice a 0 0] rfl) rfl Tryz.underlying144 rfl sizeItem) rfl (HN2.out.item (B := w1.heap.size) (by have := HSZ.out; omega) HX.out HI.out)
 · have HX := hid hx
   have HN2 := hid (HN1.out.below hb)
   have HR := hid hr
   have HF := hid hf
   have HSZ := hid HN1.out.sz
   clear hx hf hr hb c1 a0 a1 a2 a3 a4 a5 a6
   rw [show (zero16.toArray : Array Value) = #[.int .i64 0, .int .i64 0, .pointer none, .string ⟨#[]⟩, .string ⟨#[]⟩, .int .u8 0, .string ⟨#[]⟩, .string ⟨#[]⟩, .string ⟨#[]⟩, .int .u8 0, .string ⟨#[]⟩, .string ⟨#[]⟩, .int .i64 0, .int .i64 0, .string ⟨#[]⟩, .slice none 0 0] from rfl]
   obtain ⟨rs, hk, hrow⟩ := HN2.out.r
   obtain ⟨x0, x1, x2, x3, x4, x5, x6, x7, x8, x9, x10, x11, x12, x13, x14, x15, rfl⟩ := len16 hk
   obtain ⟨y0, y1, y2, y3, y4, y5, y6, y7, y8, y9, y10, y11, y12, y13, y14, y15, yf0, yf1, yf2, yf3, yf4, yf5, yf6, yf7, yf8, yf9, yf10, yf11, yf12, yf13, yf14, yf15⟩ := rowN16 hrow
   clear hk hrow
   go_wp2_with fail
   exact bodyPost_ret (v := .tuple #[.agg zero16.toArray, .pointer (some ⟨f, 0, none⟩)]) (results_pair rfl _ _ (H + 1) 144 _ (0, 0) _ (.pointer (some ⟨f, 0, none⟩)) rfl (HN2.out.set zero16 rfl) rfl Tryz.underlying144 rfl sizeItem) rfl (Or.inr ⟨e, HX.out, HN2.out.pass zero16 e (by have := HSZ.out; have := HF.out; omega) HR.out⟩)
end Go.Proofs.YteejphiklpnjhaaGreatDoor
