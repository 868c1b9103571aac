/- Is it a call; the process that is called. -/
import Derived.Test.YteejphiklpnjhaaGreatDoorOA3
import Derived.Test.YteejphiklpnjhaaGreatDoorOProcH
namespace Go.Proofs.YteejphiklpnjhaaGreatDoor
open Go.RowKit Go.Maps
open Go.Lib (hid)
set_option maxRecDepth 100000 in
theorem isCall_any {w : World} (x : O.It) (q a : Option Addr) (h : x.call = a.isSome) :
    Calls Tryz.prog 69 #[.agg #[.int .i64 x.ln, .int .i64 x.cl, .pointer q, .string (X.ba x.e.id), .string (X.ba x.e.nm), .int .u8 x.e.kind, .string (X.ba x.e.inn), .string (X.ba x.e.dflt), .string (X.ba x.e.att), .int .u8 0, .string ⟨#[]⟩, .string ⟨#[]⟩, .int .i64 0, .int .i64 x.e.tries, .string (X.ba x.called), .slice a 0 0]] w fun en W' => en = .returned (.bool x.call) ∧ Below w.heap.size w W' := by
  obtain ⟨w1, hw1⟩ : ∃ w1, w.alloc (.cells #[.int .i64 x.ln, .int .i64 x.cl, .pointer q, .string (X.ba x.e.id), .string (X.ba x.e.nm), .int .u8 x.e.kind, .string (X.ba x.e.inn), .string (X.ba x.e.dflt), .string (X.ba x.e.att), .int .u8 0, .string ⟨#[]⟩, .string ⟨#[]⟩, .int .i64 0, .int .i64 x.e.tries, .string (X.ba x.called), .slice a 0 0] 144) = w1 := ⟨_, rfl⟩
  have HB : Hid (Below w.heap.size w w1) := by show Below _ _ _; rw [← hw1]; exact (Below.refl _ w).alloc (Nat.le_refl _) _
  have hr : w1.heap[w.heap.size]? = some (.cells #[.int .i64 x.ln, .int .i64 x.cl, .pointer q, .string (X.ba x.e.id), .string (X.ba x.e.nm), .int .u8 x.e.kind, .string (X.ba x.e.inn), .string (X.ba x.e.dflt), .string (X.ba x.e.att), .int .u8 0, .string ⟨#[]⟩, .string ⟨#[]⟩, .int .i64 0, .int .i64 x.e.tries, .string (X.ba x.called), .slice a 0 0] 144 (0, 0)) := by rw [← hw1]; exact heap_alloc_new w _
  obtain ⟨d0, d1, d2, d3, d4, d5, d6, d7, d8, d9, d10, d11, d12, d13, d14, d15, -⟩ := rowN16 hr
  have hne := fun W => run_neq_slice_nil_any (P := Tryz.prog) W 104 144 a 0 0 0 0 Tryz.underlying104
  rw [h]
  have HW := hid hw1
  clear hw1 hr h
  cases a with
  | none =>
    go_enter Tryz.func69, Tryz.ntmps69
    go_upto_region 1 with fail
    rw [HW.out]
    go_wp2_with fail
    go_ret
    exact ⟨rfl, HB.out⟩
  | some a =>
    go_enter Tryz.func69, Tryz.ntmps69
    go_upto_region 1 with fail
    rw [HW.out]
    go_wp2_with fail
    go_ret
    exact ⟨rfl, HB.out⟩
theorem allocs3 (W : World) (a b c : Obj) : (((W.alloc a).alloc b).alloc c).heap[W.heap.size]? = some a ∧ (((W.alloc a).alloc b).alloc c).heap[W.heap.size + 1]? = some b ∧ (((W.alloc a).alloc b).alloc c).heap[W.heap.size + 2]? = some c := by
  refine ⟨?_, ?_, ?_⟩ <;>
  · show (((W.heap.push a).push b).push c)[_]? = _
    simp only [Array.getElem?_push, Array.size_push]
    repeat (first | rw [if_neg (by omega)] | exact if_pos trivial | rw [if_pos (by omega)])
theorem rowN6 {w : World} {b : Nat} {x0 x1 x2 x3 x4 x5 : Value} {t : TypeId} (h : w.heap[b]? = some (.cells #[x0, x1, x2, x3, x4, x5] t (0, 0))) :
    w.cell? ⟨b, 0, none⟩ = some x0 ∧ w.cell? ⟨b, 1, none⟩ = some x1 ∧ w.cell? ⟨b, 2, none⟩ = some x2 ∧ w.cell? ⟨b, 3, none⟩ = some x3 ∧ w.cell? ⟨b, 4, none⟩ = some x4 ∧ w.cell? ⟨b, 5, none⟩ = some x5 :=
  ⟨rowCell h 0, rowCell h 1, rowCell h 2, rowCell h 3, rowCell h 4, rowCell h 5⟩
section
variable {w w2 : World} {Q : Nat} {o0 o1 o2 o3 : Value}
theorem callee_set (hz : w2.heap[Q + 2]? = some (.cells #[o0, o1, o2, o3] 106 (0, 0))) (v0 v1 v2 v3 : Value) : (sts w2 (Q + 2) 0 [v0, v1, v2, v3]).heap[Q + 2]? = some (.cells #[v0, v1, v2, v3] 106 (0, 0)) := sts_row [v0, v1, v2, v3] [] [o0, o1, o2, o3] w2 hz rfl
theorem callee_setB (hb : Below w.heap.size w w2) (hQ : w.heap.size = Q) (_hz : w2.heap[Q + 2]? = some (.cells #[o0, o1, o2, o3] 106 (0, 0))) (v0 v1 v2 v3 : Value) : Below w.heap.size w (sts w2 (Q + 2) 0 [v0, v1, v2, v3]) :=
  hb.grown (sts_grown _ w2 (Q + 2) 0) hb.size (fun k hk => by have := Option.some.inj hk; omega)
theorem callee_row (hz : w2.heap[Q + 2]? = some (.cells #[o0, o1, o2, o3] 106 (0, 0))) (o : Obj) : ((sts w2 (Q + 2) 0 zero4).alloc o).drew.heap[Q + 2]? = some (.cells zero4.toArray 106 (0, 0)) := by
  have : (sts w2 (Q + 2) 0 zero4).heap[Q + 2]? = some (.cells zero4.toArray 106 (0, 0)) := callee_set hz (.string ⟨#[]⟩) (.string ⟨#[]⟩) (.slice none 0 0) (.slice none 0 0)
  show ((sts w2 (Q + 2) 0 zero4).alloc o).heap[Q + 2]? = _
  rw [Go.Lib.alloc_old _ _ _ (Go.lt_of_block this)]
  exact this
theorem callee_fault (hz : w2.heap[Q + 2]? = some (.cells #[o0, o1, o2, o3] 106 (0, 0))) (hb : Below w.heap.size w w2) (hQ : w.heap.size = Q) (e : Int) (ln cl : Nat) :
    ∃ g, Ending.returned (.tuple #[.agg zero4.toArray, .pointer (some ⟨w2.heap.size, 0, none⟩)]) = .returned (.tuple #[.agg zero4.toArray, .pointer (some ⟨g, 0, none⟩)]) ∧ w.heap.size ≤ g ∧ ((sts w2 (Q + 2) 0 zero4).alloc (.cells #[.int .i64 e, .int .i64 ln, .int .i64 cl] 75)).drew.heap[g]? = some (faultRow e ln cl) ∧ Below w.heap.size w ((sts w2 (Q + 2) 0 zero4).alloc (.cells #[.int .i64 e, .int .i64 ln, .int .i64 cl] 75)).drew := by
  have hs := sts_size zero4 w2 (Q + 2) 0
  refine ⟨w2.heap.size, rfl, hb.size, ?_, ?_⟩
  · show ((sts w2 (Q + 2) 0 zero4).alloc _).heap[w2.heap.size]? = _
    rw [← hs]
    exact heap_alloc_new _ _
  · have hB : Below w.heap.size w (sts w2 (Q + 2) 0 zero4) := callee_setB hb hQ hz _ _ _ _
    exact (hB.alloc (by rw [hs]; exact hb.size) _).drew
end
set_option maxRecDepth 100000 in
set_option maxHeartbeats 4000000 in
theorem callee_none {P : Nat → Prop} {w : World} {Y : Nat} {m0 m1 m2 ev fv al : Value} {all : List O.Pr} (hal : PrsIn w P all al) (hP : ∀ b, P b → b < w.heap.size) (hll : all.length ≤ 100000) (hM : w.heap[Y]? = some (.cells #[m0, m1, m2, ev, fv, al] 103 (0, 0))) (x : O.It) (q a : Option Addr) (inn ah : ByteArray) (nv : Value) {ns : List (List UInt8)} (hn : SIn w ns nv) (hnl : ns.length ≤ 100000) (hk : prAt all x.called = none) :
    Calls Tryz.prog 70 #[.pointer (some ⟨Y, 0, none⟩), .agg #[.int .i64 x.ln, .int .i64 x.cl, .pointer q, .string (X.ba x.e.id), .string (X.ba x.e.nm), .int .u8 x.e.kind, .string (X.ba x.e.inn), .string (X.ba x.e.dflt), .string (X.ba x.e.att), .int .u8 0, .string ⟨#[]⟩, .string ⟨#[]⟩, .int .i64 0, .int .i64 x.e.tries, .string (X.ba x.called), .slice a 0 0], .agg #[.string inn, .string ah, nv]] w fun en W' => ∃ g, en = .returned (.tuple #[.agg zero4.toArray, .pointer (some ⟨g, 0, none⟩)]) ∧ w.heap.size ≤ g ∧ W'.heap[g]? = some (faultRow 120 x.ln x.cl) ∧ Below w.heap.size w W' := by
  obtain ⟨Q, hQ⟩ : ∃ Q, w.heap.size = Q := ⟨_, rfl⟩
  obtain ⟨w1, hw1⟩ : ∃ w1, ((w.alloc (.cells #[.int .i64 x.ln, .int .i64 x.cl, .pointer q, .string (X.ba x.e.id), .string (X.ba x.e.nm), .int .u8 x.e.kind, .string (X.ba x.e.inn), .string (X.ba x.e.dflt), .string (X.ba x.e.att), .int .u8 0, .string ⟨#[]⟩, .string ⟨#[]⟩, .int .i64 0, .int .i64 x.e.tries, .string (X.ba x.called), .slice a 0 0] 144)).alloc (.cells #[.string inn, .string ah, nv] 112)).alloc (.cells #[.string ⟨#[]⟩, .string ⟨#[]⟩, .slice none 0 0, .slice none 0 0] 106) = w1 := ⟨_, rfl⟩
  have hb1 : Below w.heap.size w w1 := by
    rw [← hw1]
    exact (((Below.refl _ w).alloc (Nat.le_refl _) _).alloc (by simp) _).alloc (by simp; omega) _
  obtain ⟨hI1, hW1, hZ1⟩ := allocs3 w (.cells #[.int .i64 x.ln, .int .i64 x.cl, .pointer q, .string (X.ba x.e.id), .string (X.ba x.e.nm), .int .u8 x.e.kind, .string (X.ba x.e.inn), .string (X.ba x.e.dflt), .string (X.ba x.e.att), .int .u8 0, .string ⟨#[]⟩, .string ⟨#[]⟩, .int .i64 0, .int .i64 x.e.tries, .string (X.ba x.called), .slice a 0 0] 144) (.cells #[.string inn, .string ah, nv] 112) (.cells #[.string ⟨#[]⟩, .string ⟨#[]⟩, .slice none 0 0, .slice none 0 0] 106)
  rw [hw1, hQ] at hI1 hW1 hZ1
  have hYl := Go.lt_of_block hM
  have HI1 := hid hI1
  have HWI := hid hW1
  have HZ1 := hid hZ1
  have HB1 := hid hb1
  have HM1 : Hid (w1.heap[Y]? = some (.cells #[m0, m1, m2, ev, fv, al] 103 (0, 0))) := (hb1.block Y hYl).trans hM
  have HAL : Hid (PrsIn w1 P all al) := hal.keep (fun _ h => h) (fun b hb => hb1.block b (hP b hb))
  have HP1 : Hid (∀ b, P b → b < w1.heap.size) := fun b hb => Nat.lt_of_lt_of_le (hP b hb) hb1.size
  have HN1 := hid (hn.below hb1)
  have HQ := hid hQ
  have HW := hid hw1
  have HAL0 := hid hal
  have cI := called_index all al Q x.called hll w1 HAL.out HP1.out (rowCell hI1 14)
  rw [hk] at cI
  obtain ⟨aad, acp, rfl⟩ := hal.shape
  obtain ⟨m, hm⟩ : ∃ m, all.length = m := ⟨_, rfl⟩
  rw [hm] at cI HM1
  have HMM := hid hm
  have HNL := hid hnl
  obtain ⟨c0, c1, c2, c3, c4, c5⟩ := rowN6 HM1.out
  clear hal hP hM hn hQ hw1 hI1 hW1 hZ1 hb1 hm hll hnl
  clear hk
  go_enter Tryz.func70, Tryz.ntmps70
  go_upto_region 1 with fail
  rw [HW.out, HQ.out]
  simp only [Nat.add_assoc, Nat.reduceAdd]
  clear HW
  go_wp2_with fail
  refine cI.mono ?_
  rintro en w2 ⟨rfl, hb2⟩
  have HI2 : Hid (w2.heap[Q]? = some (.cells #[.int .i64 x.ln, .int .i64 x.cl, .pointer q, .string (X.ba x.e.id), .string (X.ba x.e.nm), .int .u8 x.e.kind, .string (X.ba x.e.inn), .string (X.ba x.e.dflt), .string (X.ba x.e.att), .int .u8 0, .string ⟨#[]⟩, .string ⟨#[]⟩, .int .i64 0, .int .i64 x.e.tries, .string (X.ba x.called), .slice a 0 0] 144 (0, 0))) := (hb2.block _ (Go.lt_of_block HI1.out)).trans HI1.out
  have HW2 : Hid (w2.heap[Q + 1]? = some (.cells #[.string inn, .string ah, nv] 112 (0, 0))) := (hb2.block _ (Go.lt_of_block HWI.out)).trans HWI.out
  have HZ2 : Hid (w2.heap[Q + 2]? = some (.cells #[.string ⟨#[]⟩, .string ⟨#[]⟩, .slice none 0 0, .slice none 0 0] 106 (0, 0))) := (hb2.block _ (Go.lt_of_block HZ1.out)).trans HZ1.out
  have HM2 : Hid (w2.heap[Y]? = some (.cells #[m0, m1, m2, ev, fv, .slice aad m acp] 103 (0, 0))) := (hb2.block _ (Go.lt_of_block HM1.out)).trans HM1.out
  have HB2 := hid (HB1.out.trans (hb2.mono HB1.out.size))
  have HN2 := hid (HN1.out.below hb2)
  clear hb2 cI c0 c1 c2 c3 c4 c5
  obtain ⟨d0, d1, d2, d3, d4, d5, d6, d7, d8, d9, d10, d11, d12, d13, d14, d15, -⟩ := rowN16 HI2.out
  obtain ⟨y0, y1, y2, y3, yf0, yf1, yf2, yf3⟩ := rowN4 HZ2.out
  have ei : idxV (none : Option Nat) = -1 := rfl
  simp only [ei]
  clear ei
  have z2 : Q + 2 < w2.heap.size := Go.lt_of_block HZ2.out
  have z0 : Q < w2.heap.size := by omega
  go_upto_region 3 with fail
  go_region
  clear z2 z0 y0 yf0 y1 yf1 y2 yf2 y3 yf3 d0 d1 d2 d3 d4 d5 d6 d7 d8 d9 d10 d11 d12 d13 d14 d15
  go_wp2_with fail
  exact bodyPost_ret (v := .tuple #[.agg zero4.toArray, .pointer (some ⟨w2.heap.size, 0, none⟩)]) (results_pair rfl _ _ (Q + 2) 106 _ (0, 0) _ (.pointer (some ⟨w2.heap.size, 0, none⟩)) rfl (callee_row HZ2.out _) rfl Tryz.underlying106 rfl sizeProc) rfl (callee_fault HZ2.out HB2.out HQ.out 120 _ _)
set_option maxRecDepth 100000 in
set_option maxHeartbeats 4000000 in
theorem callee_deep {P : Nat → Prop} {w : World} {Y : Nat} {m0 m1 m2 ev fv al : Value} {all : List O.Pr} (hal : PrsIn w P all al) (hP : ∀ b, P b → b < w.heap.size) (hll : all.length ≤ 100000) (hM : w.heap[Y]? = some (.cells #[m0, m1, m2, ev, fv, al] 103 (0, 0))) (x : O.It) (q a : Option Addr) (inn ah : ByteArray) (nv : Value) {ns : List (List UInt8)} (hn : SIn w ns nv) (hnl : ns.length ≤ 100000) {k : Nat} (hk : prAt all x.called = some k) (hd : ns.any (fun n => decide (n = x.called)) = true) :
    Calls Tryz.prog 70 #[.pointer (some ⟨Y, 0, none⟩), .agg #[.int .i64 x.ln, .int .i64 x.cl, .pointer q, .string (X.ba x.e.id), .string (X.ba x.e.nm), .int .u8 x.e.kind, .string (X.ba x.e.inn), .string (X.ba x.e.dflt), .string (X.ba x.e.att), .int .u8 0, .string ⟨#[]⟩, .string ⟨#[]⟩, .int .i64 0, .int .i64 x.e.tries, .string (X.ba x.called), .slice a 0 0], .agg #[.string inn, .string ah, nv]] w fun en W' => ∃ g, en = .returned (.tuple #[.agg zero4.toArray, .pointer (some ⟨g, 0, none⟩)]) ∧ w.heap.size ≤ g ∧ W'.heap[g]? = some (faultRow 84 x.ln x.cl) ∧ Below w.heap.size w W' := by
  obtain ⟨Q, hQ⟩ : ∃ Q, w.heap.size = Q := ⟨_, rfl⟩
  obtain ⟨w1, hw1⟩ : ∃ w1, ((w.alloc (.cells #[.int .i64 x.ln, .int .i64 x.cl, .pointer q, .string (X.ba x.e.id), .string (X.ba x.e.nm), .int .u8 x.e.kind, .string (X.ba x.e.inn), .string (X.ba x.e.dflt), .string (X.ba x.e.att), .int .u8 0, .string ⟨#[]⟩, .string ⟨#[]⟩, .int .i64 0, .int .i64 x.e.tries, .string (X.ba x.called), .slice a 0 0] 144)).alloc (.cells #[.string inn, .string ah, nv] 112)).alloc (.cells #[.string ⟨#[]⟩, .string ⟨#[]⟩, .slice none 0 0, .slice none 0 0] 106) = w1 := ⟨_, rfl⟩
  have hb1 : Below w.heap.size w w1 := by
    rw [← hw1]
    exact (((Below.refl _ w).alloc (Nat.le_refl _) _).alloc (by simp) _).alloc (by simp; omega) _
  obtain ⟨hI1, hW1, hZ1⟩ := allocs3 w (.cells #[.int .i64 x.ln, .int .i64 x.cl, .pointer q, .string (X.ba x.e.id), .string (X.ba x.e.nm), .int .u8 x.e.kind, .string (X.ba x.e.inn), .string (X.ba x.e.dflt), .string (X.ba x.e.att), .int .u8 0, .string ⟨#[]⟩, .string ⟨#[]⟩, .int .i64 0, .int .i64 x.e.tries, .string (X.ba x.called), .slice a 0 0] 144) (.cells #[.string inn, .string ah, nv] 112) (.cells #[.string ⟨#[]⟩, .string ⟨#[]⟩, .slice none 0 0, .slice none 0 0] 106)
  rw [hw1, hQ] at hI1 hW1 hZ1
  have hYl := Go.lt_of_block hM
  have HI1 := hid hI1
  have HWI := hid hW1
  have HZ1 := hid hZ1
  have HB1 := hid hb1
  have HM1 : Hid (w1.heap[Y]? = some (.cells #[m0, m1, m2, ev, fv, al] 103 (0, 0))) := (hb1.block Y hYl).trans hM
  have HAL : Hid (PrsIn w1 P all al) := hal.keep (fun _ h => h) (fun b hb => hb1.block b (hP b hb))
  have HP1 : Hid (∀ b, P b → b < w1.heap.size) := fun b hb => Nat.lt_of_lt_of_le (hP b hb) hb1.size
  have HN1 := hid (hn.below hb1)
  have HQ := hid hQ
  have HW := hid hw1
  have HAL0 := hid hal
  have cI := called_index all al Q x.called hll w1 HAL.out HP1.out (rowCell hI1 14)
  rw [hk] at cI
  obtain ⟨aad, acp, rfl⟩ := hal.shape
  obtain ⟨m, hm⟩ : ∃ m, all.length = m := ⟨_, rfl⟩
  rw [hm] at cI HM1
  have HMM := hid hm
  have HNL := hid hnl
  obtain ⟨c0, c1, c2, c3, c4, c5⟩ := rowN6 HM1.out
  clear hal hP hM hn hQ hw1 hI1 hW1 hZ1 hb1 hm hll hnl
  have HK := hid hk
  clear hk
  go_enter Tryz.func70, Tryz.ntmps70
  go_upto_region 1 with fail
  rw [HW.out, HQ.out]
  simp only [Nat.add_assoc, Nat.reduceAdd]
  clear HW
  go_wp2_with fail
  refine cI.mono ?_
  rintro en w2 ⟨rfl, hb2⟩
  have HI2 : Hid (w2.heap[Q]? = some (.cells #[.int .i64 x.ln, .int .i64 x.cl, .pointer q, .string (X.ba x.e.id), .string (X.ba x.e.nm), .int .u8 x.e.kind, .string (X.ba x.e.inn), .string (X.ba x.e.dflt), .string (X.ba x.e.att), .int .u8 0, .string ⟨#[]⟩, .string ⟨#[]⟩, .int .i64 0, .int .i64 x.e.tries, .string (X.ba x.called), .slice a 0 0] 144 (0, 0))) := (hb2.block _ (Go.lt_of_block HI1.out)).trans HI1.out
  have HW2 : Hid (w2.heap[Q + 1]? = some (.cells #[.string inn, .string ah, nv] 112 (0, 0))) := (hb2.block _ (Go.lt_of_block HWI.out)).trans HWI.out
  have HZ2 : Hid (w2.heap[Q + 2]? = some (.cells #[.string ⟨#[]⟩, .string ⟨#[]⟩, .slice none 0 0, .slice none 0 0] 106 (0, 0))) := (hb2.block _ (Go.lt_of_block HZ1.out)).trans HZ1.out
  have HM2 : Hid (w2.heap[Y]? = some (.cells #[m0, m1, m2, ev, fv, .slice aad m acp] 103 (0, 0))) := (hb2.block _ (Go.lt_of_block HM1.out)).trans HM1.out
  have HB2 := hid (HB1.out.trans (hb2.mono HB1.out.size))
  have HN2 := hid (HN1.out.below hb2)
  clear hb2 cI c0 c1 c2 c3 c4 c5
  obtain ⟨d0, d1, d2, d3, d4, d5, d6, d7, d8, d9, d10, d11, d12, d13, d14, d15, -⟩ := rowN16 HI2.out
  obtain ⟨y0, y1, y2, y3, yf0, yf1, yf2, yf3⟩ := rowN4 HZ2.out
  have ei : idxV (some k) = (k : Int) := rfl
  simp only [ei]
  clear ei
  have hkm : k < m := by
    obtain ⟨p, h1, _⟩ := prAt_some HK.out
    have := (List.getElem?_eq_some_iff.1 h1).1
    rw [HMM.out] at this
    exact this
  have hlt : decide ((k : Int) < 0) = false := decide_eq_false (by omega)
  obtain ⟨v0, v1, v2⟩ := row3' HW2.out
  have cS := scontains_any ns nv x.called HNL.out w2 HN2.out
  rw [hd] at cS
  clear hd
  go_wp2_with fail
  refine cS.mono ?_
  rintro en w3 ⟨rfl, hw3⟩
  obtain rfl : w2 = w3 := hw3.symm
  clear cS v0 v1 v2
  have z2 : Q + 2 < w2.heap.size := Go.lt_of_block HZ2.out
  have z0 : Q < w2.heap.size := by omega
  go_upto_region 5 with fail
  go_region
  clear z2 z0 y0 yf0 y1 yf1 y2 yf2 y3 yf3 d0 d1 d2 d3 d4 d5 d6 d7 d8 d9 d10 d11 d12 d13 d14 d15
  go_wp2_with fail
  exact bodyPost_ret (v := .tuple #[.agg zero4.toArray, .pointer (some ⟨w2.heap.size, 0, none⟩)]) (results_pair rfl _ _ (Q + 2) 106 _ (0, 0) _ (.pointer (some ⟨w2.heap.size, 0, none⟩)) rfl (callee_row HZ2.out _) rfl Tryz.underlying106 rfl sizeProc) rfl (callee_fault HZ2.out HB2.out HQ.out 84 _ _)
set_option maxRecDepth 100000 in
set_option maxHeartbeats 4000000 in
theorem callee_vars {P : Nat → Prop} {w : World} {Y : Nat} {m0 m1 m2 ev fv al : Value} {all : List O.Pr} (hal : PrsIn w P all al) (hP : ∀ b, P b → b < w.heap.size) (hll : all.length ≤ 100000) (hM : w.heap[Y]? = some (.cells #[m0, m1, m2, ev, fv, al] 103 (0, 0))) (x : O.It) (q a : Option Addr) (inn ah : ByteArray) (nv : Value) {ns : List (List UInt8)} (hn : SIn w ns nv) (hnl : ns.length ≤ 100000) {k : Nat} {pr : O.Pr} (hk : prAt all x.called = some k) (hp : all[k]? = some pr) (hd : ns.any (fun n => decide (n = x.called)) = false) (hv : pr.vars ≠ []) :
    Calls Tryz.prog 70 #[.pointer (some ⟨Y, 0, none⟩), .agg #[.int .i64 x.ln, .int .i64 x.cl, .pointer q, .string (X.ba x.e.id), .string (X.ba x.e.nm), .int .u8 x.e.kind, .string (X.ba x.e.inn), .string (X.ba x.e.dflt), .string (X.ba x.e.att), .int .u8 0, .string ⟨#[]⟩, .string ⟨#[]⟩, .int .i64 0, .int .i64 x.e.tries, .string (X.ba x.called), .slice a 0 0], .agg #[.string inn, .string ah, nv]] w fun en W' => ∃ g, en = .returned (.tuple #[.agg zero4.toArray, .pointer (some ⟨g, 0, none⟩)]) ∧ w.heap.size ≤ g ∧ W'.heap[g]? = some (faultRow 121 x.ln x.cl) ∧ Below w.heap.size w W' := by
  obtain ⟨Q, hQ⟩ : ∃ Q, w.heap.size = Q := ⟨_, rfl⟩
  obtain ⟨w1, hw1⟩ : ∃ w1, ((w.alloc (.cells #[.int .i64 x.ln, .int .i64 x.cl, .pointer q, .string (X.ba x.e.id), .string (X.ba x.e.nm), .int .u8 x.e.kind, .string (X.ba x.e.inn), .string (X.ba x.e.dflt), .string (X.ba x.e.att), .int .u8 0, .string ⟨#[]⟩, .string ⟨#[]⟩, .int .i64 0, .int .i64 x.e.tries, .string (X.ba x.called), .slice a 0 0] 144)).alloc (.cells #[.string inn, .string ah, nv] 112)).alloc (.cells #[.string ⟨#[]⟩, .string ⟨#[]⟩, .slice none 0 0, .slice none 0 0] 106) = w1 := ⟨_, rfl⟩
  have hb1 : Below w.heap.size w w1 := by
    rw [← hw1]
    exact (((Below.refl _ w).alloc (Nat.le_refl _) _).alloc (by simp) _).alloc (by simp; omega) _
  obtain ⟨hI1, hW1, hZ1⟩ := allocs3 w (.cells #[.int .i64 x.ln, .int .i64 x.cl, .pointer q, .string (X.ba x.e.id), .string (X.ba x.e.nm), .int .u8 x.e.kind, .string (X.ba x.e.inn), .string (X.ba x.e.dflt), .string (X.ba x.e.att), .int .u8 0, .string ⟨#[]⟩, .string ⟨#[]⟩, .int .i64 0, .int .i64 x.e.tries, .string (X.ba x.called), .slice a 0 0] 144) (.cells #[.string inn, .string ah, nv] 112) (.cells #[.string ⟨#[]⟩, .string ⟨#[]⟩, .slice none 0 0, .slice none 0 0] 106)
  rw [hw1, hQ] at hI1 hW1 hZ1
  have hYl := Go.lt_of_block hM
  have HI1 := hid hI1
  have HWI := hid hW1
  have HZ1 := hid hZ1
  have HB1 := hid hb1
  have HM1 : Hid (w1.heap[Y]? = some (.cells #[m0, m1, m2, ev, fv, al] 103 (0, 0))) := (hb1.block Y hYl).trans hM
  have HAL : Hid (PrsIn w1 P all al) := hal.keep (fun _ h => h) (fun b hb => hb1.block b (hP b hb))
  have HP1 : Hid (∀ b, P b → b < w1.heap.size) := fun b hb => Nat.lt_of_lt_of_le (hP b hb) hb1.size
  have HN1 := hid (hn.below hb1)
  have HQ := hid hQ
  have HW := hid hw1
  have HAL0 := hid hal
  have cI := called_index all al Q x.called hll w1 HAL.out HP1.out (rowCell hI1 14)
  rw [hk] at cI
  obtain ⟨aad, acp, rfl⟩ := hal.shape
  obtain ⟨m, hm⟩ : ∃ m, all.length = m := ⟨_, rfl⟩
  rw [hm] at cI HM1
  have HMM := hid hm
  have HNL := hid hnl
  obtain ⟨c0, c1, c2, c3, c4, c5⟩ := rowN6 HM1.out
  clear hal hP hM hn hQ hw1 hI1 hW1 hZ1 hb1 hm hll hnl
  have HK := hid hk
  clear hk
  have HPR := hid hp
  have HV := hid hv
  clear hp hv
  go_enter Tryz.func70, Tryz.ntmps70
  go_upto_region 1 with fail
  rw [HW.out, HQ.out]
  simp only [Nat.add_assoc, Nat.reduceAdd]
  clear HW
  go_wp2_with fail
  refine cI.mono ?_
  rintro en w2 ⟨rfl, hb2⟩
  have HI2 : Hid (w2.heap[Q]? = some (.cells #[.int .i64 x.ln, .int .i64 x.cl, .pointer q, .string (X.ba x.e.id), .string (X.ba x.e.nm), .int .u8 x.e.kind, .string (X.ba x.e.inn), .string (X.ba x.e.dflt), .string (X.ba x.e.att), .int .u8 0, .string ⟨#[]⟩, .string ⟨#[]⟩, .int .i64 0, .int .i64 x.e.tries, .string (X.ba x.called), .slice a 0 0] 144 (0, 0))) := (hb2.block _ (Go.lt_of_block HI1.out)).trans HI1.out
  have HW2 : Hid (w2.heap[Q + 1]? = some (.cells #[.string inn, .string ah, nv] 112 (0, 0))) := (hb2.block _ (Go.lt_of_block HWI.out)).trans HWI.out
  have HZ2 : Hid (w2.heap[Q + 2]? = some (.cells #[.string ⟨#[]⟩, .string ⟨#[]⟩, .slice none 0 0, .slice none 0 0] 106 (0, 0))) := (hb2.block _ (Go.lt_of_block HZ1.out)).trans HZ1.out
  have HM2 : Hid (w2.heap[Y]? = some (.cells #[m0, m1, m2, ev, fv, .slice aad m acp] 103 (0, 0))) := (hb2.block _ (Go.lt_of_block HM1.out)).trans HM1.out
  have HB2 := hid (HB1.out.trans (hb2.mono HB1.out.size))
  have HN2 := hid (HN1.out.below hb2)
  clear hb2 cI c0 c1 c2 c3 c4 c5
  obtain ⟨d0, d1, d2, d3, d4, d5, d6, d7, d8, d9, d10, d11, d12, d13, d14, d15, -⟩ := rowN16 HI2.out
  obtain ⟨y0, y1, y2, y3, yf0, yf1, yf2, yf3⟩ := rowN4 HZ2.out
  have ei : idxV (some k) = (k : Int) := rfl
  simp only [ei]
  clear ei
  have hkm : k < m := by
    obtain ⟨p, h1, _⟩ := prAt_some HK.out
    have := (List.getElem?_eq_some_iff.1 h1).1
    rw [HMM.out] at this
    exact this
  have hlt : decide ((k : Int) < 0) = false := decide_eq_false (by omega)
  obtain ⟨v0, v1, v2⟩ := row3' HW2.out
  have cS := scontains_any ns nv x.called HNL.out w2 HN2.out
  rw [hd] at cS
  clear hd
  go_wp2_with fail
  refine cS.mono ?_
  rintro en w3 ⟨rfl, hw3⟩
  obtain rfl : w2 = w3 := hw3.symm
  clear cS v0 v1 v2
  obtain ⟨c0, c1, c2, c3, c4, c5⟩ := rowN6 HM2.out
  obtain ⟨g, cs, rfl, hg, hcs, hc⟩ : ∃ g cs, aad = some ⟨g, 0, none⟩ ∧ P g ∧ Prs w P all cs ∧ ∀ j u, cs[j]? = some u → w.cell? ⟨g, j, none⟩ = some u := by
    rcases HAL0.out with ⟨h1, _⟩ | ⟨g, c, cs, he, h2, _, h4, h5⟩
    · have := HMM.out; rw [h1] at this; simp at this; omega
    · simp only [Value.slice.injEq] at he; exact ⟨g, cs, he.1, h2, h4, h5⟩
  have hgl : g < w.heap.size := by
    obtain ⟨ds, ⟨vv, iv, rfl, -, -⟩, hat⟩ := Prs.at all cs k pr hcs HPR.out
    exact Lib.lt_of_cell (hc _ _ (hat 0 _ rfl))
  obtain ⟨ds, hds, hat⟩ := Prs.at all cs k pr hcs HPR.out
  have HDS := hid hds
  obtain ⟨vv, iv, rfl, hvv, hiv⟩ := hds
  obtain ⟨vad, vcp, rfl⟩ := hvv.shape
  obtain ⟨iad, icp, rfl⟩ := hiv.shape
  have cc := fun j u (hu : [Value.string (X.ba pr.id), .string (X.ba pr.nm), .slice vad pr.vars.length vcp, .slice iad pr.items.length icp][j]? = some u) => (HB2.out.cell (p := ⟨g, k * 4 + j, none⟩) hgl).trans (hc _ _ (hat j u hu))
  have f0 := cc 0 _ rfl
  have f1 := cc 1 _ rfl
  have f2 := cc 2 _ rfl
  have f3 := cc 3 _ rfl
  rw [Nat.add_zero] at f0
  have hki : (k : Int) < (m : Int) := by omega
  clear cc hc hat hcs hgl hg hvv hiv
  obtain ⟨vl, hvl⟩ : ∃ v, pr.vars.length = v := ⟨_, rfl⟩
  rw [hvl] at f2 HDS
  obtain ⟨il, hil⟩ : ∃ v, pr.items.length = v := ⟨_, rfl⟩
  rw [hil] at f3 HDS
  have hpos : decide ((0 : Int) < (vl : Int)) = true := decide_eq_true (by have := HV.out; have : vl ≠ 0 := fun e => this (List.eq_nil_of_length_eq_zero (hvl.trans e)); omega)
  have hpos' : decide (0 < vl) = true := decide_eq_true (by simpa using hpos)
  have hpp : 0 < vl := by simpa using hpos'
  clear hvl hil
  have z2 : Q + 2 < w2.heap.size := Go.lt_of_block HZ2.out
  have z0 : Q < w2.heap.size := by omega
  go_upto_region 7 with fail
  go_region
  clear z2 z0 y0 yf0 y1 yf1 y2 yf2 y3 yf3 d0 d1 d2 d3 d4 d5 d6 d7 d8 d9 d10 d11 d12 d13 d14 d15
  go_wp2_with fail
  exact bodyPost_ret (v := .tuple #[.agg zero4.toArray, .pointer (some ⟨w2.heap.size, 0, none⟩)]) (results_pair rfl _ _ (Q + 2) 106 _ (0, 0) _ (.pointer (some ⟨w2.heap.size, 0, none⟩)) rfl (callee_row HZ2.out _) rfl Tryz.underlying106 rfl sizeProc) rfl (callee_fault HZ2.out HB2.out HQ.out 121 _ _)
set_option maxRecDepth 100000 in
set_option maxHeartbeats 4000000 in
theorem callee_ok {P : Nat → Prop} {w : World} {Y : Nat} {m0 m1 m2 ev fv al : Value} {all : List O.Pr} (hal : PrsIn w P all al) (hP : ∀ b, P b → b < w.heap.size) (hll : all.length ≤ 100000) (hM : w.heap[Y]? = some (.cells #[m0, m1, m2, ev, fv, al] 103 (0, 0))) (x : O.It) (q a : Option Addr) (inn ah : ByteArray) (nv : Value) {ns : List (List UInt8)} (hn : SIn w ns nv) (hnl : ns.length ≤ 100000) {k : Nat} {pr : O.Pr} (hk : prAt all x.called = some k) (hp : all[k]? = some pr) (hd : ns.any (fun n => decide (n = x.called)) = false) (hv : pr.vars = []) :
    Calls Tryz.prog 70 #[.pointer (some ⟨Y, 0, none⟩), .agg #[.int .i64 x.ln, .int .i64 x.cl, .pointer q, .string (X.ba x.e.id), .string (X.ba x.e.nm), .int .u8 x.e.kind, .string (X.ba x.e.inn), .string (X.ba x.e.dflt), .string (X.ba x.e.att), .int .u8 0, .string ⟨#[]⟩, .string ⟨#[]⟩, .int .i64 0, .int .i64 x.e.tries, .string (X.ba x.called), .slice a 0 0], .agg #[.string inn, .string ah, nv]] w fun en W' => ∃ cs, en = .returned (.tuple #[.agg cs.toArray, .pointer none]) ∧ PrHas w P pr cs ∧ Below w.heap.size w W' := by
  obtain ⟨Q, hQ⟩ : ∃ Q, w.heap.size = Q := ⟨_, rfl⟩
  obtain ⟨w1, hw1⟩ : ∃ w1, ((w.alloc (.cells #[.int .i64 x.ln, .int .i64 x.cl, .pointer q, .string (X.ba x.e.id), .string (X.ba x.e.nm), .int .u8 x.e.kind, .string (X.ba x.e.inn), .string (X.ba x.e.dflt), .string (X.ba x.e.att), .int .u8 0, .string ⟨#[]⟩, .string ⟨#[]⟩, .int .i64 0, .int .i64 x.e.tries, .string (X.ba x.called), .slice a 0 0] 144)).alloc (.cells #[.string inn, .string ah, nv] 112)).alloc (.cells #[.string ⟨#[]⟩, .string ⟨#[]⟩, .slice none 0 0, .slice none 0 0] 106) = w1 := ⟨_, rfl⟩
  have hb1 : Below w.heap.size w w1 := by
    rw [← hw1]
    exact (((Below.refl _ w).alloc (Nat.le_refl _) _).alloc (by simp) _).alloc (by simp; omega) _
  obtain ⟨hI1, hW1, hZ1⟩ := allocs3 w (.cells #[.int .i64 x.ln, .int .i64 x.cl, .pointer q, .string (X.ba x.e.id), .string (X.ba x.e.nm), .int .u8 x.e.kind, .string (X.ba x.e.inn), .string (X.ba x.e.dflt), .string (X.ba x.e.att), .int .u8 0, .string ⟨#[]⟩, .string ⟨#[]⟩, .int .i64 0, .int .i64 x.e.tries, .string (X.ba x.called), .slice a 0 0] 144) (.cells #[.string inn, .string ah, nv] 112) (.cells #[.string ⟨#[]⟩, .string ⟨#[]⟩, .slice none 0 0, .slice none 0 0] 106)
  rw [hw1, hQ] at hI1 hW1 hZ1
  have hYl := Go.lt_of_block hM
  have HI1 := hid hI1
  have HWI := hid hW1
  have HZ1 := hid hZ1
  have HB1 := hid hb1
  have HM1 : Hid (w1.heap[Y]? = some (.cells #[m0, m1, m2, ev, fv, al] 103 (0, 0))) := (hb1.block Y hYl).trans hM
  have HAL : Hid (PrsIn w1 P all al) := hal.keep (fun _ h => h) (fun b hb => hb1.block b (hP b hb))
  have HP1 : Hid (∀ b, P b → b < w1.heap.size) := fun b hb => Nat.lt_of_lt_of_le (hP b hb) hb1.size
  have HN1 := hid (hn.below hb1)
  have HQ := hid hQ
  have HW := hid hw1
  have HAL0 := hid hal
  have cI := called_index all al Q x.called hll w1 HAL.out HP1.out (rowCell hI1 14)
  rw [hk] at cI
  obtain ⟨aad, acp, rfl⟩ := hal.shape
  obtain ⟨m, hm⟩ : ∃ m, all.length = m := ⟨_, rfl⟩
  rw [hm] at cI HM1
  have HMM := hid hm
  have HNL := hid hnl
  obtain ⟨c0, c1, c2, c3, c4, c5⟩ := rowN6 HM1.out
  clear hal hP hM hn hQ hw1 hI1 hW1 hZ1 hb1 hm hll hnl
  have HK := hid hk
  clear hk
  have HPR := hid hp
  have HV := hid hv
  clear hp hv
  go_enter Tryz.func70, Tryz.ntmps70
  go_upto_region 1 with fail
  rw [HW.out, HQ.out]
  simp only [Nat.add_assoc, Nat.reduceAdd]
  clear HW
  go_wp2_with fail
  refine cI.mono ?_
  rintro en w2 ⟨rfl, hb2⟩
  have HI2 : Hid (w2.heap[Q]? = some (.cells #[.int .i64 x.ln, .int .i64 x.cl, .pointer q, .string (X.ba x.e.id), .string (X.ba x.e.nm), .int .u8 x.e.kind, .string (X.ba x.e.inn), .string (X.ba x.e.dflt), .string (X.ba x.e.att), .int .u8 0, .string ⟨#[]⟩, .string ⟨#[]⟩, .int .i64 0, .int .i64 x.e.tries, .string (X.ba x.called), .slice a 0 0] 144 (0, 0))) := (hb2.block _ (Go.lt_of_block HI1.out)).trans HI1.out
  have HW2 : Hid (w2.heap[Q + 1]? = some (.cells #[.string inn, .string ah, nv] 112 (0, 0))) := (hb2.block _ (Go.lt_of_block HWI.out)).trans HWI.out
  have HZ2 : Hid (w2.heap[Q + 2]? = some (.cells #[.string ⟨#[]⟩, .string ⟨#[]⟩, .slice none 0 0, .slice none 0 0] 106 (0, 0))) := (hb2.block _ (Go.lt_of_block HZ1.out)).trans HZ1.out
  have HM2 : Hid (w2.heap[Y]? = some (.cells #[m0, m1, m2, ev, fv, .slice aad m acp] 103 (0, 0))) := (hb2.block _ (Go.lt_of_block HM1.out)).trans HM1.out
  have HB2 := hid (HB1.out.trans (hb2.mono HB1.out.size))
  have HN2 := hid (HN1.out.below hb2)
  clear hb2 cI c0 c1 c2 c3 c4 c5
  obtain ⟨d0, d1, d2, d3, d4, d5, d6, d7, d8, d9, d10, d11, d12, d13, d14, d15, -⟩ := rowN16 HI2.out
  obtain ⟨y0, y1, y2, y3, yf0, yf1, yf2, yf3⟩ := rowN4 HZ2.out
  have ei : idxV (some k) = (k : Int) := rfl
  simp only [ei]
  clear ei
  have hkm : k < m := by
    obtain ⟨p, h1, _⟩ := prAt_some HK.out
    have := (List.getElem?_eq_some_iff.1 h1).1
    rw [HMM.out] at this
    exact this
  have hlt : decide ((k : Int) < 0) = false := decide_eq_false (by omega)
  obtain ⟨v0, v1, v2⟩ := row3' HW2.out
  have cS := scontains_any ns nv x.called HNL.out w2 HN2.out
  rw [hd] at cS
  clear hd
  go_wp2_with fail
  refine cS.mono ?_
  rintro en w3 ⟨rfl, hw3⟩
  obtain rfl : w2 = w3 := hw3.symm
  clear cS v0 v1 v2
  obtain ⟨c0, c1, c2, c3, c4, c5⟩ := rowN6 HM2.out
  obtain ⟨g, cs, rfl, hg, hcs, hc⟩ : ∃ g cs, aad = some ⟨g, 0, none⟩ ∧ P g ∧ Prs w P all cs ∧ ∀ j u, cs[j]? = some u → w.cell? ⟨g, j, none⟩ = some u := by
    rcases HAL0.out with ⟨h1, _⟩ | ⟨g, c, cs, he, h2, _, h4, h5⟩
    · have := HMM.out; rw [h1] at this; simp at this; omega
    · simp only [Value.slice.injEq] at he; exact ⟨g, cs, he.1, h2, h4, h5⟩
  have hgl : g < w.heap.size := by
    obtain ⟨ds, ⟨vv, iv, rfl, -, -⟩, hat⟩ := Prs.at all cs k pr hcs HPR.out
    exact Lib.lt_of_cell (hc _ _ (hat 0 _ rfl))
  obtain ⟨ds, hds, hat⟩ := Prs.at all cs k pr hcs HPR.out
  have HDS := hid hds
  obtain ⟨vv, iv, rfl, hvv, hiv⟩ := hds
  obtain ⟨vad, vcp, rfl⟩ := hvv.shape
  obtain ⟨iad, icp, rfl⟩ := hiv.shape
  have cc := fun j u (hu : [Value.string (X.ba pr.id), .string (X.ba pr.nm), .slice vad pr.vars.length vcp, .slice iad pr.items.length icp][j]? = some u) => (HB2.out.cell (p := ⟨g, k * 4 + j, none⟩) hgl).trans (hc _ _ (hat j u hu))
  have f0 := cc 0 _ rfl
  have f1 := cc 1 _ rfl
  have f2 := cc 2 _ rfl
  have f3 := cc 3 _ rfl
  rw [Nat.add_zero] at f0
  have hki : (k : Int) < (m : Int) := by omega
  clear cc hc hat hcs hgl hg hvv hiv
  obtain ⟨vl, hvl⟩ : ∃ v, pr.vars.length = v := ⟨_, rfl⟩
  rw [hvl] at f2 HDS
  obtain ⟨il, hil⟩ : ∃ v, pr.items.length = v := ⟨_, rfl⟩
  rw [hil] at f3 HDS
  obtain rfl : vl = 0 := by rw [← hvl, HV.out]; rfl
  clear hvl hil
  go_wp2_with fail
  exact bodyPost_ret (v := .tuple #[.agg #[.string (X.ba pr.id), .string (X.ba pr.nm), .slice vad 0 vcp, .slice iad il icp], .pointer none]) (results_pair rfl _ _ (Q + 2) 106 _ (0, 0) _ (.pointer none) rfl (callee_set HZ2.out _ _ _ _) rfl Tryz.underlying106 rfl sizeProc) rfl (⟨_, rfl, HDS.out, callee_setB HB2.out HQ.out HZ2.out _ _ _ _⟩)
end Go.Proofs.YteejphiklpnjhaaGreatDoor
