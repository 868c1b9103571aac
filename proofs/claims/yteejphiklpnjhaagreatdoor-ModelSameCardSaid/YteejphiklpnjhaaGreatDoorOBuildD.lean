/- build: its ways joined; Build: a model, or the place and the error. -/
import Derived.Test.YteejphiklpnjhaaGreatDoorOA4
import Derived.Test.YteejphiklpnjhaaGreatDoorOBuildC
namespace Go.Proofs.YteejphiklpnjhaaGreatDoor
set_option maxRecDepth 100000
set_option maxHeartbeats 16000000
open Go.RowKit Go.Maps
open Go.Lib (hid)
def O.fitP (n : X.E) : Bool := match O.procs n.ks [] with
 | .error _ => true
 | .ok l => l.all (fun p => p.items.all O.fitI && decide (p.items.length ≤ 2000))
theorem build_any {P : Nat → Prop} {W : World} {n : X.E} {cs : List Value} (ok : KidOk W P n cs) (hD : O.fitD n.ks = true) (hl : n.ks.length ≤ 9999) (hF : O.fitP n = true) {RES : Except O.Er O.M} (hB : O.build n = some RES) :
   Calls Tryz.prog 29 #[.agg cs.toArray] W (MdOf W RES) := by
 by_cases hs : n.sp.data.toList = O.bpmnL
 rotate_left
 · have q1 : (n.sp.toList == [104, 116, 116, 112, 58, 47, 47, 119, 119, 119, 46, 111, 109, 103, 46, 111, 114, 103, 47, 115, 112, 101, 99, 47, 66, 80, 77, 78, 47, 50, 48, 49, 48, 48, 53, 50, 52, 47, 77, 79, 68, 69, 76]) = false := by rw [Lib.toList_data]; exact beq_eq_false_iff_ne.2 hs
   refine build_far1 ok q1 ?_
   unfold O.build at hB
   rw [if_pos (Or.inl hs)] at hB
   exact (Option.some.inj hB).symm
 have q1 : (n.sp.toList == [104, 116, 116, 112, 58, 47, 47, 119, 119, 119, 46, 111, 109, 103, 46, 111, 114, 103, 47, 115, 112, 101, 99, 47, 66, 80, 77, 78, 47, 50, 48, 49, 48, 48, 53, 50, 52, 47, 77, 79, 68, 69, 76]) = true := by rw [Lib.toList_data]; exact beq_iff_eq.2 hs
 by_cases hf : n.lo.data.toList = [100, 101, 102, 105, 110, 105, 116, 105, 111, 110, 115]
 rotate_left
 · have q2 : (n.lo.toList == [100, 101, 102, 105, 110, 105, 116, 105, 111, 110, 115]) = false := by rw [Lib.toList_data]; exact beq_eq_false_iff_ne.2 hf
   refine build_far2 ok q1 q2 ?_
   unfold O.build at hB
   rw [if_pos (Or.inr hf)] at hB
   exact (Option.some.inj hB).symm
 have q2 : (n.lo.toList == [100, 101, 102, 105, 110, 105, 116, 105, 111, 110, 115]) = true := by rw [Lib.toList_data]; exact beq_iff_eq.2 hf
 unfold O.build at hB
 rw [if_neg (by rintro (h | h); exact h hs; exact h hf)] at hB
 by_cases ht : O.trim n.tx.data.toList ≠ []
 · rw [if_pos ht] at hB
   exact build_text ok q1 q2 (e := (121, n.ln, n.cl)) (by unfold plainE; rw [if_pos ht]) (Option.some.inj hB).symm
 have hp : plainE n = none := by unfold plainE; rw [if_neg ht]
 rw [if_neg ht] at hB
 rcases hr : O.read O.buildRules (X.E.as n) with er | g
 · rw [hr] at hB
   exact build_read ok q1 q2 hp hr (Option.some.inj hB).symm
 rw [hr] at hB
 simp only at hB
 refine build_ok ok hD hl q1 q2 hp (g0 := g) hr (fun e he => ?_) ⟨fun he => ?_, fun p r he => ?_⟩
 · rw [he] at hB; exact (Option.some.inj hB).symm
 · rw [he] at hB; exact (Option.some.inj hB).symm
 · rw [he] at hB
   simp only at hB
   have hF' := hF
   unfold O.fitP at hF'
   rw [he] at hF'
   have hall : ∀ x ∈ p :: r, x.items.all O.fitI = true ∧ x.items.length ≤ 2000 := fun x hx => by
     have := List.all_eq_true.1 hF' x hx
     rw [Bool.and_eq_true] at this
     exact ⟨this.1, of_decide_eq_true this.2⟩
   rcases hq : O.put (p :: r) 100 p.items [] [] [p.id] [] [] with _ | q
   · rw [hq] at hB; cases hB
   · refine ⟨q, rfl, hall, ?_⟩
     rw [hq] at hB
     cases q with
     | error e => exact (Option.some.inj hB).symm
     | ok v => exact (Option.some.inj hB).symm
def BdOf (W0 : World) (x : Except O.Er O.M) (en : Ending) (W : World) : Prop :=
 (∃ m vv ev fv, x = .ok m ∧ en = .returned (.tuple #[.agg #[.string (X.ba m.id), .string (X.ba m.nm), vv, ev, fv], .agg #[.int .i64 0, .int .i64 0], .int .i64 0]) ∧ VasIn W (fun b => W0.heap.size ≤ b ∧ b < W.heap.size) m.vars vv ∧ W.ownsRow W0.heap.size 36 11 ev m.els.length (elsC m.els) ∧ W.ownsRow W0.heap.size 53 4 fv m.fls.length (flsC m.fls) ∧ Below W0.heap.size W0 W) ∨
 (∃ e p0 p1, x = .error e ∧ en = .returned (.tuple #[.agg #[.string ⟨#[]⟩, .string ⟨#[]⟩, .slice none 0 0, .slice none 0 0, .slice none 0 0], .agg #[.int .i64 p0, .int .i64 p1], .int .i64 e.1]) ∧ Below W0.heap.size W0 W)
structure RQ (W : World) (H K : Nat) (w : World) : Prop where
 h : W.heap.size = H
 k : H ≤ K
 b : Below H W w
 r : ∃ r0 r1 r2 r3 r4, w.heap[K]? = some (.cells #[r0, r1, r2, r3, r4] 30 (0, 0))
 p : ∃ p0 p1, w.heap[K + 1]? = some (.cells #[p0, p1] 32 (0, 0))
theorem drew_heap (w : World) : w.drew.heap = w.heap := rfl
def rb5 (w : World) (K : Nat) (v0 v1 v2 v3 v4 a b : Value) : World := sts (sts w K 0 [v0, v1, v2, v3, v4]) (K + 1) 0 [a, b]
section
variable {W w w' : World} {H K : Nat}
theorem RQ.sz (h : RQ W H K w) : K + 2 ≤ w.heap.size := by obtain ⟨_, _, hp⟩ := h.p; exact Go.lt_of_block hp
theorem RQ.below (h : RQ W H K w) (hb : Below w.heap.size w w') : RQ W H K w' := by
 have hs := h.sz
 obtain ⟨r0, r1, r2, r3, r4, hr⟩ := h.r
 obtain ⟨p0, p1, hp⟩ := h.p
 have hk := h.k
 exact ⟨h.h, hk, h.b.trans (hb.mono (by omega)), ⟨_, _, _, _, _, (hb.block _ (by omega)).trans hr⟩, ⟨_, _, (hb.block _ (by omega)).trans hp⟩⟩
variable {v0 v1 v2 v3 v4 a b : Value}
theorem RQ.row (h : RQ W H K w) : (rb5 w K v0 v1 v2 v3 v4 a b).heap[K]? = some (.cells #[v0, v1, v2, v3, v4] 30 (0, 0)) := by
 obtain ⟨r0, r1, r2, r3, r4, hr⟩ := h.r
 have h1 : (sts w K 0 [v0, v1, v2, v3, v4]).heap[K]? = some (.cells #[v0, v1, v2, v3, v4] 30 (0, 0)) := sts_row [v0, v1, v2, v3, v4] [] [r0, r1, r2, r3, r4] w hr rfl
 exact ((sts_grown [a, b] _ (K + 1) 0).block K (Go.lt_of_block h1) (fun e => by have := Option.some.inj e; omega)).trans h1
theorem RQ.rowP (h : RQ W H K w) : (rb5 w K v0 v1 v2 v3 v4 a b).heap[K + 1]? = some (.cells #[a, b] 32 (0, 0)) := by
 obtain ⟨p0, p1, hp⟩ := h.p
 have h1 := ((sts_grown [v0, v1, v2, v3, v4] w K 0).block (K + 1) (Go.lt_of_block hp) (fun e => by have := Option.some.inj e; omega)).trans hp
 exact sts_row [a, b] [] [p0, p1] _ h1 rfl
theorem RQ.rowD (h : RQ W H K w) : (rb5 w K v0 v1 v2 v3 v4 a b).drew.heap[K]? = some (.cells #[v0, v1, v2, v3, v4] 30 (0, 0)) := by
 rw [drew_heap]
 exact h.row
theorem RQ.rowPD (h : RQ W H K w) : (rb5 w K v0 v1 v2 v3 v4 a b).drew.heap[K + 1]? = some (.cells #[a, b] 32 (0, 0)) := by
 rw [drew_heap]
 exact h.rowP
theorem rb5_size : (rb5 w K v0 v1 v2 v3 v4 a b).heap.size = w.heap.size := by unfold rb5; rw [sts_size, sts_size]
theorem RQ.kept (_ : RQ W H K w) {c : Nat} (hc : K + 2 ≤ c) (hl : c < w.heap.size) : (rb5 w K v0 v1 v2 v3 v4 a b).heap[c]? = w.heap[c]? :=
 ((sts_grown [a, b] _ (K + 1) 0).block c (by rw [sts_size]; exact hl) (fun e => by have := Option.some.inj e; omega)).trans ((sts_grown [v0, v1, v2, v3, v4] w K 0).block c hl (fun e => by have := Option.some.inj e; omega))
theorem RQ.owns (_ : RQ W H K w) {B : Nat} {v : Value} {e : TypeId} {size n : Nat} {xs : List Value} (ho : w.ownsRow B e size v n xs) (hB : K + 2 ≤ B) : (rb5 w K v0 v1 v2 v3 v4 a b).ownsRow B e size v n xs := by
 have n1 : v.ownBlock = none ∨ v.ownBlock ≠ some K := Or.inr (fun e => by have := (World.ownsRow.lt ho K e).1; omega)
 have n2 : v.ownBlock = none ∨ v.ownBlock ≠ some (K + 1) := Or.inr (fun e => by have := (World.ownsRow.lt ho (K + 1) e).1; omega)
 exact (ho.kept (sts_grown _ w K 0) n1).kept (sts_grown _ _ (K + 1) 0) n2
theorem RQ.setB (h : RQ W H K w) : Below H W (rb5 w K v0 v1 v2 v3 v4 a b) := by
 have hs := h.b.size
 have hh := h.h
 have hk := h.k
 exact (h.b.grown (sts_grown [v0, v1, v2, v3, v4] w K 0) (by omega) (fun k hk => by have := Option.some.inj hk; omega)).grown (sts_grown [a, b] _ (K + 1) 0) (by rw [sts_size]; omega) (fun k hk => by have := Option.some.inj hk; omega)
theorem RQ.done (h : RQ W H K w) {B : Nat} {RES : Except O.Er O.M} {m : O.M} {vv ev fv : Value} (hx : RES = .ok m) (hv : VasIn w (fun b => K + 2 ≤ b ∧ b < w.heap.size) m.vars vv) (eo : w.ownsRow B 36 11 ev m.els.length (elsC m.els)) (fo : w.ownsRow B 53 4 fv m.fls.length (flsC m.fls)) (hB : K + 2 ≤ B) :
  BdOf W RES (.returned (.tuple #[.agg #[.string (X.ba m.id), .string (X.ba m.nm), vv, ev, fv], .agg #[.int .i64 0, .int .i64 0], .int .i64 0])) (rb5 w K (.string (X.ba m.id)) (.string (X.ba m.nm)) vv ev fv (.int .i64 0) (.int .i64 0)) := by
 have hk := h.k
 refine Or.inl ⟨m, vv, ev, fv, hx, rfl, hv.keep (fun b hb => ⟨by rw [h.h]; omega, by rw [rb5_size]; exact hb.2⟩) (fun b hb => h.kept hb.1 hb.2), (h.owns eo hB).mono (by rw [h.h]; omega), (h.owns fo hB).mono (by rw [h.h]; omega), by rw [h.h]; exact h.setB⟩
theorem RQ.fail (h : RQ W H K w) {RES : Except O.Er O.M} {e : O.Er} {p0 p1 : Int} (hx : RES = .error e) :
  BdOf W RES (.returned (.tuple #[.agg #[.string ⟨#[]⟩, .string ⟨#[]⟩, .slice none 0 0, .slice none 0 0, .slice none 0 0], .agg #[.int .i64 p0, .int .i64 p1], .int .i64 e.1])) (rb5 w K (.string ⟨#[]⟩) (.string ⟨#[]⟩) (.slice none 0 0) (.slice none 0 0) (.slice none 0 0) (.int .i64 p0) (.int .i64 p1)) :=
 Or.inr ⟨e, p0, p1, hx, rfl, by rw [h.h]; exact h.setB⟩
theorem RQ.failD (h : RQ W H K w) {RES : Except O.Er O.M} {e : O.Er} {p0 p1 : Int} (hx : RES = .error e) :
  BdOf W RES (.returned (.tuple #[.agg zero5m.toArray, .agg #[.int .i64 p0, .int .i64 p1], .int .i64 e.1])) (rb5 w K (.string ⟨#[]⟩) (.string ⟨#[]⟩) (.slice none 0 0) (.slice none 0 0) (.slice none 0 0) (.int .i64 p0) (.int .i64 p1)).drew :=
 Or.inr ⟨e, p0, p1, hx, rfl, by rw [h.h]; exact h.setB.drew⟩
end
theorem results_duo {P : Program} {fn : Func} {p q r : Tmp} {ty ty2 : TypeId} (h : fn.results = #[.cell p ty, .cell q ty2, .tmp r]) (tmps : Array Value) (w : World) (g g2 : Nat) (t t2 : TypeId) (cs cs2 : Array Value) (fr fr2 : Nat × Nat) (d d2 : TypeDesc) (v : Value)
  (hp : tmps.getD p undef = .pointer (some ⟨g, 0, none⟩)) (hg : w.heap[g]? = some (.cells cs t fr)) (hq : tmps.getD q undef = .pointer (some ⟨g2, 0, none⟩)) (hg2 : w.heap[g2]? = some (.cells cs2 t2 fr2)) (hr : tmps.getD r undef = v)
  (hu : P.underlying ty = some d) (hd : (match d with | .struct _ | .array _ _ => true | _ => false) = true) (hi : (P.info? ty).map (·.size) = some cs.size)
  (hu2 : P.underlying ty2 = some d2) (hd2 : (match d2 with | .struct _ | .array _ _ => true | _ => false) = true) (hi2 : (P.info? ty2).map (·.size) = some cs2.size) :
  (results fn tmps).run P w = .ok (.tuple #[.agg cs, .agg cs2, v]) w := by
 have hp' : tmps[p]?.getD undef = .pointer (some ⟨g, 0, none⟩) := by simpa using hp
 have hq' : tmps[q]?.getD undef = .pointer (some ⟨g2, 0, none⟩) := by simpa using hq
 have hr' : tmps[r]?.getD undef = v := by simpa using hr
 simp [results, h, hp', hq', hr', asAddr, run_loadVar_row w g t ty cs fr d hg hu hd hi, run_loadVar_row w g2 t2 ty2 cs2 fr2 d2 hg2 hu2 hd2 hi2]
theorem rb_first (W : World) (H : Nat) (w : World) (hH : W.heap.size = H) (hb : Below H W w) (hk : H ≤ w.heap.size) : RQ W H w.heap.size ((w.alloc (.cells #[.string ⟨#[]⟩, .string ⟨#[]⟩, .slice none 0 0, .slice none 0 0, .slice none 0 0] 30)).alloc (.cells #[.int .i64 0, .int .i64 0] 32)) := by
 have hs : (w.alloc (.cells #[.string ⟨#[]⟩, .string ⟨#[]⟩, .slice none 0 0, .slice none 0 0, .slice none 0 0] 30)).heap.size = w.heap.size + 1 := by simp
 have b1 := hb.alloc (by omega) (.cells #[.string ⟨#[]⟩, .string ⟨#[]⟩, .slice none 0 0, .slice none 0 0, .slice none 0 0] 30)
 have b2 := b1.alloc (by rw [hs]; omega) (.cells #[.int .i64 0, .int .i64 0] 32)
 have h1 := heap_alloc_new w (.cells #[.string ⟨#[]⟩, .string ⟨#[]⟩, .slice none 0 0, .slice none 0 0, .slice none 0 0] 30)
 have h2 := heap_alloc_new (w.alloc (.cells #[.string ⟨#[]⟩, .string ⟨#[]⟩, .slice none 0 0, .slice none 0 0, .slice none 0 0] 30)) (.cells #[.int .i64 0, .int .i64 0] 32)
 rw [hs] at h2
 exact ⟨hH, hk, b2, ⟨_, _, _, _, _, (Go.Lib.alloc_old _ _ _ (by rw [hs]; omega)).trans h1⟩, ⟨_, _, h2⟩⟩
theorem Build_any {P : Nat → Prop} {W : World} {n : X.E} {cs : List Value} (ok : KidOk W P n cs) (hD : O.fitD n.ks = true) (hl : n.ks.length ≤ 9999) (hF : O.fitP n = true) {RES : Except O.Er O.M} (hB : O.build n = some RES) :
   Calls Tryz.prog 15 #[.agg cs.toArray] W (BdOf W RES) := by
 have OK := hid ok
 obtain ⟨av, kv, rfl, hA, hK⟩ := ok.has
 obtain ⟨ka, kc, rfl⟩ := hK.shape
 obtain ⟨ava, avc, rfl⟩ := hA.shape
 obtain ⟨L, hL⟩ : ∃ L, n.ks.length = L := ⟨_, rfl⟩
 obtain ⟨avl, hAL⟩ : ∃ L, (X.E.as n).length = L := ⟨_, rfl⟩
 rw [hL, hAL] at OK ⊢
 obtain ⟨H, hH⟩ : ∃ H, W.heap.size = H := ⟨_, rfl⟩
 obtain ⟨w0, hw0⟩ : ∃ w, W.alloc (.cells #[.string n.sp, .string n.lo, .slice ava avl avc, .slice ka L kc, .string n.tx, .int .i64 n.ln, .int .i64 n.cl] 44) = w := ⟨_, rfl⟩
 have hb0 : Below W.heap.size W w0 := by rw [← hw0]; exact (Below.refl _ W).alloc (Nat.le_refl _) _
 have hz0 : w0.heap.size = H + 1 := by rw [← hw0, ← hH]; simp
 obtain ⟨w1, hw1⟩ : ∃ w, (w0.alloc (.cells #[.string ⟨#[]⟩, .string ⟨#[]⟩, .slice none 0 0, .slice none 0 0, .slice none 0 0] 30)).alloc (.cells #[.int .i64 0, .int .i64 0] 32) = w := ⟨_, rfl⟩
 have HR1 : Hid (RQ W H (H + 1) w1) := by
   show RQ _ _ _ _
   rw [← hw1]
   have := rb_first W H w0 hH (by rw [← hH]; exact hb0) (by omega)
   rw [hz0] at this
   exact this
 have HN1 : Hid (w1.heap[H]? = some (.cells #[.string n.sp, .string n.lo, .slice ava avl avc, .slice ka L kc, .string n.tx, .int .i64 n.ln, .int .i64 n.cl] 44 (0, 0))) := by
   show _ = _
   rw [← hw1, Go.Lib.alloc_old _ _ _ (by simp; omega), Go.Lib.alloc_old _ _ _ (by omega), ← hw0, ← hH]
   exact heap_alloc_new W _
 have HB1 : Hid (Below W.heap.size W w1) := by have := HR1.out.b; rw [← hH] at this; exact this
 have OK1 : KidOk w1 P n [.string n.sp, .string n.lo, .slice ava avl avc, .slice ka L kc, .string n.tx, .int .i64 n.ln, .int .i64 n.cl] := ⟨hasB OK.out.has OK.out.p HB1.out, fun b hb => Nat.lt_of_lt_of_le (OK.out.p b hb) HB1.out.size, OK.out.e.below HB1.out, OK.out.l, OK.out.s, OK.out.t⟩
 have cB := build_any OK1 hD hl hF hB
 obtain ⟨a0, a1, a2, a3, a4, a5, a6⟩ := row7 HN1.out
 have HW1 : Hid (((W.alloc (.cells #[.string n.sp, .string n.lo, .slice ava avl avc, .slice ka L kc, .string n.tx, .int .i64 n.ln, .int .i64 n.cl] 44)).alloc (.cells #[.string ⟨#[]⟩, .string ⟨#[]⟩, .slice none 0 0, .slice none 0 0, .slice none 0 0] 30)).alloc (.cells #[.int .i64 0, .int .i64 0] 32) = w1) := by show _ = _; rw [hw0]; exact hw1
 have HH := hid hH
 clear ok hA hK hL hAL hD hl hF hB hw0 hb0 hz0 hw1 OK1 hH
 go_enter Tryz.func15, Tryz.ntmps15
 go_upto_region 1 with fail
 rw [HW1.out, HH.out]
 clear HW1
 go_wp2_with fail
 refine cB.mono ?_
 clear cB
 rintro en w2 (⟨m, vv, ev, fv, hx, rfl, hv, heo, hfo, hb⟩ | ⟨e, hx, f, rfl, hf, hrow, hb⟩)
 · obtain ⟨va, vl, vc, rfl⟩ : ∃ a l c, vv = .slice a l c := by obtain ⟨a, c, h⟩ := hv.shape; exact ⟨a, _, c, h⟩
   obtain ⟨ea, el, ec, rfl⟩ : ∃ a l c, ev = .slice a l c := by obtain ⟨a, c, h⟩ := own_form heo; exact ⟨a, _, c, h⟩
   obtain ⟨fa, fl, fc, rfl⟩ : ∃ a l c, fv = .slice a l c := by obtain ⟨a, c, h⟩ := own_form hfo; exact ⟨a, _, c, h⟩
   obtain ⟨D, hD⟩ : ∃ D, w2.heap.size = D := ⟨_, rfl⟩
   obtain ⟨w3, hw3⟩ : ∃ w, w2.alloc (.cells #[.string (X.ba m.id), .string (X.ba m.nm), .slice va vl vc, .slice ea el ec, .slice fa fl fc] 30) = w := ⟨_, rfl⟩
   have hb3 : Below w2.heap.size w2 w3 := by rw [← hw3]; exact (Below.refl _ w2).alloc (Nat.le_refl _) _
   have hd3 : w3.heap[D]? = some (.cells #[.string (X.ba m.id), .string (X.ba m.nm), .slice va vl vc, .slice ea el ec, .slice fa fl fc] 30 (0, 0)) := by rw [← hw3, ← hD]; exact heap_alloc_new w2 _
   have HX := hid hx
   have HB13 : Hid (Below w1.heap.size w1 w3) := hb.trans (hb3.mono hb.size)
   have HR3 := hid (HR1.out.below HB13.out)
   have HS : Hid (H + 1 + 2 ≤ w1.heap.size) := HR1.out.sz
   have HV3 : Hid (VasIn w3 (fun b => H + 1 + 2 ≤ b ∧ b < w3.heap.size) m.vars (.slice va vl vc)) := hv.keep (fun b hb => ⟨by have := HS.out; have := hb.1; omega, Nat.lt_of_lt_of_le hb.2 hb3.size⟩) (fun b hb => hb3.block b hb.2)
   have HE3 := hid (heo.kept (grow_of_below hb3) (Classical.em _))
   have HF3 := hid (hfo.kept (grow_of_below hb3) (Classical.em _))
   obtain ⟨d0, d1, d2, d3, d4, -, -, -, -, -⟩ := rowN5 hd3
   obtain ⟨r0, r1, r2, r3, r4, hr⟩ := HR3.out.r
   obtain ⟨p0, p1, hp⟩ := HR3.out.p
   obtain ⟨y0, y1, y2, y3, y4, yf0, yf1, yf2, yf3, yf4⟩ := rowN5 hr
   obtain ⟨z0, z1, zf0, zf1⟩ := rowN2 hp
   have HW3 := hid hw3
   have HDE := hid hD
   clear hx hv heo hfo hb hb3 hd3 hr hp hw3 hD HR1 HN1 HB1 a0 a1 a2 a3 a4 a5 a6
   go_upto_region 2 with fail
   rw [HW3.out, HDE.out]
   clear HW3 HDE
   go_wp2_with fail
   exact bodyPost_ret (v := .tuple #[.agg #[.string (X.ba m.id), .string (X.ba m.nm), .slice va vl vc, .slice ea el ec, .slice fa fl fc], .agg #[.int .i64 0, .int .i64 0], .int .i64 0]) (results_duo rfl _ _ (H + 1) (H + 1 + 1) 30 32 _ _ (0, 0) (0, 0) _ _ (.int .i64 0) rfl (HR3.out.row (a := .int .i64 0) (b := .int .i64 0)) rfl HR3.out.rowP rfl Tryz.underlying30 rfl sizeModel Tryz.underlying32 rfl infoPos) rfl (HR3.out.done HX.out HV3.out HE3.out HF3.out HS.out)
 · rw [show zero5m.toArray = #[.string ⟨#[]⟩, .string ⟨#[]⟩, .slice none 0 0, .slice none 0 0, .slice none 0 0] from rfl]
   obtain ⟨D, hD⟩ : ∃ D, w2.heap.size = D := ⟨_, rfl⟩
   obtain ⟨w3, hw3⟩ : ∃ w, w2.alloc (.cells #[.string ⟨#[]⟩, .string ⟨#[]⟩, .slice none 0 0, .slice none 0 0, .slice none 0 0] 30) = w := ⟨_, rfl⟩
   have hb3 : Below w2.heap.size w2 w3 := by rw [← hw3]; exact (Below.refl _ w2).alloc (Nat.le_refl _) _
   have hf3 : w3.heap[f]? = some (faultRow e.1 e.2.1 e.2.2) := (hb3.block f (Go.lt_of_block hrow)).trans hrow
   have HX := hid hx
   have HB13 : Hid (Below w1.heap.size w1 w3) := hb.trans (hb3.mono hb.size)
   have HR3 := hid (HR1.out.below HB13.out)
   have HFB : Hid (H + 1 + 2 ≤ f) := by have := HR1.out.sz; show _ ≤ _; omega
   obtain ⟨r0, r1, r2, r3, r4, hr⟩ := HR3.out.r
   obtain ⟨p0, p1, hp⟩ := HR3.out.p
   obtain ⟨y0, y1, y2, y3, y4, yf0, yf1, yf2, yf3, yf4⟩ := rowN5 hr
   obtain ⟨z0, z1, zf0, zf1⟩ := rowN2 hp
   obtain ⟨e0, e1, e2⟩ := e
   have f0 : w3.cell? ⟨f, 0, none⟩ = some (.int .i64 e0) := rowCell hf3 0
   have f1 : w3.cell? ⟨f, 1, none⟩ = some (.int .i64 (e1 : Int)) := rowCell hf3 1
   have f2 : w3.cell? ⟨f, 2, none⟩ = some (.int .i64 (e2 : Int)) := rowCell hf3 2
   have n1 : ¬ f = H + 1 := by have := HFB.out; omega
   have n2 : ¬ f = H + 1 + 1 := by have := HFB.out; omega
   have HW3 := hid hw3
   have HDE := hid hD
   clear hx hf hrow hb hb3 hf3 hr hp hw3 hD HR1 HN1 HB1 a0 a1 a2 a3 a4 a5 a6
   go_upto_region 2 with fail
   rw [HW3.out, HDE.out]
   clear HW3 HDE
   go_upto_region 3 with fail
   go_region
   clear f0 f1 f2 y0 y1 y2 y3 y4 yf0 yf1 yf2 yf3 yf4 z0 z1 zf0 zf1 n1 n2
   go_wp2_with fail
   exact bodyPost_ret (v := .tuple #[.agg zero5m.toArray, .agg #[.int .i64 e1, .int .i64 e2], .int .i64 e0]) (results_duo rfl _ _ (H + 1) (H + 1 + 1) 30 32 _ _ (0, 0) (0, 0) _ _ (.int .i64 e0) rfl (HR3.out.rowD (a := .int .i64 e1) (b := .int .i64 e2)) rfl HR3.out.rowPD rfl Tryz.underlying30 rfl sizeModel Tryz.underlying32 rfl infoPos) rfl (HR3.out.failD HX.out)
end Go.Proofs.YteejphiklpnjhaaGreatDoor
