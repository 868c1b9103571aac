/- Maps of rules; numbers; attributes read; items in memory; blanks; kinds. -/
import Derived.Test.YteejphiklpnjhaaGreatDoorMJ6
import Derived.Test.YteejphiklpnjhaaGreatDoorOA1
import Derived.Maps.Range
import Derived.Maps.StringElems
import Derived.Test.YteejphiklpnjhaaGreatDoorMJ2
import Derived.Test.YteejphiklpnjhaaGreatDoorMJ3
import Derived.Test.YteejphiklpnjhaaGreatDoorShelfP
import Derived.Test.YteejphiklpnjhaaGreatDoorWPlainN
import Derived.WalkSmall
import Derived.WalkKit
import Derived.WalkLawsBesides
import Derived.Lib.ItoaLen
import Derived.Lib.AppendIntMem
import Derived.Lib.Strings
import Derived.Laws.BitsAllLaws
import Derived.Lib.AtoiErrMem
import Derived.Lib.Hide
import Derived.BigRegion
namespace Go.Proofs.YteejphiklpnjhaaGreatDoor
set_option maxRecDepth 100000
set_option maxHeartbeats 16000000
open Go.RowKit Go.Maps
open Go.Lib (hid)
def ruleV (u : O.Rule) : Value := .agg #[.bool u.must, .bool u.num, .string (X.ba u.only)]
def bit (b : Bool) : UInt8 := if b then 1 else 0
def ruleD (u : O.Rule) : DataW Unit := .lit (.string (bit u.must :: bit u.num :: u.only))
theorem bit_inj {a b : Bool} (h : bit a = bit b) : a = b := by cases a <;> cases b <;> first | rfl | exact absurd h (by decide)
theorem ruleD_inj {u v : O.Rule} (h : ruleD u = ruleD v) : u = v := by
 obtain ⟨a, b, c⟩ := u
 obtain ⟨a', b', c'⟩ := v
 simp only [ruleD, DataW.lit.injEq, Lit.string.injEq, List.cons.injEq] at h
 obtain ⟨h1, h2, h3⟩ := h
 rw [bit_inj h1, bit_inj h2, h3]
theorem ruleV_inj {u v : O.Rule} (h : ruleV u = ruleV v) : u = v := by
 obtain ⟨a, b, c⟩ := u
 obtain ⟨a', b', c'⟩ := v
 simp only [ruleV, Value.agg.injEq, Array.mk.injEq, List.cons.injEq, Value.bool.injEq, Value.string.injEq, and_true] at h
 obtain ⟨h1, h2, h3⟩ := h
 have : c = c' := by
  have := congrArg ByteArray.toList h3
  rwa [ba_toList, ba_toList] at this
 rw [h1, h2, this]
open Classical in
noncomputable def ruleR (v : Value) : Option (DataW Unit × List MemPlace) := if h : ∃ u, v = ruleV u then some (ruleD h.choose, []) else none
theorem ruleR_rule (u : O.Rule) : ruleR (ruleV u) = some (ruleD u, []) := by
 have h : ∃ v, ruleV u = ruleV v := ⟨u, rfl⟩
 unfold ruleR
 rw [dif_pos h, ← ruleV_inj h.choose_spec]
theorem ruleR_inv {v : Value} {u : O.Rule} {ps : List MemPlace} (h : ruleR v = some (ruleD u, ps)) : v = ruleV u := by
 unfold ruleR at h
 by_cases hv : ∃ u, v = ruleV u
 · rw [dif_pos hv] at h
   simp only [Option.some.injEq, Prod.mk.injEq] at h
   exact hv.choose_spec.trans (congrArg ruleV (ruleD_inj h.1))
 · rw [dif_neg hv] at h
   cases h
def RM (w : World) (b N : Nat) (k : O.Rules) : Prop := w.ownsMap Tryz.prog 9 ruleR b N (X.mapD ruleD k)
theorem RM.below {w w' : World} {b N : Nat} {k : O.Rules} (h : RM w b N k) (hb : Below w.heap.size w w') : RM w' b N k := map_below h hb
theorem RM.grown {w w' : World} {b N : Nat} {k : O.Rules} {row : Option Nat} (h : RM w b N k) (g : w.grownBy w' row) (hr : row ≠ some b) : RM w' b N k := h.kept g (Ne.symm hr)
theorem zeroRule (w : World) : (zeroValue 98).run Tryz.prog w = .ok (ruleV ⟨false, false, []⟩) w := by kernel_rfl
theorem RM.put {w : World} {b N : Nat} {k : O.Rules} (h : RM w b N k) (hN : N < maxLen) (p : ByteArray) (hp : p.size ≤ 1000000000000) (u : O.Rule) :
  ∃ w', (Instr.mapUpdate 99 (.map (some b)) (.string p) (ruleV u)).run Tryz.prog w = .ok () w' ∧ RM w' b (N + 1) ((p.data.toList, u) :: k) ∧ w.mapTurned w' b := by
 obtain ⟨w', h1, h2, h3⟩ := World.ownsMap.store h lawS Tryz.underlying99 hN (keyS hp) (ruleR_rule u)
 exact ⟨w', h1, h2, h3⟩
theorem RM.look {w : World} {b N : Nat} {k : O.Rules} (h : RM w b N k) (p : ByteArray) (hp : p.size ≤ 1000000000000) :
  (Instr.lookup 99 (.map (some b)) (.string p) true).run Tryz.prog w = .ok (.tuple #[ruleV ((X.lookG k p.data.toList).getD ⟨false, false, []⟩), .bool (X.lookG k p.data.toList).isSome]) w := by
 obtain ⟨v, ps, hl, hv⟩ := World.ownsMap.look_ok h lawS Tryz.underlying99 (zeroRule w) (ruleR_rule _) (keyS hp)
 rw [X.mapD_has] at hl
 rw [X.mapD_at] at hv
 have hv2 : ruleR v = some (ruleD ((X.lookG k p.data.toList).getD ⟨false, false, []⟩), ps) := by
  revert hv
  cases X.lookG k p.data.toList <;> exact id
 rw [ruleR_inv hv2] at hl
 exact hl
def numD (x : Int) : DataW Unit := .lit (.int .i64 x)
def KN (w : World) (b N : Nat) (k : List (List UInt8 × Int)) : Prop := w.ownsMap Tryz.prog 9 (plainElem Tryz.prog 3) b N (X.mapD numD k)
theorem KN.below {w w' : World} {b N : Nat} {k : List (List UInt8 × Int)} (h : KN w b N k) (hb : Below w.heap.size w w') : KN w' b N k := map_below h hb
theorem KN.grown {w w' : World} {b N : Nat} {k : List (List UInt8 × Int)} {row : Option Nat} (h : KN w b N k) (g : w.grownBy w' row) (hr : row ≠ some b) : KN w' b N k := h.kept g (Ne.symm hr)
theorem zeroInt (w : World) : (zeroValue 3).run Tryz.prog w = .ok (.int .i64 0) w := by kernel_rfl
theorem KN.put {w : World} {b N : Nat} {k : List (List UInt8 × Int)} (h : KN w b N k) (hN : N < maxLen) (p : ByteArray) (hp : p.size ≤ 1000000000000) (x : Int) (hx : (Lit.int .i64 x).wf = true) :
  ∃ w', (Instr.mapUpdate 92 (.map (some b)) (.string p) (.int .i64 x)).run Tryz.prog w = .ok () w' ∧ KN w' b (N + 1) ((p.data.toList, x) :: k) ∧ w.mapTurned w' b := by
 obtain ⟨w', h1, h2, h3⟩ := World.ownsMap.store h lawS Tryz.underlying92 hN (keyS hp) (plainElem_int (H := Unit) Tryz.underlying3 hx)
 exact ⟨w', h1, h2, h3⟩
theorem KN.look {w : World} {b N : Nat} {k : List (List UInt8 × Int)} (h : KN w b N k) (p : ByteArray) (hp : p.size ≤ 1000000000000) :
  (Instr.lookup 92 (.map (some b)) (.string p) true).run Tryz.prog w = .ok (.tuple #[.int .i64 ((X.lookG k p.data.toList).getD 0), .bool (X.lookG k p.data.toList).isSome]) w := by
 obtain ⟨v, ps, hl, hv⟩ := World.ownsMap.look_ok h lawS Tryz.underlying92 (zeroInt w) (plainElem_int (H := Unit) Tryz.underlying3 (q := .i64) (a := 0) (by decide)) (keyS hp)
 rw [X.mapD_has] at hl
 rw [X.mapD_at] at hv
 obtain ⟨c, rfl, hc, _⟩ := plainElem_int_inv Tryz.underlying3 hv
 have hc2 : c = (X.lookG k p.data.toList).getD 0 := by
  simp only [Prod.mk.injEq] at hc
  have hc1 := hc.1
  revert hc1
  cases X.lookG k p.data.toList with
  | none => intro h; simp only [DataW.lit.injEq, Lit.int.injEq] at h; exact h.2.symm
  | some x => intro h; simp only [numD, DataW.lit.injEq, Lit.int.injEq] at h; exact h.2.symm
 rw [hc2] at hl
 exact hl
theorem KM.get {w : World} {b N : Nat} {k : X.K} (h : KM w b N k) (p : ByteArray) (hp : p.size ≤ 1000000000000) :
  (Instr.lookup 70 (.map (some b)) (.string p) false).run Tryz.prog w = .ok (.string (X.ba ((X.look k p.data.toList).getD []))) w := by
 obtain ⟨v, ps, hl, hv⟩ := World.ownsMap.lookup h lawS Tryz.underlying70 (zeroStr w) (plainElem_string (H := Unit) Tryz.underlying9 (s := ⟨#[]⟩) (by unfold maxLen; decide)) (keyS hp)
 rw [X.mapD_at, X.lookG_look] at hv
 obtain ⟨t, rfl, hc, _⟩ := plainElem_string_inv Tryz.underlying9 hv
 have ht : t = X.ba ((X.look k p.data.toList).getD []) := by
  simp only [Prod.mk.injEq] at hc
  have hc1 := hc.1
  have key : t.data.toList = (X.look k p.data.toList).getD [] := by
   revert hc1
   cases X.look k p.data.toList with
   | none => intro h; simp only [DataW.lit.injEq, Lit.string.injEq] at h; rw [← h]; rfl
   | some x => intro h; simp only [textD, DataW.lit.injEq, Lit.string.injEq] at h; rw [← h]; rfl
  rw [← key]; exact (ba_self t).symm
 rw [ht] at hl
 exact hl
end Go.Proofs.YteejphiklpnjhaaGreatDoor
namespace Go.Proofs.YteejphiklpnjhaaGreatDoor
set_option maxRecDepth 100000
set_option maxHeartbeats 16000000
open Go.RowKit
open Go.Lib (hid itoa)
theorem ret_ib {a b : Int × Bool} (h : a = b) : Ending.returned (.tuple #[.int .i64 a.1, .bool a.2]) = .returned (.tuple #[.int .i64 b.1, .bool b.2]) := by rw [h]
namespace W
theorem list_beq (l m : List UInt8) : (l == m) = decide (l = m) := by
 by_cases h : l = m
 · subst h; simp
 · rw [decide_eq_false h, beq_eq_false_iff_ne]; exact h
end W
def Pows (w : World) : Prop := Lib.TabIs Tryz.prog w "internal/strconv.uint64pow10" .u64 Lib.pow10Tab
theorem wNumber_any (n : Int) (w : World) (h0 : -9223372036854775808 ≤ n) (h1 : n ≤ 9223372036854775807) (hP : Pows w) :
  Calls Tryz.prog 91 #[.int .i64 n] w fun e w' => e = .returned (.string ⟨(itoa n).toArray⟩) ∧ Below w.heap.size w w' := by
 have c := Tryz.strconv_FormatInt_10 n h0 h1 w hP
 generalize itoa n = D at c ⊢
 go_enter Tryz.func91, Tryz.ntmps91
 go_wp2_with fail
 refine c.mono ?_
 rintro e w1 ⟨rfl, k, os, rfl⟩
 go_wp2_with fail
 go_ret
 exact ⟨rfl, Lib.below_grow _ w (Nat.le_refl _) k os⟩
theorem parseInt_any (s : ByteArray) (w : World) (hs : s.size ≤ 281474976710656) (hE : Errs w) :
   (∃ v, W.libP s.data.toList = some v ∧ W.Fits v ∧ Calls Tryz.prog 90 #[.string s, .int .i64 10, .int .i64 64] w fun e w' => e = .returned (.tuple #[.int .i64 v, .nilIface]) ∧ Below w.heap.size w w')
   ∨ (W.libP s.data.toList = none ∧ Calls Tryz.prog 90 #[.string s, .int .i64 10, .int .i64 64] w fun e w' => ∃ (x : Int) (N : Nat), e = .returned (.tuple #[.int .i64 x, .iface 213 (.pointer (some ⟨N, 0, none⟩))]) ∧ Below w.heap.size w w') := by
 obtain ⟨⟨t1, p1, h1⟩, ⟨t2, p2, h2⟩⟩ := hE
 rcases h : Lib.parseIntB 64 s.data.toList with v | _ | _
 · left
   have hl : W.libP s.data.toList = some v := by unfold W.libP; rw [h]
   refine ⟨v, hl, W.lib_fits _ _ hl, ?_⟩
   refine (Tryz.strconv_ParseInt_10_at64_ok s (by omega) v h w).mono ?_
   rintro e w' ⟨rfl, hw⟩
   refine ⟨rfl, ?_⟩
   rcases hw with rfl | ⟨t, rfl⟩
   · exact Below.refl _ _
   · exact Lib.bytesWorld_below _ _ _
 · right
   refine ⟨by unfold W.libP; rw [h], ?_⟩
   refine (Any.strconv_ParseInt_10_at64_syntax_var Tryz.laysC174 s hs h t1 p1 w h1).mono ?_
   rintro e w' ⟨N, rfl, _, _, hb⟩
   exact ⟨0, N, rfl, hb⟩
 · right
   refine ⟨by unfold W.libP; rw [h], ?_⟩
   refine (Any.strconv_ParseInt_10_at64_range_var Tryz.laysC174 s hs h t2 p2 w h2).mono ?_
   rintro e w' ⟨N, rfl, _, _, hb⟩
   exact ⟨_, N, rfl, hb⟩
theorem Pows.below {B : Nat} {w w' : World} (h : Pows w) (hb : Below B w w') (hB : 5 < B) : Pows w' :=
 var?_below hb (show Tryz.prog.globalNamed "internal/strconv.uint64pow10" = some 5 by kernel_rfl) hB h
theorem wParse_any (s : ByteArray) (w : World) (hs : s.size ≤ 281474976710656) (hE : Errs w) (hP : Pows w) (hz : 5 < w.heap.size) :
   Calls Tryz.prog 64 #[.string s] w fun e w' => e = .returned (.tuple #[.int .i64 (W.parseW s.data.toList).1, .bool (W.parseW s.data.toList).2]) ∧ Below w.heap.size w w' := by
 rcases parseInt_any s w hs hE with ⟨v, hv, hf, hc⟩ | ⟨hv, hc⟩
 · obtain ⟨q, hq⟩ : ∃ q, decide (itoa v = s.data.toList) = q := ⟨_, rfl⟩
   have hne : (itoa v == s.toList) = q := by rw [Lib.toList_data, W.list_beq]; exact hq
   have HF : Hid (W.parseW s.data.toList = if q then (v, true) else (0, false)) := by
    show _ = _
    unfold W.parseW
    rw [hv, ← hq]
    show (if itoa v = s.data.toList then _ else _) = _
    by_cases h : itoa v = s.data.toList <;> simp [h]
   clear hq hv
   obtain ⟨hf0, hf1⟩ := hf
   cases q
   all_goals
    go_enter Tryz.func64, Tryz.ntmps64
    go_wp2_with fail
    refine hc.mono ?_
    rintro e w1 ⟨rfl, hb1⟩
    go_wp2_with fail
    refine (wNumber_any v _ hf0 hf1 (hP.below hb1 hz)).mono ?_
    rintro e w2 ⟨rfl, hb2⟩
    go_wp2_with fail
    go_ret2
    first
     | exact ⟨ret_ib (a := (0, false)) (by rw [HF.out]; rfl), hb1.trans (hb2.mono hb1.size)⟩
     | exact ⟨ret_ib (a := (v, true)) (by rw [HF.out]; rfl), hb1.trans (hb2.mono hb1.size)⟩
 · have HF : Hid (W.parseW s.data.toList = (0, false)) := by
    show _ = _
    unfold W.parseW
    rw [hv]; rfl
   clear hv
   go_enter Tryz.func64, Tryz.ntmps64
   go_wp2_with fail
   refine hc.mono ?_
   rintro e w1 ⟨x, N, rfl, hb1⟩
   go_wp2_with fail
   go_ret2
   exact ⟨ret_ib (a := (0, false)) (by rw [HF.out]), hb1⟩
end Go.Proofs.YteejphiklpnjhaaGreatDoor
namespace Go.Proofs.YteejphiklpnjhaaGreatDoor
set_option maxRecDepth 100000
set_option maxHeartbeats 16000000
open Go.RowKit Go.Maps
open Go.Lib (hid)
structure EnvO (w : World) : Prop where
 e : Errs w
 t : Tabs w
 p : Pows w
 z : 5 < w.heap.size
theorem EnvO.below {w w' : World} (h : EnvO w) (hb : Below w.heap.size w w') : EnvO w' := ⟨h.e.keep hb, h.t.under hb, h.p.below hb h.z, Nat.lt_of_lt_of_le h.z hb.size⟩
def faultRow (e : Int) (ln cl : Nat) : Obj := .cells #[.int .i64 e, .int .i64 ln, .int .i64 cl] 75 (0, 0)
def ReadOf (W0 : World) (ln cl : Nat) (x : Except Int O.Got) (en : Ending) (W : World) : Prop :=
 (∃ g Mv Mn, x = .ok g ∧ en = .returned (.tuple #[.agg #[.map (some Mv), .map (some Mn)], .pointer none]) ∧ W0.heap.size ≤ Mv ∧ W0.heap.size ≤ Mn ∧ KM W Mv 64 g.vals ∧ KN W Mn 64 g.nums ∧ Below W0.heap.size W0 W) ∨
 (∃ e a b f, x = .error e ∧ en = .returned (.tuple #[.agg #[.map a, .map b], .pointer (some ⟨f, 0, none⟩)]) ∧ W0.heap.size ≤ f ∧ W.heap[f]? = some (faultRow e ln cl) ∧ Below W0.heap.size W0 W)
structure RB (W : World) (H : Nat) (cs : List Value) (g : O.Got) (N : Nat) (w : World) : Prop where
 h : W.heap.size = H
 b : Below H W w
 n : w.heap[H]? = some (.cells cs.toArray 44 (0, 0))
 r : ∃ x y, w.heap[H + 1]? = some (.cells #[x, y] 94 (0, 0))
 v : KM w (H + 2) N g.vals
 m : KN w (H + 3) N g.nums
 o : w.heap[H + 4]? = some (.cells #[.map (some (H + 2)), .map (some (H + 3))] 94 (0, 0))
section
variable {W w w' : World} {H N : Nat} {cs : List Value} {g : O.Got}
theorem RB.sz (h : RB W H cs g N w) : H + 5 ≤ w.heap.size := Go.lt_of_block h.o
theorem RB.below (h : RB W H cs g N w) (hb : Below w.heap.size w w') : RB W H cs g N w' := by
 have hs := h.sz
 obtain ⟨x, y, hr⟩ := h.r
 exact ⟨h.h, h.b.trans (hb.mono (by omega)), (hb.block _ (by omega)).trans h.n, ⟨x, y, (hb.block _ (by omega)).trans hr⟩, h.v.below hb, h.m.below hb, (hb.block _ (by omega)).trans h.o⟩
theorem RB.grown (h : RB W H cs g N w) {Y : Nat} (gr : w.grownBy w' (some Y)) (hY : H + 5 ≤ Y) : RB W H cs g N w' := by
 have hs := h.sz
 obtain ⟨x, y, hr⟩ := h.r
 have ne : ∀ k, k < H + 5 → some k ≠ some Y := fun k hk e => by have := Option.some.inj e; omega
 exact ⟨h.h, h.b.grown gr (by have := h.b.size; have := h.h; omega) (fun k hk => by have := Option.some.inj hk; omega), (gr.block _ (by omega) (ne _ (by omega))).trans h.n, ⟨x, y, (gr.block _ (by omega) (ne _ (by omega))).trans hr⟩, h.v.grown gr (Ne.symm (ne _ (by omega))), h.m.grown gr (Ne.symm (ne _ (by omega))), (gr.block _ (by omega) (ne _ (by omega))).trans h.o⟩
theorem RB.mono (h : RB W H cs g N w) {M : Nat} (hM : N ≤ M) : RB W H cs g M w := ⟨h.h, h.b, h.n, h.r, h.v.mono hM, World.ownsMap.mono h.m hM, h.o⟩
theorem RB.putV (h : RB W H cs g N w) {k : X.K} (hk : KM w' (H + 2) (N + 1) k) (ht : w.mapTurned w' (H + 2)) : RB W H cs ⟨k, g.nums⟩ (N + 1) w' := by
 have hs := h.sz
 obtain ⟨x, y, hr⟩ := h.r
 have gr := ht.grown
 have ne : ∀ k, k ≠ H + 2 → some k ≠ some (H + 2) := fun k hk e => hk (Option.some.inj e)
 exact ⟨h.h, h.b.grown gr (by have := h.b.size; have := h.h; omega) (fun k hk => by have := Option.some.inj hk; omega), (gr.block _ (by omega) (ne _ (by omega))).trans h.n, ⟨x, y, (gr.block _ (by omega) (ne _ (by omega))).trans hr⟩, hk, World.ownsMap.mono (h.m.grown gr (fun e => by have := Option.some.inj e; omega)) (by omega), (gr.block _ (by omega) (ne _ (by omega))).trans h.o⟩
theorem RB.putN (h : RB W H cs g N w) {k : List (List UInt8 × Int)} (hk : KN w' (H + 3) (N + 1) k) (ht : w.mapTurned w' (H + 3)) : RB W H cs ⟨g.vals, k⟩ (N + 1) w' := by
 have hs := h.sz
 obtain ⟨x, y, hr⟩ := h.r
 have gr := ht.grown
 have ne : ∀ k, k ≠ H + 3 → some k ≠ some (H + 3) := fun k hk e => hk (Option.some.inj e)
 exact ⟨h.h, h.b.grown gr (by have := h.b.size; have := h.h; omega) (fun k hk => by have := Option.some.inj hk; omega), (gr.block _ (by omega) (ne _ (by omega))).trans h.n, ⟨x, y, (gr.block _ (by omega) (ne _ (by omega))).trans hr⟩, (h.v.grown gr (fun e => by have := Option.some.inj e; omega)).mono (by omega), hk, (gr.block _ (by omega) (ne _ (by omega))).trans h.o⟩
theorem RB.okR (h : RB W H cs g N w) (a b : Value) : ((w.setCell ⟨H + 1, 0, none⟩ a).setCell ⟨H + 1, 1, none⟩ b).heap[H + 1]? = some (.cells #[a, b] 94 (0, 0)) := by
 obtain ⟨x, y, hr⟩ := h.r
 exact row_set (row_set hr 0 a) 1 b
theorem RB.ok (h : RB W H cs g N w) (hN : N ≤ 64) {ln cl : Nat} {x : Except Int O.Got} (hx : x = .ok g) (a b : Value) :
  ReadOf W ln cl x (.returned (.tuple #[.agg #[.map (some (H + 2)), .map (some (H + 3))], .pointer none])) ((w.setCell ⟨H + 1, 0, none⟩ a).setCell ⟨H + 1, 1, none⟩ b) := by
 have gr := (grownBy_set w (H + 1) 0 a).trans (grownBy_set _ (H + 1) 1 b)
 refine Or.inl ⟨g, H + 2, H + 3, hx, rfl, by have := h.h; omega, by have := h.h; omega, (h.v.grown gr (by simp)).mono hN, World.ownsMap.mono (h.m.grown gr (by simp)) hN, ?_⟩
 rw [h.h]
 have h1 := h.b.size
 have h2 := h.h
 exact h.b.grown gr (by omega) (fun k hk => by have := Option.some.inj hk; omega)
theorem RB.fault (h : RB W H cs g N w) {ln cl : Nat} {x : Except Int O.Got} {e : Int} (hx : x = .error e) (a b : Option Nat) :
   ReadOf W ln cl x (.returned (.tuple #[.agg #[.map a, .map b], .pointer (some ⟨w.heap.size, 0, none⟩)])) (((w.setCell ⟨H + 1, 0, none⟩ (.map a)).setCell ⟨H + 1, 1, none⟩ (.map b)).alloc (.cells #[.int .i64 e, .int .i64 ln, .int .i64 cl] 75)).drew := by
 have gr := (grownBy_set w (H + 1) 0 (.map a)).trans (grownBy_set _ (H + 1) 1 (.map b))
 have hs : ((w.setCell ⟨H + 1, 0, none⟩ (.map a)).setCell ⟨H + 1, 1, none⟩ (.map b)).heap.size = w.heap.size := by simp
 refine Or.inr ⟨e, a, b, w.heap.size, hx, rfl, ?_, ?_, ?_⟩
 · have := h.b.size; have := h.h; omega
 · show (((w.setCell ⟨H + 1, 0, none⟩ (.map a)).setCell ⟨H + 1, 1, none⟩ (.map b)).alloc _).heap[w.heap.size]? = _
   rw [← hs]
   exact heap_alloc_new _ _
 · rw [h.h]
   have h1 := h.b.size
   have h2 := h.h
   exact ((h.b.grown gr (by omega) (fun k hk => by have := Option.some.inj hk; omega)).alloc (by rw [hs]; omega) _).drew
theorem RB.faultR (h : RB W H cs g N w) (a b : Value) (o : Obj) : (((w.setCell ⟨H + 1, 0, none⟩ a).setCell ⟨H + 1, 1, none⟩ b).alloc o).drew.heap[H + 1]? = some (.cells #[a, b] 94 (0, 0)) := by
 obtain ⟨x, y, hr⟩ := h.r
 have h2 := row_set (row_set hr 0 a) 1 b
 show (((w.setCell ⟨H + 1, 0, none⟩ a).setCell ⟨H + 1, 1, none⟩ b).alloc o).heap[H + 1]? = _
 rw [Go.Lib.alloc_old _ _ _ (Go.lt_of_block h2), h2]
 rfl
end
theorem sizeAttrs : (Tryz.prog.info? 94).map (·.size) = some 2 := by kernel_rfl
theorem parseW_fits (l : List UInt8) : (Lit.int .i64 (W.parseW l).1).wf = true := by
 have h : W.Fits (W.parseW l).1 := by
  unfold W.parseW
  cases h : W.libP l with
  | none => exact (show W.Fits 0 from ⟨by decide, by decide⟩)
  | some v =>
    have := W.lib_fits l v h
    show W.Fits (if _ then _ else _ : Int × Bool).1
    split
    · exact this
    · exact (show W.Fits 0 from ⟨by decide, by decide⟩)
 obtain ⟨h1, h2⟩ := h
 have e1 : IntKind.i64.min = -9223372036854775808 := by decide
 have e2 : IntKind.i64.max = 9223372036854775807 := by decide
 show (decide (IntKind.i64.min ≤ _) && decide (_ ≤ IntKind.i64.max)) = true
 rw [e1, e2, decide_eq_true h1, decide_eq_true h2]
 rfl
theorem num_any (s : ByteArray) (w : World) (hs : s.size ≤ 281474976710656) (h : EnvO w) :
 Calls Tryz.prog 64 #[.string s] w fun e w' => e = .returned (.tuple #[.int .i64 (O.numOf s.data.toList).1, .bool (O.numOf s.data.toList).2]) ∧ Below w.heap.size w w' := wParse_any s w hs h.e h.p h.z
theorem allocs5 (W : World) (a b c d e : Obj) : (((((W.alloc a).alloc b).alloc c).alloc d).alloc e).heap[W.heap.size]? = some a ∧ (((((W.alloc a).alloc b).alloc c).alloc d).alloc e).heap[W.heap.size + 1]? = some b ∧ (((((W.alloc a).alloc b).alloc c).alloc d).alloc e).heap[W.heap.size + 4]? = some e := by
 refine ⟨?_, ?_, ?_⟩
 · show (((((W.heap.push a).push b).push c).push d).push e)[W.heap.size]? = _
   simp only [Array.getElem?_push, Array.size_push]
   repeat (first | rw [if_neg (by omega)] | exact if_pos trivial | rw [if_pos (by omega)])
 · show (((((W.heap.push a).push b).push c).push d).push e)[W.heap.size + 1]? = _
   simp only [Array.getElem?_push, Array.size_push]
   repeat (first | rw [if_neg (by omega)] | exact if_pos trivial | rw [if_pos (by omega)])
 · show (((((W.heap.push a).push b).push c).push d).push e)[W.heap.size + 4]? = _
   simp only [Array.getElem?_push, Array.size_push]
   repeat (first | rw [if_neg (by omega)] | exact if_pos trivial | rw [if_pos (by omega)])
theorem read_any {P : Nat → Prop} {N b : Nat} {W : World} {n : X.E} {cs : List Value} {rs : O.Rules} (hn : n.Has W P cs) (hP : ∀ b, P b → b < W.heap.size) (hR : RM W b N rs) (hE : EnvO W)
  (hl : (X.E.as n).length ≤ 32) (hsm : ∀ x ∈ X.E.as n, x.lo.size ≤ 100000 ∧ x.va.size ≤ 100000) (hrs : ∀ r ∈ rs, r.1.length ≤ 1000) :
  Calls Tryz.prog 42 #[.agg cs.toArray, .map (some b)] W (ReadOf W n.ln n.cl (O.read rs (X.E.as n))) := by
 obtain ⟨av, kv, rfl, hA, hK⟩ := hn
 obtain ⟨al, hal⟩ : ∃ al, X.E.as n = al := ⟨_, rfl⟩
 obtain ⟨ln, hln⟩ : ∃ ln, n.ln = ln := ⟨_, rfl⟩
 obtain ⟨cl, hcl⟩ : ∃ cl, n.cl = cl := ⟨_, rfl⟩
 obtain ⟨RES, hRES⟩ : ∃ x, O.read rs al = x := ⟨_, rfl⟩
 rw [hal] at hA hl hsm ⊢
 rw [hln, hcl, hRES]
 have HRES : Hid (RES = match O.readA rs al ⟨[], []⟩ with | .error e => .error e | .ok g => if O.full rs g.vals then .ok g else .error 121) := hRES.symm
 obtain ⟨ad, cp, rfl⟩ := hA.shape
 obtain ⟨m, hm⟩ : ∃ m, al.length = m := ⟨_, rfl⟩
 have HA : Hid (X.AIn W P al (.slice ad m cp)) := by show X.AIn _ _ _ _; rw [← hm]; exact hA
 rw [hm]
 have HM := hid hm
 have HR := hid hR
 have HE := hid hE
 have HL := hid hl
 have HSM := hid hsm
 have HP := hid hP
 have HRS := hid hrs
 obtain ⟨H, hH⟩ : ∃ H, W.heap.size = H := ⟨_, rfl⟩
 obtain ⟨CS, hCS⟩ : ∃ CS, [Value.string n.sp, .string n.lo, .slice ad m cp, kv, .string n.tx, .int .i64 ln, .int .i64 cl] = CS := ⟨_, rfl⟩
 have hmm := @run_makeMap Tryz.prog
 obtain ⟨w1, hw1⟩ : ∃ w1, ((((W.alloc (.cells #[.string n.sp, .string n.lo, .slice ad m cp, kv, .string n.tx, .int .i64 ln, .int .i64 cl] 44)).alloc (.cells #[.map none, .map none] 94)).alloc (.map #[] 0)).alloc (.map #[] 0)).alloc (.cells #[.map (some (W.heap.size + 1 + 1)), .map (some (W.heap.size + 1 + 1 + 1))] 94) = w1 := ⟨_, rfl⟩
 have HF1 : Hid (RB W H CS ⟨[], []⟩ (2 * 0) w1) := by
  show RB _ _ _ _ _ _
  have b1 := (Below.refl W.heap.size W).alloc (Nat.le_refl _) (.cells #[.string n.sp, .string n.lo, .slice ad m cp, kv, .string n.tx, .int .i64 ln, .int .i64 cl] 44)
  have b2 := b1.alloc (by simp) (.cells #[.map none, .map none] 94)
  have b3 := b2.alloc (by simp; omega) (.map #[] 0)
  have b4 := b3.alloc (by simp; omega) (.map #[] 0)
  have b5 := b4.alloc (by simp; omega) (.cells #[.map (some (W.heap.size + 1 + 1)), .map (some (W.heap.size + 1 + 1 + 1))] 94)
  have m1 := World.ownsMap_made (H := Unit) ((W.alloc (.cells #[.string n.sp, .string n.lo, .slice ad m cp, kv, .string n.tx, .int .i64 ln, .int .i64 cl] 44)).alloc (.cells #[.map none, .map none] 94)) Tryz.prog 9 (plainElem Tryz.prog 9)
  have m2 := World.ownsMap_made (H := Unit) (((W.alloc (.cells #[.string n.sp, .string n.lo, .slice ad m cp, kv, .string n.tx, .int .i64 ln, .int .i64 cl] 44)).alloc (.cells #[.map none, .map none] 94)).alloc (.map #[] 0)) Tryz.prog 9 (plainElem Tryz.prog 3)
  have m1' := (m1.alloc (.map #[] 0)).alloc (.cells #[.map (some (W.heap.size + 1 + 1)), .map (some (W.heap.size + 1 + 1 + 1))] 94)
  have m2' := m2.alloc (.cells #[.map (some (W.heap.size + 1 + 1)), .map (some (W.heap.size + 1 + 1 + 1))] 94)
  rw [hw1] at b5 m1' m2'
  have e1 : ((W.alloc (.cells #[.string n.sp, .string n.lo, .slice ad m cp, kv, .string n.tx, .int .i64 ln, .int .i64 cl] 44)).alloc (.cells #[.map none, .map none] 94)).heap.size = H + 2 := by simp; omega
  have e2 : (((W.alloc (.cells #[.string n.sp, .string n.lo, .slice ad m cp, kv, .string n.tx, .int .i64 ln, .int .i64 cl] 44)).alloc (.cells #[.map none, .map none] 94)).alloc (.map #[] 0)).heap.size = H + 3 := by simp; omega
  rw [e1] at m1'
  rw [e2] at m2'
  rw [hH] at b5
  subst hH hCS hw1
  obtain ⟨a0, a1, a4⟩ := allocs5 W (.cells #[.string n.sp, .string n.lo, .slice ad m cp, kv, .string n.tx, .int .i64 ln, .int .i64 cl] 44) (.cells #[.map none, .map none] 94) (.map #[] 0) (.map #[] 0) (.cells #[.map (some (W.heap.size + 1 + 1)), .map (some (W.heap.size + 1 + 1 + 1))] 94)
  exact ⟨rfl, b5, a0, ⟨.map none, .map none, a1⟩, m1', m2', a4⟩
 have HW1 := hid hw1
 have HH := hid hH
 have HCS := hid hCS
 clear hrs hA hl hsm hP hR hE hm hH hw1 hRES hal hln hcl hK hCS
 go_enter Tryz.func42, Tryz.ntmps42
 go_upto_region 2 with fail
 rw [HW1.out, HH.out]
 simp only [Nat.add_assoc, Nat.reduceAdd]
 clear HW1
 obtain ⟨c0, c1, c2, c3, c4, c5, c6⟩ := row7 (by have := HF1.out.n; rw [← HCS.out] at this; exact this)
 go_wp2_with fail
 go_loopw [24] (fun vi wr => ∃ (i : Nat) (g : O.Got), vi = .int .i64 i ∧ Hid (i ≤ m ∧ O.readA rs (al.drop i) g = O.readA rs al ⟨[], []⟩) ∧ Hid (RB W H CS g (2 * i) wr)) (fun vi _ => m - (intOf vi).toNat)
 case atStart => exact ⟨0, ⟨[], []⟩, rfl, hid ⟨Nat.zero_le _, rfl⟩, HF1⟩
 case round =>
  obtain ⟨i, g, rfl, HI, HF⟩ := hrel
  clear HF1
  rcases Nat.lt_or_ge i m with hlt | hge
  · have t0 : decide ((i : Int) < (m : Int)) = true := decide_eq_true (by omega)
    obtain ⟨bA, oA, rfl, hPA, hcA⟩ : ∃ b o, ad = some ⟨b, o, none⟩ ∧ P b ∧ ∀ j u, (attrsC al)[j]? = some u → W.cell? ⟨b, o + j, none⟩ = some u := by
      rcases HA.out with ⟨h, _⟩ | ⟨_, b, o, c, he, h2, _, h4⟩
      · have := HM.out; rw [h] at this; simp at this; omega
      · simp only [Value.slice.injEq] at he; exact ⟨b, o, he.1, h2, h4⟩
    have hlt' : i < al.length := by rw [HM.out]; exact hlt
    obtain ⟨x, hx⟩ : ∃ x, al[i]? = some x := ⟨_, List.getElem?_eq_getElem hlt'⟩
    have hdrop : al.drop i = x :: al.drop (i + 1) := by
      rw [List.drop_eq_getElem_cons hlt']
      rw [List.getElem?_eq_getElem hlt'] at hx
      rw [Option.some.inj hx]
    obtain ⟨i1, hi1⟩ : ∃ i1, i + 1 = i1 := ⟨_, rfl⟩
    have HX : Hid (O.readA rs al ⟨[], []⟩ = match O.one rs x g with | .error e => .error e | .ok g => O.readA rs (al.drop i1) g) := by
      show _ = _
      rw [← HI.out.2, hdrop, hi1]
      rfl
    have HSX := hid (HSM.out x (List.mem_of_getElem? hx))
    have cc := fun j u (hu : (attrC x)[j]? = some u) => (HF.out.b.cell (p := ⟨bA, oA + (i * 3 + j), none⟩) (by rw [← HH.out]; exact HP.out _ hPA)).trans (hcA _ _ (attrsC_at al i x hx j u hu))
    have d0 := cc 0 _ rfl
    have d1 := cc 1 _ rfl
    have d2 := cc 2 _ rfl
    rw [Nat.add_zero] at d0
    rw [← Nat.add_assoc] at d1 d2
    obtain ⟨Y, hY⟩ : ∃ Y, wr.heap.size = Y := ⟨_, rfl⟩
    obtain ⟨w3, hw3⟩ : ∃ w3, wr.alloc (.cells #[.string x.sp, .string x.lo, .string x.va] 126) = w3 := ⟨_, rfl⟩
    have HX3 : Hid (w3.heap[Y]? = some (.cells #[.string x.sp, .string x.lo, .string x.va] 126 (0, 0))) := by show _ = _; rw [← hw3, ← hY]; exact heap_alloc_new wr _
    have hb3 : Below wr.heap.size wr w3 := by rw [← hw3]; exact (Below.refl _ wr).alloc (Nat.le_refl _) _
    have HF3 := hid (HF.out.below hb3)
    have HY2 : Hid (H + 5 ≤ Y) := by
      have := HF.out.sz
      show _ ≤ _
      omega
    have HW3 := hid hw3
    have HYE := hid hY
    clear hcA cc hdrop hw3 hY hb3 hlt' hx HF
    go_upto_region 5 with fail
    rw [HW3.out, HYE.out]
    clear HW3 HYE d0 d1 d2
    obtain ⟨y0, y1, y2⟩ := row3 HX3.out
    have cat0 : ByteArray.toList (⟨#[58]⟩ ++ x.lo) = 58 :: x.lo.toList := by simp [ByteArray.toList_eq]
    by_cases hs0 : x.sp.toList = []
    · have q0 : x.sp.toList.isEmpty = true := by rw [hs0]; rfl
      obtain ⟨kb, hkb⟩ : ∃ kb, x.lo = kb := ⟨_, rfl⟩
      have HNM : Hid (O.nameOf x.sp.data.toList x.lo.data.toList = some kb.data.toList) := by
        show _ = _
        unfold O.nameOf
        rw [← Lib.toList_data, hs0, if_pos rfl, hkb]
      have HKS : Hid (kb.size ≤ 100001) := by have := HSX.out.1; show _ ≤ _; rw [← hkb]; omega
      go_upto_region 11 with fail
      try rw [hkb]
      clear hs0 hkb
      clear y0 y1 q0
      have HR3 : Hid (RM w3 b N rs) := HR.out.below (by rw [HH.out]; exact HF3.out.b)
      have hlk := HR3.out.look kb (by have := HKS.out; omega)
      cases hu : X.lookG rs kb.data.toList with
      | none =>
        have HX2 : Hid (RES = .error 121) := by
          show _ = _
          rw [HRES.out, HX.out]
          unfold O.one
          rw [HNM.out]
          simp only [hu]
        rw [hu] at hlk
        have hlk2 : (Instr.lookup 99 (.map (some b)) (.string kb) true).run Tryz.prog w3 = .ok (.tuple #[.agg #[.bool false, .bool false, .string ⟨#[]⟩], .bool false]) w3 := hlk
        clear hlk
        obtain ⟨w4, hw4⟩ : ∃ w4, w3.alloc (.cells #[.bool false, .bool false, .string ⟨#[]⟩] 98) = w4 := ⟨_, rfl⟩
        have HF4 : Hid (RB W H CS g (2 * i) w4) := HF3.out.below (by rw [← hw4]; exact (Below.refl _ w3).alloc (Nat.le_refl _) _)
        have HW4 := hid hw4
        clear hw4 y2 hu
        go_upto_region 12 with fail
        rw [HW4.out]
        clear HW4 hlk2
        have ho := HF4.out.o
        obtain ⟨r0, r1, hr⟩ := HF4.out.r
        obtain ⟨e0, e1⟩ := row2 ho
        obtain ⟨f0, f1⟩ := row2 hr
        obtain ⟨b0, b1, b2, b3, b4, b5, b6⟩ := row7 (by have := HF4.out.n; rw [← HCS.out] at this; exact this)
        have z4 : H + 4 < w4.heap.size := Go.lt_of_block ho
        have z1 : H + 1 < w4.heap.size := by omega
        have z0 : H < w4.heap.size := by omega
        have f2 := Lib.frozen_of_heap hr 0
        have f3 := Lib.frozen_of_heap hr 1
        clear ho hr b0 b1 b2 b3 b4 c0 c1 c2 c3 c4 c5 c6
        go_upto_region 13 with fail
        go_region
        clear e0 e1 f0 f1 f2 f3 z0 z1 z4 b5 b6
        go_wp2_with fail
        exact bodyPost_ret (v := .tuple #[.agg #[.map (some (H + 2)), .map (some (H + 3))], .pointer (some ⟨w4.heap.size, 0, none⟩)]) (results_pair rfl _ _ (H + 1) 94 _ (0, 0) _ (.pointer (some ⟨w4.heap.size, 0, none⟩)) rfl (HF4.out.faultR _ _ _) rfl Tryz.underlying94 rfl sizeAttrs) rfl (HF4.out.fault HX2.out _ _)
      | some u =>
        rw [hu] at hlk
        obtain ⟨um, uk, uo⟩ := u
        obtain ⟨ob, hob⟩ : ∃ ob, X.ba uo = ob := ⟨_, rfl⟩
        have hlk2 : (Instr.lookup 99 (.map (some b)) (.string kb) true).run Tryz.prog w3 = .ok (.tuple #[.agg #[.bool um, .bool uk, .string ob], .bool true]) w3 := by rw [← hob]; exact hlk
        clear hlk
        have hol : ob.toList = uo := by rw [← hob]; exact ba_toList _
        obtain ⟨w4, hw4⟩ : ∃ w4, w3.alloc (.cells #[.bool um, .bool uk, .string ob] 98) = w4 := ⟨_, rfl⟩
        have hb4 : Below w3.heap.size w3 w4 := by rw [← hw4]; exact (Below.refl _ w3).alloc (Nat.le_refl _) _
        have HF4 : Hid (RB W H CS g (2 * i) w4) := HF3.out.below hb4
        have HX4 : Hid (w4.heap[Y]? = some (.cells #[.string x.sp, .string x.lo, .string x.va] 126 (0, 0))) := by show _ = _; rw [hb4.block Y (Go.lt_of_block HX3.out)]; exact HX3.out
        obtain ⟨R, hR⟩ : ∃ R, w3.heap.size = R := ⟨_, rfl⟩
        have HU4 : Hid (w4.heap[R]? = some (.cells #[.bool um, .bool uk, .string ob] 98 (0, 0))) := by show _ = _; rw [← hw4, ← hR]; exact heap_alloc_new w3 _
        have HW4 := hid hw4
        have HRR := hid hR
        have HR2 : Hid (H + 5 ≤ R) := by show _ ≤ _; rw [← hR]; exact HF3.out.sz
        have HUL : Hid (O.one rs x g = if uo ≠ [] ∧ uo ≠ x.va.data.toList then .error 121 else if uk then if (O.numOf x.va.data.toList).2 = true then .ok ⟨(kb.data.toList, x.va.data.toList) :: g.vals, (kb.data.toList, (O.numOf x.va.data.toList).1) :: g.nums⟩ else .error 1 else .ok ⟨(kb.data.toList, x.va.data.toList) :: g.vals, g.nums⟩) := by
          show _ = _
          unfold O.one
          rw [HNM.out]
          simp only [hu]
        clear hw4 y2 hu hob hb4 hR
        go_upto_region 12 with fail
        rw [HW4.out, HRR.out]
        clear HW4 HRR hlk2
        obtain ⟨y0, y1, y2⟩ := row3 HX4.out
        obtain ⟨v0, v1, v2⟩ := row3 HU4.out
        by_cases hbad : uo ≠ [] ∧ uo ≠ x.va.data.toList
        · have HX2 : Hid (RES = .error 121) := by
            show _ = _
            rw [HRES.out, HX.out, HUL.out, if_pos hbad]
          have q1 : ob.toList.isEmpty = false := by rw [hol]; simpa using hbad.1
          have q2 : (ob.toList == x.va.toList) = false := by rw [hol, Lib.toList_data x.va]; exact beq_eq_false_iff_ne.2 hbad.2
          obtain ⟨r0, r1, hr⟩ := HF4.out.r
          obtain ⟨e0, e1⟩ := row2 HF4.out.o
          obtain ⟨f0, f1⟩ := row2 hr
          have f2 := Lib.frozen_of_heap hr 0
          have f3 := Lib.frozen_of_heap hr 1
          obtain ⟨-, -, -, -, -, b5, b6⟩ := row7 (by have := HF4.out.n; rw [← HCS.out] at this; exact this)
          have z4 : H + 4 < w4.heap.size := Go.lt_of_block HF4.out.o
          have z1 : H + 1 < w4.heap.size := by omega
          have z0 : H < w4.heap.size := by omega
          clear hr c0 c1 c2 c3 c4 c5 c6 hbad hol
          go_upto_region 13 with fail
          clear q1 q2
          go_region
          clear e0 e1 f0 f1 f2 f3 z0 z1 z4 b5 b6
          go_wp2_with fail
          exact bodyPost_ret (v := .tuple #[.agg #[.map (some (H + 2)), .map (some (H + 3))], .pointer (some ⟨w4.heap.size, 0, none⟩)]) (results_pair rfl _ _ (H + 1) 94 _ (0, 0) _ (.pointer (some ⟨w4.heap.size, 0, none⟩)) rfl (HF4.out.faultR _ _ _) rfl Tryz.underlying94 rfl sizeAttrs) rfl (HF4.out.fault HX2.out _ _)
        · have HX2 : Hid (O.readA rs al ⟨[], []⟩ = match (if uk then if (O.numOf x.va.data.toList).2 = true then .ok ⟨(kb.data.toList, x.va.data.toList) :: g.vals, (kb.data.toList, (O.numOf x.va.data.toList).1) :: g.nums⟩ else .error 1 else .ok ⟨(kb.data.toList, x.va.data.toList) :: g.vals, g.nums⟩ : Except Int O.Got) with | .error e => .error e | .ok g => O.readA rs (al.drop i1) g) := by
            show _ = _
            rw [HX.out, HUL.out, if_neg hbad]
          have HQ : Hid (ob.toList.isEmpty = true ∨ (ob.toList.isEmpty = false ∧ (ob.toList == x.va.toList) = true)) := by
            show _ ∨ _
            rw [hol, Lib.toList_data x.va]
            by_cases h1 : uo = []
            · exact Or.inl (by rw [h1]; rfl)
            · refine Or.inr ⟨by simpa using h1, beq_iff_eq.2 (Classical.byContradiction fun h2 => hbad ⟨h1, h2⟩)⟩
          obtain ⟨e0, e1⟩ := row2 HF4.out.o
          obtain ⟨w5, hput, hk5, ht5⟩ := HF4.out.v.put (by have := HI.out.1; have := HL.out; have := HM.out; unfold maxLen; omega) kb x.va (by have := HKS.out; omega) (by have := HSX.out.2; omega)
          have HF5 : Hid (RB W H CS ⟨(kb.data.toList, x.va.data.toList) :: g.vals, g.nums⟩ (2 * i + 1) w5) := HF4.out.putV hk5 ht5
          have HX5 : Hid (w5.heap[Y]? = some (.cells #[.string x.sp, .string x.lo, .string x.va] 126 (0, 0))) := by show _ = _; rw [ht5.grown.block Y (Go.lt_of_block HX4.out) (fun e => by have := Option.some.inj e; have := HY2.out; omega)]; exact HX4.out
          have HU5 : Hid (w5.heap[R]? = some (.cells #[.bool um, .bool uk, .string ob] 98 (0, 0))) := by show _ = _; rw [ht5.grown.block R (Go.lt_of_block HU4.out) (fun e => by have := Option.some.inj e; have := HR2.out; omega)]; exact HU4.out
          clear hol hk5 ht5 hbad c0 c1 c2 c3 c4 c5 c6
          have hm32 : m ≤ 32 := by have := HL.out; have := HM.out; omega
          have e1i : IntKind.i64.wrap ((i : Int) + 1) = (i1 : Int) := by rw [IntKind.wrap_i64] <;> omega
          have HM1 : Hid (i1 ≤ m ∧ m - i1 < m - i ∧ 2 * i1 = 2 * i + 2) := by show _ ∧ _ ∧ _; omega
          clear hi1
          have HE5 : Hid (EnvO w5) := HE.out.below (by rw [HH.out]; exact HF5.out.b)
          rcases HQ.out with q1 | ⟨q1, q2⟩
          all_goals
            go_upto_region 15 with fail
            obtain ⟨-, v1, -⟩ := row3 HU5.out
            cases uk
            · have HX3 : Hid (O.readA rs al ⟨[], []⟩ = O.readA rs (al.drop i1) ⟨(kb.data.toList, x.va.data.toList) :: g.vals, g.nums⟩) := HX2.out
              go_wp2_with fail
              go_roundw
              case rel => exact ⟨i1, _, rfl, hid ⟨HM1.out.1, HX3.out.symm⟩, hid (HF5.out.mono (by have := HM1.out.2.2; omega))⟩
              case measure => simpa [intOf] using HM1.out.2.1
            · obtain ⟨y0, y1, y2⟩ := row3 HX5.out
              have cP := num_any x.va w5 (by have := HSX.out.2; omega) HE5.out
              obtain ⟨⟨nv, nb⟩, hnv⟩ : ∃ nv, O.numOf x.va.data.toList = nv := ⟨_, rfl⟩
              rw [hnv] at cP
              have HX3 : Hid (O.readA rs al ⟨[], []⟩ = match (if nb = true then .ok ⟨(kb.data.toList, x.va.data.toList) :: g.vals, (kb.data.toList, nv) :: g.nums⟩ else .error 1 : Except Int O.Got) with | .error e => .error e | .ok g => O.readA rs (al.drop i1) g) := by
                show _ = _
                rw [HX2.out, hnv]
                rfl
              have HNF : Hid ((Lit.int .i64 nv).wf = true) := by
                have : (Lit.int .i64 (O.numOf x.va.data.toList).1).wf = true := parseW_fits x.va.data.toList
                rw [show O.numOf x.va.data.toList = _ from hnv] at this
                exact this
              clear hnv
              go_upto_region 16 with fail
              go_wp2_with fail
              refine cP.mono ?_
              rintro en w6 ⟨rfl, hb6⟩
              have HF6 := hid (HF5.out.below hb6)
              clear cP hb6 y0 y1 y2 v1
              cases nb
              · have HX4 : Hid (RES = .error 1) := by
                  show _ = _
                  rw [HRES.out, HX3.out]
                  rfl
                obtain ⟨r0, r1, hr⟩ := HF6.out.r
                obtain ⟨e0, e1⟩ := row2 HF6.out.o
                obtain ⟨f0, f1⟩ := row2 hr
                have f2 := Lib.frozen_of_heap hr 0
                have f3 := Lib.frozen_of_heap hr 1
                obtain ⟨-, -, -, -, -, b5, b6⟩ := row7 (by have := HF6.out.n; rw [← HCS.out] at this; exact this)
                have z4 : H + 4 < w6.heap.size := Go.lt_of_block HF6.out.o
                have z1 : H + 1 < w6.heap.size := by omega
                have z0 : H < w6.heap.size := by omega
                clear hr
                go_upto_region 18 with fail
                go_region
                clear e0 e1 f0 f1 f2 f3 z0 z1 z4 b5 b6
                go_wp2_with fail
                exact bodyPost_ret (v := .tuple #[.agg #[.map (some (H + 2)), .map (some (H + 3))], .pointer (some ⟨w6.heap.size, 0, none⟩)]) (results_pair rfl _ _ (H + 1) 94 _ (0, 0) _ (.pointer (some ⟨w6.heap.size, 0, none⟩)) rfl (HF6.out.faultR _ _ _) rfl Tryz.underlying94 rfl sizeAttrs) rfl (HF6.out.fault HX4.out _ _)
              · have HX4 : Hid (O.readA rs al ⟨[], []⟩ = O.readA rs (al.drop i1) ⟨(kb.data.toList, x.va.data.toList) :: g.vals, (kb.data.toList, nv) :: g.nums⟩) := HX3.out
                obtain ⟨e0, e1⟩ := row2 HF6.out.o
                obtain ⟨w7, hput7, hk7, ht7⟩ := HF6.out.m.put (by have := HI.out.1; have := HL.out; have := HM.out; unfold maxLen; omega) kb (by have := HKS.out; omega) nv HNF.out
                have HF7 := hid (HF6.out.putN hk7 ht7)
                clear hk7 ht7
                go_wp2_with fail
                go_roundw
                case rel => exact ⟨i1, _, rfl, hid ⟨HM1.out.1, HX4.out.symm⟩, hid (HF7.out.mono (by have := HM1.out.2.2; omega))⟩
                case measure => simpa [intOf] using HM1.out.2.1
    · have q0 : x.sp.toList.isEmpty = false := by simpa using hs0
      by_cases hs1 : x.sp.toList = [117, 114, 110, 58, 116, 111, 108, 108, 103, 97, 116, 101]
      · have q1 : (x.sp.toList == [117, 114, 110, 58, 116, 111, 108, 108, 103, 97, 116, 101]) = true := beq_iff_eq.2 hs1
        have q2 : ¬ 9223372036854775807 < 1 + x.lo.size := by have := HSX.out.1; omega
        obtain ⟨kb, hkb⟩ : ∃ kb, (⟨#[58]⟩ ++ x.lo : ByteArray) = kb := ⟨_, rfl⟩
        have HNM : Hid (O.nameOf x.sp.data.toList x.lo.data.toList = some kb.data.toList) := by
          show _ = _
          unfold O.nameOf
          rw [← Lib.toList_data, if_neg hs0, ← Lib.toList_data, ← Lib.toList_data, if_pos (show x.sp.toList = O.ownL from hs1), ← hkb, cat0]
        have HKS : Hid (kb.size ≤ 100001) := by have := HSX.out.1; show _ ≤ _; rw [← hkb, ByteArray.size_append]; show 1 + _ ≤ _; omega
        go_upto_region 11 with fail
        try rw [hkb]
        clear q1 q2 cat0 hs0 hs1 hkb
        clear y0 y1 q0
        have HR3 : Hid (RM w3 b N rs) := HR.out.below (by rw [HH.out]; exact HF3.out.b)
        have hlk := HR3.out.look kb (by have := HKS.out; omega)
        cases hu : X.lookG rs kb.data.toList with
        | none =>
          have HX2 : Hid (RES = .error 121) := by
            show _ = _
            rw [HRES.out, HX.out]
            unfold O.one
            rw [HNM.out]
            simp only [hu]
          rw [hu] at hlk
          have hlk2 : (Instr.lookup 99 (.map (some b)) (.string kb) true).run Tryz.prog w3 = .ok (.tuple #[.agg #[.bool false, .bool false, .string ⟨#[]⟩], .bool false]) w3 := hlk
          clear hlk
          obtain ⟨w4, hw4⟩ : ∃ w4, w3.alloc (.cells #[.bool false, .bool false, .string ⟨#[]⟩] 98) = w4 := ⟨_, rfl⟩
          have HF4 : Hid (RB W H CS g (2 * i) w4) := HF3.out.below (by rw [← hw4]; exact (Below.refl _ w3).alloc (Nat.le_refl _) _)
          have HW4 := hid hw4
          clear hw4 y2 hu
          go_upto_region 12 with fail
          rw [HW4.out]
          clear HW4 hlk2
          have ho := HF4.out.o
          obtain ⟨r0, r1, hr⟩ := HF4.out.r
          obtain ⟨e0, e1⟩ := row2 ho
          obtain ⟨f0, f1⟩ := row2 hr
          obtain ⟨b0, b1, b2, b3, b4, b5, b6⟩ := row7 (by have := HF4.out.n; rw [← HCS.out] at this; exact this)
          have z4 : H + 4 < w4.heap.size := Go.lt_of_block ho
          have z1 : H + 1 < w4.heap.size := by omega
          have z0 : H < w4.heap.size := by omega
          have f2 := Lib.frozen_of_heap hr 0
          have f3 := Lib.frozen_of_heap hr 1
          clear ho hr b0 b1 b2 b3 b4 c0 c1 c2 c3 c4 c5 c6
          go_upto_region 13 with fail
          go_region
          clear e0 e1 f0 f1 f2 f3 z0 z1 z4 b5 b6
          go_wp2_with fail
          exact bodyPost_ret (v := .tuple #[.agg #[.map (some (H + 2)), .map (some (H + 3))], .pointer (some ⟨w4.heap.size, 0, none⟩)]) (results_pair rfl _ _ (H + 1) 94 _ (0, 0) _ (.pointer (some ⟨w4.heap.size, 0, none⟩)) rfl (HF4.out.faultR _ _ _) rfl Tryz.underlying94 rfl sizeAttrs) rfl (HF4.out.fault HX2.out _ _)
        | some u =>
          rw [hu] at hlk
          obtain ⟨um, uk, uo⟩ := u
          obtain ⟨ob, hob⟩ : ∃ ob, X.ba uo = ob := ⟨_, rfl⟩
          have hlk2 : (Instr.lookup 99 (.map (some b)) (.string kb) true).run Tryz.prog w3 = .ok (.tuple #[.agg #[.bool um, .bool uk, .string ob], .bool true]) w3 := by rw [← hob]; exact hlk
          clear hlk
          have hol : ob.toList = uo := by rw [← hob]; exact ba_toList _
          obtain ⟨w4, hw4⟩ : ∃ w4, w3.alloc (.cells #[.bool um, .bool uk, .string ob] 98) = w4 := ⟨_, rfl⟩
          have hb4 : Below w3.heap.size w3 w4 := by rw [← hw4]; exact (Below.refl _ w3).alloc (Nat.le_refl _) _
          have HF4 : Hid (RB W H CS g (2 * i) w4) := HF3.out.below hb4
          have HX4 : Hid (w4.heap[Y]? = some (.cells #[.string x.sp, .string x.lo, .string x.va] 126 (0, 0))) := by show _ = _; rw [hb4.block Y (Go.lt_of_block HX3.out)]; exact HX3.out
          obtain ⟨R, hR⟩ : ∃ R, w3.heap.size = R := ⟨_, rfl⟩
          have HU4 : Hid (w4.heap[R]? = some (.cells #[.bool um, .bool uk, .string ob] 98 (0, 0))) := by show _ = _; rw [← hw4, ← hR]; exact heap_alloc_new w3 _
          have HW4 := hid hw4
          have HRR := hid hR
          have HR2 : Hid (H + 5 ≤ R) := by show _ ≤ _; rw [← hR]; exact HF3.out.sz
          have HUL : Hid (O.one rs x g = if uo ≠ [] ∧ uo ≠ x.va.data.toList then .error 121 else if uk then if (O.numOf x.va.data.toList).2 = true then .ok ⟨(kb.data.toList, x.va.data.toList) :: g.vals, (kb.data.toList, (O.numOf x.va.data.toList).1) :: g.nums⟩ else .error 1 else .ok ⟨(kb.data.toList, x.va.data.toList) :: g.vals, g.nums⟩) := by
            show _ = _
            unfold O.one
            rw [HNM.out]
            simp only [hu]
          clear hw4 y2 hu hob hb4 hR
          go_upto_region 12 with fail
          rw [HW4.out, HRR.out]
          clear HW4 HRR hlk2
          obtain ⟨y0, y1, y2⟩ := row3 HX4.out
          obtain ⟨v0, v1, v2⟩ := row3 HU4.out
          by_cases hbad : uo ≠ [] ∧ uo ≠ x.va.data.toList
          · have HX2 : Hid (RES = .error 121) := by
              show _ = _
              rw [HRES.out, HX.out, HUL.out, if_pos hbad]
            have q1 : ob.toList.isEmpty = false := by rw [hol]; simpa using hbad.1
            have q2 : (ob.toList == x.va.toList) = false := by rw [hol, Lib.toList_data x.va]; exact beq_eq_false_iff_ne.2 hbad.2
            obtain ⟨r0, r1, hr⟩ := HF4.out.r
            obtain ⟨e0, e1⟩ := row2 HF4.out.o
            obtain ⟨f0, f1⟩ := row2 hr
            have f2 := Lib.frozen_of_heap hr 0
            have f3 := Lib.frozen_of_heap hr 1
            obtain ⟨-, -, -, -, -, b5, b6⟩ := row7 (by have := HF4.out.n; rw [← HCS.out] at this; exact this)
            have z4 : H + 4 < w4.heap.size := Go.lt_of_block HF4.out.o
            have z1 : H + 1 < w4.heap.size := by omega
            have z0 : H < w4.heap.size := by omega
            clear hr c0 c1 c2 c3 c4 c5 c6 hbad hol
            go_upto_region 13 with fail
            clear q1 q2
            go_region
            clear e0 e1 f0 f1 f2 f3 z0 z1 z4 b5 b6
            go_wp2_with fail
            exact bodyPost_ret (v := .tuple #[.agg #[.map (some (H + 2)), .map (some (H + 3))], .pointer (some ⟨w4.heap.size, 0, none⟩)]) (results_pair rfl _ _ (H + 1) 94 _ (0, 0) _ (.pointer (some ⟨w4.heap.size, 0, none⟩)) rfl (HF4.out.faultR _ _ _) rfl Tryz.underlying94 rfl sizeAttrs) rfl (HF4.out.fault HX2.out _ _)
          · have HX2 : Hid (O.readA rs al ⟨[], []⟩ = match (if uk then if (O.numOf x.va.data.toList).2 = true then .ok ⟨(kb.data.toList, x.va.data.toList) :: g.vals, (kb.data.toList, (O.numOf x.va.data.toList).1) :: g.nums⟩ else .error 1 else .ok ⟨(kb.data.toList, x.va.data.toList) :: g.vals, g.nums⟩ : Except Int O.Got) with | .error e => .error e | .ok g => O.readA rs (al.drop i1) g) := by
              show _ = _
              rw [HX.out, HUL.out, if_neg hbad]
            have HQ : Hid (ob.toList.isEmpty = true ∨ (ob.toList.isEmpty = false ∧ (ob.toList == x.va.toList) = true)) := by
              show _ ∨ _
              rw [hol, Lib.toList_data x.va]
              by_cases h1 : uo = []
              · exact Or.inl (by rw [h1]; rfl)
              · refine Or.inr ⟨by simpa using h1, beq_iff_eq.2 (Classical.byContradiction fun h2 => hbad ⟨h1, h2⟩)⟩
            obtain ⟨e0, e1⟩ := row2 HF4.out.o
            obtain ⟨w5, hput, hk5, ht5⟩ := HF4.out.v.put (by have := HI.out.1; have := HL.out; have := HM.out; unfold maxLen; omega) kb x.va (by have := HKS.out; omega) (by have := HSX.out.2; omega)
            have HF5 : Hid (RB W H CS ⟨(kb.data.toList, x.va.data.toList) :: g.vals, g.nums⟩ (2 * i + 1) w5) := HF4.out.putV hk5 ht5
            have HX5 : Hid (w5.heap[Y]? = some (.cells #[.string x.sp, .string x.lo, .string x.va] 126 (0, 0))) := by show _ = _; rw [ht5.grown.block Y (Go.lt_of_block HX4.out) (fun e => by have := Option.some.inj e; have := HY2.out; omega)]; exact HX4.out
            have HU5 : Hid (w5.heap[R]? = some (.cells #[.bool um, .bool uk, .string ob] 98 (0, 0))) := by show _ = _; rw [ht5.grown.block R (Go.lt_of_block HU4.out) (fun e => by have := Option.some.inj e; have := HR2.out; omega)]; exact HU4.out
            clear hol hk5 ht5 hbad c0 c1 c2 c3 c4 c5 c6
            have hm32 : m ≤ 32 := by have := HL.out; have := HM.out; omega
            have e1i : IntKind.i64.wrap ((i : Int) + 1) = (i1 : Int) := by rw [IntKind.wrap_i64] <;> omega
            have HM1 : Hid (i1 ≤ m ∧ m - i1 < m - i ∧ 2 * i1 = 2 * i + 2) := by show _ ∧ _ ∧ _; omega
            clear hi1
            have HE5 : Hid (EnvO w5) := HE.out.below (by rw [HH.out]; exact HF5.out.b)
            rcases HQ.out with q1 | ⟨q1, q2⟩
            all_goals
              go_upto_region 15 with fail
              obtain ⟨-, v1, -⟩ := row3 HU5.out
              cases uk
              · have HX3 : Hid (O.readA rs al ⟨[], []⟩ = O.readA rs (al.drop i1) ⟨(kb.data.toList, x.va.data.toList) :: g.vals, g.nums⟩) := HX2.out
                go_wp2_with fail
                go_roundw
                case rel => exact ⟨i1, _, rfl, hid ⟨HM1.out.1, HX3.out.symm⟩, hid (HF5.out.mono (by have := HM1.out.2.2; omega))⟩
                case measure => simpa [intOf] using HM1.out.2.1
              · obtain ⟨y0, y1, y2⟩ := row3 HX5.out
                have cP := num_any x.va w5 (by have := HSX.out.2; omega) HE5.out
                obtain ⟨⟨nv, nb⟩, hnv⟩ : ∃ nv, O.numOf x.va.data.toList = nv := ⟨_, rfl⟩
                rw [hnv] at cP
                have HX3 : Hid (O.readA rs al ⟨[], []⟩ = match (if nb = true then .ok ⟨(kb.data.toList, x.va.data.toList) :: g.vals, (kb.data.toList, nv) :: g.nums⟩ else .error 1 : Except Int O.Got) with | .error e => .error e | .ok g => O.readA rs (al.drop i1) g) := by
                  show _ = _
                  rw [HX2.out, hnv]
                  rfl
                have HNF : Hid ((Lit.int .i64 nv).wf = true) := by
                  have : (Lit.int .i64 (O.numOf x.va.data.toList).1).wf = true := parseW_fits x.va.data.toList
                  rw [show O.numOf x.va.data.toList = _ from hnv] at this
                  exact this
                clear hnv
                go_upto_region 16 with fail
                go_wp2_with fail
                refine cP.mono ?_
                rintro en w6 ⟨rfl, hb6⟩
                have HF6 := hid (HF5.out.below hb6)
                clear cP hb6 y0 y1 y2 v1
                cases nb
                · have HX4 : Hid (RES = .error 1) := by
                   show _ = _
                   rw [HRES.out, HX3.out]
                   rfl
                  obtain ⟨r0, r1, hr⟩ := HF6.out.r
                  obtain ⟨e0, e1⟩ := row2 HF6.out.o
                  obtain ⟨f0, f1⟩ := row2 hr
                  have f2 := Lib.frozen_of_heap hr 0
                  have f3 := Lib.frozen_of_heap hr 1
                  obtain ⟨-, -, -, -, -, b5, b6⟩ := row7 (by have := HF6.out.n; rw [← HCS.out] at this; exact this)
                  have z4 : H + 4 < w6.heap.size := Go.lt_of_block HF6.out.o
                  have z1 : H + 1 < w6.heap.size := by omega
                  have z0 : H < w6.heap.size := by omega
                  clear hr
                  go_upto_region 18 with fail
                  go_region
                  clear e0 e1 f0 f1 f2 f3 z0 z1 z4 b5 b6
                  go_wp2_with fail
                  exact bodyPost_ret (v := .tuple #[.agg #[.map (some (H + 2)), .map (some (H + 3))], .pointer (some ⟨w6.heap.size, 0, none⟩)]) (results_pair rfl _ _ (H + 1) 94 _ (0, 0) _ (.pointer (some ⟨w6.heap.size, 0, none⟩)) rfl (HF6.out.faultR _ _ _) rfl Tryz.underlying94 rfl sizeAttrs) rfl (HF6.out.fault HX4.out _ _)
                · have HX4 : Hid (O.readA rs al ⟨[], []⟩ = O.readA rs (al.drop i1) ⟨(kb.data.toList, x.va.data.toList) :: g.vals, (kb.data.toList, nv) :: g.nums⟩) := HX3.out
                  obtain ⟨e0, e1⟩ := row2 HF6.out.o
                  obtain ⟨w7, hput7, hk7, ht7⟩ := HF6.out.m.put (by have := HI.out.1; have := HL.out; have := HM.out; unfold maxLen; omega) kb (by have := HKS.out; omega) nv HNF.out
                  have HF7 := hid (HF6.out.putN hk7 ht7)
                  clear hk7 ht7
                  go_wp2_with fail
                  go_roundw
                  case rel => exact ⟨i1, _, rfl, hid ⟨HM1.out.1, HX4.out.symm⟩, hid (HF7.out.mono (by have := HM1.out.2.2; omega))⟩
                  case measure => simpa [intOf] using HM1.out.2.1
      · have q1 : (x.sp.toList == [117, 114, 110, 58, 116, 111, 108, 108, 103, 97, 116, 101]) = false := beq_eq_false_iff_ne.2 hs1
        have HX2 : Hid (RES = .error 121) := by
          show _ = _
          rw [HRES.out, HX.out]
          unfold O.one O.nameOf
          rw [← Lib.toList_data, if_neg hs0, if_neg (show ¬ x.sp.toList = O.ownL from hs1)]
        obtain ⟨r0, r1, hr⟩ := HF3.out.r
        obtain ⟨e0, e1⟩ := row2 HF3.out.o
        obtain ⟨f0, f1⟩ := row2 hr
        have f2 := Lib.frozen_of_heap hr 0
        have f3 := Lib.frozen_of_heap hr 1
        obtain ⟨-, -, -, -, -, b5, b6⟩ := row7 (by have := HF3.out.n; rw [← HCS.out] at this; exact this)
        have z4 : H + 4 < w3.heap.size := Go.lt_of_block HF3.out.o
        have z1 : H + 1 < w3.heap.size := by omega
        have z0 : H < w3.heap.size := by omega
        clear hr c0 c1 c2 c3 c4 c5 c6
        go_upto_region 7 with fail
        go_region
        clear e0 e1 f0 f1 f2 f3 z0 z1 z4 b5 b6
        go_wp2_with fail
        exact bodyPost_ret (v := .tuple #[.agg #[.map (some (H + 2)), .map (some (H + 3))], .pointer (some ⟨w3.heap.size, 0, none⟩)]) (results_pair rfl _ _ (H + 1) 94 _ (0, 0) _ (.pointer (some ⟨w3.heap.size, 0, none⟩)) rfl (HF3.out.faultR _ _ _) rfl Tryz.underlying94 rfl sizeAttrs) rfl (HF3.out.fault HX2.out _ _)
  · have t0 : decide ((i : Int) < (m : Int)) = false := decide_eq_false (by omega)
    have HRES2 : Hid (RES = if O.full rs g.vals then .ok g else .error 121) := by
      show _ = _
      have := HI.out.2
      rw [List.drop_of_length_le (by rw [HM.out]; exact hge)] at this
      rw [HRES.out, ← this]
      rfl
    have hRr : RM wr b N rs := HR.out.below (by rw [HH.out]; exact HF.out.b)
    obtain ⟨w2, hrg, hra, hgr, hsz⟩ := World.ownsMap.range hRr lawS Tryz.underlying99
    have HF2 : Hid (RB W H CS g (2 * i) w2) := HF.out.below ⟨hgr.os, hgr.tape, hgr.output, hgr.size, fun k hk => hgr.block k hk (by simp)⟩
    obtain ⟨r, hr⟩ : ∃ r, wr.heap.size = r := ⟨_, rfl⟩
    rw [hr] at hra hrg
    have HRB : Hid (H + 5 ≤ r) := by show _ ≤ _; rw [← hr]; exact HF.out.sz
    have HRA := hid hra
    have HSM2 : Hid (2 * i ≤ 64) := by have := HI.out.1; have := HL.out; have := HM.out; show _ ≤ _; omega
    clear hra hgr hsz hr hRr c0 c1 c2 c3 c4 c5 c6 HI HF HRES
    go_upto_region 22 with fail
    clear hrg t0
    go_loopw [] (fun wr => ∃ (left : Lit → Bool) (cnt : Nat), Hid (wr.ranges Tryz.prog 9 ruleR b r N (X.mapD ruleD rs) left cnt) ∧ Hid (RB W H CS g (2 * i) wr) ∧ Hid (∀ p u, X.lookG rs p = some u → left (.string p) = false → u.must = true → (X.look g.vals p).isSome = true)) (fun wr => wr.rangeLeft b r)
    case atStart =>
      refine ⟨_, _, HRA, HF2, hid fun p u hp hl _ => ?_⟩
      rw [X.mapD_has, hp] at hl
      cases hl
    case round =>
      obtain ⟨left, cnt, HQ, HF3, HLE⟩ := hrel
      clear HRA HF2
      rcases World.ranges.next HQ.out lawS 0 with ⟨h0, hl0, hrun⟩ | ⟨key, v, kl, y, w3, cnt', hkey, hleft, hRv, hat, hrun, hr3, hlt3, hg3, hs3, hen⟩
      · have HX2 : Hid (RES = .ok g) := by
          show _ = _
          rw [HRES2.out, if_pos ((O.full_iff rs g.vals).2 fun p u hp hm => HLE.out p u hp (hl0 _) hm)]
        have hnx : ∀ ty, (Instr.next (.pointer (some ⟨r, 0, none⟩)) false ty).run Tryz.prog wr = _ := fun _ => hrun
        obtain ⟨r0, r1, hr⟩ := HF3.out.r
        obtain ⟨e0, e1⟩ := row2 HF3.out.o
        obtain ⟨f0, f1⟩ := row2 hr
        have f2 := Lib.frozen_of_heap hr 0
        have f3 := Lib.frozen_of_heap hr 1
        clear hl0 h0 HLE HQ hr hrun
        go_wp2_with fail
        exact bodyPost_ret (v := .tuple #[.agg #[.map (some (H + 2)), .map (some (H + 3))], .pointer none]) (results_pair rfl _ _ (H + 1) 94 _ (0, 0) _ (.pointer none) rfl (HF3.out.okR _ _) rfl Tryz.underlying94 rfl sizeAttrs) rfl (HF3.out.ok HSM2.out HX2.out _ _)
      · obtain ⟨kb, rfl, rfl, hkb⟩ := Go.WideMaps.string_of_keyOf Tryz.underlying9 hkey
        obtain ⟨u, hu⟩ : ∃ u, X.lookG rs kb.data.toList = some u := by
          cases hu : X.lookG rs kb.data.toList with
          | some u => exact ⟨u, rfl⟩
          | none =>
            have h1 := hat (.lit (.bool true))
            have h2 := hat (.lit (.bool false))
            rw [X.mapD_at, hu] at h1 h2
            rw [← h2] at h1
            simp only [DataW.lit.injEq, Lit.bool.injEq] at h1
            cases h1
        have hv : v = ruleV u := by
          have h1 := hat (.lit (.bool true))
          rw [X.mapD_at, hu] at h1
          obtain ⟨y1, y2⟩ := y
          simp only at h1
          rw [← h1] at hRv
          exact ruleR_inv hRv
        have hks : kb.size ≤ 1000 := by
          obtain ⟨q, hq, hp⟩ := O.lookG_mem rs _ u hu
          have := HRS.out q hq
          rw [hp, Array.length_toList] at this
          exact this
        subst hv
        obtain ⟨um, uk, uo⟩ := u
        obtain ⟨ob, hob⟩ : ∃ ob, X.ba uo = ob := ⟨_, rfl⟩
        have hval : ruleV ⟨um, uk, uo⟩ = .agg #[.bool um, .bool uk, .string ob] := by rw [← hob]; rfl
        rw [hval] at hrun hen
        have hnx : ∀ ty, (Instr.next (.pointer (some ⟨r, 0, none⟩)) false ty).run Tryz.prog wr = _ := fun _ => hrun
        have HF4 : Hid (RB W H CS g (2 * i) w3) := HF3.out.grown hg3 HRB.out
        obtain ⟨w4, hw4⟩ : ∃ w4, w3.alloc (.cells #[.bool um, .bool uk, .string ob] 98) = w4 := ⟨_, rfl⟩
        have hb4 : Below w3.heap.size w3 w4 := by rw [← hw4]; exact (Below.refl _ w3).alloc (Nat.le_refl _) _
        have HF5 : Hid (RB W H CS g (2 * i) w4) := HF4.out.below hb4
        have HQ5 : Hid (w4.ranges Tryz.prog 9 ruleR b r N (X.mapD ruleD rs) (fun x => left x && !x.sameKey (.string kb.data.toList)) cnt') := by show World.ranges _ _ _ _ _ _ _ _ _ _; rw [← hw4]; exact hr3.alloc _
        obtain ⟨R, hR⟩ : ∃ R, w3.heap.size = R := ⟨_, rfl⟩
        have HU5 : Hid (w4.heap[R]? = some (.cells #[.bool um, .bool uk, .string ob] 98 (0, 0))) := by show _ = _; rw [← hw4, ← hR]; exact heap_alloc_new w3 _
        have HW4 := hid hw4
        have HRR := hid hR
        have HUU := hid hu
        have HKS := hid hks
        have HMS : Hid (wr.rangeLeft b r = cnt ∧ w4.rangeLeft b r = cnt' ∧ cnt' < cnt) := ⟨HQ.out.left_eq, HQ5.out.left_eq, hlt3⟩
        clear hrun hkey hat hRv hkb hr3 hg3 hs3 hw4 hb4 hR hu hval hob hlt3 HF3 HF4 HQ hks hleft
        go_upto_region 24 with fail
        rw [HW4.out, HRR.out]
        clear HW4 HRR hnx hen
        obtain ⟨e0, e1⟩ := row2 HF5.out.o
        obtain ⟨v0, v1, v2⟩ := row3 HU5.out
        have hlk := HF5.out.v.look kb (by have := HKS.out; omega)
        obtain ⟨hb, hhb⟩ : ∃ hb, (X.look g.vals kb.data.toList).isSome = hb := ⟨_, rfl⟩
        obtain ⟨tb, htb⟩ : ∃ tb, X.ba ((X.look g.vals kb.data.toList).getD []) = tb := ⟨_, rfl⟩
        rw [hhb, htb] at hlk
        have HHB := hid hhb
        clear hhb htb
        have HGO : Hid ((um = true → hb = true) → ∀ p u, X.lookG rs p = some u → (left (.string p) && !(Lit.string p).sameKey (.string kb.data.toList)) = false → u.must = true → (X.look g.vals p).isSome = true) := by
          intro hmb p u hp hl hm
          rcases Bool.and_eq_false_iff.1 hl with h1 | h1
          · exact HLE.out p u hp h1 hm
          · have h2 := WideAt.sameKey_eq (by simpa using h1)
            have h3 : p = kb.data.toList := by simpa using h2
            subst h3
            rw [HUU.out] at hp
            obtain rfl := Option.some.inj hp
            rw [HHB.out]
            exact hmb hm
        cases um
        · go_wp2_with fail
          go_roundw
          case rel => exact ⟨_, _, HQ5, HF5, hid (HGO.out (by simp))⟩
          case measure => rw [HMS.out.1, HMS.out.2.1]; exact HMS.out.2.2
        · cases hb
          · have HX2 : Hid (RES = .error 121) := by
              show _ = _
              rw [HRES2.out, if_neg]
              intro hf
              have := (O.full_iff rs g.vals).1 hf _ _ HUU.out rfl
              rw [HHB.out] at this
              cases this
            obtain ⟨r0, r1, hr⟩ := HF5.out.r
            obtain ⟨f0, f1⟩ := row2 hr
            have f2 := Lib.frozen_of_heap hr 0
            have f3 := Lib.frozen_of_heap hr 1
            obtain ⟨-, -, -, -, -, b5, b6⟩ := row7 (by have := HF5.out.n; rw [← HCS.out] at this; exact this)
            have z4 : H + 4 < w4.heap.size := Go.lt_of_block HF5.out.o
            have z1 : H + 1 < w4.heap.size := by omega
            have z0 : H < w4.heap.size := by omega
            clear hr
            go_upto_region 26 with fail
            clear v0 v1 v2 hlk
            go_region
            clear e0 e1 f0 f1 f2 f3 z0 z1 z4 b5 b6
            go_wp2_with fail
            exact bodyPost_ret (v := .tuple #[.agg #[.map (some (H + 2)), .map (some (H + 3))], .pointer (some ⟨w4.heap.size, 0, none⟩)]) (results_pair rfl _ _ (H + 1) 94 _ (0, 0) _ (.pointer (some ⟨w4.heap.size, 0, none⟩)) rfl (HF5.out.faultR _ _ _) rfl Tryz.underlying94 rfl sizeAttrs) rfl (HF5.out.fault HX2.out _ _)
          · go_wp2_with fail
            go_roundw
            case rel => exact ⟨_, _, HQ5, HF5, hid (HGO.out (fun _ => rfl))⟩
            case measure => rw [HMS.out.1, HMS.out.2.1]; exact HMS.out.2.2
end Go.Proofs.YteejphiklpnjhaaGreatDoor
namespace Go.Proofs.YteejphiklpnjhaaGreatDoor
set_option maxRecDepth 100000
set_option maxHeartbeats 16000000
open Go.RowKit Go.Maps
open Go.Lib (hid)
def sts : World → Nat → Nat → List Value → World
 | w, _, _, [] => w
 | w, g, o, v :: r => sts (w.setCell ⟨g, o, none⟩ v) g (o + 1) r
theorem grownBy_refl (w : World) (b : Option Nat) : w.grownBy w b := ⟨rfl, rfl, rfl, Nat.le_refl _, fun _ _ _ => rfl⟩
theorem sts_grown : ∀ (l : List Value) (w : World) (g o : Nat), w.grownBy (sts w g o l) (some g)
 | [], w, g, _ => grownBy_refl w (some g)
 | v :: r, w, g, o => (grownBy_set w g o v).trans (sts_grown r _ g (o + 1))
theorem sts_size (l : List Value) (w : World) (g o : Nat) : (sts w g o l).heap.size = w.heap.size := by
 induction l generalizing w o with
 | nil => rfl
 | cons v r ih => show (sts (w.setCell ⟨g, o, none⟩ v) g (o + 1) r).heap.size = _; rw [ih]; simp
theorem sts_row {T : TypeId} {g : Nat} : ∀ (l pre old : List Value) (w : World), w.heap[g]? = some (.cells (pre ++ old).toArray T (0, 0)) → old.length = l.length → (sts w g pre.length l).heap[g]? = some (.cells (pre ++ l).toArray T (0, 0))
 | [], pre, [], w, h, _ => h
 | [], pre, _ :: _, w, h, hl => by cases hl
 | v :: r, pre, [], w, h, hl => by cases hl
 | v :: r, pre, x :: old, w, h, hl => by
   have h1 := row_set h pre.length v
   have e : ((pre ++ x :: old).toArray).setIfInBounds pre.length v = ((pre ++ [v]) ++ old).toArray := by
    simp
   rw [e] at h1
   have h2 := sts_row r (pre ++ [v]) old _ h1 (by simpa using hl)
   rw [List.length_append, List.length_singleton] at h2
   show (sts (w.setCell ⟨g, pre.length, none⟩ v) g (pre.length + 1) r).heap[g]? = _
   rw [h2]
   simp
def FailOf (W0 : World) (e : O.Er) (zero : List Value) (en : Ending) (W : World) : Prop :=
 ∃ f, en = .returned (.tuple #[.agg zero.toArray, .pointer (some ⟨f, 0, none⟩)]) ∧ W0.heap.size ≤ f ∧ W.heap[f]? = some (faultRow e.1 e.2.1 e.2.2) ∧ Below W0.heap.size W0 W
def FaultOf (W0 : World) (x : Option O.Er) (en : Ending) (W : World) : Prop :=
 (x = none ∧ en = .returned (.pointer none) ∧ Below W0.heap.size W0 W) ∨ (∃ e f, x = some e ∧ en = .returned (.pointer (some ⟨f, 0, none⟩)) ∧ W0.heap.size ≤ f ∧ W.heap[f]? = some (faultRow e.1 e.2.1 e.2.2) ∧ Below W0.heap.size W0 W)
structure NB (W : World) (H : Nat) (cs : List Value) (k : Nat) (T : TypeId) (w : World) : Prop where
 h : W.heap.size = H
 b : Below H W w
 n : w.heap[H]? = some (.cells cs.toArray 44 (0, 0))
 r : ∃ rs : List Value, rs.length = k ∧ w.heap[H + 1]? = some (.cells rs.toArray T (0, 0))
section
variable {W w w' : World} {H k : Nat} {cs : List Value} {T : TypeId}
theorem NB.sz (h : NB W H cs k T w) : H + 2 ≤ w.heap.size := by obtain ⟨rs, _, hr⟩ := h.r; exact Go.lt_of_block hr
theorem NB.below (h : NB W H cs k T w) (hb : Below w.heap.size w w') : NB W H cs k T w' := by
 have hs := h.sz
 obtain ⟨rs, hk, hr⟩ := h.r
 exact ⟨h.h, h.b.trans (hb.mono (by omega)), (hb.block _ (by omega)).trans h.n, ⟨rs, hk, (hb.block _ (by omega)).trans hr⟩⟩
theorem NB.grown (h : NB W H cs k T w) {Y : Nat} (gr : w.grownBy w' (some Y)) (hY : H + 2 ≤ Y) : NB W H cs k T w' := by
 have hs := h.sz
 obtain ⟨rs, hk, hr⟩ := h.r
 have ne : ∀ k, k < H + 2 → some k ≠ some Y := fun k hk e => by have := Option.some.inj e; omega
 exact ⟨h.h, h.b.grown gr (by have := h.b.size; have := h.h; omega) (fun k hk => by have := Option.some.inj hk; omega), (gr.block _ (by omega) (ne _ (by omega))).trans h.n, ⟨rs, hk, (gr.block _ (by omega) (ne _ (by omega))).trans hr⟩⟩
theorem NB.set (h : NB W H cs k T w) (l : List Value) (hl : l.length = k) : (sts w (H + 1) 0 l).heap[H + 1]? = some (.cells l.toArray T (0, 0)) := by
 obtain ⟨rs, hk, hr⟩ := h.r
 have := sts_row l [] rs w hr (by rw [hk, hl])
 simpa using this
theorem NB.setB (h : NB W H cs k T w) (l : List Value) : Below H W (sts w (H + 1) 0 l) :=
 h.b.grown (sts_grown l w (H + 1) 0) (by have := h.b.size; have := h.h; omega) (fun k hk => by have := Option.some.inj hk; omega)
theorem NB.faultR (h : NB W H cs k T w) (l : List Value) (hl : l.length = k) (o : Obj) : ((sts w (H + 1) 0 l).alloc o).drew.heap[H + 1]? = some (.cells l.toArray T (0, 0)) := by
 have := h.set l hl
 show ((sts w (H + 1) 0 l).alloc o).heap[H + 1]? = _
 rw [Go.Lib.alloc_old _ _ _ (Go.lt_of_block this), this]
theorem NB.fault (h : NB W H cs k T w) (l : List Value) (e : Int) (ln cl : Nat) : FailOf W (e, ln, cl) l (.returned (.tuple #[.agg l.toArray, .pointer (some ⟨w.heap.size, 0, none⟩)])) ((sts w (H + 1) 0 l).alloc (.cells #[.int .i64 e, .int .i64 ln, .int .i64 cl] 75)).drew := by
 have hs := sts_size l w (H + 1) 0
 refine ⟨w.heap.size, rfl, ?_, ?_, ?_⟩
 · have := h.b.size; have := h.h; omega
 · show ((sts w (H + 1) 0 l).alloc _).heap[w.heap.size]? = _
   rw [← hs]
   exact heap_alloc_new _ _
 · rw [h.h]
   have h1 := h.b.size
   have h2 := h.h
   exact ((h.setB l).alloc (by rw [hs]; omega) _).drew
theorem NB.pass (h : NB W H cs k T w) (l : List Value) (e : O.Er) {f : Nat} (hf : H + 2 ≤ f) (hr : w.heap[f]? = some (faultRow e.1 e.2.1 e.2.2)) : FailOf W e l (.returned (.tuple #[.agg l.toArray, .pointer (some ⟨f, 0, none⟩)])) (sts w (H + 1) 0 l) :=
 ⟨f, rfl, by have := h.h; omega, ((sts_grown l w (H + 1) 0).block f (Go.lt_of_block hr) (fun e => by have := Option.some.inj e; omega)).trans hr, by rw [h.h]; exact h.setB l⟩
end
theorem nb_first (W : World) (cs rs : List Value) (T : TypeId) : NB W W.heap.size cs rs.length T ((W.alloc (.cells cs.toArray 44)).alloc (.cells rs.toArray T)) := by
 have b1 := (Below.refl W.heap.size W).alloc (Nat.le_refl _) (.cells cs.toArray 44)
 have hs : (W.alloc (.cells cs.toArray 44)).heap.size = W.heap.size + 1 := by simp
 have b2 := b1.alloc (by rw [hs]; omega) (.cells rs.toArray T)
 refine ⟨rfl, b2, ?_, ⟨rs, rfl, ?_⟩⟩
 · rw [Go.Lib.alloc_old _ _ _ (by rw [hs]; omega)]
   exact heap_alloc_new W _
 · have := heap_alloc_new (W.alloc (.cells cs.toArray 44)) (.cells rs.toArray T)
   rw [hs] at this
   exact this
def OwnG (w : World) (B : Nat) (good : List TypeId) (b : Nat) : Prop := B ≤ b ∧ b < w.heap.size ∧ ∃ cs T, w.heap[b]? = some (.cells cs T (0, 0)) ∧ T ∈ good
def KeepG (w w' : World) (good : List TypeId) : Prop := w.heap.size ≤ w'.heap.size ∧ ∀ (b : Nat) (cs : Array Value) (T : TypeId), w.heap[b]? = some (.cells cs T (0, 0)) → T ∈ good → w'.heap[b]? = some (.cells cs T (0, 0))
theorem KeepG.below {w w' : World} (hb : Below w.heap.size w w') (good : List TypeId) : KeepG w w' good := ⟨hb.size, fun b _ _ h _ => (hb.block b (Go.lt_of_block h)).trans h⟩
theorem KeepG.none {w w' : World} (g : w.grownBy w' Option.none) (good : List TypeId) : KeepG w w' good := ⟨g.size, fun b _ _ h _ => (g.block b (Go.lt_of_block h) (by simp)).trans h⟩
theorem KeepG.grown {w w' : World} {R : Nat} {cs : Array Value} {T : TypeId} {good : List TypeId} (g : w.grownBy w' (some R)) (hR : w.heap[R]? = some (.cells cs T (0, 0))) (hT : T ∉ good) : KeepG w w' good := by
 refine ⟨g.size, fun b cs' T' h hg => (g.block b (Go.lt_of_block h) (fun e => ?_)).trans h⟩
 obtain rfl := Option.some.inj e
 rw [hR] at h
 injection h with h
 injection h with _ h _
 exact hT (h ▸ hg)
theorem KeepG.trans {w w' w'' : World} {good : List TypeId} (h : KeepG w w' good) (k : KeepG w' w'' good) : KeepG w w'' good := ⟨Nat.le_trans h.1 k.1, fun b cs T hb hT => k.2 b cs T (h.2 b cs T hb hT) hT⟩
theorem KeepG.sub {w w' : World} {good less : List TypeId} (h : KeepG w w' good) (hs : ∀ T ∈ less, T ∈ good) : KeepG w w' less := ⟨h.1, fun b cs T hb hT => h.2 b cs T hb (hs T hT)⟩
theorem OwnG.keep {w w' : World} {B b : Nat} {good : List TypeId} (h : OwnG w B good b) (k : KeepG w w' good) : OwnG w' B good b ∧ w'.heap[b]? = w.heap[b]? := by
 obtain ⟨h1, h2, cs, T, h3, h4⟩ := h
 have h5 := k.2 b cs T h3 h4
 exact ⟨⟨h1, Nat.lt_of_lt_of_le h2 k.1, cs, T, h5, h4⟩, h5.trans h3.symm⟩
theorem OwnG.sub {w : World} {B B' b : Nat} {good more : List TypeId} (h : OwnG w B good b) (hs : ∀ T ∈ good, T ∈ more) (hB : B' ≤ B) : OwnG w B' more b := by
 obtain ⟨h1, h2, cs, T, h3, h4⟩ := h
 exact ⟨Nat.le_trans hB h1, h2, cs, T, h3, hs T h4⟩
def tFlow : TypeId := 53
def tItem : TypeId := 144
def tBind : TypeId := 51
def flowRow (x : O.Fl) : Obj := .cells #[.string (X.ba x.id), .string (X.ba x.fr), .string (X.ba x.dst), .string ⟨#[]⟩] 53 (0, 0)
def elC (x : O.El) : List Value := [.string (X.ba x.id), .string (X.ba x.nm), .int .u8 x.kind, .string (X.ba x.inn), .string (X.ba x.dflt), .string (X.ba x.att), .int .u8 0, .string ⟨#[]⟩, .string ⟨#[]⟩, .int .i64 0, .int .i64 x.tries]
def itC (x : O.It) (fp iv : Value) : List Value := [.int .i64 x.ln, .int .i64 x.cl, fp, .string (X.ba x.e.id), .string (X.ba x.e.nm), .int .u8 x.e.kind, .string (X.ba x.e.inn), .string (X.ba x.e.dflt), .string (X.ba x.e.att), .int .u8 0, .string ⟨#[]⟩, .string ⟨#[]⟩, .int .i64 0, .int .i64 x.e.tries, .string (X.ba x.called), iv]
def ItHas (w : World) (P : Nat → Prop) (x : O.It) (cs : List Value) : Prop :=
 ∃ fp iv, cs = itC x fp iv ∧ ((x.fl = none ∧ fp = .pointer none) ∨ ∃ fl g, x.fl = some fl ∧ fp = .pointer (some ⟨g, 0, none⟩) ∧ P g ∧ w.heap[g]? = some (flowRow fl)) ∧ ((x.call = false ∧ iv = .slice none 0 0) ∨ (x.call = true ∧ ∃ a, iv = .slice (some a) 0 0))
theorem ItHas.keep {P Q : Nat → Prop} {w w' : World} (hP : ∀ b, P b → Q b) (h : ∀ b, P b → w'.heap[b]? = w.heap[b]?) {x : O.It} {cs : List Value} (hv : ItHas w P x cs) : ItHas w' Q x cs := by
 obtain ⟨fp, iv, h1, h2, h3⟩ := hv
 refine ⟨fp, iv, h1, ?_, h3⟩
 rcases h2 with h2 | ⟨fl, g, h4, h5, h6, h7⟩
 · exact Or.inl h2
 · exact Or.inr ⟨fl, g, h4, h5, hP g h6, (h g h6).trans h7⟩
theorem ItHas.len {P : Nat → Prop} {w : World} {x : O.It} {cs : List Value} (h : ItHas w P x cs) : cs.length = 16 := by
 obtain ⟨fp, iv, rfl, _⟩ := h
 rfl
def Its (w : World) (P : Nat → Prop) : List O.It → List Value → Prop
 | [], cs => cs = []
 | x :: r, cs => ∃ c1 c2, cs = c1 ++ c2 ∧ ItHas w P x c1 ∧ Its w P r c2
theorem Its.keep {P Q : Nat → Prop} {w w' : World} (hP : ∀ b, P b → Q b) (h : ∀ b, P b → w'.heap[b]? = w.heap[b]?) : ∀ (l : List O.It) (cs : List Value), Its w P l cs → Its w' Q l cs
 | [], _, hc => hc
 | _ :: r, _, ⟨c1, c2, he, h1, h2⟩ => ⟨c1, c2, he, h1.keep hP h, Its.keep hP h r c2 h2⟩
theorem Its.snoc {P : Nat → Prop} {w : World} {x : O.It} {ds : List Value} (hx : ItHas w P x ds) : ∀ (l : List O.It) (cs : List Value), Its w P l cs → Its w P (l ++ [x]) (cs ++ ds)
 | [], cs, hc => ⟨ds, [], by rw [show cs = [] from hc]; simp, hx, rfl⟩
 | _ :: r, _, ⟨c1, c2, he, h1, h2⟩ => ⟨c1, c2 ++ ds, by rw [he, List.append_assoc], h1, Its.snoc hx r c2 h2⟩
theorem Its.at {P : Nat → Prop} {w : World} : ∀ (l : List O.It) (cs : List Value) (i : Nat) (x : O.It), Its w P l cs → l[i]? = some x → ∃ ds, ItHas w P x ds ∧ ∀ j u, ds[j]? = some u → cs[i * 16 + j]? = some u
 | [], _, _, _, _, h => by simp at h
 | y :: r, _, 0, x, ⟨c1, c2, he, h1, h2⟩, h => by
   obtain rfl : y = x := by simpa using h
   refine ⟨c1, h1, fun j u hj => ?_⟩
   have hlt : j < c1.length := (List.getElem?_eq_some_iff.1 hj).1
   rw [he, Nat.zero_mul, Nat.zero_add, List.getElem?_append_left hlt, hj]
 | y :: r, _, i + 1, x, ⟨c1, c2, he, h1, h2⟩, h => by
   obtain ⟨ds, hd, ha⟩ := Its.at r c2 i x h2 (by simpa using h)
   refine ⟨ds, hd, fun j u hj => ?_⟩
   have hl := h1.len
   rw [he, List.getElem?_append_right (by omega), show (i + 1) * 16 + j - c1.length = i * 16 + j by omega]
   exact ha j u hj
def ItsIn (w : World) (P : Nat → Prop) (l : List O.It) (v : Value) : Prop :=
 (l = [] ∧ v = .slice none 0 0) ∨ ∃ g cap cs, v = .slice (some ⟨g, 0, none⟩) l.length cap ∧ P g ∧ l.length ≤ cap ∧ Its w P l cs ∧ ∀ j u, cs[j]? = some u → w.cell? ⟨g, j, none⟩ = some u
theorem ItsIn.keep {P Q : Nat → Prop} {w w' : World} (hP : ∀ b, P b → Q b) (h : ∀ b, P b → w'.heap[b]? = w.heap[b]?) {l : List O.It} {v : Value} (hv : ItsIn w P l v) : ItsIn w' Q l v := by
 rcases hv with hv | ⟨g, cap, cs, h1, h2, h3, h4, h5⟩
 · exact Or.inl hv
 · exact Or.inr ⟨g, cap, cs, h1, hP g h2, h3, Its.keep hP h l cs h4, fun j u hj => by rw [World.cell?_of_block (w := w) (h g h2)]; exact h5 j u hj⟩
theorem ItsIn.shape {P : Nat → Prop} {w : World} {l : List O.It} {v : Value} (h : ItsIn w P l v) : ∃ a c, v = .slice a l.length c := by
 rcases h with ⟨rfl, h⟩ | ⟨g, cap, cs, h, _⟩
 · exact ⟨none, 0, h⟩
 · exact ⟨_, cap, h⟩
def vaC (x : O.Va) : List Value := [.string (X.ba x.name), .int .u8 1, .int .i64 x.x, .bool false, .string ⟨#[]⟩]
def vasC (l : List O.Va) : List Value := l.flatMap vaC
theorem vasC_snoc (l : List O.Va) (x : O.Va) : vasC (l ++ [x]) = vasC l ++ vaC x := by unfold vasC; rw [List.flatMap_append]; simp
def VasIn (w : World) (P : Nat → Prop) (l : List O.Va) (v : Value) : Prop :=
 (l = [] ∧ v = .slice none 0 0) ∨ ∃ g cap, v = .slice (some ⟨g, 0, none⟩) l.length cap ∧ P g ∧ l.length ≤ cap ∧ ∀ j u, (vasC l)[j]? = some u → w.cell? ⟨g, j, none⟩ = some u
theorem VasIn.keep {P Q : Nat → Prop} {w w' : World} (hP : ∀ b, P b → Q b) (h : ∀ b, P b → w'.heap[b]? = w.heap[b]?) {l : List O.Va} {v : Value} (hv : VasIn w P l v) : VasIn w' Q l v := by
 rcases hv with hv | ⟨g, cap, h1, h2, h3, h4⟩
 · exact Or.inl hv
 · exact Or.inr ⟨g, cap, h1, hP g h2, h3, fun j u hj => by rw [World.cell?_of_block (w := w) (h g h2)]; exact h4 j u hj⟩
theorem VasIn.shape {P : Nat → Prop} {w : World} {l : List O.Va} {v : Value} (h : VasIn w P l v) : ∃ a c, v = .slice a l.length c := by
 rcases h with ⟨rfl, h⟩ | ⟨g, cap, h, _⟩
 · exact ⟨none, 0, h⟩
 · exact ⟨_, cap, h⟩
def PrHas (w : World) (P : Nat → Prop) (p : O.Pr) (cs : List Value) : Prop := ∃ vv iv, cs = [.string (X.ba p.id), .string (X.ba p.nm), vv, iv] ∧ VasIn w P p.vars vv ∧ ItsIn w P p.items iv
theorem PrHas.keep {P Q : Nat → Prop} {w w' : World} (hP : ∀ b, P b → Q b) (h : ∀ b, P b → w'.heap[b]? = w.heap[b]?) {x : O.Pr} {cs : List Value} (hv : PrHas w P x cs) : PrHas w' Q x cs := by
 obtain ⟨vv, iv, h1, h2, h3⟩ := hv
 exact ⟨vv, iv, h1, h2.keep hP h, h3.keep hP h⟩
theorem PrHas.len {P : Nat → Prop} {w : World} {x : O.Pr} {cs : List Value} (h : PrHas w P x cs) : cs.length = 4 := by
 obtain ⟨fp, iv, rfl, _⟩ := h
 rfl
def Prs (w : World) (P : Nat → Prop) : List O.Pr → List Value → Prop
 | [], cs => cs = []
 | x :: r, cs => ∃ c1 c2, cs = c1 ++ c2 ∧ PrHas w P x c1 ∧ Prs w P r c2
theorem Prs.keep {P Q : Nat → Prop} {w w' : World} (hP : ∀ b, P b → Q b) (h : ∀ b, P b → w'.heap[b]? = w.heap[b]?) : ∀ (l : List O.Pr) (cs : List Value), Prs w P l cs → Prs w' Q l cs
 | [], _, hc => hc
 | _ :: r, _, ⟨c1, c2, he, h1, h2⟩ => ⟨c1, c2, he, h1.keep hP h, Prs.keep hP h r c2 h2⟩
theorem Prs.snoc {P : Nat → Prop} {w : World} {x : O.Pr} {ds : List Value} (hx : PrHas w P x ds) : ∀ (l : List O.Pr) (cs : List Value), Prs w P l cs → Prs w P (l ++ [x]) (cs ++ ds)
 | [], cs, hc => ⟨ds, [], by rw [show cs = [] from hc]; simp, hx, rfl⟩
 | _ :: r, _, ⟨c1, c2, he, h1, h2⟩ => ⟨c1, c2 ++ ds, by rw [he, List.append_assoc], h1, Prs.snoc hx r c2 h2⟩
theorem Prs.at {P : Nat → Prop} {w : World} : ∀ (l : List O.Pr) (cs : List Value) (i : Nat) (x : O.Pr), Prs w P l cs → l[i]? = some x → ∃ ds, PrHas w P x ds ∧ ∀ j u, ds[j]? = some u → cs[i * 4 + j]? = some u
 | [], _, _, _, _, h => by simp at h
 | y :: r, _, 0, x, ⟨c1, c2, he, h1, h2⟩, h => by
   obtain rfl : y = x := by simpa using h
   refine ⟨c1, h1, fun j u hj => ?_⟩
   have hlt : j < c1.length := (List.getElem?_eq_some_iff.1 hj).1
   rw [he, Nat.zero_mul, Nat.zero_add, List.getElem?_append_left hlt, hj]
 | y :: r, _, i + 1, x, ⟨c1, c2, he, h1, h2⟩, h => by
   obtain ⟨ds, hd, ha⟩ := Prs.at r c2 i x h2 (by simpa using h)
   refine ⟨ds, hd, fun j u hj => ?_⟩
   have hl := h1.len
   rw [he, List.getElem?_append_right (by omega), show (i + 1) * 4 + j - c1.length = i * 4 + j by omega]
   exact ha j u hj
def PrsIn (w : World) (P : Nat → Prop) (l : List O.Pr) (v : Value) : Prop :=
 (l = [] ∧ v = .slice none 0 0) ∨ ∃ g cap cs, v = .slice (some ⟨g, 0, none⟩) l.length cap ∧ P g ∧ l.length ≤ cap ∧ Prs w P l cs ∧ ∀ j u, cs[j]? = some u → w.cell? ⟨g, j, none⟩ = some u
theorem PrsIn.keep {P Q : Nat → Prop} {w w' : World} (hP : ∀ b, P b → Q b) (h : ∀ b, P b → w'.heap[b]? = w.heap[b]?) {l : List O.Pr} {v : Value} (hv : PrsIn w P l v) : PrsIn w' Q l v := by
 rcases hv with hv | ⟨g, cap, cs, h1, h2, h3, h4, h5⟩
 · exact Or.inl hv
 · exact Or.inr ⟨g, cap, cs, h1, hP g h2, h3, Prs.keep hP h l cs h4, fun j u hj => by rw [World.cell?_of_block (w := w) (h g h2)]; exact h5 j u hj⟩
theorem PrsIn.shape {P : Nat → Prop} {w : World} {l : List O.Pr} {v : Value} (h : PrsIn w P l v) : ∃ a c, v = .slice a l.length c := by
 rcases h with ⟨rfl, h⟩ | ⟨g, cap, cs, h, _⟩
 · exact ⟨none, 0, h⟩
 · exact ⟨_, cap, h⟩
def zero16 : List Value := [.int .i64 0, .int .i64 0, .pointer none, .string ⟨#[]⟩, .string ⟨#[]⟩, .int .u8 0, .string ⟨#[]⟩, .string ⟨#[]⟩, .string ⟨#[]⟩, .int .u8 0, .string ⟨#[]⟩, .string ⟨#[]⟩, .int .i64 0, .int .i64 0, .string ⟨#[]⟩, .slice none 0 0]
def zero5 : List Value := [.string ⟨#[]⟩, .int .u8 0, .int .i64 0, .bool false, .string ⟨#[]⟩]
def zero4 : List Value := [.string ⟨#[]⟩, .string ⟨#[]⟩, .slice none 0 0, .slice none 0 0]
theorem len4 {l : List Value} (h : l.length = 4) : ∃ x0 x1 x2 x3, l = [x0, x1, x2, x3] := by
 obtain ⟨x0, l0, rfl⟩ : ∃ x r, l = x :: r := by cases l with
  | nil => simp at h
  | cons x r => exact ⟨x, r, rfl⟩
 obtain ⟨x1, l1, rfl⟩ : ∃ x r, l0 = x :: r := by cases l0 with
  | nil => simp at h
  | cons x r => exact ⟨x, r, rfl⟩
 obtain ⟨x2, l2, rfl⟩ : ∃ x r, l1 = x :: r := by cases l1 with
  | nil => simp at h
  | cons x r => exact ⟨x, r, rfl⟩
 obtain ⟨x3, l3, rfl⟩ : ∃ x r, l2 = x :: r := by cases l2 with
  | nil => simp at h
  | cons x r => exact ⟨x, r, rfl⟩
 have e : l3 = [] := by simpa using h
 subst e
 exact ⟨_, _, _, _, rfl⟩
theorem len5 {l : List Value} (h : l.length = 5) : ∃ x0 x1 x2 x3 x4, l = [x0, x1, x2, x3, x4] := by
 obtain ⟨x0, l0, rfl⟩ : ∃ x r, l = x :: r := by cases l with
  | nil => simp at h
  | cons x r => exact ⟨x, r, rfl⟩
 obtain ⟨x1, l1, rfl⟩ : ∃ x r, l0 = x :: r := by cases l0 with
  | nil => simp at h
  | cons x r => exact ⟨x, r, rfl⟩
 obtain ⟨x2, l2, rfl⟩ : ∃ x r, l1 = x :: r := by cases l1 with
  | nil => simp at h
  | cons x r => exact ⟨x, r, rfl⟩
 obtain ⟨x3, l3, rfl⟩ : ∃ x r, l2 = x :: r := by cases l2 with
  | nil => simp at h
  | cons x r => exact ⟨x, r, rfl⟩
 obtain ⟨x4, l4, rfl⟩ : ∃ x r, l3 = x :: r := by cases l3 with
  | nil => simp at h
  | cons x r => exact ⟨x, r, rfl⟩
 have e : l4 = [] := by simpa using h
 subst e
 exact ⟨_, _, _, _, _, rfl⟩
theorem len16 {l : List Value} (h : l.length = 16) : ∃ x0 x1 x2 x3 x4 x5 x6 x7 x8 x9 x10 x11 x12 x13 x14 x15, l = [x0, x1, x2, x3, x4, x5, x6, x7, x8, x9, x10, x11, x12, x13, x14, x15] := by
 obtain ⟨x0, l0, rfl⟩ : ∃ x r, l = x :: r := by cases l with
  | nil => simp at h
  | cons x r => exact ⟨x, r, rfl⟩
 obtain ⟨x1, l1, rfl⟩ : ∃ x r, l0 = x :: r := by cases l0 with
  | nil => simp at h
  | cons x r => exact ⟨x, r, rfl⟩
 obtain ⟨x2, l2, rfl⟩ : ∃ x r, l1 = x :: r := by cases l1 with
  | nil => simp at h
  | cons x r => exact ⟨x, r, rfl⟩
 obtain ⟨x3, l3, rfl⟩ : ∃ x r, l2 = x :: r := by cases l2 with
  | nil => simp at h
  | cons x r => exact ⟨x, r, rfl⟩
 obtain ⟨x4, l4, rfl⟩ : ∃ x r, l3 = x :: r := by cases l3 with
  | nil => simp at h
  | cons x r => exact ⟨x, r, rfl⟩
 obtain ⟨x5, l5, rfl⟩ : ∃ x r, l4 = x :: r := by cases l4 with
  | nil => simp at h
  | cons x r => exact ⟨x, r, rfl⟩
 obtain ⟨x6, l6, rfl⟩ : ∃ x r, l5 = x :: r := by cases l5 with
  | nil => simp at h
  | cons x r => exact ⟨x, r, rfl⟩
 obtain ⟨x7, l7, rfl⟩ : ∃ x r, l6 = x :: r := by cases l6 with
  | nil => simp at h
  | cons x r => exact ⟨x, r, rfl⟩
 obtain ⟨x8, l8, rfl⟩ : ∃ x r, l7 = x :: r := by cases l7 with
  | nil => simp at h
  | cons x r => exact ⟨x, r, rfl⟩
 obtain ⟨x9, l9, rfl⟩ : ∃ x r, l8 = x :: r := by cases l8 with
  | nil => simp at h
  | cons x r => exact ⟨x, r, rfl⟩
 obtain ⟨x10, l10, rfl⟩ : ∃ x r, l9 = x :: r := by cases l9 with
  | nil => simp at h
  | cons x r => exact ⟨x, r, rfl⟩
 obtain ⟨x11, l11, rfl⟩ : ∃ x r, l10 = x :: r := by cases l10 with
  | nil => simp at h
  | cons x r => exact ⟨x, r, rfl⟩
 obtain ⟨x12, l12, rfl⟩ : ∃ x r, l11 = x :: r := by cases l11 with
  | nil => simp at h
  | cons x r => exact ⟨x, r, rfl⟩
 obtain ⟨x13, l13, rfl⟩ : ∃ x r, l12 = x :: r := by cases l12 with
  | nil => simp at h
  | cons x r => exact ⟨x, r, rfl⟩
 obtain ⟨x14, l14, rfl⟩ : ∃ x r, l13 = x :: r := by cases l13 with
  | nil => simp at h
  | cons x r => exact ⟨x, r, rfl⟩
 obtain ⟨x15, l15, rfl⟩ : ∃ x r, l14 = x :: r := by cases l14 with
  | nil => simp at h
  | cons x r => exact ⟨x, r, rfl⟩
 have e : l15 = [] := by simpa using h
 subst e
 exact ⟨_, _, _, _, _, _, _, _, _, _, _, _, _, _, _, _, rfl⟩
theorem rowN2 {w : World} {b : Nat} {x0 x1 : Value} {t : TypeId} (h : w.heap[b]? = some (.cells #[x0, x1] t (0, 0))) :
  w.cell? ⟨b, 0, none⟩ = some x0 ∧ w.cell? ⟨b, 1, none⟩ = some x1 ∧ w.frozen? ⟨b, 0, none⟩ = false ∧ w.frozen? ⟨b, 1, none⟩ = false :=
 ⟨rowCell h 0, rowCell h 1, rowFree h 0, rowFree h 1⟩
theorem rowN4 {w : World} {b : Nat} {x0 x1 x2 x3 : Value} {t : TypeId} (h : w.heap[b]? = some (.cells #[x0, x1, x2, x3] t (0, 0))) :
  w.cell? ⟨b, 0, none⟩ = some x0 ∧ w.cell? ⟨b, 1, none⟩ = some x1 ∧ w.cell? ⟨b, 2, none⟩ = some x2 ∧ w.cell? ⟨b, 3, none⟩ = some x3 ∧ w.frozen? ⟨b, 0, none⟩ = false ∧ w.frozen? ⟨b, 1, none⟩ = false ∧ w.frozen? ⟨b, 2, none⟩ = false ∧ w.frozen? ⟨b, 3, none⟩ = false :=
 ⟨rowCell h 0, rowCell h 1, rowCell h 2, rowCell h 3, rowFree h 0, rowFree h 1, rowFree h 2, rowFree h 3⟩
theorem rowN5 {w : World} {b : Nat} {x0 x1 x2 x3 x4 : Value} {t : TypeId} (h : w.heap[b]? = some (.cells #[x0, x1, x2, x3, x4] t (0, 0))) :
  w.cell? ⟨b, 0, none⟩ = some x0 ∧ w.cell? ⟨b, 1, none⟩ = some x1 ∧ w.cell? ⟨b, 2, none⟩ = some x2 ∧ w.cell? ⟨b, 3, none⟩ = some x3 ∧ w.cell? ⟨b, 4, none⟩ = some x4 ∧ w.frozen? ⟨b, 0, none⟩ = false ∧ w.frozen? ⟨b, 1, none⟩ = false ∧ w.frozen? ⟨b, 2, none⟩ = false ∧ w.frozen? ⟨b, 3, none⟩ = false ∧ w.frozen? ⟨b, 4, none⟩ = false :=
 ⟨rowCell h 0, rowCell h 1, rowCell h 2, rowCell h 3, rowCell h 4, rowFree h 0, rowFree h 1, rowFree h 2, rowFree h 3, rowFree h 4⟩
theorem rowN16 {w : World} {b : Nat} {x0 x1 x2 x3 x4 x5 x6 x7 x8 x9 x10 x11 x12 x13 x14 x15 : Value} {t : TypeId} (h : w.heap[b]? = some (.cells #[x0, x1, x2, x3, x4, x5, x6, x7, x8, x9, x10, x11, x12, x13, x14, x15] t (0, 0))) :
  w.cell? ⟨b, 0, none⟩ = some x0 ∧ w.cell? ⟨b, 1, none⟩ = some x1 ∧ w.cell? ⟨b, 2, none⟩ = some x2 ∧ w.cell? ⟨b, 3, none⟩ = some x3 ∧ w.cell? ⟨b, 4, none⟩ = some x4 ∧ w.cell? ⟨b, 5, none⟩ = some x5 ∧ w.cell? ⟨b, 6, none⟩ = some x6 ∧ w.cell? ⟨b, 7, none⟩ = some x7 ∧ w.cell? ⟨b, 8, none⟩ = some x8 ∧ w.cell? ⟨b, 9, none⟩ = some x9 ∧ w.cell? ⟨b, 10, none⟩ = some x10 ∧ w.cell? ⟨b, 11, none⟩ = some x11 ∧ w.cell? ⟨b, 12, none⟩ = some x12 ∧ w.cell? ⟨b, 13, none⟩ = some x13 ∧ w.cell? ⟨b, 14, none⟩ = some x14 ∧ w.cell? ⟨b, 15, none⟩ = some x15 ∧ w.frozen? ⟨b, 0, none⟩ = false ∧ w.frozen? ⟨b, 1, none⟩ = false ∧ w.frozen? ⟨b, 2, none⟩ = false ∧ w.frozen? ⟨b, 3, none⟩ = false ∧ w.frozen? ⟨b, 4, none⟩ = false ∧ w.frozen? ⟨b, 5, none⟩ = false ∧ w.frozen? ⟨b, 6, none⟩ = false ∧ w.frozen? ⟨b, 7, none⟩ = false ∧ w.frozen? ⟨b, 8, none⟩ = false ∧ w.frozen? ⟨b, 9, none⟩ = false ∧ w.frozen? ⟨b, 10, none⟩ = false ∧ w.frozen? ⟨b, 11, none⟩ = false ∧ w.frozen? ⟨b, 12, none⟩ = false ∧ w.frozen? ⟨b, 13, none⟩ = false ∧ w.frozen? ⟨b, 14, none⟩ = false ∧ w.frozen? ⟨b, 15, none⟩ = false :=
 ⟨rowCell h 0, rowCell h 1, rowCell h 2, rowCell h 3, rowCell h 4, rowCell h 5, rowCell h 6, rowCell h 7, rowCell h 8, rowCell h 9, rowCell h 10, rowCell h 11, rowCell h 12, rowCell h 13, rowCell h 14, rowCell h 15, rowFree h 0, rowFree h 1, rowFree h 2, rowFree h 3, rowFree h 4, rowFree h 5, rowFree h 6, rowFree h 7, rowFree h 8, rowFree h 9, rowFree h 10, rowFree h 11, rowFree h 12, rowFree h 13, rowFree h 14, rowFree h 15⟩
def ItOf (W0 : World) (x : Except O.Er O.It) (en : Ending) (W : World) : Prop :=
 (∃ i cs, x = .ok i ∧ en = .returned (.tuple #[.agg cs.toArray, .pointer none]) ∧ ItHas W (OwnG W W0.heap.size [tFlow]) i cs ∧ Below W0.heap.size W0 W) ∨ (∃ e, x = .error e ∧ FailOf W0 e zero16 en W)
theorem hasB {P : Nat → Prop} {W w : World} {n : X.E} {cs : List Value} (hn : n.Has W P cs) (hP : ∀ b, P b → b < W.heap.size) (hb : Below W.heap.size W w) : n.Has w P cs := X.E.Has.keep (fun _ h => h) (fun b h => hb.block b (hP b h)) hn
theorem sizeItem : (Tryz.prog.info? 144).map (·.size) = some 16 := by kernel_rfl
theorem NB.item {W w : World} {H : Nat} {cs ds : List Value} (h : NB W H cs 16 144 w) {B : Nat} (hB : H ≤ B) {x : Except O.Er O.It} {i : O.It} (hx : x = .ok i) (hi : ItHas w (OwnG w B [tFlow]) i ds) :
  ItOf W x (.returned (.tuple #[.agg ds.toArray, .pointer none])) (sts w (H + 1) 0 ds) := by
 obtain ⟨rs, _, hr⟩ := h.r
 have k : KeepG w (sts w (H + 1) 0 ds) [tFlow] := KeepG.grown (sts_grown ds w (H + 1) 0) hr (by decide)
 refine Or.inl ⟨i, ds, hx, rfl, hi.keep (fun b hb => ?_) (fun b hb => (hb.keep k).2), by rw [h.h]; exact h.setB ds⟩
 rw [h.h]
 exact (hb.keep k).1.sub (fun _ h => h) hB
theorem flow_item {w : World} {B F : Nat} {ln cl : Nat} {s1 s2 s3 : List UInt8} {t1 t2 t3 : ByteArray} (hF : w.heap[F]? = some (.cells #[.string t1, .string t2, .string t3, .string ⟨#[]⟩] 53 (0, 0))) (hB : B ≤ F) (h1 : X.ba s1 = t1) (h2 : X.ba s2 = t2) (h3 : X.ba s3 = t3) :
  ItHas w (OwnG w B [tFlow]) ⟨ln, cl, some ⟨s1, s2, s3⟩, O.zeroEl, [], false⟩ [.int .i64 ln, .int .i64 cl, .pointer (some ⟨F, 0, none⟩), .string ⟨#[]⟩, .string ⟨#[]⟩, .int .u8 0, .string ⟨#[]⟩, .string ⟨#[]⟩, .string ⟨#[]⟩, .int .u8 0, .string ⟨#[]⟩, .string ⟨#[]⟩, .int .i64 0, .int .i64 0, .string ⟨#[]⟩, .slice none 0 0] := by
 subst h1 h2 h3
 exact ⟨_, _, rfl, Or.inr ⟨_, F, rfl, rfl, ⟨hB, Go.lt_of_block hF, _, _, hF, by decide⟩, hF⟩, Or.inl ⟨rfl, rfl⟩⟩
theorem rowN2' {w : World} {b : Nat} {x0 x1 : Value} {t : TypeId} (h : w.heap[b]? = some (.cells #[x0, x1] t (0, 0))) : w.cell? ⟨b, 0, none⟩ = some x0 ∧ w.cell? ⟨b, 1, none⟩ = some x1 := ⟨rowCell h 0, rowCell h 1⟩
theorem sts_mid {T : TypeId} {g : Nat} : ∀ (l pre old post : List Value) (w : World), w.heap[g]? = some (.cells (pre ++ old ++ post).toArray T (0, 0)) → old.length = l.length → (sts w g pre.length l).heap[g]? = some (.cells (pre ++ l ++ post).toArray T (0, 0))
 | [], pre, [], post, w, h, _ => h
 | [], pre, _ :: _, post, w, h, hl => by cases hl
 | v :: r, pre, [], post, w, h, hl => by cases hl
 | v :: r, pre, x :: old, post, w, h, hl => by
   have h1 := row_set h pre.length v
   have e : ((pre ++ x :: old ++ post).toArray).setIfInBounds pre.length v = ((pre ++ [v]) ++ old ++ post).toArray := by
    simp
   rw [e] at h1
   have h2 := sts_mid r (pre ++ [v]) old post _ h1 (by simpa using hl)
   rw [List.length_append, List.length_singleton] at h2
   show (sts (w.setCell ⟨g, pre.length, none⟩ v) g (pre.length + 1) r).heap[g]? = _
   rw [h2]
   simp
theorem el_item {w : World} {B : Nat} {ln cl : Nat} {e : O.El} {ca : List UInt8} {cs : List Value} (hc : cs = itC ⟨ln, cl, none, e, ca, false⟩ (.pointer none) (.slice none 0 0)) : ItHas w (OwnG w B [tFlow]) ⟨ln, cl, none, e, ca, false⟩ cs :=
 ⟨_, _, hc, Or.inl ⟨rfl, rfl⟩, Or.inl ⟨rfl, rfl⟩⟩
end Go.Proofs.YteejphiklpnjhaaGreatDoor
namespace Go.Proofs.YteejphiklpnjhaaGreatDoor
set_option maxRecDepth 100000
set_option maxHeartbeats 16000000
open Go.RowKit Go.Maps
open Go.Lib (hid)
theorem trim_eq (l : List UInt8) : Lib.trimS l [32, 9, 13, 10] = O.trim l := by
 have h : (fun c => ([32, 9, 13, 10] : List UInt8).contains c) = X.blank := by
  funext c
  show List.elem c [32, 9, 13, 10] = _
  unfold X.blank
  cases h1 : (c == 32) <;> cases h2 : (c == 9) <;> cases h3 : (c == 13) <;> cases h4 : (c == 10) <;> simp only [List.elem, h1, h2, h3, h4] <;> rfl
 unfold Lib.trimS Lib.trimLeftS Lib.trimRightS O.trim
 rw [h]
theorem blank_any (s : ByteArray) (w : World) (hs : s.size ≤ 1000000000000) :
  Calls Tryz.prog 63 #[.string s] w fun e w' => e = .returned (.string (X.ba (O.trim s.data.toList))) ∧ Below w.heap.size w w' := by
 have c := Tryz.strings_Trim_set s ⟨#[32, 9, 13, 10]⟩ w (by omega) (by decide) (by
  intro j b hj
  have : (⟨#[32, 9, 13, 10]⟩ : ByteArray).data.toList = [32, 9, 13, 10] := rfl
  rw [this] at hj
  have hm := List.mem_of_getElem? hj
  simp only [List.mem_cons, List.not_mem_nil, or_false] at hm
  rcases hm with rfl | rfl | rfl | rfl <;> decide)
 rw [show (⟨#[32, 9, 13, 10]⟩ : ByteArray).data.toList = [32, 9, 13, 10] from rfl, trim_eq] at c
 unfold X.ba
 generalize O.trim s.data.toList = t at c ⊢
 go_enter Tryz.func63, Tryz.ntmps63
 go_wp2_with fail
 refine c.mono ?_
 rintro e w1 ⟨rfl, hb⟩
 go_wp2_with fail
 go_ret
 exact ⟨rfl, hb⟩
def plainE (n : X.E) : Option O.Er := if O.trim n.tx.data.toList ≠ [] then some (121, n.ln, n.cl) else none
theorem plain_any {P : Nat → Prop} {W : World} {n : X.E} {cs : List Value} (hn : n.Has W P cs) (hs : n.tx.size ≤ 1000000000000) :
   Calls Tryz.prog 41 #[.agg cs.toArray] W (FaultOf W (plainE n)) := by
 obtain ⟨av, kv, rfl, -, -⟩ := hn
 obtain ⟨H, hH⟩ : ∃ H, W.heap.size = H := ⟨_, rfl⟩
 obtain ⟨w1, hw1⟩ : ∃ w1, W.alloc (.cells #[.string n.sp, .string n.lo, av, kv, .string n.tx, .int .i64 n.ln, .int .i64 n.cl] 44) = w1 := ⟨_, rfl⟩
 have hr : w1.heap[H]? = some (.cells #[.string n.sp, .string n.lo, av, kv, .string n.tx, .int .i64 n.ln, .int .i64 n.cl] 44 (0, 0)) := by rw [← hw1, ← hH]; exact heap_alloc_new W _
 have hb1 : Below H W w1 := by rw [← hw1, ← hH]; exact (Below.refl _ W).alloc (Nat.le_refl _) _
 have hc := blank_any n.tx w1 hs
 have HR := hid hr
 have HB := hid hb1
 obtain ⟨T, hT⟩ : ∃ T, O.trim n.tx.data.toList = T := ⟨_, rfl⟩
 have HE : Hid (plainE n = if T ≠ [] then some (121, n.ln, n.cl) else none) := by show _ = _; unfold plainE; rw [hT]
 rw [hT] at hc
 obtain ⟨tb, htb⟩ : ∃ tb, X.ba T = tb := ⟨_, rfl⟩
 have htl : tb.toList = T := by rw [← htb]; exact ba_toList _
 rw [htb] at hc
 obtain ⟨-, -, -, -, c4, -, -⟩ := row7 hr
 have HW := hid hw1
 have HH := hid hH
 generalize plainE n = RES at HE ⊢
 clear hr hb1 hw1 hT htb hs hH
 go_enter Tryz.func41, Tryz.ntmps41
 go_upto_region 1 with fail
 rw [HW.out, HH.out]
 clear HW
 go_wp2_with fail
 refine hc.mono ?_
 rintro e w2 ⟨rfl, hb2⟩
 have HR2 : Hid (w2.heap[H]? = some (.cells #[.string n.sp, .string n.lo, av, kv, .string n.tx, .int .i64 n.ln, .int .i64 n.cl] 44 (0, 0))) := by show _ = _; rw [hb2.block H (Go.lt_of_block HR.out)]; exact HR.out
 have HB2 : Hid (Below H W w2) := HB.out.trans (hb2.mono (Nat.le_of_lt (Go.lt_of_block HR.out)))
 obtain ⟨-, -, -, -, -, c5, c6⟩ := row7 HR2.out
 clear hc c4 hb2
 by_cases ht : T = []
 · have q : tb.toList.isEmpty = true := by rw [htl, ht]; rfl
   have HX : Hid (RES = none) := by show _ = _; rw [HE.out, if_neg (by simpa using ht)]
   clear htl
   go_wp2_with fail
   go_ret
   exact Or.inl ⟨HX.out, rfl, by rw [HH.out]; exact HB2.out⟩
 · have q : tb.toList.isEmpty = false := by rw [htl]; simpa using ht
   have HX : Hid (RES = some (121, n.ln, n.cl)) := by show _ = _; rw [HE.out, if_pos (by simpa using ht)]
   clear htl
   go_wp2_with fail
   go_ret
   refine Or.inr ⟨_, w2.heap.size, HX.out, rfl, ?_, ?_, ?_⟩
   · rw [HH.out]; exact Nat.le_of_lt (Go.lt_of_block HR2.out)
   · exact heap_alloc_new w2 _
   · rw [HH.out]; exact HB2.out.alloc (Nat.le_of_lt (Go.lt_of_block HR2.out)) _
end Go.Proofs.YteejphiklpnjhaaGreatDoor
namespace Go.Proofs.YteejphiklpnjhaaGreatDoor
set_option maxRecDepth 100000
set_option maxHeartbeats 16000000
open Go.RowKit Go.Maps
open Go.Lib (hid)
def u8D (x : Nat) : DataW Unit := .lit (.int .u8 x)
def KU (w : World) (b N : Nat) (k : List (List UInt8 × Nat)) : Prop := w.ownsMap Tryz.prog 9 (plainElem Tryz.prog 5) b N (X.mapD u8D k)
theorem KU.below {w w' : World} {b N : Nat} {k : List (List UInt8 × Nat)} (h : KU w b N k) (hb : Below w.heap.size w w') : KU w' b N k := map_below h hb
theorem zeroU8 (w : World) : (zeroValue 5).run Tryz.prog w = .ok (.int .u8 0) w := by kernel_rfl
theorem KU.put {w : World} {b N : Nat} {k : List (List UInt8 × Nat)} (h : KU w b N k) (hN : N < maxLen) (p : ByteArray) (hp : p.size ≤ 1000000000000) (x : Nat) (hx : (Lit.int .u8 x).wf = true) :
  ∃ w', (Instr.mapUpdate 176 (.map (some b)) (.string p) (.int .u8 x)).run Tryz.prog w = .ok () w' ∧ KU w' b (N + 1) ((p.data.toList, x) :: k) ∧ w.mapTurned w' b := by
 obtain ⟨w', h1, h2, h3⟩ := World.ownsMap.store h lawS Tryz.underlying176 hN (keyS hp) (plainElem_int (H := Unit) Tryz.underlying5 hx)
 exact ⟨w', h1, h2, h3⟩
theorem KU.look {w : World} {b N : Nat} {k : List (List UInt8 × Nat)} (h : KU w b N k) (p : ByteArray) (hp : p.size ≤ 1000000000000) :
  (Instr.lookup 176 (.map (some b)) (.string p) true).run Tryz.prog w = .ok (.tuple #[.int .u8 ((X.lookG k p.data.toList).getD 0 : Nat), .bool (X.lookG k p.data.toList).isSome]) w := by
 obtain ⟨v, ps, hl, hv⟩ := World.ownsMap.look_ok h lawS Tryz.underlying176 (zeroU8 w) (plainElem_int (H := Unit) Tryz.underlying5 (q := .u8) (a := 0) (by decide)) (keyS hp)
 rw [X.mapD_has] at hl
 rw [X.mapD_at] at hv
 obtain ⟨c, rfl, hc, _⟩ := plainElem_int_inv Tryz.underlying5 hv
 have hc2 : c = ((X.lookG k p.data.toList).getD 0 : Nat) := by
  simp only [Prod.mk.injEq] at hc
  have hc1 := hc.1
  revert hc1
  cases X.lookG k p.data.toList with
  | none => intro h; simp only [DataW.lit.injEq, Lit.int.injEq] at h; exact h.2.symm
  | some x => intro h; simp only [u8D, DataW.lit.injEq, Lit.int.injEq] at h; exact h.2.symm
 rw [hc2] at hl
 exact hl
theorem KU.look_some {w : World} {b N : Nat} {k : List (List UInt8 × Nat)} (h : KU w b N k) (p : ByteArray) (hp : p.size ≤ 1000000000000) {x : Nat} (e : X.lookG k p.data.toList = some x) :
  (Instr.lookup 176 (.map (some b)) (.string p) true).run Tryz.prog w = .ok (.tuple #[.int .u8 x, .bool true]) w := by
 have := h.look p hp
 rw [e] at this
 exact this
theorem cellBd {w2 w3 : World} {X i : Nat} {v : Value} (hcb : Below w2.drew.heap.size w2.drew w3) (hl : X < w2.heap.size) (h : w2.cell? ⟨X, i, none⟩ = some v) : w3.cell? ⟨X, i, none⟩ = some v := (hcb.cell (p := ⟨X, i, none⟩) hl).trans h
def kindsL : List (List UInt8 × Nat) := [([99, 97, 108, 108, 65, 99, 116, 105, 118, 105, 116, 121], 10), ([115, 117, 98, 80, 114, 111, 99, 101, 115, 115], 10), ([98, 111, 117, 110, 100, 97, 114, 121, 69, 118, 101, 110, 116], 9), ([105, 110, 116, 101, 114, 109, 101, 100, 105, 97, 116, 101, 67, 97, 116, 99, 104, 69, 118, 101, 110, 116], 8), ([101, 118, 101, 110, 116, 66, 97, 115, 101, 100, 71, 97, 116, 101, 119, 97, 121], 7), ([112, 97, 114, 97, 108, 108, 101, 108, 71, 97, 116, 101, 119, 97, 121], 6), ([101, 120, 99, 108, 117, 115, 105, 118, 101, 71, 97, 116, 101, 119, 97, 121], 5), ([115, 101, 114, 118, 105, 99, 101, 84, 97, 115, 107], 4), ([117, 115, 101, 114, 84, 97, 115, 107], 3), ([101, 110, 100, 69, 118, 101, 110, 116], 2), ([115, 116, 97, 114, 116, 69, 118, 101, 110, 116], 1)]
theorem kindOf_eq (l : List UInt8) : O.kindOf l = X.lookG kindsL l := rfl
theorem kinds_any (W : World) :
  Calls Tryz.prog 95 #[] W fun en W' => en = .returned (.map (some W.heap.size)) ∧ KU W' W.heap.size 11 kindsL ∧ Below W.heap.size W W' := by
 have hmm := @run_makeMap Tryz.prog
 have m0 : KU (W.alloc (.map #[] 0)) W.heap.size 0 [] := World.ownsMap_made (H := Unit) W Tryz.prog 9 (plainElem Tryz.prog 5)
 obtain ⟨w1, v1, m1, t1⟩ := m0.put (by unfold maxLen; omega) ⟨#[115, 116, 97, 114, 116, 69, 118, 101, 110, 116]⟩ (by decide) 1 (by decide)
 have u1 : (Instr.mapUpdate 176 (.map (some W.heap.size)) (.string ⟨#[115, 116, 97, 114, 116, 69, 118, 101, 110, 116]⟩) (.int .u8 1)).run Tryz.prog (W.alloc (.map #[] 0)) = .ok () w1 := v1
 clear v1
 obtain ⟨w2, v2, m2, t2⟩ := m1.put (by unfold maxLen; omega) ⟨#[101, 110, 100, 69, 118, 101, 110, 116]⟩ (by decide) 2 (by decide)
 have u2 : (Instr.mapUpdate 176 (.map (some W.heap.size)) (.string ⟨#[101, 110, 100, 69, 118, 101, 110, 116]⟩) (.int .u8 2)).run Tryz.prog w1 = .ok () w2 := v2
 clear v2
 obtain ⟨w3, v3, m3, t3⟩ := m2.put (by unfold maxLen; omega) ⟨#[117, 115, 101, 114, 84, 97, 115, 107]⟩ (by decide) 3 (by decide)
 have u3 : (Instr.mapUpdate 176 (.map (some W.heap.size)) (.string ⟨#[117, 115, 101, 114, 84, 97, 115, 107]⟩) (.int .u8 3)).run Tryz.prog w2 = .ok () w3 := v3
 clear v3
 obtain ⟨w4, v4, m4, t4⟩ := m3.put (by unfold maxLen; omega) ⟨#[115, 101, 114, 118, 105, 99, 101, 84, 97, 115, 107]⟩ (by decide) 4 (by decide)
 have u4 : (Instr.mapUpdate 176 (.map (some W.heap.size)) (.string ⟨#[115, 101, 114, 118, 105, 99, 101, 84, 97, 115, 107]⟩) (.int .u8 4)).run Tryz.prog w3 = .ok () w4 := v4
 clear v4
 obtain ⟨w5, v5, m5, t5⟩ := m4.put (by unfold maxLen; omega) ⟨#[101, 120, 99, 108, 117, 115, 105, 118, 101, 71, 97, 116, 101, 119, 97, 121]⟩ (by decide) 5 (by decide)
 have u5 : (Instr.mapUpdate 176 (.map (some W.heap.size)) (.string ⟨#[101, 120, 99, 108, 117, 115, 105, 118, 101, 71, 97, 116, 101, 119, 97, 121]⟩) (.int .u8 5)).run Tryz.prog w4 = .ok () w5 := v5
 clear v5
 obtain ⟨w6, v6, m6, t6⟩ := m5.put (by unfold maxLen; omega) ⟨#[112, 97, 114, 97, 108, 108, 101, 108, 71, 97, 116, 101, 119, 97, 121]⟩ (by decide) 6 (by decide)
 have u6 : (Instr.mapUpdate 176 (.map (some W.heap.size)) (.string ⟨#[112, 97, 114, 97, 108, 108, 101, 108, 71, 97, 116, 101, 119, 97, 121]⟩) (.int .u8 6)).run Tryz.prog w5 = .ok () w6 := v6
 clear v6
 obtain ⟨w7, v7, m7, t7⟩ := m6.put (by unfold maxLen; omega) ⟨#[101, 118, 101, 110, 116, 66, 97, 115, 101, 100, 71, 97, 116, 101, 119, 97, 121]⟩ (by decide) 7 (by decide)
 have u7 : (Instr.mapUpdate 176 (.map (some W.heap.size)) (.string ⟨#[101, 118, 101, 110, 116, 66, 97, 115, 101, 100, 71, 97, 116, 101, 119, 97, 121]⟩) (.int .u8 7)).run Tryz.prog w6 = .ok () w7 := v7
 clear v7
 obtain ⟨w8, v8, m8, t8⟩ := m7.put (by unfold maxLen; omega) ⟨#[105, 110, 116, 101, 114, 109, 101, 100, 105, 97, 116, 101, 67, 97, 116, 99, 104, 69, 118, 101, 110, 116]⟩ (by decide) 8 (by decide)
 have u8 : (Instr.mapUpdate 176 (.map (some W.heap.size)) (.string ⟨#[105, 110, 116, 101, 114, 109, 101, 100, 105, 97, 116, 101, 67, 97, 116, 99, 104, 69, 118, 101, 110, 116]⟩) (.int .u8 8)).run Tryz.prog w7 = .ok () w8 := v8
 clear v8
 obtain ⟨w9, v9, m9, t9⟩ := m8.put (by unfold maxLen; omega) ⟨#[98, 111, 117, 110, 100, 97, 114, 121, 69, 118, 101, 110, 116]⟩ (by decide) 9 (by decide)
 have u9 : (Instr.mapUpdate 176 (.map (some W.heap.size)) (.string ⟨#[98, 111, 117, 110, 100, 97, 114, 121, 69, 118, 101, 110, 116]⟩) (.int .u8 9)).run Tryz.prog w8 = .ok () w9 := v9
 clear v9
 obtain ⟨w10, v10, m10, t10⟩ := m9.put (by unfold maxLen; omega) ⟨#[115, 117, 98, 80, 114, 111, 99, 101, 115, 115]⟩ (by decide) 10 (by decide)
 have u10 : (Instr.mapUpdate 176 (.map (some W.heap.size)) (.string ⟨#[115, 117, 98, 80, 114, 111, 99, 101, 115, 115]⟩) (.int .u8 10)).run Tryz.prog w9 = .ok () w10 := v10
 clear v10
 obtain ⟨w11, v11, m11, t11⟩ := m10.put (by unfold maxLen; omega) ⟨#[99, 97, 108, 108, 65, 99, 116, 105, 118, 105, 116, 121]⟩ (by decide) 10 (by decide)
 have u11 : (Instr.mapUpdate 176 (.map (some W.heap.size)) (.string ⟨#[99, 97, 108, 108, 65, 99, 116, 105, 118, 105, 116, 121]⟩) (.int .u8 10)).run Tryz.prog w10 = .ok () w11 := v11
 clear v11
 have HM : Hid (KU w11 W.heap.size 11 kindsL) := m11
 have HB : Hid (Below W.heap.size W w11) := by
  show Below _ _ _
  have b0 : Below W.heap.size W (W.alloc (.map #[] 0)) := (Below.refl _ W).alloc (Nat.le_refl _) _
  have g := (((((((((t1.grown.trans t2.grown).trans t3.grown).trans t4.grown).trans t5.grown).trans t6.grown).trans t7.grown).trans t8.grown).trans t9.grown).trans t10.grown).trans t11.grown
  exact b0.grown g b0.size (fun q hq => by simp at hq; omega)
 clear m0 m1 m2 m3 m4 m5 m6 m7 m8 m9 m10 m11 t1 t2 t3 t4 t5 t6 t7 t8 t9 t10 t11
 go_enter Tryz.func95, Tryz.ntmps95
 go_wp2_with fail
 go_ret
 exact ⟨rfl, HM.out, HB.out⟩
end Go.Proofs.YteejphiklpnjhaaGreatDoor
namespace Go.Proofs.YteejphiklpnjhaaGreatDoor
set_option maxRecDepth 100000
set_option maxHeartbeats 16000000
open Go.RowKit Go.Maps
open Go.Lib (hid)
theorem oinside_any {P : Nat → Prop} {W : World} {n : X.E} {cs : List Value} (hn : n.Has W P cs) (hk : n.ks = .nil) (p : Value) :
  Calls Tryz.prog 96 #[.agg cs.toArray, p] W fun en W' => en = .returned (.pointer none) ∧ Below W.heap.size W W' := by
 obtain ⟨av, kv, rfl, -, hK⟩ := hn
 obtain ⟨ka, kc, rfl⟩ : ∃ a c, kv = .slice a 0 c := by
  have := hK.shape
  rw [hk] at this
  exact this
 obtain ⟨H, hH⟩ : ∃ H, W.heap.size = H := ⟨_, rfl⟩
 obtain ⟨w1, hw1⟩ : ∃ w1, W.alloc (.cells #[.string n.sp, .string n.lo, av, .slice ka 0 kc, .string n.tx, .int .i64 n.ln, .int .i64 n.cl] 44) = w1 := ⟨_, rfl⟩
 have hr : w1.heap[H]? = some (.cells #[.string n.sp, .string n.lo, av, .slice ka 0 kc, .string n.tx, .int .i64 n.ln, .int .i64 n.cl] 44 (0, 0)) := by rw [← hw1, ← hH]; exact heap_alloc_new W _
 have HB : Hid (Below W.heap.size W w1) := by show Below _ _ _; rw [← hw1]; exact (Below.refl _ W).alloc (Nat.le_refl _) _
 obtain ⟨-, -, -, a3, -, -, -⟩ := row7 hr
 have HW1 := hid hw1
 have HH := hid hH
 clear hr hw1 hH hK hk
 go_enter Tryz.func96, Tryz.ntmps96
 go_upto_region 1 with fail
 rw [HW1.out, HH.out]
 clear HW1
 go_wp2_with fail
 go_loopw [15] (fun vi wr => vi = .int .i64 0 ∧ Hid (wr = w1)) (fun _ _ => 0)
 case atStart => exact ⟨rfl, hid rfl⟩
 case round =>
  obtain ⟨rfl, hwr⟩ := hrel
  obtain rfl := hwr.out.symm
  go_wp2_with fail
  go_ret
  exact ⟨rfl, HB.out⟩
end Go.Proofs.YteejphiklpnjhaaGreatDoor
