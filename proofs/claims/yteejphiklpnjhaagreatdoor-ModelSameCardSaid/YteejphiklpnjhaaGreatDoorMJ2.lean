/- The reader in memory; tables and sentinels. -/
import Derived.RowKit
import Derived.WalkKit
import Derived.Deep.WholeRow
import Derived.Below
import Derived.OneCell
import Derived.Test.YteejphiklpnjhaaGreatDoorMJ1
import Derived.Test.YteejphiklpnjhaaGreatDoorShelf
import Derived.BigRegion
import Derived.BigQuiet
import Derived.Deep.RegionWith
import Derived.Deep.DrawnRows
import Derived.RegionTactic
import Derived.Maps.AppendAt
import Derived.Lib.IndexBytes
import Derived.Lib.Hide
import Derived.WalkSmall
import Derived.ProofKit
namespace Go.Proofs.YteejphiklpnjhaaGreatDoor
set_option maxRecDepth 100000
set_option maxHeartbeats 16000000
open Go.RowKit
theorem results_pair {P : Program} {fn : Func} {p q : Tmp} {ty : TypeId} (h : fn.results = #[.cell p ty, .tmp q]) (tmps : Array Value) (w : World) (g : Nat) (t : TypeId) (cs : Array Value) (fr : Nat × Nat) (d : TypeDesc) (v : Value)
  (hp : tmps.getD p undef = .pointer (some ⟨g, 0, none⟩)) (hg : w.heap[g]? = some (.cells cs t fr)) (hq : tmps.getD q undef = v)
  (hu : P.underlying ty = some d) (hd : (match d with | .struct _ | .array _ _ => true | _ => false) = true) (hi : (P.info? ty).map (·.size) = some cs.size) :
  (results fn tmps).run P w = .ok (.tuple #[.agg cs, v]) w := by
 have hp' : tmps[p]?.getD undef = .pointer (some ⟨g, 0, none⟩) := by simpa using hp
 have hq' : tmps[q]?.getD undef = v := by simpa using hq
 simp [results, h, hp', hq', asAddr, run_loadVar_row w g t ty cs fr d hg hu hd hi]
theorem rowCell {w : World} {b : Nat} {cs : Array Value} {t : TypeId} (h : w.heap[b]? = some (.cells cs t (0, 0))) (i : Nat) : w.cell? ⟨b, i, none⟩ = cs[i]? := by rw [cell_of_row _ _ _ _ _ _ h]
theorem rowFree {w : World} {b : Nat} {cs : Array Value} {t : TypeId} (h : w.heap[b]? = some (.cells cs t (0, 0))) (i : Nat) : w.frozen? ⟨b, i, none⟩ = false := by simp [World.frozen?, h]
theorem row4 {w : World} {b : Nat} {x y z u : Value} {t : TypeId} (h : w.heap[b]? = some (.cells #[x, y, z, u] t (0, 0))) :
 w.cell? ⟨b, 0, none⟩ = some x ∧ w.cell? ⟨b, 1, none⟩ = some y ∧ w.cell? ⟨b, 2, none⟩ = some z ∧ w.cell? ⟨b, 3, none⟩ = some u := ⟨rowCell h 0, rowCell h 1, rowCell h 2, rowCell h 3⟩
theorem free4 {w : World} {b : Nat} {cs : Array Value} {t : TypeId} (h : w.heap[b]? = some (.cells cs t (0, 0))) :
 w.frozen? ⟨b, 0, none⟩ = false ∧ w.frozen? ⟨b, 1, none⟩ = false ∧ w.frozen? ⟨b, 2, none⟩ = false ∧ w.frozen? ⟨b, 3, none⟩ = false := ⟨rowFree h 0, rowFree h 1, rowFree h 2, rowFree h 3⟩
theorem row_set {w : World} {b : Nat} {cs : Array Value} {t : TypeId} (h : w.heap[b]? = some (.cells cs t (0, 0))) (i : Nat) (v : Value) : (w.setCell ⟨b, i, none⟩ v).heap[b]? = some (.cells (cs.setIfInBounds i v) t (0, 0)) := by
 have hlt := Go.lt_of_block h
 have h' : w.heap[b] = .cells cs t (0, 0) := by simpa [Array.getElem?_eq_getElem hlt] using h
 show (w.heap.modify b _)[b]? = _
 rw [Array.getElem?_eq_getElem (by simpa using hlt), Array.getElem_modify_self, h']
 rfl
theorem row4_set {w : World} {b : Nat} {x y z u : Value} {t : TypeId} (h : w.heap[b]? = some (.cells #[x, y, z, u] t (0, 0))) (x' y' z' u' : Value) :
  ((((w.setCell ⟨b, 0, none⟩ x').setCell ⟨b, 1, none⟩ y').setCell ⟨b, 2, none⟩ z').setCell ⟨b, 3, none⟩ u').heap[b]? = some (.cells #[x', y', z', u'] t (0, 0)) :=
 row_set (row_set (row_set (row_set h 0 x') 1 y') 2 z') 3 u'
theorem below4_set {B : Nat} {a w : World} {b : Nat} (h : Below B a w) (hb : B ≤ b) (x y z u : Value) : Below B a ((((w.setCell ⟨b, 0, none⟩ x).setCell ⟨b, 1, none⟩ y).setCell ⟨b, 2, none⟩ z).setCell ⟨b, 3, none⟩ u) :=
 (((h.setCell (p := ⟨b, 0, none⟩) hb x).setCell (p := ⟨b, 1, none⟩) hb y).setCell (p := ⟨b, 2, none⟩) hb z).setCell (p := ⟨b, 3, none⟩) hb u
end Go.Proofs.YteejphiklpnjhaaGreatDoor
namespace Go.Proofs.YteejphiklpnjhaaGreatDoor
set_option maxRecDepth 100000
set_option maxHeartbeats 16000000
open Go.RowKit
open Go.Lib (hid)
def mRow (s : ByteArray) (p c : Nat) : Obj := .cells #[.string s, .int .i64 p, .int .i64 c] 67 (0, 0)
theorem grownBy_set (w : World) (b i : Nat) (v : Value) : w.grownBy (w.setCell ⟨b, i, none⟩ v) (some b) := by
 refine ⟨rfl, rfl, rfl, by simp [World.setCell], fun k _ hne => ?_⟩
 have hkb : b ≠ k := fun e => hne (by rw [e])
 show (w.heap.modify b _)[k]? = _
 rw [Array.getElem?_modify]
 simp [hkb]
theorem row3 {w : World} {b : Nat} {x y z : Value} {t : TypeId} (h : w.heap[b]? = some (.cells #[x, y, z] t (0, 0))) : w.cell? ⟨b, 0, none⟩ = some x ∧ w.cell? ⟨b, 1, none⟩ = some y ∧ w.cell? ⟨b, 2, none⟩ = some z := ⟨rowCell h 0, rowCell h 1, rowCell h 2⟩
structure Rd (w : World) (R : Nat) (s : ByteArray) (p c : Nat) (W : World) : Prop where
 g : w.grownBy W (some R)
 r : W.heap[R]? = some (mRow s p c)
 lt : R < w.heap.size
section
variable {w W W' : World} {R p c : Nat} {s : ByteArray}
theorem Rd.below (h : Rd w R s p c W) (b : Below W.heap.size W W') : Rd w R s p c W' :=
 ⟨h.g.trans ⟨b.os, b.tape, b.output, b.size, fun k hk _ => b.block k hk⟩, by rw [b.block _ (Go.lt_of_block h.r)]; exact h.r, h.lt⟩
theorem Rd.drew (h : Rd w R s p c W) : Rd w R s p c W.drew := h.below (Below.refl _ W).drew
theorem Rd.set1 (h : Rd w R s p c W) (q : Nat) : Rd w R s q c (W.setCell ⟨R, 1, none⟩ (.int .i64 q)) := ⟨h.g.trans (grownBy_set _ _ _ _), row_set h.r 1 _, h.lt⟩
theorem Rd.set2 (h : Rd w R s p c W) (q : Nat) : Rd w R s p q (W.setCell ⟨R, 2, none⟩ (.int .i64 q)) := ⟨h.g.trans (grownBy_set _ _ _ _), row_set h.r 2 _, h.lt⟩
theorem Rd.cells (h : Rd w R s p c W) : W.cell? ⟨R, 0, none⟩ = some (.string s) ∧ W.cell? ⟨R, 1, none⟩ = some (.int .i64 p) ∧ W.cell? ⟨R, 2, none⟩ = some (.int .i64 c) := row3 h.r
theorem Rd.free (h : Rd w R s p c W) (i : Nat) : W.frozen? ⟨R, i, none⟩ = false := Lib.frozen_of_heap h.r i
theorem Rd.own (h : Rd w R s p c W) : Rd W R s p c W := ⟨⟨rfl, rfl, rfl, Nat.le_refl _, fun _ _ _ => rfl⟩, h.r, Go.lt_of_block h.r⟩
theorem Rd.trans {q d : Nat} (h : Rd w R s p c W) (g : Rd W R s q d W') : Rd w R s q d W' := ⟨h.g.trans g.g, g.r, h.lt⟩
end
def chain (e at_ : Int) : List PanicEntry := [{ v := .iface 61 (.agg #[.int .i64 e, .int .i64 at_]), recovered := false }]
def Ends {α : Type} (W0 : World) (R : Nat) (s : ByteArray) (c : Nat) (x : X.Res α) (f : α → Value) (en : Ending) (W : World) : Prop :=
 (∃ a r, x = .ok (a, r) ∧ en = .returned (f a) ∧ Rd W0 R s (s.size - r.length) c W) ∨ (∃ n e, x = .error (n, e) ∧ en = .panicked (chain e ((s.size - n : Nat) : Int)) ∧ W0.grownBy W (some R))
def rest (s : ByteArray) (p : Nat) : List UInt8 := s.data.toList.drop p
theorem rest_len (s : ByteArray) (p : Nat) : (rest s p).length = s.size - p := by unfold rest; rw [List.length_drop, ← Lib.size_eq]
theorem rest_drop (s : ByteArray) (p k : Nat) : (rest s p).drop k = rest s (p + k) := by unfold rest; rw [List.drop_drop]
theorem rest_nil (s : ByteArray) (p : Nat) : rest s p = [] ↔ s.size ≤ p := by
 unfold rest
 rw [List.drop_eq_nil_iff, ← Lib.size_eq]
theorem fail_any (er at_ : Int) (w : World) : Calls Tryz.prog 35 #[.int .i64 er, .int .i64 at_] w fun en W' => en = .panicked (chain er at_) ∧ W' = w := by
 go_enter Tryz.func35, Tryz.ntmps35
 go_wp2
 exact ⟨rfl, rfl, rfl⟩
theorem bad_any {R p c : Nat} {s : ByteArray} {W : World} (h : Rd W R s p c W) (hp : p ≤ s.size) :
   Calls Tryz.prog 27 #[.pointer (some ⟨R, 0, none⟩)] W fun en W' => en = .panicked (chain (X.bad (rest s p)).2 ((s.size - (X.bad (rest s p)).1 : Nat) : Int)) ∧ Below W.heap.size W W' := by
 obtain ⟨c0, c1, -⟩ := h.cells
 by_cases hq : s.size ≤ p
 · have e : X.bad (rest s p) = (0, 80) := by unfold X.bad; rw [if_pos ((rest_nil s p).2 hq)]
   rw [e]
   have hps : p = s.size := by omega
   subst hps
   have cF := fun U => fail_any 80 (s.size : Int) U
   have t0 : decide ((s.size : Int) ≤ (s.size : Int)) = true := by simp
   clear h e hq hp
   go_enter Tryz.func27, Tryz.ntmps27
   go_wp2_with fail
   go_region
   go_wp2_with fail
   refine (cF _).mono ?_
   rintro e w1 ⟨rfl, rfl⟩
   exact ⟨rfl, rfl, (Below.refl _ W).drew⟩
 · have e : X.bad (rest s p) = (s.size - p, 81) := by unfold X.bad; rw [if_neg (by rw [rest_nil]; omega), rest_len]
   rw [e]
   have cF := fun U => fail_any 81 (p : Int) U
   have t0 : decide ((s.size : Int) ≤ (p : Int)) = false := by simp; omega
   have e2 : (s.size - (s.size - p) : Nat) = p := by omega
   simp only
   rw [e2]
   clear h e hp e2
   go_enter Tryz.func27, Tryz.ntmps27
   go_wp2_with fail
   go_region
   go_wp2_with fail
   refine (cF _).mono ?_
   rintro e w1 ⟨rfl, rfl⟩
   exact ⟨rfl, rfl, (Below.refl _ W).drew⟩
theorem ext_rest (s : ByteArray) (p : Nat) : (s.extract p s.size).data.toList = rest s p := by rw [Lib.extract_to_end]; rfl
theorem next_any {R p c : Nat} {s : ByteArray} {W : World} (t : ByteArray) (h : Rd W R s p c W) (hp : p ≤ s.size) :
  Calls Tryz.prog 26 #[.pointer (some ⟨R, 0, none⟩), .string t] W fun en W' => en = .returned (.bool (t.data.toList.isPrefixOf (rest s p))) ∧ Below W.heap.size W W' := by
 obtain ⟨c0, c1, -⟩ := h.cells
 have cP := fun U => Tryz.strings_HasPrefix (s.extract p s.size) t U
 unfold Lib.hasPrefix at cP
 rw [ext_rest] at cP
 obtain ⟨b, hb⟩ : ∃ b, t.data.toList.isPrefixOf (rest s p) = b := ⟨_, rfl⟩
 rw [hb] at cP ⊢
 have P0 : (0 : Int) ≤ (p : Int) := by omega
 have P1 : (p : Int) ≤ (s.size : Int) := by omega
 have HP := hid cP
 clear h hb hp cP
 go_enter Tryz.func26, Tryz.ntmps26
 go_wp2_with fail
 go_region_with (go_at_call 34; refine (HP.out _).mono ?_; rintro en w1 ⟨rfl, rfl⟩)
 all_goals
  go_wp2_with fail
  go_ret
  exact ⟨rfl, (Below.refl _ W).drew⟩
theorem take_any {R p c : Nat} {s : ByteArray} {W : World} (t : ByteArray) (h : Rd W R s p c W) (hp : p ≤ s.size) (hs : s.size ≤ 1000000000000) :
   Calls Tryz.prog 24 #[.pointer (some ⟨R, 0, none⟩), .string t] W fun en W' => (t.data.toList.isPrefixOf (rest s p) = true ∧ p + t.size ≤ s.size ∧ en = .returned (.bool true) ∧ Rd W R s (p + t.size) c W') ∨ (t.data.toList.isPrefixOf (rest s p) = false ∧ en = .returned (.bool false) ∧ Below W.heap.size W W') := by
 have cN := next_any t h hp
 have HR := hid h
 cases hb : t.data.toList.isPrefixOf (rest s p)
 · rw [hb] at cN
   clear h hb
   go_enter Tryz.func24, Tryz.ntmps24
   go_wp2_with fail
   refine cN.mono ?_
   rintro e w1 ⟨rfl, hbl⟩
   have HB := hid hbl
   clear hbl
   go_wp2_with fail
   go_ret
   exact Or.inr ⟨trivial, rfl, HB.out⟩
 · rw [hb] at cN
   have hl := X.pre_len hb
   rw [rest_len, ← Lib.size_eq] at hl
   have hq : p + t.size ≤ s.size := by omega
   obtain ⟨q, hqe⟩ : ∃ q, p + t.size = q := ⟨_, rfl⟩
   have e1 : (p : Int) + (t.size : Int) = (q : Int) := by omega
   have e2 : IntKind.i64.wrap (q : Int) = (q : Int) := by rw [IntKind.wrap_i64]; omega
   rw [hqe] at hq ⊢
   clear h hb hl hqe
   go_enter Tryz.func24, Tryz.ntmps24
   go_wp2_with fail
   refine cN.mono ?_
   rintro e w1 ⟨rfl, hbl⟩
   have HR1 := hid (HR.out.below hbl)
   clear hbl
   obtain ⟨c0, c1, -⟩ := HR1.out.cells
   have f1 := HR1.out.free 1
   go_wp2_with fail
   go_ret
   exact Or.inl ⟨trivial, hq, rfl, HR1.out.set1 q⟩
theorem must_any {R p c : Nat} {s : ByteArray} {W : World} (t : ByteArray) (h : Rd W R s p c W) (hp : p ≤ s.size) (hs : s.size ≤ 1000000000000) :
   Calls Tryz.prog 36 #[.pointer (some ⟨R, 0, none⟩), .string t] W (Ends W R s c (X.must t.data.toList (rest s p)) (fun _ => .tuple #[])) := by
 have cT := take_any t h hp hs
 have HR := hid h
 clear h
 go_enter Tryz.func36, Tryz.ntmps36
 go_wp2_with fail
 refine cT.mono ?_
 rintro e w1 (⟨h1, h2, rfl, h3⟩ | ⟨h1, rfl, h3⟩)
 · have HX : Hid (X.must t.data.toList (rest s p) = .ok ((), rest s (p + t.size))) := by
    show _ = _
    unfold X.must
    rw [if_pos h1, rest_drop, ← Lib.size_eq]
   have HR1 := hid h3
   have HQ : Hid (s.size - (rest s (p + t.size)).length = p + t.size) := by show _ = _; rw [rest_len]; omega
   clear h1 h2 h3 cT
   go_wp2_with fail
   go_end0
   exact Or.inl ⟨(), _, HX.out, rfl, by rw [HQ.out]; exact HR1.out⟩
 · have HX : Hid (X.must t.data.toList (rest s p) = .error (X.bad (rest s p))) := by
    show _ = _
    unfold X.must
    rw [if_neg (by rw [h1]; decide)]
   have HR1 := hid (HR.out.below h3)
   have cB := bad_any HR1.out.own hp
   clear h1 h3 cT
   go_wp2_with fail
   refine cB.mono ?_
   rintro e w2 ⟨rfl, hbl⟩
   exact ⟨rfl, Or.inr ⟨_, _, HX.out, rfl, (HR1.out.below hbl).g⟩⟩
end Go.Proofs.YteejphiklpnjhaaGreatDoor
namespace Go.Proofs.YteejphiklpnjhaaGreatDoor
set_option maxRecDepth 100000
set_option maxHeartbeats 16000000
open Go.RowKit
open Go.Lib (hid)
def Errs (w : World) : Prop := (∃ tp p, w.var? Tryz.prog "strconv.ErrSyntax" = some #[.iface tp p]) ∧ (∃ tp p, w.var? Tryz.prog "strconv.ErrRange" = some #[.iface tp p])
theorem Errs.keep {w w' : World} (h : Errs w) (hb : Below w.heap.size w w') : Errs w' := by
 obtain ⟨⟨t1, p1, h1⟩, ⟨t2, p2, h2⟩⟩ := h
 have c1 : w.cell? ⟨3, 0, none⟩ = some (.iface t1 p1) := by
  have h0 := World.var?_cell (show Tryz.prog.globalNamed "strconv.ErrSyntax" = some 3 by kernel_rfl) h1 0
  simpa using h0
 have c2 : w.cell? ⟨4, 0, none⟩ = some (.iface t2 p2) := by
  have h0 := World.var?_cell (show Tryz.prog.globalNamed "strconv.ErrRange" = some 4 by kernel_rfl) h2 0
  simpa using h0
 exact ⟨⟨t1, p1, var?_below hb (show Tryz.prog.globalNamed "strconv.ErrSyntax" = some 3 by kernel_rfl) (Lib.lt_of_cell c1) h1⟩,
  ⟨t2, p2, var?_below hb (show Tryz.prog.globalNamed "strconv.ErrRange" = some 4 by kernel_rfl) (Lib.lt_of_cell c2) h2⟩⟩
theorem cut_list (s : ByteArray) (n m : Nat) : (s.extract n m).data.toList = (s.data.toList.drop n).take (m - n) := by
 rw [ByteArray.data_extract, Array.toList_extract]
def Tabs (w : World) : Prop := Lib.Utf8Tabs 1 2 w
theorem Tabs.below {B : Nat} {w w' : World} (h : Tabs w) (hb : Below B w w') (h0 : 1 < B) (h1 : 2 < B) : Tabs w' := by
 refine ⟨fun c hc => ?_, fun i hi => ?_⟩
 · rw [hb.cell (p := ⟨1, c, none⟩) h0]; exact h.1 c hc
 · rw [hb.cell (p := ⟨2, 2 * i, none⟩) h1, hb.cell (p := ⟨2, 2 * i + 1, none⟩) h1]; exact h.2 i hi
theorem Tabs.size {w : World} (h : Tabs w) : 1 < w.heap.size ∧ 2 < w.heap.size :=
 ⟨block_lt_of_cell (h.1 0 (by omega)), block_lt_of_cell (h.2 0 (by omega)).1⟩
structure Ground (B : Nat) (w : World) : Prop where
 errs : ∀ X, Below B w X → Errs X
 tabs : ∀ X, Below B w X → Tabs X
theorem Ground.keep {B : Nat} {w w' : World} (h : Ground B w) (hb : Below B w w') : Ground B w' := ⟨fun X hX => h.errs X (hb.trans hX), fun X hX => h.tabs X (hb.trans hX)⟩
theorem Ground.first {w : World} (hE : Errs w) (hT : Tabs w) : Ground w.heap.size w := ⟨fun _ h => hE.keep h, fun _ h => hT.below h hT.size.1 hT.size.2⟩
theorem Rd.base {w W : World} {R p c B : Nat} {s : ByteArray} (h : Rd w R s p c W) (hB : B ≤ R) : Below B w W :=
 ⟨h.g.os, h.g.tape, h.g.output, by have := h.g.size; have := h.lt; omega, fun k hk => h.g.block k (by have := h.lt; omega) (fun e => by have := Option.some.inj e; omega)⟩
theorem Ground.rd {w W : World} {R p c B : Nat} {s : ByteArray} (g : Ground B w) (h : Rd w R s p c W) (hB : B ≤ R) : Ground B W := g.keep (h.base hB)
theorem Tabs.under {w W : World} (h : Tabs w) (hb : Below w.heap.size w W) : Tabs W := h.below hb h.size.1 h.size.2
theorem Ground.now {B : Nat} {w : World} (g : Ground B w) : Tabs w := g.tabs w (Below.refl _ w)
theorem Ground.below {B : Nat} {w w' : World} (g : Ground B w) (h : Below w.heap.size w w') (hB : B ≤ w.heap.size) : Ground B w' := g.keep (h.mono hB)
end Go.Proofs.YteejphiklpnjhaaGreatDoor
namespace Go.Proofs.YteejphiklpnjhaaGreatDoor
set_option maxRecDepth 100000
set_option maxHeartbeats 16000000
open Go.RowKit
structure EnvM (w : World) : Prop where
 e : Errs w
 t : Tabs w
end Go.Proofs.YteejphiklpnjhaaGreatDoor
