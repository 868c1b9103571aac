/- key.Decode's item: what stays; the short ways. -/
import Derived.Test.YtfadnhihcobclaaDoorKSeven
import Derived.Test.YtfadnhihcobclaaDoorKOwnI
import Derived.Test.YtfadnhihcobclaaDoorKUnpack
import Derived.Test.YtfadnhihcobclaaDoorRow4
import Derived.Maps.AppendAt
namespace Go.Proofs.YtfadnhihcobclaaDoor
open Go.RowKit
open Go.Lib (hid)
open K
namespace K
theorem step_it (d : Nat) (R : List UInt8 → Rd) (l : List UInt8) : step d R l = match rd 1 d l with
    | .bad e => .bad e
    | .ok x r => (R r).app x := by
  rw [rd_succ]
  unfold step
  cases hd d l with
  | bad e => rfl
  | num n r => simp only [rd_zero, Rd.app]; rfl
  | text t r => simp only [rd_zero, Rd.app]; rfl
  | list m r =>
    simp only
    cases rd m (d + 1) r with
    | bad e => rfl
    | ok x q => simp only [rd_zero, Rd.app]; rfl
theorem rd_more (c d : Nat) (l : List UInt8) : rd (c + 1) d l = match rd 1 d l with
    | .bad e => .bad e
    | .ok x r => (rd c d r).app x := by rw [rd_succ, step_it]
/-- one item: what stands at the head -/
theorem rd_hd (d : Nat) (l : List UInt8) : rd 1 d l = match hd d l with
  | .bad e => .bad e
  | .num n r => .ok (.one 1 n ⟨#[]⟩ .nil) r
  | .text t r => .ok (.one 2 0 ⟨t.toArray⟩ .nil) r
  | .list m r => match rd m (d + 1) r with
    | .bad e => .bad e
    | .ok x r' => .ok (.one 3 0 ⟨#[]⟩ x) r' := by
  rw [rd_succ]
  unfold step
  cases hd d l with
  | bad e => rfl
  | num n r => simp only [rd_zero, Rd.app]; rfl
  | text t r => simp only [rd_zero, Rd.app]; rfl
  | list m r =>
    simp only
    cases rd m (d + 1) r with
    | bad e => rfl
    | ok x q => simp only [rd_zero, Rd.app]; rfl
end K
theorem infoItemS : (Tryd.prog.info? 62).map (·.size) = some 4 := by kernel_rfl
/-- the function that is in the box of Decode's item -/
def itemFn (sb ib : Nat) : Value := .func (.func 44) #[] #[.pointer (some ⟨sb, 0, none⟩), .pointer (some ⟨ib, 0, none⟩)]
def strRow (t : ByteArray) : Obj := .cells #[.string t] 9 (0, 0)
def fnRow (sb ib : Nat) : Obj := .cells #[itemFn sb ib] 82 (0, 0)
/-- the state of Decode's item: what is left stands in sb, the function in ib, the result's row is R0 -/
structure DS (w : World) (sb ib R0 : Nat) (t : ByteArray) (W : World) : Prop where
  g : w.grownBy W (some sb)
  s : W.heap[sb]? = some (strRow t)
  i : W.heap[ib]? = some (fnRow sb ib)
  r : ∃ x y z u, W.heap[R0]? = some (.cells #[x, y, z, u] 62 (0, 0))
  ls : sb < w.heap.size
  li : ib < w.heap.size
  ne : sb ≠ ib
  lr : w.heap.size ≤ R0
theorem DS.start {w : World} {sb ib : Nat} {t : ByteArray} (hs : w.heap[sb]? = some (strRow t)) (hi : w.heap[ib]? = some (fnRow sb ib)) (hn : sb ≠ ib) (x y z u : Value) :
    DS w sb ib w.heap.size t (w.alloc (.cells #[x, y, z, u] 62)) :=
  ⟨World.grownBy_alloc _ _ _, by rw [Lib.alloc_old _ _ _ (Go.lt_of_block hs)]; exact hs, by rw [Lib.alloc_old _ _ _ (Go.lt_of_block hi)]; exact hi, ⟨_, _, _, _, heap_alloc_new _ _⟩, Go.lt_of_block hs, Go.lt_of_block hi, hn, Nat.le_refl _⟩
theorem DS.below {w : World} {sb ib R0 : Nat} {t : ByteArray} {W W' : World} (h : DS w sb ib R0 t W) (b : Below W.heap.size W W') : DS w sb ib R0 t W' := by
  obtain ⟨x, y, z, u, hr⟩ := h.r
  have hsz := h.g.size
  refine ⟨h.g.trans ⟨b.os, b.tape, b.output, b.size, fun k hk _ => b.block k hk⟩, ?_, ?_, ⟨x, y, z, u, ?_⟩, h.ls, h.li, h.ne, h.lr⟩
  · rw [b.block _ (Go.lt_of_block h.s)]; exact h.s
  · rw [b.block _ (Go.lt_of_block h.i)]; exact h.i
  · rw [b.block _ (Go.lt_of_block hr)]; exact hr
theorem DS.alloc {w : World} {sb ib R0 : Nat} {t : ByteArray} {W : World} (h : DS w sb ib R0 t W) (o : Obj) : DS w sb ib R0 t (W.alloc o) := h.below ((Below.refl _ W).alloc (Nat.le_refl _) o)
/-- writes to a row that is neither the text's nor the result's -/
theorem DS.grown {w : World} {sb ib R0 : Nat} {t : ByteArray} {W W' : World} (h : DS w sb ib R0 t W) {row : Option Nat} (g : W.grownBy W' row) (hr : ∀ k, row = some k → w.heap.size ≤ k ∧ k ≠ R0) : DS w sb ib R0 t W' := by
  obtain ⟨x, y, z, u, hr0⟩ := h.r
  have hsz := h.g.size
  have hls := h.ls
  have hli := h.li
  refine ⟨⟨g.os.trans h.g.os, g.tape.trans h.g.tape, g.output.trans h.g.output, Nat.le_trans h.g.size g.size, fun k hk hn => ?_⟩, ?_, ?_, ⟨x, y, z, u, ?_⟩, h.ls, h.li, h.ne, h.lr⟩
  · rw [g.block k (by omega) (fun e => by have := hr k e.symm; omega)]; exact h.g.block k hk hn
  · rw [g.block _ (Go.lt_of_block h.s) (fun e => by have := hr _ e.symm; omega)]; exact h.s
  · rw [g.block _ (Go.lt_of_block h.i) (fun e => by have := hr _ e.symm; omega)]; exact h.i
  · rw [g.block _ (Go.lt_of_block hr0) (fun e => (hr _ e.symm).2 rfl)]; exact hr0
/-- a call that writes what is left -/
theorem DS.call {w : World} {sb ib R0 : Nat} {t t' : ByteArray} {W W' : World} (h : DS w sb ib R0 t W) (g : W.grownBy W' (some sb)) (hs : W'.heap[sb]? = some (strRow t')) : DS w sb ib R0 t' W' := by
  obtain ⟨x, y, z, u, hr0⟩ := h.r
  have hls := h.ls
  have hlr := h.lr
  have hne := h.ne
  refine ⟨h.g.trans g, hs, ?_, ⟨x, y, z, u, ?_⟩, h.ls, h.li, h.ne, h.lr⟩
  · rw [g.block _ (Go.lt_of_block h.i) (fun e => hne (Option.some.inj e).symm)]; exact h.i
  · rw [g.block _ (Go.lt_of_block hr0) (fun e => by have := Option.some.inj e; omega)]; exact hr0
theorem DS.write {w : World} {sb ib R0 : Nat} {t : ByteArray} {W : World} (h : DS w sb ib R0 t W) (t' : ByteArray) : DS w sb ib R0 t' (W.setCell ⟨sb, 0, none⟩ (.string t')) :=
  h.call ⟨rfl, rfl, rfl, by simp, fun k _ hn => Below.heap_setCell W ⟨sb, 0, none⟩ _ k (fun e => hn (by rw [e]))⟩ (row_set h.s 0 _)
/-- what the walk wants of it -/
theorem DS.facts {w : World} {sb ib R0 : Nat} {t : ByteArray} {W : World} (h : DS w sb ib R0 t W) : W.cell? ⟨sb, 0, none⟩ = some (.string t) ∧ W.frozen? ⟨sb, 0, none⟩ = false ∧ W.cell? ⟨ib, 0, none⟩ = some (itemFn sb ib) ∧ sb < W.heap.size ∧ ib < W.heap.size ∧
    (∃ x y z u, W.cell? ⟨R0, 0, none⟩ = some x ∧ W.cell? ⟨R0, 1, none⟩ = some y ∧ W.cell? ⟨R0, 2, none⟩ = some z ∧ W.cell? ⟨R0, 3, none⟩ = some u) ∧ W.frozen? ⟨R0, 0, none⟩ = false ∧ W.frozen? ⟨R0, 1, none⟩ = false ∧ W.frozen? ⟨R0, 2, none⟩ = false ∧ W.frozen? ⟨R0, 3, none⟩ = false ∧ R0 < W.heap.size := by
  obtain ⟨x, y, z, u, hr⟩ := h.r
  obtain ⟨a0, a1, a2, a3⟩ := row4 hr
  obtain ⟨f0, f1, f2, f3⟩ := free4 hr
  exact ⟨cell_of_one h.s, free_of_one h.s, cell_of_one h.i, Go.lt_of_block h.s, Go.lt_of_block h.i, ⟨x, y, z, u, a0, a1, a2, a3⟩, f0, f1, f2, f3, Go.lt_of_block hr⟩
/-- the result is laid -/
theorem DS.done {w : World} {sb ib R0 : Nat} {t : ByteArray} {W : World} (h : DS w sb ib R0 t W) (x y z u : Value) :
    w.grownBy ((((W.setCell ⟨R0, 0, none⟩ x).setCell ⟨R0, 1, none⟩ y).setCell ⟨R0, 2, none⟩ z).setCell ⟨R0, 3, none⟩ u) (some sb) ∧
    ((((W.setCell ⟨R0, 0, none⟩ x).setCell ⟨R0, 1, none⟩ y).setCell ⟨R0, 2, none⟩ z).setCell ⟨R0, 3, none⟩ u).heap[sb]? = some (strRow t) ∧
    ((((W.setCell ⟨R0, 0, none⟩ x).setCell ⟨R0, 1, none⟩ y).setCell ⟨R0, 2, none⟩ z).setCell ⟨R0, 3, none⟩ u).heap[R0]? = some (.cells #[x, y, z, u] 62 (0, 0)) ∧
    Below R0 W ((((W.setCell ⟨R0, 0, none⟩ x).setCell ⟨R0, 1, none⟩ y).setCell ⟨R0, 2, none⟩ z).setCell ⟨R0, 3, none⟩ u) := by
  obtain ⟨x', y', z', u', hr⟩ := h.r
  have b := below4_set (Below.refl R0 W) (b := R0) (Nat.le_refl _) x y z u
  have hlr := h.lr
  have hls := h.ls
  refine ⟨⟨b.os.trans h.g.os, b.tape.trans h.g.tape, b.output.trans h.g.output, Nat.le_trans h.g.size b.size, fun k hk hn => ?_⟩, ?_, row4_set hr x y z u, b⟩
  · rw [b.block k (by omega)]; exact h.g.block k hk hn
  · rw [b.block sb (by omega)]; exact h.s
/-- what Decode's item answers; R: what is to be read -/
def ItemOf (R : Rd) (sb : Nat) (w : World) (e : Ending) (w' : World) : Prop :=
  w.grownBy w' (some sb) ∧ ((∃ er t, R = .bad er ∧ e = .returned (.tuple #[.agg #[.int .u8 0, .int .i64 0, .string ⟨#[]⟩, .slice none 0 0], .int .i64 er]) ∧ w'.heap[sb]? = some (strRow t)) ∨
    ∃ k n y m r mv, R = .ok (.one k n y m) r ∧ e = .returned (.tuple #[.agg #[.int .u8 k, .int .i64 n, .string y, mv], .int .i64 0]) ∧ m.Lies w' (fun b => w.heap.size ≤ b ∧ b < w'.heap.size) mv ∧ w'.heap[sb]? = some (strRow ⟨r.toArray⟩))
theorem itemOf_bad {R : Rd} {sb : Nat} {w W' : World} {er : Int} {t : ByteArray} (hR : R = .bad er) (hg : w.grownBy W' (some sb)) (ht : W'.heap[sb]? = some (strRow t)) : ItemOf R sb w (.returned (.tuple #[.agg #[.int .u8 0, .int .i64 0, .string ⟨#[]⟩, .slice none 0 0], .int .i64 er])) W' :=
  ⟨hg, Or.inl ⟨er, t, hR, rfl, ht⟩⟩
set_option maxRecDepth 100000 in
set_option maxHeartbeats 4000000 in
theorem item_empty (d sb ib : Nat) (s : ByteArray) (w : World) (h0 : s.size = 0) (hs : w.heap[sb]? = some (strRow s)) (hi : w.heap[ib]? = some (fnRow sb ib)) (hn : sb ≠ ib) :
    Calls Tryd.prog 44 #[.int .i64 d, .pointer (some ⟨sb, 0, none⟩), .pointer (some ⟨ib, 0, none⟩)] w (ItemOf (rd 1 d s.data.toList) sb w) := by
  have HR : Hid (rd 1 d s.data.toList = .bad 4) := by
    show _ = _
    rw [rd_hd, List.eq_nil_of_length_eq_zero (show s.data.toList.length = 0 by rw [Array.length_toList]; exact h0)]; rfl
  have hemp := emp_yes h0
  have HD := hid (DS.start hs hi hn (.int .u8 0) (.int .i64 0) (.string ⟨#[]⟩) (.slice none 0 0))
  have c0 := cell_of_one hs
  have l0 := Go.lt_of_block hs
  clear h0 hs hi
  go_enter Tryd.func44, Tryd.ntmps44
  go_wp2_with fail
  exact bodyPost_ret (v := .tuple #[.agg #[.int .u8 0, .int .i64 0, .string ⟨#[]⟩, .slice none 0 0], .int .i64 4]) (results_pair rfl _ _ w.heap.size 62 _ (0, 0) _ (.int .i64 4) rfl (heap_alloc_new w _) (by rfl) Tryd.underlying62 rfl infoItemS) rfl (itemOf_bad HR.out HD.out.g HD.out.s)
end Go.Proofs.YtfadnhihcobclaaDoor
