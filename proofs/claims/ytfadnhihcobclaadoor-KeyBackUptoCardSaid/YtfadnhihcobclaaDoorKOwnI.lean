/- Items in rows of the call's own. -/
import Derived.Test.YtfadnhihcobclaaDoorKPlainD
import Derived.Test.YtfadnhihcobclaaDoorKItems
import Derived.Deep.AppendLies
import Derived.Lib.Hide
import Derived.WalkSmall
namespace Go.Proofs.YtfadnhihcobclaaDoor
open Go.RowKit
open Go.Lib (hid)
namespace K
/-- these items stand in this block from this place on; their blocks are among P -/
def Items.Lie (w : World) (P : Nat → Prop) : Items → Nat → Nat → Prop
  | .nil, _, _ => True
  | .cons k n s l r, b, o => P b ∧ (o % 4 = 0 ∧ ∃ cs T, w.heap[b]? = some (.cells cs T (0, 0))) ∧ w.cell? ⟨b, o, none⟩ = some (.int .u8 k) ∧ w.cell? ⟨b, o + 1, none⟩ = some (.int .i64 n) ∧ w.cell? ⟨b, o + 2, none⟩ = some (.string s) ∧
      (∃ v, w.cell? ⟨b, o + 3, none⟩ = some v ∧ ((v = .slice none 0 0 ∧ l = .nil) ∨ ∃ b' o' c, v = .slice (some ⟨b', o', none⟩) l.length c ∧ l.Lie w P b' o')) ∧ r.Lie w P b (o + 4)
def Items.Lies (w : World) (P : Nat → Prop) (l : Items) (v : Value) : Prop := (v = .slice none 0 0 ∧ l = .nil) ∨ ∃ b o c, v = .slice (some ⟨b, o, none⟩) l.length c ∧ l.Lie w P b o
theorem Items.Lie.keep {P Q : Nat → Prop} {w w' : World} (hP : ∀ b, P b → Q b) (h : ∀ b, P b → w'.heap[b]? = w.heap[b]?) : ∀ (l : Items) (b o : Nat), l.Lie w P b o → l.Lie w' Q b o
  | .nil, _, _, _ => trivial
  | .cons k n s l r, b, o, ⟨hb, ⟨hm4, cs, T, hrow⟩, h0, h1, h2, ⟨v, h3, hv⟩, hr⟩ => by
    have hc : ∀ i, w'.cell? ⟨b, i, none⟩ = w.cell? ⟨b, i, none⟩ := fun i => World.cell?_of_block (w := w) (h b hb)
    refine ⟨hP b hb, ⟨hm4, cs, T, by rw [h b hb]; exact hrow⟩, ?_, ?_, ?_, ⟨v, ?_, ?_⟩, Items.Lie.keep hP h r b (o + 4) hr⟩
    · rw [hc]; exact h0
    · rw [hc]; exact h1
    · rw [hc]; exact h2
    · rw [hc]; exact h3
    · rcases hv with hv | ⟨b', o', c, hv, hl⟩
      · exact Or.inl hv
      · exact Or.inr ⟨b', o', c, hv, Items.Lie.keep hP h l b' o' hl⟩
theorem Items.Lies.keep {P Q : Nat → Prop} {w w' : World} (hP : ∀ b, P b → Q b) (h : ∀ b, P b → w'.heap[b]? = w.heap[b]?) {l : Items} {v : Value} (hv : l.Lies w P v) : l.Lies w' Q v := by
  rcases hv with hv | ⟨b, o, c, hv, ha⟩
  · exact Or.inl hv
  · exact Or.inr ⟨b, o, c, hv, Items.Lie.keep hP h l b o ha⟩
theorem Items.Lies.mono {P Q : Nat → Prop} {w : World} (hP : ∀ b, P b → Q b) {l : Items} {v : Value} (hv : l.Lies w P v) : l.Lies w Q v := hv.keep hP fun _ _ => rfl
theorem Items.Lies.below {P : Nat → Prop} {w w' : World} {B : Nat} (hb : Below B w w') (hP : ∀ b, P b → b < B) {l : Items} {v : Value} (hv : l.Lies w P v) : l.Lies w' P v :=
  hv.keep (fun _ h => h) fun b h => hb.block b (hP b h)
theorem Items.Lie.at {P : Nat → Prop} {w : World} {B : Nat} (hP : ∀ b, P b → b < B) : ∀ (l : Items) (b o : Nat), l.Lie w P b o → l.At w B b o
  | .nil, _, _, _ => trivial
  | .cons k n s l r, b, o, ⟨hb, _, h0, h1, h2, ⟨v, h3, hv⟩, hr⟩ => by
    refine ⟨hP b hb, h0, h1, h2, ⟨v, h3, ?_⟩, Items.Lie.at hP r b (o + 4) hr⟩
    rcases hv with hv | ⟨b', o', c, hv, hl⟩
    · exact Or.inl ⟨_, _, hv⟩
    · exact Or.inr ⟨b', o', c, hv, Items.Lie.at hP l b' o' hl⟩
theorem Items.Lies.inn {P : Nat → Prop} {w : World} {B : Nat} (hP : ∀ b, P b → b < B) {l : Items} {v : Value} (hv : l.Lies w P v) : l.In w B v := by
  rcases hv with hv | ⟨b, o, c, hv, ha⟩
  · exact Or.inl ⟨_, _, hv⟩
  · exact Or.inr ⟨b, o, c, hv, Items.Lie.at hP l b o ha⟩
/-- the cells of items in a row; what hangs on them lies among P -/
def Items.Cells (w : World) (P : Nat → Prop) : Items → List Value → Prop
  | .nil, cs => cs = []
  | .cons k n s l r, cs => ∃ v cs', cs = .int .u8 k :: .int .i64 n :: .string s :: v :: cs' ∧ l.Lies w P v ∧ r.Cells w P cs'
theorem Items.Cells.keep {P Q : Nat → Prop} {w w' : World} (hP : ∀ b, P b → Q b) (h : ∀ b, P b → w'.heap[b]? = w.heap[b]?) : ∀ (l : Items) (cs : List Value), l.Cells w P cs → l.Cells w' Q cs
  | .nil, _, hc => hc
  | .cons k n s l r, cs, ⟨v, cs', he, hl, hr⟩ => ⟨v, cs', he, hl.keep hP h, Items.Cells.keep hP h r cs' hr⟩
theorem Items.Cells.app {P : Nat → Prop} {w : World} : ∀ (a b : Items) (cs ds : List Value), a.Cells w P cs → b.Cells w P ds → (a.app b).Cells w P (cs ++ ds)
  | .nil, b, cs, ds, hc, hd => by
    rw [show cs = [] from hc]
    exact hd
  | .cons _ _ _ _ r, b, _, ds, ⟨v, cs', he, hl, hr⟩, hd => ⟨v, cs' ++ ds, by rw [he]; rfl, hl, Items.Cells.app r b cs' ds hr hd⟩
theorem Items.Cells.lie {P : Nat → Prop} {w : World} {b : Nat} (hb : P b) (hrow : ∃ cs T, w.heap[b]? = some (.cells cs T (0, 0))) : ∀ (l : Items) (cs : List Value) (o : Nat), o % 4 = 0 → l.Cells w P cs → (∀ j u, cs[j]? = some u → w.cell? ⟨b, o + j, none⟩ = some u) → l.Lie w P b o
  | .nil, _, _, _, _, _ => trivial
  | .cons k n s l r, cs, o, ho, ⟨v, cs', he, hl, hr⟩, hc => by
    subst he
    refine ⟨hb, ⟨ho, hrow⟩, hc 0 _ rfl, hc 1 _ rfl, hc 2 _ rfl, ⟨v, hc 3 _ rfl, ?_⟩, Items.Cells.lie hb hrow r cs' (o + 4) (by omega) hr (fun j u hj => ?_)⟩
    · rcases hl with hl | ⟨b', o', c, hv, hl⟩
      · exact Or.inl hl
      · exact Or.inr ⟨b', o', c, hv, hl⟩
    · have := hc (j + 4) u (by simpa using hj)
      rw [show o + 4 + j = o + (j + 4) by omega]
      exact this
end K
/-- a row of the call's own, from block B on, holds these items; what hangs on them is of the call's own too, and apart from the row -/
def IOwn (E : TypeId) (B : Nat) (l : K.Items) (v : Value) (w : World) : Prop :=
  ∃ cs, w.ownsRow B E 4 v l.length cs ∧ l.Cells w (fun b => B ≤ b ∧ b < w.heap.size ∧ v.ownBlock ≠ some b) cs
theorem IOwn.nil (E : TypeId) (B : Nat) (w : World) : IOwn E B .nil (.slice none 0 0) w := ⟨[], World.ownsRow_nil _ _ _ _, rfl⟩
theorem IOwn.below {E : TypeId} {B : Nat} {l : K.Items} {v : Value} {w w' : World} (h : IOwn E B l v w) (hb : Below w.heap.size w w') : IOwn E B l v w' := by
  obtain ⟨cs, h1, h2⟩ := h
  refine ⟨cs, World.ownsRow.kept (row := none) h1 ⟨hb.os, hb.tape, hb.output, hb.size, fun k hk _ => hb.block k hk⟩ (Classical.em _), ?_⟩
  have hs := hb.size
  exact K.Items.Cells.keep (fun b hb' => ⟨hb'.1, by omega, hb'.2.2⟩) (fun b hb' => hb.block b hb'.2.1) l cs h2
theorem IOwn.alloc {E : TypeId} {B : Nat} {l : K.Items} {v : Value} {w : World} (h : IOwn E B l v w) (o : Obj) : IOwn E B l v (w.alloc o) := h.below ((Below.refl _ w).alloc (Nat.le_refl _) o)
theorem IOwn.drew {E : TypeId} {B : Nat} {l : K.Items} {v : Value} {w : World} (h : IOwn E B l v w) : IOwn E B l v w.drew := h.below (Below.refl _ w).drew
theorem IOwn.shape {E : TypeId} {B : Nat} {l : K.Items} {v : Value} {w : World} (h : IOwn E B l v w) : ∃ a c, v = .slice a l.length c := by
  obtain ⟨cs, h1, _⟩ := h
  rcases h1.2 with ⟨rfl, h0⟩ | ⟨g, cap, cur, rfl, _⟩
  · exact ⟨none, 0, by rw [h0]⟩
  · exact ⟨_, _, rfl⟩
theorem IOwn.lies {E : TypeId} {B : Nat} {l : K.Items} {v : Value} {w : World} (h : IOwn E B l v w) : l.Lies w (fun b => B ≤ b ∧ b < w.heap.size) v := by
  obtain ⟨cs, h1, h2⟩ := h
  have hlt := World.ownsRow.lt h1
  have hc := fun g (hg : v.ownBlock = some g) => World.ownsRow.cells h1 hg
  rcases h1.2 with ⟨rfl, h0⟩ | ⟨g, cap, cur, rfl, _, hgr, _⟩
  · refine Or.inl ⟨rfl, ?_⟩
    cases l with
    | nil => rfl
    | cons k n s m r => simp [K.Items.length] at h0
  · refine Or.inr ⟨g, 0, cap, rfl, ?_⟩
    refine K.Items.Cells.lie (hlt g rfl) ⟨_, _, hgr⟩ l cs 0 rfl (K.Items.Cells.keep (fun b hb => ⟨hb.1, hb.2.1⟩) (fun _ _ => rfl) l cs h2) (fun j u hj => ?_)
    have := hc g rfl j u hj
    have e : (⟨g, 0, none⟩ : Addr).add j = ⟨g, j, none⟩ := by cases j <;> simp [Addr.add]
    rw [e] at this
    rw [Nat.zero_add]; exact this
theorem IOwn.inn {E : TypeId} {B : Nat} {l : K.Items} {v : Value} {w : World} (h : IOwn E B l v w) : l.In w w.heap.size v := h.lies.inn fun _ h => h.2
/-- one item more -/
theorem IOwn.more {E : TypeId} {B : Nat} {l : K.Items} {v : Value} {w w' : World} (h : IOwn E B l v w) {k : Nat} {n : Int} {s : ByteArray} {m : K.Items} {mv : Value} (hm : m.Lies w (fun b => B ≤ b ∧ b < w.heap.size ∧ v.ownBlock ≠ some b) mv)
    {cs : List Value} (hcs : l.Cells w (fun b => B ≤ b ∧ b < w.heap.size ∧ v.ownBlock ≠ some b) cs) {g cap : Nat} (hown : w'.ownsRow B E 4 (.slice (some ⟨g, 0, none⟩) (l.length + 1) cap) (l.length + 1) (cs ++ [.int .u8 k, .int .i64 n, .string s, mv]))
    (hgrow : w.grownBy w' v.ownBlock) (hat : v.ownBlock = some g ∨ g = w.heap.size) : IOwn E B (l.app (.one k n s m)) (.slice (some ⟨g, 0, none⟩) (l.length + 1) cap) w' := by
  refine ⟨_, by rw [K.Items.app_length]; exact hown, ?_⟩
  have hs := hgrow.size
  refine K.Items.Cells.keep (P := fun b => B ≤ b ∧ b < w.heap.size ∧ v.ownBlock ≠ some b) ?_ (fun b hb => hgrow.block b hb.2.1 (fun e => hb.2.2 e.symm)) _ _ (K.Items.Cells.app l _ cs _ hcs ⟨mv, [], rfl, hm, rfl⟩)
  intro b hb
  refine ⟨hb.1, by omega, ?_⟩
  intro e
  simp only [Value.ownBlock, Option.some.injEq] at e
  subst e
  rcases hat with hat | hat
  · exact hb.2.2 hat
  · omega
/-- what is needed of an item's type and a slice's -/
structure ItemT (T E : TypeId) : Prop where
  und : Tryd.prog.underlying T = some (.slice E)
  info : ∃ i, Tryd.prog.info? E = some i ∧ i.zero = some (.agg #[.int .u8 0, .int .i64 0, .string ⟨#[]⟩, .slice none 0 0]) ∧ i.size = 4 ∧ i.bytes = 56
theorem infoItem : (Tryd.prog.info? 62).map (fun i => (i.zero, i.size, i.bytes)) = some (some (.agg #[.int .u8 0, .int .i64 0, .string ⟨#[]⟩, .slice none 0 0]), 4, 56) := by kernel_rfl
theorem infoItemR : (Tryd.prog.info? 74).map (fun i => (i.zero, i.size, i.bytes)) = some (some (.agg #[.int .u8 0, .int .i64 0, .string ⟨#[]⟩, .slice none 0 0]), 4, 56) := by kernel_rfl
theorem itemT : ItemT 41 62 := ⟨Tryd.underlying41, info_parts infoItem⟩
theorem itemTR : ItemT 39 74 := ⟨Tryd.underlying39, info_parts infoItemR⟩
theorem lies_one {w : World} {P : Nat → Prop} {m : K.Items} {mv : Value} (h : m.Lies w P mv) : mv.oneCell' = true := by
  rcases h with ⟨rfl, _⟩ | ⟨b, o, c, rfl, _⟩ <;> rfl
theorem lies_own {w : World} {B S : Nat} {m : K.Items} {mv : Value} {g0 : Option Nat} (hlt : ∀ k, g0 = some k → k < S) (h : m.Lies w (fun b => S ≤ b ∧ b < w.heap.size) mv) (hB : B ≤ S) : m.Lies w (fun b => B ≤ b ∧ b < w.heap.size ∧ g0 ≠ some b) mv :=
  h.mono fun b hb => ⟨by omega, hb.2, fun e => by have := hlt b e; omega⟩
theorem IOwn.lt {E : TypeId} {B : Nat} {l : K.Items} {v : Value} {w : World} (h : IOwn E B l v w) : ∀ k, v.ownBlock = some k → B ≤ k ∧ k < w.heap.size := by
  obtain ⟨cs, h1, _⟩ := h
  exact World.ownsRow.lt h1
/-- append(out, item), at the list of a plain region's operations -/
theorem wpList_pushI {T E : TypeId} (hT : ItemT T E) {ops : Array Oper} {rest : List Oper} {o : Oper} {a : Act} {Q : Exit → Act → World → Prop} {w : World} (hgd : o.guard = none) (s x : Operand)
    (ho : o.op = .call { callee := .builtin .append, args := #[s, x], argTypes := #[T, T] }) (B : Nat) (l : K.Items) (v : Value) (g0 : Nat) (k : Nat) (n : Int) (y : ByteArray) (m : K.Items) (mv : Value) (hs : a.eval s = v) (hx : a.eval x = .slice (some ⟨g0, 0, none⟩) 1 1)
    (hR : IOwn E B l v w) (hm : m.Lies w (fun b => B ≤ b ∧ b < w.heap.size ∧ v.ownBlock ≠ some b) mv)
    (hg : w.heap[g0]? = some (.cells #[.int .u8 k, .int .i64 n, .string y, mv] E (0, 0))) (hl : l.length ≤ 1000000000) (hB : B ≤ w.heap.size)
    (h : ∀ v' w', IOwn E B (l.app (.one k n y m)) v' w' → w.grownBy w' v.ownBlock → wpList Tryd.prog ops Q rest (a.put o.dst v') w') : wpList Tryd.prog ops Q (o :: rest) a w := by
  obtain ⟨i0, hi, hz0, hz1, hz2⟩ := hT.info
  obtain ⟨cs, h1, h2⟩ := id hR
  refine wpList_append_lies w hgd s x T ho B E i0 _ 4 56 hT.und hi hz0 hz1 hz2 rfl (by decide) v l.length cs hs h1 ⟨g0, 0, none⟩ 1 1 [.int .u8 k, .int .i64 n, .string y, mv] hx rfl (World.news_of_block (cs := #[.int .u8 k, .int .i64 n, .string y, mv]) (t := E) (fr := (0, 0)) hg)
    (by intro u hu; simp only [List.mem_cons, List.not_mem_nil, or_false] at hu; rcases hu with rfl | rfl | rfl | rfl <;> first | rfl | exact lies_one hm) (by decide) (by unfold maxLen; omega) (by omega) hB _ rfl ?_
  intro g cap w' hown hgrow hat _
  exact h _ _ (hR.more hm h2 hown hgrow hat) hgrow
/-- .. as one step of a region that draws its order -/
theorem step_pushI {T E : TypeId} (hT : ItemT T E) {ops : Array Oper} {o : Oper} {a : Act} {K' : Act → World → Prop} {Q : Exit → Act → World → Prop} {F : Prop} {w : World} (hgd : o.guard = none) (s x : Operand)
    (ho : o.op = .call { callee := .builtin .append, args := #[s, x], argTypes := #[T, T] }) (B : Nat) (l : K.Items) (v : Value) (g0 : Nat) (k : Nat) (n : Int) (y : ByteArray) (m : K.Items) (mv : Value) (hs : a.eval s = v) (hx : a.eval x = .slice (some ⟨g0, 0, none⟩) 1 1)
    (hR : IOwn E B l v w) (hm : m.Lies w (fun b => B ≤ b ∧ b < w.heap.size ∧ v.ownBlock ≠ some b) mv)
    (hg : w.heap[g0]? = some (.cells #[.int .u8 k, .int .i64 n, .string y, mv] E (0, 0))) (hl : l.length ≤ 1000000000) (hB : B ≤ w.heap.size)
    (h : ∀ v' w', IOwn E B (l.app (.one k n y m)) v' w' → w.grownBy w' v.ownBlock → K' (a.put o.dst v') w') : if Region.wanted o (yielded ops a.tmps) = true then Oper.wp Tryd.prog o a w K' Q else F := by
  obtain ⟨i0, hi, hz0, hz1, hz2⟩ := hT.info
  obtain ⟨cs, h1, h2⟩ := id hR
  refine step_append_lies w hgd s x T ho B E i0 _ 4 56 hT.und hi hz0 hz1 hz2 rfl (by decide) v l.length cs hs h1 ⟨g0, 0, none⟩ 1 1 [.int .u8 k, .int .i64 n, .string y, mv] hx rfl (World.news_of_block (cs := #[.int .u8 k, .int .i64 n, .string y, mv]) (t := E) (fr := (0, 0)) hg)
    (by intro u hu; simp only [List.mem_cons, List.not_mem_nil, or_false] at hu; rcases hu with rfl | rfl | rfl | rfl <;> first | rfl | exact lies_one hm) (by decide) (by unfold maxLen; omega) (by omega) hB _ rfl ?_
  intro g cap w' hown hgrow hat _
  exact h _ _ (hR.more hm h2 hown hgrow hat) hgrow
end Go.Proofs.YtfadnhihcobclaaDoor
