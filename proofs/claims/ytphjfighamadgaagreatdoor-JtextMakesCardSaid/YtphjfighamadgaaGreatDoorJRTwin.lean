/- The reference's Twin: a value in new memory. -/
import Derived.Test.YtphjfighamadgaaGreatDoorJRSame
namespace Go.Proofs.YtphjfighamadgaaGreatDoor
open Go.RowKit
open Go.Lib (hid)
def RTwinC (x : J.V) : Prop := x.small → ∀ (w : World) (P : Nat → Prop) (cs : List Value), x.Has w P cs → (∀ b, P b → b < w.heap.size) → Calls Tryz.prog 16 #[.agg cs.toArray] w (TwinOf x w)
/-- the box, the result's cell, the names' row; the list that was handed in, the list that is made -/
structure RT (w : World) (P : Nat → Prop) (B : Nat) (O : Obj) (nv : Value) (ns : List ByteArray) (t1 t2 : J.T) (g o : Nat) (lv : Value) (W : World) : Prop where
  v : W.heap[w.heap.size]? = some O
  z : W.heap[w.heap.size + 1]? = some (vRow 0 (.slice none 0 0) (.slice none 0 0))
  n : W.ownsRow (w.heap.size + 2) 9 1 nv ns.length (ns.map Value.string)
  nb : ∀ b, nv.ownBlock = some b → b < B
  l : JOwn 25 B t1 lv W
  c : t2 ≠ .nil → t2.At W P g o
  b : Below w.heap.size w W
  lo : w.heap.size + 2 ≤ B
  hi : B ≤ W.heap.size
theorem RT.after {w W W' : World} {P : Nat → Prop} {B : Nat} {O : Obj} {nv : Value} {ns : List ByteArray} {t1 t2 : J.T} {g o : Nat} {lv : Value} (h : RT w P B O nv ns t1 t2 g o lv W) (hP : ∀ b, P b → b < w.heap.size) (hb : Below W.heap.size W W') : RT w P B O nv ns t1 t2 g o lv W' :=
  ⟨by rw [hb.block _ (Go.lt_of_block h.v)]; exact h.v, by rw [hb.block _ (Go.lt_of_block h.z)]; exact h.z, World.ownsRow.kept (row := none) h.n ⟨hb.os, hb.tape, hb.output, hb.size, fun k hk _ => hb.block k hk⟩ (Classical.em _), h.nb, h.l.below hb,
    fun hne => J.T.At.keep (fun _ h => h) (fun b hb' => hb.block b (Nat.lt_of_lt_of_le (hP b hb') h.b.size)) _ _ _ (h.c hne), h.b.trans (hb.mono h.b.size), h.lo, Nat.le_trans h.hi hb.size⟩
/-- one value more behind the list that is made -/
theorem RT.more {w W W' : World} {P : Nat → Prop} {B : Nat} {O : Obj} {nv : Value} {ns : List ByteArray} {t1 t2 : J.T} {g o : Nat} {lv : Value} {x : J.V} {new cs : List Value} {m cap len : Nat} (h : RT w P B O nv ns t1 t2 g o lv W) (hP : ∀ b, P b → b < w.heap.size)
    (hx : x.Has W (Own W B lv.ownBlock) new) (hcs : t1.Cells W (Own W B lv.ownBlock) cs) (hl : t1.length = len)
    (hown : W'.ownsRow B 25 6 (.slice (some ⟨m, 0, none⟩) (len + 1) cap) (len + 1) (cs ++ new)) (hgrow : W.grownBy W' lv.ownBlock) (hat : lv.ownBlock = some m ∨ m = W.heap.size) :
    RT w P B O nv ns (t1.snoc x) t2 g o (.slice (some ⟨m, 0, none⟩) (len + 1) cap) W' := by
  have hll := h.l.lt
  have hlo := h.lo
  have hsz := hgrow.size
  have hne : ∀ b, b < B → lv.ownBlock ≠ some b := fun b hb e => by have := (hll b e).1; omega
  have hk : ∀ b, b < B → W'.heap[b]? = W.heap[b]? := fun b hb => hgrow.block b (by have := h.hi; omega) (fun e => hne b hb e.symm)
  subst hl
  refine ⟨by rw [hk _ (by omega)]; exact h.v, by rw [hk _ (by omega)]; exact h.z, ?_, h.nb, JOwn.more hx hcs hown hgrow hat, fun hne' => J.T.At.keep (fun _ h => h) (fun b hb' => hk b (by have := hP b hb'; omega)) _ _ _ (h.c hne'), ?_, h.lo, Nat.le_trans h.hi hsz⟩
  · refine World.ownsRow.kept h.n hgrow ?_
    rcases hnv : nv.ownBlock with _ | b
    · left; rfl
    · right
      intro e
      exact hne b (h.nb b hnv) e.symm
  · exact h.b.grown hgrow (by have := h.b.size; omega) (fun k hk => by have := (hll k hk).1; omega)
theorem RT.start {w w3 : World} {P : Nat → Prop} {nv : Value} {ns : List ByteArray} {l : J.T} {g o : Nat} {c0 c1 c2 c3 c4 c5 : Value} (hv : w3.heap[w.heap.size]? = some (.cells #[c0, c1, c2, c3, c4, c5] 25 (0, 0))) (hz : w3.heap[w.heap.size + 1]? = some (vRow 0 (.slice none 0 0) (.slice none 0 0)))
    (hn : w3.ownsRow (w.heap.size + 2) 9 1 nv ns.length (ns.map Value.string)) (hb : Below w.heap.size w w3) (hsz : w.heap.size + 2 ≤ w3.heap.size) (hc : l ≠ .nil → l.At w P g o) (hP : ∀ b, P b → b < w.heap.size) :
    RT w P w3.heap.size (.cells #[c0, c1, c2, c3, c4, nv] 25 (0, 0)) nv ns .nil l g o (.slice none 0 0) (w3.setCell ⟨w.heap.size, 5, none⟩ nv) := by
  have hg := grownBy_set w3 w.heap.size 5 nv
  have hll := World.ownsRow.lt hn
  have ho : ∀ j, j < w3.heap.size → j ≠ w.heap.size → (w3.setCell ⟨w.heap.size, 5, none⟩ nv).heap[j]? = w3.heap[j]? := fun j h1 h2 => hg.block j h1 (fun e => h2 (Option.some.inj e))
  refine ⟨row_set hv 5 nv, by rw [ho _ (by omega) (by omega)]; exact hz, World.ownsRow.kept hn hg (Or.inr fun e => by have := (hll _ e).1; omega), fun b hb' => (hll b hb').2, JOwn.nil _ _ _, fun hne => J.T.At.keep (fun _ h => h) (fun b hb' => by have := hP b hb'; rw [ho b (by omega) (by omega)]; exact hb.block b this) _ _ _ (hc hne), ?_, hsz, hg.size⟩
  exact ⟨hg.os.trans hb.os, hg.tape.trans hb.tape, hg.output.trans hb.output, Nat.le_trans hb.size hg.size, fun j hj => by have := hb.size; rw [ho j (by omega) (by omega)]; exact hb.block j hj⟩
theorem RT.done {w W : World} {P : Nat → Prop} {B : Nat} {O : Obj} {k : Nat} {b : Bool} {n : Int} {s : ByteArray} {l t1 : J.T} {ns : List ByteArray} {nv lv : Value} {g o : Nat} (h : RT w P B O nv ns t1 .nil g o lv W) (hl : t1 = l) (c0 c1 c2 c3 c4 c5 : Value) :
    TwinOf ⟨k, b, n, s, l, ns⟩ w (.returned (.agg #[.int .u8 k, .bool b, .int .i64 n, .string s, lv, nv])) (pt6 (W.setCell ⟨w.heap.size, 4, none⟩ lv) (w.heap.size + 1) c0 c1 c2 c3 c4 c5) := by
  subst hl
  have hg := grownBy_set W w.heap.size 4 lv
  have hlo := h.lo
  have hbs := h.b.size
  have ho : ∀ j, j < W.heap.size → j ≠ w.heap.size → (W.setCell ⟨w.heap.size, 4, none⟩ lv).heap[j]? = W.heap[j]? := fun j h1 h2 => hg.block j h1 (fun e => h2 (Option.some.inj e))
  have hb5 : Below w.heap.size w (W.setCell ⟨w.heap.size, 4, none⟩ lv) := ⟨hg.os.trans h.b.os, hg.tape.trans h.b.tape, hg.output.trans h.b.output, Nat.le_trans hbs hg.size, fun j hj => by rw [ho j (by omega) (by omega)]; exact h.b.block j hj⟩
  refine ⟨[.int .u8 k, .bool b, .int .i64 n, .string s, lv, nv], rfl, ?_, pt6_below hb5 (by omega) _ _ _ _ _ _⟩
  have h0 : (⟨k, b, n, s, t1, ns⟩ : J.V).Has W (Own W (w.heap.size + 2) none) [.int .u8 k, .bool b, .int .i64 n, .string s, lv, nv] :=
    ⟨lv, nv, rfl, J.T.In.mono (fun b hb => ⟨by have := hb.1; omega, hb.2⟩) h.l.is, own_SIn h.n⟩
  have hk : ∀ j, Own W (w.heap.size + 2) none j → (pt6 (W.setCell ⟨w.heap.size, 4, none⟩ lv) (w.heap.size + 1) c0 c1 c2 c3 c4 c5).heap[j]? = W.heap[j]? := fun j hj => by
    have h1 := hj.1
    rw [pt6_other _ _ _ _ _ _ _ _ _ (by omega)]
    exact ho j hj.2.1 (by omega)
  refine J.V.Has.keep ?_ hk h0
  intro j hj
  have h9 := hk j hj
  obtain ⟨h2, h3, h4, cs, T, h5⟩ := hj
  have hs5 := hg.size
  exact ⟨by omega, by rw [pt6_size]; omega, h4, cs, T, by rw [h9]; exact h5⟩
end Go.Proofs.YtphjfighamadgaaGreatDoor
