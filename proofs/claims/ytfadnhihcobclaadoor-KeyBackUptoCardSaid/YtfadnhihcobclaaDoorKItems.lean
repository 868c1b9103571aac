/- Items in memory; a buffer of the call's own. -/
import Derived.Test.YtfadnhihcobclaaDoorKPlainI
import Derived.Test.YtfadnhihcobclaaDoorByteRows
import Derived.OneCell
import Derived.Lib.OthersKept
namespace Go.Proofs.YtfadnhihcobclaaDoor
open Go.RowKit
open Go.Lib (hid)

namespace K
/-- these items stand in this block from this place on, below block number B -/
def Items.At (w : World) (B : Nat) : Items → Nat → Nat → Prop
  | .nil, _, _ => True
  | .cons k n s l r, b, o => b < B ∧ w.cell? ⟨b, o, none⟩ = some (.int .u8 k) ∧ w.cell? ⟨b, o + 1, none⟩ = some (.int .i64 n) ∧ w.cell? ⟨b, o + 2, none⟩ = some (.string s) ∧
      (∃ v, w.cell? ⟨b, o + 3, none⟩ = some v ∧ ((∃ a c, v = .slice a 0 c ∧ l = .nil) ∨ ∃ b' o' c, v = .slice (some ⟨b', o', none⟩) l.length c ∧ l.At w B b' o')) ∧ r.At w B b (o + 4)
/-- a slice holds these items -/
def Items.In (w : World) (B : Nat) (l : Items) (v : Value) : Prop := (∃ a c, v = .slice a 0 c ∧ l = .nil) ∨ ∃ b o c, v = .slice (some ⟨b, o, none⟩) l.length c ∧ l.At w B b o
theorem Items.At.keep {B B' : Nat} {w w' : World} (hB : B ≤ B') (h : ∀ b o, b < B → w'.cell? ⟨b, o, none⟩ = w.cell? ⟨b, o, none⟩) : ∀ (l : Items) (b o : Nat), l.At w B b o → l.At w' B' b o
  | .nil, _, _, _ => trivial
  | .cons k n s l r, b, o, ⟨hb, h0, h1, h2, ⟨v, h3, hv⟩, hr⟩ => by
    refine ⟨by omega, ?_, ?_, ?_, ⟨v, ?_, ?_⟩, Items.At.keep hB h r b (o + 4) hr⟩
    · rw [h _ _ hb]; exact h0
    · rw [h _ _ hb]; exact h1
    · rw [h _ _ hb]; exact h2
    · rw [h _ _ hb]; exact h3
    · rcases hv with hv | ⟨b', o', c, hv, hl⟩
      · exact Or.inl hv
      · exact Or.inr ⟨b', o', c, hv, Items.At.keep hB h l b' o' hl⟩
theorem Items.At.below {B : Nat} {w w' : World} (hb : Below B w w') {l : Items} {b o : Nat} (h : l.At w B b o) : l.At w' B b o :=
  Items.At.keep (Nat.le_refl _) (fun b o hlt => hb.cell (p := ⟨b, o, none⟩) hlt) l b o h
theorem Items.In.keep {B B' : Nat} {w w' : World} (hB : B ≤ B') (h : ∀ b o, b < B → w'.cell? ⟨b, o, none⟩ = w.cell? ⟨b, o, none⟩) {l : Items} {v : Value} (hv : l.In w B v) : l.In w' B' v := by
  rcases hv with hv | ⟨b, o, c, hv, ha⟩
  · exact Or.inl hv
  · exact Or.inr ⟨b, o, c, hv, ha.keep hB h⟩
theorem Items.In.below {B : Nat} {w w' : World} (hb : Below B w w') {l : Items} {v : Value} (h : l.In w B v) : l.In w' B v :=
  h.keep (Nat.le_refl _) fun b o hlt => hb.cell (p := ⟨b, o, none⟩) hlt
theorem Items.In.mono {B B' : Nat} {w : World} (hB : B ≤ B') {l : Items} {v : Value} (h : l.In w B v) : l.In w B' v := h.keep hB fun _ _ _ => rfl
/-- the items from the k-th on -/
def Items.drop : Items → Nat → Items
  | l, 0 => l
  | .nil, _ + 1 => .nil
  | .cons _ _ _ _ r, k + 1 => r.drop k
theorem Items.At.drop {w : World} {B b : Nat} : ∀ (l : Items) (k o : Nat), l.At w B b o → (l.drop k).At w B b (o + 4 * k)
  | l, 0, o, h => by cases l <;> exact h
  | .nil, _ + 1, _, _ => trivial
  | .cons _ _ _ _ r, k + 1, o, h => by
    have := Items.At.drop r k (o + 4) h.2.2.2.2.2
    rw [show o + 4 * (k + 1) = o + 4 + 4 * k by omega]
    exact this
theorem Items.drop_length : ∀ (l : Items) (k : Nat), (l.drop k).length = l.length - k
  | l, 0 => by cases l <;> rfl
  | .nil, _ + 1 => by simp [Items.drop, Items.length]
  | .cons _ _ _ _ r, k + 1 => by simp only [Items.drop, Items.length]; rw [Items.drop_length r k]; omega
theorem Items.drop_succ : ∀ (l : Items) (j : Nat) {k : Nat} {n : Int} {s : ByteArray} {m r : Items}, l.drop j = .cons k n s m r → l.drop (j + 1) = r
  | .nil, 0, _, _, _, _, _, h => by simp [Items.drop] at h
  | .nil, _ + 1, _, _, _, _, _, h => by simp [Items.drop] at h
  | .cons _ _ _ _ t, 0, _, _, _, _, _, h => by
    simp only [Items.drop, Items.cons.injEq] at h
    obtain ⟨_, _, _, _, rfl⟩ := h
    cases t <;> rfl
  | .cons _ _ _ _ t, j + 1, _, _, _, _, _, h => by
    simp only [Items.drop] at h
    show t.drop (j + 1) = _
    exact Items.drop_succ t j h
theorem Items.may.drop : ∀ (l : Items) (k : Nat), l.may → (l.drop k).may
  | l, 0, h => by cases l <;> exact h
  | .nil, _ + 1, _ => trivial
  | .cons _ _ _ _ r, k + 1, h => Items.may.drop r k h.2.2.2.2.2.2
theorem Items.cons_of_pos : ∀ (l : Items), 0 < l.length → ∃ k n s m r, l = .cons k n s m r
  | .nil, h => absurd h (by simp [Items.length])
  | .cons k n s m r, _ => ⟨k, n, s, m, r, rfl⟩
end K

/-- a row of bytes lies in a block of bytes -/
theorem Row.kind {B : Nat} {l : List UInt8} {v : Value} {w : World} (h : Row B l v w) {q : Nat} {cs : Array Value} {T : TypeId} {f : Nat × Nat} (hq : w.heap[q]? = some (.cells cs T f)) (hT : T ≠ 5) : v.ownBlock ≠ some q := by
  rcases h.2 with ⟨rfl, _⟩ | ⟨g, cap, cur, rfl, _, hg, _⟩
  · intro e; cases e
  · intro e
    have e' : g = q := by simpa [Value.ownBlock] using e
    subst e'
    rw [hq] at hg
    simp only [Option.some.injEq, Obj.cells.injEq] at hg
    exact hT hg.2.1
theorem Row.lies {B : Nat} {l : List UInt8} {v : Value} {w : World} (h : Row B l v w) : ∀ g, v.ownBlock = some g → ∃ c fz, w.heap[g]? = some (.cells c 5 fz) := by
  intro g hg
  rcases h.2 with ⟨rfl, _⟩ | ⟨g', cap, cur, rfl, _, hgg, _⟩
  · cases hg
  · have e' : g' = g := by simpa [Value.ownBlock] using hg
    subst e'
    exact ⟨_, _, hgg⟩
/-- all blocks but q and rows of bytes stand -/
def Keeps (q : Nat) (w w' : World) : Prop := Lib.OthersKept 5 (some q) w w'
theorem Row.shape {B : Nat} {l : List UInt8} {v : Value} {w : World} (h : Row B l v w) : ∃ a n c, v = .slice a n c := by
  rcases h.2 with ⟨rfl, _⟩ | ⟨g, cap, cur, rfl, _⟩
  · exact ⟨_, _, _, rfl⟩
  · exact ⟨_, _, _, rfl⟩
/-- a buffer of the call's own: block q, from B on, holds these bytes -/
def Buf (B q : Nat) (l : List UInt8) (w : World) : Prop := ∃ v, B ≤ q ∧ w.heap[q]? = some (.cells #[v] 76 (0, 0)) ∧ Row B l v w
theorem Buf.lt {B q : Nat} {l : List UInt8} {w : World} (h : Buf B q l w) : q < w.heap.size := by
  obtain ⟨v, _, h, _⟩ := h
  rcases Nat.lt_or_ge q w.heap.size with h' | h'
  · exact h'
  · simp [Array.getElem?_eq_none h'] at h
theorem Buf.below {B q : Nat} {l : List UInt8} {w w' : World} (h : Buf B q l w) (hb : Below w.heap.size w w') : Buf B q l w' := by
  have hlt := h.lt
  obtain ⟨v, h0, h1, h2⟩ := h
  exact ⟨v, h0, by rw [hb.block q hlt]; exact h1, h2.below hb⟩
theorem Buf.alloc {B q : Nat} {l : List UInt8} {w : World} (h : Buf B q l w) (o : Obj) : Buf B q l (w.alloc o) := h.below ((Below.refl _ w).alloc (Nat.le_refl _) o)
/-- what was appended is put back -/
theorem Buf.put {B q : Nat} {l m : List UInt8} {w w' : World} {v v' : Value} (hB : B ≤ q) (hq : w.heap[q]? = some (.cells #[v] 76 (0, 0))) (hr : Row B l v w) (hg : w.grownBy w' v.ownBlock) (hr' : Row B m v' w') :
    Buf B q m (w'.setCell ⟨q, 0, none⟩ v') := by
  have hlt : q < w.heap.size := by
    rcases Nat.lt_or_ge q w.heap.size with h' | h'
    · exact h'
    · simp [Array.getElem?_eq_none h'] at hq
  have hne := hr.kind hq (by decide)
  have hq' : w'.heap[q]? = some (.cells #[v] 76 (0, 0)) := by rw [hg.block q hlt (fun e => hne e.symm)]; exact hq
  have hne' := hr'.kind hq' (by decide)
  refine ⟨v', hB, ?_, ?_⟩
  · exact one_setCell hq'
  · exact ownsRow_setCell_other hr' (fun e => hne' e) _
end Go.Proofs.YtfadnhihcobclaaDoor
