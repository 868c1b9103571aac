/- Elements in memory: read, and in rows of the call's own. -/
import Derived.Test.YtakplnceiibmlaaGreatDoorMPlace
import Derived.Test.YtakplnceiibmlaaGreatDoorJBld
namespace Go.Proofs.YtakplnceiibmlaaGreatDoor
open Go.RowKit
open Go.Lib (hid)
namespace X
/-- a slice holds these attributes; its block is among P -/
def AIn (w : World) (P : Nat → Prop) (al : List A) (v : Value) : Prop :=
  (al = [] ∧ ∃ a c, v = .slice a 0 c ∧ (a = none → c = 0)) ∨ (0 < al.length ∧ ∃ b o c, v = .slice (some ⟨b, o, none⟩) al.length c ∧ P b ∧ al.length ≤ c ∧ ∀ j u, (attrsC al)[j]? = some u → w.cell? ⟨b, o + j, none⟩ = some u)
theorem AIn.keep {P Q : Nat → Prop} {w w' : World} (hP : ∀ b, P b → Q b) (h : ∀ b, P b → w'.heap[b]? = w.heap[b]?) {al : List A} {v : Value} (hv : AIn w P al v) : AIn w' Q al v := by
  rcases hv with hv | ⟨h0, b, o, c, hv, hb, hc, ha⟩
  · exact Or.inl hv
  · exact Or.inr ⟨h0, b, o, c, hv, hP b hb, hc, fun j x hj => by rw [World.cell?_of_block (w := w) (h b hb)]; exact ha j x hj⟩
theorem AIn.shape {P : Nat → Prop} {w : World} {al : List A} {v : Value} (h : AIn w P al v) : ∃ a c, v = .slice a al.length c := by
  rcases h with ⟨rfl, a, c, h, _⟩ | ⟨_, b, o, c, h, _⟩
  · exact ⟨a, c, h⟩
  · exact ⟨_, c, h⟩
/-- these elements stand in this block from this place on; their blocks are among P -/
def N.At (w : World) (P : Nat → Prop) : N → Nat → Nat → Prop
  | .nil, _, _ => True
  | .cons sp lo al ks tx ln cl r, g, o => P g ∧ w.cell? ⟨g, o, none⟩ = some (.string sp) ∧ w.cell? ⟨g, o + 1, none⟩ = some (.string lo) ∧ (∃ v, w.cell? ⟨g, o + 2, none⟩ = some v ∧ AIn w P al v) ∧
      (∃ v, w.cell? ⟨g, o + 3, none⟩ = some v ∧ ((ks = .nil ∧ ∃ a c, v = .slice a 0 c ∧ (a = none → c = 0)) ∨ ∃ g' o' c, v = .slice (some ⟨g', o', none⟩) ks.length c ∧ ks.length ≤ c ∧ 0 < ks.length ∧ ks.At w P g' o')) ∧
      w.cell? ⟨g, o + 4, none⟩ = some (.string tx) ∧ w.cell? ⟨g, o + 5, none⟩ = some (.int .i64 ln) ∧ w.cell? ⟨g, o + 6, none⟩ = some (.int .i64 cl) ∧ r.At w P g (o + 7)
/-- a slice holds these elements -/
def N.In (w : World) (P : Nat → Prop) (t : N) (v : Value) : Prop :=
  (t = .nil ∧ ∃ a c, v = .slice a 0 c ∧ (a = none → c = 0)) ∨ ∃ g o c, v = .slice (some ⟨g, o, none⟩) t.length c ∧ t.length ≤ c ∧ 0 < t.length ∧ t.At w P g o
theorem N.At.keep {P Q : Nat → Prop} {w w' : World} (hP : ∀ b, P b → Q b) (h : ∀ b, P b → w'.heap[b]? = w.heap[b]?) : ∀ (t : N) (g o : Nat), t.At w P g o → t.At w' Q g o
  | .nil, _, _, _ => trivial
  | .cons sp lo al ks tx ln cl r, g, o, ⟨hg, h0, h1, ⟨u, h2, hu⟩, ⟨v, h3, hv⟩, h4, h5, h6, hr⟩ => by
    have hc : ∀ i, w'.cell? ⟨g, i, none⟩ = w.cell? ⟨g, i, none⟩ := fun i => World.cell?_of_block (w := w) (h g hg)
    refine ⟨hP g hg, ?_, ?_, ⟨u, ?_, hu.keep hP h⟩, ⟨v, ?_, ?_⟩, ?_, ?_, ?_, N.At.keep hP h r g (o + 7) hr⟩
    · rw [hc]; exact h0
    · rw [hc]; exact h1
    · rw [hc]; exact h2
    · rw [hc]; exact h3
    · rcases hv with hv | ⟨g', o', c, hv, hl, hp, ha⟩
      · exact Or.inl hv
      · exact Or.inr ⟨g', o', c, hv, hl, hp, N.At.keep hP h ks g' o' ha⟩
    · rw [hc]; exact h4
    · rw [hc]; exact h5
    · rw [hc]; exact h6
theorem N.In.keep {P Q : Nat → Prop} {w w' : World} (hP : ∀ b, P b → Q b) (h : ∀ b, P b → w'.heap[b]? = w.heap[b]?) {t : N} {v : Value} (hv : t.In w P v) : t.In w' Q v := by
  rcases hv with hv | ⟨g, o, c, hv, hl, hp, ha⟩
  · exact Or.inl hv
  · exact Or.inr ⟨g, o, c, hv, hl, hp, N.At.keep hP h t g o ha⟩
theorem N.In.shape {P : Nat → Prop} {w : World} {t : N} {v : Value} (h : t.In w P v) : ∃ a c, v = .slice a t.length c := by
  rcases h with ⟨rfl, a, c, h, _⟩ | ⟨g, o, c, h, _⟩
  · exact ⟨a, c, h⟩
  · exact ⟨_, c, h⟩
/-- the cells of one element, what hangs on it among P -/
def E.Has (w : World) (P : Nat → Prop) (x : E) (cs : List Value) : Prop := ∃ av kv, cs = [.string x.sp, .string x.lo, av, kv, .string x.tx, .int .i64 x.ln, .int .i64 x.cl] ∧ AIn w P (E.as x) av ∧ x.ks.In w P kv
theorem E.Has.keep {P Q : Nat → Prop} {w w' : World} (hP : ∀ b, P b → Q b) (h : ∀ b, P b → w'.heap[b]? = w.heap[b]?) {x : E} {cs : List Value} (hv : x.Has w P cs) : x.Has w' Q cs := by
  obtain ⟨av, kv, h1, h2, h3⟩ := hv
  exact ⟨av, kv, h1, h2.keep hP h, h3.keep hP h⟩
/-- the cells of elements in a row -/
def N.Cells (w : World) (P : Nat → Prop) : N → List Value → Prop
  | .nil, cs => cs = []
  | .cons sp lo al ks tx ln cl r, cs => ∃ av kv cs', cs = .string sp :: .string lo :: av :: kv :: .string tx :: .int .i64 ln :: .int .i64 cl :: cs' ∧ AIn w P al av ∧ ks.In w P kv ∧ r.Cells w P cs'
theorem N.Cells.keep {P Q : Nat → Prop} {w w' : World} (hP : ∀ b, P b → Q b) (h : ∀ b, P b → w'.heap[b]? = w.heap[b]?) : ∀ (t : N) (cs : List Value), t.Cells w P cs → t.Cells w' Q cs
  | .nil, _, hc => hc
  | .cons _ _ _ _ _ _ _ r, _, ⟨av, kv, cs', he, hl, hn, hr⟩ => ⟨av, kv, cs', he, hl.keep hP h, hn.keep hP h, N.Cells.keep hP h r cs' hr⟩
theorem N.Cells.app {P : Nat → Prop} {w : World} : ∀ (a b : N) (cs ds : List Value), a.Cells w P cs → b.Cells w P ds → (a.app b).Cells w P (cs ++ ds)
  | .nil, b, cs, ds, hc, hd => by
    rw [show cs = [] from hc]
    exact hd
  | .cons _ _ _ _ _ _ _ r, b, _, ds, ⟨av, kv, cs', he, hl, hn, hr⟩, hd => ⟨av, kv, cs' ++ ds, by rw [he]; rfl, hl, hn, N.Cells.app r b cs' ds hr hd⟩
theorem N.Cells.one {P : Nat → Prop} {w : World} {x : E} {cs : List Value} (h : x.Has w P cs) : x.one.Cells w P cs := by
  obtain ⟨av, kv, rfl, h2, h3⟩ := h
  exact ⟨av, kv, [], rfl, h2, h3, rfl⟩
theorem N.Cells.at {P : Nat → Prop} {w : World} {g : Nat} (hg : P g) : ∀ (t : N) (cs : List Value) (o : Nat), t.Cells w P cs → (∀ j u, cs[j]? = some u → w.cell? ⟨g, o + j, none⟩ = some u) → t.At w P g o
  | .nil, _, _, _, _ => trivial
  | .cons sp lo al ks tx ln cl r, cs, o, ⟨av, kv, cs', he, hl, hn, hr⟩, hc => by
    subst he
    refine ⟨hg, hc 0 _ rfl, hc 1 _ rfl, ⟨av, hc 2 _ rfl, hl⟩, ⟨kv, hc 3 _ rfl, ?_⟩, hc 4 _ rfl, hc 5 _ rfl, hc 6 _ rfl, N.Cells.at hg r cs' (o + 7) hr (fun j u hj => ?_)⟩
    · rcases hn with hn | ⟨g', o', c, hv, h1, h2, h3⟩
      · exact Or.inl hn
      · exact Or.inr ⟨g', o', c, hv, h1, h2, h3⟩
    · have := hc (j + 7) u (by simpa using hj)
      rw [show o + 7 + j = o + (j + 7) by omega]
      exact this
theorem N.len0 {t : N} (h : t.length = 0) : t = .nil := by
  cases t with
  | nil => rfl
  | cons => simp [N.length] at h
end X
/-- what lies from B on in rows that may be written, none of bytes, but for one block -/
def OwnN (w : World) (B : Nat) (g0 : Option Nat) (b : Nat) : Prop := B ≤ b ∧ b < w.heap.size ∧ g0 ≠ some b ∧ ∃ cs T, w.heap[b]? = some (.cells cs T (0, 0)) ∧ T ≠ 5
/-- what is kept of such blocks -/
def KeepN (w w' : World) (B : Nat) : Prop := w.heap.size ≤ w'.heap.size ∧ ∀ b cs T, B ≤ b → w.heap[b]? = some (.cells cs T (0, 0)) → T ≠ 5 → w'.heap[b]? = some (.cells cs T (0, 0))
theorem KeepN.below {w w' : World} (hb : Below w.heap.size w w') (B : Nat) : KeepN w w' B := ⟨hb.size, fun b _ _ _ h _ => (hb.block b (Go.lt_of_block h)).trans h⟩
theorem KeepN.grown {w w' : World} {R B : Nat} (g : w.grownBy w' (some R)) (hR : R < B) : KeepN w w' B := ⟨g.size, fun b _ _ hB h _ => (g.block b (Go.lt_of_block h) (fun e => by have := Option.some.inj e; omega)).trans h⟩
theorem KeepN.bytes {w w' : World} {b B : Nat} (k : Kept b w w') (hs : w.heap.size ≤ w'.heap.size) (hb : b < B) : KeepN w w' B :=
  ⟨hs, fun c cs T hB h hT => k c _ h (fun e => by have := Option.some.inj e; omega) (fun _ _ e => hT (by injection e))⟩
theorem OwnN.keep {w w' : World} {B : Nat} {g0 : Option Nat} {b : Nat} (h : OwnN w B g0 b) (k : KeepN w w' B) : OwnN w' B g0 b ∧ w'.heap[b]? = w.heap[b]? := by
  obtain ⟨h1, h2, h3, cs, T, h4, h5⟩ := h
  have h6 := k.2 b cs T h1 h4 h5
  exact ⟨⟨h1, Nat.lt_of_lt_of_le h2 k.1, h3, cs, T, h6, h5⟩, h6.trans h4.symm⟩
/-- a row of the call's own, from block B on, holds these elements; what hangs on them is of the call's own too, and apart from the row -/
def KOwn (B : Nat) (t : X.N) (v : Value) (w : World) : Prop := ∃ cs, w.ownsRow B 28 7 v t.length cs ∧ t.Cells w (OwnN w B v.ownBlock) cs
theorem KOwn.nil (B : Nat) (w : World) : KOwn B .nil (.slice none 0 0) w := ⟨[], World.ownsRow_nil _ _ _ _, rfl⟩
theorem KOwn.keep {B : Nat} {t : X.N} {v : Value} {w w' : World} (h : KOwn B t v w) (k : KeepN w w' B) : KOwn B t v w' := by
  obtain ⟨cs, h1, h2⟩ := h
  refine ⟨cs, ⟨h1.1, ?_⟩, X.N.Cells.keep (fun b hb => (hb.keep k).1) (fun b hb => (hb.keep k).2) t cs h2⟩
  rcases h1.2 with h | ⟨g, cap, cur, hv, hB, hg, hr⟩
  · exact Or.inl h
  · exact Or.inr ⟨g, cap, cur, hv, hB, k.2 g _ _ hB hg (by decide), hr⟩
theorem KOwn.lt {B : Nat} {t : X.N} {v : Value} {w : World} (h : KOwn B t v w) : ∀ k, v.ownBlock = some k → B ≤ k ∧ k < w.heap.size := by
  obtain ⟨cs, h1, _⟩ := h
  exact World.ownsRow.lt h1
theorem KOwn.shape {B : Nat} {t : X.N} {v : Value} {w : World} (h : KOwn B t v w) : ∃ a c, v = .slice a t.length c := by
  obtain ⟨cs, h1, _⟩ := h
  rcases h1.2 with ⟨rfl, h0⟩ | ⟨g, cap, cur, rfl, _⟩
  · exact ⟨none, 0, by rw [h0]⟩
  · exact ⟨_, _, rfl⟩
/-- it reads as these elements -/
theorem KOwn.is {B : Nat} {t : X.N} {v : Value} {w : World} (h : KOwn B t v w) : t.In w (OwnN w B none) v := by
  obtain ⟨cs, h1, h2⟩ := h
  have hlt := World.ownsRow.lt h1
  have hc := fun g (hg : v.ownBlock = some g) => World.ownsRow.cells h1 hg
  rcases h1.2 with ⟨rfl, h0⟩ | ⟨g, cap, cur, rfl, _, hgr, hcap, _⟩
  · exact Or.inl ⟨X.N.len0 h0, none, 0, rfl, fun _ => rfl⟩
  · rcases Nat.eq_zero_or_pos t.length with h0 | h0
    · exact Or.inl ⟨X.N.len0 h0, _, cap, by rw [h0], fun h => by cases h⟩
    · refine Or.inr ⟨g, 0, cap, rfl, hcap, h0, ?_⟩
      refine X.N.Cells.at (P := OwnN w B none) ⟨(hlt g rfl).1, (hlt g rfl).2, (fun e => by cases e), _, _, hgr, by decide⟩ t cs 0 (X.N.Cells.keep (fun b hb => ⟨hb.1, hb.2.1, (fun e => by cases e), hb.2.2.2⟩) (fun _ _ => rfl) t cs h2) (fun j u hj => ?_)
      have := hc g rfl j u hj
      have e : (⟨g, 0, none⟩ : Addr).add j = ⟨g, j, none⟩ := by cases j <;> simp [Addr.add]
      rw [e] at this
      rw [Nat.zero_add]; exact this
/-- one element more -/
theorem KOwn.more {B : Nat} {t : X.N} {v v' : Value} {w w' : World} {x : X.E} {new cs : List Value} (hx : x.Has w (OwnN w B v.ownBlock) new) (hcs : t.Cells w (OwnN w B v.ownBlock) cs)
    (hown : w'.ownsRow B 28 7 v' (t.length + 1) (cs ++ new)) (hgrow : w.grownBy w' v.ownBlock) (hat : ∀ b, v'.ownBlock = some b → v.ownBlock = some b ∨ w.heap.size ≤ b) : KOwn B (t.snoc x) v' w' := by
  have hl := X.N.snoc_length t x
  refine ⟨_, by rw [hl]; exact hown, ?_⟩
  have hs := hgrow.size
  refine X.N.Cells.keep (P := OwnN w B v.ownBlock) ?_ (fun b hb => hgrow.block b hb.2.1 (fun e => hb.2.2.1 e.symm)) _ _ (X.N.Cells.app t x.one cs new hcs (X.N.Cells.one hx))
  rintro b ⟨h1, h2, h3, cs', T, h4, h5⟩
  refine ⟨h1, by omega, ?_, cs', T, by rw [hgrow.block b h2 (fun e => h3 e.symm)]; exact h4, h5⟩
  intro e
  rcases hat b e with hat | hat
  · exact h3 hat
  · omega
/-- attributes in a row of the call's own read as such -/
theorem AOwn.is {B : Nat} {al : List X.A} {v : Value} {w : World} (h : AOwn B al v w) : X.AIn w (OwnN w B none) al v := by
  have hlt := World.ownsRow.lt h
  have hc := fun g (hg : v.ownBlock = some g) => World.ownsRow.cells h hg
  rcases h.2 with ⟨rfl, h0⟩ | ⟨g, cap, cur, rfl, _, hgr, hcap, _⟩
  · exact Or.inl ⟨List.eq_nil_of_length_eq_zero h0, none, 0, rfl, fun _ => rfl⟩
  · rcases Nat.eq_zero_or_pos al.length with h0 | h0
    · exact Or.inl ⟨List.eq_nil_of_length_eq_zero h0, _, cap, by rw [h0], fun h => by cases h⟩
    · refine Or.inr ⟨h0, g, 0, cap, rfl, ⟨(hlt g rfl).1, (hlt g rfl).2, (fun e => by cases e), _, _, hgr, by decide⟩, hcap, fun j u hj => ?_⟩
      have := hc g rfl j u hj
      have e : (⟨g, 0, none⟩ : Addr).add j = ⟨g, j, none⟩ := by cases j <;> simp [Addr.add]
      rw [e] at this
      rw [Nat.zero_add]; exact this
end Go.Proofs.YtakplnceiibmlaaGreatDoor
