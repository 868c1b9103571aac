/- Binds: plain, and in memory. -/
import Derived.Test.YtohdifffdgoaaaaDoorVCheckP
import Derived.Test.YtohdifffdgoaaaaDoorWTable
import Derived.Laws.Closers25b
import Derived.Lib.AtoiErrMem
namespace Go.Proofs.YtohdifffdgoaaaaDoor
open Go.RowKit
open Go.Lib (hid)
namespace V
structure Bind where
  name : ByteArray
  v : Val
def Bind.cells (b : Bind) : List Value := [.string b.name, .int .u8 b.v.k, .int .i64 b.v.n, .bool b.v.b, .string b.v.s]
def Bind.nm (b : Bind) : List UInt8 := b.name.data.toList
def Bind.fine (b : Bind) : Bool := W.nameB b.nm && ok b.v
def rowB : List Bind → List Value
  | [] => []
  | b :: r => b.cells ++ rowB r
theorem rowB_get : ∀ (bs : List Bind) (k : Nat) (h : k < bs.length), (rowB bs)[k * 5]? = some (.string bs[k].name) ∧ (rowB bs)[k * 5 + 1]? = some (.int .u8 bs[k].v.k) ∧ (rowB bs)[k * 5 + 2]? = some (.int .i64 bs[k].v.n) ∧ (rowB bs)[k * 5 + 3]? = some (.bool bs[k].v.b) ∧ (rowB bs)[k * 5 + 4]? = some (.string bs[k].v.s)
  | b :: r, 0, _ => ⟨rfl, rfl, rfl, rfl, rfl⟩
  | b :: r, k + 1, h => by
    have := rowB_get r k (by simp at h; omega)
    simp only [rowB, Bind.cells, List.cons_append, List.nil_append, List.getElem_cons_succ]
    rw [show (k + 1) * 5 = k * 5 + 1 + 1 + 1 + 1 + 1 by omega, show k * 5 + 1 + 1 + 1 + 1 + 1 + 1 = (k * 5 + 1) + 1 + 1 + 1 + 1 + 1 by omega, show k * 5 + 1 + 1 + 1 + 1 + 1 + 2 = (k * 5 + 2) + 1 + 1 + 1 + 1 + 1 by omega, show k * 5 + 1 + 1 + 1 + 1 + 1 + 3 = (k * 5 + 3) + 1 + 1 + 1 + 1 + 1 by omega, show k * 5 + 1 + 1 + 1 + 1 + 1 + 4 = (k * 5 + 4) + 1 + 1 + 1 + 1 + 1 by omega]
    simp only [List.getElem?_cons_succ]
    exact this
theorem rowB_append : ∀ (a b : List Bind), rowB (a ++ b) = rowB a ++ rowB b
  | [], b => rfl
  | p :: a, b => by simp only [List.cons_append, rowB, rowB_append a b, List.append_assoc]
theorem rowB_length : ∀ (a : List Bind), (rowB a).length = a.length * 5
  | [] => rfl
  | p :: a => by simp only [rowB, List.length_append, rowB_length a, List.length_cons, Bind.cells, List.length_nil]; omega
/-- a slice holds these binds -/
def BIn (w : World) (bs : List Bind) (sv : Value) : Prop :=
  (bs = [] ∧ ∃ a c, sv = .slice a 0 c ∧ (a = none → c = 0)) ∨ (0 < bs.length ∧ ∃ b o c, sv = .slice (some ⟨b, o, none⟩) bs.length c ∧ bs.length ≤ c ∧ ∀ j u, (rowB bs)[j]? = some u → w.cell? ⟨b, o + j, none⟩ = some u)
theorem BIn.keep {w w' : World} {bs : List Bind} {sv : Value} (h : BIn w bs sv) (hk : ∀ b o, b < w.heap.size → w'.cell? ⟨b, o, none⟩ = w.cell? ⟨b, o, none⟩) : BIn w' bs sv := by
  rcases h with h | ⟨h0, b, o, c, h1, h2, h3⟩
  · exact Or.inl h
  · refine Or.inr ⟨h0, b, o, c, h1, h2, fun j u hj => ?_⟩
    have := h3 j u hj
    rw [hk b _ (Lib.lt_of_cell this)]; exact this
theorem BIn.below {w w' : World} {bs : List Bind} {sv : Value} (h : BIn w bs sv) (hb : Below w.heap.size w w') : BIn w' bs sv :=
  h.keep fun b o hlt => hb.cell (p := ⟨b, o, none⟩) hlt
theorem BIn.shape {w : World} {bs : List Bind} {sv : Value} (h : BIn w bs sv) : ∃ a c, sv = .slice a bs.length c := by
  rcases h with ⟨rfl, a, c, h, _⟩ | ⟨_, b, o, c, h, _⟩
  · exact ⟨a, c, h⟩
  · exact ⟨_, c, h⟩
theorem BIn.cells {w : World} {bs : List Bind} {sv : Value} (h : BIn w bs sv) {k : Nat} (hk : k < bs.length) : ∃ b o c, sv = .slice (some ⟨b, o, none⟩) bs.length c ∧ b < w.heap.size ∧
    w.cell? ⟨b, o + k * 5, none⟩ = some (.string bs[k].name) ∧ w.cell? ⟨b, o + k * 5 + 1, none⟩ = some (.int .u8 bs[k].v.k) ∧ w.cell? ⟨b, o + k * 5 + 2, none⟩ = some (.int .i64 bs[k].v.n) ∧ w.cell? ⟨b, o + k * 5 + 3, none⟩ = some (.bool bs[k].v.b) ∧ w.cell? ⟨b, o + k * 5 + 4, none⟩ = some (.string bs[k].v.s) := by
  rcases h with ⟨rfl, _⟩ | ⟨_, b, o, c, h, _, hc⟩
  · simp at hk
  · obtain ⟨d0, d1, d2, d3, d4⟩ := rowB_get bs k hk
    exact ⟨b, o, c, h, Lib.lt_of_cell (hc _ _ d0), hc _ _ d0, hc _ _ d1, hc _ _ d2, hc _ _ d3, hc _ _ d4⟩
/-- a slice of the call's own that holds these binds -/
def BOwn (B : Nat) (bs : List Bind) (v : Value) (w : World) : Prop := w.ownsRow B 43 5 v bs.length (rowB bs)
theorem BOwn.nil (B : Nat) (w : World) : BOwn B [] (.slice none 0 0) w := ⟨rfl, Or.inl ⟨rfl, rfl⟩⟩
theorem BOwn.is {B : Nat} {bs : List Bind} {v : Value} {w : World} (h : BOwn B bs v w) : BIn w bs v := by
  have hc := fun g (hg : v.ownBlock = some g) => World.ownsRow.cells h hg
  rcases h.2 with ⟨rfl, h0⟩ | ⟨g, cap, cur, rfl, _, _, hcap, _⟩
  · exact Or.inl ⟨List.eq_nil_of_length_eq_zero h0, none, 0, rfl, fun _ => rfl⟩
  · rcases Nat.eq_zero_or_pos bs.length with h0 | h0
    · rw [h0]
      exact Or.inl ⟨List.eq_nil_of_length_eq_zero h0, _, cap, rfl, fun h => by cases h⟩
    · exact Or.inr ⟨h0, g, 0, cap, rfl, hcap, fun j u hj => by
        rw [Nat.zero_add]
        have e : (⟨g, 0, none⟩ : Addr).add j = ⟨g, j, none⟩ := by cases j <;> simp [Addr.add]
        rw [← e]; exact hc g rfl j u hj⟩
theorem BOwn.below {B : Nat} {bs : List Bind} {v : Value} {w w' : World} (h : BOwn B bs v w) (hb : Below w.heap.size w w') : BOwn B bs v w' :=
  World.ownsRow.kept (row := none) h ⟨hb.os, hb.tape, hb.output, hb.size, fun k hk _ => hb.block k hk⟩ (Classical.em _)
theorem BOwn.form {B : Nat} {bs : List Bind} {v : Value} {w : World} (h : BOwn B bs v w) : (v = .slice none 0 0 ∧ bs = []) ∨ ∃ g cap, v = .slice (some ⟨g, 0, none⟩) bs.length cap ∧ bs.length ≤ cap ∧ B ≤ g := by
  rcases h.2 with ⟨rfl, h0⟩ | ⟨g, cap, cur, rfl, hg, _, hcap, _⟩
  · exact Or.inl ⟨rfl, List.eq_nil_of_length_eq_zero h0⟩
  · exact Or.inr ⟨g, cap, rfl, hcap, hg⟩
/-- may binds be? behind the names that were seen: 0, or the error -/
def checkFrom (seen : List (List UInt8)) : List Bind → Int
  | [] => 0
  | b :: r => if b.fine = false then 1 else if b.nm ∈ seen then 6 else checkFrom (seen ++ [b.nm]) r
def checkB (bs : List Bind) : Int := checkFrom [] bs
end V
end Go.Proofs.YtohdifffdgoaaaaDoor
