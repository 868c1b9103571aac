/- Rows of binds, elements, flows; copied, held against each other. -/
import Derived.Test.YteejphiklpnjhaaGreatDoorOEqM
import Derived.Lib.SliceRun
import Derived.Laws.AppendOwn
import Derived.WalkSpells
import Derived.Deep.QuietTactic
import Derived.BigQuiet
namespace Go.Proofs.YteejphiklpnjhaaGreatDoor
set_option maxRecDepth 100000
set_option maxHeartbeats 16000000
open Go.RowKit Go.Maps
open Go.Lib (hid)
theorem Bd.len (x : Bd) : x.cells.length = 5 := rfl
def rowB : List Bd → List Value
 | [] => []
 | x :: r => x.cells ++ rowB r
theorem rowB_len : ∀ l : List Bd, (rowB l).length = l.length * 5
 | [] => rfl
 | x :: r => by unfold rowB; rw [List.length_append, rowB_len r, Bd.len, List.length_cons]; omega
theorem rowB_get : ∀ (l : List Bd) (i : Nat) (x : Bd), l[i]? = some x → ∀ (j : Nat) (u : Value), x.cells[j]? = some u → (rowB l)[i * 5 + j]? = some u
 | [], i, x, h, _, _, _ => by simp at h
 | y :: r, 0, x, h, j, u, hj => by
   obtain rfl : y = x := by simpa using h
   have hlt : j < 5 := by have := (List.getElem?_eq_some_iff.1 hj).1; rw [Bd.len] at this; exact this
   unfold rowB
   rw [List.getElem?_append_left (by rw [Bd.len]; omega), Nat.zero_mul, Nat.zero_add]
   exact hj
 | y :: r, i + 1, x, h, j, u, hj => by
   unfold rowB
   rw [List.getElem?_append_right (by rw [Bd.len]; omega), Bd.len, show (i + 1) * 5 + j - 5 = i * 5 + j by omega]
   exact rowB_get r i x (by simpa using h) j u hj
theorem rowB_one : ∀ (l : List Bd), ∀ u ∈ rowB l, u.oneCell' = true
 | [], u, h => by simp [rowB] at h
 | x :: r, u, h => by
   unfold rowB at h
   rcases List.mem_append.1 h with h | h
   · simp only [Bd.cells, List.mem_cons, List.not_mem_nil, or_false] at h
     rcases h with rfl | rfl | rfl | rfl | rfl <;> rfl
   · exact rowB_one r u h
theorem infoBs : (Tryz.prog.info? 51).map (fun i => (i.zero, i.size, i.bytes)) = some (some (.agg #[.string ⟨#[]⟩, .int .u8 0, .int .i64 0, .bool false, .string ⟨#[]⟩]), 5, 56) := by kernel_rfl
def InB (w : World) (l : List Bd) (v : Value) : Prop :=
 (l = [] ∧ ∃ a c, v = .slice a 0 c ∧ (a = none → c = 0)) ∨ (0 < l.length ∧ ∃ b o c, v = .slice (some ⟨b, o, none⟩) l.length c ∧ l.length ≤ c ∧ b < w.heap.size ∧ ∀ j u, (rowB l)[j]? = some u → w.cell? ⟨b, o + j, none⟩ = some u)
theorem InB.below {w w' : World} {l : List Bd} {v : Value} (h : InB w l v) (hb : Below w.heap.size w w') : InB w' l v := by
 rcases h with h | ⟨h0, b, o, c, h1, h2, h3, h4⟩
 · exact Or.inl h
 · exact Or.inr ⟨h0, b, o, c, h1, h2, Nat.lt_of_lt_of_le h3 hb.size, fun j u hj => (hb.cell (p := ⟨b, o + j, none⟩) h3).trans (h4 j u hj)⟩
theorem InB.shape {w : World} {l : List Bd} {v : Value} (h : InB w l v) : ∃ a c, v = .slice a l.length c := by
 rcases h with ⟨rfl, a, c, h, _⟩ | ⟨_, b, o, c, h, _⟩
 · exact ⟨a, c, h⟩
 · exact ⟨_, c, h⟩
theorem InB.own {w : World} {B : Nat} {l : List Bd} {v : Value} (h : w.ownsRow B 51 5 v l.length (rowB l)) : InB w l v := by
 have hc := fun g (hg : v.ownBlock = some g) => World.ownsRow.cells h hg
 rcases h.2 with ⟨rfl, h0⟩ | ⟨g, cap, cur, rfl, hB, hg, hcap, _⟩
 · exact Or.inl ⟨List.eq_nil_of_length_eq_zero h0, none, 0, rfl, fun _ => rfl⟩
 · rcases Nat.eq_zero_or_pos l.length with h0 | h0
   · rw [h0]
     exact Or.inl ⟨List.eq_nil_of_length_eq_zero h0, _, cap, rfl, fun h => by cases h⟩
   · refine Or.inr ⟨h0, g, 0, cap, rfl, hcap, Go.lt_of_block hg, fun j u hu => ?_⟩
     have := hc g rfl j u hu
     have e : (⟨g, 0, none⟩ : Addr).add j = ⟨g, 0 + j, none⟩ := by unfold Addr.add; split <;> simp_all
     rw [e] at this
     exact this
theorem InB.keep {w w' : World} {B : Nat} {l : List Bd} {v : Value} (h : w.ownsRow B 51 5 v l.length (rowB l)) (hs : w.heap.size ≤ w'.heap.size) (hk : ∀ g, v.ownBlock = some g → w'.heap[g]? = w.heap[g]?) : InB w' l v := by
 have h1 : InB w l v := InB.own h
 rcases h1 with h1 | ⟨h0, b, o, c, h1, h2, h3, h4⟩
 · exact Or.inl h1
 · subst h1
   have hb := hk b (by
    rcases h.2 with ⟨h, _⟩ | ⟨g, cap, cur, h, _⟩
    · cases h
    · simp only [Value.slice.injEq, Option.some.injEq, Addr.mk.injEq] at h
      obtain ⟨⟨rfl, rfl, _⟩, _⟩ := h
      rfl)
   exact Or.inr ⟨h0, b, o, c, rfl, h2, Nat.lt_of_lt_of_le h3 hs, fun j u hj => by rw [World.cell?_of_block (w := w) (a := ⟨b, o + j, none⟩) hb]; exact h4 j u hj⟩
theorem InB.at {w : World} {l : List Bd} {a : Option Addr} {n c : Nat} (h : InB w l (.slice a n c)) {i : Nat} (hi : i < l.length) : ∃ b o x, a = some ⟨b, o, none⟩ ∧ b < w.heap.size ∧ n ≤ c ∧ n = l.length ∧ l[i]? = some x ∧ ∀ j u, x.cells[j]? = some u → w.cell? ⟨b, o + i * 5 + j, none⟩ = some u := by
 rcases h with ⟨rfl, _⟩ | ⟨h0, b, o, c', h1, h2, h3, h4⟩
 · simp at hi
 · simp only [Value.slice.injEq] at h1
   obtain ⟨rfl, rfl, rfl⟩ := h1
   exact ⟨b, o, l[i], rfl, h3, h2, rfl, List.getElem?_eq_getElem hi, fun j u hj => by rw [Nat.add_assoc]; exact h4 _ u (rowB_get l i _ (List.getElem?_eq_getElem hi) j u hj)⟩
theorem Em.len (x : Em) : x.cells.length = 11 := rfl
def rowE : List Em → List Value
 | [] => []
 | x :: r => x.cells ++ rowE r
theorem rowE_len : ∀ l : List Em, (rowE l).length = l.length * 11
 | [] => rfl
 | x :: r => by unfold rowE; rw [List.length_append, rowE_len r, Em.len, List.length_cons]; omega
theorem rowE_get : ∀ (l : List Em) (i : Nat) (x : Em), l[i]? = some x → ∀ (j : Nat) (u : Value), x.cells[j]? = some u → (rowE l)[i * 11 + j]? = some u
 | [], i, x, h, _, _, _ => by simp at h
 | y :: r, 0, x, h, j, u, hj => by
   obtain rfl : y = x := by simpa using h
   have hlt : j < 11 := by have := (List.getElem?_eq_some_iff.1 hj).1; rw [Em.len] at this; exact this
   unfold rowE
   rw [List.getElem?_append_left (by rw [Em.len]; omega), Nat.zero_mul, Nat.zero_add]
   exact hj
 | y :: r, i + 1, x, h, j, u, hj => by
   unfold rowE
   rw [List.getElem?_append_right (by rw [Em.len]; omega), Em.len, show (i + 1) * 11 + j - 11 = i * 11 + j by omega]
   exact rowE_get r i x (by simpa using h) j u hj
theorem rowE_one : ∀ (l : List Em), ∀ u ∈ rowE l, u.oneCell' = true
 | [], u, h => by simp [rowE] at h
 | x :: r, u, h => by
   unfold rowE at h
   rcases List.mem_append.1 h with h | h
   · simp only [Em.cells, List.mem_cons, List.not_mem_nil, or_false] at h
     rcases h with rfl | rfl | rfl | rfl | rfl | rfl | rfl | rfl | rfl | rfl | rfl <;> rfl
   · exact rowE_one r u h
theorem infoEs : (Tryz.prog.info? 36).map (fun i => (i.zero, i.size, i.bytes)) = some (some (.agg #[.string ⟨#[]⟩, .string ⟨#[]⟩, .int .u8 0, .string ⟨#[]⟩, .string ⟨#[]⟩, .string ⟨#[]⟩, .int .u8 0, .string ⟨#[]⟩, .string ⟨#[]⟩, .int .i64 0, .int .i64 0]), 11, 144) := by kernel_rfl
def InE (w : World) (l : List Em) (v : Value) : Prop :=
 (l = [] ∧ ∃ a c, v = .slice a 0 c ∧ (a = none → c = 0)) ∨ (0 < l.length ∧ ∃ b o c, v = .slice (some ⟨b, o, none⟩) l.length c ∧ l.length ≤ c ∧ b < w.heap.size ∧ ∀ j u, (rowE l)[j]? = some u → w.cell? ⟨b, o + j, none⟩ = some u)
theorem InE.below {w w' : World} {l : List Em} {v : Value} (h : InE w l v) (hb : Below w.heap.size w w') : InE w' l v := by
 rcases h with h | ⟨h0, b, o, c, h1, h2, h3, h4⟩
 · exact Or.inl h
 · exact Or.inr ⟨h0, b, o, c, h1, h2, Nat.lt_of_lt_of_le h3 hb.size, fun j u hj => (hb.cell (p := ⟨b, o + j, none⟩) h3).trans (h4 j u hj)⟩
theorem InE.shape {w : World} {l : List Em} {v : Value} (h : InE w l v) : ∃ a c, v = .slice a l.length c := by
 rcases h with ⟨rfl, a, c, h, _⟩ | ⟨_, b, o, c, h, _⟩
 · exact ⟨a, c, h⟩
 · exact ⟨_, c, h⟩
theorem InE.own {w : World} {B : Nat} {l : List Em} {v : Value} (h : w.ownsRow B 36 11 v l.length (rowE l)) : InE w l v := by
 have hc := fun g (hg : v.ownBlock = some g) => World.ownsRow.cells h hg
 rcases h.2 with ⟨rfl, h0⟩ | ⟨g, cap, cur, rfl, hB, hg, hcap, _⟩
 · exact Or.inl ⟨List.eq_nil_of_length_eq_zero h0, none, 0, rfl, fun _ => rfl⟩
 · rcases Nat.eq_zero_or_pos l.length with h0 | h0
   · rw [h0]
     exact Or.inl ⟨List.eq_nil_of_length_eq_zero h0, _, cap, rfl, fun h => by cases h⟩
   · refine Or.inr ⟨h0, g, 0, cap, rfl, hcap, Go.lt_of_block hg, fun j u hu => ?_⟩
     have := hc g rfl j u hu
     have e : (⟨g, 0, none⟩ : Addr).add j = ⟨g, 0 + j, none⟩ := by unfold Addr.add; split <;> simp_all
     rw [e] at this
     exact this
theorem InE.keep {w w' : World} {B : Nat} {l : List Em} {v : Value} (h : w.ownsRow B 36 11 v l.length (rowE l)) (hs : w.heap.size ≤ w'.heap.size) (hk : ∀ g, v.ownBlock = some g → w'.heap[g]? = w.heap[g]?) : InE w' l v := by
 have h1 : InE w l v := InE.own h
 rcases h1 with h1 | ⟨h0, b, o, c, h1, h2, h3, h4⟩
 · exact Or.inl h1
 · subst h1
   have hb := hk b (by
    rcases h.2 with ⟨h, _⟩ | ⟨g, cap, cur, h, _⟩
    · cases h
    · simp only [Value.slice.injEq, Option.some.injEq, Addr.mk.injEq] at h
      obtain ⟨⟨rfl, rfl, _⟩, _⟩ := h
      rfl)
   exact Or.inr ⟨h0, b, o, c, rfl, h2, Nat.lt_of_lt_of_le h3 hs, fun j u hj => by rw [World.cell?_of_block (w := w) (a := ⟨b, o + j, none⟩) hb]; exact h4 j u hj⟩
theorem InE.at {w : World} {l : List Em} {a : Option Addr} {n c : Nat} (h : InE w l (.slice a n c)) {i : Nat} (hi : i < l.length) : ∃ b o x, a = some ⟨b, o, none⟩ ∧ b < w.heap.size ∧ n ≤ c ∧ n = l.length ∧ l[i]? = some x ∧ ∀ j u, x.cells[j]? = some u → w.cell? ⟨b, o + i * 11 + j, none⟩ = some u := by
 rcases h with ⟨rfl, _⟩ | ⟨h0, b, o, c', h1, h2, h3, h4⟩
 · simp at hi
 · simp only [Value.slice.injEq] at h1
   obtain ⟨rfl, rfl, rfl⟩ := h1
   exact ⟨b, o, l[i], rfl, h3, h2, rfl, List.getElem?_eq_getElem hi, fun j u hj => by rw [Nat.add_assoc]; exact h4 _ u (rowE_get l i _ (List.getElem?_eq_getElem hi) j u hj)⟩
theorem Fw.len (x : Fw) : x.cells.length = 4 := rfl
def rowF : List Fw → List Value
 | [] => []
 | x :: r => x.cells ++ rowF r
theorem rowF_len : ∀ l : List Fw, (rowF l).length = l.length * 4
 | [] => rfl
 | x :: r => by unfold rowF; rw [List.length_append, rowF_len r, Fw.len, List.length_cons]; omega
theorem rowF_get : ∀ (l : List Fw) (i : Nat) (x : Fw), l[i]? = some x → ∀ (j : Nat) (u : Value), x.cells[j]? = some u → (rowF l)[i * 4 + j]? = some u
 | [], i, x, h, _, _, _ => by simp at h
 | y :: r, 0, x, h, j, u, hj => by
   obtain rfl : y = x := by simpa using h
   have hlt : j < 4 := by have := (List.getElem?_eq_some_iff.1 hj).1; rw [Fw.len] at this; exact this
   unfold rowF
   rw [List.getElem?_append_left (by rw [Fw.len]; omega), Nat.zero_mul, Nat.zero_add]
   exact hj
 | y :: r, i + 1, x, h, j, u, hj => by
   unfold rowF
   rw [List.getElem?_append_right (by rw [Fw.len]; omega), Fw.len, show (i + 1) * 4 + j - 4 = i * 4 + j by omega]
   exact rowF_get r i x (by simpa using h) j u hj
theorem rowF_one : ∀ (l : List Fw), ∀ u ∈ rowF l, u.oneCell' = true
 | [], u, h => by simp [rowF] at h
 | x :: r, u, h => by
   unfold rowF at h
   rcases List.mem_append.1 h with h | h
   · simp only [Fw.cells, List.mem_cons, List.not_mem_nil, or_false] at h
     rcases h with rfl | rfl | rfl | rfl <;> rfl
   · exact rowF_one r u h
theorem infoFs : (Tryz.prog.info? 53).map (fun i => (i.zero, i.size, i.bytes)) = some (some (.agg #[.string ⟨#[]⟩, .string ⟨#[]⟩, .string ⟨#[]⟩, .string ⟨#[]⟩]), 4, 64) := by kernel_rfl
def InF (w : World) (l : List Fw) (v : Value) : Prop :=
 (l = [] ∧ ∃ a c, v = .slice a 0 c ∧ (a = none → c = 0)) ∨ (0 < l.length ∧ ∃ b o c, v = .slice (some ⟨b, o, none⟩) l.length c ∧ l.length ≤ c ∧ b < w.heap.size ∧ ∀ j u, (rowF l)[j]? = some u → w.cell? ⟨b, o + j, none⟩ = some u)
theorem InF.below {w w' : World} {l : List Fw} {v : Value} (h : InF w l v) (hb : Below w.heap.size w w') : InF w' l v := by
 rcases h with h | ⟨h0, b, o, c, h1, h2, h3, h4⟩
 · exact Or.inl h
 · exact Or.inr ⟨h0, b, o, c, h1, h2, Nat.lt_of_lt_of_le h3 hb.size, fun j u hj => (hb.cell (p := ⟨b, o + j, none⟩) h3).trans (h4 j u hj)⟩
theorem InF.shape {w : World} {l : List Fw} {v : Value} (h : InF w l v) : ∃ a c, v = .slice a l.length c := by
 rcases h with ⟨rfl, a, c, h, _⟩ | ⟨_, b, o, c, h, _⟩
 · exact ⟨a, c, h⟩
 · exact ⟨_, c, h⟩
theorem InF.own {w : World} {B : Nat} {l : List Fw} {v : Value} (h : w.ownsRow B 53 4 v l.length (rowF l)) : InF w l v := by
 have hc := fun g (hg : v.ownBlock = some g) => World.ownsRow.cells h hg
 rcases h.2 with ⟨rfl, h0⟩ | ⟨g, cap, cur, rfl, hB, hg, hcap, _⟩
 · exact Or.inl ⟨List.eq_nil_of_length_eq_zero h0, none, 0, rfl, fun _ => rfl⟩
 · rcases Nat.eq_zero_or_pos l.length with h0 | h0
   · rw [h0]
     exact Or.inl ⟨List.eq_nil_of_length_eq_zero h0, _, cap, rfl, fun h => by cases h⟩
   · refine Or.inr ⟨h0, g, 0, cap, rfl, hcap, Go.lt_of_block hg, fun j u hu => ?_⟩
     have := hc g rfl j u hu
     have e : (⟨g, 0, none⟩ : Addr).add j = ⟨g, 0 + j, none⟩ := by unfold Addr.add; split <;> simp_all
     rw [e] at this
     exact this
theorem InF.keep {w w' : World} {B : Nat} {l : List Fw} {v : Value} (h : w.ownsRow B 53 4 v l.length (rowF l)) (hs : w.heap.size ≤ w'.heap.size) (hk : ∀ g, v.ownBlock = some g → w'.heap[g]? = w.heap[g]?) : InF w' l v := by
 have h1 : InF w l v := InF.own h
 rcases h1 with h1 | ⟨h0, b, o, c, h1, h2, h3, h4⟩
 · exact Or.inl h1
 · subst h1
   have hb := hk b (by
    rcases h.2 with ⟨h, _⟩ | ⟨g, cap, cur, h, _⟩
    · cases h
    · simp only [Value.slice.injEq, Option.some.injEq, Addr.mk.injEq] at h
      obtain ⟨⟨rfl, rfl, _⟩, _⟩ := h
      rfl)
   exact Or.inr ⟨h0, b, o, c, rfl, h2, Nat.lt_of_lt_of_le h3 hs, fun j u hj => by rw [World.cell?_of_block (w := w) (a := ⟨b, o + j, none⟩) hb]; exact h4 j u hj⟩
theorem InF.at {w : World} {l : List Fw} {a : Option Addr} {n c : Nat} (h : InF w l (.slice a n c)) {i : Nat} (hi : i < l.length) : ∃ b o x, a = some ⟨b, o, none⟩ ∧ b < w.heap.size ∧ n ≤ c ∧ n = l.length ∧ l[i]? = some x ∧ ∀ j u, x.cells[j]? = some u → w.cell? ⟨b, o + i * 4 + j, none⟩ = some u := by
 rcases h with ⟨rfl, _⟩ | ⟨h0, b, o, c', h1, h2, h3, h4⟩
 · simp at hi
 · simp only [Value.slice.injEq] at h1
   obtain ⟨rfl, rfl, rfl⟩ := h1
   exact ⟨b, o, l[i], rfl, h3, h2, rfl, List.getElem?_eq_getElem hi, fun j u hj => by rw [Nat.add_assoc]; exact h4 _ u (rowF_get l i _ (List.getElem?_eq_getElem hi) j u hj)⟩
structure Mdl where
 id : ByteArray
 nm : ByteArray
 vs : List Bd
 es : List Em
 fs : List Fw
deriving DecidableEq
def MIn (w : World) (x : Mdl) (cs : List Value) : Prop := ∃ v e f, cs = [.string x.id, .string x.nm, v, e, f] ∧ InB w x.vs v ∧ InE w x.es e ∧ InF w x.fs f
theorem MIn.below {w w' : World} {x : Mdl} {cs : List Value} (h : MIn w x cs) (hb : Below w.heap.size w w') : MIn w' x cs := by
 obtain ⟨v, e, f, h0, h1, h2, h3⟩ := h
 exact ⟨v, e, f, h0, h1.below hb, h2.below hb, h3.below hb⟩
theorem MIn.shape {w : World} {x : Mdl} {cs : List Value} (h : MIn w x cs) : ∃ va vc ea ec fa fc, cs = [.string x.id, .string x.nm, .slice va x.vs.length vc, .slice ea x.es.length ec, .slice fa x.fs.length fc] := by
 obtain ⟨v, e, f, h0, h1, h2, h3⟩ := h
 obtain ⟨va, vc, rfl⟩ := h1.shape
 obtain ⟨ea, ec, rfl⟩ := h2.shape
 obtain ⟨fa, fc, rfl⟩ := h3.shape
 exact ⟨va, vc, ea, ec, fa, fc, h0⟩
def MOwn (w : World) (B : Nat) (x : Mdl) (cs : List Value) : Prop := ∃ v e f, cs = [.string x.id, .string x.nm, v, e, f] ∧ w.ownsRow B 51 5 v x.vs.length (rowB x.vs) ∧ w.ownsRow B 36 11 e x.es.length (rowE x.es) ∧ w.ownsRow B 53 4 f x.fs.length (rowF x.fs)
theorem MOwn.in {w : World} {B : Nat} {x : Mdl} {cs : List Value} (h : MOwn w B x cs) : MIn w x cs := by
 obtain ⟨v, e, f, h0, h1, h2, h3⟩ := h
 exact ⟨v, e, f, h0, InB.own h1, InE.own h2, InF.own h3⟩
theorem noGrow {w w' : World} (hb : Below w.heap.size w w') : w.grownBy w' none := ⟨hb.os, hb.tape, hb.output, hb.size, fun k hk _ => hb.block k hk⟩
theorem MOwn.below {w w' : World} {B : Nat} {x : Mdl} {cs : List Value} (h : MOwn w B x cs) (hb : Below w.heap.size w w') : MOwn w' B x cs := by
 obtain ⟨v, e, f, h0, h1, h2, h3⟩ := h
 exact ⟨v, e, f, h0, h1.kept (noGrow hb) (Classical.em _), h2.kept (noGrow hb) (Classical.em _), h3.kept (noGrow hb) (Classical.em _)⟩
def Mdl.few (x : Mdl) : Prop := x.es.length + x.fs.length + x.vs.length ≤ 2000
end Go.Proofs.YteejphiklpnjhaaGreatDoor
namespace Go.Proofs.YteejphiklpnjhaaGreatDoor
set_option maxRecDepth 100000
set_option maxHeartbeats 16000000
open Go.RowKit Go.Maps
open Go.Lib (hid)
def OwnB (l : List Bd) (w : World) (e : Ending) (w' : World) : Prop := ∃ v, e = .returned v ∧ w'.ownsRow w.heap.size 51 5 v l.length (rowB l) ∧ Below w.heap.size w w'
theorem cloneB (l : List Bd) (sv : Value) (w : World) (hin : InB w l sv) (hlen : l.length ≤ 2000) :
   Calls Tryz.prog 16 #[sv] w (OwnB l w) := by
 obtain ⟨i0, hi, hz0, hz1, hz2⟩ := info_parts infoBs
 by_cases hnil : ∃ c, sv = .slice none l.length c
 · obtain ⟨c, rfl⟩ := hnil
   have h0 : l = [] ∧ c = 0 := by
    rcases hin with ⟨h, a, c', h1, h2⟩ | ⟨h0, b, o, c', h1, _⟩
    · simp only [Value.slice.injEq] at h1
      obtain ⟨rfl, _, rfl⟩ := h1
      exact ⟨h, h2 rfl⟩
    · simp at h1
   obtain ⟨rfl, rfl⟩ := h0
   have hE := fun W => Lib.run_eql_slice_nil (P := Tryz.prog) W 26 51 none 0 0 0 0 Tryz.underlying26
   clear hin
   go_enter Tryz.func16, Tryz.ntmps16
   go_wp2_with fail
   go_ret
   exact ⟨_, rfl, World.ownsRow_nil _ _ _ _, Below.refl _ _⟩
 · have hsome : ∃ ad c, sv = .slice (some ad) l.length c ∧ ∀ j u, (rowB l)[j]? = some u → w.cell? (ad.add j) = some u := by
    rcases hin with ⟨rfl, a, c, rfl, _⟩ | ⟨_, b, o, c, rfl, _, _, h⟩
    · cases a with
      | none => exact absurd ⟨c, rfl⟩ hnil
      | some a => exact ⟨a, c, rfl, fun j u hj => by simp [rowB] at hj⟩
    · refine ⟨⟨b, o, none⟩, c, rfl, fun j u hj => ?_⟩
      have e : (⟨b, o, none⟩ : Addr).add j = ⟨b, o + j, none⟩ := by cases j <;> simp [Addr.add]
      rw [e]; exact h j u hj
   obtain ⟨ad, c, rfl, hcell⟩ := hsome
   have hE := fun W => Lib.run_eql_slice_nil (P := Tryz.prog) W 26 51 (some ad) l.length c 0 0 Tryz.underlying26
   have hlt : ∀ j u, (rowB l)[j]? = some u → (w.alloc (.cells #[] 51)).cell? (ad.add j) = some u := fun j u hj => by
    have h := hcell j u hj
    rw [((Below.refl w.heap.size w).alloc (Nat.le_refl _) (.cells #[] 51)).cell (p := ad.add j) (Lib.lt_of_cell h)]
    exact h
   have hown : World.ownsRow (w.alloc (.cells #[] 51)) w.heap.size 51 5 (.slice (some ⟨w.heap.size, 0, none⟩) 0 0) 0 [] :=
    ⟨rfl, Or.inr ⟨w.heap.size, 0, #[], rfl, Nat.le_refl _, heap_alloc_new w _, Nat.le_refl _, by decide, rfl, rfl⟩⟩
   have hlen2 := rowB_len l
   have hone := rowB_one l
   have HL := hid hlt
   have HO := hid hown
   have HL2 := hid hlen2
   have H1 := hid hone
   clear hlt hown hlen2 hone hcell hin hnil
   go_enter Tryz.func16, Tryz.ntmps16
   go_wp2_with (at_builtin; refine wpList_append_own _ rfl _ _ 26 rfl w.heap.size 51 i0 _ 5 56 Tryz.underlying26 hi hz0 hz1 hz2 rfl (by decide) (.slice (some ⟨w.heap.size, 0, none⟩) 0 0) 0 [] rfl HO.out ad l.length c (rowB l) rfl HL2.out HL.out H1.out (by unfold maxLen; omega) (by omega) (by simp) ?_)
   intro v' w1 hown1 hgrow _
   have HV : Hid (w1.ownsRow w.heap.size 51 5 v' l.length (rowB l)) := by
    show World.ownsRow _ _ _ _ _ _ _
    exact hown1
   have HB := hid (((Below.refl w.heap.size w).alloc (Nat.le_refl _) (.cells #[] 51)).grown hgrow (by simp) (fun q hq => by simp [Value.ownBlock] at hq; omega))
   clear hown1 hgrow
   go_wp2_with fail
   go_ret
   exact ⟨_, rfl, HV.out, HB.out⟩
def OwnE (l : List Em) (w : World) (e : Ending) (w' : World) : Prop := ∃ v, e = .returned v ∧ w'.ownsRow w.heap.size 36 11 v l.length (rowE l) ∧ Below w.heap.size w w'
theorem cloneE (l : List Em) (sv : Value) (w : World) (hin : InE w l sv) (hlen : l.length ≤ 2000) :
   Calls Tryz.prog 17 #[sv] w (OwnE l w) := by
 obtain ⟨i0, hi, hz0, hz1, hz2⟩ := info_parts infoEs
 by_cases hnil : ∃ c, sv = .slice none l.length c
 · obtain ⟨c, rfl⟩ := hnil
   have h0 : l = [] ∧ c = 0 := by
    rcases hin with ⟨h, a, c', h1, h2⟩ | ⟨h0, b, o, c', h1, _⟩
    · simp only [Value.slice.injEq] at h1
      obtain ⟨rfl, _, rfl⟩ := h1
      exact ⟨h, h2 rfl⟩
    · simp at h1
   obtain ⟨rfl, rfl⟩ := h0
   have hE := fun W => Lib.run_eql_slice_nil (P := Tryz.prog) W 27 36 none 0 0 0 0 Tryz.underlying27
   clear hin
   go_enter Tryz.func17, Tryz.ntmps17
   go_wp2_with fail
   go_ret
   exact ⟨_, rfl, World.ownsRow_nil _ _ _ _, Below.refl _ _⟩
 · have hsome : ∃ ad c, sv = .slice (some ad) l.length c ∧ ∀ j u, (rowE l)[j]? = some u → w.cell? (ad.add j) = some u := by
    rcases hin with ⟨rfl, a, c, rfl, _⟩ | ⟨_, b, o, c, rfl, _, _, h⟩
    · cases a with
      | none => exact absurd ⟨c, rfl⟩ hnil
      | some a => exact ⟨a, c, rfl, fun j u hj => by simp [rowE] at hj⟩
    · refine ⟨⟨b, o, none⟩, c, rfl, fun j u hj => ?_⟩
      have e : (⟨b, o, none⟩ : Addr).add j = ⟨b, o + j, none⟩ := by cases j <;> simp [Addr.add]
      rw [e]; exact h j u hj
   obtain ⟨ad, c, rfl, hcell⟩ := hsome
   have hE := fun W => Lib.run_eql_slice_nil (P := Tryz.prog) W 27 36 (some ad) l.length c 0 0 Tryz.underlying27
   have hlt : ∀ j u, (rowE l)[j]? = some u → (w.alloc (.cells #[] 36)).cell? (ad.add j) = some u := fun j u hj => by
    have h := hcell j u hj
    rw [((Below.refl w.heap.size w).alloc (Nat.le_refl _) (.cells #[] 36)).cell (p := ad.add j) (Lib.lt_of_cell h)]
    exact h
   have hown : World.ownsRow (w.alloc (.cells #[] 36)) w.heap.size 36 11 (.slice (some ⟨w.heap.size, 0, none⟩) 0 0) 0 [] :=
    ⟨rfl, Or.inr ⟨w.heap.size, 0, #[], rfl, Nat.le_refl _, heap_alloc_new w _, Nat.le_refl _, by decide, rfl, rfl⟩⟩
   have hlen2 := rowE_len l
   have hone := rowE_one l
   have HL := hid hlt
   have HO := hid hown
   have HL2 := hid hlen2
   have H1 := hid hone
   clear hlt hown hlen2 hone hcell hin hnil
   go_enter Tryz.func17, Tryz.ntmps17
   go_wp2_with (at_builtin; refine wpList_append_own _ rfl _ _ 27 rfl w.heap.size 36 i0 _ 11 144 Tryz.underlying27 hi hz0 hz1 hz2 rfl (by decide) (.slice (some ⟨w.heap.size, 0, none⟩) 0 0) 0 [] rfl HO.out ad l.length c (rowE l) rfl HL2.out HL.out H1.out (by unfold maxLen; omega) (by omega) (by simp) ?_)
   intro v' w1 hown1 hgrow _
   have HV : Hid (w1.ownsRow w.heap.size 36 11 v' l.length (rowE l)) := by
    show World.ownsRow _ _ _ _ _ _ _
    exact hown1
   have HB := hid (((Below.refl w.heap.size w).alloc (Nat.le_refl _) (.cells #[] 36)).grown hgrow (by simp) (fun q hq => by simp [Value.ownBlock] at hq; omega))
   clear hown1 hgrow
   go_wp2_with fail
   go_ret
   exact ⟨_, rfl, HV.out, HB.out⟩
def OwnF (l : List Fw) (w : World) (e : Ending) (w' : World) : Prop := ∃ v, e = .returned v ∧ w'.ownsRow w.heap.size 53 4 v l.length (rowF l) ∧ Below w.heap.size w w'
theorem cloneF (l : List Fw) (sv : Value) (w : World) (hin : InF w l sv) (hlen : l.length ≤ 2000) :
   Calls Tryz.prog 18 #[sv] w (OwnF l w) := by
 obtain ⟨i0, hi, hz0, hz1, hz2⟩ := info_parts infoFs
 by_cases hnil : ∃ c, sv = .slice none l.length c
 · obtain ⟨c, rfl⟩ := hnil
   have h0 : l = [] ∧ c = 0 := by
    rcases hin with ⟨h, a, c', h1, h2⟩ | ⟨h0, b, o, c', h1, _⟩
    · simp only [Value.slice.injEq] at h1
      obtain ⟨rfl, _, rfl⟩ := h1
      exact ⟨h, h2 rfl⟩
    · simp at h1
   obtain ⟨rfl, rfl⟩ := h0
   have hE := fun W => Lib.run_eql_slice_nil (P := Tryz.prog) W 28 53 none 0 0 0 0 Tryz.underlying28
   clear hin
   go_enter Tryz.func18, Tryz.ntmps18
   go_wp2_with fail
   go_ret
   exact ⟨_, rfl, World.ownsRow_nil _ _ _ _, Below.refl _ _⟩
 · have hsome : ∃ ad c, sv = .slice (some ad) l.length c ∧ ∀ j u, (rowF l)[j]? = some u → w.cell? (ad.add j) = some u := by
    rcases hin with ⟨rfl, a, c, rfl, _⟩ | ⟨_, b, o, c, rfl, _, _, h⟩
    · cases a with
      | none => exact absurd ⟨c, rfl⟩ hnil
      | some a => exact ⟨a, c, rfl, fun j u hj => by simp [rowF] at hj⟩
    · refine ⟨⟨b, o, none⟩, c, rfl, fun j u hj => ?_⟩
      have e : (⟨b, o, none⟩ : Addr).add j = ⟨b, o + j, none⟩ := by cases j <;> simp [Addr.add]
      rw [e]; exact h j u hj
   obtain ⟨ad, c, rfl, hcell⟩ := hsome
   have hE := fun W => Lib.run_eql_slice_nil (P := Tryz.prog) W 28 53 (some ad) l.length c 0 0 Tryz.underlying28
   have hlt : ∀ j u, (rowF l)[j]? = some u → (w.alloc (.cells #[] 53)).cell? (ad.add j) = some u := fun j u hj => by
    have h := hcell j u hj
    rw [((Below.refl w.heap.size w).alloc (Nat.le_refl _) (.cells #[] 53)).cell (p := ad.add j) (Lib.lt_of_cell h)]
    exact h
   have hown : World.ownsRow (w.alloc (.cells #[] 53)) w.heap.size 53 4 (.slice (some ⟨w.heap.size, 0, none⟩) 0 0) 0 [] :=
    ⟨rfl, Or.inr ⟨w.heap.size, 0, #[], rfl, Nat.le_refl _, heap_alloc_new w _, Nat.le_refl _, by decide, rfl, rfl⟩⟩
   have hlen2 := rowF_len l
   have hone := rowF_one l
   have HL := hid hlt
   have HO := hid hown
   have HL2 := hid hlen2
   have H1 := hid hone
   clear hlt hown hlen2 hone hcell hin hnil
   go_enter Tryz.func18, Tryz.ntmps18
   go_wp2_with (at_builtin; refine wpList_append_own _ rfl _ _ 28 rfl w.heap.size 53 i0 _ 4 64 Tryz.underlying28 hi hz0 hz1 hz2 rfl (by decide) (.slice (some ⟨w.heap.size, 0, none⟩) 0 0) 0 [] rfl HO.out ad l.length c (rowF l) rfl HL2.out HL.out H1.out (by unfold maxLen; omega) (by omega) (by simp) ?_)
   intro v' w1 hown1 hgrow _
   have HV : Hid (w1.ownsRow w.heap.size 53 4 v' l.length (rowF l)) := by
    show World.ownsRow _ _ _ _ _ _ _
    exact hown1
   have HB := hid (((Below.refl w.heap.size w).alloc (Nat.le_refl _) (.cells #[] 53)).grown hgrow (by simp) (fun q hq => by simp [Value.ownBlock] at hq; omega))
   clear hown1 hgrow
   go_wp2_with fail
   go_ret
   exact ⟨_, rfl, HV.out, HB.out⟩
end Go.Proofs.YteejphiklpnjhaaGreatDoor
namespace Go.Proofs.YteejphiklpnjhaaGreatDoor
set_option maxRecDepth 100000
set_option maxHeartbeats 16000000
open Go.RowKit Go.Maps
open Go.Lib (hid)
theorem take_eq {α : Type} {l m : List α} {i : Nat} {x y : α} (h : l.take i = m.take i) (hx : l[i]? = some x) (hy : m[i]? = some y) (hxy : x = y) : l.take (i + 1) = m.take (i + 1) := by
 rw [List.take_add_one, List.take_add_one, h, hx, hy, hxy]
theorem take_ne {α : Type} {l m : List α} {i : Nat} {x y : α} (hx : l[i]? = some x) (hy : m[i]? = some y) (hxy : x ≠ y) : l ≠ m := by
 intro h
 rw [h, hy] at hx
 exact hxy (Option.some.inj hx).symm
theorem cellsB (x : Bd) : ∃ c0 c1 c2 c3 c4, x.cells = [c0, c1, c2, c3, c4] := ⟨_, _, _, _, _, rfl⟩
theorem equalB (l m : List Bd) (lv mv : Value) (w : World) (hl : InB w l lv) (hm : InB w m mv) (hll : l.length ≤ 9000000000000) (_hml : m.length ≤ 9000000000000) :
   Calls Tryz.prog 19 #[lv, mv] w fun e w' => e = .returned (.bool (decide (l = m))) ∧ Below w.heap.size w w' := by
 obtain ⟨la, lc, rfl⟩ := hl.shape
 obtain ⟨ma, mc, rfl⟩ := hm.shape
 obtain ⟨RES, hRES⟩ : ∃ r, decide (l = m) = r := ⟨_, rfl⟩
 rw [hRES]
 by_cases hne : l.length = m.length
 rotate_left
 · have HR : Hid (RES = false) := by show _ = _; rw [← hRES]; exact decide_eq_false (fun h => hne (by rw [h]))
   obtain ⟨n, hn⟩ : ∃ n, l.length = n := ⟨_, rfl⟩
   obtain ⟨k, hk⟩ : ∃ n, m.length = n := ⟨_, rfl⟩
   rw [hn, hk] at hne
   rw [hn, hk]
   have t0 : ((n : Int) != (k : Int)) = true := bne_iff_ne.2 (by omega)
   have t1 : ((n : Int) == (k : Int)) = false := beq_eq_false_iff_ne.2 (by omega)
   clear hn hk hl hm hll _hml hRES
   go_enter Tryz.func19, Tryz.ntmps19
   go_wp2_with fail
   go_ret
   exact ⟨congrArg (fun b => Ending.returned (.bool b)) HR.out.symm, Below.refl _ _⟩
 obtain ⟨n, hn⟩ : ∃ n, l.length = n := ⟨_, rfl⟩
 have hmn : m.length = n := by rw [← hne]; exact hn
 rw [hn] at hl
 rw [hmn] at hm
 rw [hn, hmn]
 have HN : Hid (l.length = n ∧ m.length = n) := ⟨hn, hmn⟩
 have HL := hid hl
 have HM := hid hm
 have HRES := hid hRES
 have t0 : ((n : Int) != (n : Int)) = false := by simp
 clear hl hm hRES hne _hml
 rw [hn] at hll
 clear hn hmn
 go_enter Tryz.func19, Tryz.ntmps19
 go_wp2_with fail
 clear t0
 go_loopw [13, 5] (fun vi v5 wr => ∃ (i : Nat), vi = .int .i64 i ∧ i ≤ n ∧ Hid (l.take i = m.take i) ∧ Hid (Below w.heap.size w wr)) (fun vi _ _ => n - (intOf vi).toNat)
 case atStart => exact ⟨0, rfl, Nat.zero_le _, hid rfl, hid (Below.refl _ _)⟩
 case round =>
   obtain ⟨i, rfl, hi, HI, HB⟩ := hrel
   by_cases hlt : i < n
   · have t0 : decide ((i : Int) < (n : Int)) = true := decide_eq_true (by omega)
     have t0' : decide (i < n) = true := decide_eq_true (by omega)
     have hi0 : (0 : Int) ≤ (i : Int) := by omega
     have hi1 : (i : Int) < (n : Int) := by omega
     obtain ⟨b, o, x, rfl, hb, hc, -, hx, hcx⟩ := HL.out.at (i := i) (by rw [HN.out.1]; exact hlt)
     obtain ⟨b', o', y, rfl, hb', hc', -, hy, hcy⟩ := HM.out.at (i := i) (by rw [HN.out.2]; exact hlt)
     have HE : Hid (x = y → l.take (i + 1) = m.take (i + 1)) := fun h => take_eq HI.out hx hy h
     have HF : Hid (x ≠ y → RES = false) := fun h => by rw [← HRES.out]; exact decide_eq_false (take_ne hx hy h)
     have hN := fun Z => Bd.neq x y Z
     obtain ⟨q, hq⟩ : ∃ q, (!decide (x = y)) = q := ⟨_, rfl⟩
     rw [hq] at hN
     obtain ⟨c0, c1, c2, c3, c4, hxc⟩ := cellsB x
     obtain ⟨d0, d1, d2, d3, d4, hyc⟩ := cellsB y
     rw [hxc] at hcx hN
     rw [hyc] at hcy hN
     have C0 := (HB.out.cell (p := ⟨b, o + i * 5 + 0, none⟩) hb).trans (hcx 0 _ rfl)
     have C1 := (HB.out.cell (p := ⟨b, o + i * 5 + 1, none⟩) hb).trans (hcx 1 _ rfl)
     have C2 := (HB.out.cell (p := ⟨b, o + i * 5 + 2, none⟩) hb).trans (hcx 2 _ rfl)
     have C3 := (HB.out.cell (p := ⟨b, o + i * 5 + 3, none⟩) hb).trans (hcx 3 _ rfl)
     have C4 := (HB.out.cell (p := ⟨b, o + i * 5 + 4, none⟩) hb).trans (hcx 4 _ rfl)
     rw [Nat.add_zero] at C0
     have D0 := (HB.out.cell (p := ⟨b', o' + i * 5 + 0, none⟩) hb').trans (hcy 0 _ rfl)
     have D1 := (HB.out.cell (p := ⟨b', o' + i * 5 + 1, none⟩) hb').trans (hcy 1 _ rfl)
     have D2 := (HB.out.cell (p := ⟨b', o' + i * 5 + 2, none⟩) hb').trans (hcy 2 _ rfl)
     have D3 := (HB.out.cell (p := ⟨b', o' + i * 5 + 3, none⟩) hb').trans (hcy 3 _ rfl)
     have D4 := (HB.out.cell (p := ⟨b', o' + i * 5 + 4, none⟩) hb').trans (hcy 4 _ rfl)
     rw [Nat.add_zero] at D0
     obtain ⟨i1, hi1'⟩ : ∃ i1, i + 1 = i1 := ⟨_, rfl⟩
     have e1 : IntKind.i64.wrap ((i : Int) + 1) = (i1 : Int) := by rw [IntKind.wrap_i64] <;> omega
     have HI1 : Hid (i1 ≤ n ∧ n - i1 < n - i ∧ i + 1 = i1) := ⟨by omega, by omega, hi1'⟩
     have HQ : Hid ((q = false → x = y) ∧ (q = true → x ≠ y)) := ⟨fun h => by rw [h] at hq; simpa using hq, fun h => by rw [h] at hq; simpa using hq⟩
     clear hx hy hcx hcy hxc hyc hq hi1' hb hb'
     rcases q with _ | _
     · have HT : Hid (l.take i1 = m.take i1) := by show _ = _; rw [← HI1.out.2.2]; exact HE.out (HQ.out.1 rfl)
       clear HE HF HQ
       go_upto_region 6 with fail
       go_quiet (fail)
       have HB2 : ∀ n, Hid (Below w.heap.size w (wr.drewN n)) := fun n => below_drewN HB.out n
       go_wp2_with fail
       go_roundw
       case rel => exact ⟨i1, rfl, HI1.out.1, HT, HB2 _⟩
       case measure => simpa [intOf] using HI1.out.2.1
     · have HR : Hid (RES = false) := HF.out (HQ.out.2 rfl)
       clear HE HF HQ
       go_upto_region 6 with fail
       go_quiet (fail)
       go_wp2_with fail
       go_ret
       exact ⟨congrArg (fun b => Ending.returned (.bool b)) HR.out.symm, below_drewN HB.out _⟩
   · have t0 : decide ((i : Int) < (n : Int)) = false := decide_eq_false (by omega)
     have t0' : decide (i < n) = false := decide_eq_false (by omega)
     have HR : Hid (RES = true) := by
       show _ = _
       rw [← HRES.out]
       refine decide_eq_true ?_
       have := HI.out
       rw [List.take_of_length_le (by rw [HN.out.1]; omega), List.take_of_length_le (by rw [HN.out.2]; omega)] at this
       exact this
     go_wp2_with fail
     go_ret
     exact ⟨congrArg (fun b => Ending.returned (.bool b)) HR.out.symm, HB.out⟩
theorem cellsE (x : Em) : ∃ c0 c1 c2 c3 c4 c5 c6 c7 c8 c9 c10, x.cells = [c0, c1, c2, c3, c4, c5, c6, c7, c8, c9, c10] := ⟨_, _, _, _, _, _, _, _, _, _, _, rfl⟩
theorem equalE (l m : List Em) (lv mv : Value) (w : World) (hl : InE w l lv) (hm : InE w m mv) (hll : l.length ≤ 9000000000000) (_hml : m.length ≤ 9000000000000) :
   Calls Tryz.prog 20 #[lv, mv] w fun e w' => e = .returned (.bool (decide (l = m))) ∧ Below w.heap.size w w' := by
 obtain ⟨la, lc, rfl⟩ := hl.shape
 obtain ⟨ma, mc, rfl⟩ := hm.shape
 obtain ⟨RES, hRES⟩ : ∃ r, decide (l = m) = r := ⟨_, rfl⟩
 rw [hRES]
 by_cases hne : l.length = m.length
 rotate_left
 · have HR : Hid (RES = false) := by show _ = _; rw [← hRES]; exact decide_eq_false (fun h => hne (by rw [h]))
   obtain ⟨n, hn⟩ : ∃ n, l.length = n := ⟨_, rfl⟩
   obtain ⟨k, hk⟩ : ∃ n, m.length = n := ⟨_, rfl⟩
   rw [hn, hk] at hne
   rw [hn, hk]
   have t0 : ((n : Int) != (k : Int)) = true := bne_iff_ne.2 (by omega)
   have t1 : ((n : Int) == (k : Int)) = false := beq_eq_false_iff_ne.2 (by omega)
   clear hn hk hl hm hll _hml hRES
   go_enter Tryz.func20, Tryz.ntmps20
   go_wp2_with fail
   go_ret
   exact ⟨congrArg (fun b => Ending.returned (.bool b)) HR.out.symm, Below.refl _ _⟩
 obtain ⟨n, hn⟩ : ∃ n, l.length = n := ⟨_, rfl⟩
 have hmn : m.length = n := by rw [← hne]; exact hn
 rw [hn] at hl
 rw [hmn] at hm
 rw [hn, hmn]
 have HN : Hid (l.length = n ∧ m.length = n) := ⟨hn, hmn⟩
 have HL := hid hl
 have HM := hid hm
 have HRES := hid hRES
 have t0 : ((n : Int) != (n : Int)) = false := by simp
 clear hl hm hRES hne _hml
 rw [hn] at hll
 clear hn hmn
 go_enter Tryz.func20, Tryz.ntmps20
 go_wp2_with fail
 clear t0
 go_loopw [13, 5] (fun vi v5 wr => ∃ (i : Nat), vi = .int .i64 i ∧ i ≤ n ∧ Hid (l.take i = m.take i) ∧ Hid (Below w.heap.size w wr)) (fun vi _ _ => n - (intOf vi).toNat)
 case atStart => exact ⟨0, rfl, Nat.zero_le _, hid rfl, hid (Below.refl _ _)⟩
 case round =>
   obtain ⟨i, rfl, hi, HI, HB⟩ := hrel
   by_cases hlt : i < n
   · have t0 : decide ((i : Int) < (n : Int)) = true := decide_eq_true (by omega)
     have t0' : decide (i < n) = true := decide_eq_true (by omega)
     have hi0 : (0 : Int) ≤ (i : Int) := by omega
     have hi1 : (i : Int) < (n : Int) := by omega
     obtain ⟨b, o, x, rfl, hb, hc, -, hx, hcx⟩ := HL.out.at (i := i) (by rw [HN.out.1]; exact hlt)
     obtain ⟨b', o', y, rfl, hb', hc', -, hy, hcy⟩ := HM.out.at (i := i) (by rw [HN.out.2]; exact hlt)
     have HE : Hid (x = y → l.take (i + 1) = m.take (i + 1)) := fun h => take_eq HI.out hx hy h
     have HF : Hid (x ≠ y → RES = false) := fun h => by rw [← HRES.out]; exact decide_eq_false (take_ne hx hy h)
     have hN := fun Z => Em.neq x y Z
     obtain ⟨q, hq⟩ : ∃ q, (!decide (x = y)) = q := ⟨_, rfl⟩
     rw [hq] at hN
     obtain ⟨c0, c1, c2, c3, c4, c5, c6, c7, c8, c9, c10, hxc⟩ := cellsE x
     obtain ⟨d0, d1, d2, d3, d4, d5, d6, d7, d8, d9, d10, hyc⟩ := cellsE y
     rw [hxc] at hcx hN
     rw [hyc] at hcy hN
     have C0 := (HB.out.cell (p := ⟨b, o + i * 11 + 0, none⟩) hb).trans (hcx 0 _ rfl)
     have C1 := (HB.out.cell (p := ⟨b, o + i * 11 + 1, none⟩) hb).trans (hcx 1 _ rfl)
     have C2 := (HB.out.cell (p := ⟨b, o + i * 11 + 2, none⟩) hb).trans (hcx 2 _ rfl)
     have C3 := (HB.out.cell (p := ⟨b, o + i * 11 + 3, none⟩) hb).trans (hcx 3 _ rfl)
     have C4 := (HB.out.cell (p := ⟨b, o + i * 11 + 4, none⟩) hb).trans (hcx 4 _ rfl)
     have C5 := (HB.out.cell (p := ⟨b, o + i * 11 + 5, none⟩) hb).trans (hcx 5 _ rfl)
     have C6 := (HB.out.cell (p := ⟨b, o + i * 11 + 6, none⟩) hb).trans (hcx 6 _ rfl)
     have C7 := (HB.out.cell (p := ⟨b, o + i * 11 + 7, none⟩) hb).trans (hcx 7 _ rfl)
     have C8 := (HB.out.cell (p := ⟨b, o + i * 11 + 8, none⟩) hb).trans (hcx 8 _ rfl)
     have C9 := (HB.out.cell (p := ⟨b, o + i * 11 + 9, none⟩) hb).trans (hcx 9 _ rfl)
     have C10 := (HB.out.cell (p := ⟨b, o + i * 11 + 10, none⟩) hb).trans (hcx 10 _ rfl)
     rw [Nat.add_zero] at C0
     have D0 := (HB.out.cell (p := ⟨b', o' + i * 11 + 0, none⟩) hb').trans (hcy 0 _ rfl)
     have D1 := (HB.out.cell (p := ⟨b', o' + i * 11 + 1, none⟩) hb').trans (hcy 1 _ rfl)
     have D2 := (HB.out.cell (p := ⟨b', o' + i * 11 + 2, none⟩) hb').trans (hcy 2 _ rfl)
     have D3 := (HB.out.cell (p := ⟨b', o' + i * 11 + 3, none⟩) hb').trans (hcy 3 _ rfl)
     have D4 := (HB.out.cell (p := ⟨b', o' + i * 11 + 4, none⟩) hb').trans (hcy 4 _ rfl)
     have D5 := (HB.out.cell (p := ⟨b', o' + i * 11 + 5, none⟩) hb').trans (hcy 5 _ rfl)
     have D6 := (HB.out.cell (p := ⟨b', o' + i * 11 + 6, none⟩) hb').trans (hcy 6 _ rfl)
     have D7 := (HB.out.cell (p := ⟨b', o' + i * 11 + 7, none⟩) hb').trans (hcy 7 _ rfl)
     have D8 := (HB.out.cell (p := ⟨b', o' + i * 11 + 8, none⟩) hb').trans (hcy 8 _ rfl)
     have D9 := (HB.out.cell (p := ⟨b', o' + i * 11 + 9, none⟩) hb').trans (hcy 9 _ rfl)
     have D10 := (HB.out.cell (p := ⟨b', o' + i * 11 + 10, none⟩) hb').trans (hcy 10 _ rfl)
     rw [Nat.add_zero] at D0
     obtain ⟨i1, hi1'⟩ : ∃ i1, i + 1 = i1 := ⟨_, rfl⟩
     have e1 : IntKind.i64.wrap ((i : Int) + 1) = (i1 : Int) := by rw [IntKind.wrap_i64] <;> omega
     have HI1 : Hid (i1 ≤ n ∧ n - i1 < n - i ∧ i + 1 = i1) := ⟨by omega, by omega, hi1'⟩
     have HQ : Hid ((q = false → x = y) ∧ (q = true → x ≠ y)) := ⟨fun h => by rw [h] at hq; simpa using hq, fun h => by rw [h] at hq; simpa using hq⟩
     clear hx hy hcx hcy hxc hyc hq hi1' hb hb'
     rcases q with _ | _
     · have HT : Hid (l.take i1 = m.take i1) := by show _ = _; rw [← HI1.out.2.2]; exact HE.out (HQ.out.1 rfl)
       clear HE HF HQ
       go_upto_region 6 with fail
       go_quiet (fail)
       have HB2 : ∀ n, Hid (Below w.heap.size w (wr.drewN n)) := fun n => below_drewN HB.out n
       go_wp2_with fail
       go_roundw
       case rel => exact ⟨i1, rfl, HI1.out.1, HT, HB2 _⟩
       case measure => simpa [intOf] using HI1.out.2.1
     · have HR : Hid (RES = false) := HF.out (HQ.out.2 rfl)
       clear HE HF HQ
       go_upto_region 6 with fail
       go_quiet (fail)
       go_wp2_with fail
       go_ret
       exact ⟨congrArg (fun b => Ending.returned (.bool b)) HR.out.symm, below_drewN HB.out _⟩
   · have t0 : decide ((i : Int) < (n : Int)) = false := decide_eq_false (by omega)
     have t0' : decide (i < n) = false := decide_eq_false (by omega)
     have HR : Hid (RES = true) := by
       show _ = _
       rw [← HRES.out]
       refine decide_eq_true ?_
       have := HI.out
       rw [List.take_of_length_le (by rw [HN.out.1]; omega), List.take_of_length_le (by rw [HN.out.2]; omega)] at this
       exact this
     go_wp2_with fail
     go_ret
     exact ⟨congrArg (fun b => Ending.returned (.bool b)) HR.out.symm, HB.out⟩
theorem cellsF (x : Fw) : ∃ c0 c1 c2 c3, x.cells = [c0, c1, c2, c3] := ⟨_, _, _, _, rfl⟩
theorem equalF (l m : List Fw) (lv mv : Value) (w : World) (hl : InF w l lv) (hm : InF w m mv) (hll : l.length ≤ 9000000000000) (_hml : m.length ≤ 9000000000000) :
   Calls Tryz.prog 21 #[lv, mv] w fun e w' => e = .returned (.bool (decide (l = m))) ∧ Below w.heap.size w w' := by
 obtain ⟨la, lc, rfl⟩ := hl.shape
 obtain ⟨ma, mc, rfl⟩ := hm.shape
 obtain ⟨RES, hRES⟩ : ∃ r, decide (l = m) = r := ⟨_, rfl⟩
 rw [hRES]
 by_cases hne : l.length = m.length
 rotate_left
 · have HR : Hid (RES = false) := by show _ = _; rw [← hRES]; exact decide_eq_false (fun h => hne (by rw [h]))
   obtain ⟨n, hn⟩ : ∃ n, l.length = n := ⟨_, rfl⟩
   obtain ⟨k, hk⟩ : ∃ n, m.length = n := ⟨_, rfl⟩
   rw [hn, hk] at hne
   rw [hn, hk]
   have t0 : ((n : Int) != (k : Int)) = true := bne_iff_ne.2 (by omega)
   have t1 : ((n : Int) == (k : Int)) = false := beq_eq_false_iff_ne.2 (by omega)
   clear hn hk hl hm hll _hml hRES
   go_enter Tryz.func21, Tryz.ntmps21
   go_wp2_with fail
   go_ret
   exact ⟨congrArg (fun b => Ending.returned (.bool b)) HR.out.symm, Below.refl _ _⟩
 obtain ⟨n, hn⟩ : ∃ n, l.length = n := ⟨_, rfl⟩
 have hmn : m.length = n := by rw [← hne]; exact hn
 rw [hn] at hl
 rw [hmn] at hm
 rw [hn, hmn]
 have HN : Hid (l.length = n ∧ m.length = n) := ⟨hn, hmn⟩
 have HL := hid hl
 have HM := hid hm
 have HRES := hid hRES
 have t0 : ((n : Int) != (n : Int)) = false := by simp
 clear hl hm hRES hne _hml
 rw [hn] at hll
 clear hn hmn
 go_enter Tryz.func21, Tryz.ntmps21
 go_wp2_with fail
 clear t0
 go_loopw [13, 5] (fun vi v5 wr => ∃ (i : Nat), vi = .int .i64 i ∧ i ≤ n ∧ Hid (l.take i = m.take i) ∧ Hid (Below w.heap.size w wr)) (fun vi _ _ => n - (intOf vi).toNat)
 case atStart => exact ⟨0, rfl, Nat.zero_le _, hid rfl, hid (Below.refl _ _)⟩
 case round =>
   obtain ⟨i, rfl, hi, HI, HB⟩ := hrel
   by_cases hlt : i < n
   · have t0 : decide ((i : Int) < (n : Int)) = true := decide_eq_true (by omega)
     have t0' : decide (i < n) = true := decide_eq_true (by omega)
     have hi0 : (0 : Int) ≤ (i : Int) := by omega
     have hi1 : (i : Int) < (n : Int) := by omega
     obtain ⟨b, o, x, rfl, hb, hc, -, hx, hcx⟩ := HL.out.at (i := i) (by rw [HN.out.1]; exact hlt)
     obtain ⟨b', o', y, rfl, hb', hc', -, hy, hcy⟩ := HM.out.at (i := i) (by rw [HN.out.2]; exact hlt)
     have HE : Hid (x = y → l.take (i + 1) = m.take (i + 1)) := fun h => take_eq HI.out hx hy h
     have HF : Hid (x ≠ y → RES = false) := fun h => by rw [← HRES.out]; exact decide_eq_false (take_ne hx hy h)
     have hN := fun Z => Fw.neq x y Z
     obtain ⟨q, hq⟩ : ∃ q, (!decide (x = y)) = q := ⟨_, rfl⟩
     rw [hq] at hN
     obtain ⟨c0, c1, c2, c3, hxc⟩ := cellsF x
     obtain ⟨d0, d1, d2, d3, hyc⟩ := cellsF y
     rw [hxc] at hcx hN
     rw [hyc] at hcy hN
     have C0 := (HB.out.cell (p := ⟨b, o + i * 4 + 0, none⟩) hb).trans (hcx 0 _ rfl)
     have C1 := (HB.out.cell (p := ⟨b, o + i * 4 + 1, none⟩) hb).trans (hcx 1 _ rfl)
     have C2 := (HB.out.cell (p := ⟨b, o + i * 4 + 2, none⟩) hb).trans (hcx 2 _ rfl)
     have C3 := (HB.out.cell (p := ⟨b, o + i * 4 + 3, none⟩) hb).trans (hcx 3 _ rfl)
     rw [Nat.add_zero] at C0
     have D0 := (HB.out.cell (p := ⟨b', o' + i * 4 + 0, none⟩) hb').trans (hcy 0 _ rfl)
     have D1 := (HB.out.cell (p := ⟨b', o' + i * 4 + 1, none⟩) hb').trans (hcy 1 _ rfl)
     have D2 := (HB.out.cell (p := ⟨b', o' + i * 4 + 2, none⟩) hb').trans (hcy 2 _ rfl)
     have D3 := (HB.out.cell (p := ⟨b', o' + i * 4 + 3, none⟩) hb').trans (hcy 3 _ rfl)
     rw [Nat.add_zero] at D0
     obtain ⟨i1, hi1'⟩ : ∃ i1, i + 1 = i1 := ⟨_, rfl⟩
     have e1 : IntKind.i64.wrap ((i : Int) + 1) = (i1 : Int) := by rw [IntKind.wrap_i64] <;> omega
     have HI1 : Hid (i1 ≤ n ∧ n - i1 < n - i ∧ i + 1 = i1) := ⟨by omega, by omega, hi1'⟩
     have HQ : Hid ((q = false → x = y) ∧ (q = true → x ≠ y)) := ⟨fun h => by rw [h] at hq; simpa using hq, fun h => by rw [h] at hq; simpa using hq⟩
     clear hx hy hcx hcy hxc hyc hq hi1' hb hb'
     rcases q with _ | _
     · have HT : Hid (l.take i1 = m.take i1) := by show _ = _; rw [← HI1.out.2.2]; exact HE.out (HQ.out.1 rfl)
       clear HE HF HQ
       go_upto_region 6 with fail
       go_quiet (fail)
       have HB2 : ∀ n, Hid (Below w.heap.size w (wr.drewN n)) := fun n => below_drewN HB.out n
       go_wp2_with fail
       go_roundw
       case rel => exact ⟨i1, rfl, HI1.out.1, HT, HB2 _⟩
       case measure => simpa [intOf] using HI1.out.2.1
     · have HR : Hid (RES = false) := HF.out (HQ.out.2 rfl)
       clear HE HF HQ
       go_upto_region 6 with fail
       go_quiet (fail)
       go_wp2_with fail
       go_ret
       exact ⟨congrArg (fun b => Ending.returned (.bool b)) HR.out.symm, below_drewN HB.out _⟩
   · have t0 : decide ((i : Int) < (n : Int)) = false := decide_eq_false (by omega)
     have t0' : decide (i < n) = false := decide_eq_false (by omega)
     have HR : Hid (RES = true) := by
       show _ = _
       rw [← HRES.out]
       refine decide_eq_true ?_
       have := HI.out
       rw [List.take_of_length_le (by rw [HN.out.1]; omega), List.take_of_length_le (by rw [HN.out.2]; omega)] at this
       exact this
     go_wp2_with fail
     go_ret
     exact ⟨congrArg (fun b => Ending.returned (.bool b)) HR.out.symm, HB.out⟩
end Go.Proofs.YteejphiklpnjhaaGreatDoor
namespace Go.Proofs.YteejphiklpnjhaaGreatDoor
set_option maxRecDepth 100000
set_option maxHeartbeats 16000000
open Go.RowKit Go.Maps
open Go.Lib (hid)
def Mdl.cut (x : Mdl) : Prop := x.vs.length ≤ 9000000000000 ∧ x.es.length ≤ 9000000000000 ∧ x.fs.length ≤ 9000000000000
structure BX (W : World) (H : Nat) (cx cy : List Value) (w : World) : Prop where
 b : Below W.heap.size W w
 x : w.heap[H]? = some (.cells cx.toArray 30 (0, 0))
 y : w.heap[H + 1]? = some (.cells cy.toArray 30 (0, 0))
theorem BX.below {W w w' : World} {H : Nat} {cx cy : List Value} (h : BX W H cx cy w) (hb : Below w.heap.size w w') : BX W H cx cy w' :=
 ⟨h.b.trans (hb.mono h.b.size), (hb.block _ (Go.lt_of_block h.x)).trans h.x, (hb.block _ (Go.lt_of_block h.y)).trans h.y⟩
theorem BX.drawn {W w : World} {H : Nat} {cx cy : List Value} (h : BX W H cx cy w) (n : Nat) : BX W H cx cy (w.drewN n) :=
 ⟨below_drewN h.b n, h.x, h.y⟩
theorem bx_first (W : World) (cx cy : List Value) : BX W W.heap.size cx cy ((W.alloc (.cells cx.toArray 30)).alloc (.cells cy.toArray 30)) := by
 have b1 := (Below.refl W.heap.size W).alloc (Nat.le_refl _) (.cells cx.toArray 30)
 have hs : (W.alloc (.cells cx.toArray 30)).heap.size = W.heap.size + 1 := by simp
 have h1 := heap_alloc_new W (.cells cx.toArray 30)
 have h2 := heap_alloc_new (W.alloc (.cells cx.toArray 30)) (.cells cy.toArray 30)
 rw [hs] at h2
 exact ⟨b1.alloc (by rw [hs]; omega) _, (Go.Lib.alloc_old _ _ _ (by rw [hs]; omega)).trans h1, h2⟩
theorem msame_any {x y : Mdl} {xs ys : List Value} {w : World} (hx : MIn w x xs) (hy : MIn w y ys) (cx : x.cut) (cy : y.cut) :
   Calls Tryz.prog 12 #[.agg xs.toArray, .agg ys.toArray] w fun e w' => e = .returned (.bool (decide (x = y))) ∧ Below w.heap.size w w' := by
 obtain ⟨va, vc, ea, ec, fa, fc, rfl⟩ := hx.shape
 obtain ⟨va', vc', ea', ec', fa', fc', rfl⟩ := hy.shape
 obtain ⟨RES, hRES⟩ : ∃ r, decide (x = y) = r := ⟨_, rfl⟩
 rw [hRES]
 have hRES := hid hRES
 obtain ⟨xi, xn, xv, xe, xf⟩ := x
 obtain ⟨yi, yn, yv, ye, yf⟩ := y
 obtain ⟨v1, e1, f1, he1, hv1, hee1, hf1⟩ := hx
 obtain ⟨v2, e2, f2, he2, hv2, hee2, hf2⟩ := hy
 simp only [List.cons.injEq, and_true, true_and] at he1 he2
 obtain ⟨rfl, rfl, rfl⟩ := he1
 obtain ⟨rfl, rfl, rfl⟩ := he2
 simp only at hv1 hee1 hf1 hv2 hee2 hf2 hRES ⊢
 have HCX : Hid (xv.length ≤ 9000000000000 ∧ xe.length ≤ 9000000000000 ∧ xf.length ≤ 9000000000000) := cx
 have HCY : Hid (yv.length ≤ 9000000000000 ∧ ye.length ≤ 9000000000000 ∧ yf.length ≤ 9000000000000) := cy
 have HV1 := hid hv1
 have HE1 := hid hee1
 have HF1 := hid hf1
 have HV2 := hid hv2
 have HE2 := hid hee2
 have HF2 := hid hf2
 clear hv1 hee1 hf1 hv2 hee2 hf2 cx cy
 obtain ⟨vl, hvl⟩ : ∃ n, xv.length = n := ⟨_, rfl⟩
 obtain ⟨el, hel⟩ : ∃ n, xe.length = n := ⟨_, rfl⟩
 obtain ⟨fl, hfl⟩ : ∃ n, xf.length = n := ⟨_, rfl⟩
 obtain ⟨vl', hvl'⟩ : ∃ n, yv.length = n := ⟨_, rfl⟩
 obtain ⟨el', hel'⟩ : ∃ n, ye.length = n := ⟨_, rfl⟩
 obtain ⟨fl', hfl'⟩ : ∃ n, yf.length = n := ⟨_, rfl⟩
 rw [hvl] at HV1 HCX
 rw [hel] at HE1 HCX
 rw [hfl] at HF1 HCX
 rw [hvl'] at HV2 HCY
 rw [hel'] at HE2 HCY
 rw [hfl'] at HF2 HCY
 rw [hvl, hel, hfl, hvl', hel', hfl']
 have HLV : Hid (xv.length = vl ∧ yv.length = vl') := ⟨hvl, hvl'⟩
 have HLE : Hid (xe.length = el ∧ ye.length = el') := ⟨hel, hel'⟩
 have HLF : Hid (xf.length = fl ∧ yf.length = fl') := ⟨hfl, hfl'⟩
 obtain ⟨H, hH⟩ : ∃ H, w.heap.size = H := ⟨_, rfl⟩
 obtain ⟨w2, hw2⟩ : ∃ u, (w.alloc (.cells #[.string xi, .string xn, .slice va vl vc, .slice ea el ec, .slice fa fl fc] 30)).alloc (.cells #[.string yi, .string yn, .slice va' vl' vc', .slice ea' el' ec', .slice fa' fl' fc'] 30) = u := ⟨_, rfl⟩
 have HB2 : Hid (BX w H [.string xi, .string xn, .slice va vl vc, .slice ea el ec, .slice fa fl fc] [.string yi, .string yn, .slice va' vl' vc', .slice ea' el' ec', .slice fa' fl' fc'] w2) := by
   show BX _ _ _ _ _
   rw [← hw2, ← hH]
   exact bx_first w _ _
 have HW2 := hid hw2
 have HHE := hid hH
 clear hvl hel hfl hvl' hel' hfl' hw2 hH
 obtain ⟨a0, a1, a2, a3, a4, -, -, -, -, -⟩ := rowN5 HB2.out.x
 obtain ⟨b0, b1, b2, b3, b4, -, -, -, -, -⟩ := rowN5 HB2.out.y
 go_enter Tryz.func12, Tryz.ntmps12
 go_upto_region 1 with fail
 rw [HW2.out, HHE.out]
 clear HW2
 by_cases h1 : xi = yi
 rotate_left
 · have q1 : (xi.toList == yi.toList) = false := beq_eq_false_iff_ne.2 (fun h => h1 (bytes_eq (by simpa [ByteArray.toList_eq] using h)))
   have HR : Hid (RES = false) := by show _ = _; rw [← hRES.out]; exact decide_eq_false (fun h => h1 (by injection h))
   clear h1
   go_wp2_with fail
   go_ret
   exact ⟨congrArg (fun b => Ending.returned (.bool b)) HR.out.symm, HB2.out.b⟩
 subst h1
 by_cases h2 : xn = yn
 rotate_left
 · have q1 : (xi.toList == xi.toList) = true := beq_self_eq_true _
   have q2 : (xn.toList == yn.toList) = false := beq_eq_false_iff_ne.2 (fun h => h2 (bytes_eq (by simpa [ByteArray.toList_eq] using h)))
   have HR : Hid (RES = false) := by show _ = _; rw [← hRES.out]; exact decide_eq_false (fun h => h2 (by injection h))
   clear h2
   go_wp2_with fail
   go_ret
   exact ⟨congrArg (fun b => Ending.returned (.bool b)) HR.out.symm, HB2.out.b⟩
 subst h2
 have q1 : (xi.toList == xi.toList) = true := beq_self_eq_true _
 have q2 : (xn.toList == xn.toList) = true := beq_self_eq_true _
 have c1 := equalB xv yv _ _ w2 (HV1.out.below HB2.out.b) (HV2.out.below HB2.out.b) (by rw [HLV.out.1]; exact HCX.out.1) (by rw [HLV.out.2]; exact HCY.out.1)
 go_wp2_with fail
 refine c1.mono ?_
 rintro e w3 ⟨rfl, hb⟩
 have HB3 := hid (HB2.out.below hb)
 clear hb c1 a0 a1 a2 a3 a4 b0 b1 b2 b3 b4 HB2
 obtain ⟨a0, a1, a2, a3, a4, -, -, -, -, -⟩ := rowN5 HB3.out.x
 obtain ⟨b0, b1, b2, b3, b4, -, -, -, -, -⟩ := rowN5 HB3.out.y
 by_cases h3 : xv = yv
 rotate_left
 · rw [decide_eq_false h3]
   have HR : Hid (RES = false) := by show _ = _; rw [← hRES.out]; exact decide_eq_false (fun h => h3 (by injection h))
   clear h3
   go_wp2_with fail
   go_ret
   exact ⟨congrArg (fun b => Ending.returned (.bool b)) HR.out.symm, HB3.out.b⟩
 rw [decide_eq_true h3]
 have H3 := hid h3
 clear h3
 have c1 := equalE xe ye _ _ w3 (HE1.out.below HB3.out.b) (HE2.out.below HB3.out.b) (by rw [HLE.out.1]; exact HCX.out.2.1) (by rw [HLE.out.2]; exact HCY.out.2.1)
 go_wp2_with fail
 refine c1.mono ?_
 rintro e w4 ⟨rfl, hb⟩
 have HB4 := hid (HB3.out.below hb)
 clear hb c1 a0 a1 a2 a3 a4 b0 b1 b2 b3 b4 HB3
 obtain ⟨a0, a1, a2, a3, a4, -, -, -, -, -⟩ := rowN5 HB4.out.x
 obtain ⟨b0, b1, b2, b3, b4, -, -, -, -, -⟩ := rowN5 HB4.out.y
 by_cases h4 : xe = ye
 rotate_left
 · rw [decide_eq_false h4]
   have HR : Hid (RES = false) := by show _ = _; rw [← hRES.out]; exact decide_eq_false (fun h => h4 (by injection h))
   clear h4
   go_wp2_with fail
   go_ret
   exact ⟨congrArg (fun b => Ending.returned (.bool b)) HR.out.symm, HB4.out.b⟩
 rw [decide_eq_true h4]
 have H4 := hid h4
 clear h4
 have c1 := equalF xf yf _ _ w4 (HF1.out.below HB4.out.b) (HF2.out.below HB4.out.b) (by rw [HLF.out.1]; exact HCX.out.2.2) (by rw [HLF.out.2]; exact HCY.out.2.2)
 go_wp2_with fail
 refine c1.mono ?_
 rintro e w5 ⟨rfl, hb⟩
 have HB5 := hid (HB4.out.below hb)
 clear hb c1 a0 a1 a2 a3 a4 b0 b1 b2 b3 b4 HB4
 have HR : Hid (decide (xf = yf) = RES) := by
   show _ = _
   rw [← hRES.out, H3.out, H4.out, decide_eq_decide]
   exact ⟨fun h => by rw [h], fun h => by injection h⟩
 rw [HR.out]
 go_wp2_with fail
 go_ret
 exact ⟨rfl, HB5.out.b⟩
theorem rsame_any {x y : Mdl} {xs ys : List Value} {w : World} (hx : MIn w x xs) (hy : MIn w y ys) (cx : x.cut) (cy : y.cut) :
   Calls Tryz.prog 11 #[.agg xs.toArray, .agg ys.toArray] w fun e w' => e = .returned (.bool (decide (x = y))) ∧ Below w.heap.size w w' := by
 obtain ⟨va, vc, ea, ec, fa, fc, rfl⟩ := hx.shape
 obtain ⟨va', vc', ea', ec', fa', fc', rfl⟩ := hy.shape
 obtain ⟨RES, hRES⟩ : ∃ r, decide (x = y) = r := ⟨_, rfl⟩
 rw [hRES]
 have hRES := hid hRES
 obtain ⟨xi, xn, xv, xe, xf⟩ := x
 obtain ⟨yi, yn, yv, ye, yf⟩ := y
 obtain ⟨v1, e1, f1, he1, hv1, hee1, hf1⟩ := hx
 obtain ⟨v2, e2, f2, he2, hv2, hee2, hf2⟩ := hy
 simp only [List.cons.injEq, and_true, true_and] at he1 he2
 obtain ⟨rfl, rfl, rfl⟩ := he1
 obtain ⟨rfl, rfl, rfl⟩ := he2
 simp only at hv1 hee1 hf1 hv2 hee2 hf2 hRES ⊢
 have HCX : Hid (xv.length ≤ 9000000000000 ∧ xe.length ≤ 9000000000000 ∧ xf.length ≤ 9000000000000) := cx
 have HCY : Hid (yv.length ≤ 9000000000000 ∧ ye.length ≤ 9000000000000 ∧ yf.length ≤ 9000000000000) := cy
 have HV1 := hid hv1
 have HE1 := hid hee1
 have HF1 := hid hf1
 have HV2 := hid hv2
 have HE2 := hid hee2
 have HF2 := hid hf2
 clear hv1 hee1 hf1 hv2 hee2 hf2 cx cy
 obtain ⟨vl, hvl⟩ : ∃ n, xv.length = n := ⟨_, rfl⟩
 obtain ⟨el, hel⟩ : ∃ n, xe.length = n := ⟨_, rfl⟩
 obtain ⟨fl, hfl⟩ : ∃ n, xf.length = n := ⟨_, rfl⟩
 obtain ⟨vl', hvl'⟩ : ∃ n, yv.length = n := ⟨_, rfl⟩
 obtain ⟨el', hel'⟩ : ∃ n, ye.length = n := ⟨_, rfl⟩
 obtain ⟨fl', hfl'⟩ : ∃ n, yf.length = n := ⟨_, rfl⟩
 rw [hvl] at HV1 HCX
 rw [hel] at HE1 HCX
 rw [hfl] at HF1 HCX
 rw [hvl'] at HV2 HCY
 rw [hel'] at HE2 HCY
 rw [hfl'] at HF2 HCY
 rw [hvl, hel, hfl, hvl', hel', hfl']
 have HLV : Hid (xv.length = vl ∧ yv.length = vl') := ⟨hvl, hvl'⟩
 have HLE : Hid (xe.length = el ∧ ye.length = el') := ⟨hel, hel'⟩
 have HLF : Hid (xf.length = fl ∧ yf.length = fl') := ⟨hfl, hfl'⟩
 obtain ⟨H, hH⟩ : ∃ H, w.heap.size = H := ⟨_, rfl⟩
 obtain ⟨w2, hw2⟩ : ∃ u, (w.alloc (.cells #[.string xi, .string xn, .slice va vl vc, .slice ea el ec, .slice fa fl fc] 30)).alloc (.cells #[.string yi, .string yn, .slice va' vl' vc', .slice ea' el' ec', .slice fa' fl' fc'] 30) = u := ⟨_, rfl⟩
 have HB2 : Hid (BX w H [.string xi, .string xn, .slice va vl vc, .slice ea el ec, .slice fa fl fc] [.string yi, .string yn, .slice va' vl' vc', .slice ea' el' ec', .slice fa' fl' fc'] w2) := by
   show BX _ _ _ _ _
   rw [← hw2, ← hH]
   exact bx_first w _ _
 have HW2 := hid hw2
 have HHE := hid hH
 clear hvl hel hfl hvl' hel' hfl' hw2 hH
 obtain ⟨a0, a1, a2, a3, a4, -, -, -, -, -⟩ := rowN5 HB2.out.x
 obtain ⟨b0, b1, b2, b3, b4, -, -, -, -, -⟩ := rowN5 HB2.out.y
 go_enter Tryz.func11, Tryz.ntmps11
 go_upto_region 1 with fail
 rw [HW2.out, HHE.out]
 clear HW2
 by_cases h1 : xi = yi
 rotate_left
 · have q1 : (xi.toList == yi.toList) = false := beq_eq_false_iff_ne.2 (fun h => h1 (bytes_eq (by simpa [ByteArray.toList_eq] using h)))
   have q1n : (xi.toList != yi.toList) = true := by rw [bne, q1]; rfl
   have HR : Hid (RES = false) := by show _ = _; rw [← hRES.out]; exact decide_eq_false (fun h => h1 (by injection h))
   clear h1
   go_wp2_with fail
   go_ret
   exact ⟨congrArg (fun b => Ending.returned (.bool b)) HR.out.symm, HB2.out.b⟩
 subst h1
 have q1 : (xi.toList == xi.toList) = true := beq_self_eq_true _
 have q1n : (xi.toList != xi.toList) = false := by rw [bne, q1]; rfl
 by_cases h2 : xn = yn
 rotate_left
 · have q2 : (xn.toList == yn.toList) = false := beq_eq_false_iff_ne.2 (fun h => h2 (bytes_eq (by simpa [ByteArray.toList_eq] using h)))
   have q2n : (xn.toList != yn.toList) = true := by rw [bne, q2]; rfl
   have HR : Hid (RES = false) := by show _ = _; rw [← hRES.out]; exact decide_eq_false (fun h => h2 (by injection h))
   clear h2
   go_wp2_with fail
   go_ret
   exact ⟨congrArg (fun b => Ending.returned (.bool b)) HR.out.symm, HB2.out.b⟩
 subst h2
 have q2 : (xn.toList == xn.toList) = true := beq_self_eq_true _
 have q2n : (xn.toList != xn.toList) = false := by rw [bne, q2]; rfl
 by_cases h3 : vl = vl'
 rotate_left
 · have q3 : ((vl : Int) != (vl' : Int)) = true := bne_iff_ne.2 (by omega)
   have q3n : ((vl : Int) == (vl' : Int)) = false := beq_eq_false_iff_ne.2 (by omega)
   have HR : Hid (RES = false) := by show _ = _; rw [← hRES.out]; exact decide_eq_false (fun h => h3 (by have h := (show xv = yv by injection h); rw [← HLV.out.1, ← HLV.out.2, h]))
   clear h3
   go_wp2_with fail
   go_ret
   exact ⟨congrArg (fun b => Ending.returned (.bool b)) HR.out.symm, HB2.out.b⟩
 subst h3
 have q3 : ((vl : Int) != (vl : Int)) = false := by simp
 by_cases h4 : el = el'
 rotate_left
 · have q4 : ((el : Int) != (el' : Int)) = true := bne_iff_ne.2 (by omega)
   have q4n : ((el : Int) == (el' : Int)) = false := beq_eq_false_iff_ne.2 (by omega)
   have HR : Hid (RES = false) := by show _ = _; rw [← hRES.out]; exact decide_eq_false (fun h => h4 (by have h := (show xe = ye by injection h); rw [← HLE.out.1, ← HLE.out.2, h]))
   clear h4
   go_wp2_with fail
   go_ret
   exact ⟨congrArg (fun b => Ending.returned (.bool b)) HR.out.symm, HB2.out.b⟩
 subst h4
 have q4 : ((el : Int) != (el : Int)) = false := by simp
 by_cases h5 : fl = fl'
 rotate_left
 · have q5 : ((fl : Int) != (fl' : Int)) = true := bne_iff_ne.2 (by omega)
   have q5n : ((fl : Int) == (fl' : Int)) = false := beq_eq_false_iff_ne.2 (by omega)
   have HR : Hid (RES = false) := by show _ = _; rw [← hRES.out]; exact decide_eq_false (fun h => h5 (by have h := (show xf = yf by injection h); rw [← HLF.out.1, ← HLF.out.2, h]))
   clear h5
   go_wp2_with fail
   go_ret
   exact ⟨congrArg (fun b => Ending.returned (.bool b)) HR.out.symm, HB2.out.b⟩
 subst h5
 have q5 : ((fl : Int) != (fl : Int)) = false := by simp
 go_wp2_with fail
 clear a0 a1 a2 a3 a4 b0 b1 b2 b3 b4 q1 q1n q2 q2n q3 q4 q5
 go_loopw [5] (fun vi wr => ∃ (i : Nat), vi = .int .i64 i ∧ i ≤ vl ∧ Hid (xv.take i = yv.take i) ∧ Hid (BX w H [.string xi, .string xn, .slice va vl vc, .slice ea el ec, .slice fa fl fc] [.string xi, .string xn, .slice va' vl vc', .slice ea' el ec', .slice fa' fl fc'] wr)) (fun vi _ => vl - (intOf vi).toNat)
 case atStart => exact ⟨0, rfl, Nat.zero_le _, hid rfl, HB2⟩
 case round =>
   obtain ⟨i, rfl, hi, HI, HB⟩ := hrel
   obtain ⟨a0, a1, a2, a3, a4, -, -, -, -, -⟩ := rowN5 HB.out.x
   obtain ⟨b0, b1, b2, b3, b4, -, -, -, -, -⟩ := rowN5 HB.out.y
   by_cases hlt : i < vl
   · have t0 : decide ((i : Int) < (vl : Int)) = true := decide_eq_true (by omega)
     have t0' : decide (i < vl) = true := decide_eq_true (by omega)
     have hi0 : (0 : Int) ≤ (i : Int) := by omega
     have hi1 : (i : Int) < (vl : Int) := by omega
     obtain ⟨g, o, x, hga, hg, hc, -, hx, hcx⟩ := HV1.out.at (i := i) (by rw [HLV.out.1]; exact hlt)
     obtain ⟨g', o', y, hga', hg', hc', -, hy, hcy⟩ := HV2.out.at (i := i) (by rw [HLV.out.2]; exact hlt)
     subst hga hga'
     have HE : Hid (x = y → xv.take (i + 1) = yv.take (i + 1)) := fun h => take_eq HI.out hx hy h
     have HF : Hid (x ≠ y → RES = false) := fun h => by
       rw [← hRES.out]
       exact decide_eq_false (fun h' => take_ne hx hy h (show xv = yv by injection h'))
     have hN := fun Z => Bd.neq x y Z
     obtain ⟨q, hq⟩ : ∃ q, (!decide (x = y)) = q := ⟨_, rfl⟩
     rw [hq] at hN
     obtain ⟨c0, c1, c2, c3, c4, hxc⟩ := cellsB x
     obtain ⟨d0, d1, d2, d3, d4, hyc⟩ := cellsB y
     rw [hxc] at hcx hN
     rw [hyc] at hcy hN
     have C0 := (HB.out.b.cell (p := ⟨g, o + i * 5 + 0, none⟩) hg).trans (hcx 0 _ rfl)
     have C1 := (HB.out.b.cell (p := ⟨g, o + i * 5 + 1, none⟩) hg).trans (hcx 1 _ rfl)
     have C2 := (HB.out.b.cell (p := ⟨g, o + i * 5 + 2, none⟩) hg).trans (hcx 2 _ rfl)
     have C3 := (HB.out.b.cell (p := ⟨g, o + i * 5 + 3, none⟩) hg).trans (hcx 3 _ rfl)
     have C4 := (HB.out.b.cell (p := ⟨g, o + i * 5 + 4, none⟩) hg).trans (hcx 4 _ rfl)
     rw [Nat.add_zero] at C0
     have D0 := (HB.out.b.cell (p := ⟨g', o' + i * 5 + 0, none⟩) hg').trans (hcy 0 _ rfl)
     have D1 := (HB.out.b.cell (p := ⟨g', o' + i * 5 + 1, none⟩) hg').trans (hcy 1 _ rfl)
     have D2 := (HB.out.b.cell (p := ⟨g', o' + i * 5 + 2, none⟩) hg').trans (hcy 2 _ rfl)
     have D3 := (HB.out.b.cell (p := ⟨g', o' + i * 5 + 3, none⟩) hg').trans (hcy 3 _ rfl)
     have D4 := (HB.out.b.cell (p := ⟨g', o' + i * 5 + 4, none⟩) hg').trans (hcy 4 _ rfl)
     rw [Nat.add_zero] at D0
     obtain ⟨i1, hi1'⟩ : ∃ i1, i + 1 = i1 := ⟨_, rfl⟩
     have HBD : vl ≤ 9000000000000 := HCX.out.1
     have e1 : IntKind.i64.wrap ((i : Int) + 1) = (i1 : Int) := by rw [IntKind.wrap_i64] <;> omega
     have HI1 : Hid (i1 ≤ vl ∧ vl - i1 < vl - i ∧ i + 1 = i1) := ⟨by omega, by omega, hi1'⟩
     have HQ : Hid ((q = false → x = y) ∧ (q = true → x ≠ y)) := ⟨fun h => by rw [h] at hq; simpa using hq, fun h => by rw [h] at hq; simpa using hq⟩
     clear hx hy hcx hcy hxc hyc hq hi1' hg hg'
     rcases q with _ | _
     · have HT : Hid (xv.take i1 = yv.take i1) := by show _ = _; rw [← HI1.out.2.2]; exact HE.out (HQ.out.1 rfl)
       clear HE HF HQ
       go_upto_region 6 with fail
       go_quiet (fail)
       have HBn : ∀ n, Hid (BX w H _ _ (wr.drewN n)) := fun n => HB.out.drawn n
       go_wp2_with fail
       go_roundw
       case rel => exact ⟨i1, rfl, HI1.out.1, HT, HBn _⟩
       case measure => simpa [intOf] using HI1.out.2.1
     · have HR : Hid (RES = false) := HF.out (HQ.out.2 rfl)
       clear HE HF HQ
       go_upto_region 6 with fail
       go_quiet (fail)
       go_wp2_with fail
       go_ret
       exact ⟨congrArg (fun b => Ending.returned (.bool b)) HR.out.symm, below_drewN HB.out.b _⟩
   · have t0 : decide ((i : Int) < (vl : Int)) = false := decide_eq_false (by omega)
     have t0' : decide (i < vl) = false := decide_eq_false (by omega)
     have HS0 : Hid (xv = yv) := by
       show _ = _
       have := HI.out
       rw [List.take_of_length_le (by rw [HLV.out.1]; omega), List.take_of_length_le (by rw [HLV.out.2]; omega)] at this
       exact this
     have HBX1 := hid HB.out
     clear hi hlt HI
     go_wp2_with fail
     clear a0 a1 a2 a3 a4 b0 b1 b2 b3 b4 t0 t0' HB
     go_loopw [6] (fun vi wr => ∃ (i : Nat), vi = .int .i64 i ∧ i ≤ el ∧ Hid (xe.take i = ye.take i) ∧ Hid (BX w H [.string xi, .string xn, .slice va vl vc, .slice ea el ec, .slice fa fl fc] [.string xi, .string xn, .slice va' vl vc', .slice ea' el ec', .slice fa' fl fc'] wr)) (fun vi _ => el - (intOf vi).toNat)
     case atStart => exact ⟨0, rfl, Nat.zero_le _, hid rfl, HBX1⟩
     case round =>
       obtain ⟨i, rfl, hi, HI, HB⟩ := hrel
       obtain ⟨a0, a1, a2, a3, a4, -, -, -, -, -⟩ := rowN5 HB.out.x
       obtain ⟨b0, b1, b2, b3, b4, -, -, -, -, -⟩ := rowN5 HB.out.y
       by_cases hlt : i < el
       · have t0 : decide ((i : Int) < (el : Int)) = true := decide_eq_true (by omega)
         have t0' : decide (i < el) = true := decide_eq_true (by omega)
         have hi0 : (0 : Int) ≤ (i : Int) := by omega
         have hi1 : (i : Int) < (el : Int) := by omega
         obtain ⟨g, o, x, hga, hg, hc, -, hx, hcx⟩ := HE1.out.at (i := i) (by rw [HLE.out.1]; exact hlt)
         obtain ⟨g', o', y, hga', hg', hc', -, hy, hcy⟩ := HE2.out.at (i := i) (by rw [HLE.out.2]; exact hlt)
         subst hga hga'
         have HE : Hid (x = y → xe.take (i + 1) = ye.take (i + 1)) := fun h => take_eq HI.out hx hy h
         have HF : Hid (x ≠ y → RES = false) := fun h => by
           rw [← hRES.out]
           exact decide_eq_false (fun h' => take_ne hx hy h (show xe = ye by injection h'))
         have hN := fun Z => Em.neq x y Z
         obtain ⟨q, hq⟩ : ∃ q, (!decide (x = y)) = q := ⟨_, rfl⟩
         rw [hq] at hN
         obtain ⟨c0, c1, c2, c3, c4, c5, c6, c7, c8, c9, c10, hxc⟩ := cellsE x
         obtain ⟨d0, d1, d2, d3, d4, d5, d6, d7, d8, d9, d10, hyc⟩ := cellsE y
         rw [hxc] at hcx hN
         rw [hyc] at hcy hN
         have C0 := (HB.out.b.cell (p := ⟨g, o + i * 11 + 0, none⟩) hg).trans (hcx 0 _ rfl)
         have C1 := (HB.out.b.cell (p := ⟨g, o + i * 11 + 1, none⟩) hg).trans (hcx 1 _ rfl)
         have C2 := (HB.out.b.cell (p := ⟨g, o + i * 11 + 2, none⟩) hg).trans (hcx 2 _ rfl)
         have C3 := (HB.out.b.cell (p := ⟨g, o + i * 11 + 3, none⟩) hg).trans (hcx 3 _ rfl)
         have C4 := (HB.out.b.cell (p := ⟨g, o + i * 11 + 4, none⟩) hg).trans (hcx 4 _ rfl)
         have C5 := (HB.out.b.cell (p := ⟨g, o + i * 11 + 5, none⟩) hg).trans (hcx 5 _ rfl)
         have C6 := (HB.out.b.cell (p := ⟨g, o + i * 11 + 6, none⟩) hg).trans (hcx 6 _ rfl)
         have C7 := (HB.out.b.cell (p := ⟨g, o + i * 11 + 7, none⟩) hg).trans (hcx 7 _ rfl)
         have C8 := (HB.out.b.cell (p := ⟨g, o + i * 11 + 8, none⟩) hg).trans (hcx 8 _ rfl)
         have C9 := (HB.out.b.cell (p := ⟨g, o + i * 11 + 9, none⟩) hg).trans (hcx 9 _ rfl)
         have C10 := (HB.out.b.cell (p := ⟨g, o + i * 11 + 10, none⟩) hg).trans (hcx 10 _ rfl)
         rw [Nat.add_zero] at C0
         have D0 := (HB.out.b.cell (p := ⟨g', o' + i * 11 + 0, none⟩) hg').trans (hcy 0 _ rfl)
         have D1 := (HB.out.b.cell (p := ⟨g', o' + i * 11 + 1, none⟩) hg').trans (hcy 1 _ rfl)
         have D2 := (HB.out.b.cell (p := ⟨g', o' + i * 11 + 2, none⟩) hg').trans (hcy 2 _ rfl)
         have D3 := (HB.out.b.cell (p := ⟨g', o' + i * 11 + 3, none⟩) hg').trans (hcy 3 _ rfl)
         have D4 := (HB.out.b.cell (p := ⟨g', o' + i * 11 + 4, none⟩) hg').trans (hcy 4 _ rfl)
         have D5 := (HB.out.b.cell (p := ⟨g', o' + i * 11 + 5, none⟩) hg').trans (hcy 5 _ rfl)
         have D6 := (HB.out.b.cell (p := ⟨g', o' + i * 11 + 6, none⟩) hg').trans (hcy 6 _ rfl)
         have D7 := (HB.out.b.cell (p := ⟨g', o' + i * 11 + 7, none⟩) hg').trans (hcy 7 _ rfl)
         have D8 := (HB.out.b.cell (p := ⟨g', o' + i * 11 + 8, none⟩) hg').trans (hcy 8 _ rfl)
         have D9 := (HB.out.b.cell (p := ⟨g', o' + i * 11 + 9, none⟩) hg').trans (hcy 9 _ rfl)
         have D10 := (HB.out.b.cell (p := ⟨g', o' + i * 11 + 10, none⟩) hg').trans (hcy 10 _ rfl)
         rw [Nat.add_zero] at D0
         obtain ⟨i1, hi1'⟩ : ∃ i1, i + 1 = i1 := ⟨_, rfl⟩
         have HBD : el ≤ 9000000000000 := HCX.out.2.1
         have e1 : IntKind.i64.wrap ((i : Int) + 1) = (i1 : Int) := by rw [IntKind.wrap_i64] <;> omega
         have HI1 : Hid (i1 ≤ el ∧ el - i1 < el - i ∧ i + 1 = i1) := ⟨by omega, by omega, hi1'⟩
         have HQ : Hid ((q = false → x = y) ∧ (q = true → x ≠ y)) := ⟨fun h => by rw [h] at hq; simpa using hq, fun h => by rw [h] at hq; simpa using hq⟩
         clear hx hy hcx hcy hxc hyc hq hi1' hg hg'
         rcases q with _ | _
         · have HT : Hid (xe.take i1 = ye.take i1) := by show _ = _; rw [← HI1.out.2.2]; exact HE.out (HQ.out.1 rfl)
           clear HE HF HQ
           go_upto_region 11 with fail
           go_quiet (fail)
           have HBn : ∀ n, Hid (BX w H _ _ (wr.drewN n)) := fun n => HB.out.drawn n
           go_wp2_with fail
           go_roundw
           case rel => exact ⟨i1, rfl, HI1.out.1, HT, HBn _⟩
           case measure => simpa [intOf] using HI1.out.2.1
         · have HR : Hid (RES = false) := HF.out (HQ.out.2 rfl)
           clear HE HF HQ
           go_upto_region 11 with fail
           go_quiet (fail)
           go_wp2_with fail
           go_ret
           exact ⟨congrArg (fun b => Ending.returned (.bool b)) HR.out.symm, below_drewN HB.out.b _⟩
       · have t0 : decide ((i : Int) < (el : Int)) = false := decide_eq_false (by omega)
         have t0' : decide (i < el) = false := decide_eq_false (by omega)
         have HS1 : Hid (xe = ye) := by
           show _ = _
           have := HI.out
           rw [List.take_of_length_le (by rw [HLE.out.1]; omega), List.take_of_length_le (by rw [HLE.out.2]; omega)] at this
           exact this
         have HBX2 := hid HB.out
         clear hi hlt HI
         go_wp2_with fail
         clear a0 a1 a2 a3 a4 b0 b1 b2 b3 b4 t0 t0' HB
         go_loopw [7] (fun vi wr => ∃ (i : Nat), vi = .int .i64 i ∧ i ≤ fl ∧ Hid (xf.take i = yf.take i) ∧ Hid (BX w H [.string xi, .string xn, .slice va vl vc, .slice ea el ec, .slice fa fl fc] [.string xi, .string xn, .slice va' vl vc', .slice ea' el ec', .slice fa' fl fc'] wr)) (fun vi _ => fl - (intOf vi).toNat)
         case atStart => exact ⟨0, rfl, Nat.zero_le _, hid rfl, HBX2⟩
         case round =>
           obtain ⟨i, rfl, hi, HI, HB⟩ := hrel
           obtain ⟨a0, a1, a2, a3, a4, -, -, -, -, -⟩ := rowN5 HB.out.x
           obtain ⟨b0, b1, b2, b3, b4, -, -, -, -, -⟩ := rowN5 HB.out.y
           by_cases hlt : i < fl
           · have t0 : decide ((i : Int) < (fl : Int)) = true := decide_eq_true (by omega)
             have t0' : decide (i < fl) = true := decide_eq_true (by omega)
             have hi0 : (0 : Int) ≤ (i : Int) := by omega
             have hi1 : (i : Int) < (fl : Int) := by omega
             obtain ⟨g, o, x, hga, hg, hc, -, hx, hcx⟩ := HF1.out.at (i := i) (by rw [HLF.out.1]; exact hlt)
             obtain ⟨g', o', y, hga', hg', hc', -, hy, hcy⟩ := HF2.out.at (i := i) (by rw [HLF.out.2]; exact hlt)
             subst hga hga'
             have HE : Hid (x = y → xf.take (i + 1) = yf.take (i + 1)) := fun h => take_eq HI.out hx hy h
             have HF : Hid (x ≠ y → RES = false) := fun h => by
               rw [← hRES.out]
               exact decide_eq_false (fun h' => take_ne hx hy h (show xf = yf by injection h'))
             have hN := fun Z => Fw.neq x y Z
             obtain ⟨q, hq⟩ : ∃ q, (!decide (x = y)) = q := ⟨_, rfl⟩
             rw [hq] at hN
             obtain ⟨c0, c1, c2, c3, hxc⟩ := cellsF x
             obtain ⟨d0, d1, d2, d3, hyc⟩ := cellsF y
             rw [hxc] at hcx hN
             rw [hyc] at hcy hN
             have C0 := (HB.out.b.cell (p := ⟨g, o + i * 4 + 0, none⟩) hg).trans (hcx 0 _ rfl)
             have C1 := (HB.out.b.cell (p := ⟨g, o + i * 4 + 1, none⟩) hg).trans (hcx 1 _ rfl)
             have C2 := (HB.out.b.cell (p := ⟨g, o + i * 4 + 2, none⟩) hg).trans (hcx 2 _ rfl)
             have C3 := (HB.out.b.cell (p := ⟨g, o + i * 4 + 3, none⟩) hg).trans (hcx 3 _ rfl)
             rw [Nat.add_zero] at C0
             have D0 := (HB.out.b.cell (p := ⟨g', o' + i * 4 + 0, none⟩) hg').trans (hcy 0 _ rfl)
             have D1 := (HB.out.b.cell (p := ⟨g', o' + i * 4 + 1, none⟩) hg').trans (hcy 1 _ rfl)
             have D2 := (HB.out.b.cell (p := ⟨g', o' + i * 4 + 2, none⟩) hg').trans (hcy 2 _ rfl)
             have D3 := (HB.out.b.cell (p := ⟨g', o' + i * 4 + 3, none⟩) hg').trans (hcy 3 _ rfl)
             rw [Nat.add_zero] at D0
             obtain ⟨i1, hi1'⟩ : ∃ i1, i + 1 = i1 := ⟨_, rfl⟩
             have HBD : fl ≤ 9000000000000 := HCX.out.2.2
             have e1 : IntKind.i64.wrap ((i : Int) + 1) = (i1 : Int) := by rw [IntKind.wrap_i64] <;> omega
             have HI1 : Hid (i1 ≤ fl ∧ fl - i1 < fl - i ∧ i + 1 = i1) := ⟨by omega, by omega, hi1'⟩
             have HQ : Hid ((q = false → x = y) ∧ (q = true → x ≠ y)) := ⟨fun h => by rw [h] at hq; simpa using hq, fun h => by rw [h] at hq; simpa using hq⟩
             clear hx hy hcx hcy hxc hyc hq hi1' hg hg'
             rcases q with _ | _
             · have HT : Hid (xf.take i1 = yf.take i1) := by show _ = _; rw [← HI1.out.2.2]; exact HE.out (HQ.out.1 rfl)
               clear HE HF HQ
               go_upto_region 16 with fail
               go_quiet (fail)
               have HBn : ∀ n, Hid (BX w H _ _ (wr.drewN n)) := fun n => HB.out.drawn n
               go_wp2_with fail
               go_roundw
               case rel => exact ⟨i1, rfl, HI1.out.1, HT, HBn _⟩
               case measure => simpa [intOf] using HI1.out.2.1
             · have HR : Hid (RES = false) := HF.out (HQ.out.2 rfl)
               clear HE HF HQ
               go_upto_region 16 with fail
               go_quiet (fail)
               go_wp2_with fail
               go_ret
               exact ⟨congrArg (fun b => Ending.returned (.bool b)) HR.out.symm, below_drewN HB.out.b _⟩
           · have t0 : decide ((i : Int) < (fl : Int)) = false := decide_eq_false (by omega)
             have t0' : decide (i < fl) = false := decide_eq_false (by omega)
             have HS2 : Hid (xf = yf) := by
               show _ = _
               have := HI.out
               rw [List.take_of_length_le (by rw [HLF.out.1]; omega), List.take_of_length_le (by rw [HLF.out.2]; omega)] at this
               exact this
             have HBX3 := hid HB.out
             clear hi hlt HI
             have HR : Hid (RES = true) := by
               show _ = _
               rw [← hRES.out, HS0.out, HS1.out, HS2.out]
               exact decide_eq_true rfl
             go_wp2_with fail
             go_ret
             exact ⟨congrArg (fun b => Ending.returned (.bool b)) HR.out.symm, HBX3.out.b⟩
end Go.Proofs.YteejphiklpnjhaaGreatDoor
