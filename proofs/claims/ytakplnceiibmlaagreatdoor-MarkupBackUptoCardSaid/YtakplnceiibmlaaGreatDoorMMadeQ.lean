/- What made holds in memory. -/
import Derived.Test.YtakplnceiibmlaaGreatDoorMTreeA
import Derived.Deep.CutRange
import Derived.Deep.CutBlock
import Derived.LoopTactic
namespace Go.Proofs.YtakplnceiibmlaaGreatDoor
open Go.RowKit
open Go.Lib (hid)
/-- the boxes of a tree that is written, of what is answered, of the node -/
structure MS (W : World) (TR : Array Value) (N : Nat) (NC : Array Value) (w : World) : Prop where
  t : w.heap[W.heap.size]? = some (.cells TR 43 (0, 0))
  r : ∃ x0 x1 x2 x3 x4 x5 x6, w.heap[W.heap.size + 1]? = some (.cells #[x0, x1, x2, x3, x4, x5, x6] 28 (0, 0))
  n : w.heap[N]? = some (.cells NC 28 (0, 0))
  lo : W.heap.size + 2 ≤ N
  b : Below W.heap.size W w
section
variable {W w w' : World} {TR NC : Array Value} {N : Nat}
theorem MS.below (h : MS W TR N NC w) (hb : Below w.heap.size w w') : MS W TR N NC w' := by
  obtain ⟨x0, x1, x2, x3, x4, x5, x6, hr⟩ := h.r
  exact ⟨by rw [hb.block _ (Go.lt_of_block h.t)]; exact h.t, ⟨x0, x1, x2, x3, x4, x5, x6, by rw [hb.block _ (Go.lt_of_block hr)]; exact hr⟩, by rw [hb.block _ (Go.lt_of_block h.n)]; exact h.n, h.lo, h.b.trans (hb.mono h.b.size)⟩
theorem MS.drew (h : MS W TR N NC w) : MS W TR N NC w.drew := h.below (Below.refl _ w).drew
theorem MS.set (h : MS W TR N NC w) (i : Nat) (v : Value) : MS W TR N (NC.setIfInBounds i v) (w.setCell ⟨N, i, none⟩ v) := by
  obtain ⟨x0, x1, x2, x3, x4, x5, x6, hr⟩ := h.r
  have hlo := h.lo
  exact ⟨(heap_setCell_other w ⟨N, i, none⟩ _ v (by simp; omega)).trans h.t, ⟨x0, x1, x2, x3, x4, x5, x6, (heap_setCell_other w ⟨N, i, none⟩ _ v (by simp; omega)).trans hr⟩, row_set h.n i v, h.lo, h.b.setCell (p := ⟨N, i, none⟩) (by show _ ≤ N; omega) v⟩
/-- a row beyond the node is written -/
theorem MS.grown {g : Option Nat} (h : MS W TR N NC w) (hg : w.grownBy w' g) (hN : ∀ k, g = some k → N < k) : MS W TR N NC w' := by
  obtain ⟨x0, x1, x2, x3, x4, x5, x6, hr⟩ := h.r
  have hlo := h.lo
  exact ⟨by rw [hg.block _ (Go.lt_of_block h.t) (fun e => by have := hN _ e.symm; omega)]; exact h.t, ⟨x0, x1, x2, x3, x4, x5, x6, by rw [hg.block _ (Go.lt_of_block hr) (fun e => by have := hN _ e.symm; omega)]; exact hr⟩, by rw [hg.block _ (Go.lt_of_block h.n) (fun e => by have := hN _ e.symm; omega)]; exact h.n, h.lo,
    h.b.grown hg h.b.size (fun k e => by have := hN k e; omega)⟩
end
theorem row5s {X : Nat} {c0 c1 c2 c3 c4 : Value} {W : World} {E : TypeId} (h : W.heap[X]? = some (.cells #[c0, c1, c2, c3, c4] E (0, 0))) :
    W.cell? ⟨X, 0, none⟩ = some c0 ∧ W.cell? ⟨X, 1, none⟩ = some c1 ∧ W.cell? ⟨X, 2, none⟩ = some c2 ∧ W.cell? ⟨X, 3, none⟩ = some c3 ∧ W.cell? ⟨X, 4, none⟩ = some c4 :=
  ⟨rowCell h 0, rowCell h 1, rowCell h 2, rowCell h 3, rowCell h 4⟩
/-- how made ends -/
def MadeOf (W : World) (P : List (List UInt8)) (sep : List UInt8) (d sp lo : Nat) (al : List X.Say) (tx : List ByteArray) (ks : X.WT) (en : Ending) (W' : World) : Prop :=
  Below W.heap.size W W' ∧ ((X.treeOk d al tx ks = true ∧ ∃ cs, en = .returned (.tuple #[.agg cs.toArray, .string (X.ba (X.elemT P sep d sp lo al tx ks)), .bool true]) ∧ (X.nodeT d sp lo al tx ks).Has W' (OwnN W' W.heap.size none) cs) ∨
    (X.treeOk d al tx ks = false ∧ ∃ (x y t : ByteArray) (a1 : Option Addr) (n1 c1 : Nat) (a2 : Option Addr) (n2 c2 : Nat), en = .returned (.tuple #[.agg #[.string x, .string y, .slice a1 n1 c1, .slice a2 n2 c2, .string t, .int .i64 0, .int .i64 0], .string (X.ba []), .bool false])))
theorem ba_cat (a b : List UInt8) : X.ba a ++ X.ba b = X.ba (a ++ b) := X.ba_add a b
theorem ba_size (l : List UInt8) : (X.ba l).size = l.length := by show l.toArray.size = _; simp
theorem tag_two {P : List (List UInt8)} (hP : X.Pre P) (sp lo : Nat) (h : sp % 4 ≠ 0) : X.ba (P.getD (sp % 4) []) ++ (⟨#[58]⟩ : ByteArray) ++ X.ba (X.nm lo) = X.ba (X.tagT P sp lo) := by
  have hne : X.Pn P sp ≠ [] := by
    obtain ⟨c, r, e, _⟩ := hP.part (sp % 4) (by omega) (by omega)
    unfold X.Pn; rw [e]; simp
  rw [show (⟨#[58]⟩ : ByteArray) = X.ba [58] from rfl, ba_cat, ba_cat]
  unfold X.tagT X.nmT
  rw [if_neg hne]
  unfold X.Pn
  simp
theorem tag_one {P : List (List UInt8)} (hP : X.Pre P) (sp lo : Nat) (h : sp % 4 = 0) : X.ba (X.nm lo) = X.ba (X.tagT P sp lo) := by
  unfold X.tagT X.nmT X.Pn
  rw [h, hP.p0, if_pos rfl]
def rootX (P : List (List UInt8)) (i : Nat) : X.T := ⟨39, X.xmlns, P.getD i [], X.spc i⟩
theorem root_step {P : List (List UInt8)} {sep S : List UInt8} {sb : ByteArray} (hsb : X.ba sep = sb) (i : Nat) (h1 : 1 ≤ i) (h4 : i < 4) :
    X.ba S ++ sb ++ (⟨#[120, 109, 108, 110, 115, 58]⟩ : ByteArray) ++ X.ba (P.getD i []) ++ (⟨#[61, 39]⟩ : ByteArray) ++ X.ba (X.spc i) ++ (⟨#[39]⟩ : ByteArray) = X.ba (S ++ (sep ++ (rootX P i).text)) := by
  have he : X.escL (X.spc i) = X.spc i := by
    have : i = 1 ∨ i = 2 ∨ i = 3 := by omega
    rcases this with rfl | rfl | rfl <;> decide
  rw [← hsb, show (⟨#[120, 109, 108, 110, 115, 58]⟩ : ByteArray) = X.ba [120, 109, 108, 110, 115, 58] from rfl, show (⟨#[61, 39]⟩ : ByteArray) = X.ba [61, 39] from rfl, show (⟨#[39]⟩ : ByteArray) = X.ba [39] from rfl]
  rw [ba_cat, ba_cat, ba_cat, ba_cat, ba_cat, ba_cat]
  congr 1
  unfold rootX X.T.text X.nmT
  rw [if_neg (show ¬ X.xmlns = [] by decide), he]
  unfold X.xmlns
  simp
theorem rootX_len {P : List (List UInt8)} (hP : X.Pre P) (i : Nat) (h1 : 1 ≤ i) (h4 : i < 4) : (rootX P i).text.length ≤ 120 := by
  have h2 := (hP.part i h1 h4).len
  have h3 : (X.escL (X.spc i)).length ≤ 54 := by
    have := X.escL_len (X.spc i)
    have := X.spc_len i
    omega
  unfold rootX X.T.text X.nmT
  rw [if_neg (show ¬ X.xmlns = [] by decide)]
  have : X.xmlns.length = 5 := rfl
  simp only [List.length_append, List.length_cons, List.length_nil]
  omega
theorem root_take (P : List (List UInt8)) (sep : List UInt8) (i : Nat) (h1 : 1 ≤ i) (h4 : i < 4) : X.texts sep ((X.rootT P 0).take i) = X.texts sep ((X.rootT P 0).take (i - 1)) ++ (sep ++ (rootX P i).text) := by
  have : i = 1 ∨ i = 2 ∨ i = 3 := by omega
  rcases this with rfl | rfl | rfl
  all_goals
    unfold X.rootT
    rw [if_pos rfl]
    simp [X.texts, rootX]
theorem results_trio {P : Program} {fn : Func} {p q r : Tmp} {ty : TypeId} (h : fn.results = #[.cell p ty, .tmp q, .tmp r]) (tmps : Array Value) (w : World) (g : Nat) (t : TypeId) (cs : Array Value) (fr : Nat × Nat) (d : TypeDesc) (v u : Value)
    (hp : tmps.getD p undef = .pointer (some ⟨g, 0, none⟩)) (hg : w.heap[g]? = some (.cells cs t fr)) (hq : tmps.getD q undef = v) (hr : tmps.getD r undef = u)
    (hu : P.underlying ty = some d) (hd : (match d with | .struct _ | .array _ _ => true | _ => false) = true) (hi : (P.info? ty).map (·.size) = some cs.size) :
    (results fn tmps).run P w = .ok (.tuple #[.agg cs, v, u]) w := by
  have hp' : tmps[p]?.getD undef = .pointer (some ⟨g, 0, none⟩) := by simpa using hp
  have hq' : tmps[q]?.getD undef = v := by simpa using hq
  have hr' : tmps[r]?.getD undef = u := by simpa using hr
  simp [results, h, hp', hq', hr', asAddr, run_loadVar_row w g t ty cs fr d hg hu hd hi]
theorem infoNodeT : (Tryz.prog.info? 28).map (·.size) = some 7 := by kernel_rfl
theorem infoAttrT : (Tryz.prog.info? 50).map (fun i => (i.zero, i.size, i.bytes)) = some (some (.agg #[.string ⟨#[]⟩, .string ⟨#[]⟩, .string ⟨#[]⟩]), 3, 48) := by kernel_rfl
theorem set7_row {w : World} {b : Nat} {x0 x1 x2 x3 x4 x5 x6 : Value} {T : TypeId} (h : w.heap[b]? = some (.cells #[x0, x1, x2, x3, x4, x5, x6] T (0, 0))) (v0 v1 v2 v3 v4 v5 v6 : Value) :
    (((((((w.setCell ⟨b, 0, none⟩ v0).setCell ⟨b, 1, none⟩ v1).setCell ⟨b, 2, none⟩ v2).setCell ⟨b, 3, none⟩ v3).setCell ⟨b, 4, none⟩ v4).setCell ⟨b, 5, none⟩ v5).setCell ⟨b, 6, none⟩ v6).heap[b]? = some (.cells #[v0, v1, v2, v3, v4, v5, v6] T (0, 0)) := by
  have h0 : ((w).setCell ⟨b, 0, none⟩ v0).heap[b]? = some (.cells #[v0, x1, x2, x3, x4, x5, x6] T (0, 0)) := row_set h 0 v0
  have h1 : ((((w).setCell ⟨b, 0, none⟩ v0)).setCell ⟨b, 1, none⟩ v1).heap[b]? = some (.cells #[v0, v1, x2, x3, x4, x5, x6] T (0, 0)) := row_set h0 1 v1
  have h2 : ((((((w).setCell ⟨b, 0, none⟩ v0)).setCell ⟨b, 1, none⟩ v1)).setCell ⟨b, 2, none⟩ v2).heap[b]? = some (.cells #[v0, v1, v2, x3, x4, x5, x6] T (0, 0)) := row_set h1 2 v2
  have h3 : ((((((((w).setCell ⟨b, 0, none⟩ v0)).setCell ⟨b, 1, none⟩ v1)).setCell ⟨b, 2, none⟩ v2)).setCell ⟨b, 3, none⟩ v3).heap[b]? = some (.cells #[v0, v1, v2, v3, x4, x5, x6] T (0, 0)) := row_set h2 3 v3
  have h4 : ((((((((((w).setCell ⟨b, 0, none⟩ v0)).setCell ⟨b, 1, none⟩ v1)).setCell ⟨b, 2, none⟩ v2)).setCell ⟨b, 3, none⟩ v3)).setCell ⟨b, 4, none⟩ v4).heap[b]? = some (.cells #[v0, v1, v2, v3, v4, x5, x6] T (0, 0)) := row_set h3 4 v4
  have h5 : ((((((((((((w).setCell ⟨b, 0, none⟩ v0)).setCell ⟨b, 1, none⟩ v1)).setCell ⟨b, 2, none⟩ v2)).setCell ⟨b, 3, none⟩ v3)).setCell ⟨b, 4, none⟩ v4)).setCell ⟨b, 5, none⟩ v5).heap[b]? = some (.cells #[v0, v1, v2, v3, v4, v5, x6] T (0, 0)) := row_set h4 5 v5
  have h6 : ((((((((((((((w).setCell ⟨b, 0, none⟩ v0)).setCell ⟨b, 1, none⟩ v1)).setCell ⟨b, 2, none⟩ v2)).setCell ⟨b, 3, none⟩ v3)).setCell ⟨b, 4, none⟩ v4)).setCell ⟨b, 5, none⟩ v5)).setCell ⟨b, 6, none⟩ v6).heap[b]? = some (.cells #[v0, v1, v2, v3, v4, v5, v6] T (0, 0)) := row_set h5 6 v6
  exact h6
theorem set7_grown (w : World) (b : Nat) (v0 v1 v2 v3 v4 v5 v6 : Value) : w.grownBy (((((((w.setCell ⟨b, 0, none⟩ v0).setCell ⟨b, 1, none⟩ v1).setCell ⟨b, 2, none⟩ v2).setCell ⟨b, 3, none⟩ v3).setCell ⟨b, 4, none⟩ v4).setCell ⟨b, 5, none⟩ v5).setCell ⟨b, 6, none⟩ v6) (some b) :=
  (grown_set 0 v0).trans ((grown_set 1 v1).trans ((grown_set 2 v2).trans ((grown_set 3 v3).trans ((grown_set 4 v4).trans ((grown_set 5 v5).trans (grown_set 6 v6))))))
/-- the node's cells while its attributes are laid -/
def ncA (sp lo : Nat) (nav : Value) : Array Value := #[.string (X.ba (X.spc sp)), .string (X.ba (X.nm lo)), nav, .slice none 0 0, .string ⟨#[]⟩, .int .i64 0, .int .i64 0]
/-- an attribute to be written, in its box -/
structure LS (W : World) (TR : Array Value) (N sp lo : Nat) (L : List X.Say) (nav : Value) (B : Nat) (x : X.Say) (w : World) : Prop where
  m : MS W TR N (ncA sp lo nav) w
  a : AOwn (N + 1) (L.map X.sayA) nav w
  x : w.heap[B]? = some (.cells #[.int .u8 x.sp, .int .u8 x.lo, .string x.va] 69 (0, 0))
  ap : nav.ownBlock ≠ some B
  nb : N < B
theorem LS.below {W w w' : World} {TR : Array Value} {N sp lo B : Nat} {L : List X.Say} {nav : Value} {x : X.Say} (h : LS W TR N sp lo L nav B x w) (hb : Below w.heap.size w w') : LS W TR N sp lo L nav B x w' :=
  ⟨h.m.below hb, h.a.below hb, by rw [hb.block _ (Go.lt_of_block h.x)]; exact h.x, h.ap, h.nb⟩
/-- one attribute more -/
theorem LS.push {W w w' : World} {TR : Array Value} {N sp lo B g cap : Nat} {L : List X.Say} {nav : Value} {x : X.Say} (h : LS W TR N sp lo L nav B x w)
    (hown : w'.ownsRow (N + 1) 50 3 (.slice (some ⟨g, 0, none⟩) (L.length + 1) cap) (L.length + 1) (attrsC (L.map X.sayA) ++ attrC (X.sayA x))) (hg : w.grownBy w' nav.ownBlock) (hat : nav.ownBlock = some g ∨ g = w.heap.size) :
    LS W TR N sp lo (L ++ [x]) (.slice (some ⟨g, 0, none⟩) (L.length + 1) cap) B x (w'.setCell ⟨N, 2, none⟩ (.slice (some ⟨g, 0, none⟩) (L.length + 1) cap)) := by
  have hlt := fun k hk => World.ownsRow.lt h.a (k := k) hk
  have hBl := Go.lt_of_block h.x
  have hm : MS W TR N (ncA sp lo nav) w' := h.m.grown hg (fun k hk => by have := (hlt k hk).1; omega)
  have hgB : g ≠ B := by
    intro e
    subst e
    rcases hat with h1 | h1
    · exact h.ap h1
    · omega
  have hg2 := World.ownsRow.lt hown (k := g) rfl
  have hx : w'.heap[B]? = some (.cells #[.int .u8 x.sp, .int .u8 x.lo, .string x.va] 69 (0, 0)) := by rw [hg.block _ hBl (fun e => h.ap e.symm)]; exact h.x
  have hnb := h.nb
  refine ⟨hm.set 2 _, ?_, (heap_setCell_other w' ⟨N, 2, none⟩ B _ (by simp; omega)).trans hx, fun e => hgB (Option.some.inj e), h.nb⟩
  have ha : AOwn (N + 1) ((L ++ [x]).map X.sayA) (.slice (some ⟨g, 0, none⟩) (L.length + 1) cap) w' := by
    unfold AOwn
    have e1 : ((L ++ [x]).map X.sayA).length = L.length + 1 := by simp
    have e2 : attrsC ((L ++ [x]).map X.sayA) = attrsC (L.map X.sayA) ++ attrC (X.sayA x) := by rw [List.map_append, List.map_cons, List.map_nil, attrsC_snoc]
    rw [e1, e2]
    exact hown
  have hgN := hg2.1
  exact ha.put (fun e => by have h9 : g = N := Option.some.inj e; omega) 2 _
theorem attr_step {P : List (List UInt8)} {sep S : List UInt8} {sb : ByteArray} (hsb : X.ba sep = sb) (x : X.Say) :
    X.ba S ++ sb ++ X.ba (X.tagT P x.sp x.lo) ++ (⟨#[61, 34]⟩ : ByteArray) ++ X.ba (X.escL x.va.data.toList) ++ (⟨#[34]⟩ : ByteArray) = X.ba (S ++ X.texts sep ([x].map (X.sayT P))) := by
  rw [← hsb, show (⟨#[61, 34]⟩ : ByteArray) = X.ba [61, 34] from rfl, show (⟨#[34]⟩ : ByteArray) = X.ba [34] from rfl, ba_cat, ba_cat, ba_cat, ba_cat, ba_cat]
  congr 1
  simp [X.texts, X.T.text, X.sayT, X.tagT]
theorem AOwn.cellsAt {B g n c : Nat} {l : List X.A} {w : World} (h : AOwn B l (.slice (some ⟨g, 0, none⟩) n c) w) (hn : 0 < n) : g < w.heap.size ∧ ∀ j x, l[j]? = some x → ∀ i u, (attrC x)[i]? = some u → w.cell? ⟨g, j * 3 + i, none⟩ = some u := by
  obtain ⟨g', e, _, h1, h2⟩ := h.cells rfl hn
  have e' : g = g' := by injection (Option.some.inj e)
  subst e'
  exact ⟨h1, h2⟩
theorem escape_ok (s : ByteArray) (hs : s.size ≤ 1048576) (hk : X.oks s = true) (W : World) (hT : Tabs W) :
    Calls Tryz.prog 11 #[.string s] W fun en W' => en = .returned (.tuple #[.string (X.ba (X.escL s.data.toList)), .bool true]) ∧ Below W.heap.size W W' := by
  have h := escape_any s (by omega) W hT
  have e : X.okT (s.size + 1) s.data.toList = true := by rw [Lib.size_eq]; exact hk
  rw [e] at h
  exact h
theorem escape_bad (s : ByteArray) (hs : s.size ≤ 1048576) (hk : X.oks s = false) (W : World) (hT : Tabs W) :
    Calls Tryz.prog 11 #[.string s] W fun en W' => en = .returned (.tuple #[.string (X.ba []), .bool false]) ∧ Below W.heap.size W W' := by
  have h := escape_any s (by omega) W hT
  have e : X.okT (s.size + 1) s.data.toList = false := by rw [Lib.size_eq]; exact hk
  rw [e] at h
  exact h
theorem say_eq (y x : X.Say) : (((X.ba (X.spc y.sp)).toList == (X.ba (X.spc x.sp)).toList) && ((X.ba (X.nm y.lo)).toList == (X.ba (X.nm x.lo)).toList)) = decide (y.key = x.key) := by
  have hs : ((X.ba (X.spc y.sp)).toList == (X.ba (X.spc x.sp)).toList) = decide (y.sp % 4 = x.sp % 4) := by
    rw [Bool.eq_iff_iff, beq_iff_eq, decide_eq_true_eq, toList_inj, ba_inj]
    exact ⟨X.spc_inj, fun h => by rw [← X.spc_mod y.sp, h, X.spc_mod]⟩
  have hn : ((X.ba (X.nm y.lo)).toList == (X.ba (X.nm x.lo)).toList) = decide (y.lo % 26 = x.lo % 26) := by
    rw [Bool.eq_iff_iff, beq_iff_eq, decide_eq_true_eq, toList_inj, ba_inj]
    exact ⟨X.nm_inj, fun h => by unfold X.nm; rw [h]⟩
  rw [hs, hn, Bool.eq_iff_iff]
  simp [X.Say.key]
theorem drop_step {α : Type} {l : List α} {i n : Nat} {x : α} (h : l[i]? = some x) (hi : i < n) : (l.take n).drop i = x :: (l.take n).drop (i + 1) := by
  have h1 : (l.take n)[i]? = some x := by rw [List.getElem?_take_of_lt hi]; exact h
  have hlt := (List.getElem?_eq_some_iff.1 h1).1
  rw [List.drop_eq_getElem_cons hlt]
  congr 1
  exact (List.getElem?_eq_some_iff.1 h1).2
theorem take_all {α : Type} {l : List α} {i n : Nat} {x : α} {p : α → Bool} (h : l[i]? = some x) (hi : i < n) (ha : ((l.take n).take i).all p = true) (hp : p x = true) : ((l.take n).take (i + 1)).all p = true := by
  have h1 : (l.take n)[i]? = some x := by rw [List.getElem?_take_of_lt hi]; exact h
  rw [List.take_add_one, h1, List.all_append, ha]
  simp [hp]
theorem as_bad {al : List X.Say} {i : Nat} {x : X.Say} (h : al[i]? = some x) (hi : i < 20) (hp : X.oks x.va = false) : X.asOk al = false := by
  unfold X.asOk
  rw [List.all_eq_false]
  exact ⟨x, List.mem_of_getElem? (by rw [List.getElem?_take_of_lt hi]; exact h), by rw [hp]; decide⟩
theorem as_done {al : List X.Say} {i : Nat} (hi : ¬ (i < al.length ∧ i < 20)) (hle : i ≤ 20) (ha : ((al.take 20).take i).all (fun x => X.oks x.va) = true) : (al.take 20).drop i = [] ∧ X.asOk al = true := by
  have hl : (al.take 20).length ≤ i := by rw [List.length_take]; omega
  refine ⟨List.drop_eq_nil_of_le hl, ?_⟩
  rw [List.take_of_length_le hl] at ha
  exact ha
/-- twice is once -/
theorem keep_step (L : List X.Say) (x : X.Say) (r : List X.Say) (b : Bool) (h : L.any (fun y => decide (y.key = x.key)) = b) : X.keep L (x :: r) = if b then X.keep L r else X.keep (L ++ [x]) r := by
  rw [← h]; rfl
/-- the node's cells while what stands in it is laid -/
def ncB (sp lo : Nat) (nav nkv : Value) (t : ByteArray) : Array Value := #[.string (X.ba (X.spc sp)), .string (X.ba (X.nm lo)), nav, nkv, .string t, .int .i64 0, .int .i64 0]
/-- a node while what stands in it is laid -/
structure L4 (W : World) (TR : Array Value) (N M sp lo : Nat) (A : List X.A) (nav : Value) (K : X.N) (nkv : Value) (t : ByteArray) (w : World) : Prop where
  m : MS W TR N (ncB sp lo nav nkv t) w
  a : X.AIn w (fun b => N < b ∧ b < M ∧ ∃ cs T, w.heap[b]? = some (.cells cs T (0, 0)) ∧ T ≠ 5) A nav
  k : KOwn M K nkv w
  nm : N < M
  ms : M ≤ w.heap.size
section
variable {W w w' : World} {TR : Array Value} {N M sp lo : Nat} {A : List X.A} {nav nkv : Value} {K : X.N} {t : ByteArray}
theorem aKeep {w w' : World} {N M : Nat} {A : List X.A} {nav : Value} (h : X.AIn w (fun b => N < b ∧ b < M ∧ ∃ cs T, w.heap[b]? = some (.cells cs T (0, 0)) ∧ T ≠ 5) A nav) (hk : ∀ b, N < b → b < M → w'.heap[b]? = w.heap[b]?) :
    X.AIn w' (fun b => N < b ∧ b < M ∧ ∃ cs T, w'.heap[b]? = some (.cells cs T (0, 0)) ∧ T ≠ 5) A nav :=
  h.keep (fun b hb => ⟨hb.1, hb.2.1, by obtain ⟨cs, T, h1, h2⟩ := hb.2.2; exact ⟨cs, T, by rw [hk b hb.1 hb.2.1]; exact h1, h2⟩⟩) (fun b hb => hk b hb.1 hb.2.1)
theorem L4.below (h : L4 W TR N M sp lo A nav K nkv t w) (hb : Below w.heap.size w w') : L4 W TR N M sp lo A nav K nkv t w' :=
  ⟨h.m.below hb, aKeep h.a (fun b _ h2 => hb.block b (Nat.lt_of_lt_of_le h2 h.ms)), h.k.keep (KeepN.below hb M), h.nm, Nat.le_trans h.ms hb.size⟩
theorem L4.text (h : L4 W TR N M sp lo A nav K nkv t w) (t' : ByteArray) : L4 W TR N M sp lo A nav K nkv t' (w.setCell ⟨N, 4, none⟩ (.string t')) := by
  have hg := grown_set (w := w) (R := N) 4 (.string t')
  refine ⟨h.m.set 4 _, aKeep h.a (fun b h1 h2 => hg.block b (Nat.lt_of_lt_of_le h2 h.ms) (fun e => by have := Option.some.inj e; omega)), h.k.keep (KeepN.grown hg h.nm), h.nm, ?_⟩
  have := hg.size
  have := h.ms
  omega
/-- one kid more -/
theorem L4.kid {x : X.E} {new cs : List Value} {v' : Value} (h : L4 W TR N M sp lo A nav K nkv t w) (hx : x.Has w (OwnN w M nkv.ownBlock) new) (hcs : K.Cells w (OwnN w M nkv.ownBlock) cs)
    (hown : w'.ownsRow M 28 7 v' (K.length + 1) (cs ++ new)) (hg : w.grownBy w' nkv.ownBlock) (hat : ∀ b, v'.ownBlock = some b → nkv.ownBlock = some b ∨ w.heap.size ≤ b) :
    L4 W TR N M sp lo A nav (K.snoc x) v' t (w'.setCell ⟨N, 3, none⟩ v') := by
  have hlt := h.k.lt
  have hk : KOwn M (K.snoc x) v' w' := KOwn.more hx hcs hown hg hat
  have hnm := h.nm
  have hm : MS W TR N (ncB sp lo nav nkv t) w' := h.m.grown hg (fun k e => by have := (hlt k e).1; omega)
  have hms := h.ms
  have hsz := hg.size
  have h2 := grown_set (w := w') (R := N) 3 v'
  refine ⟨hm.set 3 _, aKeep h.a (fun b h1 h3 => ?_), hk.keep (KeepN.grown h2 hnm), hnm, by have := h2.size; omega⟩
  rw [h2.block b (by omega) (fun e => by have := Option.some.inj e; omega)]
  exact hg.block b (by omega) (fun e => by have := (hlt b e.symm).1; omega)
end
def MadeC (sp lo : Nat) (al : List X.Say) (tx : List ByteArray) (ks : X.WT) : Prop := (X.WT.cons sp lo al tx ks .nil).wide → ks.count ≤ 300 → ∀ (d : Nat), d ≤ 15 → ∀ (P : List (List UInt8)) (sep : List UInt8), X.Pre P → sep.length ≤ 3 → ∀ (W : World) (Q : Nat → Prop) (cs : List Value) (gp op cp : Nat),
  X.treeHas W Q sp lo al tx ks cs → (∀ b, Q b → b < W.heap.size) → 4 ≤ cp → (∀ i, i < 4 → W.cell? ⟨gp, op + i, none⟩ = some (.string (X.ba (P.getD i [])))) → Tabs W →
  Calls Tryz.prog 14 #[.agg cs.toArray, .slice (some ⟨gp, op, none⟩) 4 cp, .string (X.ba sep), .int .i64 d] W (MadeOf W P sep d sp lo al tx ks)
/-- what is left to be written -/
structure R4 (W : World) (Q : Nat → Prop) (P : List (List UInt8)) (sep : List UInt8) (d : Nat) (S3 : List UInt8) (tx : List ByteArray) (ks : X.WT) (gk okk : Nat) (i : Nat) (S T : List UInt8) (K : X.N) (r : X.WT) (txs : List ByteArray) : Prop where
  at_ : r ≠ .nil → r.At W Q gk (okk + i * 5)
  n : i + r.length = ks.length
  txe : txs = tx.drop i
  s : S ++ X.cont P sep r d txs = S3 ++ X.cont P sep ks d tx
  t : T ++ X.plainT r txs = X.plainT ks tx
  k : K.app (X.kids r d) = X.kids ks d
  ok : X.okC r d txs = X.okC ks d tx
  all : r.AllE MadeC
  wide : r.wide
  few : r.count ≤ 300
theorem R4.sum {W : World} {Q : Nat → Prop} {P : List (List UInt8)} {sep : List UInt8} {d : Nat} {S3 : List UInt8} {tx : List ByteArray} {ks : X.WT} {gk okk i : Nat} {S T : List UInt8} {K : X.N} {r : X.WT} {txs : List ByteArray} (h : R4 W Q P sep d S3 tx ks gk okk i S T K r txs) (hP : X.Pre P) (hsep : sep.length ≤ 3) (hw : ks.wide) (ht : ∀ s ∈ tx, s.size ≤ 1048576) (hc : ks.count ≤ 300) (h3 : S3.length ≤ 130000000) : S.length + (X.cont P sep r d txs).length ≤ 100000000000 ∧ T.length + (X.plainT r txs).length ≤ 400000000 := by
  have h1 := X.cont_len hP hsep ks d tx hw ht
  have h2 := X.plain_len ks tx ht
  have e1 := congrArg List.length h.s
  have e2 := congrArg List.length h.t
  have h5 := X.WT.len_count ks
  rw [List.length_append, List.length_append] at e1
  rw [List.length_append] at e2
  have h4 : ks.count * 300000000 ≤ 300 * 300000000 := Nat.mul_le_mul_right _ hc
  have h6 : (ks.length + 1) * 1048576 ≤ 301 * 1048576 := Nat.mul_le_mul_right _ (by omega)
  omega
theorem first_of {tx : List ByteArray} {i : Nat} {t : ByteArray} (h : tx[i]? = some t) : tx.drop i = t :: tx.drop (i + 1) := by
  have hlt := (List.getElem?_eq_some_iff.1 h).1
  rw [List.drop_eq_getElem_cons hlt]
  congr 1
  exact (List.getElem?_eq_some_iff.1 h).2
/-- behind the last -/
theorem R4.done {W : World} {Q : Nat → Prop} {P : List (List UInt8)} {sep : List UInt8} {d : Nat} {S3 : List UInt8} {tx : List ByteArray} {ks : X.WT} {gk okk i : Nat} {S T : List UInt8} {K : X.N} {txs : List ByteArray} (h : R4 W Q P sep d S3 tx ks gk okk i S T K .nil txs) (hf : X.firstOk txs = true) :
    i = ks.length ∧ S ++ X.escL (X.first txs) = S3 ++ X.cont P sep ks d tx ∧ T ++ X.first txs = X.plainT ks tx ∧ K = X.kids ks d ∧ X.okC ks d tx = true := by
  refine ⟨h.n, h.s, h.t, ?_, ?_⟩
  · have := h.k
    rwa [show X.kids .nil d = .nil from rfl, X.N.app_nil] at this
  · rw [← h.ok]; exact hf
/-- a kid that is not written -/
theorem R4.pass {W : World} {Q : Nat → Prop} {P : List (List UInt8)} {sep : List UInt8} {d : Nat} {S3 : List UInt8} {tx : List ByteArray} {ks : X.WT} {gk okk i : Nat} {S T : List UInt8} {K : X.N} {sp lo : Nat} {al : List X.Say} {tx1 : List ByteArray} {k1 r : X.WT} {txs : List ByteArray} (h : R4 W Q P sep d S3 tx ks gk okk i S T K (.cons sp lo al tx1 k1 r) txs) (hf : X.firstOk txs = true) (hd : ¬ d < 15) :
    R4 W Q P sep d S3 tx ks gk okk (i + 1) (S ++ X.escL (X.first txs)) (T ++ X.first txs) K r txs.tail := by
  have hk : K.app (if d < 15 then .cons (X.ba (X.spc sp)) (X.ba (X.nm lo)) ((X.kept al).map X.sayA) (X.kids k1 (d + 1)) (X.ba (X.plainT k1 tx1)) 0 0 (X.kids r d) else X.kids r d) = X.kids ks d := h.k
  have hs : S ++ (X.escL (X.first txs) ++ ((if d < 15 then X.openT P sep (d + 1) sp lo al ++ (X.cont P sep k1 (d + 1) tx1 ++ X.closeT P sep sp lo) else []) ++ X.cont P sep r d txs.tail)) = S3 ++ X.cont P sep ks d tx := h.s
  have ho : (X.firstOk txs && ((if d < 15 then X.asOk al && X.okC k1 (d + 1) tx1 else true) && X.okC r d txs.tail)) = X.okC ks d tx := h.ok
  have hn := h.n
  rw [if_neg hd] at hk hs ho
  rw [hf] at ho
  refine ⟨fun _ => ?_, ?_, ?_, ?_, ?_, hk, ?_, h.all.2, h.wide.2, ?_⟩
  · have := (h.at_ (fun e => by cases e)).2.2.2.2.2.2
    rw [show okk + (i + 1) * 5 = okk + i * 5 + 5 by omega]; exact this
  · simp only [X.WT.length] at hn; omega
  · rw [h.txe]; simp
  · rw [← hs]; simp
  · rw [← h.t]; simp [X.plainT]
  · rw [← ho]; simp
  · have := h.few; simp only [X.WT.count] at this; omega
/-- a kid that is written -/
theorem R4.write {W : World} {Q : Nat → Prop} {P : List (List UInt8)} {sep : List UInt8} {d : Nat} {S3 : List UInt8} {tx : List ByteArray} {ks : X.WT} {gk okk i : Nat} {S T : List UInt8} {K : X.N} {sp lo : Nat} {al : List X.Say} {tx1 : List ByteArray} {k1 r : X.WT} {txs : List ByteArray} (h : R4 W Q P sep d S3 tx ks gk okk i S T K (.cons sp lo al tx1 k1 r) txs) (hf : X.firstOk txs = true) (hd : d < 15) :
    (X.treeOk (d + 1) al tx1 k1 = false → X.okC ks d tx = false) ∧ (X.treeOk (d + 1) al tx1 k1 = true → R4 W Q P sep d S3 tx ks gk okk (i + 1) (S ++ X.escL (X.first txs) ++ X.elemT P sep (d + 1) sp lo al tx1 k1) (T ++ X.first txs) (K.snoc (X.nodeT (d + 1) sp lo al tx1 k1)) r txs.tail) := by
  have hk : K.app (if d < 15 then .cons (X.ba (X.spc sp)) (X.ba (X.nm lo)) ((X.kept al).map X.sayA) (X.kids k1 (d + 1)) (X.ba (X.plainT k1 tx1)) 0 0 (X.kids r d) else X.kids r d) = X.kids ks d := h.k
  have hs : S ++ (X.escL (X.first txs) ++ ((if d < 15 then X.openT P sep (d + 1) sp lo al ++ (X.cont P sep k1 (d + 1) tx1 ++ X.closeT P sep sp lo) else []) ++ X.cont P sep r d txs.tail)) = S3 ++ X.cont P sep ks d tx := h.s
  have ho : (X.firstOk txs && ((if d < 15 then X.asOk al && X.okC k1 (d + 1) tx1 else true) && X.okC r d txs.tail)) = X.okC ks d tx := h.ok
  have hn := h.n
  rw [if_pos hd] at hk hs ho
  rw [hf] at ho
  constructor
  · intro hb
    unfold X.treeOk at hb
    rw [← ho, hb]
    rfl
  · intro hb
    unfold X.treeOk at hb
    rw [hb] at ho
    refine ⟨fun _ => ?_, ?_, ?_, ?_, ?_, ?_, ?_, h.all.2, h.wide.2, ?_⟩
    · have := (h.at_ (fun e => by cases e)).2.2.2.2.2.2
      rw [show okk + (i + 1) * 5 = okk + i * 5 + 5 by omega]; exact this
    · simp only [X.WT.length] at hn; omega
    · rw [h.txe]; simp
    · rw [← hs]; unfold X.elemT; simp
    · rw [← h.t]; simp [X.plainT]
    · rw [← hk]
      unfold X.N.snoc
      rw [X.N.app_assoc]
      rfl
    · rw [← ho]; simp
    · have := h.few; simp only [X.WT.count] at this; omega
def zeroN : Array Value := #[.string ⟨#[]⟩, .string ⟨#[]⟩, .slice none 0 0, .slice none 0 0, .string ⟨#[]⟩, .int .i64 0, .int .i64 0]
/-- ahead of the node's box -/
structure M0 (W : World) (TR : Array Value) (w : World) : Prop where
  t : w.heap[W.heap.size]? = some (.cells TR 43 (0, 0))
  r : ∃ x0 x1 x2 x3 x4 x5 x6, w.heap[W.heap.size + 1]? = some (.cells #[x0, x1, x2, x3, x4, x5, x6] 28 (0, 0))
  b : Below W.heap.size W w
  s : W.heap.size + 2 ≤ w.heap.size
theorem M0.below {W w w' : World} {TR : Array Value} (h : M0 W TR w) (hb : Below w.heap.size w w') : M0 W TR w' := by
  obtain ⟨x0, x1, x2, x3, x4, x5, x6, hr⟩ := h.r
  exact ⟨by rw [hb.block _ (Go.lt_of_block h.t)]; exact h.t, ⟨x0, x1, x2, x3, x4, x5, x6, by rw [hb.block _ (Go.lt_of_block hr)]; exact hr⟩, h.b.trans (hb.mono h.b.size), Nat.le_trans h.s hb.size⟩
theorem M0.ms {W w : World} {TR NC : Array Value} {N : Nat} (h : M0 W TR w) (hn : w.heap[N]? = some (.cells NC 28 (0, 0))) (hN : W.heap.size + 2 ≤ N) : MS W TR N NC w := ⟨h.t, h.r, hn, hN, h.b⟩
set_option maxRecDepth 100000 in
set_option maxHeartbeats 8000000 in
theorem made_step (sp lo : Nat) (al : List X.Say) (tx : List ByteArray) (ks : X.WT) (hall : ks.AllE MadeC) : MadeC sp lo al tx ks := by
  intro hwide hcount d hd P sep hP hsep W Q cs gp op cp hhas hQ hcp hpre hTab
  obtain ⟨av, tv, kv, rfl, hav, htv, hkv⟩ := hhas
  obtain ⟨aa, ac, rfl⟩ := hav.shape
  obtain ⟨ta, tc, rfl⟩ := htv.shape
  obtain ⟨ka, kc, rfl⟩ := hkv.shape
  obtain ⟨nal, hnal⟩ : ∃ n, al.length = n := ⟨_, rfl⟩
  obtain ⟨ntx, hntx⟩ : ∃ n, tx.length = n := ⟨_, rfl⟩
  obtain ⟨nks, hnks⟩ : ∃ n, ks.length = n := ⟨_, rfl⟩
  rw [hnal] at hav
  rw [hntx] at htv
  rw [hnks] at hkv
  rw [hnal, hntx, hnks]
  have hsp : sp ≤ 255 := hwide.1.1
  have hlo : lo ≤ 255 := hwide.1.2.1
  have HWD := hid hwide
  have HCO := hid hcount
  have HP := hid hP
  have HSEP := hid hsep
  have HAV := hid hav
  have HTV := hid htv
  have HKV := hid hkv
  have HQ := hid hQ
  have HPRE := hid hpre
  have HT := hid hTab
  have HALL := hid hall
  have HNN := hid (And.intro hnal (And.intro hntx hnks))
  obtain ⟨sb, hsb⟩ : ∃ b, X.ba sep = b := ⟨_, rfl⟩
  rw [hsb]
  have hsbz : sb.size ≤ 3 := by rw [← hsb]; exact hsep
  have HSB := hid hsb
  clear hwide hcount hP hsep hav htv hkv hQ hpre hTab hall hnal hntx hnks hsb
  go_enter Tryz.func14, Tryz.ntmps14
  go_upto_region 1 with fail
  generalize hw1 : World.alloc (World.alloc W _) _ = w1
  have HM : Hid (M0 W #[.int .u8 sp, .int .u8 lo, .slice aa nal ac, .slice ta ntx tc, .slice ka nks kc] w1.drew) := by
    show M0 _ _ _
    have h1 : w1.heap[W.heap.size]? = some (.cells #[.int .u8 sp, .int .u8 lo, .slice aa nal ac, .slice ta ntx tc, .slice ka nks kc] 43 (0, 0)) := by rw [← hw1, Lib.alloc_old _ _ _ (by simp)]; exact heap_alloc_new W _
    have h2 : w1.heap[W.heap.size + 1]? = some (.cells zeroN 28 (0, 0)) := by
      rw [← hw1]
      have := heap_alloc_new (W.alloc (.cells #[.int .u8 sp, .int .u8 lo, .slice aa nal ac, .slice ta ntx tc, .slice ka nks kc] 43)) (.cells zeroN 28)
      rw [show (W.alloc (.cells #[.int .u8 sp, .int .u8 lo, .slice aa nal ac, .slice ta ntx tc, .slice ka nks kc] 43)).heap.size = W.heap.size + 1 by simp] at this
      exact this
    have h3 : Below W.heap.size W w1 := by rw [← hw1]; exact ((Below.refl _ W).alloc (Nat.le_refl _) _).alloc (by simp) _
    have h4 : w1.heap.size = W.heap.size + 2 := by rw [← hw1]; simp
    exact ⟨h1, ⟨_, _, _, _, _, _, _, h2⟩, h3.drew, by show _ ≤ w1.heap.size; omega⟩
  clear hw1
  go_cut [11] from 28 to 34 (fun s11 wc => ∃ N, s11 = .pointer (some ⟨N, 0, none⟩) ∧ Hid (MS W #[.int .u8 sp, .int .u8 lo, .slice aa nal ac, .slice ta ntx tc, .slice ka nks kc] N #[.string (X.ba (X.spc sp)), .string (X.ba (X.nm lo)), .slice none 0 0, .slice none 0 0, .string ⟨#[]⟩, .int .i64 0, .int .i64 0] wc))
  case first =>
    refine wp_region_till (S := (fun w : World => M0 W #[.int .u8 sp, .int .u8 lo, .slice aa nal ac, .slice ta ntx tc, .slice ka nks kc] w)) 5 (by kernel_rfl) ?_
    have HS := hid (show ((fun w : World => M0 W #[.int .u8 sp, .int .u8 lo, .slice aa nal ac, .slice ta ntx tc, .slice ka nks kc] w)) _ from HM.out)
    refine wpTill_any 0 (oi := ?oi30) (v := ?v30) ?ho30 (by kernel_rfl) (by kernel_rfl) (by kernel_rfl) (by kernel_rfl) ?hq30 (Or.inl ⟨?hw30, ?hy30⟩) (fun _ => HS.out) ?rest30
    case ho30 => simp only [List.getElem?_toArray, List.getElem?_cons_zero]; rfl
    case hw30 => rfl
    case hy30 => intro w; go_simp; try with_reducible rfl
    case hq30 => exact fun _ _ _ h => h
    try simp only [Act.put, List.setIfInBounds_toArray, List.set_cons_zero, List.set_cons_succ]
    refine wpTill_any 3 (oi := ?oi31) (v := ?v31) ?ho31 (by kernel_rfl) (by kernel_rfl) (by kernel_rfl) (by kernel_rfl) ?hq31 (Or.inl ⟨?hw31, ?hy31⟩) (fun _ => HS.out) ?rest31
    case ho31 => simp only [List.getElem?_toArray, List.getElem?_cons_succ, List.getElem?_cons_zero]; rfl
    case hw31 => rfl
    case hy31 => intro w; go_simp; try with_reducible rfl
    case hq31 => exact fun _ _ _ h => h
    try simp only [Act.put, List.setIfInBounds_toArray, List.set_cons_zero, List.set_cons_succ]
    refine wpTill_load 1 [1, 2, 5] (oi := ?oi32) (v := ?v32) ?ho32 (by kernel_rfl) (by kernel_rfl) (by kernel_rfl) (by kernel_rfl) ?hq32 (Or.inl ⟨?hw32, ?hy32⟩) HS.out ?rest32
    case ho32 => simp only [List.getElem?_toArray, List.getElem?_cons_succ, List.getElem?_cons_zero]; rfl
    case hw32 => rfl
    case hy32 =>
      intro w hSw
      have c0' := (row5s hSw.t).1
      clear hSw
      go_simp
      try with_reducible rfl
    case hq32 => exact fun _ _ _ h => h
    try simp only [Act.put, List.setIfInBounds_toArray, List.set_cons_zero, List.set_cons_succ]
    refine wpTill_load 4 [4, 5] (oi := ?oi33) (v := ?v33) ?ho33 (by kernel_rfl) (by kernel_rfl) (by kernel_rfl) (by kernel_rfl) ?hq33 (Or.inl ⟨?hw33, ?hy33⟩) HS.out ?rest33
    case ho33 => simp only [List.getElem?_toArray, List.getElem?_cons_succ, List.getElem?_cons_zero]; rfl
    case hw33 => rfl
    case hy33 =>
      intro w hSw
      have c1' := (row5s hSw.t).2.1
      clear hSw
      go_simp
      try with_reducible rfl
    case hq33 => exact fun _ _ _ h => h
    try simp only [Act.put, List.setIfInBounds_toArray, List.set_cons_zero, List.set_cons_succ]
    refine wpTill_ready (rs := [2, 7]) (by kernel_rfl) (by decide) ?_
    refine AllTill.consH (o := ?oi34) ?ho34 (fun K hK => ?step34) ?more34
    case ho34 => simp only [List.getElem?_toArray, List.getElem?_cons_succ, List.getElem?_cons_zero]; rfl
    case step34 =>
      go_simp
      refine (lspace_any sp _).mono ?_
      rintro e w2 ⟨rfl, bb⟩
      have HM2 := hid (HM.out.below bb)
      clear bb
      try dsimp only
      refine hK.out _ _ (fun _ => HM2.out) (fun hHeld => ?_)
      have HS34 := hid (hHeld (by kernel_rfl))
      clear hHeld hK K
      try simp only [Act.put, List.setIfInBounds_toArray, List.set_cons_zero, List.set_cons_succ]
      refine wpTill_ready (rs := [5, 7]) (by kernel_rfl) (by decide) ?_
      refine AllTill.consH (o := ?oi35) ?ho35 (fun K hK => ?step35) ?more35
      case ho35 => simp only [List.getElem?_toArray, List.getElem?_cons_succ, List.getElem?_cons_zero]; rfl
      case step35 =>
        go_simp
        refine (lname_any lo hlo _).mono ?_
        rintro e w5 ⟨rfl, bb⟩
        have HM25 := hid (HM2.out.below bb)
        clear bb
        try dsimp only
        refine hK.out _ _ (fun hk => by cases (show true = false from hk)) (fun _ => ?_)
        clear hK K
        try simp only [Act.put, List.setIfInBounds_toArray, List.set_cons_zero, List.set_cons_succ]
        refine wpTill_any 6 (oi := ?oi36) (v := ?v36) ?ho36 (by kernel_rfl) (by kernel_rfl) (by kernel_rfl) (by kernel_rfl) ?hq36 (Or.inl ⟨?hw36, ?hy36⟩) (fun hk => by cases (show true = false from hk)) ?rest36
        case ho36 => simp only [List.getElem?_toArray, List.getElem?_cons_succ, List.getElem?_cons_zero]; rfl
        case hw36 => rfl
        case hy36 => intro w; go_simp; try with_reducible rfl
        case hq36 => exact fun _ _ _ h => h
        try simp only [Act.put, List.setIfInBounds_toArray, List.set_cons_zero, List.set_cons_succ]
        refine wpTill_ready (rs := [7]) (by kernel_rfl) (by decide) ?_
        refine AllTill.consH (o := ?oi37) ?ho37 (fun K hK => ?step37) ?more37
        case ho37 => simp only [List.getElem?_toArray, List.getElem?_cons_succ, List.getElem?_cons_zero]; rfl
        case step37 =>
          go_simp
          generalize hw7 : World.alloc (w5) _ = w7
          obtain ⟨N, hN⟩ : ∃ N, w5.heap.size = N := ⟨_, rfl⟩
          rw [hN]
          have HM257 : Hid (M0 W #[.int .u8 sp, .int .u8 lo, .slice aa nal ac, .slice ta ntx tc, .slice ka nks kc] w7) := by show M0 _ _ _; rw [← hw7]; exact HM25.out.below ((Below.refl _ _).alloc (Nat.le_refl _) _)
          have HZ7 : Hid (w7.heap[N]? = some (.cells zeroN 28 (0, 0)) ∧ W.heap.size + 2 ≤ N) := hid ⟨by rw [← hw7, ← hN]; exact heap_alloc_new (w5) _, by rw [← hN]; exact HM25.out.s⟩
          clear hw7 hN
          try dsimp only
          refine hK.out _ _ (fun hk => by cases (show true = false from hk)) (fun _ => ?_)
          clear hK K
          try simp only [Act.put, List.setIfInBounds_toArray, List.set_cons_zero, List.set_cons_succ]
          refine wpTill_ready (rs := [8]) (by kernel_rfl) (by decide) ?_
          refine AllTill.consH (o := ?oi38) ?ho38 (fun K hK => ?step38) ?more38
          case ho38 => simp only [List.getElem?_toArray, List.getElem?_cons_succ, List.getElem?_cons_zero]; rfl
          case step38 =>
            obtain ⟨z0, z1, z2, z3, z4, z5, z6⟩ := row7s HZ7.out.1
            have zf := fun j => rowFree HZ7.out.1 j
            have zf0 := zf 0
            have zf1 := zf 1
            have zf2 := zf 2
            have zf3 := zf 3
            have zf4 := zf 4
            have zf5 := zf 5
            have zf6 := zf 6
            clear zf
            go_simp
            clear z0 z1 z2 z3 z4 z5 z6 zf0 zf1 zf2 zf3 zf4 zf5 zf6
            try dsimp only
            refine hK.out _ _ (fun hk => by cases (show true = false from hk)) (fun _ => ?_)
            clear hK K
            try simp only [Act.put, List.setIfInBounds_toArray, List.set_cons_zero, List.set_cons_succ]
            refine wpTill_done (by kernel_rfl) ?_ _
            go_wp2_with fail
            go_meet
            exact ⟨N, rfl, hid (((HM257.out.ms HZ7.out.1 HZ7.out.2).set 0 _).set 1 _ |>.set 2 _ |>.set 3 _ |>.set 4 _ |>.set 5 _ |>.set 6 _)⟩
          case more38 =>
            exact AllTill.nil
        case more37 =>
          exact AllTill.nil
      case more35 =>
        refine AllTill.consH (o := ?oi39) ?ho39 (fun K hK => ?step39) ?more39
        case ho39 => simp only [List.getElem?_toArray, List.getElem?_cons_succ, List.getElem?_cons_zero]; rfl
        case step39 =>
          go_simp
          generalize hw7 : World.alloc (w2) _ = w7
          obtain ⟨N, hN⟩ : ∃ N, w2.heap.size = N := ⟨_, rfl⟩
          rw [hN]
          have HM27 : Hid (M0 W #[.int .u8 sp, .int .u8 lo, .slice aa nal ac, .slice ta ntx tc, .slice ka nks kc] w7) := by show M0 _ _ _; rw [← hw7]; exact HM2.out.below ((Below.refl _ _).alloc (Nat.le_refl _) _)
          have HZ7 : Hid (w7.heap[N]? = some (.cells zeroN 28 (0, 0)) ∧ W.heap.size + 2 ≤ N) := hid ⟨by rw [← hw7, ← hN]; exact heap_alloc_new (w2) _, by rw [← hN]; exact HM2.out.s⟩
          clear hw7 hN
          try dsimp only
          refine hK.out _ _ (fun _ => HM27.out) (fun hHeld => ?_)
          have HS39 := hid (hHeld (by kernel_rfl))
          clear hHeld hK K
          try simp only [Act.put, List.setIfInBounds_toArray, List.set_cons_zero, List.set_cons_succ]
          refine wpTill_ready (rs := [5]) (by kernel_rfl) (by decide) ?_
          refine AllTill.consH (o := ?oi40) ?ho40 (fun K hK => ?step40) ?more40
          case ho40 => simp only [List.getElem?_toArray, List.getElem?_cons_succ, List.getElem?_cons_zero]; rfl
          case step40 =>
            go_simp
            refine (lname_any lo hlo _).mono ?_
            rintro e w5 ⟨rfl, bb⟩
            have HM275 := hid (HM27.out.below bb)
            have HZ5 : Hid (w5.heap[N]? = some (.cells zeroN 28 (0, 0)) ∧ W.heap.size + 2 ≤ N) := hid ⟨by rw [bb.block _ (Go.lt_of_block HZ7.out.1)]; exact HZ7.out.1, HZ7.out.2⟩
            clear bb
            try dsimp only
            refine hK.out _ _ (fun hk => by cases (show true = false from hk)) (fun _ => ?_)
            clear hK K
            try simp only [Act.put, List.setIfInBounds_toArray, List.set_cons_zero, List.set_cons_succ]
            refine wpTill_any 6 (oi := ?oi41) (v := ?v41) ?ho41 (by kernel_rfl) (by kernel_rfl) (by kernel_rfl) (by kernel_rfl) ?hq41 (Or.inl ⟨?hw41, ?hy41⟩) (fun hk => by cases (show true = false from hk)) ?rest41
            case ho41 => simp only [List.getElem?_toArray, List.getElem?_cons_succ, List.getElem?_cons_zero]; rfl
            case hw41 => rfl
            case hy41 => intro w; go_simp; try with_reducible rfl
            case hq41 => exact fun _ _ _ h => h
            try simp only [Act.put, List.setIfInBounds_toArray, List.set_cons_zero, List.set_cons_succ]
            refine wpTill_ready (rs := [8]) (by kernel_rfl) (by decide) ?_
            refine AllTill.consH (o := ?oi42) ?ho42 (fun K hK => ?step42) ?more42
            case ho42 => simp only [List.getElem?_toArray, List.getElem?_cons_succ, List.getElem?_cons_zero]; rfl
            case step42 =>
              obtain ⟨z0, z1, z2, z3, z4, z5, z6⟩ := row7s HZ5.out.1
              have zf := fun j => rowFree HZ5.out.1 j
              have zf0 := zf 0
              have zf1 := zf 1
              have zf2 := zf 2
              have zf3 := zf 3
              have zf4 := zf 4
              have zf5 := zf 5
              have zf6 := zf 6
              clear zf
              go_simp
              clear z0 z1 z2 z3 z4 z5 z6 zf0 zf1 zf2 zf3 zf4 zf5 zf6
              try dsimp only
              refine hK.out _ _ (fun hk => by cases (show true = false from hk)) (fun _ => ?_)
              clear hK K
              try simp only [Act.put, List.setIfInBounds_toArray, List.set_cons_zero, List.set_cons_succ]
              refine wpTill_done (by kernel_rfl) ?_ _
              go_wp2_with fail
              go_meet
              exact ⟨N, rfl, hid (((HM275.out.ms HZ5.out.1 HZ5.out.2).set 0 _).set 1 _ |>.set 2 _ |>.set 3 _ |>.set 4 _ |>.set 5 _ |>.set 6 _)⟩
            case more42 =>
              exact AllTill.nil
          case more40 =>
            exact AllTill.nil
        case more39 =>
          exact AllTill.nil
    case more34 =>
      refine AllTill.consH (o := ?oi43) ?ho43 (fun K hK => ?step43) ?more43
      case ho43 => simp only [List.getElem?_toArray, List.getElem?_cons_succ, List.getElem?_cons_zero]; rfl
      case step43 =>
        go_simp
        generalize hw7 : World.drew (World.alloc w1 _) = w7
        obtain ⟨N, hN⟩ : ∃ N, w1.heap.size = N := ⟨_, rfl⟩
        rw [hN]
        have HM7 : Hid (M0 W #[.int .u8 sp, .int .u8 lo, .slice aa nal ac, .slice ta ntx tc, .slice ka nks kc] w7) := by show M0 _ _ _; rw [← hw7]; exact HM.out.below ((Below.refl _ _).alloc (Nat.le_refl _) _)
        have HZ7 : Hid (w7.heap[N]? = some (.cells zeroN 28 (0, 0)) ∧ W.heap.size + 2 ≤ N) := hid ⟨by rw [← hw7, ← hN]; exact heap_alloc_new w1 _, by rw [← hN]; exact HM.out.s⟩
        clear hw7 hN
        try dsimp only
        refine hK.out _ _ (fun _ => HM7.out) (fun hHeld => ?_)
        have HS43 := hid (hHeld (by kernel_rfl))
        clear hHeld hK K
        try simp only [Act.put, List.setIfInBounds_toArray, List.set_cons_zero, List.set_cons_succ]
        refine wpTill_ready (rs := [2]) (by kernel_rfl) (by decide) ?_
        refine AllTill.consH (o := ?oi44) ?ho44 (fun K hK => ?step44) ?more44
        case ho44 => simp only [List.getElem?_toArray, List.getElem?_cons_succ, List.getElem?_cons_zero]; rfl
        case step44 =>
          go_simp
          refine (lspace_any sp _).mono ?_
          rintro e w2 ⟨rfl, bb⟩
          have HM72 := hid (HM7.out.below bb)
          have HZ2 : Hid (w2.heap[N]? = some (.cells zeroN 28 (0, 0)) ∧ W.heap.size + 2 ≤ N) := hid ⟨by rw [bb.block _ (Go.lt_of_block HZ7.out.1)]; exact HZ7.out.1, HZ7.out.2⟩
          clear bb
          try dsimp only
          refine hK.out _ _ (fun _ => HM72.out) (fun hHeld => ?_)
          have HS44 := hid (hHeld (by kernel_rfl))
          clear hHeld hK K
          try simp only [Act.put, List.setIfInBounds_toArray, List.set_cons_zero, List.set_cons_succ]
          refine wpTill_ready (rs := [5]) (by kernel_rfl) (by decide) ?_
          refine AllTill.consH (o := ?oi45) ?ho45 (fun K hK => ?step45) ?more45
          case ho45 => simp only [List.getElem?_toArray, List.getElem?_cons_succ, List.getElem?_cons_zero]; rfl
          case step45 =>
            go_simp
            refine (lname_any lo hlo _).mono ?_
            rintro e w5 ⟨rfl, bb⟩
            have HM725 := hid (HM72.out.below bb)
            have HZ5 : Hid (w5.heap[N]? = some (.cells zeroN 28 (0, 0)) ∧ W.heap.size + 2 ≤ N) := hid ⟨by rw [bb.block _ (Go.lt_of_block HZ2.out.1)]; exact HZ2.out.1, HZ2.out.2⟩
            clear bb
            try dsimp only
            refine hK.out _ _ (fun hk => by cases (show true = false from hk)) (fun _ => ?_)
            clear hK K
            try simp only [Act.put, List.setIfInBounds_toArray, List.set_cons_zero, List.set_cons_succ]
            refine wpTill_any 6 (oi := ?oi46) (v := ?v46) ?ho46 (by kernel_rfl) (by kernel_rfl) (by kernel_rfl) (by kernel_rfl) ?hq46 (Or.inl ⟨?hw46, ?hy46⟩) (fun hk => by cases (show true = false from hk)) ?rest46
            case ho46 => simp only [List.getElem?_toArray, List.getElem?_cons_succ, List.getElem?_cons_zero]; rfl
            case hw46 => rfl
            case hy46 => intro w; go_simp; try with_reducible rfl
            case hq46 => exact fun _ _ _ h => h
            try simp only [Act.put, List.setIfInBounds_toArray, List.set_cons_zero, List.set_cons_succ]
            refine wpTill_ready (rs := [8]) (by kernel_rfl) (by decide) ?_
            refine AllTill.consH (o := ?oi47) ?ho47 (fun K hK => ?step47) ?more47
            case ho47 => simp only [List.getElem?_toArray, List.getElem?_cons_succ, List.getElem?_cons_zero]; rfl
            case step47 =>
              obtain ⟨z0, z1, z2, z3, z4, z5, z6⟩ := row7s HZ5.out.1
              have zf := fun j => rowFree HZ5.out.1 j
              have zf0 := zf 0
              have zf1 := zf 1
              have zf2 := zf 2
              have zf3 := zf 3
              have zf4 := zf 4
              have zf5 := zf 5
              have zf6 := zf 6
              clear zf
              go_simp
              clear z0 z1 z2 z3 z4 z5 z6 zf0 zf1 zf2 zf3 zf4 zf5 zf6
              try dsimp only
              refine hK.out _ _ (fun hk => by cases (show true = false from hk)) (fun _ => ?_)
              clear hK K
              try simp only [Act.put, List.setIfInBounds_toArray, List.set_cons_zero, List.set_cons_succ]
              refine wpTill_done (by kernel_rfl) ?_ _
              go_wp2_with fail
              go_meet
              exact ⟨N, rfl, hid (((HM725.out.ms HZ5.out.1 HZ5.out.2).set 0 _).set 1 _ |>.set 2 _ |>.set 3 _ |>.set 4 _ |>.set 5 _ |>.set 6 _)⟩
            case more47 =>
              exact AllTill.nil
          case more45 =>
            exact AllTill.nil
        case more44 =>
          exact AllTill.nil
      case more43 =>
        exact AllTill.nil
  case rest =>
    obtain ⟨N, rfl, HM1⟩ := hcut
    clear HM
    obtain ⟨x0, x1, x2, x3, x4⟩ := row5s HM1.out.t
    obtain ⟨nb, hnb⟩ : ∃ nb, X.ba (X.nm lo) = nb := ⟨_, rfl⟩
    have cN := fun U => lname_any lo hlo U
    rw [hnb] at cN
    go_wp2_with fail
    refine (cN _).mono ?_
    rintro e w2 ⟨rfl, bb⟩
    have HM2 := hid (HM1.out.below bb)
    clear bb x0 x1 x2 x3 x4 HM1
    obtain ⟨x0, x1, x2, x3, x4⟩ := row5s HM2.out.t
    obtain ⟨m, hm⟩ : ∃ m, sp % 4 = m := ⟨_, rfl⟩
    have hm1 : ((sp : Int).tmod 4) = (m : Int) := by rw [← hm]; rfl
    have hm4 : m < 4 := by omega
    have HMM := hid hm
    clear hm
    have hnz : nb.size = 2 := by rw [← hnb, ba_size]; rfl
    obtain ⟨tg, htg⟩ : ∃ tg, X.ba (X.tagT P sp lo) = tg := ⟨_, rfl⟩
    have htz : tg.size ≤ 35 := by rw [← htg, ba_size]; exact X.tag_len HP.out sp lo
    have HTG := hid htg
    have HNB := hid hnb
    clear htg hnb
    go_upto_if 41 with fail
    go_cut [12] from 42 to 50 (fun s12 wc => s12 = .string tg ∧ Hid (MS W #[.int .u8 sp, .int .u8 lo, .slice aa nal ac, .slice ta ntx tc, .slice ka nks kc] N #[.string (X.ba (X.spc sp)), .string (X.ba (X.nm lo)), .slice none 0 0, .slice none 0 0, .string ⟨#[]⟩, .int .i64 0, .int .i64 0] wc))
    case first =>
      by_cases hm0 : m = 0
      · subst hm0
        have HE : Hid (nb = tg) := by show _ = _; rw [← HNB.out, tag_one HP.out sp lo HMM.out]; exact HTG.out
        go_wp2_with fail
        go_meet
        exact ⟨by rw [HE.out], HM2⟩
      · have e0 : ((m : Int) != 0) = true := by simp [hm0]
        have e1 : ((m : Int) == 0) = false := by simp [hm0]
        have e2 : ¬ (m : Int) = 0 := by omega
        obtain ⟨pm, hpm⟩ : ∃ pm, X.ba (P.getD m []) = pm := ⟨_, rfl⟩
        have cP : w2.cell? ⟨gp, op + m, none⟩ = some (.string pm) := by
          have h := HPRE.out m hm4
          rw [HM2.out.b.cell (p := ⟨gp, op + m, none⟩) (Lib.lt_of_cell h), h, hpm]
        have hpz : pm.size ≤ 32 := by
          rw [← hpm, ba_size]
          have := HP.out.len m
          unfold X.Pn at this
          rw [Nat.mod_eq_of_lt hm4] at this
          exact this
        have HE : Hid (pm ++ (⟨#[58]⟩ : ByteArray) ++ nb = tg) := by
          show _ = _
          rw [← hpm, ← HNB.out, ← HTG.out, ← HMM.out, tag_two HP.out sp lo (by rw [HMM.out]; exact hm0)]
        have q1 : (m : Int) < 4 := by omega
        have q0 : (0 : Int) ≤ (m : Int) := by omega
        clear hpm
        go_wp2_with fail
        go_meet
        exact ⟨by rw [← HE.out], HM2⟩
    case rest =>
      obtain ⟨rfl, HM3⟩ := hcut
      clear HM2 cN x0 x1 x2 x3 x4
      obtain ⟨S1, hS1⟩ : ∃ S1, 60 :: (X.tagT P sp lo ++ X.texts sep (X.rootT P d)) = S1 := ⟨_, rfl⟩
      have HS1 := hid hS1
      clear hS1
      have hS0 : (⟨#[60]⟩ : ByteArray) ++ tg = X.ba (60 :: X.tagT P sp lo) := by
        rw [← HTG.out, show (⟨#[60]⟩ : ByteArray) = X.ba [60] from rfl, ba_cat]
        rfl
      have HS0 := hid hS0
      clear hS0
      go_upto_if 54 with fail
      rw [HS0.out]
      go_cut [13, 14] from 55 to 73 (fun s13 _ wc => s13 = .string (X.ba S1) ∧ Hid (MS W #[.int .u8 sp, .int .u8 lo, .slice aa nal ac, .slice ta ntx tc, .slice ka nks kc] N #[.string (X.ba (X.spc sp)), .string (X.ba (X.nm lo)), .slice none 0 0, .slice none 0 0, .string ⟨#[]⟩, .int .i64 0, .int .i64 0] wc))
      case first =>
        by_cases hd0 : d = 0
        · subst hd0
          go_wp2_with fail
          go_loopw [13, 14] (fun s13 s14 wr => ∃ (i : Nat) (S : List UInt8), 1 ≤ i ∧ i ≤ 4 ∧ s14 = .int .i64 i ∧ s13 = .string (X.ba S) ∧ Hid (S = 60 :: (X.tagT P sp lo ++ X.texts sep ((X.rootT P 0).take (i - 1))) ∧ S.length ≤ 200 * i) ∧ Hid (MS W #[.int .u8 sp, .int .u8 lo, .slice aa nal ac, .slice ta ntx tc, .slice ka nks kc] N #[.string (X.ba (X.spc sp)), .string (X.ba (X.nm lo)), .slice none 0 0, .slice none 0 0, .string ⟨#[]⟩, .int .i64 0, .int .i64 0] wr)) (fun _ s14 _ => 4 - (intOf s14).toNat)
          case atStart => exact ⟨1, _, Nat.le_refl _, by omega, rfl, rfl, hid ⟨by simp [X.texts], by have := X.tag_len HP.out sp lo; simp only [List.length_cons]; omega⟩, HM3⟩
          case round =>
            obtain ⟨i, S, h1, h4, rfl, rfl, HS, HM5⟩ := hrel
            by_cases hi : i < 4
            · have e0 : decide ((i : Int) < 4) = true := decide_eq_true (by omega)
              have e1 : decide (i < 4) = true := decide_eq_true hi
              obtain ⟨bS, hbS⟩ : ∃ b, X.ba S = b := ⟨_, rfl⟩
              obtain ⟨pm, hpm⟩ : ∃ pm, X.ba (P.getD i []) = pm := ⟨_, rfl⟩
              obtain ⟨sq, hsq⟩ : ∃ sq, X.ba (X.spc i) = sq := ⟨_, rfl⟩
              have hbz : bS.size ≤ 800 := by rw [← hbS, ba_size]; have := HS.out.2; omega
              have hpz : pm.size ≤ 32 := by rw [← hpm, ba_size]; exact (HP.out.part i h1 hi).len
              have hqz : sq.size ≤ 9 := by rw [← hsq, ba_size]; exact X.spc_len i
              have HST := hid (root_step (P := P) (S := S) HSB.out i h1 hi)
              rw [hbS, hpm, hsq] at HST
              rw [hbS]
              have HNX : Hid (S ++ (sep ++ (rootX P i).text) = 60 :: (X.tagT P sp lo ++ X.texts sep ((X.rootT P 0).take (i + 1 - 1))) ∧ (S ++ (sep ++ (rootX P i).text)).length ≤ 200 * (i + 1)) := by
                show _ ∧ _
                have hrt := root_take P sep i h1 hi
                rw [show i + 1 - 1 = i by omega, hrt, HS.out.1]
                refine ⟨by simp, ?_⟩
                have hb := HS.out.2
                rw [HS.out.1] at hb
                have hl1 := rootX_len HP.out i h1 hi
                have hl2 := HSEP.out
                rw [List.length_append, List.length_append]
                omega
              have cP0 : wr.cell? ⟨gp, op + i, none⟩ = some (.string pm) := by
                have h := HPRE.out i hi
                rw [HM5.out.b.cell (p := ⟨gp, op + i, none⟩) (Lib.lt_of_cell h), h, hpm]
              have hgl : gp < wr.heap.size := Lib.lt_of_cell cP0
              have HCP := hid (And.intro cP0 hgl)
              have cS := fun U => lspace_any i U
              rw [hsq] at cS
              have HD := hid cS
              have q0 : (0 : Int) ≤ (i : Int) := by omega
              have q1 : (i : Int) < 4 := by omega
              have q2 : IntKind.u8.wrap (i : Int) = (i : Int) := by rw [IntKind.wrap_u8]; omega
              have f1 : ¬ 9223372036854775807 < bS.size + sb.size := by omega
              have f2 : ¬ 9223372036854775807 < bS.size + sb.size + 6 := by omega
              have f3 : ¬ 9223372036854775807 < bS.size + sb.size + 6 + pm.size := by omega
              have f4 : ¬ 9223372036854775807 < bS.size + sb.size + 6 + pm.size + 2 := by omega
              have f5 : ¬ 9223372036854775807 < bS.size + sb.size + 6 + pm.size + 2 + sq.size := by omega
              have f6 : ¬ 9223372036854775807 < bS.size + sb.size + 6 + pm.size + 2 + sq.size + 1 := by omega
              clear hbS hpm hsq cS cP0 hgl HS
              go_upto_region 10 with fail
              refine quiet_lit (C := (fun w1 => Below wr.heap.size wr w1)) (by kernel_rfl) (by kernel_rfl) ((Below.refl _ _).drew) ?_
              repeat (first
                | go_big_quiet_skip
                | (go_big_quiet_want
                   refine quiet_val (x := ?_) (fun vv hC => ?_) ?_
                   rotate_left
                   · skip
                     have cP := (hC.cell (p := ⟨gp, op + i, none⟩) HCP.out.2).trans HCP.out.1
                     clear hC
                     go_simp
                     with_reducible rfl
                   go_big_quiet_on
                   try simp only [Act.put, List.setIfInBounds_toArray, List.set_cons_zero, List.set_cons_succ])
                | (go_big_quiet_want
                   refine quiet_call (f := ?_) (args := ?_) (x := ?_) (fun vv hC => ?_) (fun vv hC => ?_) ?_
                   rotate_left 3
                   · go_simp
                     first | with_reducible rfl | (apply And.intro <;> with_reducible rfl)
                   · first
                       | (go_at_call 28; with_reducible refine (HD.out _).mono ?_; rintro e ww ⟨rfl, bb⟩; refine And.intro ?_ (hC.trans (bb.mono hC.size)); with_reducible rfl)
                   go_big_quiet_on
                   try simp only [Act.put, List.setIfInBounds_toArray, List.set_cons_zero, List.set_cons_succ]))
              refine wpQuiet_nil ?_
              intro vq hq
              have HBq : Hid (Below wr.heap.size wr vq) := hid hq
              clear hq
              go_wp2_with fail
              refine ⟨⟨i + 1, _, by omega, by omega, by go_num, by rw [HST.out], HNX, hid (HM5.out.below HBq.out)⟩, ?_⟩
              simp [intOf]; omega
            · obtain rfl : i = 4 := by omega
              have HE : Hid (X.ba S = X.ba S1) := by show _ = _; rw [HS.out.1, ← HS1.out]; rfl
              clear HS
              go_wp2_with fail
              go_meet
              exact ⟨by rw [HE.out], HM5⟩
        · have e0 : ((d : Int) == 0) = false := by simp [hd0]
          have HE : Hid (60 :: X.tagT P sp lo = S1) := by show _ = _; rw [← HS1.out]; unfold X.rootT; rw [if_neg hd0]; simp [X.texts]
          go_wp2_with fail
          go_meet
          exact ⟨by rw [HE.out], HM3⟩
      case rest =>
        obtain ⟨rfl, HM4⟩ := hcut
        clear HM3 HS0
        have HL0 : Hid (MS W #[.int .u8 sp, .int .u8 lo, .slice aa nal ac, .slice ta ntx tc, .slice ka nks kc] N (ncA sp lo (.slice none 0 0)) wc ∧ AOwn (N + 1) (([] : List X.Say).map X.sayA) (.slice none 0 0) wc) := hid ⟨HM4.out, World.ownsRow_nil _ _ _ _⟩
        have HSZ : Hid (S1.length ≤ 600) := by
          show _ ≤ _
          rw [← HS1.out]
          have h1 := X.tag_len HP.out sp lo
          have h2 := X.root_len HP.out HSEP.out d
          simp only [List.length_cons, List.length_append]
          omega
        clear HM4
        obtain ⟨S2, hS2⟩ : ∃ S2, S1 ++ X.texts sep ((X.kept al).map (X.sayT P)) = S2 := ⟨_, rfl⟩
        have HSS2 := hid hS2
        clear hS2
        go_upto_block 2 with fail
        go_cut [13, 15, 16, 17, 18, 19, 20, 21] from 74 to 170 (fun v13 _ _ _ _ _ _ _ wc => v13 = .string (X.ba S2) ∧ ∃ na nc, Hid (X.asOk al = true ∧ MS W #[.int .u8 sp, .int .u8 lo, .slice aa nal ac, .slice ta ntx tc, .slice ka nks kc] N (ncA sp lo (.slice na (X.kept al).length nc)) wc ∧ AOwn (N + 1) ((X.kept al).map X.sayA) (.slice na (X.kept al).length nc) wc))
        case first =>
          go_wp2_with fail
          go_loopw [13, 15, 16, 17, 18, 19, 20, 21] (fun v13 v15 _ _ _ _ _ _ wr => ∃ (i : Nat) (S : List UInt8) (L : List X.Say) (na : Option Addr) (nc : Nat), i ≤ 20 ∧ i ≤ nal ∧ v15 = .int .i64 i ∧ v13 = .string (X.ba S) ∧ Hid (S = S1 ++ X.texts sep (L.map (X.sayT P)) ∧ X.keep L ((al.take 20).drop i) = X.kept al ∧ L.length ≤ i ∧ ((al.take 20).take i).all (fun x => X.oks x.va) = true ∧ ∀ x ∈ L, X.sayW x) ∧ Hid (MS W #[.int .u8 sp, .int .u8 lo, .slice aa nal ac, .slice ta ntx tc, .slice ka nks kc] N (ncA sp lo (.slice na L.length nc)) wr ∧ AOwn (N + 1) (L.map X.sayA) (.slice na L.length nc) wr)) (fun _ v15 _ _ _ _ _ _ _ => 20 - (intOf v15).toNat)
          case atStart => exact ⟨0, S1, [], none, 0, by omega, by omega, rfl, rfl, hid ⟨by simp [X.texts], rfl, Nat.le_refl _, rfl, fun _ h => by cases h⟩, HL0⟩
          case round =>
            obtain ⟨i, S, L, na, nc, h20, hin, rfl, rfl, HI, HL⟩ := hrel
            clear HL0
            obtain ⟨x0, x1, x2, x3, x4⟩ := row5s HL.out.1.t
            by_cases hlt : i < nal ∧ i < 20
            · have e0 : decide ((i : Int) < (nal : Int)) = true := decide_eq_true (by omega)
              have e1 : decide (i < nal) = true := decide_eq_true hlt.1
              have e2 : decide ((i : Int) < 20) = true := decide_eq_true (by omega)
              have e3 : decide (i < 20) = true := decide_eq_true hlt.2
              obtain ⟨x, hx⟩ : ∃ x, al[i]? = some x := ⟨_, List.getElem?_eq_getElem (by have := HNN.out.1; omega)⟩
              obtain ⟨ga, oa, hga⟩ := HAV.out.place
              obtain ⟨hga1, hga2, hga3, hga4⟩ := hga (by omega)
              rw [hga1] at x2
              clear hga1
              have hgl := HQ.out ga hga3
              have hgl2 : ga < wr.heap.size := Nat.lt_of_lt_of_le hgl HL.out.1.b.size
              have u0 : wr.cell? ⟨ga, oa + i * 3, none⟩ = some (.int .u8 x.sp) := (HL.out.1.b.cell (p := ⟨ga, oa + i * 3, none⟩) hgl).trans (hga4 (i * 3 + 0) _ (X.saysC_at al i x hx 0 _ rfl))
              have u1 : wr.cell? ⟨ga, oa + i * 3 + 1, none⟩ = some (.int .u8 x.lo) := (HL.out.1.b.cell (p := ⟨ga, oa + i * 3 + 1, none⟩) hgl).trans (hga4 (i * 3 + 1) _ (X.saysC_at al i x hx 1 _ rfl))
              have u2 : wr.cell? ⟨ga, oa + i * 3 + 2, none⟩ = some (.string x.va) := (HL.out.1.b.cell (p := ⟨ga, oa + i * 3 + 2, none⟩) hgl).trans (hga4 (i * 3 + 2) _ (X.saysC_at al i x hx 2 _ rfl))
              have hmem : x ∈ al := List.mem_of_getElem? hx
              have hxw := HWD.out.1.2.2.1 x hmem
              obtain ⟨xs, xl, xv⟩ := x
              obtain ⟨hx1, hx2, hx3⟩ := hxw
              simp only at u0 u1 u2 hx1 hx2 hx3
              have HXA := hid (And.intro hx hmem)
              have P0 : (0 : Int) ≤ (i : Int) := by omega
              have P1 : (i : Int) < (nal : Int) := by omega
              clear hx hmem hga hga3 hga4 hgl hgl2
              go_upto_region 16 with fail
              generalize hw7 : World.alloc wr _ = w7
              obtain ⟨B, hB⟩ : ∃ B, wr.heap.size = B := ⟨_, rfl⟩
              rw [hB]
              have HLS : Hid (LS W #[.int .u8 sp, .int .u8 lo, .slice aa nal ac, .slice ta ntx tc, .slice ka nks kc] N sp lo L (.slice na L.length nc) B ⟨xs, xl, xv⟩ w7) := by
                show LS _ _ _ _ _ _ _ _ _ _
                have hb7 : Below wr.heap.size wr w7 := by rw [← hw7]; exact (Below.refl _ wr).alloc (Nat.le_refl _) _
                refine ⟨HL.out.1.below hb7, HL.out.2.below hb7, by rw [← hw7, ← hB]; exact heap_alloc_new wr _, fun e => ?_, ?_⟩
                · have := (World.ownsRow.lt HL.out.2 (k := B) e).2; omega
                · have := Go.lt_of_block HL.out.1.n; omega
              clear hw7 hB HL x0 x1 x2 x3 x4 u0 u1 u2
              have hLl := HI.out.2.2.1
              go_upto_region 17 with fail
              go_loopw [17, 18] (fun v17 v18 wr => ∃ (j : Nat), j ≤ L.length ∧ v18 = .int .i64 j ∧ v17 = .bool ((L.take j).any (fun y => decide (y.key = (⟨xs, xl, xv⟩ : X.Say).key))) ∧ Hid (LS W #[.int .u8 sp, .int .u8 lo, .slice aa nal ac, .slice ta ntx tc, .slice ka nks kc] N sp lo L (.slice na L.length nc) B ⟨xs, xl, xv⟩ wr)) (fun _ v18 _ => L.length - (intOf v18).toNat)
              case atStart => exact ⟨0, Nat.zero_le _, rfl, by rw [List.take_zero]; rfl, HLS⟩
              case round =>
                obtain ⟨j, hj, rfl, rfl, HL3⟩ := hrel
                clear HLS
                obtain ⟨n0, n1, n2, n3, n4, n5, n6⟩ := row7s HL3.out.m.n
                obtain ⟨bb, hbb⟩ : ∃ bb, (L.take j).any (fun y => decide (y.key = (⟨xs, xl, xv⟩ : X.Say).key)) = bb := ⟨_, rfl⟩
                rw [hbb]
                have HBB := hid hbb
                clear hbb
                by_cases hjl : j < L.length
                · have f0 : decide ((j : Int) < (L.length : Int)) = true := decide_eq_true (by omega)
                  have f1 : decide (j < L.length) = true := decide_eq_true hjl
                  obtain ⟨y, hy⟩ : ∃ y, L[j]? = some y := ⟨_, List.getElem?_eq_getElem hjl⟩
                  obtain ⟨g, rfl, -, hgl, -⟩ := HL3.out.a.cells rfl (by omega : 0 < L.length)
                  have hyA : (L.map X.sayA)[j]? = some (X.sayA y) := by rw [List.getElem?_map, hy]; rfl
                  have HYA := hid hyA
                  have hse := say_eq y ⟨xs, xl, xv⟩
                  obtain ⟨sy, hsy⟩ : ∃ b, X.ba (X.spc y.sp) = b := ⟨_, rfl⟩
                  obtain ⟨sx, hsx⟩ : ∃ b, X.ba (X.spc xs) = b := ⟨_, rfl⟩
                  obtain ⟨ly, hly⟩ : ∃ b, X.ba (X.nm y.lo) = b := ⟨_, rfl⟩
                  obtain ⟨lx, hlx⟩ : ∃ b, X.ba (X.nm xl) = b := ⟨_, rfl⟩
                  have HCE : Hid (∀ U, LS W #[.int .u8 sp, .int .u8 lo, .slice aa nal ac, .slice ta ntx tc, .slice ka nks kc] N sp lo L (.slice (some ⟨g, 0, none⟩) L.length nc) B ⟨xs, xl, xv⟩ U → U.cell? ⟨g, j * 3, none⟩ = some (.string sy) ∧ U.cell? ⟨g, j * 3 + 1, none⟩ = some (.string ly)) := by
                    intro U hU
                    have h2 := (hU.a.cellsAt (by omega)).2 j _ HYA.out
                    exact ⟨by rw [← hsy]; exact h2 0 _ rfl, by rw [← hly]; exact h2 1 _ rfl⟩
                  simp only at hse
                  rw [hsy, hly, hsx, hlx] at hse
                  have c1 := fun U => lspace_any xs U
                  rw [hsx] at c1
                  have c2 := fun U => lname_any xl hx2 U
                  rw [hlx] at c2
                  have HD1 := hid c1
                  have HD2 := hid c2
                  have HNX : Hid ((L.take (j + 1)).any (fun y => decide (y.key = (⟨xs, xl, xv⟩ : X.Say).key)) = (bb || (sy.toList == sx.toList && ly.toList == lx.toList))) := by
                    show _ = _
                    rw [List.take_add_one, List.any_append, HBB.out, hy, hse]
                    simp
                  have q0 : (0 : Int) ≤ (j : Int) := by omega
                  have q1 : (j : Int) < (L.length : Int) := by omega
                  clear hy hyA hgl hse hsy hsx hly hlx c1 c2
                  obtain ⟨b1, hb1⟩ : ∃ b, (sy.toList == sx.toList) = b := ⟨_, rfl⟩
                  obtain ⟨b2, hb2⟩ : ∃ b, (ly.toList == lx.toList) = b := ⟨_, rfl⟩
                  rw [hb1, hb2] at HNX
                  cases bb <;> cases b1 <;> cases b2
                  all_goals
                    go_upto_region 19 with fail
                    clear n0 n1 n2 n3 n4 n5 n6
                    refine quiet_lit (C := (fun w1 => LS W #[.int .u8 sp, .int .u8 lo, .slice aa nal ac, .slice ta ntx tc, .slice ka nks kc] N sp lo L (.slice (some ⟨g, 0, none⟩) L.length nc) B ⟨xs, xl, xv⟩ w1)) (by kernel_rfl) (by kernel_rfl) (HL3.out.below (Below.refl _ _).drew) ?_
                    repeat (first
                      | go_big_quiet_skip
                      | (go_big_quiet_want
                         refine quiet_val (x := ?_) (fun vv hC => ?_) ?_
                         rotate_left
                         · skip
                           have n2 := (row7s hC.m.n).2.2.1
                           obtain ⟨a0, a1⟩ := HCE.out _ hC
                           have z0 := rowCell hC.x 0
                           have z1 := rowCell hC.x 1
                           clear hC
                           go_simp
                           with_reducible rfl
                         go_big_quiet_on
                         try simp only [Act.put, List.setIfInBounds_toArray, List.set_cons_zero, List.set_cons_succ])
                      | (go_big_quiet_want
                         refine quiet_call (f := ?_) (args := ?_) (x := ?_) (fun vv hC => ?_) (fun vv hC => ?_) ?_
                         rotate_left 3
                         · go_simp
                           first | with_reducible rfl | (apply And.intro <;> with_reducible rfl)
                         · first
                             | (go_at_call 28; with_reducible refine (HD1.out _).mono ?_; rintro e ww ⟨rfl, bb⟩; refine And.intro ?_ (hC.below bb); with_reducible rfl)
                             | (go_at_call 29; with_reducible refine (HD2.out _).mono ?_; rintro e ww ⟨rfl, bb⟩; refine And.intro ?_ (hC.below bb); with_reducible rfl)
                         go_big_quiet_on
                         try simp only [Act.put, List.setIfInBounds_toArray, List.set_cons_zero, List.set_cons_succ]))
                    refine wpQuiet_nil ?_
                    intro vq hq
                    have HL4 := hid hq
                    clear hq
                    go_wp2_with fail
                    refine ⟨⟨j + 1, by omega, by go_num, by rw [HNX.out]; rfl, HL4⟩, ?_⟩
                    simp [intOf]; omega
                · obtain rfl : j = L.length := by omega
                  have f0 : decide ((L.length : Int) < (L.length : Int)) = false := decide_eq_false (by omega)
                  have f1 : decide (L.length < L.length) = false := decide_eq_false (by omega)
                  rw [List.take_length] at HBB
                  have y0 := rowCell HL3.out.x 0
                  have y1 := rowCell HL3.out.x 1
                  have y2 : wr.cell? ⟨B, 2, none⟩ = some (.string xv) := rowCell HL3.out.x 2
                  clear y0 y1
                  have hTw := HT.out.under HL3.out.m.b
                  cases hk : X.oks xv
                  · have cE := escape_bad xv hx3 hk wr hTw
                    have HBAD : Hid (X.treeOk d al tx ks = false) := by
                      show _ = _
                      unfold X.treeOk
                      rw [as_bad HXA.out.1 hlt.2 hk]
                      rfl
                    clear hk
                    go_wp2_with fail
                    refine cE.mono ?_
                    rintro e w8 ⟨rfl, hb8⟩
                    have HL8 := hid (HL3.out.below hb8)
                    clear hb8 cE hTw n0 n1 n2 n3 n4 n5 n6 y2
                    obtain ⟨n0, n1, n2, n3, n4, n5, n6⟩ := row7s HL8.out.m.n
                    obtain ⟨r0, r1, r2, r3, r4, r5, r6, hr⟩ := HL8.out.m.r
                    obtain ⟨z0, z1, z2, z3, z4, z5, z6⟩ := row7s hr
                    have zf := fun j => rowFree hr j
                    have zf0 := zf 0
                    have zf1 := zf 1
                    have zf2 := zf 2
                    have zf3 := zf 3
                    have zf4 := zf 4
                    have zf5 := zf 5
                    have zf6 := zf 6
                    have hrow := set7_row hr (.string (X.ba (X.spc sp))) (.string (X.ba (X.nm lo))) (.slice na L.length nc) (.slice none 0 0) (.string ⟨#[]⟩) (.int .i64 0) (.int .i64 0)
                    have hbel := HL8.out.m.b.grown (set7_grown w8 (W.heap.size + 1) (.string (X.ba (X.spc sp))) (.string (X.ba (X.nm lo))) (.slice na L.length nc) (.slice none 0 0) (.string ⟨#[]⟩) (.int .i64 0) (.int .i64 0)) HL8.out.m.b.size (fun k hk => by have h9 : W.heap.size + 1 = k := Option.some.inj hk; omega)
                    have HROW := hid hrow
                    have HBEL := hid hbel
                    clear zf hr hrow hbel
                    go_wp2_with fail
                    exact bodyPost_ret (v := .tuple #[.agg #[.string (X.ba (X.spc sp)), .string (X.ba (X.nm lo)), .slice na L.length nc, .slice none 0 0, .string ⟨#[]⟩, .int .i64 0, .int .i64 0], .string (X.ba []), .bool false]) (results_trio rfl _ _ (W.heap.size + 1) 28 #[.string (X.ba (X.spc sp)), .string (X.ba (X.nm lo)), .slice na L.length nc, .slice none 0 0, .string ⟨#[]⟩, .int .i64 0, .int .i64 0] (0, 0) _ _ _ rfl HROW.out rfl rfl Tryz.underlying28 rfl infoNodeT) rfl ⟨HBEL.out, Or.inr ⟨HBAD.out, _, _, _, _, _, _, _, _, _, rfl⟩⟩
                  · have cE := escape_ok xv hx3 hk wr hTw
                    have HOK := hid hk
                    obtain ⟨ev, hev⟩ : ∃ b, X.ba (X.escL xv.data.toList) = b := ⟨_, rfl⟩
                    rw [hev] at cE
                    have hez : ev.size ≤ 6291456 := by rw [← hev, ba_size]; exact X.esc_size xv hx3
                    have HEV := hid hev
                    clear hk hev
                    go_wp2_with fail
                    refine cE.mono ?_
                    rintro e w8 ⟨rfl, hb8⟩
                    have HL8 := hid (HL3.out.below hb8)
                    clear hb8 cE hTw n0 n1 n2 n3 n4 n5 n6 y2
                    cases bb
                    · obtain ⟨i0, hi, hz0, hz1, hzz⟩ := info_parts infoAttrT
                      have HI0 := hid (show _ ∧ _ ∧ _ ∧ _ from ⟨hi, hz0, hz1, hzz⟩)
                      obtain ⟨lx, hlx⟩ : ∃ b, X.ba (X.nm xl) = b := ⟨_, rfl⟩
                      obtain ⟨sx, hsx⟩ : ∃ b, X.ba (X.spc xs) = b := ⟨_, rfl⟩
                      have c1 := fun U => lspace_any xs U
                      rw [hsx] at c1
                      have c2 := fun U => lname_any xl hx2 U
                      rw [hlx] at c2
                      have HD1 := hid c1
                      have HD2 := hid c2
                      have HXX : Hid (attrC (X.sayA ⟨xs, xl, xv⟩) = [.string sx, .string lx, .string xv]) := by
                        show _ = _
                        rw [← hsx, ← hlx]; rfl
                      have HSX := hid (And.intro hsx hlx)
                      clear hi hz0 hz1 hzz c1 c2 hlx hsx
                      go_upto_region 24 with fail
                      have HL8d := hid (HL8.out.below (Below.refl _ w8).drew)
                      refine wp_region_till (S := (fun w : World => LS W #[.int .u8 sp, .int .u8 lo, .slice aa nal ac, .slice ta ntx tc, .slice ka nks kc] N sp lo L (.slice na L.length nc) B ⟨xs, xl, xv⟩ w)) 12 (by kernel_rfl) ?_
                      have HS := hid (show ((fun w : World => LS W #[.int .u8 sp, .int .u8 lo, .slice aa nal ac, .slice ta ntx tc, .slice ka nks kc] N sp lo L (.slice na L.length nc) B ⟨xs, xl, xv⟩ w)) _ from HL8d.out)
                      refine wpTill_any 0 (oi := ?oi15) (v := ?v15) ?ho15 (by kernel_rfl) (by kernel_rfl) (by kernel_rfl) (by kernel_rfl) ?hq15 (Or.inl ⟨?hw15, ?hy15⟩) (fun _ => HS.out) ?rest15
                      case ho15 => simp only [List.getElem?_toArray, List.getElem?_cons_zero]; rfl
                      case hw15 => rfl
                      case hy15 => intro w; go_simp; try with_reducible rfl
                      case hq15 => exact fun _ _ _ h => h
                      try simp only [Act.put, List.setIfInBounds_toArray, List.set_cons_zero, List.set_cons_succ]
                      refine wpTill_any 2 (oi := ?oi16) (v := ?v16) ?ho16 (by kernel_rfl) (by kernel_rfl) (by kernel_rfl) (by kernel_rfl) ?hq16 (Or.inl ⟨?hw16, ?hy16⟩) (fun _ => HS.out) ?rest16
                      case ho16 => simp only [List.getElem?_toArray, List.getElem?_cons_succ, List.getElem?_cons_zero]; rfl
                      case hw16 => rfl
                      case hy16 => intro w; go_simp; try with_reducible rfl
                      case hq16 => exact fun _ _ _ h => h
                      try simp only [Act.put, List.setIfInBounds_toArray, List.set_cons_zero, List.set_cons_succ]
                      refine wpTill_any 5 (oi := ?oi17) (v := ?v17) ?ho17 (by kernel_rfl) (by kernel_rfl) (by kernel_rfl) (by kernel_rfl) ?hq17 (Or.inl ⟨?hw17, ?hy17⟩) (fun _ => HS.out) ?rest17
                      case ho17 => simp only [List.getElem?_toArray, List.getElem?_cons_succ, List.getElem?_cons_zero]; rfl
                      case hw17 => rfl
                      case hy17 => intro w; go_simp; try with_reducible rfl
                      case hq17 => exact fun _ _ _ h => h
                      try simp only [Act.put, List.setIfInBounds_toArray, List.set_cons_zero, List.set_cons_succ]
                      refine wpTill_any 8 (oi := ?oi18) (v := ?v18) ?ho18 (by kernel_rfl) (by kernel_rfl) (by kernel_rfl) (by kernel_rfl) ?hq18 (Or.inl ⟨?hw18, ?hy18⟩) (fun _ => HS.out) ?rest18
                      case ho18 => simp only [List.getElem?_toArray, List.getElem?_cons_succ, List.getElem?_cons_zero]; rfl
                      case hw18 => rfl
                      case hy18 => intro w; go_simp; try with_reducible rfl
                      case hq18 => exact fun _ _ _ h => h
                      try simp only [Act.put, List.setIfInBounds_toArray, List.set_cons_zero, List.set_cons_succ]
                      refine wpTill_load 1 [1, 12] (oi := ?oi19) (v := ?v19) ?ho19 (by kernel_rfl) (by kernel_rfl) (by kernel_rfl) (by kernel_rfl) ?hq19 (Or.inl ⟨?hw19, ?hy19⟩) HS.out ?rest19
                      case ho19 => simp only [List.getElem?_toArray, List.getElem?_cons_succ, List.getElem?_cons_zero]; rfl
                      case hw19 => rfl
                      case hy19 =>
                        intro w hSw
                        have c2' := (row7s hSw.m.n).2.2.1
                        clear hSw
                        go_simp
                        try with_reducible rfl
                      case hq19 => exact fun _ _ _ h => h
                      try simp only [Act.put, List.setIfInBounds_toArray, List.set_cons_zero, List.set_cons_succ]
                      refine wpTill_load 3 [3, 4, 7, 12] (oi := ?oi20) (v := ?v20) ?ho20 (by kernel_rfl) (by kernel_rfl) (by kernel_rfl) (by kernel_rfl) ?hq20 (Or.inl ⟨?hw20, ?hy20⟩) HS.out ?rest20
                      case ho20 => simp only [List.getElem?_toArray, List.getElem?_cons_succ, List.getElem?_cons_zero]; rfl
                      case hw20 => rfl
                      case hy20 =>
                        intro w hSw
                        have c0' := rowCell hSw.x 0
                        clear hSw
                        go_simp
                        try with_reducible rfl
                      case hq20 => exact fun _ _ _ h => h
                      try simp only [Act.put, List.setIfInBounds_toArray, List.set_cons_zero, List.set_cons_succ]
                      refine wpTill_load 6 [6, 7, 12] (oi := ?oi21) (v := ?v21) ?ho21 (by kernel_rfl) (by kernel_rfl) (by kernel_rfl) (by kernel_rfl) ?hq21 (Or.inl ⟨?hw21, ?hy21⟩) HS.out ?rest21
                      case ho21 => simp only [List.getElem?_toArray, List.getElem?_cons_succ, List.getElem?_cons_zero]; rfl
                      case hw21 => rfl
                      case hy21 =>
                        intro w hSw
                        have c1' := rowCell hSw.x 1
                        clear hSw
                        go_simp
                        try with_reducible rfl
                      case hq21 => exact fun _ _ _ h => h
                      try simp only [Act.put, List.setIfInBounds_toArray, List.set_cons_zero, List.set_cons_succ]
                      refine wpTill_load 9 [9, 10, 11, 12] (oi := ?oi22) (v := ?v22) ?ho22 (by kernel_rfl) (by kernel_rfl) (by kernel_rfl) (by kernel_rfl) ?hq22 (Or.inl ⟨?hw22, ?hy22⟩) HS.out ?rest22
                      case ho22 => simp only [List.getElem?_toArray, List.getElem?_cons_succ, List.getElem?_cons_zero]; rfl
                      case hw22 => rfl
                      case hy22 =>
                        intro w hSw
                        have c2' : w.cell? ⟨B, 2, none⟩ = some (.string xv) := rowCell hSw.x 2
                        clear hSw
                        go_simp
                        try with_reducible rfl
                      case hq22 => exact fun _ _ _ h => h
                      try simp only [Act.put, List.setIfInBounds_toArray, List.set_cons_zero, List.set_cons_succ]
                      refine wpTill_ready (rs := [4]) (by kernel_rfl) (by decide) ?_
                      refine AllTill.consH (o := ?oi23) ?ho23 (fun K hK => ?step23) ?more23
                      case ho23 => simp only [List.getElem?_toArray, List.getElem?_cons_succ, List.getElem?_cons_zero]; rfl
                      case step23 =>
                        go_simp
                        refine (HD1.out _).mono ?_
                        rintro e w9 ⟨rfl, bb⟩
                        have HLa := hid (HL8d.out.below bb)
                        clear bb
                        try dsimp only
                        refine hK.out _ _ (fun _ => HLa.out) (fun hHeld => ?_)
                        have HS23 := hid (hHeld (by kernel_rfl))
                        clear hHeld hK K
                        try simp only [Act.put, List.setIfInBounds_toArray, List.set_cons_zero, List.set_cons_succ]
                        refine wpTill_ready (rs := [7]) (by kernel_rfl) (by decide) ?_
                        refine AllTill.consH (o := ?oi24) ?ho24 (fun K hK => ?step24) ?more24
                        case ho24 => simp only [List.getElem?_toArray, List.getElem?_cons_succ, List.getElem?_cons_zero]; rfl
                        case step24 =>
                          go_simp
                          refine (HD2.out _).mono ?_
                          rintro e w10 ⟨rfl, bb⟩
                          have HLb := hid (HLa.out.below bb)
                          clear bb
                          try dsimp only
                          refine hK.out _ _ (fun _ => HLb.out) (fun hHeld => ?_)
                          have HS24 := hid (hHeld (by kernel_rfl))
                          clear hHeld hK K
                          try simp only [Act.put, List.setIfInBounds_toArray, List.set_cons_zero, List.set_cons_succ]
                          refine wpTill_any 10 (oi := ?oi25) (v := ?v25) ?ho25 (by kernel_rfl) (by kernel_rfl) (by kernel_rfl) (by kernel_rfl) ?hq25 (Or.inl ⟨?hw25, ?hy25⟩) (fun _ => HS24.out) ?rest25
                          case ho25 => simp only [List.getElem?_toArray, List.getElem?_cons_succ, List.getElem?_cons_zero]; rfl
                          case hw25 => rfl
                          case hy25 => intro w; go_simp; try with_reducible rfl
                          case hq25 => exact fun _ _ _ h => h
                          try simp only [Act.put, List.setIfInBounds_toArray, List.set_cons_zero, List.set_cons_succ]
                          refine wpTill_ready (rs := [11]) (by kernel_rfl) (by decide) ?_
                          refine AllTill.consH (o := ?oi26) ?ho26 (fun K hK => ?step26) ?more26
                          case ho26 => simp only [List.getElem?_toArray, List.getElem?_cons_succ, List.getElem?_cons_zero]; rfl
                          case step26 =>
                            go_simp
                            generalize hw11 : World.alloc w10 _ = w11
                            have HLc : Hid (LS W #[.int .u8 sp, .int .u8 lo, .slice aa nal ac, .slice ta ntx tc, .slice ka nks kc] N sp lo L (.slice na L.length nc) B ⟨xs, xl, xv⟩ w11) := by show LS _ _ _ _ _ _ _ _ _ _; rw [← hw11]; exact HLb.out.below ((Below.refl _ _).alloc (Nat.le_refl _) _)
                            have HZ : Hid (w11.heap[w10.heap.size]? = some (.cells #[.string sx, .string lx, .string xv] 50 (0, 0))) := by show _ = _; rw [← hw11]; exact heap_alloc_new w10 _
                            have hnews := hid (World.news_of_block HZ.out)
                            have hown0 := HLc.out.a
                            have hown : Hid (w11.ownsRow (N + 1) 50 3 (.slice na L.length nc) L.length (attrsC (L.map X.sayA))) := by show World.ownsRow _ _ _ _ _ _ _; have h9 := hown0; unfold AOwn at h9; rw [List.length_map] at h9; exact h9
                            have hbase : Hid (N + 1 ≤ w11.heap.size) := by show _ ≤ _; have := Go.lt_of_block HLc.out.m.n; omega
                            clear hw11 hown0
                            try dsimp only
                            refine hK.out _ _ (fun _ => HLc.out) (fun hHeld => ?_)
                            have HS26 := hid (hHeld (by kernel_rfl))
                            clear hHeld hK K
                            try simp only [Act.put, List.setIfInBounds_toArray, List.set_cons_zero, List.set_cons_succ]
                            refine wpTill_ready (rs := [12]) (by kernel_rfl) (by decide) ?_
                            refine AllTill.consH (o := ?oi27) ?ho27 (fun K hK => ?step27) ?more27
                            case ho27 => simp only [List.getElem?_toArray, List.getElem?_cons_succ, List.getElem?_cons_zero]; rfl
                            case step27 =>
                              refine step_append_lies _ (by rfl) (.tmp 133) (.tmp 143) 23 (by rfl) (N + 1) 50 i0 _ 3 48 Tryz.underlying23 HI0.out.1 HI0.out.2.1 HI0.out.2.2.1 HI0.out.2.2.2 rfl (by decide) (.slice na L.length nc) L.length (attrsC (L.map X.sayA)) (by rfl) hown.out ⟨w10.heap.size, 0, none⟩ 1 1 [.string sx, .string lx, .string xv] (by rfl) rfl hnews.out (by intro u hu; simp at hu; rcases hu with rfl | rfl | rfl <;> rfl) (by decide) (by unfold maxLen; omega) (by omega) hbase.out _ rfl ?_
                              intro g1 cap1 w12 hown1 hgrow hat hlt1
                              have HPU := hid (HLc.out.push (by rw [HXX.out]; exact hown1) hgrow hat)
                              have HN12 : Hid (w12.heap[N]? = some (.cells (ncA sp lo (.slice na L.length nc)) 28 (0, 0))) := by show _ = _; rw [hgrow.block _ (Go.lt_of_block HLc.out.m.n) (fun e => by have := (World.ownsRow.lt hown.out (k := N) e.symm).1; omega)]; exact HLc.out.m.n
                              clear hown1 hgrow hat hlt1
                              try dsimp only
                              refine hK.out _ _ (fun hk => by cases (show true = false from hk)) (fun _ => ?_)
                              clear hK K
                              try simp only [Act.put, List.setIfInBounds_toArray, List.set_cons_zero, List.set_cons_succ]
                              refine wpTill_any 13 (oi := ?oi28) (v := ?v28) ?ho28 (by kernel_rfl) (by kernel_rfl) (by kernel_rfl) (by kernel_rfl) ?hq28 (Or.inl ⟨?hw28, ?hy28⟩) (fun hk => by cases (show true = false from hk)) ?rest28
                              case ho28 => simp only [List.getElem?_toArray, List.getElem?_cons_succ, List.getElem?_cons_zero]; rfl
                              case hw28 => rfl
                              case hy28 => intro w; go_simp; try with_reducible rfl
                              case hq28 => exact fun _ _ _ h => h
                              try simp only [Act.put, List.setIfInBounds_toArray, List.set_cons_zero, List.set_cons_succ]
                              refine wpTill_ready (rs := [14]) (by kernel_rfl) (by decide) ?_
                              refine AllTill.consH (o := ?oi29) ?ho29 (fun K hK => ?step29) ?more29
                              case ho29 => simp only [List.getElem?_toArray, List.getElem?_cons_succ, List.getElem?_cons_zero]; rfl
                              case step29 =>
                                have hz2 := (row7s HN12.out).2.2.1
                                have hf2 := rowFree HN12.out 2
                                go_simp
                                clear hz2 hf2
                                try dsimp only
                                refine hK.out _ _ (fun hk => by cases (show true = false from hk)) (fun _ => ?_)
                                clear hK K
                                try simp only [Act.put, List.setIfInBounds_toArray, List.set_cons_zero, List.set_cons_succ]
                                refine wpTill_done (by kernel_rfl) ?_ _
                                clear HLa HLb HLc HZ hnews hown hbase HN12 HL8d HL8
                                have HPV : Hid (LS W #[.int .u8 sp, .int .u8 lo, .slice aa nal ac, .slice ta ntx tc, .slice ka nks kc] N sp lo (L ++ [⟨xs, xl, xv⟩]) (.slice (some ⟨g1, 0, none⟩) (L.length + 1) cap1) B ⟨xs, xl, xv⟩ (w12.setCell ⟨N, 2, none⟩ (.slice (some ⟨g1, 0, none⟩) (L.length + 1) cap1))) := HPU
                                clear HPU
                                generalize hw13 : World.setCell w12 ⟨N, 2, none⟩ _ = w13 at HPV ⊢
                                clear hw13
                                have y1 : w13.cell? ⟨B, 1, none⟩ = some (.int .u8 xl) := rowCell HPV.out.x 1
                                go_wp2_with fail
                                refine (HD2.out _).mono ?_
                                rintro e w14 ⟨rfl, bb⟩
                                have HP4 := hid (HPV.out.below bb)
                                clear bb HPV y1
                                have y0 : w14.cell? ⟨B, 0, none⟩ = some (.int .u8 xs) := rowCell HP4.out.x 0
                                obtain ⟨m2, hm2⟩ : ∃ m, xs % 4 = m := ⟨_, rfl⟩
                                have hm21 : ((xs : Int).tmod 4) = (m2 : Int) := by rw [← hm2]; rfl
                                have hm24 : m2 < 4 := by omega
                                have HM2 := hid hm2
                                have hnz2 : lx.size = 2 := by rw [← HSX.out.2, ba_size]; rfl
                                obtain ⟨tg2, htg2⟩ : ∃ tg, X.ba (X.tagT P xs xl) = tg := ⟨_, rfl⟩
                                have htz2 : tg2.size ≤ 35 := by rw [← htg2, ba_size]; exact X.tag_len HP.out xs xl
                                have HTG2 := hid htg2
                                clear htg2 hm2
                                go_upto_if 152 with fail
                                go_cut [21] from 74 to 170 (fun s21 wc => s21 = .string tg2 ∧ Hid (LS W #[.int .u8 sp, .int .u8 lo, .slice aa nal ac, .slice ta ntx tc, .slice ka nks kc] N sp lo (L ++ [⟨xs, xl, xv⟩]) (.slice (some ⟨g1, 0, none⟩) (L.length + 1) cap1) B ⟨xs, xl, xv⟩ wc))
                                case first =>
                                  by_cases hm0 : m2 = 0
                                  · subst hm0
                                    have HE : Hid (lx = tg2) := by show _ = _; rw [← HSX.out.2, tag_one HP.out xs xl HM2.out]; exact HTG2.out
                                    go_wp2_with fail
                                    go_meet
                                    exact ⟨by rw [HE.out], HP4⟩
                                  · have e10 : ((m2 : Int) != 0) = true := by simp [hm0]
                                    have e11 : ((m2 : Int) == 0) = false := by simp [hm0]
                                    have e12 : ¬ (m2 : Int) = 0 := by omega
                                    obtain ⟨pm, hpm⟩ : ∃ pm, X.ba (P.getD m2 []) = pm := ⟨_, rfl⟩
                                    have cP : w14.cell? ⟨gp, op + m2, none⟩ = some (.string pm) := by
                                      have h := HPRE.out m2 hm24
                                      rw [HP4.out.m.b.cell (p := ⟨gp, op + m2, none⟩) (Lib.lt_of_cell h), h, hpm]
                                    have hpz : pm.size ≤ 32 := by
                                      rw [← hpm, ba_size]
                                      have := HP.out.len m2
                                      unfold X.Pn at this
                                      rw [Nat.mod_eq_of_lt hm24] at this
                                      exact this
                                    have HE : Hid (pm ++ (⟨#[58]⟩ : ByteArray) ++ lx = tg2) := by
                                      show _ = _
                                      rw [← hpm, ← HSX.out.2, ← HTG2.out, ← HM2.out, tag_two HP.out xs xl (by rw [HM2.out]; exact hm0)]
                                    have q1 : (m2 : Int) < 4 := by omega
                                    have q0 : (0 : Int) ≤ (m2 : Int) := by omega
                                    clear hpm
                                    go_wp2_with fail
                                    go_meet
                                    exact ⟨by rw [← HE.out], HP4⟩
                                case rest =>
                                  obtain ⟨rfl, HP5⟩ := hcut
                                  clear HP4 y0
                                  have HATS := hid (attr_step (P := P) (S := S) HSB.out (⟨xs, xl, xv⟩ : X.Say))
                                  have HS2 : Hid (X.ba S ++ sb ++ tg2 ++ (⟨#[61, 34]⟩ : ByteArray) ++ ev ++ (⟨#[34]⟩ : ByteArray) = X.ba (S ++ X.texts sep ([(⟨xs, xl, xv⟩ : X.Say)].map (X.sayT P)))) := by
                                    show _ = _
                                    rw [← HATS.out, ← HTG2.out, ← HEV.out]
                                  have hSl : S.length ≤ 130000600 := by
                                    have h1 := X.says_len HP.out HSEP.out L HI.out.2.2.2.2
                                    rw [HI.out.1, List.length_append]
                                    have h2 := HSZ.out
                                    have h3 : L.length * 6291510 ≤ 20 * 6291510 := Nat.mul_le_mul_right _ (by omega)
                                    omega
                                  have HNXT : Hid (S ++ X.texts sep ([(⟨xs, xl, xv⟩ : X.Say)].map (X.sayT P)) = S1 ++ X.texts sep ((L ++ [(⟨xs, xl, xv⟩ : X.Say)]).map (X.sayT P)) ∧ X.keep (L ++ [(⟨xs, xl, xv⟩ : X.Say)]) ((al.take 20).drop (i + 1)) = X.kept al ∧ (L ++ [(⟨xs, xl, xv⟩ : X.Say)]).length = L.length + 1 ∧ ((al.take 20).take (i + 1)).all (fun x => X.oks x.va) = true ∧ ∀ x ∈ L ++ [(⟨xs, xl, xv⟩ : X.Say)], X.sayW x) := by
                                    refine ⟨?_, ?_, by simp, take_all HXA.out.1 hlt.2 HI.out.2.2.2.1 HOK.out, ?_⟩
                                    · rw [HI.out.1, List.map_append, X.texts_app, List.append_assoc]
                                    · rw [← HI.out.2.1, drop_step HXA.out.1 hlt.2, keep_step L _ _ false HBB.out]
                                      rfl
                                    · intro x hx
                                      rcases List.mem_append.1 hx with h | h
                                      · exact HI.out.2.2.2.2 x h
                                      · rw [List.mem_singleton] at h
                                        rw [h]; exact ⟨hx1, hx2, hx3⟩
                                  obtain ⟨bS, hbS⟩ : ∃ b, X.ba S = b := ⟨_, rfl⟩
                                  have hbz : bS.size ≤ 130000600 := by rw [← hbS, ba_size]; exact hSl
                                  rw [hbS] at HS2 ⊢
                                  clear hbS HATS
                                  go_wp2_with fail
                                  refine ⟨⟨i + 1, _, L ++ [⟨xs, xl, xv⟩], some ⟨g1, 0, none⟩, cap1, by omega, by omega, by go_num, by rw [HS2.out], hid ⟨HNXT.out.1, HNXT.out.2.1, by rw [HNXT.out.2.2.1]; omega, HNXT.out.2.2.2.1, HNXT.out.2.2.2.2⟩, by rw [HNXT.out.2.2.1]; exact hid ⟨HP5.out.m, HP5.out.a⟩⟩, ?_⟩
                                  simp [intOf]; omega
                              case more29 =>
                                exact AllTill.nil
                            case more27 =>
                              exact AllTill.nil
                          case more26 =>
                            exact AllTill.nil
                        case more24 =>
                          exact AllTill.nil
                      case more23 =>
                        exact AllTill.nil
                    · have HKP : Hid (X.keep L ((al.take 20).drop (i + 1)) = X.kept al) := by
                        show _ = _
                        rw [← HI.out.2.1, drop_step HXA.out.1 hlt.2, keep_step L _ _ true HBB.out]
                        rfl
                      have HTA : Hid (((al.take 20).take (i + 1)).all (fun x => X.oks x.va) = true) := take_all HXA.out.1 hlt.2 HI.out.2.2.2.1 HOK.out
                      go_wp2_with fail
                      refine ⟨⟨i + 1, S, L, na, nc, by omega, by omega, by go_num, rfl, hid ⟨HI.out.1, HKP.out, by omega, HTA.out, HI.out.2.2.2.2⟩, hid ⟨HL8.out.m, HL8.out.a⟩⟩, ?_⟩
                      simp [intOf]; omega
            · obtain ⟨hdr, has⟩ := as_done (by have := HNN.out.1; omega : ¬ (i < al.length ∧ i < 20)) h20 HI.out.2.2.2.1
              have HE : Hid (S = S2 ∧ L = X.kept al ∧ X.asOk al = true) := by
                show _ ∧ _ ∧ _
                have h1 := HI.out.2.1
                rw [hdr] at h1
                have h2 : L = X.kept al := h1
                refine ⟨?_, h2, has⟩
                rw [HI.out.1, h2]
                exact HSS2.out
              clear hdr has
              by_cases hn : i < nal
              · have e0 : decide ((i : Int) < (nal : Int)) = true := decide_eq_true (by omega)
                have e1 : decide (i < nal) = true := decide_eq_true hn
                have e2 : decide ((i : Int) < 20) = false := decide_eq_false (by omega)
                have e3 : decide (i < 20) = false := decide_eq_false (by omega)
                go_wp2_with fail
                go_meet
                exact ⟨by rw [HE.out.1], na, nc, by rw [← HE.out.2.1]; exact hid ⟨HE.out.2.2, HL.out.1, HL.out.2⟩⟩
              · have e0 : decide ((i : Int) < (nal : Int)) = false := decide_eq_false (by omega)
                have e1 : decide (i < nal) = false := decide_eq_false hn
                go_wp2_with fail
                go_meet
                exact ⟨by rw [HE.out.1], na, nc, by rw [← HE.out.2.1]; exact hid ⟨HE.out.2.2, HL.out.1, HL.out.2⟩⟩
        case rest =>
          obtain ⟨rfl, na, nc, HLB⟩ := hcut
          clear HL0
          obtain ⟨S3, hS3⟩ : ∃ S3, X.openT P sep d sp lo al = S3 := ⟨_, rfl⟩
          have HS3 : Hid (S3 = X.openT P sep d sp lo al ∧ S3.length ≤ 130000000) := hid ⟨hS3.symm, by rw [← hS3]; exact X.open_len HP.out HSEP.out d sp lo al HWD.out.1.2.2.1⟩
          have hS23 : X.ba S2 ++ (⟨#[62]⟩ : ByteArray) = X.ba S3 := by
            rw [show (⟨#[62]⟩ : ByteArray) = X.ba [62] from rfl, ba_cat, ← hS3, ← HSS2.out, ← HS1.out]
            unfold X.openT
            simp
          obtain ⟨b2, hb2⟩ : ∃ b, X.ba S2 = b := ⟨_, rfl⟩
          have hb2z : b2.size ≤ 130000000 := by
            rw [← hb2, ba_size]
            have h1 := congrArg ByteArray.size hS23
            rw [show (⟨#[62]⟩ : ByteArray) = X.ba [62] from rfl, ba_cat, ba_size, ba_size, List.length_append] at h1
            have h2 := HS3.out.2
            simp only [List.length_cons, List.length_nil] at h1
            omega
          rw [hb2] at hS23 ⊢
          have HS23 := hid hS23
          clear hS23 hb2 hS3
          obtain ⟨A, hA⟩ : ∃ A, (X.kept al).map X.sayA = A := ⟨_, rfl⟩
          have HA := hid hA
          have hAl : A.length = (X.kept al).length := by rw [← hA, List.length_map]
          rw [hA] at HLB
          obtain ⟨nl, hnav⟩ : ∃ v, (X.kept al).length = v := ⟨_, rfl⟩
          rw [hnav] at HLB
          have HL4 : Hid (L4 W #[.int .u8 sp, .int .u8 lo, .slice aa nal ac, .slice ta ntx tc, .slice ka nks kc] N wc.heap.size sp lo A (.slice na nl nc) .nil (.slice none 0 0) (X.ba []) wc) := by
            show L4 _ _ _ _ _ _ _ _ _ _ _ _
            have h1 := HLB.out.2.2
            have hNl := Go.lt_of_block HLB.out.2.1.n
            refine ⟨HLB.out.2.1, X.AIn.keep (fun b hb => ?_) (fun _ _ => rfl) h1.is, KOwn.nil _ _, hNl, Nat.le_refl _⟩
            obtain ⟨g1, g2, _, cs, T, g3, g4⟩ := hb
            exact ⟨by omega, g2, cs, T, g3, g4⟩
          have HAS := hid HLB.out.1
          obtain ⟨M, hM⟩ : ∃ M, wc.heap.size = M := ⟨_, rfl⟩
          rw [hM] at HL4
          clear HLB hA hAl hnav hM
          obtain ⟨gk, okk, hgk⟩ := (show ks.In W Q (.slice ka ks.length kc) by rw [HNN.out.2.2]; exact HKV.out).addr
          have HGK := hid hgk
          clear hgk
          have hnk3 : nks ≤ 300 := by have := X.WT.len_count ks; have := HCO.out; have := HNN.out.2.2; omega
          have HR0 : Hid (R4 W Q P sep d S3 tx ks gk okk 0 S3 [] .nil ks tx) := hid ⟨fun hne => by rw [Nat.zero_mul, Nat.add_zero]; exact (HGK.out hne).2.2, Nat.zero_add _, rfl, rfl, rfl, rfl, rfl, HALL.out, HWD.out.1.2.2.2.2, HCO.out⟩
          go_upto_region 31 with fail
          rw [HS23.out]
          go_loopw [13, 22, 23, 24, 25, 26, 27] (fun v13 v22 _ _ _ _ _ wr => ∃ (i : Nat) (S T : List UInt8) (K : X.N) (kva : Option Addr) (kl kvc : Nat), v22 = .int .i64 i ∧ v13 = .string (X.ba S) ∧ i ≤ nks + 1 ∧ Hid ((∃ r txs, R4 W Q P sep d S3 tx ks gk okk i S T K r txs) ∨ (i = nks + 1 ∧ S = S3 ++ X.cont P sep ks d tx ∧ T = X.plainT ks tx ∧ K = X.kids ks d ∧ X.okC ks d tx = true)) ∧ Hid (L4 W #[.int .u8 sp, .int .u8 lo, .slice aa nal ac, .slice ta ntx tc, .slice ka nks kc] N M sp lo A (.slice na nl nc) K (.slice kva kl kvc) (X.ba T) wr)) (fun _ v22 _ _ _ _ _ _ => nks + 1 - (intOf v22).toNat)
          case atStart => exact ⟨0, S3, [], .nil, none, 0, 0, rfl, rfl, by omega, hid (Or.inl ⟨ks, tx, HR0.out⟩), HL4⟩
          case round =>
            obtain ⟨i, S, T, K, kva, kl, kvc, rfl, rfl, hin, HC, HL⟩ := hrel
            clear HR0 HL4
            obtain ⟨x0, x1, x2, x3, x4⟩ := row5s HL.out.m.t
            have hC := HC.out
            rcases hC with ⟨r, txs, hR⟩ | ⟨hi, hfin⟩
            · have hR1 := hR.sum HP.out HSEP.out HWD.out.1.2.2.2.2 HWD.out.1.2.2.2.1 HCO.out HS3.out.2
              have hile : i ≤ nks := by have := hR.n; rw [HNN.out.2.2] at this; omega
              have HRR := hid hR
              have e0 : decide ((i : Int) ≤ (nks : Int)) = true := decide_eq_true (by omega)
              have e1 : decide (i ≤ nks) = true := decide_eq_true hile
              have P0 : (0 : Int) ≤ (i : Int) := by omega
              obtain ⟨bT, hbT⟩ : ∃ b, X.ba T = b := ⟨_, rfl⟩
              have hTz : bT.size ≤ 400000000 := by rw [← hbT, ba_size]; have := hR1.2; omega
              obtain ⟨bS, hbS⟩ : ∃ b, X.ba S = b := ⟨_, rfl⟩
              have hSz : bS.size ≤ 100000000000 := by rw [← hbS, ba_size]; have := hR1.1; omega
              rw [hbT] at HL
              rw [hbS]
              have HBT := hid hbT
              have HBS := hid hbS
              have hnks := hR.few
              clear hR hR1 hbT hbS HC
              go_upto_if 184 with fail
              go_cut [13, 23, 24] from 173 to 243 (fun v13 _ _ wc => v13 = .string (X.ba (S ++ X.escL (X.first txs))) ∧ Hid (X.firstOk txs = true ∧ L4 W #[.int .u8 sp, .int .u8 lo, .slice aa nal ac, .slice ta ntx tc, .slice ka nks kc] N M sp lo A (.slice na nl nc) K (.slice kva kl kvc) (X.ba (T ++ X.first txs)) wc))
              case first =>
                by_cases hit : i < ntx
                · have e2 : decide ((i : Int) < (ntx : Int)) = true := decide_eq_true (by omega)
                  have e3 : decide (i < ntx) = true := decide_eq_true hit
                  obtain ⟨t, ht⟩ : ∃ t, tx[i]? = some t := ⟨_, List.getElem?_eq_getElem (by have := HNN.out.2.1; omega)⟩
                  have hts : txs = t :: tx.drop (i + 1) := by rw [HRR.out.txe]; exact first_of ht
                  have htm := HWD.out.1.2.2.2.1 t (List.mem_of_getElem? ht)
                  obtain ⟨gt, ot, hgt⟩ := HTV.out.place
                  obtain ⟨hg1, hg2, hg3, hg4⟩ := hgt (by omega)
                  have HTA := hid hg1
                  have HGT : Hid (gt < W.heap.size ∧ W.cell? ⟨gt, ot + i, none⟩ = some (.string t)) := hid ⟨HQ.out gt hg3, hg4 i _ (X.strC_at tx i t ht)⟩
                  have cT : wr.cell? ⟨gt, ot + i, none⟩ = some (.string t) := (HL.out.m.b.cell (p := ⟨gt, ot + i, none⟩) HGT.out.1).trans HGT.out.2
                  rw [hg1] at x3
                  have q1 : (i : Int) < (ntx : Int) := by omega
                  have hTw := HT.out.under HL.out.m.b
                  have HTS := hid hts
                  clear hts hgt hg1 hg3 hg4 ht
                  cases hk : X.oks t
                  · have cE := escape_bad t htm hk wr hTw
                    have HBAD : Hid (X.treeOk d al tx ks = false) := by
                      show _ = _
                      unfold X.treeOk
                      rw [← HRR.out.ok, HTS.out]
                      have hf : X.firstOk (t :: tx.drop (i + 1)) = false := hk
                      have : X.okC r d (t :: tx.drop (i + 1)) = false := by
                        cases r with
                        | nil => exact hf
                        | cons => unfold X.okC; rw [hf]; rfl
                      rw [this, Bool.and_false]
                    clear hk
                    go_wp2_with fail
                    refine cE.mono ?_
                    rintro e w8 ⟨rfl, hb8⟩
                    have HL8 := hid (HL.out.below hb8)
                    clear hb8 cE hTw cT x0 x1 x2 x3 x4
                    obtain ⟨n0, n1, n2, n3, n4, n5, n6⟩ := row7s HL8.out.m.n
                    obtain ⟨r0, r1, r2, r3, r4, r5, r6, hr⟩ := HL8.out.m.r
                    obtain ⟨z0, z1, z2, z3, z4, z5, z6⟩ := row7s hr
                    have zf := fun j => rowFree hr j
                    have zf0 := zf 0
                    have zf1 := zf 1
                    have zf2 := zf 2
                    have zf3 := zf 3
                    have zf4 := zf 4
                    have zf5 := zf 5
                    have zf6 := zf 6
                    have hrow := set7_row hr (.string (X.ba (X.spc sp))) (.string (X.ba (X.nm lo))) (.slice na nl nc) (.slice kva kl kvc) (.string bT) (.int .i64 0) (.int .i64 0)
                    have hgrow := set7_grown w8 (W.heap.size + 1) (.string (X.ba (X.spc sp))) (.string (X.ba (X.nm lo))) (.slice na nl nc) (.slice kva kl kvc) (.string bT) (.int .i64 0) (.int .i64 0)
                    have hbel := HL8.out.m.b.grown hgrow HL8.out.m.b.size (fun k hk => by have h9 : W.heap.size + 1 = k := Option.some.inj hk; omega)
                    have HROW := hid hrow
                    have HBEL := hid hbel
                    have HGR := hid hgrow
                    clear zf hr hrow hbel hgrow
                    go_wp2_with fail
                    exact bodyPost_ret (v := .tuple #[.agg #[.string (X.ba (X.spc sp)), .string (X.ba (X.nm lo)), (.slice na nl nc), (.slice kva kl kvc), .string bT, .int .i64 0, .int .i64 0], .string (X.ba []), .bool false]) (results_trio rfl _ _ (W.heap.size + 1) 28 #[.string (X.ba (X.spc sp)), .string (X.ba (X.nm lo)), (.slice na nl nc), (.slice kva kl kvc), .string bT, .int .i64 0, .int .i64 0] (0, 0) _ _ _ rfl HROW.out rfl rfl Tryz.underlying28 rfl infoNodeT) rfl ⟨HBEL.out, Or.inr ⟨HBAD.out, _, _, _, _, _, _, _, _, _, rfl⟩⟩
                  · have cE := escape_ok t htm hk wr hTw
                    have HOK := hid hk
                    obtain ⟨ev, hev⟩ : ∃ b, X.ba (X.escL t.data.toList) = b := ⟨_, rfl⟩
                    rw [hev] at cE
                    have hez : ev.size ≤ 6291456 := by rw [← hev, ba_size]; exact X.esc_size t htm
                    have HEV := hid hev
                    clear hk hev
                    go_wp2_with fail
                    refine cE.mono ?_
                    rintro e w8 ⟨rfl, hb8⟩
                    have HL8 := hid (HL.out.below hb8)
                    clear hb8 cE hTw cT x0 x1 x2 x3 x4
                    have f1 : ¬ 9223372036854775807 < bS.size + ev.size := by omega
                    have f2 : ¬ 9223372036854775807 < bT.size + t.size := by omega
                    go_upto_region 37 with fail
                    have HL8d := hid (HL8.out.below (Below.refl _ w8).drew)
                    refine wp_region_till (S := (fun w : World => L4 W #[.int .u8 sp, .int .u8 lo, .slice aa nal ac, .slice ta ntx tc, .slice ka nks kc] N M sp lo A (.slice na nl nc) K (.slice kva kl kvc) bT w)) 13 (by kernel_rfl) ?_
                    have HS := hid (show ((fun w : World => L4 W #[.int .u8 sp, .int .u8 lo, .slice aa nal ac, .slice ta ntx tc, .slice ka nks kc] N M sp lo A (.slice na nl nc) K (.slice kva kl kvc) bT w)) _ from HL8d.out)
                    refine wpTill_any 0 (oi := ?oi1) (v := ?v1) ?ho1 (by kernel_rfl) (by kernel_rfl) (by kernel_rfl) (by kernel_rfl) ?hq1 (Or.inl ⟨?hw1, ?hy1⟩) (fun _ => HS.out) ?rest1
                    case ho1 => simp only [List.getElem?_toArray, List.getElem?_cons_zero]; rfl
                    case hw1 => rfl
                    case hy1 => intro w; go_simp; try with_reducible rfl
                    case hq1 => exact fun _ _ _ h => h
                    try simp only [Act.put, List.setIfInBounds_toArray, List.set_cons_zero, List.set_cons_succ]
                    refine wpTill_any 1 (oi := ?oi2) (v := ?v2) ?ho2 (by kernel_rfl) (by kernel_rfl) (by kernel_rfl) (by kernel_rfl) ?hq2 (Or.inl ⟨?hw2, ?hy2⟩) (fun _ => HS.out) ?rest2
                    case ho2 => simp only [List.getElem?_toArray, List.getElem?_cons_succ, List.getElem?_cons_zero]; rfl
                    case hw2 => rfl
                    case hy2 => intro w; go_simp; try with_reducible rfl
                    case hq2 => exact fun _ _ _ h => h
                    try simp only [Act.put, List.setIfInBounds_toArray, List.set_cons_zero, List.set_cons_succ]
                    refine wpTill_any 2 (oi := ?oi3) (v := ?v3) ?ho3 (by kernel_rfl) (by kernel_rfl) (by kernel_rfl) (by kernel_rfl) ?hq3 (Or.inl ⟨?hw3, ?hy3⟩) (fun _ => HS.out) ?rest3
                    case ho3 => simp only [List.getElem?_toArray, List.getElem?_cons_succ, List.getElem?_cons_zero]; rfl
                    case hw3 => rfl
                    case hy3 => intro w; go_simp; try with_reducible rfl
                    case hq3 => exact fun _ _ _ h => h
                    try simp only [Act.put, List.setIfInBounds_toArray, List.set_cons_zero, List.set_cons_succ]
                    refine wpTill_any 3 (oi := ?oi4) (v := ?v4) ?ho4 (by kernel_rfl) (by kernel_rfl) (by kernel_rfl) (by kernel_rfl) ?hq4 (Or.inl ⟨?hw4, ?hy4⟩) (fun _ => HS.out) ?rest4
                    case ho4 => simp only [List.getElem?_toArray, List.getElem?_cons_succ, List.getElem?_cons_zero]; rfl
                    case hw4 => rfl
                    case hy4 => intro w; go_simp; try with_reducible rfl
                    case hq4 => exact fun _ _ _ h => h
                    try simp only [Act.put, List.setIfInBounds_toArray, List.set_cons_zero, List.set_cons_succ]
                    refine wpTill_any 5 (oi := ?oi5) (v := ?v5) ?ho5 (by kernel_rfl) (by kernel_rfl) (by kernel_rfl) (by kernel_rfl) ?hq5 (Or.inl ⟨?hw5, ?hy5⟩) (fun _ => HS.out) ?rest5
                    case ho5 => simp only [List.getElem?_toArray, List.getElem?_cons_succ, List.getElem?_cons_zero]; rfl
                    case hw5 => rfl
                    case hy5 => intro w; go_simp; try with_reducible rfl
                    case hq5 => exact fun _ _ _ h => h
                    try simp only [Act.put, List.setIfInBounds_toArray, List.set_cons_zero, List.set_cons_succ]
                    refine wpTill_any 7 (oi := ?oi6) (v := ?v6) ?ho6 (by kernel_rfl) (by kernel_rfl) (by kernel_rfl) (by kernel_rfl) ?hq6 (Or.inl ⟨?hw6, ?hy6⟩) (fun _ => HS.out) ?rest6
                    case ho6 => simp only [List.getElem?_toArray, List.getElem?_cons_succ, List.getElem?_cons_zero]; rfl
                    case hw6 => rfl
                    case hy6 => intro w; go_simp; try with_reducible rfl
                    case hq6 => exact fun _ _ _ h => h
                    try simp only [Act.put, List.setIfInBounds_toArray, List.set_cons_zero, List.set_cons_succ]
                    refine wpTill_any 11 (oi := ?oi7) (v := ?v7) ?ho7 (by kernel_rfl) (by kernel_rfl) (by kernel_rfl) (by kernel_rfl) ?hq7 (Or.inl ⟨?hw7, ?hy7⟩) (fun _ => HS.out) ?rest7
                    case ho7 => simp only [List.getElem?_toArray, List.getElem?_cons_succ, List.getElem?_cons_zero]; rfl
                    case hw7 => rfl
                    case hy7 => intro w; go_simp; try with_reducible rfl
                    case hq7 => exact fun _ _ _ h => h
                    try simp only [Act.put, List.setIfInBounds_toArray, List.set_cons_zero, List.set_cons_succ]
                    refine wpTill_load 4 [4, 13] (oi := ?oi8) (v := ?v8) ?ho8 (by kernel_rfl) (by kernel_rfl) (by kernel_rfl) (by kernel_rfl) ?hq8 (Or.inl ⟨?hw8, ?hy8⟩) HS.out ?rest8
                    case ho8 => simp only [List.getElem?_toArray, List.getElem?_cons_succ, List.getElem?_cons_zero]; rfl
                    case hw8 => rfl
                    case hy8 =>
                      intro w hSw
                      have c4' := (row7s hSw.m.n).2.2.2.2.1
                      clear hSw
                      go_simp
                      try with_reducible rfl
                    case hq8 => exact fun _ _ _ h => h
                    try simp only [Act.put, List.setIfInBounds_toArray, List.set_cons_zero, List.set_cons_succ]
                    refine wpTill_load 6 [6, 13] (oi := ?oi9) (v := ?v9) ?ho9 (by kernel_rfl) (by kernel_rfl) (by kernel_rfl) (by kernel_rfl) ?hq9 (Or.inl ⟨?hw9, ?hy9⟩) HS.out ?rest9
                    case ho9 => simp only [List.getElem?_toArray, List.getElem?_cons_succ, List.getElem?_cons_zero]; rfl
                    case hw9 => rfl
                    case hy9 =>
                      intro w hSw
                      have c3' := (row5s hSw.m.t).2.2.2.1
                      rw [HTA.out] at c3'
                      clear hSw
                      go_simp
                      try with_reducible rfl
                    case hq9 => exact fun _ _ _ h => h
                    try simp only [Act.put, List.setIfInBounds_toArray, List.set_cons_zero, List.set_cons_succ]
                    refine wpTill_any 8 (oi := ?oi10) (v := ?v10) ?ho10 (by kernel_rfl) (by kernel_rfl) (by kernel_rfl) (by kernel_rfl) ?hq10 (Or.inl ⟨?hw10, ?hy10⟩) (fun _ => HS.out) ?rest10
                    case ho10 => simp only [List.getElem?_toArray, List.getElem?_cons_succ, List.getElem?_cons_zero]; rfl
                    case hw10 => rfl
                    case hy10 => intro w; go_simp; try with_reducible rfl
                    case hq10 => exact fun _ _ _ h => h
                    try simp only [Act.put, List.setIfInBounds_toArray, List.set_cons_zero, List.set_cons_succ]
                    refine wpTill_load 9 [9, 13] (oi := ?oi11) (v := ?v11) ?ho11 (by kernel_rfl) (by kernel_rfl) (by kernel_rfl) (by kernel_rfl) ?hq11 (Or.inl ⟨?hw11, ?hy11⟩) HS.out ?rest11
                    case ho11 => simp only [List.getElem?_toArray, List.getElem?_cons_succ, List.getElem?_cons_zero]; rfl
                    case hw11 => rfl
                    case hy11 =>
                      intro w hSw
                      have cT' : w.cell? ⟨gt, ot + i, none⟩ = some (.string t) := (hSw.m.b.cell (p := ⟨gt, ot + i, none⟩) HGT.out.1).trans HGT.out.2
                      clear hSw
                      go_simp
                      try with_reducible rfl
                    case hq11 => exact fun _ _ _ h => h
                    try simp only [Act.put, List.setIfInBounds_toArray, List.set_cons_zero, List.set_cons_succ]
                    refine wpTill_any 10 (oi := ?oi12) (v := ?v12) ?ho12 (by kernel_rfl) (by kernel_rfl) (by kernel_rfl) (by kernel_rfl) ?hq12 (Or.inl ⟨?hw12, ?hy12⟩) (fun _ => HS.out) ?rest12
                    case ho12 => simp only [List.getElem?_toArray, List.getElem?_cons_succ, List.getElem?_cons_zero]; rfl
                    case hw12 => rfl
                    case hy12 => intro w; go_simp; try with_reducible rfl
                    case hq12 => exact fun _ _ _ h => h
                    try simp only [Act.put, List.setIfInBounds_toArray, List.set_cons_zero, List.set_cons_succ]
                    refine wpTill_any 12 (oi := ?oi13) (v := ?v13) ?ho13 (by kernel_rfl) (by kernel_rfl) (by kernel_rfl) (by kernel_rfl) ?hq13 (Or.inl ⟨?hw13, ?hy13⟩) (fun _ => HS.out) ?rest13
                    case ho13 => simp only [List.getElem?_toArray, List.getElem?_cons_succ, List.getElem?_cons_zero]; rfl
                    case hw13 => rfl
                    case hy13 => intro w; go_simp; try with_reducible rfl
                    case hq13 => exact fun _ _ _ h => h
                    try simp only [Act.put, List.setIfInBounds_toArray, List.set_cons_zero, List.set_cons_succ]
                    refine wpTill_ready (rs := [13]) (by kernel_rfl) (by decide) ?_
                    refine AllTill.consH (o := ?oi14) ?ho14 (fun K hK => ?step14) ?more14
                    case ho14 => simp only [List.getElem?_toArray, List.getElem?_cons_succ, List.getElem?_cons_zero]; rfl
                    case step14 =>
                      have hz4 := (row7s HL8d.out.m.n).2.2.2.2.1
                      have hf4 := rowFree HL8d.out.m.n 4
                      go_simp
                      clear hz4 hf4
                      try dsimp only
                      refine hK.out _ _ (fun hk => by cases (show true = false from hk)) (fun _ => ?_)
                      clear hK K
                      try simp only [Act.put, List.setIfInBounds_toArray, List.set_cons_zero, List.set_cons_succ]
                      refine wpTill_done (by kernel_rfl) ?_ _
                      have HLX := hid (HL8d.out.text (bT ++ t))
                      have HE : Hid (bS ++ ev = X.ba (S ++ X.escL (X.first txs)) ∧ X.firstOk txs = true ∧ bT ++ t = X.ba (T ++ X.first txs)) := by
                        rw [HTS.out, ← HBS.out, ← HBT.out, ← HEV.out]
                        refine ⟨ba_cat _ _, HOK.out, ?_⟩
                        show X.ba T ++ t = X.ba (T ++ t.data.toList)
                        rw [← ba_cat, X.ba_data]
                      clear HL8d HL8 f1 f2
                      go_wp2_with fail
                      go_meet
                      exact ⟨by rw [HE.out.1], hid ⟨HE.out.2.1, by rw [← HE.out.2.2]; exact HLX.out⟩⟩
                    case more14 =>
                      exact AllTill.nil
                · have e2 : decide ((i : Int) < (ntx : Int)) = false := decide_eq_false (by omega)
                  have e3 : decide (i < ntx) = false := decide_eq_false hit
                  have hts : txs = [] := by rw [HRR.out.txe]; exact List.drop_eq_nil_of_le (by have := HNN.out.2.1; omega)
                  have HE : Hid (bS = X.ba (S ++ X.escL (X.first txs)) ∧ X.firstOk txs = true ∧ bT = X.ba (T ++ X.first txs)) := by
                    rw [hts]
                    exact ⟨by rw [← HBS.out]; simp [X.first, X.escL], rfl, by rw [← HBT.out]; simp [X.first]⟩
                  clear hts
                  go_wp2_with fail
                  go_meet
                  exact ⟨by rw [← HE.out.1], hid ⟨HE.out.2.1, by rw [← HE.out.2.2]; exact HL.out⟩⟩
              case rest =>
                obtain ⟨rfl, HLT⟩ := hcut
                clear HL x0 x1 x2 x3 x4
                have hst := HRR.out.sum HP.out HSEP.out HWD.out.1.2.2.2.2 HWD.out.1.2.2.2.1 HCO.out HS3.out.2
                obtain ⟨bT2, hbT2⟩ : ∃ b, X.ba (T ++ X.first txs) = b := ⟨_, rfl⟩
                obtain ⟨bS2, hbS2⟩ : ∃ b, X.ba (S ++ X.escL (X.first txs)) = b := ⟨_, rfl⟩
                have hcl : (X.escL (X.first txs)).length ≤ (X.cont P sep r d txs).length := by
                  cases r with
                  | nil => exact Nat.le_refl _
                  | cons => unfold X.cont; rw [List.length_append]; omega
                have hSz2 : bS2.size ≤ 100000000000 := by rw [← hbS2, ba_size, List.length_append]; omega
                rw [hbT2] at HLT
                rw [hbS2]
                have HB2 := hid (And.intro hbT2 hbS2)
                clear hbT2 hbS2 hst hcl hSz
                obtain ⟨x0, x1, x2, x3, x4⟩ := row5s HLT.out.2.m.t
                cases r with
                | nil =>
                  have hd := HRR.out.done HLT.out.1
                  have hieq : i = nks := by rw [hd.1]; exact HNN.out.2.2
                  have e2 : decide ((i : Int) < (nks : Int)) = false := decide_eq_false (by omega)
                  have e3 : decide (i < nks) = false := decide_eq_false (by omega)
                  have HDN : Hid (i + 1 = nks + 1 ∧ S ++ X.escL (X.first txs) = S3 ++ X.cont P sep ks d tx ∧ T ++ X.first txs = X.plainT ks tx ∧ K = X.kids ks d ∧ X.okC ks d tx = true) := hid ⟨by omega, hd.2⟩
                  clear hd hieq
                  go_wp2_with fail
                  refine ⟨⟨i + 1, S ++ X.escL (X.first txs), T ++ X.first txs, K, kva, kl, kvc, by go_num, by rw [HB2.out.2], by omega, hid (Or.inr HDN.out), by rw [HB2.out.1]; exact hid HLT.out.2⟩, ?_⟩
                  simp [intOf]; omega
                | cons sp1 lo1 al1 tx1 k1 r1 =>
                  have hilt : i < nks := by have := HRR.out.n; simp only [X.WT.length] at this; rw [HNN.out.2.2] at this; omega
                  have e2 : decide ((i : Int) < (nks : Int)) = true := decide_eq_true (by omega)
                  have e3 : decide (i < nks) = true := decide_eq_true hilt
                  by_cases h15 : d < 15
                  · have e4 : decide ((d : Int) < 15) = true := decide_eq_true (by omega)
                    have e5 : decide (d < 15) = true := decide_eq_true h15
                    have hWR := HRR.out.write HLT.out.1 h15
                    have hAt := HRR.out.at_ (fun e => by cases e)
                    have hQg : Q gk := hAt.1
                    have hgl := HQ.out gk hQg
                    obtain ⟨a1, n1, a2, n2, a3, n3, h0, h1, h2, h3, h4, htree, -, -⟩ := hAt.head
                    have hne : ks ≠ .nil := fun e => by have := HNN.out.2.2; rw [e] at this; simp only [X.WT.length] at this; omega
                    obtain ⟨hka, hkc, -⟩ := HGK.out hne
                    rw [hka] at x4
                    have hbl := HLT.out.2.m.b
                    have u0 : wc.cell? ⟨gk, okk + i * 5, none⟩ = some (.int .u8 sp1) := (hbl.cell (p := ⟨gk, okk + i * 5, none⟩) hgl).trans h0
                    have u1 : wc.cell? ⟨gk, okk + i * 5 + 1, none⟩ = some (.int .u8 lo1) := (hbl.cell (p := ⟨gk, okk + i * 5 + 1, none⟩) hgl).trans h1
                    have u2 : wc.cell? ⟨gk, okk + i * 5 + 2, none⟩ = some (.slice a1 al1.length n1) := (hbl.cell (p := ⟨gk, okk + i * 5 + 2, none⟩) hgl).trans h2
                    have u3 : wc.cell? ⟨gk, okk + i * 5 + 3, none⟩ = some (.slice a2 tx1.length n2) := (hbl.cell (p := ⟨gk, okk + i * 5 + 3, none⟩) hgl).trans h3
                    have u4 : wc.cell? ⟨gk, okk + i * 5 + 4, none⟩ = some (.slice a3 k1.length n3) := (hbl.cell (p := ⟨gk, okk + i * 5 + 4, none⟩) hgl).trans h4
                    have hkc2 : nks ≤ kc := by have := HNN.out.2.2; omega
                    have cM := HRR.out.all.1 ⟨HRR.out.wide.1, trivial⟩ (by have := HRR.out.few; simp only [X.WT.count] at this; omega) (d + 1) (by omega) P sep HP.out HSEP.out wc Q _ gp op cp (htree.keep (fun _ h => h) (fun b hb => hbl.block b (HQ.out b hb))) (fun b hb => Nat.lt_of_lt_of_le (HQ.out b hb) hbl.size) hcp (fun q hq => by
                      have h := HPRE.out q hq
                      rw [hbl.cell (p := ⟨gp, op + q, none⟩) (Lib.lt_of_cell h), h]) (HT.out.under hbl)
                    rw [HSB.out, show ((d + 1 : Nat) : Int) = (d : Int) + 1 by omega] at cM
                    have HWR := hid hWR
                    have HCM := hid cM
                    have P1 : (i : Int) < (nks : Int) := by omega
                    obtain ⟨lal, hlal⟩ : ∃ q, al1.length = q := ⟨_, rfl⟩
                    obtain ⟨ltx, hltx⟩ : ∃ q, tx1.length = q := ⟨_, rfl⟩
                    obtain ⟨lk1, hlk1⟩ : ∃ q, k1.length = q := ⟨_, rfl⟩
                    rw [hlal] at u2 HCM
                    rw [hltx] at u3 HCM
                    rw [hlk1] at u4 HCM
                    clear hWR cM hAt hgl h0 h1 h2 h3 h4 htree hne hka hkc hbl hlal hltx hlk1
                    go_wp2_with fail
                    refine HCM.out.mono ?_
                    rintro e w8 ⟨hb8, ⟨htok, cs8, rfl, hhas⟩ | ⟨htbad, bx, bx2, bx3, ba1, bn1, bc1, ba2, bn2, bc2, rfl⟩⟩
                    · obtain ⟨av8, kv8, rfl, hav8, hkv8⟩ := hhas
                      obtain ⟨av8, cv8, rfl⟩ := hav8.shape
                      obtain ⟨ak8, ck8, rfl⟩ := hkv8.shape
                      have HHAS : Hid ((X.nodeT (d + 1) sp1 lo1 al1 tx1 k1).Has w8 (OwnN w8 wc.heap.size none) [.string (X.nodeT (d + 1) sp1 lo1 al1 tx1 k1).sp, .string (X.nodeT (d + 1) sp1 lo1 al1 tx1 k1).lo, .slice av8 (X.E.as (X.nodeT (d + 1) sp1 lo1 al1 tx1 k1)).length cv8, .slice ak8 (X.nodeT (d + 1) sp1 lo1 al1 tx1 k1).ks.length ck8, .string (X.nodeT (d + 1) sp1 lo1 al1 tx1 k1).tx, .int .i64 ((X.nodeT (d + 1) sp1 lo1 al1 tx1 k1).ln : Nat), .int .i64 ((X.nodeT (d + 1) sp1 lo1 al1 tx1 k1).cl : Nat)]) := ⟨_, _, rfl, hav8, hkv8⟩
                      have HR5 := hid (HWR.out.2 htok)
                      have hkl := HLT.out.2.k.lt
                      have hkls := HLT.out.2.k.shape
                      obtain ⟨q1, q2, hq⟩ := hkls
                      have hkl2 : K.length = kl := by injection hq with _ h2 _; exact h2.symm
                      have HKL := hid (And.intro hkl hkl2)
                      obtain ⟨sa, hsa⟩ : ∃ q, (X.nodeT (d + 1) sp1 lo1 al1 tx1 k1).sp = q := ⟨_, rfl⟩
                      obtain ⟨sl, hsl⟩ : ∃ q, (X.nodeT (d + 1) sp1 lo1 al1 tx1 k1).lo = q := ⟨_, rfl⟩
                      obtain ⟨na8, hna8⟩ : ∃ q, (X.E.as (X.nodeT (d + 1) sp1 lo1 al1 tx1 k1)).length = q := ⟨_, rfl⟩
                      obtain ⟨nk8, hnk8⟩ : ∃ q, (X.nodeT (d + 1) sp1 lo1 al1 tx1 k1).ks.length = q := ⟨_, rfl⟩
                      obtain ⟨st, hst⟩ : ∃ q, (X.nodeT (d + 1) sp1 lo1 al1 tx1 k1).tx = q := ⟨_, rfl⟩
                      rw [hsa, hsl, hna8, hnk8, hst, show (X.nodeT (d + 1) sp1 lo1 al1 tx1 k1).ln = 0 from rfl, show (X.nodeT (d + 1) sp1 lo1 al1 tx1 k1).cl = 0 from rfl] at HHAS ⊢
                      obtain ⟨ub, hub⟩ : ∃ b, X.ba (X.elemT P sep (d + 1) sp1 lo1 al1 tx1 k1) = b := ⟨_, rfl⟩
                      rw [hub]
                      have huz : ub.size ≤ 100000000000 := by
                        rw [← hub, ba_size]
                        have h1 := HR5.out.sum HP.out HSEP.out HWD.out.1.2.2.2.2 HWD.out.1.2.2.2.1 HCO.out HS3.out.2
                        rw [List.length_append] at h1
                        omega
                      have HUB := hid hub
                      obtain ⟨V, hV⟩ : ∃ V, w8.heap.size = V := ⟨_, rfl⟩
                      obtain ⟨w9, hw9⟩ : ∃ w9, w8.alloc (.cells #[.string sa, .string sl, .slice av8 na8 cv8, .slice ak8 nk8 ck8, .string st, .int .i64 0, .int .i64 0] 28) = w9 := ⟨_, rfl⟩
                      have hb9 : Below w8.heap.size w8 w9 := by rw [← hw9]; exact (Below.refl _ w8).alloc (Nat.le_refl _) _
                      have hv9 : w9.heap[V]? = some (.cells #[.string sa, .string sl, .slice av8 na8 cv8, .slice ak8 nk8 ck8, .string st, .int .i64 0, .int .i64 0] 28 (0, 0)) := by rw [← hw9, ← hV]; exact heap_alloc_new w8 _
                      obtain ⟨w10, hw10⟩ : ∃ w10, w9.alloc (.cells #[.string sa, .string sl, .slice av8 na8 cv8, .slice ak8 nk8 ck8, .string st, .int .i64 0, .int .i64 0] 28) = w10 := ⟨_, rfl⟩
                      obtain ⟨V2, hV2⟩ : ∃ V, w9.heap.size = V := ⟨_, rfl⟩
                      have hb10 : Below w9.heap.size w9 w10 := by rw [← hw10]; exact (Below.refl _ w9).alloc (Nat.le_refl _) _
                      have hv10 : w10.heap[V2]? = some (.cells #[.string sa, .string sl, .slice av8 na8 cv8, .slice ak8 nk8 ck8, .string st, .int .i64 0, .int .i64 0] 28 (0, 0)) := by rw [← hw10, ← hV2]; exact heap_alloc_new w9 _
                      have hb810 : Below w8.heap.size w8 w10 := hb9.trans (hb10.mono hb9.size)
                      have HL9 := hid ((HLT.out.2.below hb8).below hb9)
                      have HL10 := hid ((HLT.out.2.below hb8).below hb810)
                      obtain ⟨kcs, hown0, hkcs⟩ := HL10.out.k
                      have HXH : Hid ((X.nodeT (d + 1) sp1 lo1 al1 tx1 k1).Has w10 (OwnN w10 M (Value.slice kva kl kvc).ownBlock) [.string sa, .string sl, .slice av8 na8 cv8, .slice ak8 nk8 ck8, .string st, .int .i64 0, .int .i64 0]) := by
                        refine X.E.Has.keep (fun b hb => ?_) (fun b hb => hb810.block b hb.2.1) HHAS.out
                        obtain ⟨g1, g2, _, cs, T, g3, g4⟩ := hb
                        refine ⟨Nat.le_trans HLT.out.2.ms g1, Nat.lt_of_lt_of_le g2 hb810.size, fun e => ?_, cs, T, (hb810.block b g2).trans g3, g4⟩
                        have := (hkl b e).2
                        omega
                      have HKC := hid (And.intro hown0 hkcs)
                      have hown10 : Hid (w10.ownsRow M 28 7 (.slice kva kl kvc) kl kcs) := by
                        show World.ownsRow _ _ _ _ _ _ _
                        rw [hkl2] at hown0
                        exact hown0
                      have hnews := hid (World.news_of_block hv10)
                      have hbase : Hid (M ≤ w10.heap.size) := hid HL10.out.ms
                      obtain ⟨i0, hi, hz0, hz1, hzz⟩ := info_parts infoNode
                      have hklz : kl ≤ 300 := by
                        have h1 := congrArg X.N.length HR5.out.k
                        have h2 := X.kids_len ks d
                        rw [X.N.app_length, X.N.snoc_length] at h1
                        have := HNN.out.2.2
                        omega
                      have HW10 := hid (And.intro hw10 hV2)
                      have HVV := hid (And.intro hv9 hv10)
                      have HW9 := hid (And.intro hw9 hV)
                      obtain ⟨n0, n1, n2, n3, n4, n5, n6⟩ := row7s HL9.out.m.n
                      obtain ⟨v0, v1, v2, v3, v4, v5, v6⟩ := row7s hv9
                      clear hb9 hb10 hb810 hown0 hkcs hw9 hw10 hV2 hv9 hv10 hkl hkl2 hq hub hsa hsl hna8 hnk8 hst hav8 hkv8 htok HHAS HWR u0 u1 u2 u3 u4 x0 x1 x2 x3 x4 HCM
                      go_upto_region 40 with fail
                      try rw [HW9.out.1]
                      clear hV
                      go_wp2_with (at_builtin; (try rw [HW10.out.1, HW10.out.2]); refine wpList_append_lies _ rfl _ _ 24 rfl M 28 i0 _ 7 112 Tryz.underlying24 hi hz0 hz1 hzz rfl (by decide) (.slice kva kl kvc) kl kcs rfl hown10.out ⟨V2, 0, none⟩ 1 1 [.string sa, .string sl, .slice av8 na8 cv8, .slice ak8 nk8 ck8, .string st, .int .i64 0, .int .i64 0] rfl rfl hnews.out (by intro u hu; simp at hu; rcases hu with rfl | rfl | rfl | rfl | rfl | rfl | rfl <;> rfl) (by decide) (by unfold maxLen; omega) (by omega) hbase.out _ rfl ?_)
                      intro g1 cap1 w11 hown1 hgrow hat hlt1
                      have HLF : Hid (L4 W #[.int .u8 sp, .int .u8 lo, .slice aa nal ac, .slice ta ntx tc, .slice ka nks kc] N M sp lo A (.slice na nl nc) (K.snoc (X.nodeT (d + 1) sp1 lo1 al1 tx1 k1)) (.slice (some ⟨g1, 0, none⟩) (kl + 1) cap1) bT2 (w11.setCell ⟨N, 3, none⟩ (.slice (some ⟨g1, 0, none⟩) (kl + 1) cap1))) := by
                        refine HL10.out.kid (v' := .slice (some ⟨g1, 0, none⟩) (kl + 1) cap1) HXH.out HKC.out.2 (by rw [HKL.out.2]; exact hown1) hgrow (fun b hb => ?_)
                        have h9 : g1 = b := Option.some.inj hb
                        rcases hat with h | h
                        · exact Or.inl (by rw [← h9]; exact h)
                        · exact Or.inr (by omega)
                      have hN11 : w11.heap[N]? = some (.cells (ncB sp lo (.slice na nl nc) (.slice kva kl kvc) bT2) 28 (0, 0)) := by
                        rw [hgrow.block _ (Go.lt_of_block HL10.out.m.n) (fun e => by have := (World.ownsRow.lt hown10.out (k := N) e.symm).1; have := HL10.out.nm; omega)]
                        exact HL10.out.m.n
                      have m3 : w11.cell? ⟨N, 3, none⟩ = some (.slice kva kl kvc) := rowCell hN11 3
                      have mf3 := rowFree hN11 3
                      have HSU : Hid (bS2 ++ ub = X.ba (S ++ X.escL (X.first txs) ++ X.elemT P sep (d + 1) sp1 lo1 al1 tx1 k1)) := by
                        show _ = _
                        rw [← HB2.out.2, ← HUB.out, ba_cat]
                      clear hown1 hgrow hat hlt1 hN11 n0 n1 n2 n3 n4 n5 n6 v0 v1 v2 v3 v4 v5 v6 hi hz0 hz1 hzz hnews HXH HKC
                      go_wp2_with fail
                      refine ⟨⟨i + 1, _, T ++ X.first txs, K.snoc (X.nodeT (d + 1) sp1 lo1 al1 tx1 k1), some ⟨g1, 0, none⟩, kl + 1, cap1, by go_num, by rw [HSU.out], by omega, hid (Or.inl ⟨_, _, HR5.out⟩), by rw [HB2.out.1]; exact HLF⟩, ?_⟩
                      simp [intOf]; omega
                    · have HBAD : Hid (X.treeOk d al tx ks = false) := by
                        show _ = _
                        unfold X.treeOk
                        rw [HWR.out.1 htbad, Bool.and_false]
                      have hb9 : Below wc.heap.size wc (w8.alloc (.cells #[.string bx, .string bx2, .slice ba1 bn1 bc1, .slice ba2 bn2 bc2, .string bx3, .int .i64 0, .int .i64 0] 28)) := hb8.alloc hb8.size _
                      have HL9 := hid (HLT.out.2.below hb9)
                      clear u0 u1 u2 u3 u4 x0 x1 x2 x3 x4 HCM HWR htbad hb8 hb9
                      go_upto_region 40 with fail
                      generalize hw9 : World.alloc w8 _ = w9 at HL9 ⊢
                      clear hw9
                      obtain ⟨n0, n1, n2, n3, n4, n5, n6⟩ := row7s HL9.out.m.n
                      obtain ⟨r0, r1, r2, r3, r4, r5, r6, hr⟩ := HL9.out.m.r
                      obtain ⟨z0, z1, z2, z3, z4, z5, z6⟩ := row7s hr
                      have zf := fun j => rowFree hr j
                      have zf0 := zf 0
                      have zf1 := zf 1
                      have zf2 := zf 2
                      have zf3 := zf 3
                      have zf4 := zf 4
                      have zf5 := zf 5
                      have zf6 := zf 6
                      have hrow := set7_row hr (.string (X.ba (X.spc sp))) (.string (X.ba (X.nm lo))) (.slice na nl nc) (.slice kva kl kvc) (.string bT2) (.int .i64 0) (.int .i64 0)
                      have hgrow := set7_grown w9 (W.heap.size + 1) (.string (X.ba (X.spc sp))) (.string (X.ba (X.nm lo))) (.slice na nl nc) (.slice kva kl kvc) (.string bT2) (.int .i64 0) (.int .i64 0)
                      have hbel := HL9.out.m.b.grown hgrow HL9.out.m.b.size (fun k hk => by have h9 : W.heap.size + 1 = k := Option.some.inj hk; omega)
                      have HROW := hid hrow
                      have HBEL := hid hbel
                      clear zf hr hrow hbel hgrow
                      go_wp2_with fail
                      exact bodyPost_ret (v := .tuple #[.agg #[.string (X.ba (X.spc sp)), .string (X.ba (X.nm lo)), .slice na nl nc, .slice kva kl kvc, .string bT2, .int .i64 0, .int .i64 0], .string (X.ba []), .bool false]) (results_trio rfl _ _ (W.heap.size + 1) 28 #[.string (X.ba (X.spc sp)), .string (X.ba (X.nm lo)), .slice na nl nc, .slice kva kl kvc, .string bT2, .int .i64 0, .int .i64 0] (0, 0) _ _ _ rfl HROW.out rfl rfl Tryz.underlying28 rfl infoNodeT) rfl ⟨HBEL.out, Or.inr ⟨HBAD.out, _, _, _, _, _, _, _, _, _, rfl⟩⟩
                  · have e4 : decide ((d : Int) < 15) = false := decide_eq_false (by omega)
                    have e5 : decide (d < 15) = false := decide_eq_false h15
                    have HNX := hid (HRR.out.pass HLT.out.1 h15)
                    go_wp2_with fail
                    refine ⟨⟨i + 1, S ++ X.escL (X.first txs), T ++ X.first txs, K, kva, kl, kvc, by go_num, by rw [HB2.out.2], by omega, hid (Or.inl ⟨_, _, HNX.out⟩), by rw [HB2.out.1]; exact hid HLT.out.2⟩, ?_⟩
                    simp [intOf]; omega
            · have e0 : decide ((i : Int) ≤ (nks : Int)) = false := decide_eq_false (by omega)
              have e1 : decide (i ≤ nks) = false := decide_eq_false (by omega)
              have HF := hid hfin
              have hSl : S.length ≤ 100000000000 := by
                have h1 := congrArg List.length hfin.1
                rw [List.length_append] at h1
                have h2 := X.cont_len HP.out HSEP.out ks d tx HWD.out.1.2.2.2.2 HWD.out.1.2.2.2.1
                have h3 := HS3.out.2
                have h4 : ks.count * 300000000 ≤ 300 * 300000000 := Nat.mul_le_mul_right _ HCO.out
                omega
              have hend : X.ba S ++ (⟨#[60, 47]⟩ : ByteArray) ++ tg ++ sb ++ (⟨#[62]⟩ : ByteArray) = X.ba (X.elemT P sep d sp lo al tx ks) := by
                rw [← HTG.out, ← HSB.out, show (⟨#[60, 47]⟩ : ByteArray) = X.ba [60, 47] from rfl, show (⟨#[62]⟩ : ByteArray) = X.ba [62] from rfl, ba_cat, ba_cat, ba_cat, ba_cat, hfin.1, HS3.out.1]
                unfold X.elemT X.closeT
                simp
              obtain ⟨bS, hbS⟩ : ∃ b, X.ba S = b := ⟨_, rfl⟩
              have hbz : bS.size ≤ 100000000000 := by rw [← hbS, ba_size]; exact hSl
              rw [hbS] at hend ⊢
              obtain ⟨bT, hbT⟩ : ∃ b, X.ba T = b := ⟨_, rfl⟩
              rw [hbT] at HL
              have HEND := hid hend
              have HBT := hid hbT
              clear hfin hi hend hbS hSl hbT
              obtain ⟨n0, n1, n2, n3, n4, n5, n6⟩ := row7s HL.out.m.n
              obtain ⟨r0, r1, r2, r3, r4, r5, r6, hr⟩ := HL.out.m.r
              obtain ⟨z0, z1, z2, z3, z4, z5, z6⟩ := row7s hr
              have zf := fun j => rowFree hr j
              have zf0 := zf 0
              have zf1 := zf 1
              have zf2 := zf 2
              have zf3 := zf 3
              have zf4 := zf 4
              have zf5 := zf 5
              have zf6 := zf 6
              have hrow := set7_row hr (.string (X.ba (X.spc sp))) (.string (X.ba (X.nm lo))) (.slice na nl nc) (.slice kva kl kvc) (.string bT) (.int .i64 0) (.int .i64 0)
              have hgrow := set7_grown wr (W.heap.size + 1) (.string (X.ba (X.spc sp))) (.string (X.ba (X.nm lo))) (.slice na nl nc) (.slice kva kl kvc) (.string bT) (.int .i64 0) (.int .i64 0)
              have hbel := HL.out.m.b.grown hgrow HL.out.m.b.size (fun k hk => by have h9 : W.heap.size + 1 = k := Option.some.inj hk; omega)
              have HROW := hid hrow
              have HBEL := hid hbel
              have HGR := hid hgrow
              clear zf hr hrow hbel hgrow
              go_wp2_with fail
              refine bodyPost_ret (v := .tuple #[.agg #[.string (X.ba (X.spc sp)), .string (X.ba (X.nm lo)), (.slice na nl nc), (.slice kva kl kvc), .string bT, .int .i64 0, .int .i64 0], .string (bS ++ (⟨#[60, 47]⟩ : ByteArray) ++ tg ++ sb ++ (⟨#[62]⟩ : ByteArray)), .bool true]) (results_trio rfl _ _ (W.heap.size + 1) 28 #[.string (X.ba (X.spc sp)), .string (X.ba (X.nm lo)), (.slice na nl nc), (.slice kva kl kvc), .string bT, .int .i64 0, .int .i64 0] (0, 0) _ _ _ rfl HROW.out rfl rfl Tryz.underlying28 rfl infoNodeT) rfl ⟨HBEL.out, Or.inl ⟨by unfold X.treeOk; rw [HAS.out, HF.out.2.2.2]; rfl, [.string (X.ba (X.spc sp)), .string (X.ba (X.nm lo)), (.slice na nl nc), (.slice kva kl kvc), .string bT, .int .i64 0, .int .i64 0], by rw [HEND.out], ?_⟩⟩
              refine ⟨(.slice na nl nc), (.slice kva kl kvc), ?_, ?_, ?_⟩
              · unfold X.nodeT
                rw [← HBT.out, HF.out.2.1]
                rfl
              · show X.AIn _ _ ((X.kept al).map X.sayA) (.slice na nl nc)
                rw [HA.out]
                have hlo2 := HL.out.m.lo
                have hk2 : ∀ b, N < b → b < M → _ := fun b h1 h2 => HGR.out.block b (Nat.lt_of_lt_of_le h2 HL.out.ms) (fun e => by have h9 : b = W.heap.size + 1 := Option.some.inj e; omega)
                refine X.AIn.keep (fun b hb => ?_) (fun b hb => hk2 b hb.1 hb.2.1) HL.out.a
                obtain ⟨g1, g2, cs, T, g3, g4⟩ := hb
                exact ⟨by omega, Nat.lt_of_lt_of_le g2 (Nat.le_trans HL.out.ms HGR.out.size), (fun e => by cases e), cs, T, (hk2 b g1 g2).trans g3, g4⟩
              · show (X.kids ks d).In _ _ (.slice kva kl kvc)
                rw [← HF.out.2.2.1]
                have hlo2 := HL.out.m.lo
                have hnm2 := HL.out.nm
                refine X.N.In.keep (fun b hb => ?_) (fun b hb => ?_) HL.out.k.is
                · obtain ⟨g1, g2, _, cs, T, g3, g4⟩ := hb
                  exact ⟨by omega, Nat.lt_of_lt_of_le g2 HGR.out.size, (fun e => by cases e), cs, T, (HGR.out.block b g2 (fun e => by have h9 : b = W.heap.size + 1 := Option.some.inj e; omega)).trans g3, g4⟩
                · exact HGR.out.block b hb.2.1 (fun e => by have h9 : b = W.heap.size + 1 := Option.some.inj e; have := hb.1; omega)
end Go.Proofs.YtakplnceiibmlaaGreatDoor
