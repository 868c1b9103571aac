/- Items and processes being read; names; the maker. -/
import Derived.Test.YteejphiklpnjhaaGreatDoorOVar
import Derived.Test.YteejphiklpnjhaaGreatDoorOElem
import Derived.Test.YteejphiklpnjhaaGreatDoorOFunc
import Derived.Laws.OwnMore
import Derived.WalkSpells
import Derived.Lib.SliceRun
namespace Go.Proofs.YteejphiklpnjhaaGreatDoor
set_option maxRecDepth 100000
set_option maxHeartbeats 16000000
open Go.RowKit Go.Maps
open Go.Lib (hid)
def tProc : TypeId := 106
theorem setCell_comm (w : World) {b c i j : Nat} (x y : Value) (h : b ≠ c) : (w.setCell ⟨b, i, none⟩ x).setCell ⟨c, j, none⟩ y = (w.setCell ⟨c, j, none⟩ y).setCell ⟨b, i, none⟩ x := by
 unfold World.setCell
 simp only []
 congr 1
 apply Array.ext_getElem?
 intro k
 simp only [Array.getElem?_modify]
 by_cases h1 : b = k <;> by_cases h2 : c = k <;> simp [h1, h2]
 exact absurd (h1.trans h2.symm) h
theorem sts_comm : ∀ (l : List Value) (w : World) {b c o j : Nat} (y : Value), b ≠ c → (sts w b o l).setCell ⟨c, j, none⟩ y = sts (w.setCell ⟨c, j, none⟩ y) b o l
 | [], _, _, _, _, _, _, _ => rfl
 | v :: r, w, b, c, o, j, y, h => by
   show (sts (w.setCell ⟨b, o, none⟩ v) b (o + 1) r).setCell ⟨c, j, none⟩ y = sts ((w.setCell ⟨c, j, none⟩ y).setCell ⟨b, o, none⟩ v) b (o + 1) r
   rw [sts_comm r _ y h, setCell_comm w v y h]
theorem owns_sts {base g cap n : Nat} {e : TypeId} {size : Nat} : ∀ (l xs old : List Value) (w : World), w.ownsRow base e size (.slice (some ⟨g, 0, none⟩) n cap) n (xs ++ old) → old.length = l.length → (sts w g xs.length l).ownsRow base e size (.slice (some ⟨g, 0, none⟩) n cap) n (xs ++ l)
 | [], xs, [], w, h, _ => h
 | [], xs, _ :: _, w, h, hl => by cases hl
 | v :: r, xs, [], w, h, hl => by cases hl
 | v :: r, xs, x :: old, w, h, hl => by
   have h1 := (World.ownsRow.stored h xs.length v).1
   have e : (xs ++ x :: old).set xs.length v = (xs ++ [v]) ++ old := by simp
   rw [e] at h1
   have h2 := owns_sts r (xs ++ [v]) old _ h1 (by simpa using hl)
   rw [List.length_append, List.length_singleton, List.append_assoc] at h2
   exact h2
theorem grow_of_below {w w' : World} (hb : Below w.heap.size w w') : w.grownBy w' none := ⟨hb.os, hb.tape, hb.output, hb.size, fun k hk _ => hb.block k hk⟩
theorem own_row {w : World} {B : Nat} {e : TypeId} {size : Nat} {v : Value} {n : Nat} {xs : List Value} (h : w.ownsRow B e size v n xs) {R : Nat} (hR : v.ownBlock = some R) : ∃ cur, w.heap[R]? = some (.cells cur e (0, 0)) := by
 rcases h.2 with ⟨rfl, _⟩ | ⟨g, cap, cur, rfl, _, hg, _⟩
 · cases hR
 · obtain rfl := Option.some.inj hR
   exact ⟨cur, hg⟩
theorem KeepG.own {w w' : World} {B : Nat} {e : TypeId} {size : Nat} {v : Value} {n : Nat} {xs : List Value} (h : w.ownsRow B e size v n xs) (g : w.grownBy w' v.ownBlock) {good : List TypeId} (hT : e ∉ good) : KeepG w w' good := by
 rcases ho : v.ownBlock with _ | R
 · rw [ho] at g
   exact KeepG.none g good
 · rw [ho] at g
   obtain ⟨cur, hr⟩ := own_row h ho
   exact KeepG.grown g hr hT
structure PL (W : World) (H : Nat) (cs : List Value) (X0 : Nat) (id nm : ByteArray) (va : List O.Va) (it : List O.It) (vv iv : Value) (ic : List Value) (w : World) : Prop where
 nb : NB W H cs 4 106 w
 hx : H + 2 ≤ X0
 x : w.heap[X0]? = some (.cells #[.string id, .string nm, vv, iv] 106 (0, 0))
 vo : w.ownsRow (X0 + 1) 51 5 vv va.length (vasC va)
 io : w.ownsRow (X0 + 1) 144 16 iv it.length ic
 ii : Its w (OwnG w (X0 + 1) [tFlow]) it ic
section
variable {W w w' : World} {H X0 g cap : Nat} {cs : List Value} {id nm : ByteArray} {va : List O.Va} {it : List O.It} {vv iv : Value} {ic : List Value}
theorem PL.sz (h : PL W H cs X0 id nm va it vv iv ic w) : X0 + 1 ≤ w.heap.size := Go.lt_of_block h.x
theorem PL.below (h : PL W H cs X0 id nm va it vv iv ic w) (hb : Below w.heap.size w w') : PL W H cs X0 id nm va it vv iv ic w' :=
 ⟨h.nb.below hb, h.hx, (hb.block _ h.sz).trans h.x, h.vo.kept (grow_of_below hb) (Classical.em _), h.io.kept (grow_of_below hb) (Classical.em _),
  Its.keep (fun _ hb' => (hb'.keep (KeepG.below hb _)).1) (fun _ hb' => (hb'.keep (KeepG.below hb _)).2) it ic h.ii⟩
theorem nb_set (h : NB W H cs 4 106 w) (hx : H + 2 ≤ X0) (o : Nat) (v : Value) : NB W H cs 4 106 (w.setCell ⟨X0, o, none⟩ v) := h.grown (grownBy_set w X0 o v) hx
theorem nb_own (h : NB W H cs 4 106 w) (hx : H + 2 ≤ X0) {v : Value} (hg : w.grownBy w' v.ownBlock) (hlt : ∀ k, v.ownBlock = some k → X0 + 1 ≤ k ∧ k < w.heap.size) : NB W H cs 4 106 w' := by
 rcases ho : v.ownBlock with _ | R
 · rw [ho] at hg
   have hs := h.sz
   obtain ⟨rs, hk, hr⟩ := h.r
   exact ⟨h.h, h.b.grown hg (by have := h.b.size; have := h.h; omega) (fun k hk => by cases hk), (hg.block _ (by omega) (by simp)).trans h.n, ⟨rs, hk, (hg.block _ (by omega) (by simp)).trans hr⟩⟩
 · rw [ho] at hg
   exact h.grown hg (by have := (hlt R ho).1; omega)
theorem row_own {o : Obj} (hr : w.heap[X0]? = some o) {v : Value} (hg : w.grownBy w' v.ownBlock) (hlt : ∀ k, v.ownBlock = some k → X0 + 1 ≤ k ∧ k < w.heap.size) : w'.heap[X0]? = some o :=
 (hg.block X0 (Go.lt_of_block hr) (fun e => by have := (hlt X0 e.symm).1; omega)).trans hr
theorem PL.var (h : PL W H cs X0 id nm va it vv iv ic w) {x : O.Va} (hown : w'.ownsRow (X0 + 1) 51 5 (.slice (some ⟨g, 0, none⟩) (va.length + 1) cap) (va.length + 1) (vasC va ++ vaC x)) (hgr : w.grownBy w' vv.ownBlock) (hat : vv.ownBlock = some g ∨ w.heap.size ≤ g) :
   PL W H cs X0 id nm (va ++ [x]) it (.slice (some ⟨g, 0, none⟩) (va.length + 1) cap) iv ic (w'.setCell ⟨X0, 2, none⟩ (.slice (some ⟨g, 0, none⟩) (va.length + 1) cap)) := by
 have hlt := World.ownsRow.lt h.vo
 have hlti := World.ownsRow.lt h.io
 have hsz := h.sz
 have hgx : g ≠ X0 := by
   rcases hat with e | e
   · have := (hlt g e).1; omega
   · omega
 have hne : iv.ownBlock = none ∨ iv.ownBlock ≠ vv.ownBlock := by
   rcases ho : iv.ownBlock with _ | R
   · exact Or.inl rfl
   · refine Or.inr (fun e => ?_)
     obtain ⟨c1, h1⟩ := own_row h.io ho
     obtain ⟨c2, h2⟩ := own_row h.vo e.symm
     rw [h1] at h2
     injection h2 with h2
     injection h2 with _ h2 _
     cases h2
 have hio := h.io.kept hgr hne
 have gs := grownBy_set w' X0 2 (.slice (some ⟨g, 0, none⟩) (va.length + 1) cap)
 have hnX : ∀ {v : Value} {e : TypeId} {size n : Nat} {xs : List Value}, w'.ownsRow (X0 + 1) e size v n xs → v.ownBlock = none ∨ v.ownBlock ≠ some X0 := fun ho => Or.inr (fun e => by have := (World.ownsRow.lt ho X0 e).1; omega)
 have hrow := row_own h.x hgr hlt
 refine ⟨nb_set (nb_own h.nb h.hx hgr hlt) h.hx _ _, h.hx, row_set hrow 2 _, ?_, hio.kept gs (hnX hio), ?_⟩
 · have := hown.kept gs (hnX hown)
   rw [List.length_append, vasC_snoc]
   exact this
 · have k1 : KeepG w w' [tFlow] := KeepG.own h.vo hgr (by decide)
   have k2 : KeepG w' (w'.setCell ⟨X0, 2, none⟩ (.slice (some ⟨g, 0, none⟩) (va.length + 1) cap)) [tFlow] := KeepG.grown gs hrow (by decide)
   exact Its.keep (fun _ hb => (hb.keep (k1.trans k2)).1) (fun _ hb => (hb.keep (k1.trans k2)).2) it ic h.ii
theorem PL.item (h : PL W H cs X0 id nm va it vv iv ic w) {x : O.It} {ds : List Value} (hi : ItHas w (OwnG w (X0 + 1) [tFlow]) x ds) (hown : w'.ownsRow (X0 + 1) 144 16 (.slice (some ⟨g, 0, none⟩) (it.length + 1) cap) (it.length + 1) (ic ++ zero16)) (hgr : w.grownBy w' iv.ownBlock) (hat : iv.ownBlock = some g ∨ w.heap.size ≤ g) :
   PL W H cs X0 id nm va (it ++ [x]) vv (.slice (some ⟨g, 0, none⟩) (it.length + 1) cap) (ic ++ ds) ((sts w' g (it.length * 16) ds).setCell ⟨X0, 3, none⟩ (.slice (some ⟨g, 0, none⟩) (it.length + 1) cap)) := by
 have hlt := World.ownsRow.lt h.io
 have hltv := World.ownsRow.lt h.vo
 have hsz := h.sz
 have hgx : g ≠ X0 := by
   rcases hat with e | e
   · have := (hlt g e).1; omega
   · omega
 have hne : vv.ownBlock = none ∨ vv.ownBlock ≠ iv.ownBlock := by
   rcases ho : vv.ownBlock with _ | R
   · exact Or.inl rfl
   · refine Or.inr (fun e => ?_)
     obtain ⟨c1, h1⟩ := own_row h.vo ho
     obtain ⟨c2, h2⟩ := own_row h.io e.symm
     rw [h1] at h2
     injection h2 with h2
     injection h2 with _ h2 _
     cases h2
 have hvo := h.vo.kept hgr hne
 have hst := sts_grown ds w' g (it.length * 16)
 have hgo := (World.ownsRow.lt hown g rfl)
 obtain ⟨curg, hrg⟩ := own_row hown rfl
 have hvg : vv.ownBlock = none ∨ vv.ownBlock ≠ some g := by
   rcases ho : vv.ownBlock with _ | R
   · exact Or.inl rfl
   · refine Or.inr (fun e => ?_)
     obtain rfl := Option.some.inj e
     obtain ⟨c1, h1⟩ := own_row hvo ho
     rw [h1] at hrg
     injection hrg with h2
     injection h2 with _ h2 _
     cases h2
 have hvo2 := hvo.kept hst hvg
 have hic : ic.length = it.length * 16 := h.io.1
 have hown2 : (sts w' g (it.length * 16) ds).ownsRow (X0 + 1) 144 16 (.slice (some ⟨g, 0, none⟩) (it.length + 1) cap) (it.length + 1) (ic ++ ds) := by
   rw [← hic]
   exact owns_sts ds ic zero16 w' hown (by rw [hi.len]; rfl)
 have gs := grownBy_set (sts w' g (it.length * 16) ds) X0 3 (.slice (some ⟨g, 0, none⟩) (it.length + 1) cap)
 have hnX : ∀ {w : World} {v : Value} {e : TypeId} {size n : Nat} {xs : List Value}, w.ownsRow (X0 + 1) e size v n xs → v.ownBlock = none ∨ v.ownBlock ≠ some X0 := fun ho => Or.inr (fun e => by have := (World.ownsRow.lt ho X0 e).1; omega)
 have hrow := row_own h.x hgr hlt
 have hrow2 : (sts w' g (it.length * 16) ds).heap[X0]? = some (.cells #[.string id, .string nm, vv, iv] 106 (0, 0)) := (hst.block X0 (Go.lt_of_block hrow) (fun e => hgx (Option.some.inj e).symm)).trans hrow
 have hn1 := nb_own h.nb h.hx hgr hlt
 have k1 : KeepG w w' [tFlow] := KeepG.own h.io hgr (by decide)
 have k2 : KeepG w' (sts w' g (it.length * 16) ds) [tFlow] := KeepG.grown hst hrg (by decide)
 have k3 : KeepG (sts w' g (it.length * 16) ds) ((sts w' g (it.length * 16) ds).setCell ⟨X0, 3, none⟩ (.slice (some ⟨g, 0, none⟩) (it.length + 1) cap)) [tFlow] := KeepG.grown gs hrow2 (by decide)
 have k := (k1.trans k2).trans k3
 refine ⟨nb_set (hn1.grown hst (by have := hgo.1; have := h.hx; omega)) h.hx _ _, h.hx, row_set hrow2 3 _, hvo2.kept gs (hnX hvo2), ?_, ?_⟩
 · rw [List.length_append]
   exact hown2.kept gs (hnX hown2)
 · exact Its.snoc (hi.keep (fun _ hb => (hb.keep k).1) (fun _ hb => (hb.keep k).2)) it ic (Its.keep (fun _ hb => (hb.keep k).1) (fun _ hb => (hb.keep k).2) it ic h.ii)
end
theorem vas_own {w : World} {B : Nat} {v : Value} {va : List O.Va} (h : w.ownsRow B 51 5 v va.length (vasC va)) : VasIn w (OwnG w B [tBind]) va v := by
 have hc := fun g (hg : v.ownBlock = some g) => World.ownsRow.cells h hg
 rcases h.2 with ⟨rfl, h0⟩ | ⟨g, cap, cur, rfl, hB, hg, hcap, _⟩
 · exact Or.inl ⟨List.eq_nil_of_length_eq_zero h0, rfl⟩
 · refine Or.inr ⟨g, cap, rfl, ⟨hB, Go.lt_of_block hg, _, _, hg, by decide⟩, hcap, fun j u hu => ?_⟩
   have := hc g rfl j u hu
   have e : (⟨g, 0, none⟩ : Addr).add j = ⟨g, j, none⟩ := by unfold Addr.add; split <;> simp_all
   rw [e] at this
   exact this
theorem its_own {w : World} {B : Nat} {v : Value} {it : List O.It} {ic : List Value} (h : w.ownsRow B 144 16 v it.length ic) (hi : Its w (OwnG w B [tFlow]) it ic) : ItsIn w (OwnG w B [tFlow, tItem]) it v := by
 have hc := fun g (hg : v.ownBlock = some g) => World.ownsRow.cells h hg
 rcases h.2 with ⟨rfl, h0⟩ | ⟨g, cap, cur, rfl, hB, hg, hcap, _⟩
 · exact Or.inl ⟨List.eq_nil_of_length_eq_zero h0, rfl⟩
 · refine Or.inr ⟨g, cap, ic, rfl, ⟨hB, Go.lt_of_block hg, _, _, hg, by decide⟩, hcap, Its.keep (fun b hb => hb.sub (by decide) (Nat.le_refl _)) (fun _ _ => rfl) it ic hi, fun j u hu => ?_⟩
   have := hc g rfl j u hu
   have e : (⟨g, 0, none⟩ : Addr).add j = ⟨g, j, none⟩ := by unfold Addr.add; split <;> simp_all
   rw [e] at this
   exact this
theorem new_cell {w : World} {B g cap n : Nat} {e : TypeId} {ic zs : List Value} {z : Nat} (h : w.ownsRow B e z (.slice (some ⟨g, 0, none⟩) (n + 1) cap) (n + 1) (ic ++ zs)) (hic : ic.length = n * z) (k : Nat) (hk : k < z) {v : Value} (hv : zs[k]? = some v) : w.cell? ⟨g, n * z + k, none⟩ = some v := by
 rw [World.ownsRow.cellAt h (n * z + k) (by rw [Nat.add_mul, Nat.one_mul]; omega), List.getElem?_append_right (by omega), show n * z + k - ic.length = k by omega]
 exact hv
theorem new_cell0 {w : World} {B g cap n : Nat} {e : TypeId} {ic zs : List Value} {z : Nat} (h : w.ownsRow B e z (.slice (some ⟨g, 0, none⟩) (n + 1) cap) (n + 1) (ic ++ zs)) (hic : ic.length = n * z) (hk : 0 < z) {v : Value} (hv : zs[0]? = some v) : w.cell? ⟨g, n * z, none⟩ = some v := new_cell h hic 0 hk hv
end Go.Proofs.YteejphiklpnjhaaGreatDoor
namespace Go.Proofs.YteejphiklpnjhaaGreatDoor
set_option maxRecDepth 100000
set_option maxHeartbeats 16000000
open Go.RowKit Go.Maps
open Go.Lib (hid)
def namesC (ns : List (List UInt8)) : List Value := ns.map (fun l => Value.string (X.ba l))
def SIn (w : World) (ns : List (List UInt8)) (v : Value) : Prop :=
 (ns = [] ∧ v = .slice none 0 0) ∨ ∃ g cap, v = .slice (some ⟨g, 0, none⟩) ns.length cap ∧ (∃ cs, w.heap[g]? = some (.cells cs 9 (0, 0))) ∧ ns.length ≤ cap ∧ ∀ j u, (namesC ns)[j]? = some u → w.cell? ⟨g, j, none⟩ = some u
theorem SIn.keep {w w' : World} {ns : List (List UInt8)} {v : Value} (h : SIn w ns v) (k : ∀ (b : Nat) (cs : Array Value), w.heap[b]? = some (.cells cs 9 (0, 0)) → w'.heap[b]? = w.heap[b]?) : SIn w' ns v := by
 rcases h with h | ⟨g, cap, h1, ⟨cs, h2⟩, h3, h4⟩
 · exact Or.inl h
 · have e := k g cs h2
   exact Or.inr ⟨g, cap, h1, ⟨cs, e.trans h2⟩, h3, fun j u hj => by rw [World.cell?_of_block (w := w) e]; exact h4 j u hj⟩
theorem SIn.below {w w' : World} {ns : List (List UInt8)} {v : Value} (h : SIn w ns v) (hb : Below w.heap.size w w') : SIn w' ns v := h.keep (fun b _ hr => hb.block b (Go.lt_of_block hr))
theorem SIn.shape {w : World} {ns : List (List UInt8)} {v : Value} (h : SIn w ns v) : ∃ a c, v = .slice a ns.length c := by
 rcases h with ⟨rfl, h⟩ | ⟨g, cap, h, _⟩
 · exact ⟨none, 0, h⟩
 · exact ⟨_, cap, h⟩
theorem SIn.of {w : World} {B : Nat} {ns : List (List UInt8)} {v : Value} (h : w.ownsRow B 9 1 v ns.length (namesC ns)) : SIn w ns v := by
 have hc := fun g (hg : v.ownBlock = some g) => World.ownsRow.cells h hg
 rcases h.2 with ⟨rfl, h0⟩ | ⟨g, cap, cur, rfl, hB, hg, hcap, _⟩
 · exact Or.inl ⟨List.eq_nil_of_length_eq_zero h0, rfl⟩
 · refine Or.inr ⟨g, cap, rfl, ⟨_, hg⟩, hcap, fun j u hu => ?_⟩
   have := hc g rfl j u hu
   have e : (⟨g, 0, none⟩ : Addr).add j = ⟨g, j, none⟩ := by unfold Addr.add; split <;> simp_all
   rw [e] at this
   exact this
def nameAt (ns : List (List UInt8)) (id : List UInt8) : Option Nat := ns.findIdx? (fun n => decide (n = id))
end Go.Proofs.YteejphiklpnjhaaGreatDoor
namespace Go.Proofs.YteejphiklpnjhaaGreatDoor
set_option maxRecDepth 100000
set_option maxHeartbeats 16000000
open Go.RowKit Go.Maps
open Go.Lib (hid)
theorem infoEl : (Tryz.prog.info? 36).map (fun i => (i.zero, i.size, i.bytes)) = some (some (.agg #[.string ⟨#[]⟩, .string ⟨#[]⟩, .int .u8 0, .string ⟨#[]⟩, .string ⟨#[]⟩, .string ⟨#[]⟩, .int .u8 0, .string ⟨#[]⟩, .string ⟨#[]⟩, .int .i64 0, .int .i64 0]), 11, 144) := by kernel_rfl
theorem infoFl : (Tryz.prog.info? 53).map (fun i => (i.zero, i.size, i.bytes)) = some (some (.agg #[.string ⟨#[]⟩, .string ⟨#[]⟩, .string ⟨#[]⟩, .string ⟨#[]⟩]), 4, 64) := by kernel_rfl
theorem ba_app (a b : List UInt8) : X.ba a ++ X.ba b = X.ba (a ++ b) := by
 have h : (X.ba a ++ X.ba b).data = (X.ba (a ++ b)).data := by
  rw [ByteArray.data_append]
  simp [X.ba]
 exact congrArg (fun d => (⟨d⟩ : ByteArray)) h
theorem ba_size (a : List UInt8) : (X.ba a).size = a.length := by show a.toArray.size = _; simp
def flC (x : O.Fl) : List Value := [.string (X.ba x.id), .string (X.ba x.fr), .string (X.ba x.dst), .string ⟨#[]⟩]
def flsC (l : List O.Fl) : List Value := l.flatMap flC
def elsC (l : List O.El) : List Value := l.flatMap elC
theorem flsC_snoc (l : List O.Fl) (x : O.Fl) : flsC (l ++ [x]) = flsC l ++ flC x := by unfold flsC; rw [List.flatMap_append]; simp
theorem elsC_snoc (l : List O.El) (x : O.El) : elsC (l ++ [x]) = elsC l ++ elC x := by unfold elsC; rw [List.flatMap_append]; simp
structure PM (Y B : Nat) (m0 m1 m2 al : Value) (es : List O.El) (fs : List O.Fl) (ev fv : Value) (w : World) : Prop where
 hx : Y < B
 hB : B ≤ w.heap.size
 x : w.heap[Y]? = some (.cells #[m0, m1, m2, ev, fv, al] 103 (0, 0))
 eo : w.ownsRow B 36 11 ev es.length (elsC es)
 fo : w.ownsRow B 53 4 fv fs.length (flsC fs)
structure Fr (w w' : World) (Y : Nat) (ev fv ev' fv' : Value) : Prop where
 os : w'.os = w.os
 tape : w'.tape = w.tape
 output : w'.output = w.output
 size : w.heap.size ≤ w'.heap.size
 block : ∀ b, b < w.heap.size → b ≠ Y → some b ≠ ev.ownBlock → some b ≠ fv.ownBlock → w'.heap[b]? = w.heap[b]?
 e : ev'.ownBlock = ev.ownBlock ∨ ∀ k, ev'.ownBlock = some k → w.heap.size ≤ k
 f : fv'.ownBlock = fv.ownBlock ∨ ∀ k, fv'.ownBlock = some k → w.heap.size ≤ k
section
variable {w w' w'' : World} {Y B : Nat} {m0 m1 m2 al : Value} {es : List O.El} {fs : List O.Fl} {ev fv ev' fv' ev'' fv'' : Value}
theorem Fr.refl (w : World) (Y : Nat) (ev fv : Value) : Fr w w Y ev fv ev fv := ⟨rfl, rfl, rfl, Nat.le_refl _, fun _ _ _ _ _ => rfl, Or.inl rfl, Or.inl rfl⟩
theorem Fr.below (hb : Below w.heap.size w w') (Y : Nat) (ev fv : Value) : Fr w w' Y ev fv ev fv := ⟨hb.os, hb.tape, hb.output, hb.size, fun b h _ _ _ => hb.block b h, Or.inl rfl, Or.inl rfl⟩
theorem Fr.trans (h : Fr w w' Y ev fv ev' fv') (k : Fr w' w'' Y ev' fv' ev'' fv'') : Fr w w'' Y ev fv ev'' fv'' := by
 have aux : ∀ {a a' : Value} {b : Nat}, b < w.heap.size → (a'.ownBlock = a.ownBlock ∨ ∀ k, a'.ownBlock = some k → w.heap.size ≤ k) → some b ≠ a.ownBlock → some b ≠ a'.ownBlock := by
   intro a a' b hb h1 h2 h3
   rcases h1 with h1 | h1
   · exact h2 (h3.trans h1)
   · have := h1 b h3.symm; omega
 refine ⟨k.os.trans h.os, k.tape.trans h.tape, k.output.trans h.output, Nat.le_trans h.size k.size, fun b hb h1 h2 h3 => ?_, ?_, ?_⟩
 · rw [k.block b (Nat.lt_of_lt_of_le hb h.size) h1 (aux hb h.e h2) (aux hb h.f h3)]
   exact h.block b hb h1 h2 h3
 · rcases k.e with e | e
   · rw [e]; exact h.e
   · exact Or.inr fun j hj => Nat.le_trans h.size (e j hj)
 · rcases k.f with e | e
   · rw [e]; exact h.f
   · exact Or.inr fun j hj => Nat.le_trans h.size (e j hj)
theorem PM.below (h : PM Y B m0 m1 m2 al es fs ev fv w) (hb : Below w.heap.size w w') : PM Y B m0 m1 m2 al es fs ev fv w' :=
 ⟨h.hx, Nat.le_trans h.hB hb.size, (hb.block _ (Nat.lt_of_lt_of_le h.hx h.hB)).trans h.x, h.eo.kept (grow_of_below hb) (Classical.em _), h.fo.kept (grow_of_below hb) (Classical.em _)⟩
theorem Fr.far (h : Fr w w' Y ev fv ev' fv') (p : PM Y B m0 m1 m2 al es fs ev fv w) {b : Nat} (hb : b < B) (hY : b ≠ Y) : w'.heap[b]? = w.heap[b]? :=
 h.block b (Nat.lt_of_lt_of_le hb p.hB) hY (fun e => by have := (World.ownsRow.lt p.eo b e.symm).1; omega) (fun e => by have := (World.ownsRow.lt p.fo b e.symm).1; omega)
theorem Fr.other (h : Fr w w' Y ev fv ev' fv') (p : PM Y B m0 m1 m2 al es fs ev fv w) {b : Nat} {cs : Array Value} {T : TypeId} (hb : w.heap[b]? = some (.cells cs T (0, 0))) (h1 : T ≠ 36) (h2 : T ≠ 53) (h3 : T ≠ 103) : w'.heap[b]? = w.heap[b]? := by
 refine h.block b (Go.lt_of_block hb) (fun e => ?_) (fun e => ?_) (fun e => ?_)
 · subst e
   have := p.x
   rw [hb] at this
   injection this with this
   injection this with _ this _
   exact h3 this
 · obtain ⟨c, hc⟩ := own_row p.eo e.symm
   rw [hb] at hc
   injection hc with hc
   injection hc with _ hc _
   exact h1 hc
 · obtain ⟨c, hc⟩ := own_row p.fo e.symm
   rw [hb] at hc
   injection hc with hc
   injection hc with _ hc _
   exact h2 hc
theorem PM.ne (p : PM Y B m0 m1 m2 al es fs ev fv w) : ev.ownBlock = none ∨ ev.ownBlock ≠ fv.ownBlock := by
 rcases ho : ev.ownBlock with _ | R
 · exact Or.inl rfl
 · refine Or.inr (fun e => ?_)
   obtain ⟨c1, h1⟩ := own_row p.eo ho
   obtain ⟨c2, h2⟩ := own_row p.fo e.symm
   rw [h1] at h2
   injection h2 with h2
   injection h2 with _ h2 _
   cases h2
theorem row_far {o : Obj} (hr : w.heap[Y]? = some o) {v : Value} (hg : w.grownBy w' v.ownBlock) (hlt : ∀ k, v.ownBlock = some k → B ≤ k ∧ k < w.heap.size) (hY : Y < B) : w'.heap[Y]? = some o :=
 (hg.block Y (Go.lt_of_block hr) (fun e => by have := (hlt Y e.symm).1; omega)).trans hr
theorem PM.flow (h : PM Y B m0 m1 m2 al es fs ev fv w) {g cap : Nat} {x : O.Fl} (hown : w'.ownsRow B 53 4 (.slice (some ⟨g, 0, none⟩) (fs.length + 1) cap) (fs.length + 1) (flsC fs ++ flC x)) (hgr : w.grownBy w' fv.ownBlock) (hat : fv.ownBlock = some g ∨ g = w.heap.size) :
   PM Y B m0 m1 m2 al es (fs ++ [x]) ev (.slice (some ⟨g, 0, none⟩) (fs.length + 1) cap) (w'.setCell ⟨Y, 4, none⟩ (.slice (some ⟨g, 0, none⟩) (fs.length + 1) cap)) ∧ Fr w (w'.setCell ⟨Y, 4, none⟩ (.slice (some ⟨g, 0, none⟩) (fs.length + 1) cap)) Y ev fv ev (.slice (some ⟨g, 0, none⟩) (fs.length + 1) cap) := by
 have hlt := World.ownsRow.lt h.fo
 have hrow := row_far h.x hgr hlt h.hx
 have gs := grownBy_set w' Y 4 (.slice (some ⟨g, 0, none⟩) (fs.length + 1) cap)
 have hnX : ∀ {v : Value} {e : TypeId} {size n : Nat} {xs : List Value}, w'.ownsRow B e size v n xs → v.ownBlock = none ∨ v.ownBlock ≠ some Y := fun ho => Or.inr (fun e => by have := (World.ownsRow.lt ho Y e).1; have := h.hx; omega)
 have heo := h.eo.kept hgr h.ne
 refine ⟨⟨h.hx, ?_, row_set hrow 4 _, heo.kept gs (hnX heo), ?_⟩, ⟨?_, ?_, ?_, ?_, ?_, Or.inl rfl, ?_⟩⟩
 · exact Nat.le_trans h.hB (Nat.le_trans hgr.size gs.size)
 · have := hown.kept gs (hnX hown)
   rw [List.length_append, flsC_snoc]
   exact this
 · exact gs.os.trans hgr.os
 · exact gs.tape.trans hgr.tape
 · exact gs.output.trans hgr.output
 · exact Nat.le_trans hgr.size gs.size
 · intro b hb h1 _ h3
   rw [gs.block b (Nat.lt_of_lt_of_le hb hgr.size) (fun e => h1 (Option.some.inj e))]
   exact hgr.block b hb h3
 · rcases hat with e | e
   · exact Or.inl e.symm
   · exact Or.inr fun k hk => by cases hk; exact Nat.le_of_eq e.symm
theorem PM.elem (h : PM Y B m0 m1 m2 al es fs ev fv w) {g cap : Nat} {x : O.El} (hown : w'.ownsRow B 36 11 (.slice (some ⟨g, 0, none⟩) (es.length + 1) cap) (es.length + 1) (elsC es ++ elC x)) (hgr : w.grownBy w' ev.ownBlock) (hat : ev.ownBlock = some g ∨ g = w.heap.size) :
   PM Y B m0 m1 m2 al (es ++ [x]) fs (.slice (some ⟨g, 0, none⟩) (es.length + 1) cap) fv (w'.setCell ⟨Y, 3, none⟩ (.slice (some ⟨g, 0, none⟩) (es.length + 1) cap)) ∧ Fr w (w'.setCell ⟨Y, 3, none⟩ (.slice (some ⟨g, 0, none⟩) (es.length + 1) cap)) Y ev fv (.slice (some ⟨g, 0, none⟩) (es.length + 1) cap) fv := by
 have hlt := World.ownsRow.lt h.eo
 have hrow := row_far h.x hgr hlt h.hx
 have gs := grownBy_set w' Y 3 (.slice (some ⟨g, 0, none⟩) (es.length + 1) cap)
 have hnX : ∀ {v : Value} {e : TypeId} {size n : Nat} {xs : List Value}, w'.ownsRow B e size v n xs → v.ownBlock = none ∨ v.ownBlock ≠ some Y := fun ho => Or.inr (fun e => by have := (World.ownsRow.lt ho Y e).1; have := h.hx; omega)
 have hfe : fv.ownBlock = none ∨ fv.ownBlock ≠ ev.ownBlock := by
   rcases ho : fv.ownBlock with _ | R
   · exact Or.inl rfl
   · refine Or.inr (fun e => ?_)
     rcases h.ne with h1 | h1
     · rw [h1] at e; cases e
     · exact h1 (e.symm.trans ho.symm)
 have hfo := h.fo.kept hgr hfe
 refine ⟨⟨h.hx, ?_, row_set hrow 3 _, ?_, hfo.kept gs (hnX hfo)⟩, ⟨?_, ?_, ?_, ?_, ?_, ?_, Or.inl rfl⟩⟩
 · exact Nat.le_trans h.hB (Nat.le_trans hgr.size gs.size)
 · have := hown.kept gs (hnX hown)
   rw [List.length_append, elsC_snoc]
   exact this
 · exact gs.os.trans hgr.os
 · exact gs.tape.trans hgr.tape
 · exact gs.output.trans hgr.output
 · exact Nat.le_trans hgr.size gs.size
 · intro b hb h1 h2 _
   rw [gs.block b (Nat.lt_of_lt_of_le hb hgr.size) (fun e => h1 (Option.some.inj e))]
   exact hgr.block b hb h2
 · rcases hat with e | e
   · exact Or.inl e.symm
   · exact Or.inr fun k hk => by cases hk; exact Nat.le_of_eq e.symm
end
def PutOf (Y B : Nat) (m0 m1 m2 al ev fv : Value) (w : World) (r : Except O.Er (List O.El × List O.Fl)) (en : Ending) (W : World) : Prop :=
 (∃ es fs ev' fv', r = .ok (es, fs) ∧ en = .returned (.pointer none) ∧ PM Y B m0 m1 m2 al es fs ev' fv' W ∧ Fr w W Y ev fv ev' fv' ∧ es.length ≤ 64 ∧ fs.length ≤ 128) ∨
 (∃ e g ev' fv', r = .error e ∧ en = .returned (.pointer (some ⟨g, 0, none⟩)) ∧ w.heap.size ≤ g ∧ W.heap[g]? = some (faultRow e.1 e.2.1 e.2.2) ∧ Fr w W Y ev fv ev' fv')
def O.fitI (i : O.It) : Bool := decide (i.e.id.length ≤ 100000 ∧ i.called.length ≤ 100000 ∧ i.e.dflt = [] ∧ i.e.kind ≠ 9 ∧ i.e.kind ≤ 8) && (match i.fl with | none => true | some f => decide (f.id.length ≤ 100000 ∧ f.fr.length ≤ 100000 ∧ f.dst.length ≤ 100000))
end Go.Proofs.YteejphiklpnjhaaGreatDoor
