/- build: the maker while processes are read. -/
import Derived.Test.YteejphiklpnjhaaGreatDoorOPut
namespace Go.Proofs.YteejphiklpnjhaaGreatDoor
set_option maxRecDepth 100000
set_option maxHeartbeats 16000000
open Go.RowKit Go.Maps
open Go.Lib (hid)
theorem infoProc : (Tryz.prog.info? 106).map (fun i => (i.zero, i.size, i.bytes)) = some (some (.agg #[.string ⟨#[]⟩, .string ⟨#[]⟩, .slice none 0 0, .slice none 0 0]), 4, 80) := by kernel_rfl
theorem sizeModel : (Tryz.prog.info? 30).map (·.size) = some 5 := by kernel_rfl
def zero5m : List Value := [.string ⟨#[]⟩, .string ⟨#[]⟩, .slice none 0 0, .slice none 0 0, .slice none 0 0]
def MdOf (W0 : World) (x : Except O.Er O.M) (en : Ending) (W : World) : Prop :=
 (∃ m vv ev fv, x = .ok m ∧ en = .returned (.tuple #[.agg #[.string (X.ba m.id), .string (X.ba m.nm), vv, ev, fv], .pointer none]) ∧ VasIn W (fun b => W0.heap.size ≤ b ∧ b < W.heap.size) m.vars vv ∧ W.ownsRow W0.heap.size 36 11 ev m.els.length (elsC m.els) ∧ W.ownsRow W0.heap.size 53 4 fv m.fls.length (flsC m.fls) ∧ Below W0.heap.size W0 W) ∨
 (∃ e, x = .error e ∧ FailOf W0 e zero5m en W)
structure QL (W : World) (H : Nat) (cs : List Value) (X0 : Nat) (ps : List O.Pr) (al : Value) (pc : List Value) (w : World) : Prop where
 nb : NB W H cs 5 30 w
 hx : H + 2 ≤ X0
 x : w.heap[X0]? = some (.cells #[.string ⟨#[]⟩, .string ⟨#[]⟩, .slice none 0 0, .slice none 0 0, .slice none 0 0, al] 103 (0, 0))
 ao : w.ownsRow (X0 + 1) 106 4 al ps.length pc
 ai : Prs w (OwnG w (X0 + 1) [tFlow, tItem, tBind]) ps pc
section
variable {W w w' : World} {H X0 g cap : Nat} {cs : List Value} {ps : List O.Pr} {al : Value} {pc : List Value}
theorem QL.sz (h : QL W H cs X0 ps al pc w) : X0 + 1 ≤ w.heap.size := Go.lt_of_block h.x
theorem QL.below (h : QL W H cs X0 ps al pc w) (hb : Below w.heap.size w w') : QL W H cs X0 ps al pc w' :=
 ⟨h.nb.below hb, h.hx, (hb.block _ h.sz).trans h.x, h.ao.kept (grow_of_below hb) (Classical.em _),
  Prs.keep (fun _ hb' => (hb'.keep (KeepG.below hb _)).1) (fun _ hb' => (hb'.keep (KeepG.below hb _)).2) ps pc h.ai⟩
theorem nb5_own (h : NB W H cs 5 30 w) (hx : H + 2 ≤ X0) {v : Value} (hg : w.grownBy w' v.ownBlock) (hlt : ∀ k, v.ownBlock = some k → X0 + 1 ≤ k ∧ k < w.heap.size) : NB W H cs 5 30 w' := by
 rcases ho : v.ownBlock with _ | R
 · rw [ho] at hg
   have hs := h.sz
   obtain ⟨rs, hk, hr⟩ := h.r
   exact ⟨h.h, h.b.grown hg (by have := h.b.size; have := h.h; omega) (fun k hk => by cases hk), (hg.block _ (by omega) (by simp)).trans h.n, ⟨rs, hk, (hg.block _ (by omega) (by simp)).trans hr⟩⟩
 · rw [ho] at hg
   exact h.grown hg (by have := (hlt R ho).1; omega)
theorem QL.more (h : QL W H cs X0 ps al pc w) {x : O.Pr} {ds : List Value} (hi : PrHas w (OwnG w (X0 + 1) [tFlow, tItem, tBind]) x ds) (hown : w'.ownsRow (X0 + 1) 106 4 (.slice (some ⟨g, 0, none⟩) (ps.length + 1) cap) (ps.length + 1) (pc ++ ds)) (hgr : w.grownBy w' al.ownBlock) :
   QL W H cs X0 (ps ++ [x]) (.slice (some ⟨g, 0, none⟩) (ps.length + 1) cap) (pc ++ ds) (w'.setCell ⟨X0, 5, none⟩ (.slice (some ⟨g, 0, none⟩) (ps.length + 1) cap)) := by
 have hlt := World.ownsRow.lt h.ao
 have hrow := row_own h.x hgr hlt
 have gs := grownBy_set w' X0 5 (.slice (some ⟨g, 0, none⟩) (ps.length + 1) cap)
 have k1 : KeepG w w' [tFlow, tItem, tBind] := KeepG.own h.ao hgr (by decide)
 have k2 : KeepG w' (w'.setCell ⟨X0, 5, none⟩ (.slice (some ⟨g, 0, none⟩) (ps.length + 1) cap)) [tFlow, tItem, tBind] := KeepG.grown gs hrow (by decide)
 have k := k1.trans k2
 refine ⟨(nb5_own h.nb h.hx hgr hlt).grown gs h.hx, h.hx, row_set hrow 5 _, ?_, ?_⟩
 · rw [List.length_append]
   exact hown.kept gs (Or.inr (fun e => by have := (World.ownsRow.lt hown X0 e).1; omega))
 · exact Prs.snoc (hi.keep (fun _ hb => (hb.keep k).1) (fun _ hb => (hb.keep k).2)) ps pc (Prs.keep (fun _ hb => (hb.keep k).1) (fun _ hb => (hb.keep k).2) ps pc h.ai)
end
theorem prs_own {w : World} {B : Nat} {v : Value} {ps : List O.Pr} {pc : List Value} (h : w.ownsRow B 106 4 v ps.length pc) (hi : Prs w (OwnG w B [tFlow, tItem, tBind]) ps pc) : PrsIn w (OwnG w B [tFlow, tItem, tBind, tProc]) ps v := by
 have hc := fun g (hg : v.ownBlock = some g) => World.ownsRow.cells h hg
 rcases h.2 with ⟨rfl, h0⟩ | ⟨g, cap, cur, rfl, hB, hg, hcap, _⟩
 · exact Or.inl ⟨List.eq_nil_of_length_eq_zero h0, rfl⟩
 · refine Or.inr ⟨g, cap, pc, rfl, ⟨hB, Go.lt_of_block hg, _, _, hg, by decide⟩, hcap, Prs.keep (fun b hb => hb.sub (by decide) (Nat.le_refl _)) (fun _ _ => rfl) ps pc hi, fun j u hu => ?_⟩
   have := hc g rfl j u hu
   have e : (⟨g, 0, none⟩ : Addr).add j = ⟨g, j, none⟩ := by unfold Addr.add; split <;> simp_all
   rw [e] at this
   exact this
end Go.Proofs.YteejphiklpnjhaaGreatDoor
