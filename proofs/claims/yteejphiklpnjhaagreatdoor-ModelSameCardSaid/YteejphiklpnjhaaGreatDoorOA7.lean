/- Twin, twice. -/
import Derived.Test.YteejphiklpnjhaaGreatDoorOA6
import Derived.Laws.AppendOwnNone
import Derived.WalkSpells
import Derived.Test.YteejphiklpnjhaaGreatDoorMJ7
namespace Go.Proofs.YteejphiklpnjhaaGreatDoor
set_option maxRecDepth 100000
set_option maxHeartbeats 16000000
open Go.RowKit Go.Maps
open Go.Lib (hid)
structure TB (W : World) (H : Nat) (cx : List Value) (w : World) : Prop where
 h : W.heap.size = H
 b : Below H W w
 x : w.heap[H]? = some (.cells cx.toArray 30 (0, 0))
 r : w.heap[H + 1]? = some (.cells #[.string ⟨#[]⟩, .string ⟨#[]⟩, .slice none 0 0, .slice none 0 0, .slice none 0 0] 30 (0, 0))
section
variable {W w w' : World} {H : Nat} {cx : List Value}
theorem TB.sz (h : TB W H cx w) : H + 2 ≤ w.heap.size := Go.lt_of_block h.r
theorem TB.below (h : TB W H cx w) (hb : Below w.heap.size w w') : TB W H cx w' :=
 ⟨h.h, h.b.trans (hb.mono (by have := h.sz; omega)), (hb.block _ (Go.lt_of_block h.x)).trans h.x, (hb.block _ (Go.lt_of_block h.r)).trans h.r⟩
theorem TB.grown (h : TB W H cx w) {v : Value} (hg : w.grownBy w' v.ownBlock) (hlt : ∀ k, v.ownBlock = some k → H + 2 ≤ k) : TB W H cx w' := by
 have hs := h.sz
 have ne : ∀ b, b < H + 2 → some b ≠ v.ownBlock := fun b hb e => by have := hlt b e.symm; omega
 exact ⟨h.h, h.b.grown hg (by have := h.h; omega) (fun k hk => by have := hlt k hk; have := h.h; omega), (hg.block _ (by omega) (ne _ (by omega))).trans h.x, (hg.block _ (by omega) (ne _ (by omega))).trans h.r⟩
theorem TB.bw (h : TB W H cx w) : Below W.heap.size W w := by rw [h.h]; exact h.b
theorem TB.drew (h : TB W H cx w) : TB W H cx w.drew := ⟨h.h, h.b.drew, h.x, h.r⟩
theorem TB.set (h : TB W H cx w) (k : Nat) (v : Value) : TB W H (cx.set k v) (w.setCell ⟨H, k, none⟩ v) := by
 have hx := row_set h.x k v
 rw [List.setIfInBounds_toArray] at hx
 have gs := grownBy_set w H k v
 exact ⟨h.h, h.b.grown gs (by have := h.sz; have := h.h; omega) (fun j hj => by have := Option.some.inj hj; have := h.h; omega), hx, (gs.block _ (Go.lt_of_block h.r) (fun e => by have := Option.some.inj e; omega)).trans h.r⟩
theorem tb_first (W : World) (cx : List Value) : TB W W.heap.size cx ((W.alloc (.cells cx.toArray 30)).alloc (.cells #[.string ⟨#[]⟩, .string ⟨#[]⟩, .slice none 0 0, .slice none 0 0, .slice none 0 0] 30)) := by
 have b1 := (Below.refl W.heap.size W).alloc (Nat.le_refl _) (.cells cx.toArray 30)
 have hs : (W.alloc (.cells cx.toArray 30)).heap.size = W.heap.size + 1 := by simp
 have h1 := heap_alloc_new W (.cells cx.toArray 30)
 have h2 := heap_alloc_new (W.alloc (.cells cx.toArray 30)) (.cells #[.string ⟨#[]⟩, .string ⟨#[]⟩, .slice none 0 0, .slice none 0 0, .slice none 0 0] 30)
 rw [hs] at h2
 exact ⟨rfl, b1.alloc (by rw [hs]; omega) _, (Go.Lib.alloc_old _ _ _ (by rw [hs]; omega)).trans h1, h2⟩
end
theorem sizeModelS : (Tryz.prog.info? 30).map (·.size) = some 5 := by kernel_rfl
theorem own_shape {w : World} {B : Nat} {e : TypeId} {size : Nat} {v : Value} {n : Nat} {xs : List Value} (h : w.ownsRow B e size v n xs) : ∃ a c, v = .slice a n c := by
 rcases h.2 with ⟨rfl, h0⟩ | ⟨g, cap, cur, rfl, _⟩
 · exact ⟨none, 0, by rw [h0]⟩
 · exact ⟨_, cap, rfl⟩
theorem own_zero (w : World) (e : TypeId) (k : Nat) : World.ownsRow (w.alloc (.cells #[] e)) w.heap.size e k (.slice (some ⟨w.heap.size, 0, none⟩) 0 0) 0 [] :=
 ⟨by simp, Or.inr ⟨w.heap.size, 0, #[], rfl, Nat.le_refl _, heap_alloc_new w _, Nat.le_refl _, by simp, by simp, by simp⟩⟩
def TwinS (x : Mdl) (w : World) (e : Ending) (w' : World) : Prop := ∃ cs, e = .returned (.agg cs.toArray) ∧ MOwn w' w.heap.size x cs ∧ Below w.heap.size w w'
theorem TB.done {W w : World} {H B : Nat} {x : Mdl} {cx : List Value} {v e f : Value} (h : TB W H cx w) (hB : H + 2 ≤ B) (h1 : w.ownsRow B 51 5 v x.vs.length (rowB x.vs)) (h2 : w.ownsRow B 36 11 e x.es.length (rowE x.es)) (h3 : w.ownsRow B 53 4 f x.fs.length (rowF x.fs)) :
  TwinS x W (.returned (.agg #[.string x.id, .string x.nm, v, e, f])) (sts w (H + 1) 0 [.string x.id, .string x.nm, v, e, f]) ∧ (sts w (H + 1) 0 [.string x.id, .string x.nm, v, e, f]).heap[H + 1]? = some (.cells #[.string x.id, .string x.nm, v, e, f] 30 (0, 0)) := by
 have gs := sts_grown [.string x.id, .string x.nm, v, e, f] w (H + 1) 0
 have hne : ∀ {v : Value} {e : TypeId} {size n : Nat} {xs : List Value}, w.ownsRow B e size v n xs → v.ownBlock = none ∨ v.ownBlock ≠ some (H + 1) := fun ho => Or.inr (fun e => by have := (World.ownsRow.lt ho (H + 1) e).1; omega)
 have hr := sts_row [.string x.id, .string x.nm, v, e, f] [] [.string ⟨#[]⟩, .string ⟨#[]⟩, .slice none 0 0, .slice none 0 0, .slice none 0 0] w h.r rfl
 refine ⟨⟨_, rfl, ⟨v, e, f, rfl, (h1.kept gs (hne h1)).mono (by rw [h.h]; omega), (h2.kept gs (hne h2)).mono (by rw [h.h]; omega), (h3.kept gs (hne h3)).mono (by rw [h.h]; omega)⟩, ?_⟩, hr⟩
 rw [h.h]
 exact h.b.grown gs (by have := h.sz; have := h.h; omega) (fun j hj => by have := Option.some.inj hj; have := h.h; omega)
theorem appendB {P : Program} (hP : P = Tryz.prog) {w : World} {ops : Array Oper} {rest : List Oper} {o : Oper} {a : Act} {Q : Exit → Act → World → Prop} (hgd : o.guard = none) (s x : Operand)
   (ho : o.op = .call { callee := .builtin .append, args := #[s, x], argTypes := #[26, 26] }) (base : Nat) (v : Value) (hs : a.eval s = v) (hown : w.ownsRow base 51 5 v 0 []) (l : List Bd) (sv : Value) (hin : InB w l sv) (hlen : l.length ≤ 2000) (hx : a.eval x = sv) (hbase : base ≤ w.heap.size)
   (h : ∀ v' w', w'.ownsRow base 51 5 v' l.length (rowB l) → w.grownBy w' v.ownBlock → wpList P ops Q rest (a.put o.dst v') w') : wpList P ops Q (o :: rest) a w := by
 subst hP
 obtain ⟨i0, hi, hz0, hz1, hz2⟩ := info_parts infoBs
 have hun := Tryz.underlying26
 rcases hin with ⟨rfl, ad, c, rfl, hc⟩ | ⟨h0, b, o', c, rfl, _, _, hcell⟩
 · cases ad with
   | none =>
     obtain rfl := hc rfl
     exact wpList_append_own_none hgd s x _ ho base _ i0 5 hun hi v 0 [] hs hown hx (h v w hown (grownBy_refl _ _))
   | some ad =>
     refine wpList_append_own w hgd s x _ ho base _ i0 _ 5 56 hun hi hz0 hz1 hz2 rfl (by decide) v 0 [] hs hown ad 0 c [] hx rfl (fun j u hj => by simp at hj) (by simp) (by unfold maxLen; omega) (by omega) hbase ?_
     intro v' w' h1 h2 _
     exact h v' w' h1 h2
 · refine wpList_append_own w hgd s x _ ho base _ i0 _ 5 56 hun hi hz0 hz1 hz2 rfl (by decide) v 0 [] hs hown ⟨b, o', none⟩ l.length c (rowB l) hx (rowB_len l) (fun j u hj => ?_) (rowB_one l) (by unfold maxLen; omega) (by omega) hbase ?_
   · have e : (⟨b, o', none⟩ : Addr).add j = ⟨b, o' + j, none⟩ := by cases j <;> simp [Addr.add]
     rw [e]; exact hcell j u hj
   · intro v' w' h1 h2 _
     rw [Nat.zero_add, List.nil_append] at h1
     exact h v' w' h1 h2
theorem appendE {P : Program} (hP : P = Tryz.prog) {w : World} {ops : Array Oper} {rest : List Oper} {o : Oper} {a : Act} {Q : Exit → Act → World → Prop} (hgd : o.guard = none) (s x : Operand)
   (ho : o.op = .call { callee := .builtin .append, args := #[s, x], argTypes := #[27, 27] }) (base : Nat) (v : Value) (hs : a.eval s = v) (hown : w.ownsRow base 36 11 v 0 []) (l : List Em) (sv : Value) (hin : InE w l sv) (hlen : l.length ≤ 2000) (hx : a.eval x = sv) (hbase : base ≤ w.heap.size)
   (h : ∀ v' w', w'.ownsRow base 36 11 v' l.length (rowE l) → w.grownBy w' v.ownBlock → wpList P ops Q rest (a.put o.dst v') w') : wpList P ops Q (o :: rest) a w := by
 subst hP
 obtain ⟨i0, hi, hz0, hz1, hz2⟩ := info_parts infoEs
 have hun := Tryz.underlying27
 rcases hin with ⟨rfl, ad, c, rfl, hc⟩ | ⟨h0, b, o', c, rfl, _, _, hcell⟩
 · cases ad with
   | none =>
     obtain rfl := hc rfl
     exact wpList_append_own_none hgd s x _ ho base _ i0 11 hun hi v 0 [] hs hown hx (h v w hown (grownBy_refl _ _))
   | some ad =>
     refine wpList_append_own w hgd s x _ ho base _ i0 _ 11 144 hun hi hz0 hz1 hz2 rfl (by decide) v 0 [] hs hown ad 0 c [] hx rfl (fun j u hj => by simp at hj) (by simp) (by unfold maxLen; omega) (by omega) hbase ?_
     intro v' w' h1 h2 _
     exact h v' w' h1 h2
 · refine wpList_append_own w hgd s x _ ho base _ i0 _ 11 144 hun hi hz0 hz1 hz2 rfl (by decide) v 0 [] hs hown ⟨b, o', none⟩ l.length c (rowE l) hx (rowE_len l) (fun j u hj => ?_) (rowE_one l) (by unfold maxLen; omega) (by omega) hbase ?_
   · have e : (⟨b, o', none⟩ : Addr).add j = ⟨b, o' + j, none⟩ := by cases j <;> simp [Addr.add]
     rw [e]; exact hcell j u hj
   · intro v' w' h1 h2 _
     rw [Nat.zero_add, List.nil_append] at h1
     exact h v' w' h1 h2
theorem appendF {P : Program} (hP : P = Tryz.prog) {w : World} {ops : Array Oper} {rest : List Oper} {o : Oper} {a : Act} {Q : Exit → Act → World → Prop} (hgd : o.guard = none) (s x : Operand)
   (ho : o.op = .call { callee := .builtin .append, args := #[s, x], argTypes := #[28, 28] }) (base : Nat) (v : Value) (hs : a.eval s = v) (hown : w.ownsRow base 53 4 v 0 []) (l : List Fw) (sv : Value) (hin : InF w l sv) (hlen : l.length ≤ 2000) (hx : a.eval x = sv) (hbase : base ≤ w.heap.size)
   (h : ∀ v' w', w'.ownsRow base 53 4 v' l.length (rowF l) → w.grownBy w' v.ownBlock → wpList P ops Q rest (a.put o.dst v') w') : wpList P ops Q (o :: rest) a w := by
 subst hP
 obtain ⟨i0, hi, hz0, hz1, hz2⟩ := info_parts infoFs
 have hun := Tryz.underlying28
 rcases hin with ⟨rfl, ad, c, rfl, hc⟩ | ⟨h0, b, o', c, rfl, _, _, hcell⟩
 · cases ad with
   | none =>
     obtain rfl := hc rfl
     exact wpList_append_own_none hgd s x _ ho base _ i0 4 hun hi v 0 [] hs hown hx (h v w hown (grownBy_refl _ _))
   | some ad =>
     refine wpList_append_own w hgd s x _ ho base _ i0 _ 4 64 hun hi hz0 hz1 hz2 rfl (by decide) v 0 [] hs hown ad 0 c [] hx rfl (fun j u hj => by simp at hj) (by simp) (by unfold maxLen; omega) (by omega) hbase ?_
     intro v' w' h1 h2 _
     exact h v' w' h1 h2
 · refine wpList_append_own w hgd s x _ ho base _ i0 _ 4 64 hun hi hz0 hz1 hz2 rfl (by decide) v 0 [] hs hown ⟨b, o', none⟩ l.length c (rowF l) hx (rowF_len l) (fun j u hj => ?_) (rowF_one l) (by unfold maxLen; omega) (by omega) hbase ?_
   · have e : (⟨b, o', none⟩ : Addr).add j = ⟨b, o' + j, none⟩ := by cases j <;> simp [Addr.add]
     rw [e]; exact hcell j u hj
   · intro v' w' h1 h2 _
     rw [Nat.zero_add, List.nil_append] at h1
     exact h v' w' h1 h2
theorem rtwin_any {x : Mdl} {xs : List Value} {w : World} (hx : MIn w x xs) (hf : x.few) :
  Calls Tryz.prog 9 #[.agg xs.toArray] w (TwinS x w) := by
 obtain ⟨va, vc, ea, ec, fa, fc, rfl⟩ := hx.shape
 obtain ⟨xi, xn, xv, xe, xf⟩ := x
 obtain ⟨v1, e1, f1, he1, hv1, hee1, hf1⟩ := hx
 simp only [List.cons.injEq, and_true, true_and] at he1
 obtain ⟨rfl, rfl, rfl⟩ := he1
 have HFW : Hid (xv.length ≤ 2000 ∧ xe.length ≤ 2000 ∧ xf.length ≤ 2000) := by
  unfold Mdl.few at hf
  simp only at hf
  show _ ∧ _ ∧ _
  omega
 simp only at hv1 hee1 hf1 ⊢
 obtain ⟨vl, hvl⟩ : ∃ n, xv.length = n := ⟨_, rfl⟩
 obtain ⟨el, hel⟩ : ∃ n, xe.length = n := ⟨_, rfl⟩
 obtain ⟨fl, hfl⟩ : ∃ n, xf.length = n := ⟨_, rfl⟩
 rw [hvl] at hv1
 rw [hel] at hee1
 rw [hfl] at hf1
 rw [hvl, hel, hfl]
 have HV := hid hv1
 have HE := hid hee1
 have HF := hid hf1
 have HVL := hid hvl
 have HEL := hid hel
 have HFL := hid hfl
 obtain ⟨H, hH⟩ : ∃ H, w.heap.size = H := ⟨_, rfl⟩
 obtain ⟨w2, hw2⟩ : ∃ u, (w.alloc (.cells #[.string xi, .string xn, .slice va vl vc, .slice ea el ec, .slice fa fl fc] 30)).alloc (.cells #[.string ⟨#[]⟩, .string ⟨#[]⟩, .slice none 0 0, .slice none 0 0, .slice none 0 0] 30) = u := ⟨_, rfl⟩
 have HT2 : Hid (TB w H [.string xi, .string xn, .slice va vl vc, .slice ea el ec, .slice fa fl fc] w2) := by
  show TB _ _ _ _
  rw [← hw2, ← hH]
  exact tb_first w _
 have HW2 := hid hw2
 have HHE := hid hH
 clear hv1 hee1 hf1 hvl hel hfl hw2 hH hf
 obtain ⟨a0, a1, a2, a3, a4, -, -, -, -, -⟩ := rowN5 HT2.out.x
 go_enter Tryz.func9, Tryz.ntmps9
 go_upto_region 1 with fail
 rw [HW2.out, HHE.out]
 clear HW2
 have HN0 : Hid (InB (w2.alloc (.cells #[] 51)) xv (.slice va vl vc)) := HV.out.below (HT2.out.bw.trans (((Below.refl _ w2).alloc (Nat.le_refl _) _).mono (by exact HT2.out.bw.size)))
 have HZ0 := hid (own_zero w2 51 5)
 have HA0 := hid (HT2.out.below ((Below.refl w2.heap.size w2).alloc (Nat.le_refl _) (.cells #[] 51)))
 clear a0 a1 a2 a3 a4
 obtain ⟨a0, a1, a2, a3, a4, -, -, -, -, -⟩ := rowN5 HA0.out.x
 go_wp2_with (at_builtin; refine appendB rfl rfl _ _ rfl w2.heap.size (.slice (some ⟨w2.heap.size, 0, none⟩) 0 0) rfl HZ0.out xv (.slice va vl vc) HN0.out HFW.out.1 rfl (by simp) ?_)
 intro u0 w3 hown hgrow
 have HT3 : Hid (TB w H [.string xi, .string xn, .slice va vl vc, .slice ea el ec, .slice fa fl fc] w3) := HA0.out.grown hgrow (fun k hk => by cases hk; exact HT2.out.sz)
 obtain ⟨vb, vd, rfl⟩ := own_shape hown
 rw [HVL.out] at hown ⊢
 have HOB := hid (hown.mono (show H + 2 ≤ w2.heap.size from HT2.out.sz))
 clear hown hgrow a0 a1 a2 a3 a4
 obtain ⟨a0, a1, a2, a3, a4, g0, g1, g2, g3, g4⟩ := rowN5 HT3.out.x
 go_upto_region 2 with fail
 obtain ⟨w4, hw4⟩ : ∃ u, w3.setCell ⟨H, 2, none⟩ (.slice vb vl vd) = u := ⟨_, rfl⟩
 have HT4 : Hid (TB w H [.string xi, .string xn, .slice vb vl vd, .slice ea el ec, .slice fa fl fc] w4) := by show TB _ _ _ _; rw [← hw4]; exact HT3.out.set 2 _
 have hgs : w3.grownBy w4 (some H) := by rw [← hw4]; exact grownBy_set w3 H 2 _
 have HOB0' := hid (HOB.out.kept hgs (Or.inr (fun e => by have := (World.ownsRow.lt HOB.out _ e).1; omega)))
 clear HOB
 have HOB := hid HOB0'.out
 clear HOB0'
 rw [hw4]
 clear hw4 hgs a0 a1 a2 a3 a4 g0 g1 g2 g3 g4
 obtain ⟨a0, a1, a2, a3, a4, -, -, -, -, -⟩ := rowN5 HT4.out.x
 have HN1 : Hid (InE (w4.alloc (.cells #[] 36)) xe (.slice ea el ec)) := HE.out.below (HT4.out.bw.trans (((Below.refl _ w4).alloc (Nat.le_refl _) _).mono (by exact HT4.out.bw.size)))
 have HZ1 := hid (own_zero w4 36 11)
 have HA1 := hid (HT4.out.below ((Below.refl w4.heap.size w4).alloc (Nat.le_refl _) (.cells #[] 36)))
 clear a0 a1 a2 a3 a4
 obtain ⟨a0, a1, a2, a3, a4, -, -, -, -, -⟩ := rowN5 HA1.out.x
 go_wp2_with (at_builtin; refine appendE rfl rfl _ _ rfl w4.heap.size (.slice (some ⟨w4.heap.size, 0, none⟩) 0 0) rfl HZ1.out xe (.slice ea el ec) HN1.out HFW.out.2.1 rfl (by simp) ?_)
 intro u1 w5 hown hgrow
 have HT5 : Hid (TB w H [.string xi, .string xn, .slice vb vl vd, .slice ea el ec, .slice fa fl fc] w5) := HA1.out.grown hgrow (fun k hk => by cases hk; exact HT4.out.sz)
 have HOB1 := hid ((HOB.out.alloc (.cells #[] 36)).kept hgrow (Or.inr (fun e => Nat.lt_irrefl _ (World.ownsRow.lt HOB.out w4.heap.size e).2)))
 clear HOB
 have HOB := hid HOB1.out
 clear HOB1
 obtain ⟨eb, ed, rfl⟩ := own_shape hown
 rw [HEL.out] at hown ⊢
 have HOE := hid (hown.mono (show H + 2 ≤ w4.heap.size from HT4.out.sz))
 clear hown hgrow a0 a1 a2 a3 a4
 obtain ⟨a0, a1, a2, a3, a4, g0, g1, g2, g3, g4⟩ := rowN5 HT5.out.x
 go_upto_region 3 with fail
 obtain ⟨w6, hw6⟩ : ∃ u, w5.setCell ⟨H, 3, none⟩ (.slice eb el ed) = u := ⟨_, rfl⟩
 have HT6 : Hid (TB w H [.string xi, .string xn, .slice vb vl vd, .slice eb el ed, .slice fa fl fc] w6) := by show TB _ _ _ _; rw [← hw6]; exact HT5.out.set 3 _
 have hgs : w5.grownBy w6 (some H) := by rw [← hw6]; exact grownBy_set w5 H 3 _
 have HOB1' := hid (HOB.out.kept hgs (Or.inr (fun e => by have := (World.ownsRow.lt HOB.out _ e).1; omega)))
 clear HOB
 have HOB := hid HOB1'.out
 clear HOB1'
 have HOE1' := hid (HOE.out.kept hgs (Or.inr (fun e => by have := (World.ownsRow.lt HOE.out _ e).1; omega)))
 clear HOE
 have HOE := hid HOE1'.out
 clear HOE1'
 rw [hw6]
 clear hw6 hgs a0 a1 a2 a3 a4 g0 g1 g2 g3 g4
 obtain ⟨a0, a1, a2, a3, a4, -, -, -, -, -⟩ := rowN5 HT6.out.x
 have HN2 : Hid (InF (w6.alloc (.cells #[] 53)) xf (.slice fa fl fc)) := HF.out.below (HT6.out.bw.trans (((Below.refl _ w6).alloc (Nat.le_refl _) _).mono (by exact HT6.out.bw.size)))
 have HZ2 := hid (own_zero w6 53 4)
 have HA2 := hid (HT6.out.below ((Below.refl w6.heap.size w6).alloc (Nat.le_refl _) (.cells #[] 53)))
 clear a0 a1 a2 a3 a4
 obtain ⟨a0, a1, a2, a3, a4, -, -, -, -, -⟩ := rowN5 HA2.out.x
 go_wp2_with (at_builtin; refine appendF rfl rfl _ _ rfl w6.heap.size (.slice (some ⟨w6.heap.size, 0, none⟩) 0 0) rfl HZ2.out xf (.slice fa fl fc) HN2.out HFW.out.2.2 rfl (by simp) ?_)
 intro u2 w7 hown hgrow
 have HT7 : Hid (TB w H [.string xi, .string xn, .slice vb vl vd, .slice eb el ed, .slice fa fl fc] w7) := HA2.out.grown hgrow (fun k hk => by cases hk; exact HT6.out.sz)
 have HOB2 := hid ((HOB.out.alloc (.cells #[] 53)).kept hgrow (Or.inr (fun e => Nat.lt_irrefl _ (World.ownsRow.lt HOB.out w6.heap.size e).2)))
 clear HOB
 have HOB := hid HOB2.out
 clear HOB2
 have HOE2 := hid ((HOE.out.alloc (.cells #[] 53)).kept hgrow (Or.inr (fun e => Nat.lt_irrefl _ (World.ownsRow.lt HOE.out w6.heap.size e).2)))
 clear HOE
 have HOE := hid HOE2.out
 clear HOE2
 obtain ⟨fb, fd, rfl⟩ := own_shape hown
 rw [HFL.out] at hown ⊢
 have HOF := hid (hown.mono (show H + 2 ≤ w6.heap.size from HT6.out.sz))
 clear hown hgrow a0 a1 a2 a3 a4
 obtain ⟨a0, a1, a2, a3, a4, g0, g1, g2, g3, g4⟩ := rowN5 HT7.out.x
 go_upto_region 4 with fail
 obtain ⟨w8, hw8⟩ : ∃ u, w7.setCell ⟨H, 4, none⟩ (.slice fb fl fd) = u := ⟨_, rfl⟩
 have HT8 : Hid (TB w H [.string xi, .string xn, .slice vb vl vd, .slice eb el ed, .slice fb fl fd] w8) := by show TB _ _ _ _; rw [← hw8]; exact HT7.out.set 4 _
 have hgs : w7.grownBy w8 (some H) := by rw [← hw8]; exact grownBy_set w7 H 4 _
 have HOB2' := hid (HOB.out.kept hgs (Or.inr (fun e => by have := (World.ownsRow.lt HOB.out _ e).1; omega)))
 clear HOB
 have HOB := hid HOB2'.out
 clear HOB2'
 have HOE2' := hid (HOE.out.kept hgs (Or.inr (fun e => by have := (World.ownsRow.lt HOE.out _ e).1; omega)))
 clear HOE
 have HOE := hid HOE2'.out
 clear HOE2'
 have HOF2' := hid (HOF.out.kept hgs (Or.inr (fun e => by have := (World.ownsRow.lt HOF.out _ e).1; omega)))
 clear HOF
 have HOF := hid HOF2'.out
 clear HOF2'
 rw [hw8]
 clear hw8 hgs a0 a1 a2 a3 a4 g0 g1 g2 g3 g4
 obtain ⟨a0, a1, a2, a3, a4, -, -, -, -, -⟩ := rowN5 HT8.out.x
 have r := rowN5 HT8.out.r
 obtain ⟨r0, r1, r2, r3, r4, s0, s1, s2, s3, s4⟩ := r
 go_wp2_with fail
 have HD := TB.done (x := ⟨xi, xn, xv, xe, xf⟩) HT8.out (Nat.le_refl _) (by rw [HVL.out]; exact HOB.out) (by rw [HEL.out]; exact HOE.out) (by rw [HFL.out]; exact HOF.out)
 exact bodyPost_ret (v := .agg #[.string xi, .string xn, .slice vb vl vd, .slice eb el ed, .slice fb fl fd]) (results_cell_row rfl _ _ (H + 1) 30 _ (0, 0) _ rfl HD.2 Tryz.underlying30 rfl sizeModelS) rfl HD.1
end Go.Proofs.YteejphiklpnjhaaGreatDoor
namespace Go.Proofs.YteejphiklpnjhaaGreatDoor
set_option maxRecDepth 100000
set_option maxHeartbeats 16000000
open Go.RowKit Go.Maps
open Go.Lib (hid)
theorem twin_any {x : Mdl} {xs : List Value} {w : World} (hx : MIn w x xs) (hf : x.few) :
  Calls Tryz.prog 10 #[.agg xs.toArray] w (TwinS x w) := by
 obtain ⟨va, vc, ea, ec, fa, fc, rfl⟩ := hx.shape
 obtain ⟨xi, xn, xv, xe, xf⟩ := x
 obtain ⟨v1, e1, f1, he1, hv1, hee1, hf1⟩ := hx
 simp only [List.cons.injEq, and_true, true_and] at he1
 obtain ⟨rfl, rfl, rfl⟩ := he1
 have HFW : Hid (xv.length ≤ 2000 ∧ xe.length ≤ 2000 ∧ xf.length ≤ 2000) := by
  unfold Mdl.few at hf
  simp only at hf
  show _ ∧ _ ∧ _
  omega
 simp only at hv1 hee1 hf1 ⊢
 obtain ⟨vl, hvl⟩ : ∃ n, xv.length = n := ⟨_, rfl⟩
 obtain ⟨el, hel⟩ : ∃ n, xe.length = n := ⟨_, rfl⟩
 obtain ⟨fl, hfl⟩ : ∃ n, xf.length = n := ⟨_, rfl⟩
 rw [hvl] at hv1
 rw [hel] at hee1
 rw [hfl] at hf1
 rw [hvl, hel, hfl]
 have HV := hid hv1
 have HE := hid hee1
 have HF := hid hf1
 have HVL := hid hvl
 have HEL := hid hel
 have HFL := hid hfl
 obtain ⟨H, hH⟩ : ∃ H, w.heap.size = H := ⟨_, rfl⟩
 obtain ⟨w2, hw2⟩ : ∃ u, (w.alloc (.cells #[.string xi, .string xn, .slice va vl vc, .slice ea el ec, .slice fa fl fc] 30)).alloc (.cells #[.string ⟨#[]⟩, .string ⟨#[]⟩, .slice none 0 0, .slice none 0 0, .slice none 0 0] 30) = u := ⟨_, rfl⟩
 have HT2 : Hid (TB w H [.string xi, .string xn, .slice va vl vc, .slice ea el ec, .slice fa fl fc] w2) := by
  show TB _ _ _ _
  rw [← hw2, ← hH]
  exact tb_first w _
 have HW2 := hid hw2
 have HHE := hid hH
 clear hv1 hee1 hf1 hvl hel hfl hw2 hH hf
 have HCB : Hid (∀ U, TB w H [.string xi, .string xn, .slice va vl vc, .slice ea el ec, .slice fa fl fc] U → Calls Tryz.prog 16 #[.slice va vl vc] U (OwnB xv U)) := fun U h => cloneB xv _ U (HV.out.below h.bw) HFW.out.1
 have HCE : Hid (∀ U, TB w H [.string xi, .string xn, .slice va vl vc, .slice ea el ec, .slice fa fl fc] U → Calls Tryz.prog 17 #[.slice ea el ec] U (OwnE xe U)) := fun U h => cloneE xe _ U (HE.out.below h.bw) HFW.out.2.1
 have HCF : Hid (∀ U, TB w H [.string xi, .string xn, .slice va vl vc, .slice ea el ec, .slice fa fl fc] U → Calls Tryz.prog 18 #[.slice fa fl fc] U (OwnF xf U)) := fun U h => cloneF xf _ U (HF.out.below h.bw) HFW.out.2.2
 go_enter Tryz.func10, Tryz.ntmps10
 go_upto_region 1 with fail
 rw [HW2.out, HHE.out]
 clear HW2 HV HE HF
 refine wp_region_till (S := (fun W : World => TB w H [.string xi, .string xn, .slice va vl vc, .slice ea el ec, .slice fa fl fc] W)) 10 (by kernel_rfl) ?_
 have HS := hid (show ((fun W : World => TB w H [.string xi, .string xn, .slice va vl vc, .slice ea el ec, .slice fa fl fc] W)) _ from HT2.out.drew)
 refine wpTill_any 0 (oi := ?oi1) (v := ?v1) ?ho1 (by kernel_rfl) (by kernel_rfl) (by kernel_rfl) (by kernel_rfl) ?hq1 (Or.inl ⟨?hw1, ?hy1⟩) (fun _ => HS.out) ?rest1
 case ho1 => rfl
 case hw1 => rfl
 case hy1 => intro w; go_simp; try with_reducible rfl
 case hq1 => exact fun _ _ _ h => h
 refine wpTill_any 3 (oi := ?oi2) (v := ?v2) ?ho2 (by kernel_rfl) (by kernel_rfl) (by kernel_rfl) (by kernel_rfl) ?hq2 (Or.inl ⟨?hw2, ?hy2⟩) (fun _ => HS.out) ?rest2
 case ho2 => rfl
 case hw2 => rfl
 case hy2 => intro w; go_simp; try with_reducible rfl
 case hq2 => exact fun _ _ _ h => h
 refine wpTill_any 6 (oi := ?oi3) (v := ?v3) ?ho3 (by kernel_rfl) (by kernel_rfl) (by kernel_rfl) (by kernel_rfl) ?hq3 (Or.inl ⟨?hw3, ?hy3⟩) (fun _ => HS.out) ?rest3
 case ho3 => rfl
 case hw3 => rfl
 case hy3 => intro w; go_simp; try with_reducible rfl
 case hq3 => exact fun _ _ _ h => h
 refine wpTill_load 1 [1, 10] (oi := ?oi4) (v := ?v4) ?ho4 (by kernel_rfl) (by kernel_rfl) (by kernel_rfl) (by kernel_rfl) ?hq4 (Or.inl ⟨?hw4, ?hy4⟩) HS.out ?rest4
 case ho4 => rfl
 case hw4 => rfl
 case hy4 =>
  intro w hSw
  obtain ⟨a0, a1, a2, a3, a4, -, -, -, -, -⟩ := rowN5 hSw.x
  clear hSw
  go_simp
  try with_reducible rfl
 case hq4 => exact fun _ _ _ h => h
 refine wpTill_load 4 [4, 10] (oi := ?oi5) (v := ?v5) ?ho5 (by kernel_rfl) (by kernel_rfl) (by kernel_rfl) (by kernel_rfl) ?hq5 (Or.inl ⟨?hw5, ?hy5⟩) HS.out ?rest5
 case ho5 => rfl
 case hw5 => rfl
 case hy5 =>
  intro w hSw
  obtain ⟨a0, a1, a2, a3, a4, -, -, -, -, -⟩ := rowN5 hSw.x
  clear hSw
  go_simp
  try with_reducible rfl
 case hq5 => exact fun _ _ _ h => h
 refine wpTill_load 7 [7, 10] (oi := ?oi6) (v := ?v6) ?ho6 (by kernel_rfl) (by kernel_rfl) (by kernel_rfl) (by kernel_rfl) ?hq6 (Or.inl ⟨?hw6, ?hy6⟩) HS.out ?rest6
 case ho6 => rfl
 case hw6 => rfl
 case hy6 =>
  intro w hSw
  obtain ⟨a0, a1, a2, a3, a4, -, -, -, -, -⟩ := rowN5 hSw.x
  clear hSw
  go_simp
  try with_reducible rfl
 case hq6 => exact fun _ _ _ h => h
 refine wpTill_ready (rs := [2]) (by kernel_rfl) (by decide) ?_
 refine AllTill.consH (o := ?oi7) ?ho7 (fun K hK => ?step7) ?more7
 case ho7 => rfl
 case step7 =>
  go_simp
  refine (HCB.out _ HS.out).mono ?_
  rintro e w3 ⟨u0, rfl, hown, hb⟩
  have HT3 := hid (HS.out.below hb)
  obtain ⟨vb, vd, rfl⟩ := own_shape hown
  rw [HVL.out] at hown ⊢
  have HOB := hid (hown.mono (show H + 2 ≤ w2.drew.heap.size from HS.out.sz))
  clear hown hb
  try dsimp only
  refine hK.out _ _ (fun _ => HT3.out) (fun hHeld => ?_)
  have HS7 := hid (hHeld (by kernel_rfl))
  clear hHeld hK K
  refine wpTill_any 9 (oi := ?oi8) (v := ?v8) ?ho8 (by kernel_rfl) (by kernel_rfl) (by kernel_rfl) (by kernel_rfl) ?hq8 (Or.inl ⟨?hw8, ?hy8⟩) (fun _ => HS7.out) ?rest8
  case ho8 => rfl
  case hw8 => rfl
  case hy8 => intro w; go_simp; try with_reducible rfl
  case hq8 => exact fun _ _ _ h => h
  refine wpTill_ready (rs := [5]) (by kernel_rfl) (by decide) ?_
  refine AllTill.consH (o := ?oi9) ?ho9 (fun K hK => ?step9) ?more9
  case ho9 => rfl
  case step9 =>
   go_simp
   refine (HCE.out _ HT3.out).mono ?_
   rintro e w4 ⟨u1, rfl, hown, hb⟩
   have HT4 := hid (HT3.out.below hb)
   obtain ⟨eb, ed, rfl⟩ := own_shape hown
   rw [HEL.out] at hown ⊢
   have HOE := hid (hown.mono (show H + 2 ≤ w3.heap.size from HT3.out.sz))
   have HOB4 := hid (HOB.out.kept (noGrow hb) (Classical.em _))
   clear hown hb HOB
   try dsimp only
   refine hK.out _ _ (fun _ => HT4.out) (fun hHeld => ?_)
   have HS9 := hid (hHeld (by kernel_rfl))
   clear hHeld hK K
   refine wpTill_ready (rs := [8]) (by kernel_rfl) (by decide) ?_
   refine AllTill.consH (o := ?oi10) ?ho10 (fun K hK => ?step10) ?more10
   case ho10 => rfl
   case step10 =>
    go_simp
    refine (HCF.out _ HT4.out).mono ?_
    rintro e w5 ⟨u2, rfl, hown, hb⟩
    have HT5 := hid (HT4.out.below hb)
    obtain ⟨fb, fd, rfl⟩ := own_shape hown
    rw [HFL.out] at hown ⊢
    have HOF := hid (hown.mono (show H + 2 ≤ w4.heap.size from HT4.out.sz))
    have HOB5 := hid (HOB4.out.kept (noGrow hb) (Classical.em _))
    have HOE5 := hid (HOE.out.kept (noGrow hb) (Classical.em _))
    clear hown hb HOB4 HOE
    obtain ⟨a0, a1, a2, a3, a4, g0, g1, g2, g3, g4⟩ := rowN5 HT5.out.x
    try dsimp only
    refine hK.out _ _ (fun _ => HT5.out) (fun hHeld => ?_)
    have HS10 := hid (hHeld (by kernel_rfl))
    clear hHeld hK K
    refine wpTill_ready (rs := [10]) (by kernel_rfl) (by decide) ?_
    refine AllTill.consH (o := ?oi11) ?ho11 (fun K hK => ?step11) ?more11
    case ho11 => rfl
    case step11 =>
     go_simp
     refine hK.out _ _ (fun hk => by cases (show true = false from hk)) (fun _ => ?_)
     clear hK K
     refine wpTill_any 11 (oi := ?oi12) (v := ?v12) ?ho12 (by kernel_rfl) (by kernel_rfl) (by kernel_rfl) (by kernel_rfl) ?hq12 (Or.inl ⟨?hw12, ?hy12⟩) (fun hk => by cases (show true = false from hk)) ?rest12
     case ho12 => rfl
     case hw12 => rfl
     case hy12 => intro w; go_simp; try with_reducible rfl
     case hq12 => exact fun _ _ _ h => h
     refine wpTill_ready (rs := [12]) (by kernel_rfl) (by decide) ?_
     refine AllTill.consH (o := ?oi13) ?ho13 (fun K hK => ?step13) ?more13
     case ho13 => rfl
     case step13 =>
      go_simp
      refine hK.out _ _ (fun hk => by cases (show true = false from hk)) (fun _ => ?_)
      clear hK K
      refine wpTill_any 13 (oi := ?oi14) (v := ?v14) ?ho14 (by kernel_rfl) (by kernel_rfl) (by kernel_rfl) (by kernel_rfl) ?hq14 (Or.inl ⟨?hw14, ?hy14⟩) (fun hk => by cases (show true = false from hk)) ?rest14
      case ho14 => rfl
      case hw14 => rfl
      case hy14 => intro w; go_simp; try with_reducible rfl
      case hq14 => exact fun _ _ _ h => h
      refine wpTill_ready (rs := [14]) (by kernel_rfl) (by decide) ?_
      refine AllTill.consH (o := ?oi15) ?ho15 (fun K hK => ?step15) ?more15
      case ho15 => rfl
      case step15 =>
       go_simp
       refine hK.out _ _ (fun hk => by cases (show true = false from hk)) (fun _ => ?_)
       clear hK K
       refine wpTill_done (by kernel_rfl) ?_ _
       obtain ⟨w6, hw6⟩ : ∃ u, ((w5.setCell ⟨H, 2, none⟩ (.slice vb vl vd)).setCell ⟨H, 3, none⟩ (.slice eb el ed)).setCell ⟨H, 4, none⟩ (.slice fb fl fd) = u := ⟨_, rfl⟩
       have HT6 : Hid (TB w H [.string xi, .string xn, .slice vb vl vd, .slice eb el ed, .slice fb fl fd] w6) := by show TB _ _ _ _; rw [← hw6]; exact ((HT5.out.set 2 _).set 3 _).set 4 _
       have hgs : w5.grownBy w6 (some H) := by rw [← hw6]; exact ((grownBy_set w5 H 2 _).trans (grownBy_set _ H 3 _)).trans (grownBy_set _ H 4 _)
       have HO1 := hid (HOB5.out.kept hgs (Or.inr (fun e => by have := (World.ownsRow.lt HOB5.out _ e).1; omega)))
       have HO2 := hid (HOE5.out.kept hgs (Or.inr (fun e => by have := (World.ownsRow.lt HOE5.out _ e).1; omega)))
       have HO3 := hid (HOF.out.kept hgs (Or.inr (fun e => by have := (World.ownsRow.lt HOF.out _ e).1; omega)))
       rw [hw6]
       clear hw6 hgs a0 a1 a2 a3 a4 g0 g1 g2 g3 g4
       obtain ⟨a0, a1, a2, a3, a4, -, -, -, -, -⟩ := rowN5 HT6.out.x
       obtain ⟨r0, r1, r2, r3, r4, s0, s1, s2, s3, s4⟩ := rowN5 HT6.out.r
       go_wp2_with fail
       have HD := TB.done (x := ⟨xi, xn, xv, xe, xf⟩) HT6.out (Nat.le_refl _) (by rw [HVL.out]; exact HO1.out) (by rw [HEL.out]; exact HO2.out) (by rw [HFL.out]; exact HO3.out)
       exact bodyPost_ret (v := .agg #[.string xi, .string xn, .slice vb vl vd, .slice eb el ed, .slice fb fl fd]) (results_cell_row rfl _ _ (H + 1) 30 _ (0, 0) _ rfl HD.2 Tryz.underlying30 rfl sizeModelS) rfl HD.1
      case more15 =>
       exact AllTill.nil
     case more13 =>
      exact AllTill.nil
    case more11 =>
     exact AllTill.nil
   case more10 =>
    exact AllTill.nil
  case more9 =>
   exact AllTill.nil
 case more7 =>
  exact AllTill.nil
end Go.Proofs.YteejphiklpnjhaaGreatDoor
