/- spoil; what stands in ModelSame. -/
import Derived.Test.YteejphiklpnjhaaGreatDoorOA6
import Derived.Test.YteejphiklpnjhaaGreatDoorOA7
import Derived.Test.YteejphiklpnjhaaGreatDoorMJ7
import Derived.Deep.AppendLies
namespace Go.Proofs.YteejphiklpnjhaaGreatDoor
set_option maxRecDepth 100000
set_option maxHeartbeats 16000000
open Go.RowKit Go.Maps
open Go.Lib (hid)
theorem own_at {w : World} {B g : Nat} {e : TypeId} {size n : Nat} {v : Value} {xs : List Value} (h : w.ownsRow B e size v n xs) (hg : v.ownBlock = some g) : ∃ c, w.heap[g]? = some (.cells c e (0, 0)) := by
 rcases h.2 with ⟨rfl, _⟩ | ⟨g', cap, cur, rfl, hB, hr, _⟩
 · cases hg
 · cases hg; exact ⟨_, hr⟩
theorem own_apart {w : World} {B B' : Nat} {e e' : TypeId} {size n size' n' : Nat} {v v' : Value} {xs xs' : List Value} (h : w.ownsRow B e size v n xs) (h' : w.ownsRow B' e' size' v' n' xs') (hne : e ≠ e') : v.ownBlock = none ∨ v.ownBlock ≠ v'.ownBlock := by
 rcases ho : v.ownBlock with _ | R
 · exact Or.inl rfl
 · refine Or.inr (fun h2 => ?_)
   obtain ⟨c1, h3⟩ := own_at h ho
   obtain ⟨c2, h4⟩ := own_at h' h2.symm
   rw [h3] at h4
   injection h4 with h4
   injection h4 with _ h4 _
   exact hne h4
structure SQ (W : World) (H B : Nat) (cs : List Value) (v e f : Value) (nv ne nf : Nat) (pv pe pf : Option Nat) (av ae af : Bool) (w : World) : Prop where
 h : W.heap.size = H
 sz : H + 1 ≤ w.heap.size
 os : w.os = W.os
 tape : w.tape = W.tape
 output : w.output = W.output
 x : w.heap[H]? = some (.cells cs.toArray 30 (0, 0))
 k : ∀ b, b < H → some b ≠ v.ownBlock → some b ≠ e.ownBlock → some b ≠ f.ownBlock → w.heap[b]? = W.heap[b]?
 b : B ≤ H
 lv : ∀ j, v.ownBlock = some j → j < H
 rv : av = false → ∃ xs, w.ownsRow B 51 5 v nv xs
 zv : ∀ p, pv = some p → H < p ∧ (av = false → w.heap[p]? = some (.cells #[.string ⟨#[]⟩, .int .u8 0, .int .i64 0, .bool false, .string ⟨#[]⟩] 51 (0, 0)))
 le : ∀ j, e.ownBlock = some j → j < H
 re : ae = false → ∃ xs, w.ownsRow B 36 11 e ne xs
 ze : ∀ p, pe = some p → H < p ∧ (ae = false → w.heap[p]? = some (.cells #[.string ⟨#[]⟩, .string ⟨#[]⟩, .int .u8 0, .string ⟨#[]⟩, .string ⟨#[]⟩, .string ⟨#[]⟩, .int .u8 0, .string ⟨#[]⟩, .string ⟨#[]⟩, .int .i64 0, .int .i64 0] 36 (0, 0)))
 lf : ∀ j, f.ownBlock = some j → j < H
 rf : af = false → ∃ xs, w.ownsRow B 53 4 f nf xs
 zf : ∀ p, pf = some p → H < p ∧ (af = false → w.heap[p]? = some (.cells #[.string ⟨#[]⟩, .string ⟨#[]⟩, .string ⟨#[]⟩, .string ⟨#[]⟩] 53 (0, 0)))
section
variable {W w w' : World} {H B : Nat} {cs : List Value} {v e f : Value} {nv ne nf : Nat} {pv pe pf : Option Nat} {av ae af : Bool}
theorem SQ.below (h : SQ W H B cs v e f nv ne nf pv pe pf av ae af w) (hb : Below w.heap.size w w') : SQ W H B cs v e f nv ne nf pv pe pf av ae af w' :=
 ⟨h.h, Nat.le_trans h.sz hb.size, hb.os.trans h.os, hb.tape.trans h.tape, hb.output.trans h.output, (hb.block _ h.sz).trans h.x, fun b h1 h2 h3 h4 => (hb.block b (by have := h.sz; omega)).trans (h.k b h1 h2 h3 h4), h.b,
  h.lv, fun ha => (by obtain ⟨xs, hx⟩ := h.rv ha; exact ⟨xs, hx.kept (noGrow hb) (Classical.em _)⟩), fun p hp => ⟨(h.zv p hp).1, fun ha => (hb.block _ (Go.lt_of_block ((h.zv p hp).2 ha))).trans ((h.zv p hp).2 ha)⟩,
  h.le, fun ha => (by obtain ⟨xs, hx⟩ := h.re ha; exact ⟨xs, hx.kept (noGrow hb) (Classical.em _)⟩), fun p hp => ⟨(h.ze p hp).1, fun ha => (hb.block _ (Go.lt_of_block ((h.ze p hp).2 ha))).trans ((h.ze p hp).2 ha)⟩,
  h.lf, fun ha => (by obtain ⟨xs, hx⟩ := h.rf ha; exact ⟨xs, hx.kept (noGrow hb) (Classical.em _)⟩), fun p hp => ⟨(h.zf p hp).1, fun ha => (hb.block _ (Go.lt_of_block ((h.zf p hp).2 ha))).trans ((h.zf p hp).2 ha)⟩⟩
theorem SQ.newB (h : SQ W H B cs v e f nv ne nf pv pe pf av ae af w) : SQ W H B cs v e f nv ne nf (some w.heap.size) pe pf av ae af (w.alloc (.cells #[.string ⟨#[]⟩, .int .u8 0, .int .i64 0, .bool false, .string ⟨#[]⟩] 51)) := by
 have h2 := h.below ((Below.refl w.heap.size w).alloc (Nat.le_refl _) (.cells #[.string ⟨#[]⟩, .int .u8 0, .int .i64 0, .bool false, .string ⟨#[]⟩] 51))
 exact { h2 with zv := fun p hp => (by obtain rfl := Option.some.inj hp; exact ⟨h.sz, fun _ => heap_alloc_new w _⟩) }
theorem SQ.pastB (h : SQ W H B cs v e f nv ne nf pv pe pf false ae af w) (hg : w.grownBy w' v.ownBlock) (a' : Bool) (hr : a' = false → ∃ xs, w'.ownsRow B 51 5 v nv xs) : SQ W H B cs v e f nv ne nf pv pe pf a' ae af w' := by
 obtain ⟨xs, hx⟩ := h.rv rfl
 have hs := h.sz
 have hf : ∀ b, H ≤ b → some b ≠ v.ownBlock := fun b hb e => by have := h.lv b e.symm; omega
 refine ⟨h.h, Nat.le_trans hs hg.size, hg.os.trans h.os, hg.tape.trans h.tape, hg.output.trans h.output, (hg.block _ hs (hf _ (Nat.le_refl _))).trans h.x, fun b h1 h2 h3 h4 => (hg.block b (by omega) h2).trans (h.k b h1 h2 h3 h4), h.b,
  h.lv, hr, fun p hp => ⟨(h.zv p hp).1, fun ha => (hg.block _ (Go.lt_of_block ((h.zv p hp).2 rfl)) (hf _ (Nat.le_of_lt (h.zv p hp).1))).trans ((h.zv p hp).2 rfl)⟩,
  h.le, fun ha => (by obtain ⟨ys, hy⟩ := h.re ha; exact ⟨ys, hy.kept hg (own_apart hy hx (by decide))⟩), fun p hp => ⟨(h.ze p hp).1, fun ha => (hg.block _ (Go.lt_of_block ((h.ze p hp).2 ha)) (hf _ (Nat.le_of_lt (h.ze p hp).1))).trans ((h.ze p hp).2 ha)⟩,
  h.lf, fun ha => (by obtain ⟨ys, hy⟩ := h.rf ha; exact ⟨ys, hy.kept hg (own_apart hy hx (by decide))⟩), fun p hp => ⟨(h.zf p hp).1, fun ha => (hg.block _ (Go.lt_of_block ((h.zf p hp).2 ha)) (hf _ (Nat.le_of_lt (h.zf p hp).1))).trans ((h.zf p hp).2 ha)⟩⟩
theorem SQ.newE (h : SQ W H B cs v e f nv ne nf pv pe pf av ae af w) : SQ W H B cs v e f nv ne nf pv (some w.heap.size) pf av ae af (w.alloc (.cells #[.string ⟨#[]⟩, .string ⟨#[]⟩, .int .u8 0, .string ⟨#[]⟩, .string ⟨#[]⟩, .string ⟨#[]⟩, .int .u8 0, .string ⟨#[]⟩, .string ⟨#[]⟩, .int .i64 0, .int .i64 0] 36)) := by
 have h2 := h.below ((Below.refl w.heap.size w).alloc (Nat.le_refl _) (.cells #[.string ⟨#[]⟩, .string ⟨#[]⟩, .int .u8 0, .string ⟨#[]⟩, .string ⟨#[]⟩, .string ⟨#[]⟩, .int .u8 0, .string ⟨#[]⟩, .string ⟨#[]⟩, .int .i64 0, .int .i64 0] 36))
 exact { h2 with ze := fun p hp => (by obtain rfl := Option.some.inj hp; exact ⟨h.sz, fun _ => heap_alloc_new w _⟩) }
theorem SQ.pastE (h : SQ W H B cs v e f nv ne nf pv pe pf av false af w) (hg : w.grownBy w' e.ownBlock) (a' : Bool) (hr : a' = false → ∃ xs, w'.ownsRow B 36 11 e ne xs) : SQ W H B cs v e f nv ne nf pv pe pf av a' af w' := by
 obtain ⟨xs, hx⟩ := h.re rfl
 have hs := h.sz
 have hf : ∀ b, H ≤ b → some b ≠ e.ownBlock := fun b hb e => by have := h.le b e.symm; omega
 refine ⟨h.h, Nat.le_trans hs hg.size, hg.os.trans h.os, hg.tape.trans h.tape, hg.output.trans h.output, (hg.block _ hs (hf _ (Nat.le_refl _))).trans h.x, fun b h1 h2 h3 h4 => (hg.block b (by omega) h3).trans (h.k b h1 h2 h3 h4), h.b,
  h.lv, fun ha => (by obtain ⟨ys, hy⟩ := h.rv ha; exact ⟨ys, hy.kept hg (own_apart hy hx (by decide))⟩), fun p hp => ⟨(h.zv p hp).1, fun ha => (hg.block _ (Go.lt_of_block ((h.zv p hp).2 ha)) (hf _ (Nat.le_of_lt (h.zv p hp).1))).trans ((h.zv p hp).2 ha)⟩,
  h.le, hr, fun p hp => ⟨(h.ze p hp).1, fun ha => (hg.block _ (Go.lt_of_block ((h.ze p hp).2 rfl)) (hf _ (Nat.le_of_lt (h.ze p hp).1))).trans ((h.ze p hp).2 rfl)⟩,
  h.lf, fun ha => (by obtain ⟨ys, hy⟩ := h.rf ha; exact ⟨ys, hy.kept hg (own_apart hy hx (by decide))⟩), fun p hp => ⟨(h.zf p hp).1, fun ha => (hg.block _ (Go.lt_of_block ((h.zf p hp).2 ha)) (hf _ (Nat.le_of_lt (h.zf p hp).1))).trans ((h.zf p hp).2 ha)⟩⟩
theorem SQ.newF (h : SQ W H B cs v e f nv ne nf pv pe pf av ae af w) : SQ W H B cs v e f nv ne nf pv pe (some w.heap.size) av ae af (w.alloc (.cells #[.string ⟨#[]⟩, .string ⟨#[]⟩, .string ⟨#[]⟩, .string ⟨#[]⟩] 53)) := by
 have h2 := h.below ((Below.refl w.heap.size w).alloc (Nat.le_refl _) (.cells #[.string ⟨#[]⟩, .string ⟨#[]⟩, .string ⟨#[]⟩, .string ⟨#[]⟩] 53))
 exact { h2 with zf := fun p hp => (by obtain rfl := Option.some.inj hp; exact ⟨h.sz, fun _ => heap_alloc_new w _⟩) }
theorem SQ.pastF (h : SQ W H B cs v e f nv ne nf pv pe pf av ae false w) (hg : w.grownBy w' f.ownBlock) (a' : Bool) (hr : a' = false → ∃ xs, w'.ownsRow B 53 4 f nf xs) : SQ W H B cs v e f nv ne nf pv pe pf av ae a' w' := by
 obtain ⟨xs, hx⟩ := h.rf rfl
 have hs := h.sz
 have hf : ∀ b, H ≤ b → some b ≠ f.ownBlock := fun b hb e => by have := h.lf b e.symm; omega
 refine ⟨h.h, Nat.le_trans hs hg.size, hg.os.trans h.os, hg.tape.trans h.tape, hg.output.trans h.output, (hg.block _ hs (hf _ (Nat.le_refl _))).trans h.x, fun b h1 h2 h3 h4 => (hg.block b (by omega) h4).trans (h.k b h1 h2 h3 h4), h.b,
  h.lv, fun ha => (by obtain ⟨ys, hy⟩ := h.rv ha; exact ⟨ys, hy.kept hg (own_apart hy hx (by decide))⟩), fun p hp => ⟨(h.zv p hp).1, fun ha => (hg.block _ (Go.lt_of_block ((h.zv p hp).2 ha)) (hf _ (Nat.le_of_lt (h.zv p hp).1))).trans ((h.zv p hp).2 ha)⟩,
  h.le, fun ha => (by obtain ⟨ys, hy⟩ := h.re ha; exact ⟨ys, hy.kept hg (own_apart hy hx (by decide))⟩), fun p hp => ⟨(h.ze p hp).1, fun ha => (hg.block _ (Go.lt_of_block ((h.ze p hp).2 ha)) (hf _ (Nat.le_of_lt (h.ze p hp).1))).trans ((h.ze p hp).2 ha)⟩,
  h.lf, hr, fun p hp => ⟨(h.zf p hp).1, fun ha => (hg.block _ (Go.lt_of_block ((h.zf p hp).2 rfl)) (hf _ (Nat.le_of_lt (h.zf p hp).1))).trans ((h.zf p hp).2 rfl)⟩⟩
theorem SQ.drew (h : SQ W H B cs v e f nv ne nf pv pe pf av ae af w) : SQ W H B cs v e f nv ne nf pv pe pf av ae af w.drew := h.below (Below.refl _ _).drew
end
theorem sq_first {W : World} {B : Nat} {x : Mdl} {v e f : Value} (hB : B ≤ W.heap.size) (h1 : W.ownsRow B 51 5 v x.vs.length (rowB x.vs)) (h2 : W.ownsRow B 36 11 e x.es.length (rowE x.es)) (h3 : W.ownsRow B 53 4 f x.fs.length (rowF x.fs)) (cs : List Value) :
  SQ W W.heap.size B cs v e f x.vs.length x.es.length x.fs.length none none none false false false (W.alloc (.cells cs.toArray 30)) := by
 have hb := (Below.refl W.heap.size W).alloc (Nat.le_refl _) (.cells cs.toArray 30)
 refine ⟨rfl, by simp, rfl, rfl, rfl, heap_alloc_new W _, fun b h _ _ _ => hb.block b h, hB, fun j hj => (World.ownsRow.lt h1 j hj).2, fun _ => ⟨_, h1.alloc _⟩, (fun p hp => by cases hp), fun j hj => (World.ownsRow.lt h2 j hj).2, fun _ => ⟨_, h2.alloc _⟩, (fun p hp => by cases hp), fun j hj => (World.ownsRow.lt h3 j hj).2, fun _ => ⟨_, h3.alloc _⟩, (fun p hp => by cases hp)⟩
def SpOf (v e f : Value) (W : World) (en : Ending) (w : World) : Prop :=
 (∃ k : Int, 0 < k ∧ en = .returned (.int .i64 k)) ∧ W.heap.size ≤ w.heap.size ∧ w.os = W.os ∧ w.tape = W.tape ∧ w.output = W.output ∧ ∀ b, b < W.heap.size → some b ≠ v.ownBlock → some b ≠ e.ownBlock → some b ≠ f.ownBlock → w.heap[b]? = W.heap[b]?
theorem oneB : ∀ u ∈ ([.string ⟨#[]⟩, .int .u8 0, .int .i64 0, .bool false, .string ⟨#[]⟩] : List Value), u.oneCell' = true := by
 intro u hu
 simp only [List.mem_cons, List.not_mem_nil, or_false] at hu
 rcases hu with rfl | rfl | rfl | rfl | rfl <;> rfl
theorem oneE : ∀ u ∈ ([.string ⟨#[]⟩, .string ⟨#[]⟩, .int .u8 0, .string ⟨#[]⟩, .string ⟨#[]⟩, .string ⟨#[]⟩, .int .u8 0, .string ⟨#[]⟩, .string ⟨#[]⟩, .int .i64 0, .int .i64 0] : List Value), u.oneCell' = true := by
 intro u hu
 simp only [List.mem_cons, List.not_mem_nil, or_false] at hu
 rcases hu with rfl | rfl | rfl | rfl | rfl | rfl | rfl | rfl | rfl | rfl | rfl <;> rfl
theorem oneF : ∀ u ∈ ([.string ⟨#[]⟩, .string ⟨#[]⟩, .string ⟨#[]⟩, .string ⟨#[]⟩] : List Value), u.oneCell' = true := by
 intro u hu
 simp only [List.mem_cons, List.not_mem_nil, or_false] at hu
 rcases hu with rfl | rfl | rfl | rfl <;> rfl
theorem growB {W w : World} {H B : Nat} {cs : List Value} {e f : Value} {ne nf : Nat} {pe pf : Option Nat} {ae af : Bool} {xa : Option Addr} {xn xc P : Nat} {ops : Array Oper} {o : Oper} {a : Act} {K : Act → World → Prop} {Q : Exit → Act → World → Prop} {E : Prop} (hgd : o.guard = none) (s x : Operand)
  (ho : o.op = .call { callee := .builtin .append, args := #[s, x], argTypes := #[26, 26] }) (hs : a.eval s = .slice xa xn xc) (hx : a.eval x = .slice (some ⟨P, 0, none⟩) 1 1) (h : SQ W H B cs (.slice xa xn xc) e f xn ne nf (some P) pe pf false ae af w) (hn : xn ≤ 2000)
  (hK : ∀ g cap w', SQ W H B cs (.slice xa xn xc) e f xn ne nf (some P) pe pf true ae af w' → K (a.put o.dst (.slice (some ⟨g, 0, none⟩) (xn + 1) cap)) w') : if Region.wanted o (yielded ops a.tmps) = true then Oper.wp Tryz.prog o a w K Q else E := by
 obtain ⟨i0, hi, hz0, hz1, hz2⟩ := info_parts infoBs
 obtain ⟨ys, hys⟩ := h.rv rfl
 refine step_append_lies w hgd s x 26 ho B 51 i0 _ 5 56 Tryz.underlying26 hi hz0 hz1 hz2 rfl (by decide) _ xn ys hs hys ⟨P, 0, none⟩ 1 1 [.string ⟨#[]⟩, .int .u8 0, .int .i64 0, .bool false, .string ⟨#[]⟩] hx rfl (World.news_of_block ((h.zv _ rfl).2 rfl)) oneB (by decide) (by unfold maxLen; omega) (by omega) (Nat.le_trans h.b (Nat.le_of_succ_le h.sz)) _ rfl ?_
 intro g cap w' hown hgrow _ _
 exact hK g cap w' (h.pastB hgrow true (fun h => by cases h))
theorem putB {W w w' : World} {H B P : Nat} {cs : List Value} {v e f : Value} {nv ne nf : Nat} {pv pe pf : Option Nat} {av ae af : Bool} (h : SQ W H B cs v e f nv ne nf pv pe pf av ae af w) (hP : w.heap.size = P) (hw : w.alloc (.cells #[.string ⟨#[]⟩, .int .u8 0, .int .i64 0, .bool false, .string ⟨#[]⟩] 51) = w') : SQ W H B cs v e f nv ne nf (some P) pe pf av ae af w' := by
 subst hP hw; exact h.newB
theorem growE {W w : World} {H B : Nat} {cs : List Value} {v f : Value} {nv nf : Nat} {pv pf : Option Nat} {av af : Bool} {xa : Option Addr} {xn xc P : Nat} {ops : Array Oper} {o : Oper} {a : Act} {K : Act → World → Prop} {Q : Exit → Act → World → Prop} {E : Prop} (hgd : o.guard = none) (s x : Operand)
  (ho : o.op = .call { callee := .builtin .append, args := #[s, x], argTypes := #[27, 27] }) (hs : a.eval s = .slice xa xn xc) (hx : a.eval x = .slice (some ⟨P, 0, none⟩) 1 1) (h : SQ W H B cs v (.slice xa xn xc) f nv xn nf pv (some P) pf av false af w) (hn : xn ≤ 2000)
  (hK : ∀ g cap w', SQ W H B cs v (.slice xa xn xc) f nv xn nf pv (some P) pf av true af w' → K (a.put o.dst (.slice (some ⟨g, 0, none⟩) (xn + 1) cap)) w') : if Region.wanted o (yielded ops a.tmps) = true then Oper.wp Tryz.prog o a w K Q else E := by
 obtain ⟨i0, hi, hz0, hz1, hz2⟩ := info_parts infoEs
 obtain ⟨ys, hys⟩ := h.re rfl
 refine step_append_lies w hgd s x 27 ho B 36 i0 _ 11 144 Tryz.underlying27 hi hz0 hz1 hz2 rfl (by decide) _ xn ys hs hys ⟨P, 0, none⟩ 1 1 [.string ⟨#[]⟩, .string ⟨#[]⟩, .int .u8 0, .string ⟨#[]⟩, .string ⟨#[]⟩, .string ⟨#[]⟩, .int .u8 0, .string ⟨#[]⟩, .string ⟨#[]⟩, .int .i64 0, .int .i64 0] hx rfl (World.news_of_block ((h.ze _ rfl).2 rfl)) oneE (by decide) (by unfold maxLen; omega) (by omega) (Nat.le_trans h.b (Nat.le_of_succ_le h.sz)) _ rfl ?_
 intro g cap w' hown hgrow _ _
 exact hK g cap w' (h.pastE hgrow true (fun h => by cases h))
theorem putE {W w w' : World} {H B P : Nat} {cs : List Value} {v e f : Value} {nv ne nf : Nat} {pv pe pf : Option Nat} {av ae af : Bool} (h : SQ W H B cs v e f nv ne nf pv pe pf av ae af w) (hP : w.heap.size = P) (hw : w.alloc (.cells #[.string ⟨#[]⟩, .string ⟨#[]⟩, .int .u8 0, .string ⟨#[]⟩, .string ⟨#[]⟩, .string ⟨#[]⟩, .int .u8 0, .string ⟨#[]⟩, .string ⟨#[]⟩, .int .i64 0, .int .i64 0] 36) = w') : SQ W H B cs v e f nv ne nf pv (some P) pf av ae af w' := by
 subst hP hw; exact h.newE
theorem growF {W w : World} {H B : Nat} {cs : List Value} {v e : Value} {nv ne : Nat} {pv pe : Option Nat} {av ae : Bool} {xa : Option Addr} {xn xc P : Nat} {ops : Array Oper} {o : Oper} {a : Act} {K : Act → World → Prop} {Q : Exit → Act → World → Prop} {E : Prop} (hgd : o.guard = none) (s x : Operand)
  (ho : o.op = .call { callee := .builtin .append, args := #[s, x], argTypes := #[28, 28] }) (hs : a.eval s = .slice xa xn xc) (hx : a.eval x = .slice (some ⟨P, 0, none⟩) 1 1) (h : SQ W H B cs v e (.slice xa xn xc) nv ne xn pv pe (some P) av ae false w) (hn : xn ≤ 2000)
  (hK : ∀ g cap w', SQ W H B cs v e (.slice xa xn xc) nv ne xn pv pe (some P) av ae true w' → K (a.put o.dst (.slice (some ⟨g, 0, none⟩) (xn + 1) cap)) w') : if Region.wanted o (yielded ops a.tmps) = true then Oper.wp Tryz.prog o a w K Q else E := by
 obtain ⟨i0, hi, hz0, hz1, hz2⟩ := info_parts infoFs
 obtain ⟨ys, hys⟩ := h.rf rfl
 refine step_append_lies w hgd s x 28 ho B 53 i0 _ 4 64 Tryz.underlying28 hi hz0 hz1 hz2 rfl (by decide) _ xn ys hs hys ⟨P, 0, none⟩ 1 1 [.string ⟨#[]⟩, .string ⟨#[]⟩, .string ⟨#[]⟩, .string ⟨#[]⟩] hx rfl (World.news_of_block ((h.zf _ rfl).2 rfl)) oneF (by decide) (by unfold maxLen; omega) (by omega) (Nat.le_trans h.b (Nat.le_of_succ_le h.sz)) _ rfl ?_
 intro g cap w' hown hgrow _ _
 exact hK g cap w' (h.pastF hgrow true (fun h => by cases h))
theorem putF {W w w' : World} {H B P : Nat} {cs : List Value} {v e f : Value} {nv ne nf : Nat} {pv pe pf : Option Nat} {av ae af : Bool} (h : SQ W H B cs v e f nv ne nf pv pe pf av ae af w) (hP : w.heap.size = P) (hw : w.alloc (.cells #[.string ⟨#[]⟩, .string ⟨#[]⟩, .string ⟨#[]⟩, .string ⟨#[]⟩] 53) = w') : SQ W H B cs v e f nv ne nf pv pe (some P) av ae af w' := by
 subst hP hw; exact h.newF
theorem spoil_any {x : Mdl} {v e f : Value} {W : World} {B : Nat} (hB : B ≤ W.heap.size) (h1 : W.ownsRow B 51 5 v x.vs.length (rowB x.vs)) (h2 : W.ownsRow B 36 11 e x.es.length (rowE x.es)) (h3 : W.ownsRow B 53 4 f x.fs.length (rowF x.fs)) (hf : x.few) :
  Calls Tryz.prog 13 #[.agg #[.string x.id, .string x.nm, v, e, f]] W (SpOf v e f W) := by
 have hsq := sq_first hB h1 h2 h3 [.string x.id, .string x.nm, v, e, f]
 obtain ⟨va, vc, rfl⟩ := own_shape h1
 obtain ⟨ea, ec, rfl⟩ := own_shape h2
 obtain ⟨fa, fc, rfl⟩ := own_shape h3
 obtain ⟨xi, xn, xv, xe, xf⟩ := x
 unfold Mdl.few at hf
 simp only at hsq hf ⊢
 obtain ⟨vl, hvl⟩ : ∃ n, xv.length = n := ⟨_, rfl⟩
 obtain ⟨el, hel⟩ : ∃ n, xe.length = n := ⟨_, rfl⟩
 obtain ⟨fl, hfl⟩ : ∃ n, xf.length = n := ⟨_, rfl⟩
 rw [hvl, hel, hfl] at hsq hf ⊢
 have HFW : Hid (vl ≤ 2000 ∧ el ≤ 2000 ∧ fl ≤ 2000) := by show _ ∧ _ ∧ _; omega
 obtain ⟨H, hH⟩ : ∃ H, W.heap.size = H := ⟨_, rfl⟩
 obtain ⟨w2, hw2⟩ : ∃ u, W.alloc (.cells #[.string xi, .string xn, .slice va vl vc, .slice ea el ec, .slice fa fl fc] 30) = u := ⟨_, rfl⟩
 have HS0 : Hid (SQ W H B [.string xi, .string xn, .slice va vl vc, .slice ea el ec, .slice fa fl fc] (.slice va vl vc) (.slice ea el ec) (.slice fa fl fc) vl el fl none none none false false false w2) := by
  show SQ _ _ _ _ _ _ _ _ _ _ _ _ _ _ _ _ _
  rw [← hw2, ← hH]
  exact hsq
 have HW2 := hid hw2
 have HHE := hid hH
 clear h1 h2 h3 hB hsq hf hvl hel hfl hw2 hH
 obtain ⟨a0, a1, a2, a3, a4, -, -, -, -, -⟩ := rowN5 HS0.out.x
 go_enter Tryz.func13, Tryz.ntmps13
 go_upto_region 1 with fail
 rw [HW2.out, HHE.out]
 clear HW2
 go_wp2_with fail
 clear a0 a1 a2 a3 a4
 go_loopw [3] (fun vi wr => ∃ (i : Nat), vi = .int .i64 i ∧ i ≤ vl ∧ Hid (SQ W H B [.string xi, .string xn, .slice va vl vc, .slice ea el ec, .slice fa fl fc] (.slice va vl vc) (.slice ea el ec) (.slice fa fl fc) vl el fl none none none false false false wr)) (fun vi _ => vl - (intOf vi).toNat)
 case atStart => exact ⟨0, rfl, Nat.zero_le _, HS0⟩
 case round =>
  obtain ⟨i, rfl, hi, HS⟩ := hrel
  obtain ⟨a0, a1, a2, a3, a4, -, -, -, -, -⟩ := rowN5 HS.out.x
  by_cases hlt : i < vl
  · have t0 : decide ((i : Int) < (vl : Int)) = true := decide_eq_true (by omega)
    have t0' : decide (i < vl) = true := decide_eq_true (by omega)
    have hi0 : (0 : Int) ≤ (i : Int) := by omega
    have hi1 : (i : Int) < (vl : Int) := by omega
    obtain ⟨xs, hxs⟩ := HS.out.rv rfl
    obtain ⟨g, cap, hv, hBg, hgl⟩ := hxs.form (by omega)
    simp only [Value.slice.injEq, true_and] at hv
    obtain ⟨rfl, rfl⟩ := hv
    have hxl := hxs.1
    obtain ⟨c, hc⟩ : ∃ c, xs[i * 5]? = some c := ⟨_, List.getElem?_eq_getElem (by rw [hxl]; have := Nat.mul_le_mul_right 5 (show i + 1 ≤ vl by omega); omega)⟩
    have c0 := (hxs.cellAt (i * 5) (by have := Nat.mul_le_mul_right 5 (show i + 1 ≤ vl by omega); omega)).trans hc
    have f0 := hxs.frozenAt (i * 5)
    have hst := hxs.stored (i * 5) (.string ⟨#[115, 112, 111, 105, 108, 116]⟩)
    have hlc : vl ≤ vc := by
     rcases hxs.2 with ⟨h, _⟩ | ⟨g', cap', cur, h, _, _, h2, _⟩
     · cases h
     · simp only [Value.slice.injEq] at h
       omega
    have HS2 : Hid (SQ W H B _ _ _ _ vl el fl none none none false false false (wr.setCell ⟨g, i * 5, none⟩ (.string ⟨#[115, 112, 111, 105, 108, 116]⟩))) := HS.out.pastB hst.2 false (fun _ => ⟨_, hst.1⟩)
    obtain ⟨i1, hi1'⟩ : ∃ i1, i + 1 = i1 := ⟨_, rfl⟩
    have hbd : vl ≤ 2000 := HFW.out.1
    have e1 : IntKind.i64.wrap ((i : Int) + 1) = (i1 : Int) := by rw [IntKind.wrap_i64] <;> omega
    have HI1 : Hid (i1 ≤ vl ∧ vl - i1 < vl - i) := ⟨by omega, by omega⟩
    clear hxs hBg hgl hxl hc hst hi1'
    go_wp2_with fail
    go_roundw
    case rel => exact ⟨i1, rfl, HI1.out.1, HS2⟩
    case measure => simpa [intOf] using HI1.out.2
  · have t0 : decide ((i : Int) < (vl : Int)) = false := decide_eq_false (by omega)
    have t0' : decide (i < vl) = false := decide_eq_false (by omega)
    have HS1 := hid HS.out
    clear hi hlt
    go_wp2_with fail
    clear a0 a1 a2 a3 a4 t0 t0' HS
    go_loopw [4] (fun vi wr => ∃ (i : Nat), vi = .int .i64 i ∧ i ≤ el ∧ Hid (SQ W H B [.string xi, .string xn, .slice va vl vc, .slice ea el ec, .slice fa fl fc] (.slice va vl vc) (.slice ea el ec) (.slice fa fl fc) vl el fl none none none false false false wr)) (fun vi _ => el - (intOf vi).toNat)
    case atStart => exact ⟨0, rfl, Nat.zero_le _, HS1⟩
    case round =>
     obtain ⟨i, rfl, hi, HS⟩ := hrel
     obtain ⟨a0, a1, a2, a3, a4, -, -, -, -, -⟩ := rowN5 HS.out.x
     by_cases hlt : i < el
     · have t0 : decide ((i : Int) < (el : Int)) = true := decide_eq_true (by omega)
       have t0' : decide (i < el) = true := decide_eq_true (by omega)
       have hi0 : (0 : Int) ≤ (i : Int) := by omega
       have hi1 : (i : Int) < (el : Int) := by omega
       obtain ⟨xs, hxs⟩ := HS.out.re rfl
       obtain ⟨g, cap, hv, hBg, hgl⟩ := hxs.form (by omega)
       simp only [Value.slice.injEq, true_and] at hv
       obtain ⟨rfl, rfl⟩ := hv
       have hxl := hxs.1
       obtain ⟨c, hc⟩ : ∃ c, xs[i * 11]? = some c := ⟨_, List.getElem?_eq_getElem (by rw [hxl]; have := Nat.mul_le_mul_right 11 (show i + 1 ≤ el by omega); omega)⟩
       have c0 := (hxs.cellAt (i * 11) (by have := Nat.mul_le_mul_right 11 (show i + 1 ≤ el by omega); omega)).trans hc
       have f0 := hxs.frozenAt (i * 11)
       have hst := hxs.stored (i * 11) (.string ⟨#[115, 112, 111, 105, 108, 116]⟩)
       have hlc : el ≤ ec := by
        rcases hxs.2 with ⟨h, _⟩ | ⟨g', cap', cur, h, _, _, h2, _⟩
        · cases h
        · simp only [Value.slice.injEq] at h
          omega
       have HS2 : Hid (SQ W H B _ _ _ _ vl el fl none none none false false false (wr.setCell ⟨g, i * 11, none⟩ (.string ⟨#[115, 112, 111, 105, 108, 116]⟩))) := HS.out.pastE hst.2 false (fun _ => ⟨_, hst.1⟩)
       obtain ⟨i1, hi1'⟩ : ∃ i1, i + 1 = i1 := ⟨_, rfl⟩
       have hbd : el ≤ 2000 := HFW.out.2.1
       have e1 : IntKind.i64.wrap ((i : Int) + 1) = (i1 : Int) := by rw [IntKind.wrap_i64] <;> omega
       have HI1 : Hid (i1 ≤ el ∧ el - i1 < el - i) := ⟨by omega, by omega⟩
       clear hxs hBg hgl hxl hc hst hi1'
       go_wp2_with fail
       go_roundw
       case rel => exact ⟨i1, rfl, HI1.out.1, HS2⟩
       case measure => simpa [intOf] using HI1.out.2
     · have t0 : decide ((i : Int) < (el : Int)) = false := decide_eq_false (by omega)
       have t0' : decide (i < el) = false := decide_eq_false (by omega)
       have HS2 := hid HS.out
       clear hi hlt
       go_wp2_with fail
       clear a0 a1 a2 a3 a4 t0 t0' HS
       go_loopw [5] (fun vi wr => ∃ (i : Nat), vi = .int .i64 i ∧ i ≤ fl ∧ Hid (SQ W H B [.string xi, .string xn, .slice va vl vc, .slice ea el ec, .slice fa fl fc] (.slice va vl vc) (.slice ea el ec) (.slice fa fl fc) vl el fl none none none false false false wr)) (fun vi _ => fl - (intOf vi).toNat)
       case atStart => exact ⟨0, rfl, Nat.zero_le _, HS2⟩
       case round =>
        obtain ⟨i, rfl, hi, HS⟩ := hrel
        obtain ⟨a0, a1, a2, a3, a4, -, -, -, -, -⟩ := rowN5 HS.out.x
        by_cases hlt : i < fl
        · have t0 : decide ((i : Int) < (fl : Int)) = true := decide_eq_true (by omega)
          have t0' : decide (i < fl) = true := decide_eq_true (by omega)
          have hi0 : (0 : Int) ≤ (i : Int) := by omega
          have hi1 : (i : Int) < (fl : Int) := by omega
          obtain ⟨xs, hxs⟩ := HS.out.rf rfl
          obtain ⟨g, cap, hv, hBg, hgl⟩ := hxs.form (by omega)
          simp only [Value.slice.injEq, true_and] at hv
          obtain ⟨rfl, rfl⟩ := hv
          have hxl := hxs.1
          obtain ⟨c, hc⟩ : ∃ c, xs[i * 4 + 1]? = some c := ⟨_, List.getElem?_eq_getElem (by rw [hxl]; have := Nat.mul_le_mul_right 4 (show i + 1 ≤ fl by omega); omega)⟩
          have c0 := (hxs.cellAt (i * 4 + 1) (by have := Nat.mul_le_mul_right 4 (show i + 1 ≤ fl by omega); omega)).trans hc
          have f0 := hxs.frozenAt (i * 4 + 1)
          have hst := hxs.stored (i * 4 + 1) (.string ⟨#[115, 112, 111, 105, 108, 116]⟩)
          have hlc : fl ≤ fc := by
           rcases hxs.2 with ⟨h, _⟩ | ⟨g', cap', cur, h, _, _, h2, _⟩
           · cases h
           · simp only [Value.slice.injEq] at h
             omega
          have HS2 : Hid (SQ W H B _ _ _ _ vl el fl none none none false false false (wr.setCell ⟨g, i * 4 + 1, none⟩ (.string ⟨#[115, 112, 111, 105, 108, 116]⟩))) := HS.out.pastF hst.2 false (fun _ => ⟨_, hst.1⟩)
          obtain ⟨i1, hi1'⟩ : ∃ i1, i + 1 = i1 := ⟨_, rfl⟩
          have hbd : fl ≤ 2000 := HFW.out.2.2
          have e1 : IntKind.i64.wrap ((i : Int) + 1) = (i1 : Int) := by rw [IntKind.wrap_i64] <;> omega
          have HI1 : Hid (i1 ≤ fl ∧ fl - i1 < fl - i) := ⟨by omega, by omega⟩
          clear hxs hBg hgl hxl hc hst hi1'
          go_wp2_with fail
          go_roundw
          case rel => exact ⟨i1, rfl, HI1.out.1, HS2⟩
          case measure => simpa [intOf] using HI1.out.2
        · have t0 : decide ((i : Int) < (fl : Int)) = false := decide_eq_false (by omega)
          have t0' : decide (i < fl) = false := decide_eq_false (by omega)
          have HS3 := hid HS.out
          clear hi hlt
          go_upto_region 13 with fail
          clear a0 a1 a2 a3 a4 t0 t0' HS
          have HZ0 : Hid (SQ W H B _ _ _ _ vl el fl none none none false false false wr.drew) := HS3.out.drew
          refine wp_region_till (S := (fun U : World => U.heap[H]? = some (.cells #[.string xi, .string xn, .slice va vl vc, .slice ea el ec, .slice fa fl fc] 30 (0, 0)))) 14 (by kernel_rfl) ?_
          have HS := hid (show ((fun U : World => U.heap[H]? = some (.cells #[.string xi, .string xn, .slice va vl vc, .slice ea el ec, .slice fa fl fc] 30 (0, 0)))) _ from HZ0.out.x)
          generalize World.drew wr = y0 at HS HZ0 ⊢
          refine wpTill_any 0 (oi := ?oi16) (v := ?v16) ?ho16 (by kernel_rfl) (by kernel_rfl) (by kernel_rfl) (by kernel_rfl) ?hq16 (Or.inl ⟨?hw16, ?hy16⟩) (fun _ => HS.out) ?rest16
          case ho16 => rfl
          case hw16 => rfl
          case hy16 => intro w; go_simp; try with_reducible rfl
          case hq16 => exact fun _ _ _ h => h
          refine wpTill_any 2 (oi := ?oi17) (v := ?v17) ?ho17 (by kernel_rfl) (by kernel_rfl) (by kernel_rfl) (by kernel_rfl) ?hq17 (Or.inl ⟨?hw17, ?hy17⟩) (fun _ => HS.out) ?rest17
          case ho17 => rfl
          case hw17 => rfl
          case hy17 => intro w; go_simp; try with_reducible rfl
          case hq17 => exact fun _ _ _ h => h
          refine wpTill_any 5 (oi := ?oi18) (v := ?v18) ?ho18 (by kernel_rfl) (by kernel_rfl) (by kernel_rfl) (by kernel_rfl) ?hq18 (Or.inl ⟨?hw18, ?hy18⟩) (fun _ => HS.out) ?rest18
          case ho18 => rfl
          case hw18 => rfl
          case hy18 => intro w; go_simp; try with_reducible rfl
          case hq18 => exact fun _ _ _ h => h
          refine wpTill_any 7 (oi := ?oi19) (v := ?v19) ?ho19 (by kernel_rfl) (by kernel_rfl) (by kernel_rfl) (by kernel_rfl) ?hq19 (Or.inl ⟨?hw19, ?hy19⟩) (fun _ => HS.out) ?rest19
          case ho19 => rfl
          case hw19 => rfl
          case hy19 => intro w; go_simp; try with_reducible rfl
          case hq19 => exact fun _ _ _ h => h
          refine wpTill_any 10 (oi := ?oi20) (v := ?v20) ?ho20 (by kernel_rfl) (by kernel_rfl) (by kernel_rfl) (by kernel_rfl) ?hq20 (Or.inl ⟨?hw20, ?hy20⟩) (fun _ => HS.out) ?rest20
          case ho20 => rfl
          case hw20 => rfl
          case hy20 => intro w; go_simp; try with_reducible rfl
          case hq20 => exact fun _ _ _ h => h
          refine wpTill_any 12 (oi := ?oi21) (v := ?v21) ?ho21 (by kernel_rfl) (by kernel_rfl) (by kernel_rfl) (by kernel_rfl) ?hq21 (Or.inl ⟨?hw21, ?hy21⟩) (fun _ => HS.out) ?rest21
          case ho21 => rfl
          case hw21 => rfl
          case hy21 => intro w; go_simp; try with_reducible rfl
          case hq21 => exact fun _ _ _ h => h
          refine wpTill_load 1 [1, 4, 9, 14] (oi := ?oi22) (v := ?v22) ?ho22 (by kernel_rfl) (by kernel_rfl) (by kernel_rfl) (by kernel_rfl) ?hq22 (Or.inl ⟨?hw22, ?hy22⟩) HS.out ?rest22
          case ho22 => rfl
          case hw22 => rfl
          case hy22 =>
           intro w hSw
           obtain ⟨a0, a1, a2, a3, a4, -, -, -, -, -⟩ := rowN5 hSw
           clear hSw
           go_simp
           try with_reducible rfl
          case hq22 => exact fun _ _ _ h => h
          refine wpTill_load 6 [6, 9, 14] (oi := ?oi23) (v := ?v23) ?ho23 (by kernel_rfl) (by kernel_rfl) (by kernel_rfl) (by kernel_rfl) ?hq23 (Or.inl ⟨?hw23, ?hy23⟩) HS.out ?rest23
          case ho23 => rfl
          case hw23 => rfl
          case hy23 =>
           intro w hSw
           obtain ⟨a0, a1, a2, a3, a4, -, -, -, -, -⟩ := rowN5 hSw
           clear hSw
           go_simp
           try with_reducible rfl
          case hq23 => exact fun _ _ _ h => h
          refine wpTill_load 11 [11, 14] (oi := ?oi24) (v := ?v24) ?ho24 (by kernel_rfl) (by kernel_rfl) (by kernel_rfl) (by kernel_rfl) ?hq24 (Or.inl ⟨?hw24, ?hy24⟩) HS.out ?rest24
          case ho24 => rfl
          case hw24 => rfl
          case hy24 =>
           intro w hSw
           obtain ⟨a0, a1, a2, a3, a4, -, -, -, -, -⟩ := rowN5 hSw
           clear hSw
           go_simp
           try with_reducible rfl
          case hq24 => exact fun _ _ _ h => h
          refine wpTill_ready (rs := [3, 8, 13]) (by kernel_rfl) (by decide) ?_
          refine AllTill.consH (o := ?oi25) ?ho25 (fun K hK => ?step25) ?more25
          case ho25 => rfl
          case step25 =>
           go_simp
           obtain ⟨P0, hP⟩ : ∃ P, y0.heap.size = P := ⟨_, rfl⟩
           obtain ⟨y1, hy⟩ : ∃ u, y0.alloc (.cells #[.string ⟨#[]⟩, .int .u8 0, .int .i64 0, .bool false, .string ⟨#[]⟩] 51) = u := ⟨_, rfl⟩
           have HZ1 := hid (putB HZ0.out hP hy)
           rw [hP, hy]
           clear hP hy
           refine hK.out _ _ (fun _ => HZ1.out.x) (fun hHeld => ?_)
           have HS25 := hid (hHeld (by kernel_rfl))
           clear hHeld hK K
           refine wpTill_ready (rs := [4, 8, 13]) (by kernel_rfl) (by decide) ?_
           refine AllTill.consH (o := ?oi26) ?ho26 (fun K hK => ?step26) ?more26
           case ho26 => rfl
           case step26 =>
             refine growB rfl (.tmp 46) (.tmp 48) rfl rfl rfl HZ1.out HFW.out.1 ?_
             intro g1 c1 y2 hz
             have HZ2 := hid hz
             clear hz
             try dsimp only
             refine hK.out _ _ (fun _ => HZ2.out.x) (fun hHeld => ?_)
             have HS26 := hid (hHeld (by kernel_rfl))
             clear hHeld hK K
             refine wpTill_ready (rs := [8, 13]) (by kernel_rfl) (by decide) ?_
             refine AllTill.consH (o := ?oi27) ?ho27 (fun K hK => ?step27) ?more27
             case ho27 => rfl
             case step27 =>
              go_simp
              obtain ⟨P1, hP⟩ : ∃ P, y2.heap.size = P := ⟨_, rfl⟩
              obtain ⟨y3, hy⟩ : ∃ u, y2.alloc (.cells #[.string ⟨#[]⟩, .string ⟨#[]⟩, .int .u8 0, .string ⟨#[]⟩, .string ⟨#[]⟩, .string ⟨#[]⟩, .int .u8 0, .string ⟨#[]⟩, .string ⟨#[]⟩, .int .i64 0, .int .i64 0] 36) = u := ⟨_, rfl⟩
              have HZ3 := hid (putE HZ2.out hP hy)
              rw [hP, hy]
              clear hP hy
              refine hK.out _ _ (fun _ => HZ3.out.x) (fun hHeld => ?_)
              have HS27 := hid (hHeld (by kernel_rfl))
              clear hHeld hK K
              refine wpTill_ready (rs := [9, 13]) (by kernel_rfl) (by decide) ?_
              refine AllTill.consH (o := ?oi28) ?ho28 (fun K hK => ?step28) ?more28
              case ho28 => rfl
              case step28 =>
               refine growE rfl (.tmp 51) (.tmp 53) rfl rfl rfl HZ3.out HFW.out.2.1 ?_
               intro g3 c3 y4 hz
               have HZ4 := hid hz
               clear hz
               try dsimp only
               refine hK.out _ _ (fun _ => HZ4.out.x) (fun hHeld => ?_)
               have HS28 := hid (hHeld (by kernel_rfl))
               clear hHeld hK K
               refine wpTill_ready (rs := [13]) (by kernel_rfl) (by decide) ?_
               refine AllTill.consH (o := ?oi29) ?ho29 (fun K hK => ?step29) ?more29
               case ho29 => rfl
               case step29 =>
                go_simp
                obtain ⟨P2, hP⟩ : ∃ P, y4.heap.size = P := ⟨_, rfl⟩
                obtain ⟨y5, hy⟩ : ∃ u, y4.alloc (.cells #[.string ⟨#[]⟩, .string ⟨#[]⟩, .string ⟨#[]⟩, .string ⟨#[]⟩] 53) = u := ⟨_, rfl⟩
                have HZ5 := hid (putF HZ4.out hP hy)
                rw [hP, hy]
                clear hP hy
                refine hK.out _ _ (fun _ => HZ5.out.x) (fun hHeld => ?_)
                have HS29 := hid (hHeld (by kernel_rfl))
                clear hHeld hK K
                refine wpTill_ready (rs := [14]) (by kernel_rfl) (by decide) ?_
                refine AllTill.consH (o := ?oi30) ?ho30 (fun K hK => ?step30) ?more30
                case ho30 => rfl
                case step30 =>
                 refine growF rfl (.tmp 56) (.tmp 58) rfl rfl rfl HZ5.out HFW.out.2.2 ?_
                 intro g5 c5 y6 hz
                 have HZ6 := hid hz
                 clear hz
                 try dsimp only
                 refine hK.out _ _ (fun hk => by cases (show true = false from hk)) (fun _ => ?_)
                 clear hK K
                 refine wpTill_any 15 (oi := ?oi31) (v := ?v31) ?ho31 (by kernel_rfl) (by kernel_rfl) (by kernel_rfl) (by kernel_rfl) ?hq31 (Or.inl ⟨?hw31, ?hy31⟩) (fun hk => by cases (show true = false from hk)) ?rest31
                 case ho31 => rfl
                 case hw31 => rfl
                 case hy31 => intro w; go_simp; try with_reducible rfl
                 case hq31 => exact fun _ _ _ h => h
                 refine wpTill_any 16 (oi := ?oi32) (v := ?v32) ?ho32 (by kernel_rfl) (by kernel_rfl) (by kernel_rfl) (by kernel_rfl) ?hq32 (Or.inl ⟨?hw32, ?hy32⟩) (fun hk => by cases (show true = false from hk)) ?rest32
                 case ho32 => rfl
                 case hw32 => rfl
                 case hy32 => intro w; go_simp; try with_reducible rfl
                 case hq32 => exact fun _ _ _ h => h
                 refine wpTill_any 17 (oi := ?oi33) (v := ?v33) ?ho33 (by kernel_rfl) (by kernel_rfl) (by kernel_rfl) (by kernel_rfl) ?hq33 (Or.inl ⟨?hw33, ?hy33⟩) (fun hk => by cases (show true = false from hk)) ?rest33
                 case ho33 => rfl
                 case hw33 => rfl
                 case hy33 => intro w; go_simp; try with_reducible rfl
                 case hq33 => exact fun _ _ _ h => h
                 refine wpTill_done (by kernel_rfl) ?_ _
                 have hbd := HFW.out
                 go_wp2_with fail
                 go_ret
                 exact ⟨⟨_, by first | omega | (have := HFW.out; omega), rfl⟩, by have h1 := HZ6.out.h; have h2 := HZ6.out.sz; omega, HZ6.out.os, HZ6.out.tape, HZ6.out.output, fun b hb h1 h2 h3 => HZ6.out.k b (by rw [← HZ6.out.h]; exact hb) h1 h2 h3⟩
                case more30 =>
                 exact AllTill.nil
               case more29 =>
                exact AllTill.nil
              case more28 =>
               refine AllTill.consH (o := ?oi34) ?ho34 (fun K hK => ?step34) ?more34
               case ho34 => rfl
               case step34 =>
                go_simp
                obtain ⟨P2, hP⟩ : ∃ P, y3.heap.size = P := ⟨_, rfl⟩
                obtain ⟨y4, hy⟩ : ∃ u, y3.alloc (.cells #[.string ⟨#[]⟩, .string ⟨#[]⟩, .string ⟨#[]⟩, .string ⟨#[]⟩] 53) = u := ⟨_, rfl⟩
                have HZ4 := hid (putF HZ3.out hP hy)
                rw [hP, hy]
                clear hP hy
                refine hK.out _ _ (fun _ => HZ4.out.x) (fun hHeld => ?_)
                have HS34 := hid (hHeld (by kernel_rfl))
                clear hHeld hK K
                refine wpTill_ready (rs := [9]) (by kernel_rfl) (by decide) ?_
                refine AllTill.consH (o := ?oi35) ?ho35 (fun K hK => ?step35) ?more35
                case ho35 => rfl
                case step35 =>
                 refine growE rfl (.tmp 51) (.tmp 53) rfl rfl rfl HZ4.out HFW.out.2.1 ?_
                 intro g4 c4 y5 hz
                 have HZ5 := hid hz
                 clear hz
                 try dsimp only
                 refine hK.out _ _ (fun _ => HZ5.out.x) (fun hHeld => ?_)
                 have HS35 := hid (hHeld (by kernel_rfl))
                 clear hHeld hK K
                 refine wpTill_ready (rs := [14]) (by kernel_rfl) (by decide) ?_
                 refine AllTill.consH (o := ?oi36) ?ho36 (fun K hK => ?step36) ?more36
                 case ho36 => rfl
                 case step36 =>
                  refine growF rfl (.tmp 56) (.tmp 58) rfl rfl rfl HZ5.out HFW.out.2.2 ?_
                  intro g5 c5 y6 hz
                  have HZ6 := hid hz
                  clear hz
                  try dsimp only
                  refine hK.out _ _ (fun hk => by cases (show true = false from hk)) (fun _ => ?_)
                  clear hK K
                  refine wpTill_any 15 (oi := ?oi37) (v := ?v37) ?ho37 (by kernel_rfl) (by kernel_rfl) (by kernel_rfl) (by kernel_rfl) ?hq37 (Or.inl ⟨?hw37, ?hy37⟩) (fun hk => by cases (show true = false from hk)) ?rest37
                  case ho37 => rfl
                  case hw37 => rfl
                  case hy37 => intro w; go_simp; try with_reducible rfl
                  case hq37 => exact fun _ _ _ h => h
                  refine wpTill_any 16 (oi := ?oi38) (v := ?v38) ?ho38 (by kernel_rfl) (by kernel_rfl) (by kernel_rfl) (by kernel_rfl) ?hq38 (Or.inl ⟨?hw38, ?hy38⟩) (fun hk => by cases (show true = false from hk)) ?rest38
                  case ho38 => rfl
                  case hw38 => rfl
                  case hy38 => intro w; go_simp; try with_reducible rfl
                  case hq38 => exact fun _ _ _ h => h
                  refine wpTill_any 17 (oi := ?oi39) (v := ?v39) ?ho39 (by kernel_rfl) (by kernel_rfl) (by kernel_rfl) (by kernel_rfl) ?hq39 (Or.inl ⟨?hw39, ?hy39⟩) (fun hk => by cases (show true = false from hk)) ?rest39
                  case ho39 => rfl
                  case hw39 => rfl
                  case hy39 => intro w; go_simp; try with_reducible rfl
                  case hq39 => exact fun _ _ _ h => h
                  refine wpTill_done (by kernel_rfl) ?_ _
                  have hbd := HFW.out
                  go_wp2_with fail
                  go_ret
                  exact ⟨⟨_, by first | omega | (have := HFW.out; omega), rfl⟩, by have h1 := HZ6.out.h; have h2 := HZ6.out.sz; omega, HZ6.out.os, HZ6.out.tape, HZ6.out.output, fun b hb h1 h2 h3 => HZ6.out.k b (by rw [← HZ6.out.h]; exact hb) h1 h2 h3⟩
                 case more36 =>
                  exact AllTill.nil
                case more35 =>
                 exact AllTill.nil
               case more34 =>
                exact AllTill.nil
             case more27 =>
              refine AllTill.consH (o := ?oi40) ?ho40 (fun K hK => ?step40) ?more40
              case ho40 => rfl
              case step40 =>
               go_simp
               obtain ⟨P2, hP⟩ : ∃ P, y2.heap.size = P := ⟨_, rfl⟩
               obtain ⟨y3, hy⟩ : ∃ u, y2.alloc (.cells #[.string ⟨#[]⟩, .string ⟨#[]⟩, .string ⟨#[]⟩, .string ⟨#[]⟩] 53) = u := ⟨_, rfl⟩
               have HZ3 := hid (putF HZ2.out hP hy)
               rw [hP, hy]
               clear hP hy
               refine hK.out _ _ (fun _ => HZ3.out.x) (fun hHeld => ?_)
               have HS40 := hid (hHeld (by kernel_rfl))
               clear hHeld hK K
               refine wpTill_ready (rs := [8]) (by kernel_rfl) (by decide) ?_
               refine AllTill.consH (o := ?oi41) ?ho41 (fun K hK => ?step41) ?more41
               case ho41 => rfl
               case step41 =>
                go_simp
                obtain ⟨P1, hP⟩ : ∃ P, y3.heap.size = P := ⟨_, rfl⟩
                obtain ⟨y4, hy⟩ : ∃ u, y3.alloc (.cells #[.string ⟨#[]⟩, .string ⟨#[]⟩, .int .u8 0, .string ⟨#[]⟩, .string ⟨#[]⟩, .string ⟨#[]⟩, .int .u8 0, .string ⟨#[]⟩, .string ⟨#[]⟩, .int .i64 0, .int .i64 0] 36) = u := ⟨_, rfl⟩
                have HZ4 := hid (putE HZ3.out hP hy)
                rw [hP, hy]
                clear hP hy
                refine hK.out _ _ (fun _ => HZ4.out.x) (fun hHeld => ?_)
                have HS41 := hid (hHeld (by kernel_rfl))
                clear hHeld hK K
                refine wpTill_ready (rs := [9]) (by kernel_rfl) (by decide) ?_
                refine AllTill.consH (o := ?oi42) ?ho42 (fun K hK => ?step42) ?more42
                case ho42 => rfl
                case step42 =>
                 refine growE rfl (.tmp 51) (.tmp 53) rfl rfl rfl HZ4.out HFW.out.2.1 ?_
                 intro g4 c4 y5 hz
                 have HZ5 := hid hz
                 clear hz
                 try dsimp only
                 refine hK.out _ _ (fun _ => HZ5.out.x) (fun hHeld => ?_)
                 have HS42 := hid (hHeld (by kernel_rfl))
                 clear hHeld hK K
                 refine wpTill_ready (rs := [14]) (by kernel_rfl) (by decide) ?_
                 refine AllTill.consH (o := ?oi43) ?ho43 (fun K hK => ?step43) ?more43
                 case ho43 => rfl
                 case step43 =>
                  refine growF rfl (.tmp 56) (.tmp 58) rfl rfl rfl HZ5.out HFW.out.2.2 ?_
                  intro g5 c5 y6 hz
                  have HZ6 := hid hz
                  clear hz
                  try dsimp only
                  refine hK.out _ _ (fun hk => by cases (show true = false from hk)) (fun _ => ?_)
                  clear hK K
                  refine wpTill_any 15 (oi := ?oi44) (v := ?v44) ?ho44 (by kernel_rfl) (by kernel_rfl) (by kernel_rfl) (by kernel_rfl) ?hq44 (Or.inl ⟨?hw44, ?hy44⟩) (fun hk => by cases (show true = false from hk)) ?rest44
                  case ho44 => rfl
                  case hw44 => rfl
                  case hy44 => intro w; go_simp; try with_reducible rfl
                  case hq44 => exact fun _ _ _ h => h
                  refine wpTill_any 16 (oi := ?oi45) (v := ?v45) ?ho45 (by kernel_rfl) (by kernel_rfl) (by kernel_rfl) (by kernel_rfl) ?hq45 (Or.inl ⟨?hw45, ?hy45⟩) (fun hk => by cases (show true = false from hk)) ?rest45
                  case ho45 => rfl
                  case hw45 => rfl
                  case hy45 => intro w; go_simp; try with_reducible rfl
                  case hq45 => exact fun _ _ _ h => h
                  refine wpTill_any 17 (oi := ?oi46) (v := ?v46) ?ho46 (by kernel_rfl) (by kernel_rfl) (by kernel_rfl) (by kernel_rfl) ?hq46 (Or.inl ⟨?hw46, ?hy46⟩) (fun hk => by cases (show true = false from hk)) ?rest46
                  case ho46 => rfl
                  case hw46 => rfl
                  case hy46 => intro w; go_simp; try with_reducible rfl
                  case hq46 => exact fun _ _ _ h => h
                  refine wpTill_done (by kernel_rfl) ?_ _
                  have hbd := HFW.out
                  go_wp2_with fail
                  go_ret
                  exact ⟨⟨_, by first | omega | (have := HFW.out; omega), rfl⟩, by have h1 := HZ6.out.h; have h2 := HZ6.out.sz; omega, HZ6.out.os, HZ6.out.tape, HZ6.out.output, fun b hb h1 h2 h3 => HZ6.out.k b (by rw [← HZ6.out.h]; exact hb) h1 h2 h3⟩
                 case more43 =>
                  exact AllTill.nil
                case more42 =>
                 exact AllTill.nil
               case more41 =>
                exact AllTill.nil
              case more40 =>
               exact AllTill.nil
           case more26 =>
             refine AllTill.consH (o := ?oi47) ?ho47 (fun K hK => ?step47) ?more47
             case ho47 => rfl
             case step47 =>
              go_simp
              obtain ⟨P1, hP⟩ : ∃ P, y1.heap.size = P := ⟨_, rfl⟩
              obtain ⟨y2, hy⟩ : ∃ u, y1.alloc (.cells #[.string ⟨#[]⟩, .string ⟨#[]⟩, .int .u8 0, .string ⟨#[]⟩, .string ⟨#[]⟩, .string ⟨#[]⟩, .int .u8 0, .string ⟨#[]⟩, .string ⟨#[]⟩, .int .i64 0, .int .i64 0] 36) = u := ⟨_, rfl⟩
              have HZ2 := hid (putE HZ1.out hP hy)
              rw [hP, hy]
              clear hP hy
              refine hK.out _ _ (fun _ => HZ2.out.x) (fun hHeld => ?_)
              have HS47 := hid (hHeld (by kernel_rfl))
              clear hHeld hK K
              refine wpTill_ready (rs := [4, 13]) (by kernel_rfl) (by decide) ?_
              refine AllTill.consH (o := ?oi48) ?ho48 (fun K hK => ?step48) ?more48
              case ho48 => rfl
              case step48 =>
               refine growB rfl (.tmp 46) (.tmp 48) rfl rfl rfl HZ2.out HFW.out.1 ?_
               intro g2 c2 y3 hz
               have HZ3 := hid hz
               clear hz
               try dsimp only
               refine hK.out _ _ (fun _ => HZ3.out.x) (fun hHeld => ?_)
               have HS48 := hid (hHeld (by kernel_rfl))
               clear hHeld hK K
               refine wpTill_ready (rs := [9, 13]) (by kernel_rfl) (by decide) ?_
               refine AllTill.consH (o := ?oi49) ?ho49 (fun K hK => ?step49) ?more49
               case ho49 => rfl
               case step49 =>
                refine growE rfl (.tmp 51) (.tmp 53) rfl rfl rfl HZ3.out HFW.out.2.1 ?_
                intro g3 c3 y4 hz
                have HZ4 := hid hz
                clear hz
                try dsimp only
                refine hK.out _ _ (fun _ => HZ4.out.x) (fun hHeld => ?_)
                have HS49 := hid (hHeld (by kernel_rfl))
                clear hHeld hK K
                refine wpTill_ready (rs := [13]) (by kernel_rfl) (by decide) ?_
                refine AllTill.consH (o := ?oi50) ?ho50 (fun K hK => ?step50) ?more50
                case ho50 => rfl
                case step50 =>
                 go_simp
                 obtain ⟨P2, hP⟩ : ∃ P, y4.heap.size = P := ⟨_, rfl⟩
                 obtain ⟨y5, hy⟩ : ∃ u, y4.alloc (.cells #[.string ⟨#[]⟩, .string ⟨#[]⟩, .string ⟨#[]⟩, .string ⟨#[]⟩] 53) = u := ⟨_, rfl⟩
                 have HZ5 := hid (putF HZ4.out hP hy)
                 rw [hP, hy]
                 clear hP hy
                 refine hK.out _ _ (fun _ => HZ5.out.x) (fun hHeld => ?_)
                 have HS50 := hid (hHeld (by kernel_rfl))
                 clear hHeld hK K
                 refine wpTill_ready (rs := [14]) (by kernel_rfl) (by decide) ?_
                 refine AllTill.consH (o := ?oi51) ?ho51 (fun K hK => ?step51) ?more51
                 case ho51 => rfl
                 case step51 =>
                  refine growF rfl (.tmp 56) (.tmp 58) rfl rfl rfl HZ5.out HFW.out.2.2 ?_
                  intro g5 c5 y6 hz
                  have HZ6 := hid hz
                  clear hz
                  try dsimp only
                  refine hK.out _ _ (fun hk => by cases (show true = false from hk)) (fun _ => ?_)
                  clear hK K
                  refine wpTill_any 15 (oi := ?oi52) (v := ?v52) ?ho52 (by kernel_rfl) (by kernel_rfl) (by kernel_rfl) (by kernel_rfl) ?hq52 (Or.inl ⟨?hw52, ?hy52⟩) (fun hk => by cases (show true = false from hk)) ?rest52
                  case ho52 => rfl
                  case hw52 => rfl
                  case hy52 => intro w; go_simp; try with_reducible rfl
                  case hq52 => exact fun _ _ _ h => h
                  refine wpTill_any 16 (oi := ?oi53) (v := ?v53) ?ho53 (by kernel_rfl) (by kernel_rfl) (by kernel_rfl) (by kernel_rfl) ?hq53 (Or.inl ⟨?hw53, ?hy53⟩) (fun hk => by cases (show true = false from hk)) ?rest53
                  case ho53 => rfl
                  case hw53 => rfl
                  case hy53 => intro w; go_simp; try with_reducible rfl
                  case hq53 => exact fun _ _ _ h => h
                  refine wpTill_any 17 (oi := ?oi54) (v := ?v54) ?ho54 (by kernel_rfl) (by kernel_rfl) (by kernel_rfl) (by kernel_rfl) ?hq54 (Or.inl ⟨?hw54, ?hy54⟩) (fun hk => by cases (show true = false from hk)) ?rest54
                  case ho54 => rfl
                  case hw54 => rfl
                  case hy54 => intro w; go_simp; try with_reducible rfl
                  case hq54 => exact fun _ _ _ h => h
                  refine wpTill_done (by kernel_rfl) ?_ _
                  have hbd := HFW.out
                  go_wp2_with fail
                  go_ret
                  exact ⟨⟨_, by first | omega | (have := HFW.out; omega), rfl⟩, by have h1 := HZ6.out.h; have h2 := HZ6.out.sz; omega, HZ6.out.os, HZ6.out.tape, HZ6.out.output, fun b hb h1 h2 h3 => HZ6.out.k b (by rw [← HZ6.out.h]; exact hb) h1 h2 h3⟩
                 case more51 =>
                  exact AllTill.nil
                case more50 =>
                 exact AllTill.nil
               case more49 =>
                refine AllTill.consH (o := ?oi55) ?ho55 (fun K hK => ?step55) ?more55
                case ho55 => rfl
                case step55 =>
                 go_simp
                 obtain ⟨P2, hP⟩ : ∃ P, y3.heap.size = P := ⟨_, rfl⟩
                 obtain ⟨y4, hy⟩ : ∃ u, y3.alloc (.cells #[.string ⟨#[]⟩, .string ⟨#[]⟩, .string ⟨#[]⟩, .string ⟨#[]⟩] 53) = u := ⟨_, rfl⟩
                 have HZ4 := hid (putF HZ3.out hP hy)
                 rw [hP, hy]
                 clear hP hy
                 refine hK.out _ _ (fun _ => HZ4.out.x) (fun hHeld => ?_)
                 have HS55 := hid (hHeld (by kernel_rfl))
                 clear hHeld hK K
                 refine wpTill_ready (rs := [9]) (by kernel_rfl) (by decide) ?_
                 refine AllTill.consH (o := ?oi56) ?ho56 (fun K hK => ?step56) ?more56
                 case ho56 => rfl
                 case step56 =>
                  refine growE rfl (.tmp 51) (.tmp 53) rfl rfl rfl HZ4.out HFW.out.2.1 ?_
                  intro g4 c4 y5 hz
                  have HZ5 := hid hz
                  clear hz
                  try dsimp only
                  refine hK.out _ _ (fun _ => HZ5.out.x) (fun hHeld => ?_)
                  have HS56 := hid (hHeld (by kernel_rfl))
                  clear hHeld hK K
                  refine wpTill_ready (rs := [14]) (by kernel_rfl) (by decide) ?_
                  refine AllTill.consH (o := ?oi57) ?ho57 (fun K hK => ?step57) ?more57
                  case ho57 => rfl
                  case step57 =>
                   refine growF rfl (.tmp 56) (.tmp 58) rfl rfl rfl HZ5.out HFW.out.2.2 ?_
                   intro g5 c5 y6 hz
                   have HZ6 := hid hz
                   clear hz
                   try dsimp only
                   refine hK.out _ _ (fun hk => by cases (show true = false from hk)) (fun _ => ?_)
                   clear hK K
                   refine wpTill_any 15 (oi := ?oi58) (v := ?v58) ?ho58 (by kernel_rfl) (by kernel_rfl) (by kernel_rfl) (by kernel_rfl) ?hq58 (Or.inl ⟨?hw58, ?hy58⟩) (fun hk => by cases (show true = false from hk)) ?rest58
                   case ho58 => rfl
                   case hw58 => rfl
                   case hy58 => intro w; go_simp; try with_reducible rfl
                   case hq58 => exact fun _ _ _ h => h
                   refine wpTill_any 16 (oi := ?oi59) (v := ?v59) ?ho59 (by kernel_rfl) (by kernel_rfl) (by kernel_rfl) (by kernel_rfl) ?hq59 (Or.inl ⟨?hw59, ?hy59⟩) (fun hk => by cases (show true = false from hk)) ?rest59
                   case ho59 => rfl
                   case hw59 => rfl
                   case hy59 => intro w; go_simp; try with_reducible rfl
                   case hq59 => exact fun _ _ _ h => h
                   refine wpTill_any 17 (oi := ?oi60) (v := ?v60) ?ho60 (by kernel_rfl) (by kernel_rfl) (by kernel_rfl) (by kernel_rfl) ?hq60 (Or.inl ⟨?hw60, ?hy60⟩) (fun hk => by cases (show true = false from hk)) ?rest60
                   case ho60 => rfl
                   case hw60 => rfl
                   case hy60 => intro w; go_simp; try with_reducible rfl
                   case hq60 => exact fun _ _ _ h => h
                   refine wpTill_done (by kernel_rfl) ?_ _
                   have hbd := HFW.out
                   go_wp2_with fail
                   go_ret
                   exact ⟨⟨_, by first | omega | (have := HFW.out; omega), rfl⟩, by have h1 := HZ6.out.h; have h2 := HZ6.out.sz; omega, HZ6.out.os, HZ6.out.tape, HZ6.out.output, fun b hb h1 h2 h3 => HZ6.out.k b (by rw [← HZ6.out.h]; exact hb) h1 h2 h3⟩
                  case more57 =>
                   exact AllTill.nil
                 case more56 =>
                  exact AllTill.nil
                case more55 =>
                 exact AllTill.nil
              case more48 =>
               refine AllTill.consH (o := ?oi61) ?ho61 (fun K hK => ?step61) ?more61
               case ho61 => rfl
               case step61 =>
                go_simp
                obtain ⟨P2, hP⟩ : ∃ P, y2.heap.size = P := ⟨_, rfl⟩
                obtain ⟨y3, hy⟩ : ∃ u, y2.alloc (.cells #[.string ⟨#[]⟩, .string ⟨#[]⟩, .string ⟨#[]⟩, .string ⟨#[]⟩] 53) = u := ⟨_, rfl⟩
                have HZ3 := hid (putF HZ2.out hP hy)
                rw [hP, hy]
                clear hP hy
                refine hK.out _ _ (fun _ => HZ3.out.x) (fun hHeld => ?_)
                have HS61 := hid (hHeld (by kernel_rfl))
                clear hHeld hK K
                refine wpTill_ready (rs := [4]) (by kernel_rfl) (by decide) ?_
                refine AllTill.consH (o := ?oi62) ?ho62 (fun K hK => ?step62) ?more62
                case ho62 => rfl
                case step62 =>
                 refine growB rfl (.tmp 46) (.tmp 48) rfl rfl rfl HZ3.out HFW.out.1 ?_
                 intro g3 c3 y4 hz
                 have HZ4 := hid hz
                 clear hz
                 try dsimp only
                 refine hK.out _ _ (fun _ => HZ4.out.x) (fun hHeld => ?_)
                 have HS62 := hid (hHeld (by kernel_rfl))
                 clear hHeld hK K
                 refine wpTill_ready (rs := [9]) (by kernel_rfl) (by decide) ?_
                 refine AllTill.consH (o := ?oi63) ?ho63 (fun K hK => ?step63) ?more63
                 case ho63 => rfl
                 case step63 =>
                  refine growE rfl (.tmp 51) (.tmp 53) rfl rfl rfl HZ4.out HFW.out.2.1 ?_
                  intro g4 c4 y5 hz
                  have HZ5 := hid hz
                  clear hz
                  try dsimp only
                  refine hK.out _ _ (fun _ => HZ5.out.x) (fun hHeld => ?_)
                  have HS63 := hid (hHeld (by kernel_rfl))
                  clear hHeld hK K
                  refine wpTill_ready (rs := [14]) (by kernel_rfl) (by decide) ?_
                  refine AllTill.consH (o := ?oi64) ?ho64 (fun K hK => ?step64) ?more64
                  case ho64 => rfl
                  case step64 =>
                   refine growF rfl (.tmp 56) (.tmp 58) rfl rfl rfl HZ5.out HFW.out.2.2 ?_
                   intro g5 c5 y6 hz
                   have HZ6 := hid hz
                   clear hz
                   try dsimp only
                   refine hK.out _ _ (fun hk => by cases (show true = false from hk)) (fun _ => ?_)
                   clear hK K
                   refine wpTill_any 15 (oi := ?oi65) (v := ?v65) ?ho65 (by kernel_rfl) (by kernel_rfl) (by kernel_rfl) (by kernel_rfl) ?hq65 (Or.inl ⟨?hw65, ?hy65⟩) (fun hk => by cases (show true = false from hk)) ?rest65
                   case ho65 => rfl
                   case hw65 => rfl
                   case hy65 => intro w; go_simp; try with_reducible rfl
                   case hq65 => exact fun _ _ _ h => h
                   refine wpTill_any 16 (oi := ?oi66) (v := ?v66) ?ho66 (by kernel_rfl) (by kernel_rfl) (by kernel_rfl) (by kernel_rfl) ?hq66 (Or.inl ⟨?hw66, ?hy66⟩) (fun hk => by cases (show true = false from hk)) ?rest66
                   case ho66 => rfl
                   case hw66 => rfl
                   case hy66 => intro w; go_simp; try with_reducible rfl
                   case hq66 => exact fun _ _ _ h => h
                   refine wpTill_any 17 (oi := ?oi67) (v := ?v67) ?ho67 (by kernel_rfl) (by kernel_rfl) (by kernel_rfl) (by kernel_rfl) ?hq67 (Or.inl ⟨?hw67, ?hy67⟩) (fun hk => by cases (show true = false from hk)) ?rest67
                   case ho67 => rfl
                   case hw67 => rfl
                   case hy67 => intro w; go_simp; try with_reducible rfl
                   case hq67 => exact fun _ _ _ h => h
                   refine wpTill_done (by kernel_rfl) ?_ _
                   have hbd := HFW.out
                   go_wp2_with fail
                   go_ret
                   exact ⟨⟨_, by first | omega | (have := HFW.out; omega), rfl⟩, by have h1 := HZ6.out.h; have h2 := HZ6.out.sz; omega, HZ6.out.os, HZ6.out.tape, HZ6.out.output, fun b hb h1 h2 h3 => HZ6.out.k b (by rw [← HZ6.out.h]; exact hb) h1 h2 h3⟩
                  case more64 =>
                   exact AllTill.nil
                 case more63 =>
                  exact AllTill.nil
                case more62 =>
                 exact AllTill.nil
               case more61 =>
                exact AllTill.nil
             case more47 =>
              refine AllTill.consH (o := ?oi68) ?ho68 (fun K hK => ?step68) ?more68
              case ho68 => rfl
              case step68 =>
               go_simp
               obtain ⟨P2, hP⟩ : ∃ P, y1.heap.size = P := ⟨_, rfl⟩
               obtain ⟨y2, hy⟩ : ∃ u, y1.alloc (.cells #[.string ⟨#[]⟩, .string ⟨#[]⟩, .string ⟨#[]⟩, .string ⟨#[]⟩] 53) = u := ⟨_, rfl⟩
               have HZ2 := hid (putF HZ1.out hP hy)
               rw [hP, hy]
               clear hP hy
               refine hK.out _ _ (fun _ => HZ2.out.x) (fun hHeld => ?_)
               have HS68 := hid (hHeld (by kernel_rfl))
               clear hHeld hK K
               refine wpTill_ready (rs := [4, 8]) (by kernel_rfl) (by decide) ?_
               refine AllTill.consH (o := ?oi69) ?ho69 (fun K hK => ?step69) ?more69
               case ho69 => rfl
               case step69 =>
                refine growB rfl (.tmp 46) (.tmp 48) rfl rfl rfl HZ2.out HFW.out.1 ?_
                intro g2 c2 y3 hz
                have HZ3 := hid hz
                clear hz
                try dsimp only
                refine hK.out _ _ (fun _ => HZ3.out.x) (fun hHeld => ?_)
                have HS69 := hid (hHeld (by kernel_rfl))
                clear hHeld hK K
                refine wpTill_ready (rs := [8]) (by kernel_rfl) (by decide) ?_
                refine AllTill.consH (o := ?oi70) ?ho70 (fun K hK => ?step70) ?more70
                case ho70 => rfl
                case step70 =>
                 go_simp
                 obtain ⟨P1, hP⟩ : ∃ P, y3.heap.size = P := ⟨_, rfl⟩
                 obtain ⟨y4, hy⟩ : ∃ u, y3.alloc (.cells #[.string ⟨#[]⟩, .string ⟨#[]⟩, .int .u8 0, .string ⟨#[]⟩, .string ⟨#[]⟩, .string ⟨#[]⟩, .int .u8 0, .string ⟨#[]⟩, .string ⟨#[]⟩, .int .i64 0, .int .i64 0] 36) = u := ⟨_, rfl⟩
                 have HZ4 := hid (putE HZ3.out hP hy)
                 rw [hP, hy]
                 clear hP hy
                 refine hK.out _ _ (fun _ => HZ4.out.x) (fun hHeld => ?_)
                 have HS70 := hid (hHeld (by kernel_rfl))
                 clear hHeld hK K
                 refine wpTill_ready (rs := [9]) (by kernel_rfl) (by decide) ?_
                 refine AllTill.consH (o := ?oi71) ?ho71 (fun K hK => ?step71) ?more71
                 case ho71 => rfl
                 case step71 =>
                  refine growE rfl (.tmp 51) (.tmp 53) rfl rfl rfl HZ4.out HFW.out.2.1 ?_
                  intro g4 c4 y5 hz
                  have HZ5 := hid hz
                  clear hz
                  try dsimp only
                  refine hK.out _ _ (fun _ => HZ5.out.x) (fun hHeld => ?_)
                  have HS71 := hid (hHeld (by kernel_rfl))
                  clear hHeld hK K
                  refine wpTill_ready (rs := [14]) (by kernel_rfl) (by decide) ?_
                  refine AllTill.consH (o := ?oi72) ?ho72 (fun K hK => ?step72) ?more72
                  case ho72 => rfl
                  case step72 =>
                   refine growF rfl (.tmp 56) (.tmp 58) rfl rfl rfl HZ5.out HFW.out.2.2 ?_
                   intro g5 c5 y6 hz
                   have HZ6 := hid hz
                   clear hz
                   try dsimp only
                   refine hK.out _ _ (fun hk => by cases (show true = false from hk)) (fun _ => ?_)
                   clear hK K
                   refine wpTill_any 15 (oi := ?oi73) (v := ?v73) ?ho73 (by kernel_rfl) (by kernel_rfl) (by kernel_rfl) (by kernel_rfl) ?hq73 (Or.inl ⟨?hw73, ?hy73⟩) (fun hk => by cases (show true = false from hk)) ?rest73
                   case ho73 => rfl
                   case hw73 => rfl
                   case hy73 => intro w; go_simp; try with_reducible rfl
                   case hq73 => exact fun _ _ _ h => h
                   refine wpTill_any 16 (oi := ?oi74) (v := ?v74) ?ho74 (by kernel_rfl) (by kernel_rfl) (by kernel_rfl) (by kernel_rfl) ?hq74 (Or.inl ⟨?hw74, ?hy74⟩) (fun hk => by cases (show true = false from hk)) ?rest74
                   case ho74 => rfl
                   case hw74 => rfl
                   case hy74 => intro w; go_simp; try with_reducible rfl
                   case hq74 => exact fun _ _ _ h => h
                   refine wpTill_any 17 (oi := ?oi75) (v := ?v75) ?ho75 (by kernel_rfl) (by kernel_rfl) (by kernel_rfl) (by kernel_rfl) ?hq75 (Or.inl ⟨?hw75, ?hy75⟩) (fun hk => by cases (show true = false from hk)) ?rest75
                   case ho75 => rfl
                   case hw75 => rfl
                   case hy75 => intro w; go_simp; try with_reducible rfl
                   case hq75 => exact fun _ _ _ h => h
                   refine wpTill_done (by kernel_rfl) ?_ _
                   have hbd := HFW.out
                   go_wp2_with fail
                   go_ret
                   exact ⟨⟨_, by first | omega | (have := HFW.out; omega), rfl⟩, by have h1 := HZ6.out.h; have h2 := HZ6.out.sz; omega, HZ6.out.os, HZ6.out.tape, HZ6.out.output, fun b hb h1 h2 h3 => HZ6.out.k b (by rw [← HZ6.out.h]; exact hb) h1 h2 h3⟩
                  case more72 =>
                   exact AllTill.nil
                 case more71 =>
                  exact AllTill.nil
                case more70 =>
                 exact AllTill.nil
               case more69 =>
                refine AllTill.consH (o := ?oi76) ?ho76 (fun K hK => ?step76) ?more76
                case ho76 => rfl
                case step76 =>
                 go_simp
                 obtain ⟨P1, hP⟩ : ∃ P, y2.heap.size = P := ⟨_, rfl⟩
                 obtain ⟨y3, hy⟩ : ∃ u, y2.alloc (.cells #[.string ⟨#[]⟩, .string ⟨#[]⟩, .int .u8 0, .string ⟨#[]⟩, .string ⟨#[]⟩, .string ⟨#[]⟩, .int .u8 0, .string ⟨#[]⟩, .string ⟨#[]⟩, .int .i64 0, .int .i64 0] 36) = u := ⟨_, rfl⟩
                 have HZ3 := hid (putE HZ2.out hP hy)
                 rw [hP, hy]
                 clear hP hy
                 refine hK.out _ _ (fun _ => HZ3.out.x) (fun hHeld => ?_)
                 have HS76 := hid (hHeld (by kernel_rfl))
                 clear hHeld hK K
                 refine wpTill_ready (rs := [4]) (by kernel_rfl) (by decide) ?_
                 refine AllTill.consH (o := ?oi77) ?ho77 (fun K hK => ?step77) ?more77
                 case ho77 => rfl
                 case step77 =>
                  refine growB rfl (.tmp 46) (.tmp 48) rfl rfl rfl HZ3.out HFW.out.1 ?_
                  intro g3 c3 y4 hz
                  have HZ4 := hid hz
                  clear hz
                  try dsimp only
                  refine hK.out _ _ (fun _ => HZ4.out.x) (fun hHeld => ?_)
                  have HS77 := hid (hHeld (by kernel_rfl))
                  clear hHeld hK K
                  refine wpTill_ready (rs := [9]) (by kernel_rfl) (by decide) ?_
                  refine AllTill.consH (o := ?oi78) ?ho78 (fun K hK => ?step78) ?more78
                  case ho78 => rfl
                  case step78 =>
                   refine growE rfl (.tmp 51) (.tmp 53) rfl rfl rfl HZ4.out HFW.out.2.1 ?_
                   intro g4 c4 y5 hz
                   have HZ5 := hid hz
                   clear hz
                   try dsimp only
                   refine hK.out _ _ (fun _ => HZ5.out.x) (fun hHeld => ?_)
                   have HS78 := hid (hHeld (by kernel_rfl))
                   clear hHeld hK K
                   refine wpTill_ready (rs := [14]) (by kernel_rfl) (by decide) ?_
                   refine AllTill.consH (o := ?oi79) ?ho79 (fun K hK => ?step79) ?more79
                   case ho79 => rfl
                   case step79 =>
                    refine growF rfl (.tmp 56) (.tmp 58) rfl rfl rfl HZ5.out HFW.out.2.2 ?_
                    intro g5 c5 y6 hz
                    have HZ6 := hid hz
                    clear hz
                    try dsimp only
                    refine hK.out _ _ (fun hk => by cases (show true = false from hk)) (fun _ => ?_)
                    clear hK K
                    refine wpTill_any 15 (oi := ?oi80) (v := ?v80) ?ho80 (by kernel_rfl) (by kernel_rfl) (by kernel_rfl) (by kernel_rfl) ?hq80 (Or.inl ⟨?hw80, ?hy80⟩) (fun hk => by cases (show true = false from hk)) ?rest80
                    case ho80 => rfl
                    case hw80 => rfl
                    case hy80 => intro w; go_simp; try with_reducible rfl
                    case hq80 => exact fun _ _ _ h => h
                    refine wpTill_any 16 (oi := ?oi81) (v := ?v81) ?ho81 (by kernel_rfl) (by kernel_rfl) (by kernel_rfl) (by kernel_rfl) ?hq81 (Or.inl ⟨?hw81, ?hy81⟩) (fun hk => by cases (show true = false from hk)) ?rest81
                    case ho81 => rfl
                    case hw81 => rfl
                    case hy81 => intro w; go_simp; try with_reducible rfl
                    case hq81 => exact fun _ _ _ h => h
                    refine wpTill_any 17 (oi := ?oi82) (v := ?v82) ?ho82 (by kernel_rfl) (by kernel_rfl) (by kernel_rfl) (by kernel_rfl) ?hq82 (Or.inl ⟨?hw82, ?hy82⟩) (fun hk => by cases (show true = false from hk)) ?rest82
                    case ho82 => rfl
                    case hw82 => rfl
                    case hy82 => intro w; go_simp; try with_reducible rfl
                    case hq82 => exact fun _ _ _ h => h
                    refine wpTill_done (by kernel_rfl) ?_ _
                    have hbd := HFW.out
                    go_wp2_with fail
                    go_ret
                    exact ⟨⟨_, by first | omega | (have := HFW.out; omega), rfl⟩, by have h1 := HZ6.out.h; have h2 := HZ6.out.sz; omega, HZ6.out.os, HZ6.out.tape, HZ6.out.output, fun b hb h1 h2 h3 => HZ6.out.k b (by rw [← HZ6.out.h]; exact hb) h1 h2 h3⟩
                   case more79 =>
                    exact AllTill.nil
                  case more78 =>
                   exact AllTill.nil
                 case more77 =>
                  exact AllTill.nil
                case more76 =>
                 exact AllTill.nil
              case more68 =>
               exact AllTill.nil
          case more25 =>
           refine AllTill.consH (o := ?oi83) ?ho83 (fun K hK => ?step83) ?more83
           case ho83 => rfl
           case step83 =>
             go_simp
             obtain ⟨P1, hP⟩ : ∃ P, y0.heap.size = P := ⟨_, rfl⟩
             obtain ⟨y1, hy⟩ : ∃ u, y0.alloc (.cells #[.string ⟨#[]⟩, .string ⟨#[]⟩, .int .u8 0, .string ⟨#[]⟩, .string ⟨#[]⟩, .string ⟨#[]⟩, .int .u8 0, .string ⟨#[]⟩, .string ⟨#[]⟩, .int .i64 0, .int .i64 0] 36) = u := ⟨_, rfl⟩
             have HZ1 := hid (putE HZ0.out hP hy)
             rw [hP, hy]
             clear hP hy
             refine hK.out _ _ (fun _ => HZ1.out.x) (fun hHeld => ?_)
             have HS83 := hid (hHeld (by kernel_rfl))
             clear hHeld hK K
             refine wpTill_ready (rs := [3, 13]) (by kernel_rfl) (by decide) ?_
             refine AllTill.consH (o := ?oi84) ?ho84 (fun K hK => ?step84) ?more84
             case ho84 => rfl
             case step84 =>
              go_simp
              obtain ⟨P0, hP⟩ : ∃ P, y1.heap.size = P := ⟨_, rfl⟩
              obtain ⟨y2, hy⟩ : ∃ u, y1.alloc (.cells #[.string ⟨#[]⟩, .int .u8 0, .int .i64 0, .bool false, .string ⟨#[]⟩] 51) = u := ⟨_, rfl⟩
              have HZ2 := hid (putB HZ1.out hP hy)
              rw [hP, hy]
              clear hP hy
              refine hK.out _ _ (fun _ => HZ2.out.x) (fun hHeld => ?_)
              have HS84 := hid (hHeld (by kernel_rfl))
              clear hHeld hK K
              refine wpTill_ready (rs := [4, 13]) (by kernel_rfl) (by decide) ?_
              refine AllTill.consH (o := ?oi85) ?ho85 (fun K hK => ?step85) ?more85
              case ho85 => rfl
              case step85 =>
               refine growB rfl (.tmp 46) (.tmp 48) rfl rfl rfl HZ2.out HFW.out.1 ?_
               intro g2 c2 y3 hz
               have HZ3 := hid hz
               clear hz
               try dsimp only
               refine hK.out _ _ (fun _ => HZ3.out.x) (fun hHeld => ?_)
               have HS85 := hid (hHeld (by kernel_rfl))
               clear hHeld hK K
               refine wpTill_ready (rs := [9, 13]) (by kernel_rfl) (by decide) ?_
               refine AllTill.consH (o := ?oi86) ?ho86 (fun K hK => ?step86) ?more86
               case ho86 => rfl
               case step86 =>
                refine growE rfl (.tmp 51) (.tmp 53) rfl rfl rfl HZ3.out HFW.out.2.1 ?_
                intro g3 c3 y4 hz
                have HZ4 := hid hz
                clear hz
                try dsimp only
                refine hK.out _ _ (fun _ => HZ4.out.x) (fun hHeld => ?_)
                have HS86 := hid (hHeld (by kernel_rfl))
                clear hHeld hK K
                refine wpTill_ready (rs := [13]) (by kernel_rfl) (by decide) ?_
                refine AllTill.consH (o := ?oi87) ?ho87 (fun K hK => ?step87) ?more87
                case ho87 => rfl
                case step87 =>
                 go_simp
                 obtain ⟨P2, hP⟩ : ∃ P, y4.heap.size = P := ⟨_, rfl⟩
                 obtain ⟨y5, hy⟩ : ∃ u, y4.alloc (.cells #[.string ⟨#[]⟩, .string ⟨#[]⟩, .string ⟨#[]⟩, .string ⟨#[]⟩] 53) = u := ⟨_, rfl⟩
                 have HZ5 := hid (putF HZ4.out hP hy)
                 rw [hP, hy]
                 clear hP hy
                 refine hK.out _ _ (fun _ => HZ5.out.x) (fun hHeld => ?_)
                 have HS87 := hid (hHeld (by kernel_rfl))
                 clear hHeld hK K
                 refine wpTill_ready (rs := [14]) (by kernel_rfl) (by decide) ?_
                 refine AllTill.consH (o := ?oi88) ?ho88 (fun K hK => ?step88) ?more88
                 case ho88 => rfl
                 case step88 =>
                  refine growF rfl (.tmp 56) (.tmp 58) rfl rfl rfl HZ5.out HFW.out.2.2 ?_
                  intro g5 c5 y6 hz
                  have HZ6 := hid hz
                  clear hz
                  try dsimp only
                  refine hK.out _ _ (fun hk => by cases (show true = false from hk)) (fun _ => ?_)
                  clear hK K
                  refine wpTill_any 15 (oi := ?oi89) (v := ?v89) ?ho89 (by kernel_rfl) (by kernel_rfl) (by kernel_rfl) (by kernel_rfl) ?hq89 (Or.inl ⟨?hw89, ?hy89⟩) (fun hk => by cases (show true = false from hk)) ?rest89
                  case ho89 => rfl
                  case hw89 => rfl
                  case hy89 => intro w; go_simp; try with_reducible rfl
                  case hq89 => exact fun _ _ _ h => h
                  refine wpTill_any 16 (oi := ?oi90) (v := ?v90) ?ho90 (by kernel_rfl) (by kernel_rfl) (by kernel_rfl) (by kernel_rfl) ?hq90 (Or.inl ⟨?hw90, ?hy90⟩) (fun hk => by cases (show true = false from hk)) ?rest90
                  case ho90 => rfl
                  case hw90 => rfl
                  case hy90 => intro w; go_simp; try with_reducible rfl
                  case hq90 => exact fun _ _ _ h => h
                  refine wpTill_any 17 (oi := ?oi91) (v := ?v91) ?ho91 (by kernel_rfl) (by kernel_rfl) (by kernel_rfl) (by kernel_rfl) ?hq91 (Or.inl ⟨?hw91, ?hy91⟩) (fun hk => by cases (show true = false from hk)) ?rest91
                  case ho91 => rfl
                  case hw91 => rfl
                  case hy91 => intro w; go_simp; try with_reducible rfl
                  case hq91 => exact fun _ _ _ h => h
                  refine wpTill_done (by kernel_rfl) ?_ _
                  have hbd := HFW.out
                  go_wp2_with fail
                  go_ret
                  exact ⟨⟨_, by first | omega | (have := HFW.out; omega), rfl⟩, by have h1 := HZ6.out.h; have h2 := HZ6.out.sz; omega, HZ6.out.os, HZ6.out.tape, HZ6.out.output, fun b hb h1 h2 h3 => HZ6.out.k b (by rw [← HZ6.out.h]; exact hb) h1 h2 h3⟩
                 case more88 =>
                  exact AllTill.nil
                case more87 =>
                 exact AllTill.nil
               case more86 =>
                refine AllTill.consH (o := ?oi92) ?ho92 (fun K hK => ?step92) ?more92
                case ho92 => rfl
                case step92 =>
                 go_simp
                 obtain ⟨P2, hP⟩ : ∃ P, y3.heap.size = P := ⟨_, rfl⟩
                 obtain ⟨y4, hy⟩ : ∃ u, y3.alloc (.cells #[.string ⟨#[]⟩, .string ⟨#[]⟩, .string ⟨#[]⟩, .string ⟨#[]⟩] 53) = u := ⟨_, rfl⟩
                 have HZ4 := hid (putF HZ3.out hP hy)
                 rw [hP, hy]
                 clear hP hy
                 refine hK.out _ _ (fun _ => HZ4.out.x) (fun hHeld => ?_)
                 have HS92 := hid (hHeld (by kernel_rfl))
                 clear hHeld hK K
                 refine wpTill_ready (rs := [9]) (by kernel_rfl) (by decide) ?_
                 refine AllTill.consH (o := ?oi93) ?ho93 (fun K hK => ?step93) ?more93
                 case ho93 => rfl
                 case step93 =>
                  refine growE rfl (.tmp 51) (.tmp 53) rfl rfl rfl HZ4.out HFW.out.2.1 ?_
                  intro g4 c4 y5 hz
                  have HZ5 := hid hz
                  clear hz
                  try dsimp only
                  refine hK.out _ _ (fun _ => HZ5.out.x) (fun hHeld => ?_)
                  have HS93 := hid (hHeld (by kernel_rfl))
                  clear hHeld hK K
                  refine wpTill_ready (rs := [14]) (by kernel_rfl) (by decide) ?_
                  refine AllTill.consH (o := ?oi94) ?ho94 (fun K hK => ?step94) ?more94
                  case ho94 => rfl
                  case step94 =>
                   refine growF rfl (.tmp 56) (.tmp 58) rfl rfl rfl HZ5.out HFW.out.2.2 ?_
                   intro g5 c5 y6 hz
                   have HZ6 := hid hz
                   clear hz
                   try dsimp only
                   refine hK.out _ _ (fun hk => by cases (show true = false from hk)) (fun _ => ?_)
                   clear hK K
                   refine wpTill_any 15 (oi := ?oi95) (v := ?v95) ?ho95 (by kernel_rfl) (by kernel_rfl) (by kernel_rfl) (by kernel_rfl) ?hq95 (Or.inl ⟨?hw95, ?hy95⟩) (fun hk => by cases (show true = false from hk)) ?rest95
                   case ho95 => rfl
                   case hw95 => rfl
                   case hy95 => intro w; go_simp; try with_reducible rfl
                   case hq95 => exact fun _ _ _ h => h
                   refine wpTill_any 16 (oi := ?oi96) (v := ?v96) ?ho96 (by kernel_rfl) (by kernel_rfl) (by kernel_rfl) (by kernel_rfl) ?hq96 (Or.inl ⟨?hw96, ?hy96⟩) (fun hk => by cases (show true = false from hk)) ?rest96
                   case ho96 => rfl
                   case hw96 => rfl
                   case hy96 => intro w; go_simp; try with_reducible rfl
                   case hq96 => exact fun _ _ _ h => h
                   refine wpTill_any 17 (oi := ?oi97) (v := ?v97) ?ho97 (by kernel_rfl) (by kernel_rfl) (by kernel_rfl) (by kernel_rfl) ?hq97 (Or.inl ⟨?hw97, ?hy97⟩) (fun hk => by cases (show true = false from hk)) ?rest97
                   case ho97 => rfl
                   case hw97 => rfl
                   case hy97 => intro w; go_simp; try with_reducible rfl
                   case hq97 => exact fun _ _ _ h => h
                   refine wpTill_done (by kernel_rfl) ?_ _
                   have hbd := HFW.out
                   go_wp2_with fail
                   go_ret
                   exact ⟨⟨_, by first | omega | (have := HFW.out; omega), rfl⟩, by have h1 := HZ6.out.h; have h2 := HZ6.out.sz; omega, HZ6.out.os, HZ6.out.tape, HZ6.out.output, fun b hb h1 h2 h3 => HZ6.out.k b (by rw [← HZ6.out.h]; exact hb) h1 h2 h3⟩
                  case more94 =>
                   exact AllTill.nil
                 case more93 =>
                  exact AllTill.nil
                case more92 =>
                 exact AllTill.nil
              case more85 =>
               refine AllTill.consH (o := ?oi98) ?ho98 (fun K hK => ?step98) ?more98
               case ho98 => rfl
               case step98 =>
                go_simp
                obtain ⟨P2, hP⟩ : ∃ P, y2.heap.size = P := ⟨_, rfl⟩
                obtain ⟨y3, hy⟩ : ∃ u, y2.alloc (.cells #[.string ⟨#[]⟩, .string ⟨#[]⟩, .string ⟨#[]⟩, .string ⟨#[]⟩] 53) = u := ⟨_, rfl⟩
                have HZ3 := hid (putF HZ2.out hP hy)
                rw [hP, hy]
                clear hP hy
                refine hK.out _ _ (fun _ => HZ3.out.x) (fun hHeld => ?_)
                have HS98 := hid (hHeld (by kernel_rfl))
                clear hHeld hK K
                refine wpTill_ready (rs := [4]) (by kernel_rfl) (by decide) ?_
                refine AllTill.consH (o := ?oi99) ?ho99 (fun K hK => ?step99) ?more99
                case ho99 => rfl
                case step99 =>
                 refine growB rfl (.tmp 46) (.tmp 48) rfl rfl rfl HZ3.out HFW.out.1 ?_
                 intro g3 c3 y4 hz
                 have HZ4 := hid hz
                 clear hz
                 try dsimp only
                 refine hK.out _ _ (fun _ => HZ4.out.x) (fun hHeld => ?_)
                 have HS99 := hid (hHeld (by kernel_rfl))
                 clear hHeld hK K
                 refine wpTill_ready (rs := [9]) (by kernel_rfl) (by decide) ?_
                 refine AllTill.consH (o := ?oi100) ?ho100 (fun K hK => ?step100) ?more100
                 case ho100 => rfl
                 case step100 =>
                  refine growE rfl (.tmp 51) (.tmp 53) rfl rfl rfl HZ4.out HFW.out.2.1 ?_
                  intro g4 c4 y5 hz
                  have HZ5 := hid hz
                  clear hz
                  try dsimp only
                  refine hK.out _ _ (fun _ => HZ5.out.x) (fun hHeld => ?_)
                  have HS100 := hid (hHeld (by kernel_rfl))
                  clear hHeld hK K
                  refine wpTill_ready (rs := [14]) (by kernel_rfl) (by decide) ?_
                  refine AllTill.consH (o := ?oi101) ?ho101 (fun K hK => ?step101) ?more101
                  case ho101 => rfl
                  case step101 =>
                   refine growF rfl (.tmp 56) (.tmp 58) rfl rfl rfl HZ5.out HFW.out.2.2 ?_
                   intro g5 c5 y6 hz
                   have HZ6 := hid hz
                   clear hz
                   try dsimp only
                   refine hK.out _ _ (fun hk => by cases (show true = false from hk)) (fun _ => ?_)
                   clear hK K
                   refine wpTill_any 15 (oi := ?oi102) (v := ?v102) ?ho102 (by kernel_rfl) (by kernel_rfl) (by kernel_rfl) (by kernel_rfl) ?hq102 (Or.inl ⟨?hw102, ?hy102⟩) (fun hk => by cases (show true = false from hk)) ?rest102
                   case ho102 => rfl
                   case hw102 => rfl
                   case hy102 => intro w; go_simp; try with_reducible rfl
                   case hq102 => exact fun _ _ _ h => h
                   refine wpTill_any 16 (oi := ?oi103) (v := ?v103) ?ho103 (by kernel_rfl) (by kernel_rfl) (by kernel_rfl) (by kernel_rfl) ?hq103 (Or.inl ⟨?hw103, ?hy103⟩) (fun hk => by cases (show true = false from hk)) ?rest103
                   case ho103 => rfl
                   case hw103 => rfl
                   case hy103 => intro w; go_simp; try with_reducible rfl
                   case hq103 => exact fun _ _ _ h => h
                   refine wpTill_any 17 (oi := ?oi104) (v := ?v104) ?ho104 (by kernel_rfl) (by kernel_rfl) (by kernel_rfl) (by kernel_rfl) ?hq104 (Or.inl ⟨?hw104, ?hy104⟩) (fun hk => by cases (show true = false from hk)) ?rest104
                   case ho104 => rfl
                   case hw104 => rfl
                   case hy104 => intro w; go_simp; try with_reducible rfl
                   case hq104 => exact fun _ _ _ h => h
                   refine wpTill_done (by kernel_rfl) ?_ _
                   have hbd := HFW.out
                   go_wp2_with fail
                   go_ret
                   exact ⟨⟨_, by first | omega | (have := HFW.out; omega), rfl⟩, by have h1 := HZ6.out.h; have h2 := HZ6.out.sz; omega, HZ6.out.os, HZ6.out.tape, HZ6.out.output, fun b hb h1 h2 h3 => HZ6.out.k b (by rw [← HZ6.out.h]; exact hb) h1 h2 h3⟩
                  case more101 =>
                   exact AllTill.nil
                 case more100 =>
                  exact AllTill.nil
                case more99 =>
                 exact AllTill.nil
               case more98 =>
                exact AllTill.nil
             case more84 =>
              refine AllTill.consH (o := ?oi105) ?ho105 (fun K hK => ?step105) ?more105
              case ho105 => rfl
              case step105 =>
               go_simp
               obtain ⟨P2, hP⟩ : ∃ P, y1.heap.size = P := ⟨_, rfl⟩
               obtain ⟨y2, hy⟩ : ∃ u, y1.alloc (.cells #[.string ⟨#[]⟩, .string ⟨#[]⟩, .string ⟨#[]⟩, .string ⟨#[]⟩] 53) = u := ⟨_, rfl⟩
               have HZ2 := hid (putF HZ1.out hP hy)
               rw [hP, hy]
               clear hP hy
               refine hK.out _ _ (fun _ => HZ2.out.x) (fun hHeld => ?_)
               have HS105 := hid (hHeld (by kernel_rfl))
               clear hHeld hK K
               refine wpTill_ready (rs := [3]) (by kernel_rfl) (by decide) ?_
               refine AllTill.consH (o := ?oi106) ?ho106 (fun K hK => ?step106) ?more106
               case ho106 => rfl
               case step106 =>
                go_simp
                obtain ⟨P0, hP⟩ : ∃ P, y2.heap.size = P := ⟨_, rfl⟩
                obtain ⟨y3, hy⟩ : ∃ u, y2.alloc (.cells #[.string ⟨#[]⟩, .int .u8 0, .int .i64 0, .bool false, .string ⟨#[]⟩] 51) = u := ⟨_, rfl⟩
                have HZ3 := hid (putB HZ2.out hP hy)
                rw [hP, hy]
                clear hP hy
                refine hK.out _ _ (fun _ => HZ3.out.x) (fun hHeld => ?_)
                have HS106 := hid (hHeld (by kernel_rfl))
                clear hHeld hK K
                refine wpTill_ready (rs := [4]) (by kernel_rfl) (by decide) ?_
                refine AllTill.consH (o := ?oi107) ?ho107 (fun K hK => ?step107) ?more107
                case ho107 => rfl
                case step107 =>
                 refine growB rfl (.tmp 46) (.tmp 48) rfl rfl rfl HZ3.out HFW.out.1 ?_
                 intro g3 c3 y4 hz
                 have HZ4 := hid hz
                 clear hz
                 try dsimp only
                 refine hK.out _ _ (fun _ => HZ4.out.x) (fun hHeld => ?_)
                 have HS107 := hid (hHeld (by kernel_rfl))
                 clear hHeld hK K
                 refine wpTill_ready (rs := [9]) (by kernel_rfl) (by decide) ?_
                 refine AllTill.consH (o := ?oi108) ?ho108 (fun K hK => ?step108) ?more108
                 case ho108 => rfl
                 case step108 =>
                  refine growE rfl (.tmp 51) (.tmp 53) rfl rfl rfl HZ4.out HFW.out.2.1 ?_
                  intro g4 c4 y5 hz
                  have HZ5 := hid hz
                  clear hz
                  try dsimp only
                  refine hK.out _ _ (fun _ => HZ5.out.x) (fun hHeld => ?_)
                  have HS108 := hid (hHeld (by kernel_rfl))
                  clear hHeld hK K
                  refine wpTill_ready (rs := [14]) (by kernel_rfl) (by decide) ?_
                  refine AllTill.consH (o := ?oi109) ?ho109 (fun K hK => ?step109) ?more109
                  case ho109 => rfl
                  case step109 =>
                   refine growF rfl (.tmp 56) (.tmp 58) rfl rfl rfl HZ5.out HFW.out.2.2 ?_
                   intro g5 c5 y6 hz
                   have HZ6 := hid hz
                   clear hz
                   try dsimp only
                   refine hK.out _ _ (fun hk => by cases (show true = false from hk)) (fun _ => ?_)
                   clear hK K
                   refine wpTill_any 15 (oi := ?oi110) (v := ?v110) ?ho110 (by kernel_rfl) (by kernel_rfl) (by kernel_rfl) (by kernel_rfl) ?hq110 (Or.inl ⟨?hw110, ?hy110⟩) (fun hk => by cases (show true = false from hk)) ?rest110
                   case ho110 => rfl
                   case hw110 => rfl
                   case hy110 => intro w; go_simp; try with_reducible rfl
                   case hq110 => exact fun _ _ _ h => h
                   refine wpTill_any 16 (oi := ?oi111) (v := ?v111) ?ho111 (by kernel_rfl) (by kernel_rfl) (by kernel_rfl) (by kernel_rfl) ?hq111 (Or.inl ⟨?hw111, ?hy111⟩) (fun hk => by cases (show true = false from hk)) ?rest111
                   case ho111 => rfl
                   case hw111 => rfl
                   case hy111 => intro w; go_simp; try with_reducible rfl
                   case hq111 => exact fun _ _ _ h => h
                   refine wpTill_any 17 (oi := ?oi112) (v := ?v112) ?ho112 (by kernel_rfl) (by kernel_rfl) (by kernel_rfl) (by kernel_rfl) ?hq112 (Or.inl ⟨?hw112, ?hy112⟩) (fun hk => by cases (show true = false from hk)) ?rest112
                   case ho112 => rfl
                   case hw112 => rfl
                   case hy112 => intro w; go_simp; try with_reducible rfl
                   case hq112 => exact fun _ _ _ h => h
                   refine wpTill_done (by kernel_rfl) ?_ _
                   have hbd := HFW.out
                   go_wp2_with fail
                   go_ret
                   exact ⟨⟨_, by first | omega | (have := HFW.out; omega), rfl⟩, by have h1 := HZ6.out.h; have h2 := HZ6.out.sz; omega, HZ6.out.os, HZ6.out.tape, HZ6.out.output, fun b hb h1 h2 h3 => HZ6.out.k b (by rw [← HZ6.out.h]; exact hb) h1 h2 h3⟩
                  case more109 =>
                   exact AllTill.nil
                 case more108 =>
                  exact AllTill.nil
                case more107 =>
                 exact AllTill.nil
               case more106 =>
                exact AllTill.nil
              case more105 =>
               exact AllTill.nil
           case more83 =>
             refine AllTill.consH (o := ?oi113) ?ho113 (fun K hK => ?step113) ?more113
             case ho113 => rfl
             case step113 =>
              go_simp
              obtain ⟨P2, hP⟩ : ∃ P, y0.heap.size = P := ⟨_, rfl⟩
              obtain ⟨y1, hy⟩ : ∃ u, y0.alloc (.cells #[.string ⟨#[]⟩, .string ⟨#[]⟩, .string ⟨#[]⟩, .string ⟨#[]⟩] 53) = u := ⟨_, rfl⟩
              have HZ1 := hid (putF HZ0.out hP hy)
              rw [hP, hy]
              clear hP hy
              refine hK.out _ _ (fun _ => HZ1.out.x) (fun hHeld => ?_)
              have HS113 := hid (hHeld (by kernel_rfl))
              clear hHeld hK K
              refine wpTill_ready (rs := [3, 8]) (by kernel_rfl) (by decide) ?_
              refine AllTill.consH (o := ?oi114) ?ho114 (fun K hK => ?step114) ?more114
              case ho114 => rfl
              case step114 =>
               go_simp
               obtain ⟨P0, hP⟩ : ∃ P, y1.heap.size = P := ⟨_, rfl⟩
               obtain ⟨y2, hy⟩ : ∃ u, y1.alloc (.cells #[.string ⟨#[]⟩, .int .u8 0, .int .i64 0, .bool false, .string ⟨#[]⟩] 51) = u := ⟨_, rfl⟩
               have HZ2 := hid (putB HZ1.out hP hy)
               rw [hP, hy]
               clear hP hy
               refine hK.out _ _ (fun _ => HZ2.out.x) (fun hHeld => ?_)
               have HS114 := hid (hHeld (by kernel_rfl))
               clear hHeld hK K
               refine wpTill_ready (rs := [4, 8]) (by kernel_rfl) (by decide) ?_
               refine AllTill.consH (o := ?oi115) ?ho115 (fun K hK => ?step115) ?more115
               case ho115 => rfl
               case step115 =>
                refine growB rfl (.tmp 46) (.tmp 48) rfl rfl rfl HZ2.out HFW.out.1 ?_
                intro g2 c2 y3 hz
                have HZ3 := hid hz
                clear hz
                try dsimp only
                refine hK.out _ _ (fun _ => HZ3.out.x) (fun hHeld => ?_)
                have HS115 := hid (hHeld (by kernel_rfl))
                clear hHeld hK K
                refine wpTill_ready (rs := [8]) (by kernel_rfl) (by decide) ?_
                refine AllTill.consH (o := ?oi116) ?ho116 (fun K hK => ?step116) ?more116
                case ho116 => rfl
                case step116 =>
                 go_simp
                 obtain ⟨P1, hP⟩ : ∃ P, y3.heap.size = P := ⟨_, rfl⟩
                 obtain ⟨y4, hy⟩ : ∃ u, y3.alloc (.cells #[.string ⟨#[]⟩, .string ⟨#[]⟩, .int .u8 0, .string ⟨#[]⟩, .string ⟨#[]⟩, .string ⟨#[]⟩, .int .u8 0, .string ⟨#[]⟩, .string ⟨#[]⟩, .int .i64 0, .int .i64 0] 36) = u := ⟨_, rfl⟩
                 have HZ4 := hid (putE HZ3.out hP hy)
                 rw [hP, hy]
                 clear hP hy
                 refine hK.out _ _ (fun _ => HZ4.out.x) (fun hHeld => ?_)
                 have HS116 := hid (hHeld (by kernel_rfl))
                 clear hHeld hK K
                 refine wpTill_ready (rs := [9]) (by kernel_rfl) (by decide) ?_
                 refine AllTill.consH (o := ?oi117) ?ho117 (fun K hK => ?step117) ?more117
                 case ho117 => rfl
                 case step117 =>
                  refine growE rfl (.tmp 51) (.tmp 53) rfl rfl rfl HZ4.out HFW.out.2.1 ?_
                  intro g4 c4 y5 hz
                  have HZ5 := hid hz
                  clear hz
                  try dsimp only
                  refine hK.out _ _ (fun _ => HZ5.out.x) (fun hHeld => ?_)
                  have HS117 := hid (hHeld (by kernel_rfl))
                  clear hHeld hK K
                  refine wpTill_ready (rs := [14]) (by kernel_rfl) (by decide) ?_
                  refine AllTill.consH (o := ?oi118) ?ho118 (fun K hK => ?step118) ?more118
                  case ho118 => rfl
                  case step118 =>
                   refine growF rfl (.tmp 56) (.tmp 58) rfl rfl rfl HZ5.out HFW.out.2.2 ?_
                   intro g5 c5 y6 hz
                   have HZ6 := hid hz
                   clear hz
                   try dsimp only
                   refine hK.out _ _ (fun hk => by cases (show true = false from hk)) (fun _ => ?_)
                   clear hK K
                   refine wpTill_any 15 (oi := ?oi119) (v := ?v119) ?ho119 (by kernel_rfl) (by kernel_rfl) (by kernel_rfl) (by kernel_rfl) ?hq119 (Or.inl ⟨?hw119, ?hy119⟩) (fun hk => by cases (show true = false from hk)) ?rest119
                   case ho119 => rfl
                   case hw119 => rfl
                   case hy119 => intro w; go_simp; try with_reducible rfl
                   case hq119 => exact fun _ _ _ h => h
                   refine wpTill_any 16 (oi := ?oi120) (v := ?v120) ?ho120 (by kernel_rfl) (by kernel_rfl) (by kernel_rfl) (by kernel_rfl) ?hq120 (Or.inl ⟨?hw120, ?hy120⟩) (fun hk => by cases (show true = false from hk)) ?rest120
                   case ho120 => rfl
                   case hw120 => rfl
                   case hy120 => intro w; go_simp; try with_reducible rfl
                   case hq120 => exact fun _ _ _ h => h
                   refine wpTill_any 17 (oi := ?oi121) (v := ?v121) ?ho121 (by kernel_rfl) (by kernel_rfl) (by kernel_rfl) (by kernel_rfl) ?hq121 (Or.inl ⟨?hw121, ?hy121⟩) (fun hk => by cases (show true = false from hk)) ?rest121
                   case ho121 => rfl
                   case hw121 => rfl
                   case hy121 => intro w; go_simp; try with_reducible rfl
                   case hq121 => exact fun _ _ _ h => h
                   refine wpTill_done (by kernel_rfl) ?_ _
                   have hbd := HFW.out
                   go_wp2_with fail
                   go_ret
                   exact ⟨⟨_, by first | omega | (have := HFW.out; omega), rfl⟩, by have h1 := HZ6.out.h; have h2 := HZ6.out.sz; omega, HZ6.out.os, HZ6.out.tape, HZ6.out.output, fun b hb h1 h2 h3 => HZ6.out.k b (by rw [← HZ6.out.h]; exact hb) h1 h2 h3⟩
                  case more118 =>
                   exact AllTill.nil
                 case more117 =>
                  exact AllTill.nil
                case more116 =>
                 exact AllTill.nil
               case more115 =>
                refine AllTill.consH (o := ?oi122) ?ho122 (fun K hK => ?step122) ?more122
                case ho122 => rfl
                case step122 =>
                 go_simp
                 obtain ⟨P1, hP⟩ : ∃ P, y2.heap.size = P := ⟨_, rfl⟩
                 obtain ⟨y3, hy⟩ : ∃ u, y2.alloc (.cells #[.string ⟨#[]⟩, .string ⟨#[]⟩, .int .u8 0, .string ⟨#[]⟩, .string ⟨#[]⟩, .string ⟨#[]⟩, .int .u8 0, .string ⟨#[]⟩, .string ⟨#[]⟩, .int .i64 0, .int .i64 0] 36) = u := ⟨_, rfl⟩
                 have HZ3 := hid (putE HZ2.out hP hy)
                 rw [hP, hy]
                 clear hP hy
                 refine hK.out _ _ (fun _ => HZ3.out.x) (fun hHeld => ?_)
                 have HS122 := hid (hHeld (by kernel_rfl))
                 clear hHeld hK K
                 refine wpTill_ready (rs := [4]) (by kernel_rfl) (by decide) ?_
                 refine AllTill.consH (o := ?oi123) ?ho123 (fun K hK => ?step123) ?more123
                 case ho123 => rfl
                 case step123 =>
                  refine growB rfl (.tmp 46) (.tmp 48) rfl rfl rfl HZ3.out HFW.out.1 ?_
                  intro g3 c3 y4 hz
                  have HZ4 := hid hz
                  clear hz
                  try dsimp only
                  refine hK.out _ _ (fun _ => HZ4.out.x) (fun hHeld => ?_)
                  have HS123 := hid (hHeld (by kernel_rfl))
                  clear hHeld hK K
                  refine wpTill_ready (rs := [9]) (by kernel_rfl) (by decide) ?_
                  refine AllTill.consH (o := ?oi124) ?ho124 (fun K hK => ?step124) ?more124
                  case ho124 => rfl
                  case step124 =>
                   refine growE rfl (.tmp 51) (.tmp 53) rfl rfl rfl HZ4.out HFW.out.2.1 ?_
                   intro g4 c4 y5 hz
                   have HZ5 := hid hz
                   clear hz
                   try dsimp only
                   refine hK.out _ _ (fun _ => HZ5.out.x) (fun hHeld => ?_)
                   have HS124 := hid (hHeld (by kernel_rfl))
                   clear hHeld hK K
                   refine wpTill_ready (rs := [14]) (by kernel_rfl) (by decide) ?_
                   refine AllTill.consH (o := ?oi125) ?ho125 (fun K hK => ?step125) ?more125
                   case ho125 => rfl
                   case step125 =>
                    refine growF rfl (.tmp 56) (.tmp 58) rfl rfl rfl HZ5.out HFW.out.2.2 ?_
                    intro g5 c5 y6 hz
                    have HZ6 := hid hz
                    clear hz
                    try dsimp only
                    refine hK.out _ _ (fun hk => by cases (show true = false from hk)) (fun _ => ?_)
                    clear hK K
                    refine wpTill_any 15 (oi := ?oi126) (v := ?v126) ?ho126 (by kernel_rfl) (by kernel_rfl) (by kernel_rfl) (by kernel_rfl) ?hq126 (Or.inl ⟨?hw126, ?hy126⟩) (fun hk => by cases (show true = false from hk)) ?rest126
                    case ho126 => rfl
                    case hw126 => rfl
                    case hy126 => intro w; go_simp; try with_reducible rfl
                    case hq126 => exact fun _ _ _ h => h
                    refine wpTill_any 16 (oi := ?oi127) (v := ?v127) ?ho127 (by kernel_rfl) (by kernel_rfl) (by kernel_rfl) (by kernel_rfl) ?hq127 (Or.inl ⟨?hw127, ?hy127⟩) (fun hk => by cases (show true = false from hk)) ?rest127
                    case ho127 => rfl
                    case hw127 => rfl
                    case hy127 => intro w; go_simp; try with_reducible rfl
                    case hq127 => exact fun _ _ _ h => h
                    refine wpTill_any 17 (oi := ?oi128) (v := ?v128) ?ho128 (by kernel_rfl) (by kernel_rfl) (by kernel_rfl) (by kernel_rfl) ?hq128 (Or.inl ⟨?hw128, ?hy128⟩) (fun hk => by cases (show true = false from hk)) ?rest128
                    case ho128 => rfl
                    case hw128 => rfl
                    case hy128 => intro w; go_simp; try with_reducible rfl
                    case hq128 => exact fun _ _ _ h => h
                    refine wpTill_done (by kernel_rfl) ?_ _
                    have hbd := HFW.out
                    go_wp2_with fail
                    go_ret
                    exact ⟨⟨_, by first | omega | (have := HFW.out; omega), rfl⟩, by have h1 := HZ6.out.h; have h2 := HZ6.out.sz; omega, HZ6.out.os, HZ6.out.tape, HZ6.out.output, fun b hb h1 h2 h3 => HZ6.out.k b (by rw [← HZ6.out.h]; exact hb) h1 h2 h3⟩
                   case more125 =>
                    exact AllTill.nil
                  case more124 =>
                   exact AllTill.nil
                 case more123 =>
                  exact AllTill.nil
                case more122 =>
                 exact AllTill.nil
              case more114 =>
               refine AllTill.consH (o := ?oi129) ?ho129 (fun K hK => ?step129) ?more129
               case ho129 => rfl
               case step129 =>
                go_simp
                obtain ⟨P1, hP⟩ : ∃ P, y1.heap.size = P := ⟨_, rfl⟩
                obtain ⟨y2, hy⟩ : ∃ u, y1.alloc (.cells #[.string ⟨#[]⟩, .string ⟨#[]⟩, .int .u8 0, .string ⟨#[]⟩, .string ⟨#[]⟩, .string ⟨#[]⟩, .int .u8 0, .string ⟨#[]⟩, .string ⟨#[]⟩, .int .i64 0, .int .i64 0] 36) = u := ⟨_, rfl⟩
                have HZ2 := hid (putE HZ1.out hP hy)
                rw [hP, hy]
                clear hP hy
                refine hK.out _ _ (fun _ => HZ2.out.x) (fun hHeld => ?_)
                have HS129 := hid (hHeld (by kernel_rfl))
                clear hHeld hK K
                refine wpTill_ready (rs := [3]) (by kernel_rfl) (by decide) ?_
                refine AllTill.consH (o := ?oi130) ?ho130 (fun K hK => ?step130) ?more130
                case ho130 => rfl
                case step130 =>
                 go_simp
                 obtain ⟨P0, hP⟩ : ∃ P, y2.heap.size = P := ⟨_, rfl⟩
                 obtain ⟨y3, hy⟩ : ∃ u, y2.alloc (.cells #[.string ⟨#[]⟩, .int .u8 0, .int .i64 0, .bool false, .string ⟨#[]⟩] 51) = u := ⟨_, rfl⟩
                 have HZ3 := hid (putB HZ2.out hP hy)
                 rw [hP, hy]
                 clear hP hy
                 refine hK.out _ _ (fun _ => HZ3.out.x) (fun hHeld => ?_)
                 have HS130 := hid (hHeld (by kernel_rfl))
                 clear hHeld hK K
                 refine wpTill_ready (rs := [4]) (by kernel_rfl) (by decide) ?_
                 refine AllTill.consH (o := ?oi131) ?ho131 (fun K hK => ?step131) ?more131
                 case ho131 => rfl
                 case step131 =>
                  refine growB rfl (.tmp 46) (.tmp 48) rfl rfl rfl HZ3.out HFW.out.1 ?_
                  intro g3 c3 y4 hz
                  have HZ4 := hid hz
                  clear hz
                  try dsimp only
                  refine hK.out _ _ (fun _ => HZ4.out.x) (fun hHeld => ?_)
                  have HS131 := hid (hHeld (by kernel_rfl))
                  clear hHeld hK K
                  refine wpTill_ready (rs := [9]) (by kernel_rfl) (by decide) ?_
                  refine AllTill.consH (o := ?oi132) ?ho132 (fun K hK => ?step132) ?more132
                  case ho132 => rfl
                  case step132 =>
                   refine growE rfl (.tmp 51) (.tmp 53) rfl rfl rfl HZ4.out HFW.out.2.1 ?_
                   intro g4 c4 y5 hz
                   have HZ5 := hid hz
                   clear hz
                   try dsimp only
                   refine hK.out _ _ (fun _ => HZ5.out.x) (fun hHeld => ?_)
                   have HS132 := hid (hHeld (by kernel_rfl))
                   clear hHeld hK K
                   refine wpTill_ready (rs := [14]) (by kernel_rfl) (by decide) ?_
                   refine AllTill.consH (o := ?oi133) ?ho133 (fun K hK => ?step133) ?more133
                   case ho133 => rfl
                   case step133 =>
                    refine growF rfl (.tmp 56) (.tmp 58) rfl rfl rfl HZ5.out HFW.out.2.2 ?_
                    intro g5 c5 y6 hz
                    have HZ6 := hid hz
                    clear hz
                    try dsimp only
                    refine hK.out _ _ (fun hk => by cases (show true = false from hk)) (fun _ => ?_)
                    clear hK K
                    refine wpTill_any 15 (oi := ?oi134) (v := ?v134) ?ho134 (by kernel_rfl) (by kernel_rfl) (by kernel_rfl) (by kernel_rfl) ?hq134 (Or.inl ⟨?hw134, ?hy134⟩) (fun hk => by cases (show true = false from hk)) ?rest134
                    case ho134 => rfl
                    case hw134 => rfl
                    case hy134 => intro w; go_simp; try with_reducible rfl
                    case hq134 => exact fun _ _ _ h => h
                    refine wpTill_any 16 (oi := ?oi135) (v := ?v135) ?ho135 (by kernel_rfl) (by kernel_rfl) (by kernel_rfl) (by kernel_rfl) ?hq135 (Or.inl ⟨?hw135, ?hy135⟩) (fun hk => by cases (show true = false from hk)) ?rest135
                    case ho135 => rfl
                    case hw135 => rfl
                    case hy135 => intro w; go_simp; try with_reducible rfl
                    case hq135 => exact fun _ _ _ h => h
                    refine wpTill_any 17 (oi := ?oi136) (v := ?v136) ?ho136 (by kernel_rfl) (by kernel_rfl) (by kernel_rfl) (by kernel_rfl) ?hq136 (Or.inl ⟨?hw136, ?hy136⟩) (fun hk => by cases (show true = false from hk)) ?rest136
                    case ho136 => rfl
                    case hw136 => rfl
                    case hy136 => intro w; go_simp; try with_reducible rfl
                    case hq136 => exact fun _ _ _ h => h
                    refine wpTill_done (by kernel_rfl) ?_ _
                    have hbd := HFW.out
                    go_wp2_with fail
                    go_ret
                    exact ⟨⟨_, by first | omega | (have := HFW.out; omega), rfl⟩, by have h1 := HZ6.out.h; have h2 := HZ6.out.sz; omega, HZ6.out.os, HZ6.out.tape, HZ6.out.output, fun b hb h1 h2 h3 => HZ6.out.k b (by rw [← HZ6.out.h]; exact hb) h1 h2 h3⟩
                   case more133 =>
                    exact AllTill.nil
                  case more132 =>
                   exact AllTill.nil
                 case more131 =>
                  exact AllTill.nil
                case more130 =>
                 exact AllTill.nil
               case more129 =>
                exact AllTill.nil
             case more113 =>
              exact AllTill.nil
end Go.Proofs.YteejphiklpnjhaaGreatDoor
namespace Go.Proofs.YteejphiklpnjhaaGreatDoor
set_option maxRecDepth 100000
set_option maxHeartbeats 16000000
open Go.RowKit Go.Maps
open Go.Lib (hid)
theorem MIn.eq {w : World} {x : Mdl} {cs : List Value} (h : MIn w x cs) : ∃ a b c d e f, cs = [.string x.id, .string x.nm, .slice a x.vs.length b, .slice c x.es.length d, .slice e x.fs.length f] := h.shape
def inRows (cs : List Value) (b : Nat) : Prop := ∃ v ∈ cs, v.ownBlock = some b
def MOwn2 (w : World) (B N : Nat) (x : Mdl) (cs : List Value) : Prop := MOwn w B x cs ∧ ∀ b, inRows cs b → b < N
theorem MOwn.rows {w : World} {B : Nat} {x : Mdl} {cs : List Value} (h : MOwn w B x cs) : ∀ b, inRows cs b → B ≤ b ∧ b < w.heap.size := by
 obtain ⟨v, e, f, rfl, h1, h2, h3⟩ := h
 rintro b ⟨u, hu, hb⟩
 simp only [List.mem_cons, List.not_mem_nil, or_false] at hu
 rcases hu with rfl | rfl | rfl | rfl | rfl
 · cases hb
 · cases hb
 · exact World.ownsRow.lt h1 b hb
 · exact World.ownsRow.lt h2 b hb
 · exact World.ownsRow.lt h3 b hb
theorem MOwn.keep {w w' : World} {B : Nat} {x : Mdl} {cs : List Value} (h : MOwn w B x cs) (hs : w.heap.size ≤ w'.heap.size) (hk : ∀ b, inRows cs b → w'.heap[b]? = w.heap[b]?) : MIn w' x cs := by
 obtain ⟨v, e, f, rfl, h1, h2, h3⟩ := h
 exact ⟨v, e, f, rfl, InB.keep h1 hs (fun g hg => hk g ⟨v, by simp, hg⟩), InE.keep h2 hs (fun g hg => hk g ⟨e, by simp, hg⟩), InF.keep h3 hs (fun g hg => hk g ⟨f, by simp, hg⟩)⟩
structure RG (W : World) (x : Mdl) (p q : Option Nat) (a b : Option (List Value)) (y : World) : Prop where
 bb : Below W.heap.size W y
 pp : ∀ k, p = some k → W.heap.size ≤ k ∧ y.heap[k]? = some (.cells #[.string ⟨#[]⟩, .string ⟨#[]⟩, .slice none 0 0, .slice none 0 0, .slice none 0 0] 30 (0, 0))
 qq : ∀ k, q = some k → W.heap.size ≤ k ∧ y.heap[k]? = some (.cells #[.string ⟨#[]⟩, .string ⟨#[]⟩, .slice none 0 0, .slice none 0 0, .slice none 0 0] 30 (0, 0))
 dd : ∀ k j, p = some k → q = some j → k ≠ j
 ao : ∀ c, a = some c → MOwn y W.heap.size x c
 bo : ∀ c, b = some c → MOwn y W.heap.size x c
 ab : ∀ c d, a = some c → b = some d → ∃ N, (∀ k, inRows c k → k < N) ∧ ∀ k, inRows d k → N ≤ k
section
variable {W y y' : World} {x : Mdl} {p q : Option Nat} {a b : Option (List Value)}
theorem RG.first (W : World) (x : Mdl) (hb : Below W.heap.size W y) : RG W x none none none none y :=
 ⟨hb, (fun _ h => by cases h), (fun _ h => by cases h), (fun _ _ h => by cases h), (fun _ h => by cases h), (fun _ h => by cases h), (fun _ _ h => by cases h)⟩
theorem RG.below (h : RG W x p q a b y) (hb : Below y.heap.size y y') : RG W x p q a b y' :=
 ⟨h.bb.trans (hb.mono h.bb.size), fun k hk => ⟨(h.pp k hk).1, (hb.block _ (Go.lt_of_block (h.pp k hk).2)).trans (h.pp k hk).2⟩, fun k hk => ⟨(h.qq k hk).1, (hb.block _ (Go.lt_of_block (h.qq k hk).2)).trans (h.qq k hk).2⟩, h.dd, fun c hc => (h.ao c hc).below hb, fun c hc => (h.bo c hc).below hb, h.ab⟩
theorem RG.newP (h : RG W x none q a b y) {k : Nat} (hk : y.heap.size = k) (hy : y.alloc (.cells #[.string ⟨#[]⟩, .string ⟨#[]⟩, .slice none 0 0, .slice none 0 0, .slice none 0 0] 30) = y') : RG W x (some k) q a b y' := by
 subst hk hy
 have h2 := h.below ((Below.refl y.heap.size y).alloc (Nat.le_refl _) (.cells #[.string ⟨#[]⟩, .string ⟨#[]⟩, .slice none 0 0, .slice none 0 0, .slice none 0 0] 30))
 exact { h2 with pp := fun k hk => (by obtain rfl := Option.some.inj hk; exact ⟨h.bb.size, heap_alloc_new y _⟩), dd := fun k j hk hj e => (by obtain rfl := Option.some.inj hk; have := Go.lt_of_block (h.qq j hj).2; omega) }
theorem RG.newQ (h : RG W x p none a b y) {k : Nat} (hk : y.heap.size = k) (hy : y.alloc (.cells #[.string ⟨#[]⟩, .string ⟨#[]⟩, .slice none 0 0, .slice none 0 0, .slice none 0 0] 30) = y') : RG W x p (some k) a b y' := by
 subst hk hy
 have h2 := h.below ((Below.refl y.heap.size y).alloc (Nat.le_refl _) (.cells #[.string ⟨#[]⟩, .string ⟨#[]⟩, .slice none 0 0, .slice none 0 0, .slice none 0 0] 30))
 exact { h2 with qq := fun k hk => (by obtain rfl := Option.some.inj hk; exact ⟨h.bb.size, heap_alloc_new y _⟩), dd := fun k j hk hj e => (by obtain rfl := Option.some.inj hj; have := Go.lt_of_block (h.pp k hk).2; omega) }
theorem MOwn.low {w : World} {B B' : Nat} {x : Mdl} {cs : List Value} (h : MOwn w B x cs) (hB : B' ≤ B) : MOwn w B' x cs := by
 obtain ⟨v, e, f, h0, h1, h2, h3⟩ := h
 exact ⟨v, e, f, h0, h1.mono hB, h2.mono hB, h3.mono hB⟩
theorem RG.one (h : RG W x p q none none y) (hb : Below y.heap.size y y') {c : List Value} (hc : MOwn y' y.heap.size x c) : RG W x p q (some c) none y' := by
 have h2 := h.below hb
 exact { h2 with ao := fun c' hc' => (by obtain rfl := Option.some.inj hc'; exact hc.low h.bb.size), ab := fun _ _ _ h => (by cases h) }
theorem RG.two (h : RG W x p q a none y) (hb : Below y.heap.size y y') {c : List Value} (hc : MOwn y' y.heap.size x c) : RG W x p q a (some c) y' := by
 have h2 := h.below hb
 refine { h2 with bo := fun c' hc' => (by obtain rfl := Option.some.inj hc'; exact hc.low h.bb.size), ab := fun c' d hc' hd => ⟨y.heap.size, fun k hk => ((h.ao c' hc').rows k hk).2, fun k hk => ?_⟩ }
 obtain rfl := Option.some.inj hd
 exact (hc.rows k hk).1
end
structure LW (W : World) (H Q p q : Nat) (x y : Mdl) (cm cn ci ca cb : List Value) (w : World) : Prop where
 b : Below W.heap.size W w
 h : W.heap.size = H
 m : w.heap[H]? = some (.cells cm.toArray 30 (0, 0))
 n : w.heap[H + 1]? = some (.cells cn.toArray 30 (0, 0))
 i : w.heap[Q]? = some (.cells ci.toArray 30 (0, 0))
 a : w.heap[p]? = some (.cells ca.toArray 30 (0, 0))
 k : w.heap[q]? = some (.cells cb.toArray 30 (0, 0))
 im : MIn w x cm
 ni : MIn w y cn
 ii : MIn w x ci
 ia : MIn w x ca
 ib : MIn w x cb
section
variable {W w w' : World} {H Q p q : Nat} {x y : Mdl} {cm cn ci ca cb : List Value}
theorem LW.below (h : LW W H Q p q x y cm cn ci ca cb w) (hb : Below w.heap.size w w') : LW W H Q p q x y cm cn ci ca cb w' :=
 ⟨h.b.trans (hb.mono h.b.size), h.h, (hb.block _ (Go.lt_of_block h.m)).trans h.m, (hb.block _ (Go.lt_of_block h.n)).trans h.n, (hb.block _ (Go.lt_of_block h.i)).trans h.i, (hb.block _ (Go.lt_of_block h.a)).trans h.a, (hb.block _ (Go.lt_of_block h.k)).trans h.k, h.im.below hb, h.ni.below hb, h.ii.below hb, h.ia.below hb, h.ib.below hb⟩
end
theorem MOwn.past {w w' : World} {B p : Nat} {x : Mdl} {cs : List Value} {c0 : Array Value} (h : MOwn w B x cs) (hp : w.heap[p]? = some (.cells c0 30 (0, 0))) (g : w.grownBy w' (some p)) : MOwn w' B x cs := by
 obtain ⟨v, e, f, h0, h1, h2, h3⟩ := h
 have ne : ∀ {v : Value} {T : TypeId} {size n : Nat} {xs : List Value}, w.ownsRow B T size v n xs → T ≠ 30 → v.ownBlock = none ∨ v.ownBlock ≠ some p := fun ho hT => Or.inr (fun e => by
  obtain ⟨c, hc⟩ := own_at ho e
  rw [hp] at hc
  injection hc with hc
  injection hc with _ hc _
  exact hT hc.symm)
 exact ⟨v, e, f, h0, h1.kept g (ne h1 (by decide)), h2.kept g (ne h2 (by decide)), h3.kept g (ne h3 (by decide))⟩
theorem lw_made {W0 w4 y : World} {H Q p q : Nat} {x z : Mdl} {cm cn ci ca cb : List Value} (hb : Below W0.heap.size W0 w4) (hH : W0.heap.size = H) (h : RG w4 x (some p) (some q) (some ca) (some cb) y)
  (hm : w4.heap[H]? = some (.cells cm.toArray 30 (0, 0))) (hn : w4.heap[H + 1]? = some (.cells cn.toArray 30 (0, 0))) (hi : w4.heap[Q]? = some (.cells ci.toArray 30 (0, 0))) (im : MIn w4 x cm) (ni : MIn w4 z cn) (ii : MIn w4 x ci) (la : ca.length = 5) (lb : cb.length = 5) :
  LW W0 H Q p q x z cm cn ci ca cb (sts (sts y p 0 ca) q 0 cb) ∧ MOwn (sts (sts y p 0 ca) q 0 cb) w4.heap.size x ca ∧ MOwn (sts (sts y p 0 ca) q 0 cb) w4.heap.size x cb ∧ (∃ N, (∀ k, inRows ca k → k < N) ∧ ∀ k, inRows cb k → N ≤ k) ∧ Below w4.heap.size w4 (sts (sts y p 0 ca) q 0 cb) := by
 obtain ⟨hp1, hp2⟩ := h.pp p rfl
 obtain ⟨hq1, hq2⟩ := h.qq q rfl
 have hd := h.dd p q rfl rfl
 have g1 := sts_grown ca y p 0
 have g2 := sts_grown cb (sts y p 0 ca) q 0
 have hq3 := (g1.block q (Go.lt_of_block hq2) (fun e => hd (Option.some.inj e).symm)).trans hq2
 have hz := h.bb.size
 have hb2 : Below w4.heap.size w4 (sts (sts y p 0 ca) q 0 cb) := (h.bb.grown g1 hz (fun k hk => by cases hk; exact hp1)).grown g2 (by rw [sts_size]; exact hz) (fun k hk => by cases hk; exact hq1)
 have ra := sts_row ca [] [.string ⟨#[]⟩, .string ⟨#[]⟩, .slice none 0 0, .slice none 0 0, .slice none 0 0] y hp2 (by rw [la]; rfl)
 have ra2 := (g2.block p (by rw [sts_size]; exact Go.lt_of_block hp2) (fun e => hd (Option.some.inj e))).trans ra
 have rb := sts_row cb [] [.string ⟨#[]⟩, .string ⟨#[]⟩, .slice none 0 0, .slice none 0 0, .slice none 0 0] (sts y p 0 ca) hq3 (by rw [lb]; rfl)
 have oa := ((h.ao ca rfl).past hp2 g1).past hq3 g2
 have ob := ((h.bo cb rfl).past hp2 g1).past hq3 g2
 exact ⟨⟨hb.trans (hb2.mono hb.size), hH, (hb2.block _ (Go.lt_of_block hm)).trans hm, (hb2.block _ (Go.lt_of_block hn)).trans hn, (hb2.block _ (Go.lt_of_block hi)).trans hi, ra2, rb, im.below hb2, ni.below hb2, ii.below hb2, oa.in, ob.in⟩, oa, ob, h.ab ca cb rfl rfl, hb2⟩
theorem LW.spoilt {W w w' : World} {H Q p q N B : Nat} {x y : Mdl} {cm cn ci ca cb : List Value} (h : LW W H Q p q x y cm cn ci ca cb w) (oa : MOwn w B x ca) (ob : MOwn w B x cb) (oi : MOwn w H x ci) (hi : ∀ k, inRows ci k → k < B) (hN : (∀ k, inRows ca k → k < N) ∧ ∀ k, inRows cb k → N ≤ k) (hB : H ≤ B) (im : MIn W x cm)
  (hos : w'.os = w.os) (htp : w'.tape = w.tape) (hot : w'.output = w.output) (hz : w.heap.size ≤ w'.heap.size) (hk : ∀ b, b < w.heap.size → ¬ inRows ca b → w'.heap[b]? = w.heap[b]?) :
  Below W.heap.size W w' ∧ w'.heap[H]? = some (.cells cm.toArray 30 (0, 0)) ∧ w'.heap[Q]? = some (.cells ci.toArray 30 (0, 0)) ∧ w'.heap[q]? = some (.cells cb.toArray 30 (0, 0)) ∧ MIn w' x cm ∧ MIn w' x ci ∧ MIn w' x cb := by
 have ra : ∀ b, inRows ca b → B ≤ b := fun b hb => (oa.rows b hb).1
 have hw := h.b.size
 have hb : Below W.heap.size W w' := ⟨hos.trans h.b.os, htp.trans h.b.tape, hot.trans h.b.output, Nat.le_trans hw hz, fun b hb => (hk b (by omega) (fun e => by have := ra b e; have := h.h; omega)).trans (h.b.block b hb)⟩
 have far : ∀ {b : Nat} {cs : Array Value}, w.heap[b]? = some (.cells cs 30 (0, 0)) → w'.heap[b]? = some (.cells cs 30 (0, 0)) := fun {b} {cs} hb => (hk b (Go.lt_of_block hb) (fun e => by
  obtain ⟨v, e1, f, rfl, h1, h2, h3⟩ := oa
  obtain ⟨u, hu, hub⟩ := e
  simp only [List.mem_cons, List.not_mem_nil, or_false] at hu
  have no : ∀ {v : Value} {T : TypeId} {size n : Nat} {xs : List Value}, w.ownsRow B T size v n xs → T ≠ 30 → v.ownBlock = some b → False := fun ho hT e => by
    obtain ⟨c, hc⟩ := own_at ho e
    rw [hb] at hc
    injection hc with hc
    injection hc with _ hc _
    exact hT hc.symm
  rcases hu with rfl | rfl | rfl | rfl | rfl
  · cases hub
  · cases hub
  · exact no h1 (by decide) hub
  · exact no h2 (by decide) hub
  · exact no h3 (by decide) hub)).trans hb
 exact ⟨hb, far h.m, far h.i, far h.k, im.below hb, oi.keep hz (fun b hb => hk b (oi.rows b hb).2 (fun e => by have := hi b hb; have := ra b e; omega)), ob.keep hz (fun b hb => hk b (ob.rows b hb).2 (fun e => by have h1 := hN.1 b e; have h2 := hN.2 b hb; omega))⟩
structure LX (W : World) (H Q p q : Nat) (x y : Mdl) (cm cn ci ca cb : List Value) (B : Nat) (w : World) : Prop where
 l : LW W H Q p q x y cm cn ci ca cb w
 oa : MOwn w B x ca
 ob : MOwn w B x cb
 oi : MOwn w H x ci
 hz : B ≤ w.heap.size
theorem LX.below {W w w' : World} {H Q p q B : Nat} {x y : Mdl} {cm cn ci ca cb : List Value} (h : LX W H Q p q x y cm cn ci ca cb B w) (hb : Below w.heap.size w w') : LX W H Q p q x y cm cn ci ca cb B w' :=
 ⟨h.l.below hb, h.oa.below hb, h.ob.below hb, h.oi.below hb, Nat.le_trans h.hz hb.size⟩
def SpOwn (cs : List Value) (w : World) (en : Ending) (w' : World) : Prop :=
 (∃ k : Int, 0 < k ∧ en = .returned (.int .i64 k)) ∧ w.heap.size ≤ w'.heap.size ∧ w'.os = w.os ∧ w'.tape = w.tape ∧ w'.output = w.output ∧ ∀ b, b < w.heap.size → ¬ inRows cs b → w'.heap[b]? = w.heap[b]?
theorem spoil_own {w : World} {B : Nat} {x : Mdl} {cs : List Value} (h : MOwn w B x cs) (hB : B ≤ w.heap.size) (hf : x.few) : Calls Tryz.prog 13 #[.agg cs.toArray] w (SpOwn cs w) := by
 obtain ⟨v, e, f, rfl, h1, h2, h3⟩ := h
 refine (spoil_any hB h1 h2 h3 hf).mono ?_
 rintro en w' ⟨g1, g2, g3, g4, g5, g6⟩
 refine ⟨g1, g2, g3, g4, g5, fun b hb hn => g6 b hb (fun e => hn ⟨v, by simp, e.symm⟩) (fun e' => hn ⟨e, by simp, e'.symm⟩) (fun e' => hn ⟨f, by simp, e'.symm⟩)⟩
theorem few_cut {x : Mdl} (h : x.few) : x.cut := by
 unfold Mdl.few at h
 unfold Mdl.cut
 omega
end Go.Proofs.YteejphiklpnjhaaGreatDoor
