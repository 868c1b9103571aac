/- Namespaces; places; elements in memory. -/
import Derived.Test.YteejphiklpnjhaaGreatDoorMJ5
import Derived.Shelf.SlMaps.Clone
import Derived.Test.YteejphiklpnjhaaGreatDoorMJ1
import Derived.Maps.StringElems
import Derived.Deep.Onto
import Derived.Deep.AppendLies
import Derived.Laws.OwnMore
import Derived.Test.YteejphiklpnjhaaGreatDoorShelfL
import Derived.Lib.LastIndexByte
namespace Go.Proofs.YteejphiklpnjhaaGreatDoor
set_option maxRecDepth 100000
set_option maxHeartbeats 16000000
open Go.RowKit Go.Maps
open Go.Lib (hid)
theorem ba_toList (l : List UInt8) : (X.ba l).toList = l := by simp [ByteArray.toList_eq, X.ba]
theorem ofSpaces_any (W : World) (y : X.Raw) (x : Int) (v : ByteArray) :
   Calls Tryz.prog 59 #[.agg #[.string (X.ba y.pre), .string (X.ba y.loc), .int .i64 x, .string v]] W fun en W' => en = .returned (.bool y.ofSpaces) ∧ Below W.heap.size W W' := by
 have hy : y.ofSpaces = (decide ((X.ba y.pre).toList = [120, 109, 108, 110, 115]) || decide ((X.ba y.pre).toList = [] ∧ (X.ba y.loc).toList = [120, 109, 108, 110, 115])) := by
   rw [ba_toList, ba_toList]; rfl
 rw [hy]
 generalize X.ba y.pre = a
 generalize X.ba y.loc = b
 obtain ⟨w1, hw1⟩ : ∃ w1, W.alloc (.cells #[.string a, .string b, .int .i64 x, .string v] 120) = w1 := ⟨_, rfl⟩
 have HB : Hid (Below W.heap.size W w1) := by show Below _ _ _; rw [← hw1]; exact (Below.refl _ W).alloc (Nat.le_refl _) _
 have hr : w1.heap[W.heap.size]? = some (.cells #[.string a, .string b, .int .i64 x, .string v] 120 (0, 0)) := by rw [← hw1]; exact heap_alloc_new W _
 obtain ⟨d0, d1, -, -⟩ := row4 hr
 have HW := hid hw1
 clear hw1 hr hy
 go_enter Tryz.func59, Tryz.ntmps59
 go_upto_region 1 with fail
 rw [HW.out]
 go_wp2_with fail
 · rename_i g1
   rw [decide_eq_true g1]
   go_ret
   exact ⟨rfl, HB.out⟩
 · rename_i g1 g2 g3
   rw [decide_eq_false g1, decide_eq_true (⟨g2, g3⟩ : a.toList = [] ∧ b.toList = [120, 109, 108, 110, 115])]
   go_ret
   exact ⟨rfl, HB.out⟩
 · rename_i g1 g2 g3
   rw [decide_eq_false g1, decide_eq_false (fun h : a.toList = [] ∧ b.toList = [120, 109, 108, 110, 115] => g3 h.2)]
   go_ret
   exact ⟨rfl, HB.out⟩
 · rename_i g1 g2
   rw [decide_eq_false g1, decide_eq_false (fun h : a.toList = [] ∧ b.toList = [120, 109, 108, 110, 115] => g2 h.1)]
   go_ret
   exact ⟨rfl, HB.out⟩
def textD (v : List UInt8) : DataW Unit := .lit (.string v)
def KM (w : World) (b N : Nat) (k : X.K) : Prop := w.ownsMap Tryz.prog 9 (plainElem Tryz.prog 9) b N (X.mapD textD k)
theorem KM.below {w w' : World} {b N : Nat} {k : X.K} (h : KM w b N k) (hb : Below w.heap.size w w') : KM w' b N k := map_below h hb
theorem KM.mono {w : World} {b N M : Nat} {k : X.K} (h : KM w b N k) (hM : N ≤ M) : KM w b M k := by
 obtain ⟨es, clock, h1, h2, h3, h4⟩ := h
 exact ⟨es, clock, h1, h2, Nat.le_trans h3 hM, h4⟩
theorem KM.grown {w w' : World} {b N : Nat} {k : X.K} {row : Option Nat} (h : KM w b N k) (g : w.grownBy w' row) (hr : row ≠ some b) : KM w' b N k := h.kept g (Ne.symm hr)
theorem KM.put {w : World} {b N : Nat} {k : X.K} (h : KM w b N k) (hN : N < maxLen) (p v : ByteArray) (hp : p.size ≤ 1000000000000) (hv : v.size ≤ 1000000000000) :
  ∃ w', (Instr.mapUpdate 70 (.map (some b)) (.string p) (.string v)).run Tryz.prog w = .ok () w' ∧ KM w' b (N + 1) ((p.data.toList, v.data.toList) :: k) ∧ w.mapTurned w' b := by
 obtain ⟨w', h1, h2, h3⟩ := World.ownsMap.store h lawS Tryz.underlying70 hN (keyS hp) (show plainElem (H := Unit) Tryz.prog 9 (.string v) = some (textD v.data.toList, []) from by
  unfold plainElem
  rw [Tryz.underlying9]
  simp only
  rw [if_pos (by unfold maxLen; omega)]
  rfl)
 exact ⟨w', h1, h2, h3⟩
theorem clone_any (b N : Nat) (k : X.K) (w : World) (h : KM w b N k) :
  Calls Tryz.prog 58 #[.map (some b)] w fun e w' => e = .returned (.map (some w.heap.size)) ∧ KM w' w.heap.size N k ∧ Below w.heap.size w w' := by
 obtain ⟨es, clock, h1, h2, h3, h4⟩ := h
 have hq := fun w => run_eql_map_nil_sl (P := Tryz.prog) w 70 _ _ (some b) Tryz.underlying70
 go_enter Tryz.func58, Tryz.ntmps58
 go_wp2_with fail
 rw [run_callFunc_extern Tryz.func82 (by kernel_rfl) (by kernel_rfl) (by kernel_rfl) (e := Extern.MapsClone.clone) (by kernel_rfl), run_maps_clone_sl w 70 h1]
 simp only [Result.andThen]
 rw [Oper.upon_value]
 go_wp2_with fail
 rw [run_typeAssert_map_sl _ 70 20 _ _ _ Tryz.underlying70]
 simp only [Result.andThen]
 rw [Oper.upon_value]
 go_wp2_with fail
 go_ret
 exact ⟨rfl, ⟨es, clock, heap_alloc_new w _, h2, h3, h4⟩, (Below.refl _ w).alloc (Nat.le_refl _) _⟩
end Go.Proofs.YteejphiklpnjhaaGreatDoor
namespace Go.Proofs.YteejphiklpnjhaaGreatDoor
set_option maxRecDepth 100000
set_option maxHeartbeats 16000000
open Go.RowKit Go.Maps
open Go.Lib (hid)
theorem KM.look {w : World} {b N : Nat} {k : X.K} (h : KM w b N k) (p : ByteArray) (hp : p.size ≤ 1000000000000) :
  (Instr.lookup 70 (.map (some b)) (.string p) true).run Tryz.prog w = .ok (.tuple #[.string (X.ba ((X.look k p.data.toList).getD [])), .bool (X.look k p.data.toList).isSome]) w := by
 obtain ⟨v, ps, hl, hv⟩ := World.ownsMap.look_ok h lawS Tryz.underlying70 (zeroStr w) (plainElem_string (H := Unit) Tryz.underlying9 (s := ⟨#[]⟩) (by unfold maxLen; decide)) (keyS hp)
 rw [X.mapD_has, X.lookG_look] at hl
 rw [X.mapD_at, X.lookG_look] at hv
 obtain ⟨t, rfl, hc, _⟩ := plainElem_string_inv Tryz.underlying9 hv
 have ht : t = X.ba ((X.look k p.data.toList).getD []) := by
  simp only [Prod.mk.injEq] at hc
  have hc1 := hc.1
  have key : t.data.toList = (X.look k p.data.toList).getD [] := by
   revert hc1
   cases X.look k p.data.toList with
   | none => intro h; simp only [DataW.lit.injEq, Lit.string.injEq] at h; rw [← h]; rfl
   | some x => intro h; simp only [textD, DataW.lit.injEq, Lit.string.injEq] at h; rw [← h]; rfl
  rw [← key]; exact (ba_self t).symm
 rw [ht] at hl
 exact hl
namespace X
def Small (M : Nat) (x : Raw) : Prop := x.pre.length ≤ 32 ∧ x.loc.length ≤ 32 ∧ x.val.length ≤ M
theorem part_len {l p r : List UInt8} (h : part l = .ok (p, r)) : p.length ≤ 32 := by
 unfold part at h
 by_cases h1 : partL l = []
 · rw [if_pos h1] at h; cases h
 · rw [if_neg h1] at h
   by_cases h2 : 32 < (partL l).length
   · rw [if_pos h2] at h; cases h
   · rw [if_neg h2] at h; cases h; omega
theorem name_len {l r : List UInt8} {nm : List UInt8 × List UInt8} (h : name l = .ok (nm, r)) : nm.1.length ≤ 32 ∧ nm.2.length ≤ 32 := by
 unfold name at h
 cases hp : part l with
 | error e => rw [hp] at h; cases h
 | ok q =>
   obtain ⟨one, r1⟩ := q
   rw [hp] at h
   simp only at h
   have h1 := part_len hp
   cases hc : [58].isPrefixOf r1
   · rw [hc] at h; simp only [Bool.false_eq_true, if_false] at h; cases h; exact ⟨Nat.zero_le _, h1⟩
   · rw [hc] at h
     simp only [if_true] at h
     cases hp2 : part (r1.drop 1) with
     | error e => rw [hp2] at h; cases h
     | ok q2 => rw [hp2] at h; cases h; exact ⟨h1, part_len (r := q2.2) hp2⟩
theorem valIn_len (q : UInt8) : ∀ (f : Nat) (acc l v r : List UInt8), valIn q f acc l = .ok (v, r) → v.length + 4 * r.length ≤ acc.length + 4 * l.length
 | 0, _, _, _, _, h => by cases h
 | f + 1, acc, l, v, r, h => by
   unfold valIn at h
   by_cases h1 : [q].isPrefixOf l = true
   · rw [if_pos h1] at h; cases h; rw [List.length_drop]; omega
   · rw [if_neg h1] at h
     by_cases h2 : [60].isPrefixOf l = true
     · rw [if_pos h2] at h; cases h
     · rw [if_neg h2] at h
       by_cases h3 : [38].isPrefixOf l = true
       · rw [if_pos h3] at h
         cases hr : ref l with
         | error e => rw [hr] at h; cases h
         | ok y =>
           obtain ⟨c, r1⟩ := y
           rw [hr] at h
           have := valIn_len q f _ _ _ _ h
           have h5 := ((ref_fair l).1 _ _ hr).2
           have h6 := charL_le c
           rw [List.length_append] at this
           omega
       · rw [if_neg h3] at h
         cases hr : char l with
         | error e => rw [hr] at h; cases h
         | ok y =>
           obtain ⟨c, r1⟩ := y
           rw [hr] at h
           have := valIn_len q f _ _ _ _ h
           have h5 := ((char_fair l).1 _ _ hr).2
           have h6 := charL_le (if c < 32 then 32 else c)
           rw [List.length_append] at this
           omega
theorem value_len {l v r : List UInt8} (h : value l = .ok (v, r)) : v.length ≤ 4 * l.length := by
 unfold value at h
 by_cases h1 : [34].isPrefixOf l = true
 · rw [if_pos h1] at h
   have := valIn_len _ _ _ _ _ _ h
   rw [List.length_drop] at this
   simp at this
   omega
 · rw [if_neg h1] at h
   by_cases h2 : [39].isPrefixOf l = true
   · rw [if_pos h2] at h
     have := valIn_len _ _ _ _ _ _ h
     rw [List.length_drop] at this
     simp at this
     omega
   · rw [if_neg h2] at h; cases h
theorem attr_small {out : List Raw} {l r : List UInt8} {x : Raw} (h : attr out l = .ok (x, r)) : Small (4 * l.length) x ∧ r.length ≤ l.length := by
 unfold attr at h
 cases hn : name l with
 | error e => rw [hn] at h; cases h
 | ok y =>
   obtain ⟨nm, r1⟩ := y
   rw [hn] at h
   simp only at h
   have h1 := name_len hn
   have f1 := ((name_fair l).1 _ _ hn).2
   cases ho : out.any (fun y => decide (y.pre = nm.1 ∧ y.loc = nm.2))
   · rw [ho] at h
     simp only [Bool.false_eq_true, if_false] at h
     cases hm : must [61] (skip r1) with
     | error e => rw [hm] at h; cases h
     | ok z =>
       obtain ⟨_, r2⟩ := z
       rw [hm] at h
       simp only at h
       have f2 := ((must_fair [61] (skip r1)).1 _ _ hm).2
       have s1 := (Suf.skip r1).len
       have s2 := (Suf.skip r2).len
       cases hv : value (skip r2) with
       | error e => rw [hv] at h; cases h
       | ok z2 =>
         obtain ⟨v, r3⟩ := z2
         rw [hv] at h
         cases h
         have h2 := value_len hv
         have f3 := ((value_fair (skip r2)).1 _ _ hv).2
         refine ⟨⟨h1.1, h1.2, ?_⟩, by omega⟩
         show v.length ≤ _
         omega
   · rw [ho] at h; simp only [if_true] at h; cases h
theorem attrs_small {M : Nat} : ∀ (f : Nat) (out : List Raw) (l : List UInt8) (raws : List Raw) (o : Bool) (r : List UInt8), 4 * l.length ≤ M → (∀ x ∈ out, Small M x) → attrs f out l = .ok ((raws, o), r) → ∀ x ∈ raws, Small M x
 | 0, _, _, _, _, _, _, _, h => by cases h
 | f + 1, out, l, raws, o, r, hM, ho, h => by
   unfold attrs at h
   have hsk := (Suf.skip l).len
   by_cases h1 : [62].isPrefixOf (skip l) = true
   · rw [if_pos h1] at h; cases h; exact ho
   · rw [if_neg h1] at h
     by_cases h2 : [47].isPrefixOf (skip l) = true
     · rw [if_pos h2] at h
       cases hm : must [62] ((skip l).drop 1) with
       | error e => rw [hm] at h; cases h
       | ok z => rw [hm] at h; cases h; exact ho
     · rw [if_neg h2] at h
       by_cases h3 : (skip l).length = l.length ∨ begins (skip l) = false
       · rw [if_pos h3] at h; cases h
       · rw [if_neg h3] at h
         by_cases h4 : out.length = 32
         · rw [if_pos h4] at h; cases h
         · rw [if_neg h4] at h
           cases ha : attr out (skip l) with
           | error e => rw [ha] at h; cases h
           | ok z =>
             obtain ⟨x, r1⟩ := z
             rw [ha] at h
             have hs := attr_small ha
             refine attrs_small f (out ++ [x]) r1 raws o r (by omega) (fun y hy => ?_) h
             rcases List.mem_append.1 hy with hy | hy
             · exact ho y hy
             · rw [List.mem_singleton] at hy; subst hy
               exact ⟨hs.1.1, hs.1.2.1, by have := hs.1.2.2; omega⟩
end X
def attrC (x : X.A) : List Value := [.string x.sp, .string x.lo, .string x.va]
def attrsC (l : List X.A) : List Value := l.flatMap attrC
theorem attrsC_snoc (l : List X.A) (x : X.A) : attrsC (l ++ [x]) = attrsC l ++ attrC x := by
 unfold attrsC
 rw [List.flatMap_append]
 simp
theorem attrsC_at : ∀ (l : List X.A) (j : Nat) (x : X.A), l[j]? = some x → ∀ i u, (attrC x)[i]? = some u → (attrsC l)[j * 3 + i]? = some u
 | y :: r, 0, x, h, i, u, hu => by
   simp only [List.getElem?_cons_zero, Option.some.injEq] at h
   subst h
   unfold attrsC
   rw [List.flatMap_cons, Nat.zero_mul, Nat.zero_add, List.getElem?_append_left (by have := (List.getElem?_eq_some_iff.1 hu).1; exact this)]
   exact hu
 | y :: r, j + 1, x, h, i, u, hu => by
   have := attrsC_at r j x (by simpa using h) i u hu
   unfold attrsC at this ⊢
   rw [List.flatMap_cons, List.getElem?_append_right (by show 3 ≤ _; omega)]
   show (List.flatMap attrC r)[(j + 1) * 3 + i - 3]? = _
   rw [show (j + 1) * 3 + i - 3 = j * 3 + i by omega]
   exact this
def AOwn (B : Nat) (l : List X.A) (v : Value) (w : World) : Prop := w.ownsRow B 126 3 v l.length (attrsC l)
section
variable {B : Nat} {l : List X.A} {v : Value} {w w' : World}
theorem AOwn.below (h : AOwn B l v w) (hb : Below w.heap.size w w') : AOwn B l v w' :=
 World.ownsRow.kept (row := none) h ⟨hb.os, hb.tape, hb.output, hb.size, fun k hk _ => hb.block k hk⟩ (Classical.em _)
theorem AOwn.put (h : AOwn B l v w) {Y : Nat} (hY : v.ownBlock ≠ some Y) (i : Nat) (u : Value) : AOwn B l v (w.setCell ⟨Y, i, none⟩ u) :=
 World.ownsRow.kept h (grownBy_set w Y i u) (Or.inr hY)
theorem AOwn.shape (h : AOwn B l v w) : ∃ a c, v = .slice a l.length c := by
 rcases h.2 with ⟨rfl, h0⟩ | ⟨g, cap, cur, rfl, _⟩
 · exact ⟨none, 0, by rw [h0]⟩
 · exact ⟨_, _, rfl⟩
theorem AOwn.cells (h : AOwn B l v w) {a : Option Addr} {n c : Nat} (hv : v = .slice a n c) (hn : 0 < n) : ∃ g, a = some ⟨g, 0, none⟩ ∧ B ≤ g ∧ g < w.heap.size ∧ ∀ j x, l[j]? = some x → ∀ i u, (attrC x)[i]? = some u → w.cell? ⟨g, j * 3 + i, none⟩ = some u := by
 have hc := fun g (hg : v.ownBlock = some g) => World.ownsRow.cells h hg
 have hlt := World.ownsRow.lt h
 rcases h.2 with ⟨rfl, h0⟩ | ⟨g, cap, cur, rfl, _, hgr, hcap, _⟩
 · simp only [Value.slice.injEq] at hv; omega
 · simp only [Value.slice.injEq] at hv
   refine ⟨g, hv.1.symm, (hlt g rfl).1, (hlt g rfl).2, fun j x hj i u hu => ?_⟩
   have := hc g rfl (j * 3 + i) u (attrsC_at l j x hj i u hu)
   have e : (⟨g, 0, none⟩ : Addr).add (j * 3 + i) = ⟨g, j * 3 + i, none⟩ := by
    unfold Addr.add
    split <;> simp_all
   rw [e] at this
   exact this
end
end Go.Proofs.YteejphiklpnjhaaGreatDoor
namespace Go.Proofs.YteejphiklpnjhaaGreatDoor
set_option maxRecDepth 100000
set_option maxHeartbeats 16000000
open Go.RowKit Go.Maps
open Go.Lib (hid)
theorem infoAttr : (Tryz.prog.info? 126).map (fun i => (i.zero, i.size, i.bytes)) = some (some (.agg #[.string ⟨#[]⟩, .string ⟨#[]⟩, .string ⟨#[]⟩]), 3, 48) := by kernel_rfl
theorem infoNode : (Tryz.prog.info? 44).map (fun i => (i.zero, i.size, i.bytes)) = some (some (.agg #[.string ⟨#[]⟩, .string ⟨#[]⟩, .slice none 0 0, .slice none 0 0, .string ⟨#[]⟩, .int .i64 0, .int .i64 0]), 7, 112) := by kernel_rfl
theorem sizeNode : (Tryz.prog.info? 44).map (·.size) = some 7 := by kernel_rfl
theorem row3' {w : World} {b : Nat} {x y z : Value} {t : TypeId} (h : w.heap[b]? = some (.cells #[x, y, z] t (0, 0))) : w.cell? ⟨b, 0, none⟩ = some x ∧ w.cell? ⟨b, 1, none⟩ = some y ∧ w.cell? ⟨b, 2, none⟩ = some z := row3 h
theorem row7 {w : World} {b : Nat} {x0 x1 x2 x3 x4 x5 x6 : Value} {t : TypeId} (h : w.heap[b]? = some (.cells #[x0, x1, x2, x3, x4, x5, x6] t (0, 0))) :
  w.cell? ⟨b, 0, none⟩ = some x0 ∧ w.cell? ⟨b, 1, none⟩ = some x1 ∧ w.cell? ⟨b, 2, none⟩ = some x2 ∧ w.cell? ⟨b, 3, none⟩ = some x3 ∧ w.cell? ⟨b, 4, none⟩ = some x4 ∧ w.cell? ⟨b, 5, none⟩ = some x5 ∧ w.cell? ⟨b, 6, none⟩ = some x6 :=
 ⟨rowCell h 0, rowCell h 1, rowCell h 2, rowCell h 3, rowCell h 4, rowCell h 5, rowCell h 6⟩
def nameRow (nm : List UInt8 × List UInt8) : Obj := .cells #[.string (X.ba nm.1), .string (X.ba nm.2)] 82 (0, 0)
def nodeRow (sp lo : ByteArray) (av kv : Value) (tx : ByteArray) (ln cl : Int) : Obj := .cells #[.string sp, .string lo, av, kv, .string tx, .int .i64 ln, .int .i64 cl] 44 (0, 0)
structure RF (W : World) (H : Nat) (nm : List UInt8 × List UInt8) (wr : World) : Prop where
 h : W.heap.size = H
 b : Below H W wr
 n : wr.heap[H]? = some (nameRow nm)
 z : wr.heap[H + 1]? = some (nodeRow ⟨#[]⟩ ⟨#[]⟩ (.slice none 0 0) (.slice none 0 0) ⟨#[]⟩ 0 0)
section
variable {W wr w' : World} {H : Nat} {nm : List UInt8 × List UInt8}
theorem RF.below (h : RF W H nm wr) (hb : Below wr.heap.size wr w') : RF W H nm w' :=
 ⟨h.h, h.b.trans (hb.mono (by have := h.b.size; have := h.h; omega)), (hb.block H (Go.lt_of_block h.n)).trans h.n, (hb.block (H + 1) (Go.lt_of_block h.z)).trans h.z⟩
theorem RF.grown (h : RF W H nm wr) {Y : Nat} (g : wr.grownBy w' (some Y)) (hY : H + 2 ≤ Y) : RF W H nm w' :=
 ⟨h.h, h.b.grown g (by have := h.b.size; have := h.h; omega) (fun k hk => by have := Option.some.inj hk; omega), (g.block H (Go.lt_of_block h.n) (fun e => by have := Option.some.inj e; omega)).trans h.n, (g.block (H + 1) (Go.lt_of_block h.z) (fun e => by have := Option.some.inj e; omega)).trans h.z⟩
theorem RF.sz (h : RF W H nm wr) : H + 2 ≤ wr.heap.size := by have := Go.lt_of_block h.z; omega
end
theorem binds_cons {x : X.Raw} {r : List X.Raw} {k : X.K} : X.binds (x :: r) k = if x.ofSpaces = false then X.binds r k else if x.pre = [] then X.binds r (([], x.val) :: k) else if x.val = [] ∨ x.loc = X.xmlns ∨ x.loc = X.xml then .error (x.n, 83) else X.binds r ((x.loc, x.val) :: k) := rfl
def ResOf (W0 : World) (s : ByteArray) (N : Nat) (lo : List UInt8) (x : Except (Nat × Int) (List UInt8 × List X.A × X.K)) (en : Ending) (W : World) : Prop :=
 (∃ sp al k M av, x = .ok (sp, al, k) ∧ en = .returned (.tuple #[.agg #[.string (X.ba sp), .string (X.ba lo), av, .slice none 0 0, .string ⟨#[]⟩, .int .i64 0, .int .i64 0], .map (some M)]) ∧ AOwn W0.heap.size al av W ∧ al.length ≤ 32 ∧ W0.heap.size ≤ M ∧ KM W M (N + 32) k ∧ Below W0.heap.size W0 W) ∨
 (∃ n e, x = .error (n, e) ∧ en = .panicked (chain e ((s.size - n : Nat) : Int)) ∧ Below W0.heap.size W0 W)
structure R2 (W : World) (H : Nat) (nm : List UInt8 × List UInt8) (Z : Nat) (sp lo : ByteArray) (N : Nat) (k : X.K) (al : List X.A) (av : Value) (wr : World) : Prop where
 f : RF W H nm wr
 m : KM wr (H + 2) N k
 o : wr.heap[Z]? = some (nodeRow sp lo av (.slice none 0 0) ⟨#[]⟩ 0 0)
 a : AOwn (Z + 1) al av wr
 z : H + 3 ≤ Z
section
variable {W wr w' : World} {H Z N : Nat} {nm : List UInt8 × List UInt8} {sp lo : ByteArray} {k : X.K} {al : List X.A} {av : Value}
theorem R2.below (h : R2 W H nm Z sp lo N k al av wr) (hb : Below wr.heap.size wr w') : R2 W H nm Z sp lo N k al av w' :=
 ⟨h.f.below hb, h.m.below hb, (hb.block Z (Go.lt_of_block h.o)).trans h.o, h.a.below hb, h.z⟩
theorem R2.put (h : R2 W H nm Z sp lo N k al av wr) {Y : Nat} (hY : Z < Y) (hne : av.ownBlock ≠ some Y) (i : Nat) (u : Value) : R2 W H nm Z sp lo N k al av (wr.setCell ⟨Y, i, none⟩ u) := by
 have hg := grownBy_set wr Y i u
 have hz := h.z
 exact ⟨h.f.grown hg (by omega), h.m.grown hg (fun e => by have := Option.some.inj e; omega), (hg.block Z (Go.lt_of_block h.o) (fun e => by have := Option.some.inj e; omega)).trans h.o, h.a.put hne i u, h.z⟩
theorem R2.fresh (h : R2 W H nm Z sp lo N k al av wr) : Z < wr.heap.size ∧ av.ownBlock ≠ some wr.heap.size := ⟨Go.lt_of_block h.o, fun e => by have := (World.ownsRow.lt h.a _ e).2; omega⟩
theorem R2.more (h : R2 W H nm Z sp lo N k al av wr) {w1 w2 : World} {x : X.A} {v' : Value} (h1 : Below wr.heap.size wr w1) (hown : w2.ownsRow (Z + 1) 126 3 v' (al.length + 1) (attrsC al ++ attrC x)) (hg : w1.grownBy w2 av.ownBlock) :
  R2 W H nm Z sp lo N k (al ++ [x]) v' (w2.setCell ⟨Z, 2, none⟩ v') := by
 have g1 := h.below h1
 have hz := h.z
 have hlt := World.ownsRow.lt g1.a
 have hne : ∀ b, b ≤ Z → some b ≠ av.ownBlock := fun b hb e => by have := (hlt b e.symm).1; omega
 have hne' : ∀ b, b ≤ Z → av.ownBlock ≠ some b := fun b hb e => by have := (hlt b e).1; omega
 have hs := grownBy_set w2 Z 2 v'
 have hB : Below H W w2 := g1.f.b.grown hg (by have := g1.f.b.size; have := g1.f.h; omega) (fun k hk => by have := (hlt k hk).1; omega)
 have hZ2 : w2.heap[Z]? = some (nodeRow sp lo av (.slice none 0 0) ⟨#[]⟩ 0 0) := (hg.block Z (Go.lt_of_block g1.o) (hne Z (Nat.le_refl _))).trans g1.o
 have hF : RF W H nm w2 := ⟨g1.f.h, hB, (hg.block H (Go.lt_of_block g1.f.n) (hne H (by omega))).trans g1.f.n, (hg.block (H + 1) (Go.lt_of_block g1.f.z) (hne (H + 1) (by omega))).trans g1.f.z⟩
 have hlen : (al ++ [x]).length = al.length + 1 := by simp
 refine ⟨hF.grown hs (by omega), (KM.grown g1.m hg (hne' _ (by omega))).grown hs (fun e => by have := Option.some.inj e; omega), row_set hZ2 2 v', ?_, h.z⟩
 have hw : AOwn (Z + 1) (al ++ [x]) v' w2 := by
  show World.ownsRow _ _ _ _ _ _ _
  rw [hlen, attrsC_snoc]; exact hown
 exact hw.put (fun e => by have := (World.ownsRow.lt hw _ e).1; omega) 2 v'
end
abbrev st7 (w : World) (g : Nat) (u0 u1 u2 u3 u4 u5 u6 : Value) : World := ((((((w.setCell ⟨g, 0, none⟩ u0).setCell ⟨g, 1, none⟩ u1).setCell ⟨g, 2, none⟩ u2).setCell ⟨g, 3, none⟩ u3).setCell ⟨g, 4, none⟩ u4).setCell ⟨g, 5, none⟩ u5).setCell ⟨g, 6, none⟩ u6
theorem st7_row {w : World} {g : Nat} {z0 z1 z2 z3 z4 z5 z6 : Value} {t : TypeId} (h : w.heap[g]? = some (.cells #[z0, z1, z2, z3, z4, z5, z6] t (0, 0))) (u0 u1 u2 u3 u4 u5 u6 : Value) : (st7 w g u0 u1 u2 u3 u4 u5 u6).heap[g]? = some (.cells #[u0, u1, u2, u3, u4, u5, u6] t (0, 0)) := by
 have h' := row_set (row_set (row_set (row_set (row_set (row_set (row_set h 0 u0) 1 u1) 2 u2) 3 u3) 4 u4) 5 u5) 6 u6
 simpa only [List.setIfInBounds_toArray, List.set_cons_zero, List.set_cons_succ] using h'
theorem st7_grown (w : World) (g : Nat) (u0 u1 u2 u3 u4 u5 u6 : Value) : w.grownBy (st7 w g u0 u1 u2 u3 u4 u5 u6) (some g) :=
 ((((((grownBy_set w g 0 u0).trans (grownBy_set _ g 1 u1)).trans (grownBy_set _ g 2 u2)).trans (grownBy_set _ g 3 u3)).trans (grownBy_set _ g 4 u4)).trans (grownBy_set _ g 5 u5)).trans (grownBy_set _ g 6 u6)
theorem R2.out {W wr : World} {H Z N : Nat} {nm : List UInt8 × List UInt8} {sp lo : ByteArray} {k : X.K} {al : List X.A} {av : Value} (h : R2 W H nm Z sp lo N k al av wr) {w' : World} (g : wr.grownBy w' (some (H + 1))) : AOwn W.heap.size al av w' ∧ KM w' (H + 2) N k ∧ Below W.heap.size W w' := by
 have hz := h.z
 have hlt := World.ownsRow.lt h.a
 rw [h.f.h]
 refine ⟨World.ownsRow.mono (World.ownsRow.kept h.a g (Or.inr fun e => by have := (hlt _ e).1; omega)) (by omega), h.m.grown g (fun e => by have := Option.some.inj e; omega), h.f.b.grown g (by have := h.f.b.size; have := h.f.h; omega) (fun k hk => by have := Option.some.inj hk; omega)⟩
theorem toList_nil : (⟨#[]⟩ : ByteArray).toList = [] := by simp [ByteArray.toList_eq]
def hasA (al : List X.A) (sp lo : ByteArray) : Bool := al.any (fun y => decide (y.sp = sp ∧ y.lo = lo))
theorem plain_cons {x : X.Raw} {r : List X.Raw} {k : X.K} {out : List X.A} : X.plainAttrs k (x :: r) out = if x.ofSpaces then X.plainAttrs k r out else match (if x.pre = [] then some [] else X.look k x.pre) with
 | none => .error (x.n, 83)
 | some sp => if hasA out (X.ba sp) (X.ba x.loc) then .error (x.n, 6) else X.plainAttrs k r (out ++ [⟨X.ba sp, X.ba x.loc, X.ba x.val⟩]) := rfl
theorem hasA_snoc {al : List X.A} {q : Nat} {y : X.A} {sp lo : ByteArray} (hy : al[q]? = some y) (h : hasA (al.take q) sp lo = false) : hasA (al.take (q + 1)) sp lo = decide (y.sp = sp ∧ y.lo = lo) := by
 unfold hasA at h ⊢
 rw [List.take_add_one, List.any_append, h, hy]
 simp
theorem hasA_hit {al : List X.A} {q : Nat} {y : X.A} {sp lo : ByteArray} (hy : al[q]? = some y) (h : y.sp = sp ∧ y.lo = lo) : hasA al sp lo = true := by
 unfold hasA
 rw [List.any_eq_true]
 exact ⟨y, List.mem_of_getElem? hy, decide_eq_true h⟩
theorem ResOf.err {W0 : World} {s : ByteArray} {N : Nat} {lo : List UInt8} {x : Except (Nat × Int) (List UInt8 × List X.A × X.K)} {n xn : Nat} {e : Int} {W : World} (h : x = .error (n, e)) (hn : s.size - n = xn) (hb : Below W0.heap.size W0 W) : ResOf W0 s N lo x (.panicked (chain e (xn : Int))) W := Or.inr ⟨n, e, h, by rw [hn], hb⟩
theorem resolve_any {N b n at_ : Nat} {s : ByteArray} {raws : List X.Raw} {rv : Value} {k : X.K} {W : World} (nm : List UInt8 × List UInt8) (hR : RawsIn W s raws rv) (hl : raws.length ≤ 32) (hK : KM W b N k) (hN : N ≤ 1000) (hat : at_ = s.size - n)
  (hnm : nm.1.length ≤ 32 ∧ nm.2.length ≤ 32) (hsm : ∀ x ∈ raws, X.Small 1000000 x) :
  Calls Tryz.prog 39 #[.int .i64 at_, nameV nm, rv, .map (some b)] W (ResOf W s N nm.2 (X.resolve n nm raws k)) := by
 obtain ⟨RES, hRES⟩ : ∃ x, X.resolve n nm raws k = x := ⟨_, rfl⟩
 rw [hRES]
 have HRES0 : Hid (RES = match X.binds raws k with
  | .error e => .error e
  | .ok k => match X.look k nm.1 with
    | none => .error (n, 83)
    | some sp => match X.plainAttrs k raws [] with
      | .error e => .error e
      | .ok al => .ok (sp, al, k)) := hRES.symm
 unfold nameV
 have hv : ∃ a c, rv = .slice a raws.length c := by
  rcases hR with ⟨rfl, a, c, rfl⟩ | ⟨g, c, rfl, _⟩
  · exact ⟨a, c, rfl⟩
  · exact ⟨_, c, rfl⟩
 obtain ⟨ad, cp, rfl⟩ := hv
 obtain ⟨m, hm⟩ : ∃ m, raws.length = m := ⟨_, rfl⟩
 rw [hm] at hl
 have HR : Hid (RawsIn W s raws (.slice ad m cp)) := by show RawsIn _ _ _ _; rw [← hm]; exact hR
 have HK := hid hK
 have HM := hid hm
 have HNM := hid hnm
 have HSM := hid hsm
 have HAT := hid hat
 rw [hm]
 obtain ⟨H, hH⟩ : ∃ H, W.heap.size = H := ⟨_, rfl⟩
 obtain ⟨w1, hw1⟩ : ∃ w1, (W.alloc (.cells #[.string (X.ba nm.1), .string (X.ba nm.2)] 82)).alloc (.cells #[.string ⟨#[]⟩, .string ⟨#[]⟩, .slice none 0 0, .slice none 0 0, .string ⟨#[]⟩, .int .i64 0, .int .i64 0] 44) = w1 := ⟨_, rfl⟩
 have HF1 : Hid (RF W H nm w1) := by
  show RF _ _ _ _
  have hs1 : (W.alloc (.cells #[.string (X.ba nm.1), .string (X.ba nm.2)] 82)).heap.size = H + 1 := by rw [← hH]; simp
  have h0 := heap_alloc_new W (.cells #[.string (X.ba nm.1), .string (X.ba nm.2)] 82)
  have h1 := heap_alloc_new (W.alloc (.cells #[.string (X.ba nm.1), .string (X.ba nm.2)] 82)) (.cells #[.string ⟨#[]⟩, .string ⟨#[]⟩, .slice none 0 0, .slice none 0 0, .string ⟨#[]⟩, .int .i64 0, .int .i64 0] 44)
  rw [hw1, hs1] at h1
  rw [hH] at h0
  refine ⟨hH, ?_, ?_, h1⟩
  · rw [← hw1, ← hH]
    exact ((Below.refl _ W).alloc (Nat.le_refl _) _).alloc (by simp) _
  · rw [← hw1, Go.Lib.alloc_old _ _ H (by rw [hs1]; omega)]
    exact h0
 have HK1 : Hid (KM w1 b N k) := HK.out.below (by rw [hH]; exact HF1.out.b)
 have hsz1 : w1.heap.size = H + 2 := by rw [← hw1]; simp [hH]
 have cC := clone_any b N k w1 HK1.out
 rw [hsz1] at cC
 have HW1 := hid hw1
 have HSZ1 := hid hsz1
 have HH := hid hH
 clear hR hK hm hat hnm hsm hRES hw1 hsz1 hH
 go_enter Tryz.func39, Tryz.ntmps39
 go_upto_region 1 with fail
 rw [HW1.out, HH.out]
 clear HW1
 go_wp2_with fail
 refine cC.mono ?_
 rintro e w2 ⟨rfl, hk2, hb2⟩
 have HK2 := hid hk2
 have HF2 := hid (HF1.out.below (by rw [HSZ1.out]; exact hb2))
 clear cC hk2 hb2 HF1 HK1
 go_wp2_with fail
 go_loopw [25] (fun vi wr => ∃ (i : Nat) (k' : X.K), vi = .int .i64 i ∧ Hid (i ≤ m ∧ X.binds (raws.drop i) k' = X.binds raws k) ∧ Hid (KM wr (H + 2) (N + i) k') ∧ Hid (RF W H nm wr)) (fun vi _ => m - (intOf vi).toNat)
 case atStart => exact ⟨0, k, rfl, hid ⟨Nat.zero_le _, rfl⟩, HK2, HF2⟩
 case round =>
  obtain ⟨i, k', rfl, HI, HKR, HFR⟩ := hrel
  clear HK2 HF2
  rcases Nat.lt_or_ge i m with hlt | hge
  · have t0 : decide ((i : Int) < (m : Int)) = true := decide_eq_true (by omega)
    obtain ⟨g, rfl, hg, hc⟩ : ∃ g, ad = some ⟨g, 0, none⟩ ∧ g < W.heap.size ∧ ∀ j x, raws[j]? = some x → ∀ i u, (rawC s x)[i]? = some u → W.cell? ⟨g, j * 4 + i, none⟩ = some u := by
      rcases HR.out with ⟨rfl, _⟩ | ⟨g, c, he, h2, h3⟩
      · have := HM.out; simp at this; omega
      · simp only [Value.slice.injEq] at he; exact ⟨g, he.1, h2, h3⟩
    have hlt' : i < raws.length := by rw [HM.out]; exact hlt
    obtain ⟨x, hx⟩ : ∃ x, raws[i]? = some x := ⟨_, List.getElem?_eq_getElem hlt'⟩
    have hdrop : raws.drop i = x :: raws.drop (i + 1) := by
      rw [List.drop_eq_getElem_cons hlt']
      rw [List.getElem?_eq_getElem hlt'] at hx
      rw [Option.some.inj hx]
    have HBX : Hid (X.binds raws k = if x.ofSpaces = false then X.binds (raws.drop (i + 1)) k' else if x.pre = [] then X.binds (raws.drop (i + 1)) (([], x.val) :: k') else if x.val = [] ∨ x.loc = X.xmlns ∨ x.loc = X.xml then .error (x.n, 83) else X.binds (raws.drop (i + 1)) ((x.loc, x.val) :: k')) := by
      show _ = _
      rw [← HI.out.2, hdrop, binds_cons]
    have HSX := hid (HSM.out x (List.mem_of_getElem? hx))
    have cc := fun j u (hu : (rawC s x)[j]? = some u) => (HFR.out.b.cell (p := ⟨g, i * 4 + j, none⟩) (by rw [← HH.out]; exact hg)).trans (hc i x hx j u hu)
    have d0 := cc 0 _ rfl
    have d1 := cc 1 _ rfl
    have d2 := cc 2 _ rfl
    have d3 := cc 3 _ rfl
    have e4 : i * 4 + 0 = i * 4 := Nat.add_zero _
    rw [e4] at d0
    obtain ⟨xn, hxn⟩ : ∃ xn, s.size - x.n = xn := ⟨_, rfl⟩
    rw [hxn] at d2
    obtain ⟨Y, hY⟩ : ∃ Y, wr.heap.size = Y := ⟨_, rfl⟩
    obtain ⟨w3, hw3⟩ : ∃ w3, wr.alloc (.cells #[.string (X.ba x.pre), .string (X.ba x.loc), .int .i64 xn, .string (X.ba x.val)] 120) = w3 := ⟨_, rfl⟩
    have HX3 : Hid (w3.heap[Y]? = some (.cells #[.string (X.ba x.pre), .string (X.ba x.loc), .int .i64 xn, .string (X.ba x.val)] 120 (0, 0))) := by show _ = _; rw [← hw3, ← hY]; exact heap_alloc_new wr _
    have hb3 : Below wr.heap.size wr w3 := by rw [← hw3]; exact (Below.refl _ wr).alloc (Nat.le_refl _) _
    have HF3 := hid (HFR.out.below hb3)
    have HK3 := hid (HKR.out.below hb3)
    have HY2 : Hid (H + 3 ≤ Y) := by
      have := HFR.out.sz
      obtain ⟨es, clock, hm1, _⟩ := HKR.out
      have := Go.lt_of_block hm1
      show _ ≤ _
      omega
    have HW3 := hid hw3
    have HYE := hid hY
    have HXN := hid hxn
    clear hc cc e4 hdrop hw3 hY hb3 hxn hlt' hx HKR HFR
    go_upto_region 6 with fail
    rw [HW3.out, HYE.out]
    clear HW3 HYE d0 d1 d2 d3
    obtain ⟨y0, y1, y2, y3⟩ := row4 HX3.out
    have cO := ofSpaces_any w3 x (xn : Int) (X.ba x.val)
    obtain ⟨i1, hi1⟩ : ∃ i1, i + 1 = i1 := ⟨_, rfl⟩
    rw [hi1] at HBX
    have e1 : IntKind.i64.wrap ((i : Int) + 1) = (i1 : Int) := by rw [IntKind.wrap_i64] <;> omega
    have HM1 : Hid (m - i1 < m - i) := by show _ < _; omega
    have HI1 : Hid (i1 ≤ m ∧ N + i1 = N + i + 1) := by show _ ∧ _; omega
    clear hi1
    cases hos : x.ofSpaces
    · rw [hos] at cO HBX
      simp only [if_true] at HBX
      clear hos
      go_wp2_with fail
      refine cO.mono ?_
      rintro e w4 ⟨rfl, g3⟩
      have HF4 := hid (HF3.out.below g3)
      have HK4 := hid (HK3.out.below g3)
      clear g3 cO HF3 HK3 HX3 y0 y1 y2 y3
      go_wp2_with fail
      go_roundw
      case rel => exact ⟨i1, k', rfl, hid ⟨HI1.out.1, HBX.out.symm⟩, hid (HK4.out.mono (by have := HI1.out; omega)), HF4⟩
      case measure => simpa [intOf] using HM1.out
    · rw [hos] at cO HBX
      simp only [Bool.true_eq_false, if_false] at HBX
      clear hos y0 y1 y2 y3
      obtain ⟨pb, hpb⟩ : ∃ pb, X.ba x.pre = pb := ⟨_, rfl⟩
      obtain ⟨lb, hlb⟩ : ∃ lb, X.ba x.loc = lb := ⟨_, rfl⟩
      obtain ⟨vb, hvb⟩ : ∃ vb, X.ba x.val = vb := ⟨_, rfl⟩
      have hpl : pb.toList = x.pre := by rw [← hpb]; exact ba_toList _
      have hll : lb.toList = x.loc := by rw [← hlb]; exact ba_toList _
      have hvl : vb.toList = x.val := by rw [← hvb]; exact ba_toList _
      rw [← hpl, ← hll, ← hvl] at HBX
      have HSX2 : Hid (lb.size ≤ 1000000000000 ∧ vb.size ≤ 1000000000000 ∧ lb.data.toList = lb.toList ∧ vb.data.toList = vb.toList) := by
        have h1 := HSX.out.2.1
        have h2 := HSX.out.2.2
        refine ⟨by rw [← hlb]; show x.loc.toArray.size ≤ _; rw [List.size_toArray]; omega, by rw [← hvb]; show x.val.toArray.size ≤ _; rw [List.size_toArray]; omega, by rw [hll, ← hlb]; simp [X.ba], by rw [hvl, ← hvb]; simp [X.ba]⟩
      rw [hpb, hlb, hvb] at cO HX3 ⊢
      clear hpb hlb hvb hpl hll hvl HSX
      obtain ⟨y0, y1, y2, y3⟩ := row4 HX3.out
      go_wp2_with fail
      refine cO.mono ?_
      rintro e w4 ⟨rfl, g3⟩
      have HF4 := hid (HF3.out.below g3)
      have HK4 := hid (HK3.out.below g3)
      have HX4 : Hid (w4.heap[Y]? = some (.cells #[.string pb, .string lb, .int .i64 xn, .string vb] 120 (0, 0))) := by show _ = _; rw [g3.block Y (Go.lt_of_block HX3.out)]; exact HX3.out
      clear g3 cO HF3 HK3 HX3 y0 y1 y2 y3
      obtain ⟨y0, y1, y2, y3⟩ := row4 HX4.out
      by_cases hp : pb.toList = []
      · have HBX2 : Hid (X.binds raws k = X.binds (raws.drop i1) (([], vb.toList) :: k')) := by show _ = _; rw [HBX.out, if_pos hp]
        obtain ⟨w5, hrun, hk5, ht5⟩ := HK4.out.put (by unfold maxLen; omega) ⟨#[]⟩ vb (by decide) HSX2.out.2.1
        rw [HSX2.out.2.2.2] at hk5
        have HK5 := hid hk5
        have HF5 := hid (HF4.out.grown ht5.grown (Nat.le_refl _))
        clear HBX hk5 ht5 HK4 HF4
        go_wp2_with fail
        go_roundw
        case rel => exact ⟨i1, _, rfl, hid ⟨HI1.out.1, HBX2.out.symm⟩, hid (HK5.out.mono (by have := HI1.out; omega)), HF5⟩
        case measure => simpa [intOf] using HM1.out
      · have q0 : (pb.toList == []) = false := beq_eq_false_iff_ne.2 hp
        have HBX2 : Hid (X.binds raws k = if vb.toList = [] ∨ lb.toList = X.xmlns ∨ lb.toList = X.xml then .error (x.n, 83) else X.binds (raws.drop i1) ((lb.toList, vb.toList) :: k')) := by show _ = _; rw [HBX.out, if_neg hp]
        clear HBX
        have cF := fun U => fail_any 83 (xn : Int) U
        have HBAD : Hid (vb.toList = [] ∨ lb.toList = X.xmlns ∨ lb.toList = X.xml → RES = .error (x.n, 83)) := by
          intro hh
          rw [HRES0.out, HBX2.out, if_pos hh]
        by_cases h1 : vb.toList = []
        · have HE := hid (HBAD.out (Or.inl h1))
          clear HBAD HBX2
          go_wp2_with fail
          refine (cF _).mono ?_
          rintro en w5 ⟨rfl, rfl⟩
          exact ⟨rfl, ResOf.err HE.out HXN.out (by rw [HH.out]; exact HF4.out.b)⟩
        · have q1 : (vb.toList == []) = false := beq_eq_false_iff_ne.2 h1
          by_cases h2 : lb.toList = [120, 109, 108, 110, 115]
          · have HE := hid (HBAD.out (Or.inr (Or.inl h2)))
            clear HBAD HBX2
            go_wp2_with fail
            refine (cF _).mono ?_
            rintro en w5 ⟨rfl, rfl⟩
            exact ⟨rfl, ResOf.err HE.out HXN.out (by rw [HH.out]; exact HF4.out.b)⟩
          · have q2 : (lb.toList == [120, 109, 108, 110, 115]) = false := beq_eq_false_iff_ne.2 h2
            by_cases h3 : lb.toList = [120, 109, 108]
            · have HE := hid (HBAD.out (Or.inr (Or.inr h3)))
              clear HBAD HBX2
              go_wp2_with fail
              refine (cF _).mono ?_
              rintro en w5 ⟨rfl, rfl⟩
              exact ⟨rfl, ResOf.err HE.out HXN.out (by rw [HH.out]; exact HF4.out.b)⟩
            · have q3 : (lb.toList == [120, 109, 108]) = false := beq_eq_false_iff_ne.2 h3
              have HBX3 : Hid (X.binds raws k = X.binds (raws.drop i1) ((lb.toList, vb.toList) :: k')) := by
                show _ = _
                rw [HBX2.out, if_neg]
                rintro (h | h | h)
                · exact h1 h
                · exact h2 h
                · exact h3 h
              obtain ⟨w5, hrun, hk5, ht5⟩ := HK4.out.put (by unfold maxLen; omega) lb vb HSX2.out.1 HSX2.out.2.1
              rw [HSX2.out.2.2.1, HSX2.out.2.2.2] at hk5
              have HK5 := hid hk5
              have HF5 := hid (HF4.out.grown ht5.grown (Nat.le_refl _))
              clear HBX2 HBAD hk5 ht5 HK4 HF4
              go_wp2_with fail
              go_roundw
              case rel => exact ⟨i1, _, rfl, hid ⟨HI1.out.1, HBX3.out.symm⟩, hid (HK5.out.mono (by have := HI1.out; omega)), HF5⟩
              case measure => simpa [intOf] using HM1.out
  · have t0 : decide ((i : Int) < (m : Int)) = false := decide_eq_false (by omega)
    have HBD : Hid (X.binds raws k = .ok k') := by
      have := HI.out.2
      rw [List.drop_of_length_le (by rw [HM.out]; exact hge)] at this
      exact this.symm
    have HKR2 : Hid (KM wr (H + 2) (N + 32) k') := HKR.out.mono (by have := HI.out.1; omega)
    have hrun := HKR2.out.look (X.ba nm.1) (by show nm.1.toArray.size ≤ _; rw [List.size_toArray]; have := HNM.out.1; omega)
    rw [show (X.ba nm.1).data.toList = nm.1 from by simp [X.ba]] at hrun
    obtain ⟨x0, x1⟩ := row2 (show wr.heap[H]? = some (.cells #[.string (X.ba nm.1), .string (X.ba nm.2)] 82 (0, 0)) from HFR.out.n)
    have cF := fun U => fail_any 83 (at_ : Int) U
    clear HKR HI
    have t1 : decide (i < m) = false := decide_eq_false (by omega)
    cases hlk : X.look k' nm.1 with
    | none =>
      have HE : Hid (RES = .error (n, 83)) := by show _ = _; rw [HRES0.out, HBD.out]; simp only [hlk]
      rw [hlk] at hrun
      clear hlk
      go_wp2_with fail
      refine (cF _).mono ?_
      rintro en w5 ⟨rfl, rfl⟩
      exact ⟨rfl, ResOf.err HE.out HAT.out.symm (by rw [HH.out]; exact HFR.out.b)⟩
    | some sp =>
      have HE : Hid (RES = match X.plainAttrs k' raws [] with | .error e => .error e | .ok al => .ok (sp, al, k')) := by show _ = _; rw [HRES0.out, HBD.out]; simp only [hlk]
      rw [hlk] at hrun
      clear hlk cF
      obtain ⟨spb, hspb⟩ : ∃ spb, X.ba sp = spb := ⟨_, rfl⟩
      obtain ⟨lob, hlob⟩ : ∃ lob, X.ba nm.2 = lob := ⟨_, rfl⟩
      have hrun2 : (Instr.lookup 70 (.map (some (H + 2))) (.string (X.ba nm.1)) true).run Tryz.prog wr = .ok (.tuple #[.string spb, .bool true]) wr := by rw [← hspb]; exact hrun
      rw [hlob] at x1
      obtain ⟨Z, hZ⟩ : ∃ Z, wr.heap.size = Z := ⟨_, rfl⟩
      obtain ⟨w3, hw3⟩ : ∃ w3, wr.alloc (.cells #[.string spb, .string lob, .slice none 0 0, .slice none 0 0, .string ⟨#[]⟩, .int .i64 0, .int .i64 0] 44) = w3 := ⟨_, rfl⟩
      have hb3 : Below wr.heap.size wr w3 := by rw [← hw3]; exact (Below.refl _ wr).alloc (Nat.le_refl _) _
      have H20 : Hid (R2 W H nm Z spb lob (N + 32) k' [] (.slice none 0 0) w3) := by
        refine ⟨HFR.out.below hb3, HKR2.out.below hb3, ?_, World.ownsRow_nil _ _ _ _, ?_⟩
        · rw [← hw3, ← hZ]; exact heap_alloc_new wr _
        · have := HFR.out.sz
          obtain ⟨es, clock, hm1, _⟩ := HKR2.out
          have := Go.lt_of_block hm1
          omega
      have HW3 := hid hw3
      have HZE := hid hZ
      have HSPB := hid hspb
      have HLOB := hid hlob
      clear hb3 hw3 hZ hspb HFR HKR2 HBD hrun HRES0 HK hlob
      go_upto_region 16 with fail
      rw [HW3.out, HZE.out]
      clear HW3 HZE hrun2 x0 x1 t0 t1 hge
      go_wp2_with fail
      go_loopw [84] (fun vj wr => ∃ (j : Nat) (al : List X.A) (av : Value), vj = .int .i64 j ∧ Hid (j ≤ m ∧ al.length ≤ j ∧ X.plainAttrs k' (raws.drop j) al = X.plainAttrs k' raws []) ∧ Hid (R2 W H nm Z spb lob (N + 32) k' al av wr)) (fun vj _ => m - (intOf vj).toNat)
      case atStart => exact ⟨0, [], _, rfl, hid ⟨Nat.zero_le _, Nat.le_refl _, rfl⟩, H20⟩
      case round =>
        obtain ⟨j, al, av, rfl, HJ, H2⟩ := hrel
        clear H20
        rcases Nat.lt_or_ge j m with hlt | hge
        · have t0 : decide ((j : Int) < (m : Int)) = true := decide_eq_true (by omega)
          obtain ⟨g, rfl, hg, hc⟩ : ∃ g, ad = some ⟨g, 0, none⟩ ∧ g < W.heap.size ∧ ∀ j x, raws[j]? = some x → ∀ i u, (rawC s x)[i]? = some u → W.cell? ⟨g, j * 4 + i, none⟩ = some u := by
            rcases HR.out with ⟨rfl, _⟩ | ⟨g, c, he, h2, h3⟩
            · have := HM.out; simp at this; omega
            · simp only [Value.slice.injEq] at he; exact ⟨g, he.1, h2, h3⟩
          have hlt' : j < raws.length := by rw [HM.out]; exact hlt
          obtain ⟨x, hx⟩ : ∃ x, raws[j]? = some x := ⟨_, List.getElem?_eq_getElem hlt'⟩
          have hdrop : raws.drop j = x :: raws.drop (j + 1) := by
            rw [List.drop_eq_getElem_cons hlt']
            rw [List.getElem?_eq_getElem hlt'] at hx
            rw [Option.some.inj hx]
          obtain ⟨j1, hj1⟩ : ∃ j1, j + 1 = j1 := ⟨_, rfl⟩
          have HPX : Hid (X.plainAttrs k' raws [] = if x.ofSpaces then X.plainAttrs k' (raws.drop j1) al else match (if x.pre = [] then some [] else X.look k' x.pre) with
              | none => .error (x.n, 83)
              | some sp => if hasA al (X.ba sp) (X.ba x.loc) then .error (x.n, 6) else X.plainAttrs k' (raws.drop j1) (al ++ [⟨X.ba sp, X.ba x.loc, X.ba x.val⟩])) := by
            show _ = _
            rw [← HJ.out.2.2, hdrop, plain_cons, hj1]
          have HSX := hid (HSM.out x (List.mem_of_getElem? hx))
          have cc := fun q u (hu : (rawC s x)[q]? = some u) => (H2.out.f.b.cell (p := ⟨g, j * 4 + q, none⟩) (by rw [← HH.out]; exact hg)).trans (hc j x hx q u hu)
          have d0 := cc 0 _ rfl
          have d1 := cc 1 _ rfl
          have d2 := cc 2 _ rfl
          have d3 := cc 3 _ rfl
          have e4 : j * 4 + 0 = j * 4 := Nat.add_zero _
          rw [e4] at d0
          obtain ⟨xn, hxn⟩ : ∃ xn, s.size - x.n = xn := ⟨_, rfl⟩
          rw [hxn] at d2
          obtain ⟨Y, hY⟩ : ∃ Y, wr.heap.size = Y := ⟨_, rfl⟩
          obtain ⟨w3, hw3⟩ : ∃ w3, wr.alloc (.cells #[.string (X.ba x.pre), .string (X.ba x.loc), .int .i64 xn, .string (X.ba x.val)] 120) = w3 := ⟨_, rfl⟩
          have HX3 : Hid (w3.heap[Y]? = some (.cells #[.string (X.ba x.pre), .string (X.ba x.loc), .int .i64 xn, .string (X.ba x.val)] 120 (0, 0))) := by show _ = _; rw [← hw3, ← hY]; exact heap_alloc_new wr _
          have hb3 : Below wr.heap.size wr w3 := by rw [← hw3]; exact (Below.refl _ wr).alloc (Nat.le_refl _) _
          have H23 := hid (H2.out.below hb3)
          have HYZ : Hid (Z < Y) := by have := H2.out.fresh.1; show _ < _; omega
          have HW3 := hid hw3
          have HYE := hid hY
          have HXN := hid hxn
          have e1 : IntKind.i64.wrap ((j : Int) + 1) = (j1 : Int) := by rw [IntKind.wrap_i64] <;> omega
          have HM1 : Hid (m - j1 < m - j ∧ j1 ≤ m) := by show _ ∧ _; omega
          have HAL : Hid (al.length + 1 ≤ j1 ∧ al.length ≤ 31) := by have := HJ.out.2.1; show _ ∧ _; omega
          clear hc cc e4 hdrop hw3 hY hb3 hxn hlt' hx H2 hj1
          go_upto_region 19 with fail
          rw [HW3.out, HYE.out]
          clear HW3 HYE d0 d1 d2 d3
          obtain ⟨y0, y1, y2, y3⟩ := row4 HX3.out
          have cO := ofSpaces_any w3 x (xn : Int) (X.ba x.val)
          cases hos : x.ofSpaces
          · rw [hos] at cO HPX
            simp only [Bool.false_eq_true, if_false] at HPX
            clear hos y0 y1 y2 y3
            obtain ⟨pb, hpb⟩ : ∃ pb, X.ba x.pre = pb := ⟨_, rfl⟩
            obtain ⟨lb, hlb⟩ : ∃ lb, X.ba x.loc = lb := ⟨_, rfl⟩
            obtain ⟨vb, hvb⟩ : ∃ vb, X.ba x.val = vb := ⟨_, rfl⟩
            have hpl : pb.toList = x.pre := by rw [← hpb]; exact ba_toList _
            have HPB : Hid (pb.size ≤ 1000000000000 ∧ pb.data.toList = x.pre) := by
              have h1 := HSX.out.1
              refine ⟨by rw [← hpb]; show x.pre.toArray.size ≤ _; rw [List.size_toArray]; omega, by rw [← hpb]; simp [X.ba]⟩
            rw [hpb, hlb, hvb] at cO HX3 ⊢
            rw [hlb, hvb] at HPX
            have HPL := hid hpl
            clear hpb hlb hvb hpl HSX
            obtain ⟨y0, y1, y2, y3⟩ := row4 HX3.out
            go_wp2_with fail
            refine cO.mono ?_
            rintro e w4 ⟨rfl, g3⟩
            have H24 := hid (H23.out.below g3)
            have HX4 : Hid (w4.heap[Y]? = some (.cells #[.string pb, .string lb, .int .i64 xn, .string vb] 120 (0, 0))) := by show _ = _; rw [g3.block Y (Go.lt_of_block HX3.out)]; exact HX3.out
            clear g3 cO H23 HX3 y0 y1 y2 y3
            obtain ⟨y0, y1, y2, y3⟩ := row4 HX4.out
            obtain ⟨A, hA⟩ : ∃ A, w4.heap.size = A := ⟨_, rfl⟩
            obtain ⟨w5, hw5⟩ : ∃ w5, w4.alloc (.cells #[.string ⟨#[]⟩, .string lb, .string vb] 126) = w5 := ⟨_, rfl⟩
            have HA5 : Hid (w5.heap[A]? = some (.cells #[.string ⟨#[]⟩, .string lb, .string vb] 126 (0, 0))) := by show _ = _; rw [← hw5, ← hA]; exact heap_alloc_new w4 _
            have hb5 : Below w4.heap.size w4 w5 := by rw [← hw5]; exact (Below.refl _ w4).alloc (Nat.le_refl _) _
            have H25 := hid (H24.out.below hb5)
            have HAZ : Hid (Z < A ∧ av.ownBlock ≠ some A ∧ Y ≠ A) := by
              have := H24.out.fresh
              rw [hA] at this
              exact ⟨this.1, this.2, by have := Go.lt_of_block HX4.out; omega⟩
            have HX5 : Hid (w5.heap[Y]? = some (.cells #[.string pb, .string lb, .int .i64 xn, .string vb] 120 (0, 0))) := by show _ = _; rw [hb5.block Y (Go.lt_of_block HX4.out)]; exact HX4.out
            have HW5 := hid hw5
            have HAE := hid hA
            clear hw5 hA hb5 H24 HX4
            go_upto_region 21 with fail
            rw [HW5.out, HAE.out]
            clear HW5 HAE y0 y1 y2 y3
            obtain ⟨y0, y1, y2, y3⟩ := row4 HX5.out
            by_cases hp : pb.toList = []
            · have HPX2 : Hid (X.plainAttrs k' raws [] = if hasA al ⟨#[]⟩ lb then .error (x.n, 6) else X.plainAttrs k' (raws.drop j1) (al ++ [⟨⟨#[]⟩, lb, vb⟩])) := by
                show _ = _
                rw [HPX.out, if_pos (HPL.out.symm.trans hp)]
                rfl
              clear HPX HPL HPB
              have H26 := H25
              have HA6 := HA5
              have HX6 := HX5
              clear H25 HA5 HX5
              obtain ⟨va, vc, rfl⟩ := H26.out.a.shape
              obtain ⟨aln, haln⟩ : ∃ aln, al.length = aln := ⟨_, rfl⟩
              have HALN := hid haln
              have HAZ2 : Hid (Z < A ∧ (Value.slice va aln vc).ownBlock ≠ some A ∧ Y ≠ A) := by have := HAZ.out; rw [haln] at this; exact this
              have H26' := hid (haln ▸ H26.out)
              obtain ⟨-, -, z2, -, -, -, -⟩ := row7 H26'.out.o
              clear HAZ H26 haln
              go_wp2_with fail
              go_loopw [117] (fun vq wr => ∃ (q : Nat), vq = .int .i64 q ∧ Hid (q ≤ aln ∧ hasA (al.take q) ⟨#[]⟩ lb = false) ∧ Hid (R2 W H nm Z spb lob (N + 32) k' al (.slice va aln vc) wr) ∧ Hid (wr.heap[Y]? = some (.cells #[.string pb, .string lb, .int .i64 xn, .string vb] 120 (0, 0))) ∧ Hid (wr.heap[A]? = some (.cells #[.string ⟨#[]⟩, .string lb, .string vb] 126 (0, 0)))) (fun vq _ => aln - (intOf vq).toNat)
              case atStart => exact ⟨0, rfl, hid ⟨Nat.zero_le _, rfl⟩, H26', HX6, HA6⟩
              case round =>
                obtain ⟨q, rfl, HQ, H2R, HXR, HAR⟩ := hrel
                clear z2 H26' HX6 HA6
                rcases Nat.lt_or_ge q aln with hltq | hgeq
                · have t2 : decide ((q : Int) < (aln : Int)) = true := decide_eq_true (by omega)
                  have haln32 : aln ≤ 31 := by have := HAL.out.2; rw [HALN.out] at this; exact this
                  obtain ⟨gg, rfl, hgB, hgs, hcc⟩ := H2R.out.a.cells rfl (by omega)
                  obtain ⟨y, hy⟩ : ∃ y, al[q]? = some y := ⟨_, List.getElem?_eq_getElem (by rw [HALN.out]; exact hltq)⟩
                  have v0 := hcc q y hy 0 _ rfl
                  have v1 := hcc q y hy 1 _ rfl
                  have v2 := hcc q y hy 2 _ rfl
                  have e4 : q * 3 + 0 = q * 3 := Nat.add_zero _
                  rw [e4] at v0
                  obtain ⟨V, hV⟩ : ∃ V, wr.heap.size = V := ⟨_, rfl⟩
                  obtain ⟨w7, hw7⟩ : ∃ w7, wr.alloc (.cells #[.string y.sp, .string y.lo, .string y.va] 126) = w7 := ⟨_, rfl⟩
                  have HV7 : Hid (w7.heap[V]? = some (.cells #[.string y.sp, .string y.lo, .string y.va] 126 (0, 0))) := by show _ = _; rw [← hw7, ← hV]; exact heap_alloc_new wr _
                  have hb7 : Below wr.heap.size wr w7 := by rw [← hw7]; exact (Below.refl _ wr).alloc (Nat.le_refl _) _
                  have H27 := hid (H2R.out.below hb7)
                  have HX7 : Hid (w7.heap[Y]? = some (.cells #[.string pb, .string lb, .int .i64 xn, .string vb] 120 (0, 0))) := by show _ = _; rw [hb7.block Y (Go.lt_of_block HXR.out)]; exact HXR.out
                  have HA7 : Hid (w7.heap[A]? = some (.cells #[.string ⟨#[]⟩, .string lb, .string vb] 126 (0, 0))) := by show _ = _; rw [hb7.block A (Go.lt_of_block HAR.out)]; exact HAR.out
                  have HW7 := hid hw7
                  have HVE := hid hV
                  have HYY := hid hy
                  obtain ⟨q1, hq1⟩ : ∃ q1, q + 1 = q1 := ⟨_, rfl⟩
                  have HQ1 := hid hq1
                  have e2 : IntKind.i64.wrap ((q : Int) + 1) = (q1 : Int) := by rw [IntKind.wrap_i64] <;> omega
                  have HM2 : Hid (aln - q1 < aln - q ∧ q1 ≤ aln) := by show _ ∧ _; omega
                  clear hcc e4 hw7 hV hb7 H2R HXR HAR hy hq1
                  go_upto_region 28 with fail
                  rw [HW7.out, HVE.out]
                  clear HW7 HVE v0 v1 v2
                  obtain ⟨v0, v1, v2⟩ := row3' HV7.out
                  obtain ⟨a0, a1, a2⟩ := row3' HA7.out
                  obtain ⟨-, -, y2, -⟩ := row4 HX7.out
                  have hcas : y.sp.toList = (⟨#[]⟩ : ByteArray).toList ∧ y.lo.toList = lb.toList ∨ (y.sp.toList = (⟨#[]⟩ : ByteArray).toList ∧ ¬ y.lo.toList = lb.toList) ∨ ¬ y.sp.toList = (⟨#[]⟩ : ByteArray).toList := by
                    by_cases h1 : y.sp.toList = (⟨#[]⟩ : ByteArray).toList
                    · by_cases h2 : y.lo.toList = lb.toList
                      · exact Or.inl ⟨h1, h2⟩
                      · exact Or.inr (Or.inl ⟨h1, h2⟩)
                    · exact Or.inr (Or.inr h1)
                  rcases hcas with ⟨h1, h2⟩ | ⟨h1, h2⟩ | h1
                  · have HE2 : Hid (RES = .error (x.n, 6)) := by
                      show _ = _
                      rw [HE.out, HPX2.out, if_pos (hasA_hit HYY.out ⟨toList_inj.1 h1, toList_inj.1 h2⟩)]
                    have b1 : (y.sp.toList == (⟨#[]⟩ : ByteArray).toList) = true := by rw [h1]; simp
                    have b2 : (y.lo.toList == lb.toList) = true := by rw [h2]; simp
                    have cF := fun U => fail_any 6 (xn : Int) U
                    clear h1 h2
                    simp only [toList_nil] at b1
                    go_wp2_with fail
                    refine (cF _).mono ?_
                    rintro en w8 ⟨rfl, rfl⟩
                    exact ⟨rfl, ResOf.err HE2.out HXN.out (by rw [HH.out]; exact H27.out.f.b)⟩
                  · have HQ2 : Hid (q1 ≤ aln ∧ hasA (al.take q1) ⟨#[]⟩ lb = false) := by
                      refine ⟨HM2.out.2, ?_⟩
                      rw [← HQ1.out, hasA_snoc HYY.out HQ.out.2]
                      exact decide_eq_false (fun h => h2 (by rw [h.2]))
                    have b1 : (y.sp.toList == (⟨#[]⟩ : ByteArray).toList) = true := by rw [h1]; simp
                    have b2 : (y.lo.toList == lb.toList) = false := beq_eq_false_iff_ne.2 h2
                    clear h1 h2
                    simp only [toList_nil] at b1
                    go_wp2_with fail
                    go_roundw
                    case rel => exact ⟨q1, rfl, HQ2, H27, HX7, HA7⟩
                    case measure => simpa [intOf] using HM2.out.1
                  · have HQ2 : Hid (q1 ≤ aln ∧ hasA (al.take q1) ⟨#[]⟩ lb = false) := by
                      refine ⟨HM2.out.2, ?_⟩
                      rw [← HQ1.out, hasA_snoc HYY.out HQ.out.2]
                      exact decide_eq_false (fun h => h1 (by rw [h.1]))
                    have b1 : (y.sp.toList == (⟨#[]⟩ : ByteArray).toList) = false := beq_eq_false_iff_ne.2 h1
                    clear h1
                    simp only [toList_nil] at b1
                    go_wp2_with fail
                    go_roundw
                    case rel => exact ⟨q1, rfl, HQ2, H27, HX7, HA7⟩
                    case measure => simpa [intOf] using HM2.out.1
                · have t2 : decide ((q : Int) < (aln : Int)) = false := decide_eq_false (by omega)
                  have t3 : decide (q < aln) = false := decide_eq_false (by omega)
                  have HNO : Hid (hasA al ⟨#[]⟩ lb = false) := by
                    have := HQ.out.2
                    rw [List.take_of_length_le (by rw [HALN.out]; exact hgeq)] at this
                    exact this
                  have HPX3 : Hid (X.plainAttrs k' raws [] = X.plainAttrs k' (raws.drop j1) (al ++ [⟨⟨#[]⟩, lb, vb⟩])) := by
                    show _ = _
                    rw [HPX2.out, if_neg (by rw [HNO.out]; decide)]
                  obtain ⟨z0, z1, z2, z3, z4, z5, z6⟩ := row7 H2R.out.o
                  have hz2 := rowFree H2R.out.o 2
                  obtain ⟨a0, a1, a2⟩ := row3' HAR.out
                  obtain ⟨i0, hi, hz0, hz1, hzz⟩ := info_parts infoAttr
                  obtain ⟨w7, hw7⟩ : ∃ w7, wr.alloc (.cells #[.string ⟨#[]⟩, .string lb, .string vb] 126) = w7 := ⟨_, rfl⟩
                  obtain ⟨V, hV⟩ : ∃ V, wr.heap.size = V := ⟨_, rfl⟩
                  have hT : w7.heap[V]? = some (.cells #[.string ⟨#[]⟩, .string lb, .string vb] 126 (0, 0)) := by rw [← hw7, ← hV]; exact heap_alloc_new wr _
                  have hb7 : Below wr.heap.size wr w7 := by rw [← hw7]; exact (Below.refl _ wr).alloc (Nat.le_refl _) _
                  have hown : w7.ownsRow (Z + 1) 126 3 (.slice va aln vc) aln (attrsC al) := by have := (H2R.out.below hb7).a; unfold AOwn at this; rw [HALN.out] at this; exact this
                  have hZs : Z + 1 ≤ w7.heap.size := by have := H2R.out.fresh.1; have := hb7.size; omega
                  have hnews := World.news_of_block hT
                  have haln32 : aln ≤ 31 := by have := HAL.out.2; rw [HALN.out] at this; exact this
                  have HB7 := hid hb7
                  have HW7 := hid hw7
                  have HVE := hid hV
                  clear hw7 hV hb7
                  go_wp2_with (at_builtin; (try rw [HW7.out, HVE.out]); refine wpList_append_own _ rfl _ _ 41 rfl (Z + 1) 126 i0 _ 3 48 Tryz.underlying41 hi hz0 hz1 hzz rfl (by decide) (.slice va aln vc) aln (attrsC al) rfl hown ⟨V, 0, none⟩ 1 1 [.string ⟨#[]⟩, .string lb, .string vb] rfl rfl hnews (by intro u hu; simp at hu; rcases hu with rfl | rfl | rfl <;> rfl) (by unfold maxLen; omega) (by omega) hZs ?_)
                  intro v' w8 hown1 hgrow hat
                  obtain ⟨va', vc', rfl⟩ : ∃ a c, v' = .slice a (aln + 1) c := by
                    rcases hown1.2 with ⟨rfl, h0⟩ | ⟨g, cap, cur, rfl, _⟩
                    · exact absurd h0 (by omega)
                    · exact ⟨_, _, rfl⟩
                  have HMO : Hid (R2 W H nm Z spb lob (N + 32) k' (al ++ [⟨⟨#[]⟩, lb, vb⟩]) (.slice va' (aln + 1) vc') (w8.setCell ⟨Z, 2, none⟩ (.slice va' (aln + 1) vc'))) := H2R.out.more (x := ⟨⟨#[]⟩, lb, vb⟩) HB7.out (by rw [HALN.out]; exact hown1) hgrow
                  have hZ8 : w8.heap[Z]? = some (nodeRow spb lob (.slice va aln vc) (.slice none 0 0) ⟨#[]⟩ 0 0) := by
                    rw [hgrow.block Z (by omega) (fun e => by have := (World.ownsRow.lt hown Z e.symm).1; omega), HB7.out.block Z (Go.lt_of_block H2R.out.o)]; exact H2R.out.o
                  have hz82 := rowFree hZ8 2
                  obtain ⟨-, -, zz2, -, -, -, -⟩ := row7 hZ8
                  clear hown1 hgrow hat hown hnews hT hi hz0 hz1 hzz a0 a1 a2 z0 z1 z2 z3 z4 z5 z6 hz2
                  go_wp2_with fail
                  go_roundw
                  case rel => exact ⟨j1, _, _, rfl, hid ⟨HM1.out.2, by rw [List.length_append]; exact HAL.out.1, HPX3.out.symm⟩, HMO⟩
                  case measure => simpa [intOf] using HM1.out.1
            · have q0 : (pb.toList == []) = false := beq_eq_false_iff_ne.2 hp
              have hrun := H25.out.m.look pb HPB.out.1
              rw [HPB.out.2] at hrun
              obtain ⟨a0, a1, a2⟩ := row3' HA5.out
              have f0 := rowFree HA5.out 0
              cases hlk : X.look k' x.pre with
              | none =>
                have HE2 : Hid (RES = .error (x.n, 83)) := by
                  show _ = _
                  rw [HE.out, HPX.out, if_neg (fun h => hp (HPL.out.trans h)), hlk]
                rw [hlk] at hrun
                have cF := fun U => fail_any 83 (xn : Int) U
                have HBX := hid ((H25.out.put HAZ.out.1 HAZ.out.2.1 0 (.string (X.ba (Option.getD (none : Option (List UInt8)) [])))).f.b)
                have HX6 : Hid ((w5.setCell ⟨A, 0, none⟩ (.string (X.ba (Option.getD (none : Option (List UInt8)) [])))).heap[Y]? = some (.cells #[.string pb, .string lb, .int .i64 xn, .string vb] 120 (0, 0))) := by
                  show _ = _
                  rw [(grownBy_set w5 A 0 _).block Y (Go.lt_of_block HX5.out) (fun e => HAZ.out.2.2 (Option.some.inj e))]; exact HX5.out
                obtain ⟨-, -, z2, -⟩ := row4 HX6.out
                clear hlk HX6
                go_wp2_with fail
                refine (cF _).mono ?_
                rintro en w7 ⟨rfl, rfl⟩
                exact ⟨rfl, ResOf.err HE2.out HXN.out (by rw [HH.out]; exact HBX.out)⟩
              | some sx =>
                have HPX2 : Hid (X.plainAttrs k' raws [] = if hasA al (X.ba sx) lb then .error (x.n, 6) else X.plainAttrs k' (raws.drop j1) (al ++ [⟨X.ba sx, lb, vb⟩])) := by
                  show _ = _
                  rw [HPX.out, if_neg (fun h => hp (HPL.out.trans h)), hlk]
                rw [hlk] at hrun
                obtain ⟨sb, hsb⟩ : ∃ sb, X.ba sx = sb := ⟨_, rfl⟩
                rw [show X.ba (Option.getD (some sx) []) = sb from hsb, show (some sx : Option (List UInt8)).isSome = true from rfl] at hrun
                rw [hsb] at HPX2
                have H26 := hid (H25.out.put HAZ.out.1 HAZ.out.2.1 0 (.string sb))
                have HA6 : Hid ((w5.setCell ⟨A, 0, none⟩ (.string sb)).heap[A]? = some (.cells #[.string sb, .string lb, .string vb] 126 (0, 0))) := row_set HA5.out 0 _
                have HX6 : Hid ((w5.setCell ⟨A, 0, none⟩ (.string sb)).heap[Y]? = some (.cells #[.string pb, .string lb, .int .i64 xn, .string vb] 120 (0, 0))) := by
                  show _ = _
                  rw [(grownBy_set w5 A 0 _).block Y (Go.lt_of_block HX5.out) (fun e => HAZ.out.2.2 (Option.some.inj e))]; exact HX5.out
                obtain ⟨w6, hw6⟩ : ∃ w6, w5.setCell ⟨A, 0, none⟩ (.string sb) = w6 := ⟨_, rfl⟩
                rw [hw6] at H26 HA6 HX6
                have HW6 := hid hw6
                clear hlk hsb HPX HPL HPB hw6
                go_upto_region 25 with fail
                rw [HW6.out]
                clear HW6 hrun a0 a1 a2 f0 y0 y1 y2 y3 H25 HA5 HX5
                obtain ⟨va, vc, rfl⟩ := H26.out.a.shape
                obtain ⟨aln, haln⟩ : ∃ aln, al.length = aln := ⟨_, rfl⟩
                have HALN := hid haln
                have HAZ2 : Hid (Z < A ∧ (Value.slice va aln vc).ownBlock ≠ some A ∧ Y ≠ A) := by have := HAZ.out; rw [haln] at this; exact this
                have H26' := hid (haln ▸ H26.out)
                obtain ⟨-, -, z2, -, -, -, -⟩ := row7 H26'.out.o
                clear HAZ H26 haln
                go_wp2_with fail
                go_loopw [117] (fun vq wr => ∃ (q : Nat), vq = .int .i64 q ∧ Hid (q ≤ aln ∧ hasA (al.take q) sb lb = false) ∧ Hid (R2 W H nm Z spb lob (N + 32) k' al (.slice va aln vc) wr) ∧ Hid (wr.heap[Y]? = some (.cells #[.string pb, .string lb, .int .i64 xn, .string vb] 120 (0, 0))) ∧ Hid (wr.heap[A]? = some (.cells #[.string sb, .string lb, .string vb] 126 (0, 0)))) (fun vq _ => aln - (intOf vq).toNat)
                case atStart => exact ⟨0, rfl, hid ⟨Nat.zero_le _, rfl⟩, H26', HX6, HA6⟩
                case round =>
                  obtain ⟨q, rfl, HQ, H2R, HXR, HAR⟩ := hrel
                  clear z2 H26' HX6 HA6
                  rcases Nat.lt_or_ge q aln with hltq | hgeq
                  · have t2 : decide ((q : Int) < (aln : Int)) = true := decide_eq_true (by omega)
                    have haln32 : aln ≤ 31 := by have := HAL.out.2; rw [HALN.out] at this; exact this
                    obtain ⟨gg, rfl, hgB, hgs, hcc⟩ := H2R.out.a.cells rfl (by omega)
                    obtain ⟨y, hy⟩ : ∃ y, al[q]? = some y := ⟨_, List.getElem?_eq_getElem (by rw [HALN.out]; exact hltq)⟩
                    have v0 := hcc q y hy 0 _ rfl
                    have v1 := hcc q y hy 1 _ rfl
                    have v2 := hcc q y hy 2 _ rfl
                    have e4 : q * 3 + 0 = q * 3 := Nat.add_zero _
                    rw [e4] at v0
                    obtain ⟨V, hV⟩ : ∃ V, wr.heap.size = V := ⟨_, rfl⟩
                    obtain ⟨w7, hw7⟩ : ∃ w7, wr.alloc (.cells #[.string y.sp, .string y.lo, .string y.va] 126) = w7 := ⟨_, rfl⟩
                    have HV7 : Hid (w7.heap[V]? = some (.cells #[.string y.sp, .string y.lo, .string y.va] 126 (0, 0))) := by show _ = _; rw [← hw7, ← hV]; exact heap_alloc_new wr _
                    have hb7 : Below wr.heap.size wr w7 := by rw [← hw7]; exact (Below.refl _ wr).alloc (Nat.le_refl _) _
                    have H27 := hid (H2R.out.below hb7)
                    have HX7 : Hid (w7.heap[Y]? = some (.cells #[.string pb, .string lb, .int .i64 xn, .string vb] 120 (0, 0))) := by show _ = _; rw [hb7.block Y (Go.lt_of_block HXR.out)]; exact HXR.out
                    have HA7 : Hid (w7.heap[A]? = some (.cells #[.string sb, .string lb, .string vb] 126 (0, 0))) := by show _ = _; rw [hb7.block A (Go.lt_of_block HAR.out)]; exact HAR.out
                    have HW7 := hid hw7
                    have HVE := hid hV
                    have HYY := hid hy
                    obtain ⟨q1, hq1⟩ : ∃ q1, q + 1 = q1 := ⟨_, rfl⟩
                    have HQ1 := hid hq1
                    have e2 : IntKind.i64.wrap ((q : Int) + 1) = (q1 : Int) := by rw [IntKind.wrap_i64] <;> omega
                    have HM2 : Hid (aln - q1 < aln - q ∧ q1 ≤ aln) := by show _ ∧ _; omega
                    clear hcc e4 hw7 hV hb7 H2R HXR HAR hy hq1
                    go_upto_region 28 with fail
                    rw [HW7.out, HVE.out]
                    clear HW7 HVE v0 v1 v2
                    obtain ⟨v0, v1, v2⟩ := row3' HV7.out
                    obtain ⟨a0, a1, a2⟩ := row3' HA7.out
                    obtain ⟨-, -, y2, -⟩ := row4 HX7.out
                    have hcas : y.sp.toList = (sb : ByteArray).toList ∧ y.lo.toList = lb.toList ∨ (y.sp.toList = (sb : ByteArray).toList ∧ ¬ y.lo.toList = lb.toList) ∨ ¬ y.sp.toList = (sb : ByteArray).toList := by
                      by_cases h1 : y.sp.toList = (sb : ByteArray).toList
                      · by_cases h2 : y.lo.toList = lb.toList
                        · exact Or.inl ⟨h1, h2⟩
                        · exact Or.inr (Or.inl ⟨h1, h2⟩)
                      · exact Or.inr (Or.inr h1)
                    rcases hcas with ⟨h1, h2⟩ | ⟨h1, h2⟩ | h1
                    · have HE2 : Hid (RES = .error (x.n, 6)) := by
                        show _ = _
                        rw [HE.out, HPX2.out, if_pos (hasA_hit HYY.out ⟨toList_inj.1 h1, toList_inj.1 h2⟩)]
                      have b1 : (y.sp.toList == (sb : ByteArray).toList) = true := by rw [h1]; simp
                      have b2 : (y.lo.toList == lb.toList) = true := by rw [h2]; simp
                      have cF := fun U => fail_any 6 (xn : Int) U
                      clear h1 h2
                      go_wp2_with fail
                      refine (cF _).mono ?_
                      rintro en w8 ⟨rfl, rfl⟩
                      exact ⟨rfl, ResOf.err HE2.out HXN.out (by rw [HH.out]; exact H27.out.f.b)⟩
                    · have HQ2 : Hid (q1 ≤ aln ∧ hasA (al.take q1) sb lb = false) := by
                        refine ⟨HM2.out.2, ?_⟩
                        rw [← HQ1.out, hasA_snoc HYY.out HQ.out.2]
                        exact decide_eq_false (fun h => h2 (by rw [h.2]))
                      have b1 : (y.sp.toList == (sb : ByteArray).toList) = true := by rw [h1]; simp
                      have b2 : (y.lo.toList == lb.toList) = false := beq_eq_false_iff_ne.2 h2
                      clear h1 h2
                      go_wp2_with fail
                      go_roundw
                      case rel => exact ⟨q1, rfl, HQ2, H27, HX7, HA7⟩
                      case measure => simpa [intOf] using HM2.out.1
                    · have HQ2 : Hid (q1 ≤ aln ∧ hasA (al.take q1) sb lb = false) := by
                        refine ⟨HM2.out.2, ?_⟩
                        rw [← HQ1.out, hasA_snoc HYY.out HQ.out.2]
                        exact decide_eq_false (fun h => h1 (by rw [h.1]))
                      have b1 : (y.sp.toList == (sb : ByteArray).toList) = false := beq_eq_false_iff_ne.2 h1
                      clear h1
                      go_wp2_with fail
                      go_roundw
                      case rel => exact ⟨q1, rfl, HQ2, H27, HX7, HA7⟩
                      case measure => simpa [intOf] using HM2.out.1
                  · have t2 : decide ((q : Int) < (aln : Int)) = false := decide_eq_false (by omega)
                    have t3 : decide (q < aln) = false := decide_eq_false (by omega)
                    have HNO : Hid (hasA al sb lb = false) := by
                      have := HQ.out.2
                      rw [List.take_of_length_le (by rw [HALN.out]; exact hgeq)] at this
                      exact this
                    have HPX3 : Hid (X.plainAttrs k' raws [] = X.plainAttrs k' (raws.drop j1) (al ++ [⟨sb, lb, vb⟩])) := by
                      show _ = _
                      rw [HPX2.out, if_neg (by rw [HNO.out]; decide)]
                    obtain ⟨z0, z1, z2, z3, z4, z5, z6⟩ := row7 H2R.out.o
                    have hz2 := rowFree H2R.out.o 2
                    obtain ⟨a0, a1, a2⟩ := row3' HAR.out
                    obtain ⟨i0, hi, hz0, hz1, hzz⟩ := info_parts infoAttr
                    obtain ⟨w7, hw7⟩ : ∃ w7, wr.alloc (.cells #[.string sb, .string lb, .string vb] 126) = w7 := ⟨_, rfl⟩
                    obtain ⟨V, hV⟩ : ∃ V, wr.heap.size = V := ⟨_, rfl⟩
                    have hT : w7.heap[V]? = some (.cells #[.string sb, .string lb, .string vb] 126 (0, 0)) := by rw [← hw7, ← hV]; exact heap_alloc_new wr _
                    have hb7 : Below wr.heap.size wr w7 := by rw [← hw7]; exact (Below.refl _ wr).alloc (Nat.le_refl _) _
                    have hown : w7.ownsRow (Z + 1) 126 3 (.slice va aln vc) aln (attrsC al) := by have := (H2R.out.below hb7).a; unfold AOwn at this; rw [HALN.out] at this; exact this
                    have hZs : Z + 1 ≤ w7.heap.size := by have := H2R.out.fresh.1; have := hb7.size; omega
                    have hnews := World.news_of_block hT
                    have haln32 : aln ≤ 31 := by have := HAL.out.2; rw [HALN.out] at this; exact this
                    have HB7 := hid hb7
                    have HW7 := hid hw7
                    have HVE := hid hV
                    clear hw7 hV hb7
                    go_wp2_with (at_builtin; (try rw [HW7.out, HVE.out]); refine wpList_append_own _ rfl _ _ 41 rfl (Z + 1) 126 i0 _ 3 48 Tryz.underlying41 hi hz0 hz1 hzz rfl (by decide) (.slice va aln vc) aln (attrsC al) rfl hown ⟨V, 0, none⟩ 1 1 [.string sb, .string lb, .string vb] rfl rfl hnews (by intro u hu; simp at hu; rcases hu with rfl | rfl | rfl <;> rfl) (by unfold maxLen; omega) (by omega) hZs ?_)
                    intro v' w8 hown1 hgrow hat
                    obtain ⟨va', vc', rfl⟩ : ∃ a c, v' = .slice a (aln + 1) c := by
                      rcases hown1.2 with ⟨rfl, h0⟩ | ⟨g, cap, cur, rfl, _⟩
                      · exact absurd h0 (by omega)
                      · exact ⟨_, _, rfl⟩
                    have HMO : Hid (R2 W H nm Z spb lob (N + 32) k' (al ++ [⟨sb, lb, vb⟩]) (.slice va' (aln + 1) vc') (w8.setCell ⟨Z, 2, none⟩ (.slice va' (aln + 1) vc'))) := H2R.out.more (x := ⟨sb, lb, vb⟩) HB7.out (by rw [HALN.out]; exact hown1) hgrow
                    have hZ8 : w8.heap[Z]? = some (nodeRow spb lob (.slice va aln vc) (.slice none 0 0) ⟨#[]⟩ 0 0) := by
                      rw [hgrow.block Z (by omega) (fun e => by have := (World.ownsRow.lt hown Z e.symm).1; omega), HB7.out.block Z (Go.lt_of_block H2R.out.o)]; exact H2R.out.o
                    have hz82 := rowFree hZ8 2
                    obtain ⟨-, -, zz2, -, -, -, -⟩ := row7 hZ8
                    clear hown1 hgrow hat hown hnews hT hi hz0 hz1 hzz a0 a1 a2 z0 z1 z2 z3 z4 z5 z6 hz2
                    go_wp2_with fail
                    go_roundw
                    case rel => exact ⟨j1, _, _, rfl, hid ⟨HM1.out.2, by rw [List.length_append]; exact HAL.out.1, HPX3.out.symm⟩, HMO⟩
                    case measure => simpa [intOf] using HM1.out.1
          · rw [hos] at cO HPX
            simp only [if_true] at HPX
            clear hos
            go_wp2_with fail
            refine cO.mono ?_
            rintro e w4 ⟨rfl, g3⟩
            have H24 := hid (H23.out.below g3)
            clear g3 cO H23 HX3 y0 y1 y2 y3
            go_wp2_with fail
            go_roundw
            case rel => exact ⟨j1, al, av, rfl, hid ⟨HM1.out.2, by have := HAL.out.1; omega, HPX.out.symm⟩, H24⟩
            case measure => simpa [intOf] using HM1.out.1
        · have t0 : decide ((j : Int) < (m : Int)) = false := decide_eq_false (by omega)
          have HE3 : Hid (RES = .ok (sp, al, k')) := by
            have := HJ.out.2.2
            rw [List.drop_of_length_le (by rw [HM.out]; exact hge)] at this
            show _ = _
            rw [HE.out, ← this]
            rfl
          obtain ⟨z0, z1, z2, z3, z4, z5, z6⟩ := row7 H2.out.o
          have HZ1 := H2.out.f.z
          unfold nodeRow at HZ1
          obtain ⟨y0, y1, y2, y3, y4, y5, y6⟩ := row7 HZ1
          have f0 := rowFree HZ1 0
          have f1 := rowFree HZ1 1
          have f2 := rowFree HZ1 2
          have f3 := rowFree HZ1 3
          have f4 := rowFree HZ1 4
          have f5 := rowFree HZ1 5
          have f6 := rowFree HZ1 6
          have HZ2 := hid HZ1
          obtain ⟨va, vc, rfl⟩ := H2.out.a.shape
          clear HZ1
          go_wp2_with fail
          obtain ⟨p1, p2, p3⟩ := H2.out.out (st7_grown wr (H + 1) (.string spb) (.string lob) (.slice va al.length vc) (.slice none 0 0) (.string ⟨#[]⟩) (.int .i64 0) (.int .i64 0))
          exact bodyPost_ret (v := .tuple #[.agg #[.string spb, .string lob, .slice va al.length vc, .slice none 0 0, .string ⟨#[]⟩, .int .i64 0, .int .i64 0], .map (some (H + 2))]) (results_pair rfl _ _ (H + 1) 44 _ (0, 0) _ (.map (some (H + 2))) rfl (st7_row HZ2.out _ _ _ _ _ _ _) rfl Tryz.underlying44 rfl sizeNode) rfl (Or.inl ⟨sp, al, k', H + 2, _, HE3.out, by rw [HSPB.out, HLOB.out], p1, by have := HJ.out; omega, by rw [HH.out]; omega, p2, p3⟩)
end Go.Proofs.YteejphiklpnjhaaGreatDoor
namespace Go.Proofs.YteejphiklpnjhaaGreatDoor
set_option maxRecDepth 100000
set_option maxHeartbeats 16000000
open Go.RowKit
open Go.Lib (hid)
theorem last_col (s : ByteArray) : ∀ k : Nat, k ≤ s.size → (k : Int) - Lib.lastIdx s 10 k = (((s.data.toList.take k).reverse.takeWhile (fun c => c != 10)).length : Int) + 1
  | 0, _ => by simp [Lib.lastIdx]
  | k + 1, h => by
    have ih := last_col s k (by omega)
    have hk : k < s.data.toList.length := by rw [← Lib.size_eq]; omega
    have hk2 : k < s.data.size := by simpa using hk
    have ht : s.data.toList.take (k + 1) = s.data.toList.take k ++ [s.data.toList[k]] := by rw [List.take_add_one, List.getElem?_eq_getElem hk]; rfl
    have hx : s.data[k]! = s.data.toList[k] := by rw [getElem!_pos s.data k hk2]; simp
    rw [ht, List.reverse_append, List.reverse_cons, List.reverse_nil, List.nil_append, List.singleton_append, List.takeWhile_cons]
    by_cases hc : s.data.toList[k] = 10
    · rw [Lib.lastIdx_hit s 10 k (by rw [hx, hc]; rfl), if_neg (by simp [hc])]
      simp; omega
    · have hne : ((s.data[k]!).toNat : Int) ≠ 10 := by
        rw [hx]
        intro e
        exact hc (UInt8.toNat.inj (by have : s.data.toList[k].toNat = 10 := by omega
                                      exact this))
      rw [Lib.lastIdx_miss s 10 k hne, if_pos (by simpa using hc)]
      rw [List.length_cons]
      omega
def posV (s : ByteArray) (p : Nat) : Value := .agg #[.int .i64 (X.lineOf s.data.toList p), .int .i64 (X.colOf s.data.toList p)]
theorem infoPos : (Tryz.prog.info? 32).map (·.size) = some 2 := by kernel_rfl
theorem place_any (s : ByteArray) (p : Nat) (hp : p ≤ s.size) (hs : s.size ≤ 1000000000000) (W : World) :
  Calls Tryz.prog 23 #[.string s, .int .i64 p] W fun en W' => en = .returned (posV s p) ∧ Below W.heap.size W W' := by
 obtain ⟨t, ht⟩ : ∃ t, s.extract 0 p = t := ⟨_, rfl⟩
 have htl : t.data.toList = s.data.toList.take p := by rw [← ht, cut_list]; simp
 have htz : t.size = p := by rw [Lib.size_eq, htl, List.length_take, ← Lib.size_eq]; omega
 have cC := fun U => Tryz.strings_Count_one t 10 U
 have cL := fun U => Tryz.strings_LastIndex_one t ⟨#[10]⟩ rfl (by omega) U
 have hcol := last_col t t.size (Nat.le_refl _)
 have hln : X.lineOf s.data.toList p = Lib.countByte t.data.toList 10 + 1 := by rw [htl]; rfl
 have hcl : (X.colOf s.data.toList p : Int) = (p : Int) - Lib.lastIndexByte t 10 := by
  have : Lib.lastIndexByte t 10 = Lib.lastIdx t 10 t.size := rfl
  rw [this]
  rw [htz] at hcol ⊢
  rw [hcol, htl, List.take_take, Nat.min_self]
  unfold X.colOf
  omega
 have hcnt : Lib.countByte t.data.toList 10 ≤ p := by
  unfold Lib.countByte
  have := List.count_le_length (a := (10 : UInt8)) (l := t.data.toList)
  rw [← Lib.size_eq, htz] at this
  exact this
 have hcb : X.colOf s.data.toList p ≤ p + 1 := by
  unfold X.colOf
  have := (List.takeWhile_prefix (fun c : UInt8 => c != 10) (l := (s.data.toList.take p).reverse)).length_le
  rw [List.length_reverse, List.length_take] at this
  omega
 obtain ⟨ln, hlne⟩ : ∃ ln, X.lineOf s.data.toList p = ln := ⟨_, rfl⟩
 obtain ⟨cl, hcle⟩ : ∃ cl, X.colOf s.data.toList p = cl := ⟨_, rfl⟩
 obtain ⟨cnt, hcnte⟩ : ∃ cnt, Lib.countByte t.data.toList 10 = cnt := ⟨_, rfl⟩
 obtain ⟨li, hlie⟩ : ∃ li, Lib.lastIndexByte t 10 = li := ⟨_, rfl⟩
 unfold posV
 rw [hlne, hcle]
 rw [hcnte] at cC hln hcnt
 rw [hcle, hlie] at hcl
 rw [hcle] at hcb
 rw [hlne] at hln
 replace cL : ∀ U, Calls Tryz.prog 31 #[.string t, .string ⟨#[10]⟩] U fun e w' => e = .returned (.int .i64 li) ∧ w' = U := fun U => by
  have := cL U
  rw [show (((⟨#[10]⟩ : ByteArray)[0]'(by decide)).toNat : Int) = 10 from rfl, hlie] at this
  exact this
 have e1 : IntKind.i64.wrap (1 + (cnt : Int)) = (ln : Int) := by rw [IntKind.wrap_i64] <;> omega
 have e2 : IntKind.i64.wrap ((p : Int) - li) = (cl : Int) := by rw [IntKind.wrap_i64] <;> omega
 have P0 : (0 : Int) ≤ (p : Int) := by omega
 have P1 : (p : Int) ≤ (s.size : Int) := by omega
 clear htl htz hcol hln hcl hcnt hcb hlne hcle hcnte hlie
 obtain ⟨w1, hw1⟩ : ∃ w1, W.alloc (.cells #[.int .i64 0, .int .i64 0] 32) = w1 := ⟨_, rfl⟩
 have hX1 : w1.heap[W.heap.size]? = some (.cells #[.int .i64 0, .int .i64 0] 32 (0, 0)) := by rw [← hw1]; exact heap_alloc_new W _
 have HB : Hid (Below W.heap.size W w1) := by show Below _ _ _; rw [← hw1]; exact (Below.refl _ W).alloc (Nat.le_refl _) _
 obtain ⟨x0, x1⟩ := row2 hX1
 have f0 := rowFree hX1 0
 have f1 := rowFree hX1 1
 have HX1 := hid hX1
 have HW1 := hid hw1
 clear hX1 hw1
 go_enter Tryz.func23, Tryz.ntmps23
 go_upto_region 1 with fail
 rw [HW1.out]
 go_wp2_with fail
 refine (cC _).mono ?_
 rintro e w2 ⟨rfl, hw⟩
 rw [hw]
 clear hw w2
 go_wp2_with fail
 refine (cL _).mono ?_
 rintro e w2 ⟨rfl, hw⟩
 rw [hw]
 clear hw w2
 go_wp2_with fail
 exact bodyPost_ret (v := .agg #[.int .i64 ln, .int .i64 cl]) (results_cell_row rfl _ _ W.heap.size 32 _ (0, 0) _ rfl (row_set (row_set HX1.out 0 _) 1 _) Tryz.underlying32 rfl infoPos) rfl ⟨rfl, (HB.out.setCell (p := ⟨W.heap.size, 0, none⟩) (Nat.le_refl _) _).setCell (p := ⟨W.heap.size, 1, none⟩) (Nat.le_refl _) _⟩
end Go.Proofs.YteejphiklpnjhaaGreatDoor
namespace Go.Proofs.YteejphiklpnjhaaGreatDoor
set_option maxRecDepth 100000
set_option maxHeartbeats 16000000
open Go.RowKit
open Go.Lib (hid)
namespace X
def AIn (w : World) (P : Nat → Prop) (al : List A) (v : Value) : Prop :=
 (al = [] ∧ ∃ a c, v = .slice a 0 c ∧ (a = none → c = 0)) ∨ (0 < al.length ∧ ∃ b o c, v = .slice (some ⟨b, o, none⟩) al.length c ∧ P b ∧ al.length ≤ c ∧ ∀ j u, (attrsC al)[j]? = some u → w.cell? ⟨b, o + j, none⟩ = some u)
theorem AIn.keep {P Q : Nat → Prop} {w w' : World} (hP : ∀ b, P b → Q b) (h : ∀ b, P b → w'.heap[b]? = w.heap[b]?) {al : List A} {v : Value} (hv : AIn w P al v) : AIn w' Q al v := by
 rcases hv with hv | ⟨h0, b, o, c, hv, hb, hc, ha⟩
 · exact Or.inl hv
 · exact Or.inr ⟨h0, b, o, c, hv, hP b hb, hc, fun j x hj => by rw [World.cell?_of_block (w := w) (h b hb)]; exact ha j x hj⟩
theorem AIn.shape {P : Nat → Prop} {w : World} {al : List A} {v : Value} (h : AIn w P al v) : ∃ a c, v = .slice a al.length c := by
 rcases h with ⟨rfl, a, c, h, _⟩ | ⟨_, b, o, c, h, _⟩
 · exact ⟨a, c, h⟩
 · exact ⟨_, c, h⟩
def N.At (w : World) (P : Nat → Prop) : N → Nat → Nat → Prop
 | .nil, _, _ => True
 | .cons sp lo al ks tx ln cl r, g, o => P g ∧ w.cell? ⟨g, o, none⟩ = some (.string sp) ∧ w.cell? ⟨g, o + 1, none⟩ = some (.string lo) ∧ (∃ v, w.cell? ⟨g, o + 2, none⟩ = some v ∧ AIn w P al v) ∧
    (∃ v, w.cell? ⟨g, o + 3, none⟩ = some v ∧ ((ks = .nil ∧ ∃ a c, v = .slice a 0 c ∧ (a = none → c = 0)) ∨ ∃ g' o' c, v = .slice (some ⟨g', o', none⟩) ks.length c ∧ ks.length ≤ c ∧ 0 < ks.length ∧ ks.At w P g' o')) ∧
    w.cell? ⟨g, o + 4, none⟩ = some (.string tx) ∧ w.cell? ⟨g, o + 5, none⟩ = some (.int .i64 ln) ∧ w.cell? ⟨g, o + 6, none⟩ = some (.int .i64 cl) ∧ r.At w P g (o + 7)
def N.In (w : World) (P : Nat → Prop) (t : N) (v : Value) : Prop :=
 (t = .nil ∧ ∃ a c, v = .slice a 0 c ∧ (a = none → c = 0)) ∨ ∃ g o c, v = .slice (some ⟨g, o, none⟩) t.length c ∧ t.length ≤ c ∧ 0 < t.length ∧ t.At w P g o
theorem N.At.keep {P Q : Nat → Prop} {w w' : World} (hP : ∀ b, P b → Q b) (h : ∀ b, P b → w'.heap[b]? = w.heap[b]?) : ∀ (t : N) (g o : Nat), t.At w P g o → t.At w' Q g o
 | .nil, _, _, _ => trivial
 | .cons sp lo al ks tx ln cl r, g, o, ⟨hg, h0, h1, ⟨u, h2, hu⟩, ⟨v, h3, hv⟩, h4, h5, h6, hr⟩ => by
   have hc : ∀ i, w'.cell? ⟨g, i, none⟩ = w.cell? ⟨g, i, none⟩ := fun i => World.cell?_of_block (w := w) (h g hg)
   refine ⟨hP g hg, ?_, ?_, ⟨u, ?_, hu.keep hP h⟩, ⟨v, ?_, ?_⟩, ?_, ?_, ?_, N.At.keep hP h r g (o + 7) hr⟩
   · rw [hc]; exact h0
   · rw [hc]; exact h1
   · rw [hc]; exact h2
   · rw [hc]; exact h3
   · rcases hv with hv | ⟨g', o', c, hv, hl, hp, ha⟩
     · exact Or.inl hv
     · exact Or.inr ⟨g', o', c, hv, hl, hp, N.At.keep hP h ks g' o' ha⟩
   · rw [hc]; exact h4
   · rw [hc]; exact h5
   · rw [hc]; exact h6
theorem N.In.keep {P Q : Nat → Prop} {w w' : World} (hP : ∀ b, P b → Q b) (h : ∀ b, P b → w'.heap[b]? = w.heap[b]?) {t : N} {v : Value} (hv : t.In w P v) : t.In w' Q v := by
 rcases hv with hv | ⟨g, o, c, hv, hl, hp, ha⟩
 · exact Or.inl hv
 · exact Or.inr ⟨g, o, c, hv, hl, hp, N.At.keep hP h t g o ha⟩
theorem N.In.shape {P : Nat → Prop} {w : World} {t : N} {v : Value} (h : t.In w P v) : ∃ a c, v = .slice a t.length c := by
 rcases h with ⟨rfl, a, c, h, _⟩ | ⟨g, o, c, h, _⟩
 · exact ⟨a, c, h⟩
 · exact ⟨_, c, h⟩
def E.Has (w : World) (P : Nat → Prop) (x : E) (cs : List Value) : Prop := ∃ av kv, cs = [.string x.sp, .string x.lo, av, kv, .string x.tx, .int .i64 x.ln, .int .i64 x.cl] ∧ AIn w P (E.as x) av ∧ x.ks.In w P kv
theorem E.Has.keep {P Q : Nat → Prop} {w w' : World} (hP : ∀ b, P b → Q b) (h : ∀ b, P b → w'.heap[b]? = w.heap[b]?) {x : E} {cs : List Value} (hv : x.Has w P cs) : x.Has w' Q cs := by
 obtain ⟨av, kv, h1, h2, h3⟩ := hv
 exact ⟨av, kv, h1, h2.keep hP h, h3.keep hP h⟩
def N.Cells (w : World) (P : Nat → Prop) : N → List Value → Prop
 | .nil, cs => cs = []
 | .cons sp lo al ks tx ln cl r, cs => ∃ av kv cs', cs = .string sp :: .string lo :: av :: kv :: .string tx :: .int .i64 ln :: .int .i64 cl :: cs' ∧ AIn w P al av ∧ ks.In w P kv ∧ r.Cells w P cs'
theorem N.Cells.keep {P Q : Nat → Prop} {w w' : World} (hP : ∀ b, P b → Q b) (h : ∀ b, P b → w'.heap[b]? = w.heap[b]?) : ∀ (t : N) (cs : List Value), t.Cells w P cs → t.Cells w' Q cs
 | .nil, _, hc => hc
 | .cons _ _ _ _ _ _ _ r, _, ⟨av, kv, cs', he, hl, hn, hr⟩ => ⟨av, kv, cs', he, hl.keep hP h, hn.keep hP h, N.Cells.keep hP h r cs' hr⟩
theorem N.Cells.app {P : Nat → Prop} {w : World} : ∀ (a b : N) (cs ds : List Value), a.Cells w P cs → b.Cells w P ds → (a.app b).Cells w P (cs ++ ds)
 | .nil, b, cs, ds, hc, hd => by
   rw [show cs = [] from hc]
   exact hd
 | .cons _ _ _ _ _ _ _ r, b, _, ds, ⟨av, kv, cs', he, hl, hn, hr⟩, hd => ⟨av, kv, cs' ++ ds, by rw [he]; rfl, hl, hn, N.Cells.app r b cs' ds hr hd⟩
theorem N.Cells.one {P : Nat → Prop} {w : World} {x : E} {cs : List Value} (h : x.Has w P cs) : x.one.Cells w P cs := by
 obtain ⟨av, kv, rfl, h2, h3⟩ := h
 exact ⟨av, kv, [], rfl, h2, h3, rfl⟩
theorem N.Cells.at {P : Nat → Prop} {w : World} {g : Nat} (hg : P g) : ∀ (t : N) (cs : List Value) (o : Nat), t.Cells w P cs → (∀ j u, cs[j]? = some u → w.cell? ⟨g, o + j, none⟩ = some u) → t.At w P g o
 | .nil, _, _, _, _ => trivial
 | .cons sp lo al ks tx ln cl r, cs, o, ⟨av, kv, cs', he, hl, hn, hr⟩, hc => by
   subst he
   refine ⟨hg, hc 0 _ rfl, hc 1 _ rfl, ⟨av, hc 2 _ rfl, hl⟩, ⟨kv, hc 3 _ rfl, ?_⟩, hc 4 _ rfl, hc 5 _ rfl, hc 6 _ rfl, N.Cells.at hg r cs' (o + 7) hr (fun j u hj => ?_)⟩
   · rcases hn with hn | ⟨g', o', c, hv, h1, h2, h3⟩
     · exact Or.inl hn
     · exact Or.inr ⟨g', o', c, hv, h1, h2, h3⟩
   · have := hc (j + 7) u (by simpa using hj)
     rw [show o + 7 + j = o + (j + 7) by omega]
     exact this
theorem N.len0 {t : N} (h : t.length = 0) : t = .nil := by
 cases t with
 | nil => rfl
 | cons => simp [N.length] at h
end X
def OwnN (w : World) (B : Nat) (g0 : Option Nat) (b : Nat) : Prop := B ≤ b ∧ b < w.heap.size ∧ g0 ≠ some b ∧ ∃ cs T, w.heap[b]? = some (.cells cs T (0, 0)) ∧ T ≠ 5
def KeepN (w w' : World) (B : Nat) : Prop := w.heap.size ≤ w'.heap.size ∧ ∀ b cs T, B ≤ b → w.heap[b]? = some (.cells cs T (0, 0)) → T ≠ 5 → w'.heap[b]? = some (.cells cs T (0, 0))
theorem KeepN.below {w w' : World} (hb : Below w.heap.size w w') (B : Nat) : KeepN w w' B := ⟨hb.size, fun b _ _ _ h _ => (hb.block b (Go.lt_of_block h)).trans h⟩
theorem KeepN.grown {w w' : World} {R B : Nat} (g : w.grownBy w' (some R)) (hR : R < B) : KeepN w w' B := ⟨g.size, fun b _ _ hB h _ => (g.block b (Go.lt_of_block h) (fun e => by have := Option.some.inj e; omega)).trans h⟩
theorem KeepN.bytes {w w' : World} {b B : Nat} (k : Kept b w w') (hs : w.heap.size ≤ w'.heap.size) (hb : b < B) : KeepN w w' B :=
 ⟨hs, fun c cs T hB h hT => k c _ h (fun e => by have := Option.some.inj e; omega) (fun _ _ e => hT (by injection e))⟩
theorem OwnN.keep {w w' : World} {B : Nat} {g0 : Option Nat} {b : Nat} (h : OwnN w B g0 b) (k : KeepN w w' B) : OwnN w' B g0 b ∧ w'.heap[b]? = w.heap[b]? := by
 obtain ⟨h1, h2, h3, cs, T, h4, h5⟩ := h
 have h6 := k.2 b cs T h1 h4 h5
 exact ⟨⟨h1, Nat.lt_of_lt_of_le h2 k.1, h3, cs, T, h6, h5⟩, h6.trans h4.symm⟩
def KOwn (B : Nat) (t : X.N) (v : Value) (w : World) : Prop := ∃ cs, w.ownsRow B 44 7 v t.length cs ∧ t.Cells w (OwnN w B v.ownBlock) cs
theorem KOwn.nil (B : Nat) (w : World) : KOwn B .nil (.slice none 0 0) w := ⟨[], World.ownsRow_nil _ _ _ _, rfl⟩
theorem KOwn.keep {B : Nat} {t : X.N} {v : Value} {w w' : World} (h : KOwn B t v w) (k : KeepN w w' B) : KOwn B t v w' := by
 obtain ⟨cs, h1, h2⟩ := h
 refine ⟨cs, ⟨h1.1, ?_⟩, X.N.Cells.keep (fun b hb => (hb.keep k).1) (fun b hb => (hb.keep k).2) t cs h2⟩
 rcases h1.2 with h | ⟨g, cap, cur, hv, hB, hg, hr⟩
 · exact Or.inl h
 · exact Or.inr ⟨g, cap, cur, hv, hB, k.2 g _ _ hB hg (by decide), hr⟩
theorem KOwn.lt {B : Nat} {t : X.N} {v : Value} {w : World} (h : KOwn B t v w) : ∀ k, v.ownBlock = some k → B ≤ k ∧ k < w.heap.size := by
 obtain ⟨cs, h1, _⟩ := h
 exact World.ownsRow.lt h1
theorem KOwn.shape {B : Nat} {t : X.N} {v : Value} {w : World} (h : KOwn B t v w) : ∃ a c, v = .slice a t.length c := by
 obtain ⟨cs, h1, _⟩ := h
 rcases h1.2 with ⟨rfl, h0⟩ | ⟨g, cap, cur, rfl, _⟩
 · exact ⟨none, 0, by rw [h0]⟩
 · exact ⟨_, _, rfl⟩
theorem KOwn.is {B : Nat} {t : X.N} {v : Value} {w : World} (h : KOwn B t v w) : t.In w (OwnN w B none) v := by
 obtain ⟨cs, h1, h2⟩ := h
 have hlt := World.ownsRow.lt h1
 have hc := fun g (hg : v.ownBlock = some g) => World.ownsRow.cells h1 hg
 rcases h1.2 with ⟨rfl, h0⟩ | ⟨g, cap, cur, rfl, _, hgr, hcap, _⟩
 · exact Or.inl ⟨X.N.len0 h0, none, 0, rfl, fun _ => rfl⟩
 · rcases Nat.eq_zero_or_pos t.length with h0 | h0
   · exact Or.inl ⟨X.N.len0 h0, _, cap, by rw [h0], fun h => by cases h⟩
   · refine Or.inr ⟨g, 0, cap, rfl, hcap, h0, ?_⟩
     refine X.N.Cells.at (P := OwnN w B none) ⟨(hlt g rfl).1, (hlt g rfl).2, (fun e => by cases e), _, _, hgr, by decide⟩ t cs 0 (X.N.Cells.keep (fun b hb => ⟨hb.1, hb.2.1, (fun e => by cases e), hb.2.2.2⟩) (fun _ _ => rfl) t cs h2) (fun j u hj => ?_)
     have := hc g rfl j u hj
     have e : (⟨g, 0, none⟩ : Addr).add j = ⟨g, j, none⟩ := by cases j <;> simp [Addr.add]
     rw [e] at this
     rw [Nat.zero_add]; exact this
theorem KOwn.more {B : Nat} {t : X.N} {v v' : Value} {w w' : World} {x : X.E} {new cs : List Value} (hx : x.Has w (OwnN w B v.ownBlock) new) (hcs : t.Cells w (OwnN w B v.ownBlock) cs)
   (hown : w'.ownsRow B 44 7 v' (t.length + 1) (cs ++ new)) (hgrow : w.grownBy w' v.ownBlock) (hat : ∀ b, v'.ownBlock = some b → v.ownBlock = some b ∨ w.heap.size ≤ b) : KOwn B (t.snoc x) v' w' := by
 have hl := X.N.snoc_length t x
 refine ⟨_, by rw [hl]; exact hown, ?_⟩
 have hs := hgrow.size
 refine X.N.Cells.keep (P := OwnN w B v.ownBlock) ?_ (fun b hb => hgrow.block b hb.2.1 (fun e => hb.2.2.1 e.symm)) _ _ (X.N.Cells.app t x.one cs new hcs (X.N.Cells.one hx))
 rintro b ⟨h1, h2, h3, cs', T, h4, h5⟩
 refine ⟨h1, by omega, ?_, cs', T, by rw [hgrow.block b h2 (fun e => h3 e.symm)]; exact h4, h5⟩
 intro e
 rcases hat b e with hat | hat
 · exact h3 hat
 · omega
theorem AOwn.is {B : Nat} {al : List X.A} {v : Value} {w : World} (h : AOwn B al v w) : X.AIn w (OwnN w B none) al v := by
 have hlt := World.ownsRow.lt h
 have hc := fun g (hg : v.ownBlock = some g) => World.ownsRow.cells h hg
 rcases h.2 with ⟨rfl, h0⟩ | ⟨g, cap, cur, rfl, _, hgr, hcap, _⟩
 · exact Or.inl ⟨List.eq_nil_of_length_eq_zero h0, none, 0, rfl, fun _ => rfl⟩
 · rcases Nat.eq_zero_or_pos al.length with h0 | h0
   · exact Or.inl ⟨List.eq_nil_of_length_eq_zero h0, _, cap, by rw [h0], fun h => by cases h⟩
   · refine Or.inr ⟨h0, g, 0, cap, rfl, ⟨(hlt g rfl).1, (hlt g rfl).2, (fun e => by cases e), _, _, hgr, by decide⟩, hcap, fun j u hj => ?_⟩
     have := hc g rfl j u hj
     have e : (⟨g, 0, none⟩ : Addr).add j = ⟨g, j, none⟩ := by cases j <;> simp [Addr.add]
     rw [e] at this
     rw [Nat.zero_add]; exact this
end Go.Proofs.YteejphiklpnjhaaGreatDoor
