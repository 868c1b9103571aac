/- What holds while a deed is filled; is a name among these? -/
import Derived.Test.YtohkomndapngjaaGreatDoorRC25
import Derived.Test.YtohkomndapngjaaGreatDoorRC26
import Derived.RowKit
import Derived.Deep.QuietTactic
namespace Go.Proofs.YtohkomndapngjaaGreatDoor
set_option maxRecDepth 100000
set_option maxHeartbeats 16000000
open Go.RowKit Go.Maps
open Go.Lib (hid)
theorem scontains_in {W:World}{P:Nat→Prop}{nv:Value}{ns:List ByteArray}(h:J.SIn W P ns nv) (x:ByteArray) (hl:ns.length≤1000000000000):
   Calls Tryz.prog 61 #[nv,.string x] W fun e w'=>e= .returned (.bool (decide (x.data.toList∈ns.map (fun y=>y.data.toList))))∧w'=W:=by
 have hd:decide (x.data.toList∈ns.map (fun y=>y.data.toList))=Lib.containsS ns x:=by
   rw [Bool.eq_iff_iff,decide_eq_true_iff,Lib.containsS_iff];constructor
   · intro h;obtain ⟨y,hy,he⟩:=List.mem_map.1 h;have:y=x:=ByteArray.ext (Array.ext' he);rw [←this];exact hy
   · intro h;exact List.mem_map.2 ⟨x,h,rfl⟩
 rw [hd];rcases h with ⟨rfl,a,c,rfl, -⟩|⟨h0,b,o,c,rfl, -,hc,hj⟩
 · exact Tryz.slices_Contains_string_empty a c x W
 · have:=Tryz.slices_Contains_string b o ns.length c ns x W (Nat.le_refl _) (by omega) (fun j hj'=>by
     rw [hj j ns[j] (List.getElem?_eq_getElem hj')];simp [List.getD,List.getElem?_eq_getElem hj'])
   rw [List.take_of_length_le (Nat.le_refl _)] at this;exact this
theorem G2.trans {A : Nat} {o q : Option Nat} {w W W' : World} (h : G2 A o w W) (h' : G2 A q W W') (hq : ∀ k, q = some k → o = some k ∨ w.heap.size ≤ k) : G2 A o w W' :=
 ⟨h'.os.trans h.os, h'.tape.trans h.tape, h'.output.trans h.output, Nat.le_trans h.size h'.size, fun k hk h1 h2 => (h'.block k (Nat.lt_of_lt_of_le hk h.size) h1 (fun e => by
  rcases hq k e with h3 | h3
  · exact h2 h3
  · omega)).trans (h.block k hk h1 h2)⟩
namespace R
open J (T V)
def evenT:T→Prop
 | .nil=>True
 | .cons k _ _ _ l ns r=>(k=6→ns.length=l.length∧l.length≤65536)∧evenT r
def even (x:V):Prop:=x.k=6→x.ns.length=x.l.length∧x.l.length≤65536∧evenT x.l
theorem vars_len:∀(t:T) (acc:List B) (ns:List ByteArray) (p:List B),vars acc t ns=some p→p.length=acc.length+t.length
 | .nil,acc,ns,p,h=>by cases h;rfl
 | .cons k b n s l m r,acc,ns,p,h=>by
   unfold vars at h
   cases hb:bind (ns.headD ⟨#[]⟩) k b n s with
   | none=>rw [hb] at h;cases h
   | some x=>
     rw [hb] at h
     have:=vars_len r (acc++ [x]) (ns.drop 1) p h
     rw [this,List.length_append,List.length_singleton]
     show _=acc.length+(r.length+1)
     omega
theorem put_len {i:Nat}{d d':D}{x:V}(hi:i≤5) (h:put i d x=some d'):d'.patch.length≤d.patch.length+(if i=5 then x.l.length else 0):=by
 obtain rfl|rfl|rfl|rfl|rfl|rfl:i=0∨i=1∨i=2∨i=3∨i=4∨i=5:=by omega
 iterate 5 (cases h;exact Nat.le_refl _)
 have h':(match vars d.patch x.l x.ns with|none=>none|some p=>some { d with patch:=p }:Option D)=some d':=h;cases hv:vars d.patch x.l x.ns with
 | none=>rw [hv] at h';cases h'
 | some p=>
   rw [hv] at h';cases h';have:=vars_len _ _ _ _ hv;rw [if_pos rfl];exact Nat.le_of_eq this
theorem go_step {K:Nat}{d:D}{k:Nat}{b:Bool}{n:Int}{s:ByteArray}{l:T}{m:List ByteArray}{r:T}{ns:List ByteArray}{i:Nat}{nm:ByteArray}(h:ns[i]? =some nm):
  go K d (.cons k b n s l m r) (ns.drop i)=(match step K d nm ⟨k,b,n,s,l,m⟩ with|none=>none|some d'=>go K d' r (ns.drop (i+1))):=by
 have e:ns.drop i=nm::ns.drop (i+1):=by
  obtain ⟨hi,e⟩:=List.getElem?_eq_some_iff.1 h;rw [List.drop_eq_getElem_cons hi,e]
 rw [e];rfl
theorem nm_inj (K:Nat):∀f∈table K,∀g∈table K,f.nm=g.nm→f=g:=by
 unfold table;by_cases h2:K=2
 · rw [if_pos h2];decide
 rw [if_neg h2];by_cases h3:K=3
 · rw [if_pos h3];decide
 rw [if_neg h3];by_cases h4:K=4
 · rw [if_pos h4];decide
 rw [if_neg h4];by_cases h5:K=5
 · rw [if_pos h5];decide
 rw [if_neg h5];by_cases h6:K=6
 · rw [if_pos h6];decide
 rw [if_neg h6];by_cases h7:K=7
 · rw [if_pos h7];decide
 rw [if_neg h7];by_cases h8:K=8
 · rw [if_pos h8];decide
 rw [if_neg h8];by_cases h9:K=9
 · rw [if_pos h9];decide
 rw [if_neg h9];decide
def Met (K:Nat) (ns:List ByteArray) (left:Lit→Bool):Prop:= ∀f∈table K,left (.string f.nm)=false→f.must=true→f.nm∈ns.map fun y=>y.data.toList
theorem Met.start {K:Nat}{ns:List ByteArray}{L:List (List UInt8×F)}(hL:L.Perm (fl K)):Met K ns (Maps.has (mapD fieldD L)):=fun f hf h0 _=>by
 rw [mapD_has,lookL_perm hL (fl_nodup K),lookL_of (fl_nodup K) (v:=f) (by unfold fl;exact List.mem_map.2 ⟨f,List.mem_reverse.2 hf,rfl⟩)] at h0
 cases h0
theorem Met.step {K:Nat}{ns:List ByteArray}{left:Lit→Bool}(h:Met K ns left) {f:F}(hf:f∈table K) (hm:f.must=true→f.nm∈ns.map fun y=>y.data.toList):Met K ns (fun z=>left z&& !z.sameKey (.string f.nm)):=fun g hg h0 hmu=>by
 simp only [Bool.and_eq_false_iff,Bool.not_eq_false'] at h0;rcases h0 with h0|h0
 · exact h g hg h0 hmu
 · have e:=WideAt.sameKey_eq h0;have e2:g.nm=f.nm:=by simpa using e
   obtain rfl:=nm_inj K g hg f hf e2;exact hm hmu
theorem Met.done {K:Nat}{ns:List ByteArray}{left:Lit→Bool}(h:Met K ns left) (h0:∀kl,left kl=false):musts K ns=true:=by
 unfold musts;rw [List.all_eq_true];intro f hf;cases hm:f.must with
 | false=>rfl
 | true=>
   obtain ⟨y,hy,e⟩:=List.mem_map.1 (h f hf (h0 _) hm);simp only [Bool.not_true,Bool.false_or,List.any_eq_true,decide_eq_true_eq];exact ⟨y,hy,e⟩
theorem Met.not {K:Nat}{ns:List ByteArray}{f:F}(hf:f∈table K) (hm:f.must=true) (hn:¬ f.nm∈ns.map fun y=>y.data.toList):musts K ns=false:=by
 cases h:musts K ns with
 | false=>rfl
 | true=>
   unfold musts at h;have:=List.all_eq_true.1 h f hf;rw [hm] at this;simp only [Bool.not_true,Bool.false_or,List.any_eq_true,decide_eq_true_eq] at this;obtain ⟨y,hy,e⟩:=this;exact absurd (List.mem_map.2 ⟨y,hy,e⟩) hn
end R
structure FR (w:World) (P:Nat→Prop) (A K:Nat) (id:Int) (ns:List ByteArray) (nv:Value) (X:Nat) (XO:Obj) (M:Nat) (L:List (List UInt8×R.F)) (i:Nat) (d:R.D) (pv:Value) (t2:J.T) (g o:Nat) (W:World):Prop where
 de:DAt W A w.heap.size K id d pv
 gr:G2 A none w W
 bx:W.heap[X]? =some XO
 ca:t2≠ .nil→t2.At W P g o
 sn:J.SIn W P ns nv
 ma:W.ownsMap Tryz.prog 9 R.fieldR M 4 (R.mapD R.fieldD L)
 le:d.patch.length≤i*65536
 ow:∀k,pv.ownBlock=some k→k≠X∧k≠M
theorem FR.after {w W W':World}{P:Nat→Prop}{A K:Nat}{id:Int}{ns:List ByteArray}{nv:Value}{X:Nat}{XO:Obj}{M:Nat}{L:List (List UInt8×R.F)}{i:Nat}{d:R.D}{pv:Value}{t2:J.T}{g o:Nat}(h:FR w P A K id ns nv X XO M L i d pv t2 g o W)
  (hP:∀b,P b→b<w.heap.size) (hb:Below W.heap.size W W'):FR w P A K id ns nv X XO M L i d pv t2 g o W':=by
 have hk:∀b,P b→W'.heap[b]? =W.heap[b]? :=fun b h1=>hb.block b (Nat.lt_of_lt_of_le (hP b h1) h.gr.size)
 exact ⟨h.de.below hb,h.gr.below hb,(hb.block X (Go.lt_of_block h.bx)).trans h.bx,fun hne=>J.T.At.keep (fun _ h=>h) hk _ _ _ (h.ca hne),J.SIn.keep (fun _ h=>h) hk h.sn,map_below h.ma hb,h.le,h.ow⟩
theorem FR.next {w W W':World}{P:Nat→Prop}{A K:Nat}{id:Int}{ns:List ByteArray}{nv:Value}{X:Nat}{XO:Obj}{M:Nat}{L:List (List UInt8×R.F)}{i:Nat}{d d':R.D}{pv pv':Value}{k1:Nat}{b1:Bool}{n1:Int}{s1:ByteArray}{l1:J.T}{m1:List ByteArray}{r:J.T}{g o:Nat}
   (h:FR w P A K id ns nv X XO M L i d pv (.cons k1 b1 n1 s1 l1 m1 r) g o W) (hP:∀b,P b→b<w.heap.size∧b≠A) (hXA:X≠A) (hMA:M≠A) (hg:G2 A pv.ownBlock W W') (hd:DAt W' A w.heap.size K id d' pv') (hq:∀k,pv'.ownBlock=some k→pv.ownBlock=some k∨W.heap.size≤k)
   (hl:d'.patch.length≤d.patch.length+65536):FR w P A K id ns nv X XO M L (i+1) d' pv' r g (o+6) W':=by
 have hX:=Go.lt_of_block h.bx;have hM:=World.ownsMap.lt h.ma;have e1:∀k,k≠A→k<W.heap.size→pv.ownBlock≠some k→W'.heap[k]? =W.heap[k]? :=fun k h1 h2 h3=>hg.block k h2 h1 h3
 have hP2:∀b,P b→W'.heap[b]? =W.heap[b]? :=fun b hb=>by
   obtain ⟨p1,p2⟩:=hP b hb;exact e1 b p2 (Nat.lt_of_lt_of_le p1 h.gr.size) (fun e=>by have:=(h.de.far b e).1;omega)
 have hMb:W'.heap[M]? =W.heap[M]? :=e1 M hMA hM (fun e=>(h.ow M e).2 rfl);refine ⟨hd,h.gr.trans hg (fun k hk=>Or.inr (h.de.far k hk).1),?_,fun hne=> ?_,J.SIn.keep (fun _ h=>h) hP2 h.sn,?_,?_,fun k hk=> ?_⟩
 · rw [e1 X hXA hX (fun e=>(h.ow X e).1 rfl)];exact h.bx
 · obtain ⟨-, -, -, -, -, -, -,hr⟩:=h.ca (fun h=>by cases h);exact J.T.At.keep (fun _ h=>h) hP2 _ _ _ hr
 · obtain ⟨es,clock,hb,rest⟩:=h.ma;exact ⟨es,clock,hMb.trans hb,rest⟩
 · have:=h.le;rw [Nat.succ_mul];omega
 · rcases hq k hk with h1|h1
   · exact h.ow k h1
   · omega
theorem FR.turned {w W W':World}{P:Nat→Prop}{A K:Nat}{id:Int}{ns:List ByteArray}{nv:Value}{X:Nat}{XO:Obj}{M:Nat}{L:List (List UInt8×R.F)}{i:Nat}{d:R.D}{pv:Value}{g o r:Nat}(h:FR w P A K id ns nv X XO M L i d pv .nil g o W)
   (hP:∀b,P b→b<w.heap.size) (hg:W.grownBy W' (some r)) (hr:w.heap.size≤r) (hX:r≠X) (hM:r≠M) (hp:∀k,pv.ownBlock=some k→k≠r):FR w P A K id ns nv X XO M L i d pv .nil g o W':=by
 have hA:=h.de.ab;have hk:∀b,P b→W'.heap[b]? =W.heap[b]? :=fun b h1=>hg.block b (Nat.lt_of_lt_of_le (hP b h1) h.gr.size) (fun e=>by have:=Option.some.inj e;have:=hP b h1;omega)
 have ho:pv.ownBlock=none∨pv.ownBlock≠some r:=by
   cases he:pv.ownBlock with
   | none=>exact Or.inl rfl
   | some k=>exact Or.inr fun e=>hp k he (Option.some.inj e)
 refine ⟨⟨⟨?_⟩,World.ownsRow.kept h.de.own hg ho,hA⟩,h.gr.grown hg (fun k hk=>Or.inr (Or.inr (by have:=Option.some.inj hk;omega))),?_,fun hne=>absurd rfl hne,J.SIn.keep (fun _ h=>h) hk h.sn,h.ma.kept hg (fun e=>hM (Option.some.inj e).symm),h.le,h.ow⟩
 · exact (hg.block A (Go.lt_of_block h.de.sx.h) (fun e=>by have:=Option.some.inj e;omega)).trans h.de.sx.h
 · exact (hg.block X (Go.lt_of_block h.bx) (fun e=>hX (Option.some.inj e).symm)).trans h.bx
structure FV where
 m:Bool
 k:Int
 f:FuncId
theorem wpList_next_field (w : World) {ops : Array Oper} {rest : List Oper} {o : Oper} {a : Act} {Q : Exit → Act → World → Prop} (hg : o.guard = none) (it : Operand) (hop : o.op = Op.next it false) (b r n : Nat) (D : DataW Unit) (left : Lit → Bool) (cnt : Nat)
  (hit : a.eval it = .pointer (some ⟨r, 0, none⟩)) (h : w.ranges Tryz.prog 9 R.fieldR b r n D left cnt)
  (hDone : cnt = 0 → (∀ kl, left kl = false) → wpList Tryz.prog ops Q rest (a.put o.dst (.tuple #[.bool false])) w)
  (hMore : ∀ (s : ByteArray) (c : FV) (w' : World) (cnt' : Nat), left (.string s.data.toList) = true → (∀ zd, D.atKey (.string s.data.toList) zd = .agg [.lit (.bool c.m), .lit (.int .u8 c.k), .lit (.int .i64 c.f)]) →
   w'.ranges Tryz.prog 9 R.fieldR b r n D (fun z => left z && !z.sameKey (.string s.data.toList)) cnt' → cnt' < cnt → w.grownBy w' (some r) → w'.heap.size = w.heap.size →
   (Instr.entry (.pointer (some ⟨r, 0, none⟩))).run Tryz.prog w' = .ok (.tuple #[.string s, .agg #[.bool c.m, .int .u8 c.k, .func (.func c.f) #[] #[]]]) w' → wpList Tryz.prog ops Q rest (a.put o.dst (.tuple #[.bool true, .string s, .agg #[.bool c.m, .int .u8 c.k, .func (.func c.f) #[] #[]]])) w') :
  wpList Tryz.prog ops Q (o :: rest) a w :=
 wpList_next_ranges w hg it hop 9 lawS R.fieldR Value.string (fun c : Bool × Int × FuncId => Value.agg #[.bool c.1, .int .u8 c.2.1, .func (.func c.2.2) #[] #[]])
  (fun key kl hkey => by
   cases key <;> simp [keyOf, Tryz.underlying9, mapKey] at hkey
   exact ⟨_, rfl⟩)
  (fun v y hv => by obtain ⟨m, k, f, rfl, -⟩ := R.fieldR_inv hv; exact ⟨(m, k, f), rfl⟩)
  b r n D left cnt hit h hDone (fun s c kl y w' cnt' hkey hlk hv hat hrg hlt hgr hsz hen => by
   obtain ⟨m, k, f⟩ := c
   have hkl : kl = .string s.data.toList := by
    simp [keyOf, Tryz.underlying9, mapKey] at hkey
    first | exact hkey.2.symm | exact hkey.symm
   subst hkl
   have hy : y.1 = .agg [.lit (.bool m), .lit (.int .u8 k), .lit (.int .i64 f)] := by
    obtain ⟨m', k', f', h1, h2⟩ := R.fieldR_inv hv
    simp only [Value.agg.injEq, Array.mk.injEq, List.cons.injEq, Value.bool.injEq, Value.int.injEq, Value.func.injEq, Fn.func.injEq, and_true, true_and] at h1
    obtain ⟨rfl, rfl, rfl⟩ := h1
    exact h2
   exact hMore s ⟨m, k, f⟩ w' cnt' hlk (fun zd => (hat zd).trans hy) hrg hlt hgr hsz hen)
theorem field_of {K:Nat}{L:List (List UInt8×R.F)}(hL:L.Perm (R.fl K)) (s:ByteArray) {m:Bool}{k:Int}{f:Nat}(hat:∀zd,(R.mapD R.fieldD L).atKey (.string s.data.toList) zd= .agg [.lit (.bool m),.lit (.int .u8 k),.lit (.int .i64 f)]):
   ∃f0,f0∈R.table K∧f0.nm=s.data.toList∧f0.must=m:=by
 have h1:=Maps.has_true_of_atKey hat;rw [R.mapD_has] at h1;cases h2:R.lookL L s.data.toList with
 | none=>rw [h2] at h1;cases h1
 | some f0=>
   have h3:=hat (.lit (.bool false));rw [R.mapD_at,h2] at h3;have h4:(DataW.agg [.lit (.bool f0.must),.lit (.int .u8 f0.kind),.lit (.int .i64 (R.fnOf f0.slot))]:DataW Unit)= .agg [.lit (.bool m),.lit (.int .u8 k),.lit (.int .i64 f)]:=h3;simp only [DataW.agg.injEq,List.cons.injEq,DataW.lit.injEq,Lit.bool.injEq] at h4;rw [R.look_fl K s hL] at h2;exact ⟨f0,(R.look_mem h2).1,(R.look_mem h2).2,h4.1⟩
open Go.RowKit
section
variable {P:Program}{ops:Array Oper}{C:World→Prop}{Q:Act→Prop}{o:Oper}{rest:List Oper}{a:Act}{x:Value}{f:FuncId}{args:Array Value}
end
end Go.Proofs.YtohkomndapngjaaGreatDoor

