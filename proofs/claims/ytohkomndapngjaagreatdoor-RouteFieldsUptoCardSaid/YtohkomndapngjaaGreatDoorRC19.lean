/- Obj: an object of names and values. -/
import Derived.Test.YtohkomndapngjaaGreatDoorRC12
import Derived.Test.YtohkomndapngjaaGreatDoorRC18
import Derived.Test.YtohkomndapngjaaGreatDoorRC1
import Derived.Test.YtohkomndapngjaaGreatDoorRC2
import Derived.Lib.SplitLaws
import Derived.Lib.Join
import Derived.Maps.Own
import Derived.Maps.OwnOps
import Derived.Maps.OwnSet
import Derived.Maps.Views
import Derived.Carry
import Derived.Test.YtohkomndapngjaaGreatDoorShelfN
import Derived.Lib.ItoaLen
import Derived.Lib.AppendIntMem
import Derived.Laws.BitsAllLaws
import Derived.WalkSmall
import Derived.Lib.AtoiErrMem
import Derived.Test.YtohkomndapngjaaGreatDoorProg
import Derived.WalkKit
import Derived.BigGuardPart
import Derived.Lib.Hide
namespace Go.Proofs.YtohkomndapngjaaGreatDoor
set_option maxRecDepth 100000
set_option maxHeartbeats 16000000
open Go.RowKit
open Go.Lib (hid)
namespace J
def PAt (w:World) (P:Nat→Prop):T→List ByteArray→Nat→Nat→Prop
 | .nil,[],_,_=>True
 | .cons k b n s l ns r,x::xs,g,o=>P g∧w.cell? ⟨g,o,none⟩=some (.string x)∧w.cell? ⟨g,o+1,none⟩=some (.int .u8 k)∧w.cell? ⟨g,o+2,none⟩=some (.bool b)∧w.cell? ⟨g,o+3,none⟩=some (.int .i64 n)∧w.cell? ⟨g,o+4,none⟩=some (.string s)∧
    (∃v,w.cell? ⟨g,o+5,none⟩=some v∧l.In w P v)∧(∃v,w.cell? ⟨g,o+6,none⟩=some v∧SIn w P ns v)∧PAt w P r xs g (o+7)
 | .nil,_::_,_,_=>False
 | .cons ..,[],_,_=>False
theorem PAt.keep {P Q:Nat→Prop}{w w':World}(hP:∀b,P b→Q b) (h:∀b,P b→w'.heap[b]? =w.heap[b]?):∀(t:T) (xs:List ByteArray) (g o:Nat),PAt w P t xs g o→PAt w' Q t xs g o
 | .nil,[],_,_,_=>trivial
 | .cons k b n s l ns r,x::xs,g,o,⟨hg,h0,h1,h2,h3,h4,⟨v,h5,hv⟩,⟨u,h6,hu⟩,hr⟩=>by
   have hc:∀i,w'.cell? ⟨g,i,none⟩=w.cell? ⟨g,i,none⟩:=fun i=>World.cell?_of_block (w:=w) (h g hg)
   exact ⟨hP g hg,(hc _).trans h0,(hc _).trans h1,(hc _).trans h2,(hc _).trans h3,(hc _).trans h4,⟨v,(hc _).trans h5,hv.keep hP h⟩,⟨u,(hc _).trans h6,hu.keep hP h⟩,PAt.keep hP h r xs g (o+7) hr⟩
 | .nil,_::_,_,_,h=>h.elim
 | .cons ..,[],_,_,h=>h.elim
def PIn (w:World) (P:Nat→Prop) (t:T) (xs:List ByteArray) (v:Value):Prop:= ∃a c,v= .slice a t.length c∧xs.length=t.length∧(t≠ .nil→∃g o,a=some ⟨g,o,none⟩∧t.length≤c∧PAt w P t xs g o)
end J
theorem NB.after {B V X n m g1 cap1:Nat}{OX:Obj}{ns:List ByteArray}{nm:ByteArray}{lv nv:Value}{ts:List Value}{w6 W W':World}(h:NB B V X OX n m ns nm lv nv ts w6 g1 cap1 W) (hb:Below W.heap.size W W'):NB B V X OX n m ns nm lv nv ts w6 g1 cap1 W':=by
 have hg:W.grownBy W' none:=⟨hb.os,hb.tape,hb.output,hb.size,fun k hk _=>hb.block k hk⟩;exact ⟨by rw [hb.block _ (Go.lt_of_block h.v)];exact h.v,by rw [hb.block _ (Go.lt_of_block h.x)];exact h.x,World.ownsRow.kept h.l hg (Classical.em _),World.ownsRow.kept h.n hg (Classical.em _),fun b h1 h2=>by rw [hb.block b (by have:=h.sz;omega)];exact h.far b h1 h2,
  Nat.le_trans h.sz hb.size,h.g,hb.os.trans h.os,hb.tape.trans h.tape,hb.output.trans h.output⟩
theorem VP.push2 {B V H8:Nat}{k:Int}{t:J.T}{ns ns':List ByteArray}{wr w9 WF:World}{lv nv nv':Value}{ts cs:List Value}(h:VP B V k t ns wr lv nv ts) {x:J.V}(hx:x.Has w9 (Own w9 H8 none) cs) (hB:B≤wr.heap.size) (hH:wr.heap.size≤H8) (hV:V<B)
   (hF:∀b,b<wr.heap.size→lv.ownBlock≠some b→nv.ownBlock≠some b→b≠V→WF.heap[b]? =wr.heap[b]?) (hF9:∀b,H8≤b→b<w9.heap.size→WF.heap[b]? =w9.heap[b]?) (hsz:w9.heap.size≤WF.heap.size) {g cap:Nat}
   (hrow:WF.ownsRow B 26 6 (.slice (some ⟨g,0,none⟩) (t.length+1) cap) (t.length+1) (ts++cs)) (hg:lv.ownBlock=some g∨w9.heap.size≤g) (h9:H8≤w9.heap.size)
   (hVF:WF.heap[V]? =some (vRow k (.slice (some ⟨g,0,none⟩) (t.length+1) cap) nv')) (hn:WF.ownsRow B 9 1 nv' ns'.length (ns'.map Value.string)) (hn':∀b,nv'.ownBlock=some b→nv.ownBlock=some b∨(wr.heap.size≤b∧b<H8)):
   VP B V k (t.snoc x) ns' WF (.slice (some ⟨g,0,none⟩) (t.length+1) cap) nv' (ts++cs):=by
 have hl:(t.snoc x).length=t.length+1:=J.T.snoc_length t x;have hll:=World.ownsRow.lt h.l;have hnl:=World.ownsRow.lt h.n;have hVl:=Go.lt_of_block h.v;refine ⟨hVF,by rw [hl];exact hrow,?_,hn⟩;have hfar:∀b,b<wr.heap.size→lv.ownBlock≠some b→nv.ownBlock≠some b→(Value.slice (some ⟨g,0,none⟩) (t.length+1) cap).ownBlock≠some b∧nv'.ownBlock≠some b:=by
   intro b h1 h2 h3;constructor
   · intro e;simp only [Value.ownBlock,Option.some.injEq] at e;subst e;rcases hg with hg|hg
     · exact h2 hg
     · omega
   · intro e;rcases hn' b e with h4|h4
     · exact h3 h4
     · omega
 refine J.T.Cells.app t x.one ts cs ?_ (J.T.Cells.one ?_)
 · refine J.T.Cells.keep (P:=Own2 wr B lv.ownBlock nv.ownBlock) ?_ (fun b hb=>hF b hb.2.1 hb.2.2.1 hb.2.2.2.1 (by have:=hb.1;omega)) t ts h.c;rintro b ⟨h1,h2,h3,h4,cs',T,h5⟩;exact ⟨h1,by omega,(hfar b h2 h3 h4).1,(hfar b h2 h3 h4).2,cs',T,by rw [hF b h2 h3 h4 (by omega)];exact h5⟩
 · refine J.V.Has.keep (P:=Own w9 H8 none) ?_ (fun b hb=>hF9 b hb.1 hb.2.1) hx;rintro b ⟨h3,h4,_,cs',T,h5⟩;refine ⟨by omega,by omega,?_,?_,cs',T,by rw [hF9 b h3 h4];exact h5⟩
   · intro e;simp only [Value.ownBlock,Option.some.injEq] at e;subst e;rcases hg with hg|hg
     · have:=(hll _ hg).2;omega
     · omega
   · intro e;rcases hn' b e with h6|h6
     · have:=(hnl b h6).2;omega
     · omega
structure OP (w:World) (P:Nat→Prop) (t1 t2:J.T) (n1 n2:List ByteArray) (lv nv:Value) (ts:List Value) (g o:Nat) (W:World):Prop where
 p:VP (w.heap.size+2) (w.heap.size+1) 6 t1 n1 W lv nv ts
 z:W.heap[w.heap.size]? =some (vRow 0 (.slice none 0 0) (.slice none 0 0))
 c:t2≠ .nil→J.PAt W P t2 n2 g o
 b:Below w.heap.size w W
theorem OP.after {w W W':World}{P:Nat→Prop}{t1 t2:J.T}{n1 n2:List ByteArray}{lv nv:Value}{ts:List Value}{g o:Nat}(h:OP w P t1 t2 n1 n2 lv nv ts g o W) (hP:∀b,P b→b<w.heap.size) (hb:Below W.heap.size W W'):OP w P t1 t2 n1 n2 lv nv ts g o W':=by
 have hs:=h.b.size;have hg:W.grownBy W' none:=⟨hb.os,hb.tape,hb.output,hb.size,fun k hk _=>hb.block k hk⟩;refine ⟨⟨by rw [hb.block _ (Go.lt_of_block h.p.v)];exact h.p.v,World.ownsRow.kept h.p.l hg (Classical.em _),?_,World.ownsRow.kept h.p.n hg (Classical.em _)⟩,by rw [hb.block _ (Go.lt_of_block h.z)];exact h.z,fun hne=>J.PAt.keep (fun _ h=>h) (fun b hb'=>hb.block b (Nat.lt_of_lt_of_le (hP b hb') hs)) _ _ _ _ (h.c hne),h.b.trans (hb.mono hs)⟩;refine J.T.Cells.keep (P:=Own2 W (w.heap.size+2) lv.ownBlock nv.ownBlock) ?_ (fun b hb'=>hb.block b hb'.2.1) t1 ts h.p.c;rintro b ⟨h1,h2,h3,h4,cs',T,h5⟩;exact ⟨h1,Nat.lt_of_lt_of_le h2 hb.size,h3,h4,cs',T,by rw [hb.block b h2];exact h5⟩
theorem OP.next {w wr wD w9 w11 WF:World}{P:Nat→Prop}{t1 t2 r:J.T}{n1 n2:List ByteArray}{nm:ByteArray}{lv nv:Value}{ts cs:List Value}{g o g1 cap1 g2 cap2 X H8 m:Nat}{OX:Obj}{x:J.V}(h:OP w P t1 t2 n1 n2 lv nv ts g o wr) (hm1:t1.length=m) (hm2:n1.length=m) (hP:∀b,P b→b<w.heap.size) (hr:r≠ .nil→J.PAt wr P r (n2.drop 1) g (o+7))
   (hX:wr.heap.size≤X) (h9:NB (w.heap.size+2) (w.heap.size+1) X OX m m n1 nm lv nv ts wr g1 cap1 w9) (hg1:nv.ownBlock=some g1∨g1<H8) (hH:wr.heap.size≤H8) (hH9:H8≤w9.heap.size) (hx:x.Has w9 (Own w9 H8 none) cs)
   (hD:∃O,wD=w9.alloc O) (hg:wD.grownBy w11 lv.ownBlock) (ho:w11.ownsRow (w.heap.size+2) 26 6 (.slice (some ⟨g2,0,none⟩) (m+1) cap2) (m+1) (ts++cs)) (hat:lv.ownBlock=some g2∨g2=wD.heap.size)
   (hWF:WF=(w11.setCell ⟨w.heap.size+1,5,none⟩ (.slice (some ⟨g1,0,none⟩) (m+1) cap1)).setCell ⟨w.heap.size+1,4,none⟩ (.slice (some ⟨g2,0,none⟩) (m+1) cap2)):
   OP w P (t1.snoc x) r (n1++ [nm]) (n2.drop 1) (.slice (some ⟨g2,0,none⟩) (m+1) cap2) (.slice (some ⟨g1,0,none⟩) (m+1) cap1) (ts++cs) g (o+7) WF:=by
 have hL:=LB.of h.p (by omega) hX h9 (Or.inr hD) hg ho hat;have hll:=World.ownsRow.lt h.p.l;have hnl:=World.ownsRow.lt h.p.n;have hsr:=h.b.size;have hVl:=Go.lt_of_block h.p.v;obtain ⟨O,hO⟩:=hD;have hDs:wD.heap.size=w9.heap.size+1:=by rw [hO];simp
 have hs11:=hg.size;have ga:=(grownBy_set w11 (w.heap.size+1) 5 (.slice (some ⟨g1,0,none⟩) (m+1) cap1)).trans (grownBy_set _ (w.heap.size+1) 4 (.slice (some ⟨g2,0,none⟩) (m+1) cap2));have hszF:WF.heap.size=w11.heap.size:=by rw [hWF];simp [World.setCell]
 have hbF:∀k,k≠w.heap.size+1→WF.heap[k]? =w11.heap[k]? :=fun k hk=>by
   rw [hWF,heap_setCell_other _ ⟨w.heap.size+1,4,none⟩ k _ (fun e=>hk (by simp [e])),heap_setCell_other _ ⟨w.heap.size+1,5,none⟩ k _ (fun e=>hk (by simp [e]))]
 have hVF:WF.heap[w.heap.size+1]? =some (vRow 6 (.slice (some ⟨g2,0,none⟩) (m+1) cap2) (.slice (some ⟨g1,0,none⟩) (m+1) cap1)):=by
   rw [hWF];exact vRow_set (vRow_set5 hL.v _) _
 have hgaF:w11.grownBy WF (some (w.heap.size+1)):=by rw [hWF];exact ga
 have hfar:∀k,k<wr.heap.size→lv.ownBlock≠some k→nv.ownBlock≠some k→k≠w.heap.size+1→WF.heap[k]? =wr.heap[k]? :=fun k h1 h2 h3 h4=>by rw [hbF k h4];exact hL.far k h1 h3 h2
 have hlow:∀k,k<w.heap.size+2→k≠w.heap.size+1→WF.heap[k]? =wr.heap[k]? :=fun k h1 h2=>hfar k (by omega) (fun e=>by have:=(hll k e).1;omega) (fun e=>by have:=(hnl k e).1;omega) h2
 have hrow:WF.ownsRow (w.heap.size+2) 26 6 (.slice (some ⟨g2,0,none⟩) (m+1) cap2) (m+1) (ts++cs):=World.ownsRow.kept hL.l hgaF (Or.inr fun e=>by simp only [Value.ownBlock,Option.some.injEq] at e;have:=(World.ownsRow.lt hL.l g2 rfl).1;omega);have hnr:WF.ownsRow (w.heap.size+2) 9 1 (.slice (some ⟨g1,0,none⟩) (m+1) cap1) (m+1) (n1.map Value.string++ [.string nm]):=World.ownsRow.kept hL.n hgaF (Or.inr fun e=>by simp only [Value.ownBlock,Option.some.injEq] at e;have:=(World.ownsRow.lt hL.n g1 rfl).1;omega);refine ⟨?_,by rw [hlow _ (by omega) (by omega)];exact h.z,fun hne=>J.PAt.keep (fun _ h=>h) (fun b hb'=>hlow b (by have:=hP b hb';omega) (by have:=hP b hb';omega)) _ _ _ _ (hr hne),?_⟩
 · have:=VP.push2 (H8:=H8) (ns':=n1++ [nm]) (nv':= .slice (some ⟨g1,0,none⟩) (m+1) cap1) h.p hx (by omega) hH (by omega) hfar (fun b h1 h2=>by
    rw [hbF b (by omega),hg.block b (by omega) (fun e=>by have:=(hll b e.symm).2;omega),hO];exact Lib.alloc_old _ _ _ h2) (by omega) (g:=g2) (cap:=cap2) (by rw [hm1];exact hrow) (by rcases hat with hat|hat;exact Or.inl hat;exact Or.inr (by omega)) hH9 (by rw [hm1];exact hVF) (by rw [List.length_append,List.map_append,hm2];exact hnr) (fun b e=>by
     simp only [Value.ownBlock,Option.some.injEq] at e;subst e;rcases hg1 with hg1|hg1
     · exact Or.inl hg1
     · rcases h9.g with h0|h0
       · exact Or.inl h0
       · exact Or.inr ⟨h0,hg1⟩)
   rw [hm1] at this;exact this
 · exact ⟨by rw [hWF];exact (ga.os.trans hL.os).trans h.b.os,by rw [hWF];exact (ga.tape.trans hL.tape).trans h.b.tape,by rw [hWF];exact (ga.output.trans hL.output).trans h.b.output,by have:=hL.sz;omega,fun j hj=>by rw [hlow j (by omega) (by omega)];exact h.b.block j hj⟩
theorem OP.done {w W:World}{P:Nat→Prop}{t:J.T}{n1 n2:List ByteArray}{lv nv:Value}{ts:List Value}{g o:Nat}(h:OP w P t .nil n1 n2 lv nv ts g o W) (c0 c1 c2 c3 c4 c5:Value):
  (⟨6,false,0,⟨#[]⟩,t,n1⟩:J.V).Has (pt6 W w.heap.size c0 c1 c2 c3 c4 c5) (Own (pt6 W w.heap.size c0 c1 c2 c3 c4 c5) w.heap.size none) [.int .u8 6,.bool false,.int .i64 0,.string ⟨#[]⟩,lv,nv]:=by
 obtain ⟨lv',nv',h1,h0⟩:=VSt.has (k:=6) ⟨lv,nv,ts,h.p⟩;have e:lv'=lv∧nv'=nv:=by
  have h2:=h.p.v;rw [h1] at h2;have:=Option.some.inj h2;simp only [vRow,Obj.cells.injEq,Array.mk.injEq,List.cons.injEq] at this;exact ⟨this.1.2.2.2.2.1,this.1.2.2.2.2.2.1⟩
 obtain ⟨rfl,rfl⟩:=e;have hne:∀j,Own W (w.heap.size+2) none j→j≠w.heap.size:=fun j hj=>by have:=hj.1;omega
 refine J.V.Has.keep ?_ (fun j hj=>pt6_other _ _ _ _ _ _ _ _ _ (hne j hj)) h0;intro j hj;have h1:=hne j hj;obtain ⟨h2,h3,h4,cs,T,h5⟩:=hj;exact ⟨by omega,by rw [pt6_size];exact h3,h4,cs,T,by rw [pt6_other _ _ _ _ _ _ _ _ _ h1];exact h5⟩
theorem x7_of {X:Nat}{c0 c1 c2 c3 c4 c5 c6:Value}{W:World}{E:TypeId}(h:W.heap[X]? =some (.cells #[c0,c1,c2,c3,c4,c5,c6] E (0,0))):W.cell? ⟨X,0,none⟩=some c0∧W.cell? ⟨X,1,none⟩=some c1∧W.cell? ⟨X,2,none⟩=some c2∧W.cell? ⟨X,3,none⟩=some c3∧W.cell? ⟨X,4,none⟩=some c4∧W.cell? ⟨X,5,none⟩=some c5∧W.cell? ⟨X,6,none⟩=some c6:=by
 refine ⟨?_,?_,?_,?_,?_,?_,?_⟩<;>(rw [Lib.cell_of_heap h];rfl)
theorem obj_any {t:J.T}{names:List ByteArray}(h1:t.length≤100000000000) (h2:t.small) {w:World}{P:Nat→Prop}{pv:Value}(hp:J.PIn w P t names pv) (hPP:∀b,P b→b<w.heap.size):
  Calls Tryz.prog 72 #[pv] w (TwinOf ⟨6,false,0,⟨#[]⟩,t,names⟩ w):=by
 obtain ⟨a,c,rfl,hnl,hat⟩:=hp;have HPP:=hid hPP;have HSM:=hid h2;obtain ⟨i0,hi,hz0,hz1,hz2⟩:=info_parts infoJSON2;obtain ⟨j0,hj,hy0,hy1,hy2⟩:=info_parts infoStr2;have HI0:=hid (show _∧_∧_∧_ from ⟨hi,hz0,hz1,hz2⟩);have HJ0:=hid (show _∧_∧_∧_ from ⟨hj,hy0,hy1,hy2⟩);have HON:∀nm:ByteArray,∀u∈([.string nm]:List Value),u.oneCell'=true:=by intro nm u hu;simp only [List.mem_cons,List.not_mem_nil,or_false] at hu;subst hu;rfl
 have HON0:=hid HON;obtain ⟨len,hlen⟩:∃len,t.length=len:=⟨_,rfl⟩;obtain ⟨w1,hw1⟩:∃w1,(w.alloc (.cells #[.int .u8 0,.bool false,.int .i64 0,.string ⟨#[]⟩,.slice none 0 0,.slice none 0 0] 26)).alloc (.cells #[.int .u8 6,.bool false,.int .i64 0,.string ⟨#[]⟩,.slice none 0 0,.slice none 0 0] 26)=w1:=⟨_,rfl⟩;have hb1:Below w.heap.size w w1:=by rw [←hw1];exact ((Below.refl _ w).alloc (Nat.le_refl _) _).alloc (by simp) _
 have hv1:w1.heap[w.heap.size+1]? =some (vRow 6 (.slice none 0 0) (.slice none 0 0)):=by
  have:=heap_alloc_new (w.alloc (.cells #[.int .u8 0,.bool false,.int .i64 0,.string ⟨#[]⟩,.slice none 0 0,.slice none 0 0] 26)) (.cells #[.int .u8 6,.bool false,.int .i64 0,.string ⟨#[]⟩,.slice none 0 0,.slice none 0 0] 26);rw [show (w.alloc (.cells #[.int .u8 0,.bool false,.int .i64 0,.string ⟨#[]⟩,.slice none 0 0,.slice none 0 0] 26)).heap.size=w.heap.size+1 by simp] at this;rw [←hw1];exact this
 have hz1':w1.heap[w.heap.size]? =some (vRow 0 (.slice none 0 0) (.slice none 0 0)):=by rw [←hw1,Lib.alloc_old _ _ _ (by simp)];exact heap_alloc_new w _
 obtain ⟨g,o,hgo⟩:∃g o,t≠ .nil→a=some ⟨g,o,none⟩∧t.length≤c∧J.PAt w P t names g o:=by
  by_cases ht:t= .nil
  · exact ⟨0,0,fun h=>absurd ht h⟩
  · obtain ⟨g,o,h⟩:=hat ht;exact ⟨g,o,fun _=>h⟩
 have HT:Hid (OP w P .nil t [] names (.slice none 0 0) (.slice none 0 0) [] g o w1):=⟨⟨hv1,World.ownsRow_nil _ _ _ _,rfl,World.ownsRow_nil _ _ _ _⟩,hz1',fun hne=>J.PAt.keep (fun _ h=>h) (fun b hb=>hb1.block b (hPP b hb)) _ _ _ _ (hgo hne).2.2,hb1⟩;have HGO:=hid hgo;rw [hlen] at h1 hnl HGO ⊢;have HLEN:=hid hlen;have HNL:=hid hnl;have HW1:=hid hw1;clear hb1 hv1 hz1' hat hPP hi hz0 hz1 hz2 hj hy0 hy1 hy2 HON h2 hgo hlen hnl hw1;go_enter Tryz.func72,Tryz.ntmps72;go_upto_region 2 with fail;rw [HW1.out];clear HW1;go_wp2_with fail;go_loopw [9] (fun vi wr=> ∃(i:Nat),i≤len∧vi= .int .i64 i∧∃(t1 t2:J.T) (n1 n2:List ByteArray) (lv nv:Value) (ts:List Value),Hid (t1.app t2=t∧n1++n2=names∧t1.length=i∧n1.length=i)∧Hid (OP w P t1 t2 n1 n2 lv nv ts g (o+i*7) wr)) (fun vi _=>len-(intOf vi).toNat)
 case atStart=>exact ⟨0,Nat.zero_le _,rfl,.nil,t,[],names,_,_,_,hid ⟨rfl,rfl,rfl,rfl⟩,HT⟩
 case round=>
  obtain ⟨i,hi,rfl,t1,t2,n1,n2,lv,nv,ts,HA,HI⟩:=hrel;clear HT;by_cases hlt:i<len
  · have d0:decide ((i:Int)<(len:Int))=true:=decide_eq_true (by omega);have d1:decide (i<len)=true:=decide_eq_true (by omega);have hlen2:t1.length+t2.length=len:=by rw [←HLEN.out,←HA.out.1,J.T.app_length]
    obtain ⟨lc,la,rfl⟩:∃lc la,lv= .slice la i lc:=by obtain ⟨a,c,h⟩:=own_shape HI.out.p.l;rw [HA.out.2.2.1] at h;exact ⟨c,a,h⟩
    obtain ⟨nc,na,rfl⟩:∃nc na,nv= .slice na i nc:=by obtain ⟨a,c,h⟩:=own_shape HI.out.p.n;rw [HA.out.2.2.2] at h;exact ⟨c,a,h⟩
    cases t2 with
    | nil=>have:=HA.out.2.2.1;simp [J.T.length] at hlen2;omega
    | cons k1 b1 v1 s1 l1 ns1 r=>
      have hpc:=HI.out.c (fun h=>by cases h);cases n2 with
      | nil=>exact hpc.elim
      | cons nm xs=>
        obtain ⟨hPg,y0,y1,y2,y3,y4,⟨lv1,y5,hl1⟩,⟨nv1,y6,hn1⟩,hpr⟩:=hpc;obtain ⟨al,cl,rfl⟩:=hl1.shape;obtain ⟨an,cn,rfl⟩:=hn1.shape;obtain ⟨hga,hgc, -⟩:=HGO.out (fun h=>by have:=HLEN.out;rw [h] at this;simp [J.T.length] at this;omega);subst hga;have HR:Hid (r≠ .nil→J.PAt wr P r ((nm::xs).drop 1) g (o+i*7+7)):=fun _=>hpr
        have HH1:=hid (show l1.In wr P _∧J.SIn wr P ns1 _ from ⟨hl1,hn1⟩);have hsm2:=(J.T.small_app t1 (.cons k1 b1 v1 s1 l1 ns1 r) (by rw [HA.out.1];exact HSM.out)).2;have HES:Hid (J.V.small ⟨k1,b1,v1,s1,l1,ns1⟩):=hsm2.1;have hi0:(0:Int)≤(i:Int):=by omega
        have hi1:(i:Int)<(len:Int):=by omega
        have HON:=hid (HON0.out nm);have HMB:Hid (i+1≤maxLen∧(i+1)*80≤140737488355328∧i+1≤maxLen∧(i+1)*16≤140737488355328):=by show _∧_∧_∧_;unfold maxLen;omega
        clear hl1 hn1 hpr hsm2 hlen2;go_upto_region 5 with fail;obtain ⟨w5,hw5⟩:∃w5,wr.alloc (.cells #[.string nm,.int .u8 k1,.bool b1,.int .i64 v1,.string s1,.slice al l1.length cl,.slice an ns1.length cn] 83)=w5:=⟨_,rfl⟩;obtain ⟨X,hX⟩:∃X,wr.heap.size=X:=⟨_,rfl⟩;have HB5:Hid (Below wr.heap.size wr w5):=by show Below _ _ _;rw [←hw5];exact (Below.refl _ wr).alloc (Nat.le_refl _) _
        have HX5:Hid (w5.heap[X]? =some (.cells #[.string nm,.int .u8 k1,.bool b1,.int .i64 v1,.string s1,.slice al l1.length cl,.slice an ns1.length cn] 83 (0,0))):=by show _=_;rw [←hw5,←hX];exact heap_alloc_new wr _
        have HT5:=hid (HI.out.after HPP.out HB5.out);have HV5:Hid (w5.heap[w.heap.size+1]? =some (vRow 6 (.slice la i lc) (.slice na i nc))):=HT5.out.p.v;have HAL:Hid (Al wr X (.cells #[.string nm,.int .u8 k1,.bool b1,.int .i64 v1,.string s1,.slice al l1.length cl,.slice an ns1.length cn] 83 (0,0)) (w5.alloc (.cells #[.string nm] 9)).drew):=by
         show Al _ _ _ _;have:=Al.drew ((Al.first wr (.cells #[.string nm,.int .u8 k1,.bool b1,.int .i64 v1,.string s1,.slice al l1.length cl,.slice an ns1.length cn] 83 (0,0))).alloc (.cells #[.string nm] 9));rw [hX,hw5] at this;exact this
        have HN5:Hid ((w5.alloc (.cells #[.string nm] 9)).drew.ownsRow (w.heap.size+2) 9 1 (.slice na i nc) i (n1.map Value.string)):=by
         have:=World.ownsRow.drew (World.ownsRow.alloc HT5.out.p.n (.cells #[.string nm] 9));rw [HA.out.2.2.2] at this;exact this
        have HNW:=hid <| World.news_of_block (w:=(w5.alloc (.cells #[.string nm] 9)).drew) (cs:=#[.string nm]) (heap_alloc_new w5 (.cells #[.string nm] 9))
        have HBW:Hid (w.heap.size+2≤(w5.alloc (.cells #[.string nm] 9)).drew.heap.size):=by show _≤(w5.alloc (.cells #[.string nm] 9)).heap.size;have:=HT5.out.b.size;have:=Go.lt_of_block HT5.out.p.v;simp;omega
        have HXE:=hid hX;rw [hw5,hX];clear hw5 hX y0 y1 y2 y3 y4 y5 y6;refine wp_region_till (S:=(fun W:World=>W.heap[w.heap.size+1]? =some (vRow 6 (.slice la i lc) (.slice na i nc))∧W.heap[X]? =some (.cells #[.string nm,.int .u8 k1,.bool b1,.int .i64 v1,.string s1,.slice al l1.length cl,.slice an ns1.length cn] 83 (0,0)))) 14 (by kernel_rfl) ?_;have HS:=hid (show ((fun W:World=>W.heap[w.heap.size+1]? =some (vRow 6 (.slice la i lc) (.slice na i nc))∧W.heap[X]? =some (.cells #[.string nm,.int .u8 k1,.bool b1,.int .i64 v1,.string s1,.slice al l1.length cl,.slice an ns1.length cn] 83 (0,0)))) _ from ⟨HV5.out,HX5.out⟩);refine tillA 0 (fun _=>HS.out) ?_;refine tillA 2 (fun _=>HS.out) ?_;refine tillA 6 (fun _=>HS.out) ?_;refine tillA 8 (fun _=>HS.out) ?_;refine tillL 1 [1,14] (v:= ?v5) HS.out ?hy5 ?_
        case hy5=>
         intro w hSw;obtain ⟨-, -, -, -,c4,c5⟩:=vcells hSw.1;clear hSw;go_simp;try with_reducible rfl
        refine tillL 3 [3,14] (v:= ?v6) HS.out ?hy6 ?_
        case hy6=>
         intro w hSw;obtain ⟨x0,x1,x2,x3,x4,x5,x6⟩:=x7_of hSw.2;clear hSw;go_simp;try with_reducible rfl
        refine tillL 7 [7,14] (v:= ?v7) HS.out ?hy7 ?_
        case hy7=>
         intro w hSw;obtain ⟨-, -, -, -,c4,c5⟩:=vcells hSw.1;clear hSw;go_simp;try with_reducible rfl
        refine tillL 9 [9,10,12,14] (v:= ?v8) HS.out ?hy8 ?_
        case hy8=>
         intro w hSw;obtain ⟨x0,x1,x2,x3,x4,x5,x6⟩:=x7_of hSw.2;clear hSw;go_simp;try with_reducible rfl
        refine tillD1 4 (fun K hK=> ?step9)
        case step9=>
         go_simp;refine hK.out _ _ (fun _=>⟨(Lib.alloc_old _ _ _ (Go.lt_of_block HV5.out)).trans HV5.out,(Lib.alloc_old _ _ _ (Go.lt_of_block HX5.out)).trans HX5.out⟩) (fun hHeld=> ?_);have HS9:=hid (hHeld (by kernel_rfl));clear hHeld hK K;refine tillD1 5 (fun K hK=> ?step10)
         case step10=>
          refine step_append_lies _ (by rfl) (.tmp 14) (.tmp 17) 23 (by rfl) (w.heap.size+2) 9 j0 _ 1 16 Tryz.underlying23 HJ0.out.1 HJ0.out.2.1 HJ0.out.2.2.1 HJ0.out.2.2.2 rfl (by decide) (.slice na i nc) i (n1.map Value.string) (by rfl) HN5.out ⟨w5.heap.size,0,none⟩ 1 1 [.string nm] (by rfl) rfl HNW.out HON.out (by decide) HMB.out.2.2.1 HMB.out.2.2.2 HBW.out _ rfl ?_;intro g1 cap1 w8 hown hgrow hat hlt;have H8:=hid (NB.of (n:=i) (m:=i) HI.out.p HA.out.2.2.1 (by omega) (Nat.le_of_eq HXE.out) HAL.out hgrow hown hat);have HG1:=hid (show (Value.slice na i nc).ownBlock=some g1∨g1<w8.heap.size from Or.inr hlt);clear hown hgrow hat hlt;refine hK.out _ _ (fun _=>⟨H8.out.v,H8.out.x⟩) (fun hHeld=> ?_);have HS10:=hid (hHeld (by kernel_rfl));clear hHeld hK K;refine tillA 13 (fun _=>HS10.out) ?_;refine tillD1 10 (fun K hK=> ?step12)
          case step12=>
           go_simp;refine (twin_any ⟨k1,b1,v1,s1,l1,ns1⟩ HES.out w8 P [.int .u8 k1,.bool b1,.int .i64 v1,.string s1,.slice al l1.length cl,.slice an ns1.length cn] ⟨_,_,rfl,J.T.In.keep (fun _ h=>h) (fun j hj=>H8.out.far j (Nat.lt_of_lt_of_le (HPP.out j hj) HI.out.b.size) (fun e=>by have h1:=(World.ownsRow.lt HI.out.p.n j e).1;have h2:=HPP.out j hj;omega)) HH1.out.1,J.SIn.keep (fun _ h=>h) (fun j hj=>H8.out.far j (Nat.lt_of_lt_of_le (HPP.out j hj) HI.out.b.size) (fun e=>by have h1:=(World.ownsRow.lt HI.out.p.n j e).1;have h2:=HPP.out j hj;omega)) HH1.out.2⟩ (fun j hj=>by have h1:=HPP.out j hj;have h2:=H8.out.sz;have h3:=HI.out.b.size;omega)).mono ?_;rintro e w9 ⟨cs',rfl,hh,hb⟩;obtain ⟨k2,b2,n2',s2,a1,l2,c1,a2,m2,c2,rfl⟩:=Shape.of hh;have HB9:=hid hb;have H9:=hid (H8.out.after hb);have HH9:=hid hh;have HNW9:=hid <| World.news_of_block (cs:=#[.int .u8 k2,.bool b2,.int .i64 n2',.string s2,.slice a1 l2 c1,.slice a2 m2 c2]) (heap_alloc_new w9 (.cells #[.int .u8 k2,.bool b2,.int .i64 n2',.string s2,.slice a1 l2 c1,.slice a2 m2 c2] 26))
           have HL9:=hid <| World.ownsRow.alloc H9.out.l (.cells #[.int .u8 k2,.bool b2,.int .i64 n2',.string s2,.slice a1 l2 c1,.slice a2 m2 c2] 26)
           have HOC:=hid (Shape.one (cs:= [.int .u8 k2,.bool b2,.int .i64 n2',.string s2,.slice a1 l2 c1,.slice a2 m2 c2]) ⟨_,_,_,_,_,_,_,_,_,_,rfl⟩);have HB0:Hid (w.heap.size+2≤(w9.alloc (.cells #[.int .u8 k2,.bool b2,.int .i64 n2',.string s2,.slice a1 l2 c1,.slice a2 m2 c2] 26)).heap.size):=by show _≤_;have h2:=H9.out.sz;have h3:=HI.out.b.size;have h4:=Go.lt_of_block HI.out.p.v;simp;omega
           clear hh hb;try dsimp only
           refine hK.out _ _ (fun _=>⟨H9.out.v,H9.out.x⟩) (fun hHeld=> ?_);have HS12:=hid (hHeld (by kernel_rfl));clear hHeld hK K;refine tillD1 11 (fun K hK=> ?step13)
           case step13=>
            go_simp;refine hK.out _ _ (fun _=>⟨(Lib.alloc_old _ _ _ (Go.lt_of_block H9.out.v)).trans H9.out.v,(Lib.alloc_old _ _ _ (Go.lt_of_block H9.out.x)).trans H9.out.x⟩) (fun hHeld=> ?_);have HS13:=hid (hHeld (by kernel_rfl));clear hHeld hK K;refine tillD1 12 (fun K hK=> ?step14)
            case step14=>
             refine step_append_lies _ (by rfl) (.tmp 20) (.tmp 24) 22 (by rfl) (w.heap.size+2) 26 i0 _ 6 80 Tryz.underlying22 HI0.out.1 HI0.out.2.1 HI0.out.2.2.1 HI0.out.2.2.2 rfl (by decide) (.slice la i lc) i ts (by rfl) HL9.out ⟨w9.heap.size,0,none⟩ 1 1 [.int .u8 k2,.bool b2,.int .i64 n2',.string s2,.slice a1 l2 c1,.slice a2 m2 c2] (by rfl) rfl HNW9.out HOC.out (by decide) HMB.out.1 HMB.out.2.1 HB0.out _ rfl ?_;intro g2 cap2 w11 hown2 hgrow2 hat2 hlt2;have HL11:=hid (LB.of HI.out.p (by omega) (Nat.le_of_eq HXE.out) H9.out (Or.inr ⟨_,rfl⟩) hgrow2 hown2 hat2);have v4:w11.cell? ⟨w.heap.size+1,4,none⟩=some (.slice la i lc):=by rw [Lib.cell_of_heap HL11.out.v];rfl
             have v5:w11.cell? ⟨w.heap.size+1,5,none⟩=some (.slice na i nc):=by rw [Lib.cell_of_heap HL11.out.v];rfl
             have f4:=Lib.frozen_of_heap HL11.out.v 4;have f5:=Lib.frozen_of_heap HL11.out.v 5;have HNX:=hid (fun WF hWF=>OP.next (WF:=WF) HI.out HA.out.2.2.1 HA.out.2.2.2 HPP.out HR.out (Nat.le_of_eq HXE.out) H9.out HG1.out (by have:=H8.out.sz;omega) HB9.out.size HH9.out ⟨_,rfl⟩ hgrow2 hown2 hat2 hWF);clear hown2 hgrow2 hat2 hlt2;refine hK.out _ _ (fun _=>⟨HL11.out.v,HL11.out.x⟩) (fun hHeld=> ?_);have HS14:=hid (hHeld (by kernel_rfl));clear hHeld hK K;refine tillD1 14 (fun K hK=> ?step15)
             case step15=>
              go_simp;refine hK.out _ _ (fun hk=>by cases (show true=false from hk)) (fun _=> ?_);clear hK K;refine tillA 15 (fun hk=>by cases (show true=false from hk)) ?_;refine tillD1 16 (fun K hK=> ?step17)
              case step17=>
               go_simp;refine hK.out _ _ (fun hk=>by cases (show true=false from hk)) (fun _=> ?_);clear hK K;refine wpTill_done (by kernel_rfl) ?_ _;clear v4 v5 f4 f5;go_wp2_with fail;go_roundw
               case rel=>
                refine ⟨i+1,by omega,by go_num,t1.snoc ⟨k1,b1,v1,s1,l1,ns1⟩,r,n1++ [nm],xs,_,_,_,hid ⟨?_,?_,?_,?_⟩,by rw [show o+(i+1)*7=o+i*7+7 by omega];exact hid (HNX.out _ (by with_reducible rfl))⟩
                · rw [←HA.out.1];unfold J.T.snoc;rw [J.T.app_assoc];rfl
                · rw [←HA.out.2.1,List.append_assoc];rfl
                · rw [J.T.snoc_length,HA.out.2.2.1]
                · rw [List.length_append,HA.out.2.2.2];rfl
               case measure=>simp [intOf];omega
  · have d0:decide ((i:Int)<(len:Int))=false:=decide_eq_false (by omega);have d1:decide (i<len)=false:=decide_eq_false (by omega);have hi2:i=len:=by omega
    have ht2:t2= .nil:=T_nil (by have:=HA.out.2.2.1;have:=HLEN.out;rw [←HA.out.1,J.T.app_length] at this;omega);subst ht2;have hl:t1=t:=by rw [←HA.out.1,J.T.app_nil]
    have hn:n1=names:=by
      have h3:=congrArg List.length HA.out.2.1;rw [List.length_append,HNL.out,HA.out.2.2.2] at h3;rw [←HA.out.2.1,List.eq_nil_of_length_eq_zero (l:=n2) (by omega),List.append_nil]
    rw [hl,hn] at HI;obtain ⟨a1,l1,c1,a2,l2,c2,hrow⟩:=VSt.row ⟨lv,nv,ts,HI.out.p⟩;have he:lv= .slice a1 l1 c1∧nv= .slice a2 l2 c2:=by
      have h2:=HI.out.p.v;rw [hrow] at h2;have:=Option.some.inj h2;simp only [vRow,Obj.cells.injEq,Array.mk.injEq,List.cons.injEq] at this;exact ⟨this.1.2.2.2.2.1.symm,this.1.2.2.2.2.2.1.symm⟩
    obtain ⟨rfl,rfl⟩:=he;clear HA hl hn hi2 hlt hrow;obtain ⟨x0,x1,x2,x3,x4,x5⟩:=vcells (k:=6) HI.out.p.v;obtain ⟨z0,z1,z2,z3,z4,z5⟩:=vcells (k:=0) HI.out.z;obtain ⟨f0,f1,f2,f3,f4,f5⟩:=vfree HI.out.z;go_wp2_with fail;exact bodyPost_ret (v:= .agg #[.int .u8 6,.bool false,.int .i64 0,.string ⟨#[]⟩,.slice a1 l1 c1,.slice a2 l2 c2]) (results_cell_row rfl _ _ w.heap.size 26 _ (0,0) _ rfl (pt6_row HI.out.z _ _ _ _ _ _) Tryz.underlying26 rfl infoJSON) rfl ⟨_,rfl,HI.out.done _ _ _ _ _ _,pt6_below HI.out.b (Nat.le_refl _) _ _ _ _ _ _⟩
namespace R
open Go.Lib (splitB countB join joinTail)
def slash:ByteArray:=⟨#[47]⟩
def tM:ByteArray:=⟨#[77]⟩
def tN:ByteArray:=⟨#[78]⟩
def tModels:List UInt8:= [109,111,100,101,108,115]
def tFetch:List UInt8:= [102,101,116,99,104]
def places : List (List UInt8 × (Nat × Nat)) :=
  [([99, 108, 111, 99, 107], 7, 0), ([115, 105, 103, 110, 97, 108, 115], 0, 9), ([109, 101, 115, 115, 97, 103, 101, 115], 0, 8),
   ([105, 110, 99, 105, 100, 101, 110, 116, 115, 47, 78, 47, 114, 101, 115, 111, 108, 118, 101], 0, 7), ([105, 110, 99, 105, 100, 101, 110, 116, 115], 6, 0),
   ([106, 111, 98, 115, 47, 78, 47, 102, 97, 105, 108], 0, 6), ([106, 111, 98, 115, 47, 78, 47, 100, 111, 110, 101], 0, 5), ([106, 111, 98, 115, 47, 102, 101, 116, 99, 104], 0, 4), ([106, 111, 98, 115], 5, 0),
   ([116, 97, 115, 107, 115, 47, 78, 47, 99, 111, 109, 112, 108, 101, 116, 101], 0, 3), ([105, 110, 115, 116, 97, 110, 99, 101, 115, 47, 78, 47, 99, 97, 110, 99, 101, 108], 0, 11),
   ([105, 110, 115, 116, 97, 110, 99, 101, 115, 47, 78], 4, 0), ([105, 110, 115, 116, 97, 110, 99, 101, 115], 3, 2), ([109, 111, 100, 101, 108, 115, 47, 77], 2, 0), ([109, 111, 100, 101, 108, 115], 1, 1)]
def lookL {β:Type}:List (List UInt8×β)→List UInt8→Option β
 | [],_=>none
 | (a,v)::r,p=>if a=p then some v else lookL r p
structure Found where
 get:Nat
 post:Nat
 id:Int
 name:ByteArray
def words (s:ByteArray):List ByteArray:=splitB slash 0 (countB s slash) s
def turned (ws:List ByteArray):List ByteArray×Int×ByteArray×Bool:=
 match ws with
 | a::b::r=>
   if b.data.toList≠tFetch∨r≠ [] then
    if a.data.toList=tModels then (a::tM::r,0,b,W.nameB b.data.toList)
    else (a::tN::r,(W.parseW b.data.toList).1,⟨#[]⟩,(W.parseW b.data.toList).2&&decide (1≤(W.parseW b.data.toList).1∧(W.parseW b.data.toList).1≤2147483647))
   else if a.data.toList=tModels then (a::tM::r,0,b,true)
   else (ws,0,⟨#[]⟩,true)
 | _=>(ws,0,⟨#[]⟩,true)
def inner:List ByteArray→Bool
 | _::b::r=>decide (b.data.toList≠tFetch∨r≠ [])
 | _=>false
def joined (ws:List ByteArray):List UInt8:=join (ws.map (·.data.toList)) [47]
def cut (path:ByteArray):ByteArray:=⟨(Lib.trimPrefix path.data.toList [47]).toArray⟩
def find (path:ByteArray):Option Found:=
 if Lib.hasPrefix path.data.toList [47]=true then
  match lookL places (joined (turned (words (cut path))).1) with
  | none=>none
  | some g=>if (turned (words (cut path))).2.2.2=true then some ⟨g.1,g.2,(turned (words (cut path))).2.1,(turned (words (cut path))).2.2.1⟩ else none
 else none
theorem join_two (a b:List UInt8) (r:List (List UInt8)):(47:UInt8)∈join (a::b::r) [47]:=by
 rw [Lib.join_cons];simp [joinTail]
theorem lookL_mem {β:Type}:∀ {l:List (List UInt8×β)}{p:List UInt8}{v:β},lookL l p=some v→(p,v)∈l
 | [],_,_,h=>by cases h
 | (a,u)::r,p,v,h=>by
   unfold lookL at h
   by_cases e:a=p
   · rw [if_pos e] at h;cases h;rw [e];exact List.mem_cons_self ..
   · rw [if_neg e] at h;exact List.mem_cons_of_mem _ (lookL_mem h)
theorem deploy_only:∀p∈places,p.2.2=1→p.1=tModels:=by decide
theorem words_one {s a:ByteArray}(h:words s= [a]):s=a:=by
 unfold words at h;have hl:=Lib.splitB_all slash (by decide) 0 (countB s slash) s rfl;rw [h] at hl;have h0:countB s slash=0:=by simpa using hl.symm
 rw [h0,Lib.splitB_zero] at h;exact (List.cons.inj h).1
theorem find_deploy {path:ByteArray}{f:Found}(h:find path=some f) (h1:f.post=1):path.data.toList=47::tModels:=by
 unfold find at h;split at h
 case isFalse=>cases h
 rename_i hp;split at h
 · cases h
 rename_i g hg;split at h
 case isFalse=>cases h
 cases h;have hj:joined (turned (words (cut path))).1=tModels:=deploy_only _ (lookL_mem hg) h1;have hw:∃a,words (cut path)= [a]:=by
   unfold joined at hj;have hno:∀(a b:ByteArray) (r:List ByteArray),join ((a::b::r).map (·.data.toList)) [47]=tModels→False:=fun a b r e=>by
     have:=join_two a.data.toList b.data.toList (r.map (·.data.toList));rw [show a.data.toList::b.data.toList::r.map (·.data.toList)=(a::b::r).map (·.data.toList) from rfl,e] at this;exact absurd this (by decide)
   cases hws:words (cut path) with
   | nil=>
     have hl:=Lib.splitB_all slash (by decide) 0 (countB (cut path) slash) (cut path) rfl;have hws:splitB slash 0 (countB (cut path) slash) (cut path)= []:=hws;rw [hws] at hl;simp at hl
   | cons a r=>
     cases r with
     | nil=>exact ⟨a,rfl⟩
     | cons b r=>
       rw [hws] at hj;unfold turned at hj;simp only at hj;split at hj
       · split at hj
         · exact (hno _ _ _ hj).elim
         · exact (hno _ _ _ hj).elim
       · split at hj
         · exact (hno _ _ _ hj).elim
         · exact (hno _ _ _ hj).elim
 obtain ⟨a,ha⟩:=hw;have hs:=words_one ha;rw [ha] at hj;have hj:join [a.data.toList] [47]=tModels:=hj;rw [Lib.join_one,←hs] at hj;have hp':([47]:List UInt8) <+:path.data.toList:=List.isPrefixOf_iff_prefix.1 hp;obtain ⟨t,ht⟩:=hp';have hc:(cut path).data.toList=t:=by
   show Lib.trimPrefix path.data.toList [47]=t;unfold Lib.trimPrefix;rw [if_pos hp,←ht];rfl
 rw [←ht,←hc,hj];rfl
end R
open Go.RowKit Go.Maps
namespace R
def mapD {β:Type}(f:β→DataW Unit):List (List UInt8×β)→DataW Unit
 | []=> .map []
 | (a,v)::r=>(mapD f r).put (.string a) (f v)
theorem mapD_isMap {β:Type}(f:β→DataW Unit):∀l,IsMap (mapD f l)
 | []=>⟨[],rfl⟩
 | _::r=>(mapD_isMap f r).put _ _
theorem isKey (a:List UInt8):WideAt.IsKeyLit (.string a):=by first|trivial|exact ⟨_,rfl⟩|simp
theorem mapD_at {β:Type}(f:β→DataW Unit) (z:DataW Unit) (p:List UInt8):∀l,(mapD f l).atKey (.string p) z=(match lookL l p with|some v=>f v|none=>z)
 | []=>rfl
 | (a,v)::r=>by
   unfold mapD lookL
   by_cases h:a=p
   · subst h;rw [if_pos rfl,atKey_put_same (mapD_isMap f r) (isKey a)]
   · rw [if_neg h,atKey_put_other (by simp;exact fun e=>h e.symm),mapD_at f z p r]
theorem mapD_has {β:Type}(f:β→DataW Unit) (p:List UInt8):∀l,has (mapD f l) (.string p)=(lookL l p).isSome
 | []=>rfl
 | (a,v)::r=>by
   unfold mapD lookL
   by_cases h:a=p
   · subst h;rw [if_pos rfl,has_put_same (mapD_isMap f r) (isKey a)];rfl
   · rw [if_neg h,has_put_other (by simp;exact fun e=>h e.symm),mapD_has f p r]
def placeD (g:Nat×Nat):DataW Unit:= .agg [.lit (.int .u8 g.1),.lit (.int .u8 g.2)]
def placeR (v:Value):Option (DataW Unit×List MemPlace):=
 match v with
 | .agg cs=>match cs.toList with
   | [.int .u8 a,.int .u8 b]=>some (.agg [.lit (.int .u8 a),.lit (.int .u8 b)],[])
   | _=>none
 | _=>none
theorem placeR_inv {v:Value}{d:DataW Unit}{p:List MemPlace}(h:placeR v=some (d,p)):∃a b,v= .agg #[.int .u8 a,.int .u8 b]∧d= .agg [.lit (.int .u8 a),.lit (.int .u8 b)]:=by
 unfold placeR at h;split at h
 · rename_i cs;split at h
   · rename_i a b e;cases h;exact ⟨a,b,by rw [←e],rfl⟩
   · cases h
 · cases h
end R
theorem lawS:Keyed Tryz.prog 9:=string_keyed Tryz.underlying9
theorem zeroPlace (w:World):(zeroValue 73).run Tryz.prog w= .ok (.agg #[.int .u8 0,.int .u8 0]) w:=by kernel_rfl
theorem map_below {P:Program}{k:TypeId}{R:Value→Option (DataW Unit×List MemPlace)}{b n:Nat}{D:DataW Unit}{w w':World}(h:w.ownsMap P k R b n D) (hb:Below w.heap.size w w'):w'.ownsMap P k R b n D:=
 h.kept (row:=none) ⟨hb.os,hb.tape,hb.output,hb.size,fun k hk _=>hb.block k hk⟩ (by simp)
theorem keyS {s:ByteArray}(hs:s.size≤1000000000000):keyOf Tryz.prog 9 (.string s)=some (.string s.data.toList):=Go.WideMaps.keyOf_string_mk Tryz.underlying9 (by unfold maxLen;omega)
theorem map_place {b n:Nat}{D:DataW Unit}{w:World}(h:w.ownsMap Tryz.prog 9 R.placeR b n D) (hn:n<maxLen) (s:ByteArray) (hs:s.size≤1000000000000) (g p:Nat) {gi pi:Int}(hg:gi=g) (hp:pi=p):
  ∃w',(Instr.mapUpdate 133 (.map (some b)) (.string s) (.agg #[.int .u8 gi,.int .u8 pi])).run Tryz.prog w= .ok () w'∧w'.ownsMap Tryz.prog 9 R.placeR b (n+1) (D.put (.string s.data.toList) (R.placeD (g,p)))∧w.mapTurned w' b:=by
 subst hg hp;exact h.store lawS Tryz.underlying133 hn (keyS hs) rfl
theorem places_any (W:World):
  Calls Tryz.prog 52 #[] W fun en W'=>en= .returned (.map (some W.heap.size))∧W'.ownsMap Tryz.prog 9 R.placeR W.heap.size 15 (R.mapD R.placeD R.places)∧Below W.heap.size W W':=by
 have hmm:=@run_makeMap Tryz.prog;have m0:=World.ownsMap_made (H:=Unit) W Tryz.prog 9 R.placeR;obtain ⟨w1,u1,m1,t1⟩:=map_place m0 (by unfold maxLen;omega) ⟨#[109,111,100,101,108,115]⟩ (by decide) 1 1 (gi:=1) (pi:=1) rfl rfl;obtain ⟨w2,u2,m2,t2⟩:=map_place m1 (by unfold maxLen;omega) ⟨#[109,111,100,101,108,115,47,77]⟩ (by decide) 2 0 (gi:=2) (pi:=0) rfl rfl;obtain ⟨w3,u3,m3,t3⟩:=map_place m2 (by unfold maxLen;omega) ⟨#[105,110,115,116,97,110,99,101,115]⟩ (by decide) 3 2 (gi:=3) (pi:=2) rfl rfl;obtain ⟨w4,u4,m4,t4⟩:=map_place m3 (by unfold maxLen;omega) ⟨#[105,110,115,116,97,110,99,101,115,47,78]⟩ (by decide) 4 0 (gi:=4) (pi:=0) rfl rfl;obtain ⟨w5,u5,m5,t5⟩:=map_place m4 (by unfold maxLen;omega) ⟨#[105,110,115,116,97,110,99,101,115,47,78,47,99,97,110,99,101,108]⟩ (by decide) 0 11 (gi:=0) (pi:=11) rfl rfl;obtain ⟨w6,u6,m6,t6⟩:=map_place m5 (by unfold maxLen;omega) ⟨#[116,97,115,107,115,47,78,47,99,111,109,112,108,101,116,101]⟩ (by decide) 0 3 (gi:=0) (pi:=3) rfl rfl;obtain ⟨w7,u7,m7,t7⟩:=map_place m6 (by unfold maxLen;omega) ⟨#[106,111,98,115]⟩ (by decide) 5 0 (gi:=5) (pi:=0) rfl rfl;obtain ⟨w8,u8,m8,t8⟩:=map_place m7 (by unfold maxLen;omega) ⟨#[106,111,98,115,47,102,101,116,99,104]⟩ (by decide) 0 4 (gi:=0) (pi:=4) rfl rfl;obtain ⟨w9,u9,m9,t9⟩:=map_place m8 (by unfold maxLen;omega) ⟨#[106,111,98,115,47,78,47,100,111,110,101]⟩ (by decide) 0 5 (gi:=0) (pi:=5) rfl rfl;obtain ⟨w10,u10,m10,t10⟩:=map_place m9 (by unfold maxLen;omega) ⟨#[106,111,98,115,47,78,47,102,97,105,108]⟩ (by decide) 0 6 (gi:=0) (pi:=6) rfl rfl;obtain ⟨w11,u11,m11,t11⟩:=map_place m10 (by unfold maxLen;omega) ⟨#[105,110,99,105,100,101,110,116,115]⟩ (by decide) 6 0 (gi:=6) (pi:=0) rfl rfl;obtain ⟨w12,u12,m12,t12⟩:=map_place m11 (by unfold maxLen;omega) ⟨#[105,110,99,105,100,101,110,116,115,47,78,47,114,101,115,111,108,118,101]⟩ (by decide) 0 7 (gi:=0) (pi:=7) rfl rfl;obtain ⟨w13,u13,m13,t13⟩:=map_place m12 (by unfold maxLen;omega) ⟨#[109,101,115,115,97,103,101,115]⟩ (by decide) 0 8 (gi:=0) (pi:=8) rfl rfl;obtain ⟨w14,u14,m14,t14⟩:=map_place m13 (by unfold maxLen;omega) ⟨#[115,105,103,110,97,108,115]⟩ (by decide) 0 9 (gi:=0) (pi:=9) rfl rfl;obtain ⟨w15,u15,m15,t15⟩:=map_place m14 (by unfold maxLen;omega) ⟨#[99,108,111,99,107]⟩ (by decide) 7 0 (gi:=7) (pi:=0) rfl rfl;have hD:w15.ownsMap Tryz.prog 9 R.placeR W.heap.size 15 (R.mapD R.placeD R.places):=m15;have HD:=hid hD;have HB:Hid (Below W.heap.size W w15):=by
  show Below _ _ _;have b0:Below W.heap.size W (W.alloc (.map #[] 0)):=(Below.refl _ W).alloc (Nat.le_refl _) _;have hs0:W.heap.size≤(W.alloc (.map #[] 0)).heap.size:=b0.size;have g:=((((((((((((((t1.grown.trans t2.grown).trans t3.grown).trans t4.grown).trans t5.grown).trans t6.grown).trans t7.grown).trans t8.grown).trans t9.grown).trans t10.grown).trans t11.grown).trans t12.grown).trans t13.grown).trans t14.grown).trans t15.grown);exact b0.grown g hs0 (fun q hq=>by simp at hq;omega)
 clear m0 m1 t1 m2 t2 m3 t3 m4 t4 m5 t5 m6 t6 m7 t7 m8 t8 m9 t9 m10 t10 m11 t11 m12 t12 m13 t13 m14 t14 m15 t15 hD;go_enter Tryz.func52,Tryz.ntmps52;go_wp2_with fail;go_ret;exact ⟨rfl,HD.out,HB.out⟩
end Go.Proofs.YtohkomndapngjaaGreatDoor
namespace Go.Proofs.YtohkomndapngjaaGreatDoor.Y
open Go.Proofs.YtohkomndapngjaaGreatDoor.W
open Go.RowKit
open Go.Lib (hid decDigits itoa)
namespace W
end W
def Pows (w:World):Prop:=Lib.TabIs Tryz.prog w "internal/strconv.uint64pow10" .u64 Lib.pow10Tab
theorem number_any (n:Int) (w:World) (h0: -9223372036854775808≤n) (h1:n≤9223372036854775807) (hP:Pows w):
  Calls Tryz.prog 94 #[.int .i64 n] w fun e w'=>e= .returned (.string ⟨(itoa n).toArray⟩)∧Below w.heap.size w w':=by
 have c:=Tryz.strconv_FormatInt_10 n h0 h1 w hP;generalize itoa n=D at c ⊢;go_enter Tryz.func94,Tryz.ntmps94;go_wp2_with fail;refine c.mono ?_;rintro e w1 ⟨rfl,k,os,rfl⟩;go_wp2_with fail;go_ret;exact ⟨rfl,Lib.below_grow _ w (Nat.le_refl _) k os⟩
open Go.Lib (hid itoa)
theorem ret_ib {a b:Int×Bool}(h:a=b):Ending.returned (.tuple #[.int .i64 a.1,.bool a.2])= .returned (.tuple #[.int .i64 b.1,.bool b.2]):=by rw [h]
namespace W
end W
def Errs (w:World):Prop:=(∃tp p,w.var? Tryz.prog "strconv.ErrSyntax" =some #[.iface tp p])∧(∃tp p,w.var? Tryz.prog "strconv.ErrRange" =some #[.iface tp p])
theorem parseInt_any (s:ByteArray) (w:World) (hs:s.size≤281474976710656) (hE:Errs w):
   (∃v,W.libP s.data.toList=some v∧W.Fits v∧Calls Tryz.prog 93 #[.string s,.int .i64 10,.int .i64 64] w fun e w'=>e= .returned (.tuple #[.int .i64 v,.nilIface])∧Below w.heap.size w w')
   ∨(W.libP s.data.toList=none∧Calls Tryz.prog 93 #[.string s,.int .i64 10,.int .i64 64] w fun e w'=> ∃(x:Int) (N:Nat),e= .returned (.tuple #[.int .i64 x,.iface 343 (.pointer (some ⟨N,0,none⟩))])∧Below w.heap.size w w'):=by
 obtain ⟨⟨t1,p1,h1⟩,⟨t2,p2,h2⟩⟩:=hE;rcases h:Lib.parseIntB 64 s.data.toList with v|_|_
 · left;have hl:W.libP s.data.toList=some v:=by unfold W.libP;rw [h]
   refine ⟨v,hl,W.lib_fits _ _ hl,?_⟩;refine (Tryz.strconv_ParseInt_10_at64_ok s (by omega) v h w).mono ?_;rintro e w' ⟨rfl,hw⟩;refine ⟨rfl,?_⟩;rcases hw with rfl|⟨t,rfl⟩
   · exact Below.refl _ _
   · exact Lib.bytesWorld_below _ _ _
 · right;refine ⟨by unfold W.libP;rw [h],?_⟩;refine (Any.strconv_ParseInt_10_at64_syntax_var Tryz.laysC174 s hs h t1 p1 w h1).mono ?_;rintro e w' ⟨N,rfl,_,_,hb⟩;exact ⟨0,N,rfl,hb⟩
 · right;refine ⟨by unfold W.libP;rw [h],?_⟩;refine (Any.strconv_ParseInt_10_at64_range_var Tryz.laysC174 s hs h t2 p2 w h2).mono ?_;rintro e w' ⟨N,rfl,_,_,hb⟩;exact ⟨_,N,rfl,hb⟩
theorem Pows.below {B:Nat}{w w':World}(h:Pows w) (hb:Below B w w') (hB:2<B):Pows w':=
 var?_below hb (show Tryz.prog.globalNamed "internal/strconv.uint64pow10" =some 2 by kernel_rfl) hB h
theorem parse_any (s:ByteArray) (w:World) (hs:s.size≤281474976710656) (hE:Errs w) (hP:Pows w) (hz:2<w.heap.size):
   Calls Tryz.prog 51 #[.string s] w fun e w'=>e= .returned (.tuple #[.int .i64 (W.parseW s.data.toList).1,.bool (W.parseW s.data.toList).2])∧Below w.heap.size w w':=by
 rcases parseInt_any s w hs hE with ⟨v,hv,hf,hc⟩|⟨hv,hc⟩
 · obtain ⟨q,hq⟩:∃q,decide (itoa v=s.data.toList)=q:=⟨_,rfl⟩;have hne:(itoa v==s.toList)=q:=by rw [Lib.toList_data,W.list_beq];exact hq
   have HF:Hid (W.parseW s.data.toList=if q then (v,true) else (0,false)):=by
    show _=_;unfold W.parseW;rw [hv,←hq];show (if itoa v=s.data.toList then _ else _)=_;by_cases h:itoa v=s.data.toList<;>simp [h]
   clear hq hv;obtain ⟨hf0,hf1⟩:=hf;cases q;all_goals
    go_enter Tryz.func51,Tryz.ntmps51;go_wp2_with fail;refine hc.mono ?_;rintro e w1 ⟨rfl,hb1⟩;go_wp2_with fail;refine (number_any v _ hf0 hf1 (hP.below hb1 hz)).mono ?_;rintro e w2 ⟨rfl,hb2⟩;go_wp2_with fail;go_ret2
    first
     | exact ⟨ret_ib (a:=(0,false)) (by rw [HF.out];rfl),hb1.trans (hb2.mono hb1.size)⟩
     | exact ⟨ret_ib (a:=(v,true)) (by rw [HF.out];rfl),hb1.trans (hb2.mono hb1.size)⟩
 · have HF:Hid (W.parseW s.data.toList=(0,false)):=by
    show _=_;unfold W.parseW;rw [hv];rfl
   clear hv;go_enter Tryz.func51,Tryz.ntmps51;go_wp2_with fail;refine hc.mono ?_;rintro e w1 ⟨x,N,rfl,hb1⟩;go_wp2_with fail;go_ret2;exact ⟨ret_ib (a:=(0,false)) (by rw [HF.out]),hb1⟩
end Go.Proofs.YtohkomndapngjaaGreatDoor.Y
namespace Go.Proofs.YtohkomndapngjaaGreatDoor
set_option maxRecDepth 100000
set_option maxHeartbeats 16000000
open Go.RowKit Go.Lib
theorem ret_bool {a b:Bool}(h:a=b):Ending.returned (.bool a)= .returned (.bool b):=by rw [h]
end Go.Proofs.YtohkomndapngjaaGreatDoor

