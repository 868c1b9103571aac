/- The variable that a list or an object is gathered in; how value ends. -/
import Derived.Test.YtohkomndapngjaaGreatDoorRC6
import Derived.Test.YtohkomndapngjaaGreatDoorRC3
import Derived.Laws.OwnMore
import Derived.Test.YtohkomndapngjaaGreatDoorShelfS
import Derived.WalkSpells
import Derived.Lib.SliceRun
import Derived.Laws.AppendOwn
import Derived.Deep.RegionHeld3
import Derived.Deep.RegionWith
import Derived.BigRegion
import Derived.Deep.RegionLaw
import Derived.Deep.AppendLies
import Derived.Lib.SlicesS
namespace Go.Proofs.YtohkomndapngjaaGreatDoor
set_option maxRecDepth 100000
set_option maxHeartbeats 16000000
open Go.RowKit
open Go.Lib (hid)
def Shape (cs:List Value):Prop:= ∃(k:Int) (b:Bool) (n:Int) (s:ByteArray) (a1:Option Addr) (l1 c1:Nat) (a2:Option Addr) (l2 c2:Nat),cs= [.int .u8 k,.bool b,.int .i64 n,.string s,.slice a1 l1 c1,.slice a2 l2 c2]
theorem Shape.one {cs:List Value}(h:Shape cs):∀u∈cs,u.oneCell'=true:=by
 obtain ⟨_,_,_,_,_,_,_,_,_,_,rfl⟩:=h;intro u hu;simp only [List.mem_cons,List.not_mem_nil,or_false] at hu;rcases hu with rfl|rfl|rfl|rfl|rfl|rfl<;>rfl
theorem Shape.of {w:World}{P:Nat→Prop}{x:J.V}{cs:List Value}(h:x.Has w P cs):Shape cs:=by
 obtain ⟨lv,nv,rfl,h2,h3⟩:=h;obtain ⟨a1,c1,rfl⟩:=h2.shape;obtain ⟨a2,c2,rfl⟩:=h3.shape;exact ⟨_,_,_,_,_,_,_,_,_,_,rfl⟩
def zero6:List Value:= [.int .u8 0,.bool false,.int .i64 0,.string ⟨#[]⟩,.slice none 0 0,.slice none 0 0]
theorem Shape.zero:Shape zero6:=⟨0,false,0,⟨#[]⟩,none,0,0,none,0,0,rfl⟩
def ValOf (W0:World) (R:Nat) (s:ByteArray) (x:J.Res J.V) (en:Ending) (W:World):Prop:=
 (∃(y v:J.V) (r:List UInt8) (cs:List Value),x= .ok (y,r)∧v.loose y∧en= .returned (.tuple #[.agg cs.toArray,.bool true])∧v.Has W (Own W W0.heap.size none) cs∧Rdr W0 R s (s.size-r.length) 0 0 W)∨
 (∃(n:Nat) (er:Int) (q:Nat) (cs:List Value),x= .error (n,er)∧q≤s.size∧en= .returned (.tuple #[.agg cs.toArray,.bool false])∧Shape cs∧Rdr W0 R s q er ((s.size-n:Nat):Int) W)
def ValC (G R:Nat) (s:ByteArray) (d deep:Nat):Prop:= ∀(p:Nat) (W:World),Rdr W R s p 0 0 W→p≤s.size→Ground G W→
 Calls Tryz.prog 57 #[.pointer (some ⟨R,0,none⟩),.int .i64 deep] W (ValOf W R s (J.val d (s.data.toList.drop p)))
def Own2 (w:World) (B:Nat) (g0 g1:Option Nat) (b:Nat):Prop:=B≤b∧b<w.heap.size∧g0≠some b∧g1≠some b∧∃cs T,w.heap[b]? =some (.cells cs T (0,0))
def vRow (k:Int) (lv nv:Value):Obj:= .cells #[.int .u8 k,.bool false,.int .i64 0,.string ⟨#[]⟩,lv,nv] 26 (0,0)
structure VP (B V:Nat) (k:Int) (t:J.T) (ns:List ByteArray) (W:World) (lv nv:Value) (cs:List Value):Prop where
 v:W.heap[V]? =some (vRow k lv nv)
 l:W.ownsRow B 26 6 lv t.length cs
 c:t.Cells W (Own2 W B lv.ownBlock nv.ownBlock) cs
 n:W.ownsRow B 9 1 nv ns.length (ns.map Value.string)
def VSt (B V:Nat) (k:Int) (t:J.T) (ns:List ByteArray) (W:World):Prop:= ∃lv nv cs,VP B V k t ns W lv nv cs
def VBad (V:Nat) (W:World):Prop:= ∃(k:Int) (a1:Option Addr) (l1 c1:Nat) (a2:Option Addr) (l2 c2:Nat),W.heap[V]? =some (vRow k (.slice a1 l1 c1) (.slice a2 l2 c2))
theorem own_shape {w:World}{B:Nat}{E:TypeId}{sz n:Nat}{v:Value}{cs:List Value}(h:w.ownsRow B E sz v n cs):∃a c,v= .slice a n c:=by
 rcases h.2 with ⟨rfl,h0⟩|⟨g,cap,cur,rfl,_⟩
 · exact ⟨none,0,by rw [h0]⟩
 · exact ⟨_,_,rfl⟩
theorem VSt.bad {B V:Nat}{k:Int}{t:J.T}{ns:List ByteArray}{W:World}(h:VSt B V k t ns W):VBad V W:=by
 obtain ⟨lv,nv,cs,h1,h2,_,h4⟩:=h;obtain ⟨a1,c1,rfl⟩:=own_shape h2;obtain ⟨a2,c2,rfl⟩:=own_shape h4;exact ⟨k,a1,_,c1,a2,_,c2,h1⟩
theorem VSt.first {B V:Nat}(k:Int) {W:World}(h:W.heap[V]? =some (vRow k (.slice none 0 0) (.slice none 0 0))):VSt B V k .nil [] W:=
 ⟨_,_,[],⟨h,World.ownsRow_nil _ _ _ _,rfl,World.ownsRow_nil _ _ _ _⟩⟩
theorem VP.kept {B V:Nat}{k:Int}{t:J.T}{ns:List ByteArray}{W W':World}{R:Nat}{lv nv:Value}{cs:List Value}(h:VP B V k t ns W lv nv cs) (g:W.grownBy W' (some R)) (hV:R≠V) (hR:R<B):VP B V k t ns W' lv nv cs:=by
 obtain ⟨h1,h2,h3,h4⟩:=h;have hs:=g.size;refine ⟨?_,World.ownsRow.kept h2 g (Or.inr fun e=>by have:=(World.ownsRow.lt h2 R e).1;omega),?_,World.ownsRow.kept h4 g (Or.inr fun e=>by have:=(World.ownsRow.lt h4 R e).1;omega)⟩
 · rw [g.block V (Go.lt_of_block h1) (fun e=>hV (Option.some.inj e).symm)];exact h1
 · refine J.T.Cells.keep ?_ (fun b hb=>g.block b hb.2.1 (fun e=>by have:=Option.some.inj e;have:=hb.1;omega)) t cs h3;rintro b ⟨h5,h6,h7,h8,cs',T,h9⟩;exact ⟨h5,by omega,h7,h8,cs',T,by rw [g.block b h6 (fun e=>by have:=Option.some.inj e;omega)];exact h9⟩
theorem VSt.kept {B V:Nat}{k:Int}{t:J.T}{ns:List ByteArray}{W W':World}{R:Nat}(h:VSt B V k t ns W) (g:W.grownBy W' (some R)) (hV:R≠V) (hR:R<B):VSt B V k t ns W':=by
 obtain ⟨lv,nv,cs,h⟩:=h;exact ⟨lv,nv,cs,h.kept g hV hR⟩
theorem VP.apart {B V:Nat}{k:Int}{t:J.T}{ns:List ByteArray}{W:World}{lv nv:Value}{cs:List Value}(h:VP B V k t ns W lv nv cs) {g:Nat}(h1:lv.ownBlock=some g):nv.ownBlock≠some g:=by
 intro h2;rcases h.l.2 with ⟨rfl,_⟩|⟨g1,cap1,cur1,rfl,_,hg1,_⟩
 · cases h1
 · rcases h.n.2 with ⟨rfl,_⟩|⟨g2,cap2,cur2,rfl,_,hg2,_⟩
   · cases h2
   · simp only [Value.ownBlock,Option.some.injEq] at h1 h2;subst h1 h2;rw [hg1] at hg2;simp at hg2
theorem VP.push {B V H0:Nat}{k:Int}{t:J.T}{ns ns':List ByteArray}{w2 WF:World}{lv nv nv':Value}{ts cs:List Value}(h:VP B V k t ns w2 lv nv ts) {v:J.V}(hv:v.Has w2 (Own w2 H0 none) cs) (hH:B≤H0)
   (hlv:∀b,lv.ownBlock=some b→b<H0) (hnv:∀b,nv.ownBlock=some b→b<H0) (hV:V<B)
   (hF:∀b,b<w2.heap.size→lv.ownBlock≠some b→nv.ownBlock≠some b→b≠V→WF.heap[b]? =w2.heap[b]?) (hsz:w2.heap.size≤WF.heap.size) {g cap:Nat}
   (hrow:WF.ownsRow B 26 6 (.slice (some ⟨g,0,none⟩) (t.length+1) cap) (t.length+1) (ts++cs)) (hg:lv.ownBlock=some g∨w2.heap.size≤g)
   (hVF:WF.heap[V]? =some (vRow k (.slice (some ⟨g,0,none⟩) (t.length+1) cap) nv')) (hn:WF.ownsRow B 9 1 nv' ns'.length (ns'.map Value.string)) (hn':∀b,nv'.ownBlock=some b→nv.ownBlock=some b∨w2.heap.size≤b):
   VP B V k (t.snoc v) ns' WF (.slice (some ⟨g,0,none⟩) (t.length+1) cap) nv' (ts++cs):=by
 have hl:(t.snoc v).length=t.length+1:=by
   unfold J.T.snoc;rw [J.T.app_length];rfl
 have hc:=h.c;have hll:=World.ownsRow.lt h.l;have hnl:=World.ownsRow.lt h.n;refine ⟨hVF,by rw [hl];exact hrow,?_,hn⟩;have hfar:∀b,b<w2.heap.size→lv.ownBlock≠some b→nv.ownBlock≠some b→(Value.slice (some ⟨g,0,none⟩) (t.length+1) cap).ownBlock≠some b∧nv'.ownBlock≠some b:=by
   intro b h1 h2 h3;constructor
   · intro e;simp only [Value.ownBlock,Option.some.injEq] at e;subst e;rcases hg with hg|hg
     · exact h2 hg
     · omega
   · intro e;rcases hn' b e with h4|h4
     · exact h3 h4
     · omega
 refine J.T.Cells.app t v.one ts cs ?_ (J.T.Cells.one ?_)
 · refine J.T.Cells.keep (P:=Own2 w2 B lv.ownBlock nv.ownBlock) ?_ (fun b hb=>hF b hb.2.1 hb.2.2.1 hb.2.2.2.1 (by have:=hb.1;omega)) t ts hc;rintro b ⟨h1,h2,h3,h4,cs',T,h5⟩;exact ⟨h1,by omega,(hfar b h2 h3 h4).1,(hfar b h2 h3 h4).2,cs',T,by rw [hF b h2 h3 h4 (by omega)];exact h5⟩
 · have hne:∀b,Own w2 H0 none b→lv.ownBlock≠some b∧nv.ownBlock≠some b:=fun b hb=>⟨fun e=>by have:=hlv b e;have:=hb.1;omega,fun e=>by have:=hnv b e;have:=hb.1;omega⟩
   refine J.V.Has.keep (P:=Own w2 H0 none) ?_ (fun b hb=>hF b hb.2.1 (hne b hb).1 (hne b hb).2 (by have:=hb.1;omega)) hv;intro b hb;obtain ⟨h1,h2⟩:=hne b hb;obtain ⟨h3,h4,_,cs',T,h5⟩:=hb;exact ⟨by omega,by omega,(hfar b h4 h1 h2).1,(hfar b h4 h1 h2).2,cs',T,by rw [hF b h4 h1 h2 (by omega)];exact h5⟩
theorem VSt.has {B V:Nat}{k:Nat}{t:J.T}{ns:List ByteArray}{W:World}(h:VSt B V k t ns W):∃lv nv,W.heap[V]? =some (vRow k lv nv)∧(⟨k,false,0,⟨#[]⟩,t,ns⟩:J.V).Has W (Own W B none) [.int .u8 k,.bool false,.int .i64 0,.string ⟨#[]⟩,lv,nv]:=by
 obtain ⟨lv,nv,cs,h1,h2,h3,h4⟩:=h;refine ⟨lv,nv,h1,lv,nv,rfl,?_,?_⟩
 · exact JOwn.is (E:=26) (B:=B) (t:=t) (v:=lv) (w:=W) ⟨cs,h2,J.T.Cells.keep (fun b hb=>⟨hb.1,hb.2.1,hb.2.2.1,hb.2.2.2.2⟩) (fun _ _=>rfl) t cs h3⟩
 · have hlt:=World.ownsRow.lt h4;have hc:=fun g (hg:nv.ownBlock=some g)=>World.ownsRow.cells h4 hg
   rcases h4.2 with ⟨rfl,h0⟩|⟨g,cap,cur,rfl,_,hgr,hcap,_⟩
   · exact Or.inl ⟨List.eq_nil_of_length_eq_zero h0,none,0,rfl,fun _=>rfl⟩
   · rcases Nat.eq_zero_or_pos ns.length with h0|h0
     · exact Or.inl ⟨List.eq_nil_of_length_eq_zero h0,_,cap,by rw [h0],fun h=>by cases h⟩
     · refine Or.inr ⟨h0,g,0,cap,rfl,⟨(hlt g rfl).1,(hlt g rfl).2,(fun e=>by cases e),_,_,hgr⟩,hcap,fun j x hj=> ?_⟩;have:=hc g rfl j (.string x) (by rw [List.getElem?_map,hj];rfl);have e:(⟨g,0,none⟩:Addr).add j=⟨g,j,none⟩:=by cases j<;>simp [Addr.add]
       rw [e] at this;rw [Nat.zero_add];exact this
abbrev st6 (w:World) (g o:Nat) (c0 c1 c2 c3 c4 c5:Value):World:=(((((w.setCell ⟨g,o,none⟩ c0).setCell ⟨g,o+1,none⟩ c1).setCell ⟨g,o+2,none⟩ c2).setCell ⟨g,o+3,none⟩ c3).setCell ⟨g,o+4,none⟩ c4).setCell ⟨g,o+5,none⟩ c5
theorem set_behind {ts:List Value}{m:Nat}(hl:ts.length=m) (l:List Value) (i:Nat) (u:Value):(ts++l).set (m+i) u=ts++l.set i u:=by
 rw [List.set_append_right _ _ (by omega)];congr 2;omega
theorem set6 {ts:List Value}{m:Nat}(hl:ts.length=m) (z0 z1 z2 z3 z4 z5 c0 c1 c2 c3 c4 c5:Value):((((((ts++ [z0,z1,z2,z3,z4,z5]).set m c0).set (m+1) c1).set (m+2) c2).set (m+3) c3).set (m+4) c4).set (m+5) c5=ts++ [c0,c1,c2,c3,c4,c5]:=by
 have h0:=set_behind hl [z0,z1,z2,z3,z4,z5] 0 c0;rw [Nat.add_zero] at h0;rw [h0,set_behind hl,set_behind hl,set_behind hl,set_behind hl,set_behind hl];rfl
theorem st6_row {w:World}{B n g cap:Nat}{E:TypeId}{ts:List Value}(h:w.ownsRow B E 6 (.slice (some ⟨g,0,none⟩) (n+1) cap) (n+1) (ts++zero6)) (hl:ts.length=n*6) (c0 c1 c2 c3 c4 c5:Value):
  (st6 w g (n*6) c0 c1 c2 c3 c4 c5).ownsRow B E 6 (.slice (some ⟨g,0,none⟩) (n+1) cap) (n+1) (ts++ [c0,c1,c2,c3,c4,c5])∧w.grownBy (st6 w g (n*6) c0 c1 c2 c3 c4 c5) (some g):=by
 have s0:=World.ownsRow.stored h (n*6) c0;have s1:=World.ownsRow.stored s0.1 (n*6+1) c1;have s2:=World.ownsRow.stored s1.1 (n*6+2) c2;have s3:=World.ownsRow.stored s2.1 (n*6+3) c3;have s4:=World.ownsRow.stored s3.1 (n*6+4) c4;have s5:=World.ownsRow.stored s4.1 (n*6+5) c5;refine ⟨?_,((((s0.2.trans s1.2).trans s2.2).trans s3.2).trans s4.2).trans s5.2⟩;have e:=set6 hl (.int .u8 0) (.bool false) (.int .i64 0) (.string ⟨#[]⟩) (.slice none 0 0) (.slice none 0 0) c0 c1 c2 c3 c4 c5;rw [←e];exact s5.1
theorem vRow_set {w:World}{V:Nat}{k:Int}{lv nv:Value}(h:w.heap[V]? =some (vRow k lv nv)) (x:Value):(w.setCell ⟨V,4,none⟩ x).heap[V]? =some (vRow k x nv):=row_set h 4 x
theorem vRow_set5 {w:World}{V:Nat}{k:Int}{lv nv:Value}(h:w.heap[V]? =some (vRow k lv nv)) (x:Value):(w.setCell ⟨V,5,none⟩ x).heap[V]? =some (vRow k lv x):=row_set h 5 x
theorem push_done {w6 WF:World}{B V n g cap:Nat}{k:Int}{lv nv:Value}{ts:List Value}{c0 c1 c2 c3 c4 c5:Value}(h:w6.ownsRow B 26 6 (.slice (some ⟨g,0,none⟩) (n+1) cap) (n+1) (ts++zero6)) (hl:ts.length=n*6)
   (hV:w6.heap[V]? =some (vRow k lv nv)) (hVB:V<B)
   (hWF:WF=(st6 w6 g (n*6) c0 c1 c2 c3 c4 c5).setCell ⟨V,4,none⟩ (.slice (some ⟨g,0,none⟩) (n+1) cap)∨WF=st6 (w6.setCell ⟨V,4,none⟩ (.slice (some ⟨g,0,none⟩) (n+1) cap)) g (n*6) c0 c1 c2 c3 c4 c5):
   WF.ownsRow B 26 6 (.slice (some ⟨g,0,none⟩) (n+1) cap) (n+1) (ts++ [c0,c1,c2,c3,c4,c5])∧WF.heap[V]? =some (vRow k (.slice (some ⟨g,0,none⟩) (n+1) cap) nv)∧
   (WF.os=w6.os∧WF.tape=w6.tape∧WF.output=w6.output∧WF.heap.size=w6.heap.size)∧(∀b,b≠g→b≠V→WF.heap[b]? =w6.heap[b]?):=by
 have hgB:=(World.ownsRow.lt h g rfl).1;have hgl:=(World.ownsRow.lt h g rfl).2;have hVl:=Go.lt_of_block hV;have hset:∀(u:World) (b:Nat) (i:Nat) (x:Value),(u.setCell ⟨b,i,none⟩ x).heap.size=u.heap.size:=fun u b i x=>by simp [World.setCell]
 have hsz6:∀u:World,(st6 u g (n*6) c0 c1 c2 c3 c4 c5).heap.size=u.heap.size:=fun u=>by unfold st6;simp [World.setCell]
 have hoth:∀(u:World) (b i:Nat) (x:Value) (k:Nat),k≠b→(u.setCell ⟨b,i,none⟩ x).heap[k]? =u.heap[k]? :=fun u b i x k hk=>heap_setCell_other u ⟨b,i,none⟩ k x (fun e=>hk (by simp [e]))
 have hoth6:∀(u:World) (k:Nat),k≠g→(st6 u g (n*6) c0 c1 c2 c3 c4 c5).heap[k]? =u.heap[k]? :=fun u k hk=>by
   unfold st6;rw [hoth _ _ _ _ _ hk,hoth _ _ _ _ _ hk,hoth _ _ _ _ _ hk,hoth _ _ _ _ _ hk,hoth _ _ _ _ _ hk,hoth _ _ _ _ _ hk]
 rcases hWF with rfl|rfl
 · have s:=st6_row h hl c0 c1 c2 c3 c4 c5;refine ⟨World.ownsRow.kept s.1 (grownBy_set _ V 4 _) (Or.inr fun e=>by simp only [Value.ownBlock,Option.some.injEq] at e;omega),?_,⟨(grownBy_set _ V 4 _).os.trans s.2.os,(grownBy_set _ V 4 _).tape.trans s.2.tape,(grownBy_set _ V 4 _).output.trans s.2.output,by rw [hset,hsz6]⟩,fun b h1 h2=>by rw [hoth _ _ _ _ _ h2,hoth6 _ _ h1]⟩;have hV6:(st6 w6 g (n*6) c0 c1 c2 c3 c4 c5).heap[V]? =some (vRow k lv nv):=by rw [hoth6 _ _ (by omega)];exact hV
   exact vRow_set hV6 _
 · have h':=World.ownsRow.kept h (grownBy_set w6 V 4 (.slice (some ⟨g,0,none⟩) (n+1) cap)) (Or.inr fun e=>by simp only [Value.ownBlock,Option.some.injEq] at e;omega);have s:=st6_row h' hl c0 c1 c2 c3 c4 c5;refine ⟨s.1,?_,⟨s.2.os.trans (grownBy_set _ V 4 _).os,s.2.tape.trans (grownBy_set _ V 4 _).tape,s.2.output.trans (grownBy_set _ V 4 _).output,by rw [hsz6,hset]⟩,fun b h1 h2=>by rw [hoth6 _ _ h1,hoth _ _ _ _ _ h2]⟩;rw [hoth6 _ _ (by omega)];exact vRow_set hV _
theorem ValOf.parts {W0 : World} {R : Nat} {s : ByteArray} {x : J.Res J.V} {en : Ending} {W : World} (h : ValOf W0 R s x en W) : ∃ (b : Bool) (cs : List Value), en = .returned (.tuple #[.agg cs.toArray, .bool b]) ∧ Shape cs ∧
    ((b = true ∧ ∃ (y v : J.V) (r : List UInt8), x = .ok (y, r) ∧ v.loose y ∧ v.Has W (Own W W0.heap.size none) cs ∧ Rdr W0 R s (s.size - r.length) 0 0 W) ∨
      (b = false ∧ ∃ (n : Nat) (er : Int) (q : Nat), x = .error (n, er) ∧ q ≤ s.size ∧ Rdr W0 R s q er ((s.size - n : Nat) : Int) W)) := by
  rcases h with ⟨y, v, r, cs, h1, h2, h3, h4, h5⟩ | ⟨n, er, q, cs, h1, h2, h3, h4, h5⟩
  · exact ⟨true, cs, h3, Shape.of h4, Or.inl ⟨rfl, y, v, r, h1, h2, h4, h5⟩⟩
  · exact ⟨false, cs, h3, h4, Or.inr ⟨rfl, n, er, q, h1, h2, h5⟩⟩
def Parts (W0 : World) (R : Nat) (s : ByteArray) (x : J.Res J.V) (b : Bool) (cs : List Value) (W : World) : Prop :=
 (b = true ∧ ∃ (y v : J.V) (r : List UInt8), x = .ok (y, r) ∧ v.loose y ∧ v.Has W (Own W W0.heap.size none) cs ∧ Rdr W0 R s (s.size - r.length) 0 0 W) ∨
  (b = false ∧ ∃ (n : Nat) (er : Int) (q : Nat), x = .error (n, er) ∧ q ≤ s.size ∧ Rdr W0 R s q er ((s.size - n : Nat) : Int) W)
theorem Parts.g {W0:World}{R:Nat}{s:ByteArray}{x:J.Res J.V}{b:Bool}{cs:List Value}{W:World}(h:Parts W0 R s x b cs W):W0.grownBy W (some R):=by
 rcases h with ⟨_,_,_,_,_,_,_,h⟩|⟨_,_,_,_,_,_,h⟩<;>exact h.g
theorem infoJSON4:(Tryz.prog.info? 26).map (fun i=>(i.zero,i.size,i.bytes))=some (some (.agg #[.int .u8 0,.bool false,.int .i64 0,.string ⟨#[]⟩,.slice none 0 0,.slice none 0 0]),6,80):=by kernel_rfl
namespace J
theorem T.At.cells {w:World}{P:Nat→Prop}:∀(t:T) (g o:Nat),t.At w P g o→∃cs,t.Cells w P cs∧cs.length=t.length*6∧(∀u∈cs,u.oneCell'=true)∧∀j u,cs[j]? =some u→w.cell? ⟨g,o+j,none⟩=some u
 | .nil,_,_,_=>⟨[],rfl,rfl,(by intro _ h;cases h),(by intro _ _ h;simp at h)⟩
 | .cons k b n s l ns r,g,o,⟨_,h0,h1,h2,h3,⟨v,h4,hv⟩,⟨u,h5,hu⟩,hr⟩=>by
   obtain ⟨cs,c1,c2,c3,c4⟩:=T.At.cells r g (o+6) hr;obtain ⟨a1,q1,rfl⟩:∃a q,v= .slice a l.length q:=by
     rcases hv with ⟨rfl,a,c,rfl,_⟩|⟨g',o',c,rfl,_⟩
     · exact ⟨a,c,rfl⟩
     · exact ⟨_,c,rfl⟩
   obtain ⟨a2,q2,rfl⟩:=hu.shape;refine ⟨.int .u8 k:: .bool b:: .int .i64 n:: .string s:: .slice a1 l.length q1:: .slice a2 ns.length q2::cs,⟨_,_,cs,rfl,?_,hu,c1⟩,by simp [T.length,c2];omega,?_,?_⟩
   · rcases hv with hv|⟨g',o',c,hv,h6,h7,h8⟩
     · exact Or.inl hv
     · exact Or.inr ⟨g',o',c,hv,h6,h7,h8⟩
   · intro x hx;simp only [List.mem_cons] at hx;rcases hx with rfl|rfl|rfl|rfl|rfl|rfl|hx
     · rfl
     · rfl
     · rfl
     · rfl
     · rfl
     · rfl
     · exact c3 x hx
   · intro j x hj;match j,hj with
     | 0,hj=>cases hj;exact h0
     | 1,hj=>cases hj;exact h1
     | 2,hj=>cases hj;exact h2
     | 3,hj=>cases hj;exact h3
     | 4,hj=>cases hj;exact h4
     | 5,hj=>cases hj;exact h5
     | j+6,hj=>
       have:=c4 j x (by simpa using hj);rw [show o+(j+6)=o+6+j by omega];exact this
theorem T.Cells.len {w:World}{P:Nat→Prop}:∀(t:T) (cs:List Value),t.Cells w P cs→cs.length=t.length*6
 | .nil,cs,h=>by rw [show cs= [] from h];rfl
 | .cons _ _ _ _ _ _ r,_,⟨lv,nv,cs',he,_,_,hr⟩=>by
   subst he
   have:=T.Cells.len r cs' hr
   simp [T.length,this];omega
end J
theorem cloneS_any {P:Nat→Prop}{ns:List ByteArray}{nv:Value}{w:World}(h:J.SIn w P ns nv) (hl:ns.length≤1000000000000):
   Calls Tryz.prog 161 #[nv] w fun e w'=> ∃v',e= .returned v'∧w'.ownsRow w.heap.size 9 1 v' ns.length (ns.map Value.string)∧Below w.heap.size w w':=by
 rcases h with ⟨rfl,a,c,rfl,hc⟩|⟨h0,b,o,c,rfl,hb,hc,ha⟩
 · cases a with
   | none=>
     refine (Tryz.slices_Clone_string_nil 0 c w).mono ?_;rintro e w' ⟨rfl,hw⟩;rw [hw];exact ⟨_,rfl,World.ownsRow_nil _ _ _ _,Below.refl _ _⟩
   | some a=>
     refine (Tryz.slices_Clone_string_zero a c w).mono ?_;rintro e w' ⟨v',rfl,h1,_,h2⟩;exact ⟨v',rfl,h1,h2⟩
 · refine (Tryz.slices_Clone_string b o ns.length c ns w (Nat.le_refl _) (by omega) (fun j hj=> ?_)).mono ?_
   · have:=ha j ns[j] (List.getElem?_eq_getElem hj);rw [this];simp [List.getD,List.getElem?_eq_getElem hj]
   · rintro e w' ⟨v',rfl,h1,_,h2⟩;rw [List.take_of_length_le (Nat.le_refl _)] at h1;exact ⟨v',rfl,h1,h2⟩
theorem cloneL_any {P:Nat→Prop}{t:J.T}{lv:Value}{w:World}(h:t.In w P lv) (hl:t.length≤1000000000000):
   Calls Tryz.prog 162 #[lv] w fun e w'=> ∃v' cs,e= .returned v'∧w'.ownsRow w.heap.size 26 6 v' t.length cs∧t.Cells w P cs∧Below w.heap.size w w':=by
 obtain ⟨i0,hi,hz0,hz1,hz2⟩:=info_parts infoJSON4;by_cases hnil:∃c,lv= .slice none t.length c
 · obtain ⟨c,rfl⟩:=hnil;have h0:t= .nil∧c=0:=by
    rcases h with ⟨h,a,c',h1,h2⟩|⟨g,o,c',h1,_⟩
    · simp only [Value.slice.injEq] at h1;obtain ⟨rfl,_,rfl⟩:=h1;exact ⟨h,h2 rfl⟩
    · simp at h1
   obtain ⟨rfl,rfl⟩:=h0;have hE:=fun W=>Lib.run_eql_slice_nil (P:=Tryz.prog) W 22 26 none 0 0 0 0 Tryz.underlying22
   clear h;rw [show (J.T.nil).length=0 from rfl] at*;go_enter Tryz.func162,Tryz.ntmps162;go_wp2_with fail;go_ret;exact ⟨_,[],rfl,World.ownsRow_nil _ _ _ _,rfl,Below.refl _ _⟩
 · have hsome:∃ad c cs,lv= .slice (some ad) t.length c∧t.Cells w P cs∧cs.length=t.length*6∧(∀u∈cs,u.oneCell'=true)∧∀j u,cs[j]? =some u→w.cell? (ad.add j)=some u:=by
    rcases h with ⟨rfl,a,c,rfl,_⟩|⟨g,o,c,rfl,_,_,hat⟩
    · cases a with
      | none=>exact absurd ⟨c,rfl⟩ hnil
      | some a=>exact ⟨a,c,[],rfl,rfl,rfl,(fun _ h=>by cases h),fun j u hj=>by simp at hj⟩
    · obtain ⟨cs,c1,c2,c3,c4⟩:=J.T.At.cells t g o hat;refine ⟨⟨g,o,none⟩,c,cs,rfl,c1,c2,c3,fun j u hj=> ?_⟩;have e:(⟨g,o,none⟩:Addr).add j=⟨g,o+j,none⟩:=by cases j<;>simp [Addr.add]
      rw [e];exact c4 j u hj
   obtain ⟨ad,c,cs,rfl,hcs,hlen,hone,hcell⟩:=hsome;obtain ⟨n,hn⟩:∃n,t.length=n:=⟨_,rfl⟩;rw [hn] at hl hlen ⊢;have hE:=fun W=>Lib.run_eql_slice_nil (P:=Tryz.prog) W 22 26 (some ad) n c 0 0 Tryz.underlying22
   have hlt:∀j u,cs[j]? =some u→(w.alloc (.cells #[] 26)).cell? (ad.add j)=some u:=fun j u hj=>by
    have h:=hcell j u hj;rw [((Below.refl w.heap.size w).alloc (Nat.le_refl _) (.cells #[] 26)).cell (p:=ad.add j) (Lib.lt_of_cell h)];exact h
   have hown:World.ownsRow (w.alloc (.cells #[] 26)) w.heap.size 26 6 (.slice (some ⟨w.heap.size,0,none⟩) 0 0) 0 []:=
    ⟨rfl,Or.inr ⟨w.heap.size,0,#[],rfl,Nat.le_refl _,heap_alloc_new w _,Nat.le_refl _,by decide,rfl,rfl⟩⟩
   have HL:=hid hlt;have HO:=hid hown;have HL2:=hid hlen;have H1:=hid hone;have HC:=hid hcs;clear hlt hown hlen hone hcell hnil hcs h hn;go_enter Tryz.func162,Tryz.ntmps162;go_wp2_with (at_builtin;refine wpList_append_own _ rfl _ _ 22 rfl w.heap.size 26 i0 _ 6 80 Tryz.underlying22 hi hz0 hz1 hz2 rfl (by decide) (.slice (some ⟨w.heap.size,0,none⟩) 0 0) 0 [] rfl HO.out ad n c cs rfl HL2.out HL.out H1.out (by unfold maxLen;omega) (by omega) (by simp) ?_);intro v' w1 hown1 hgrow _;have HV:Hid (w1.ownsRow w.heap.size 26 6 v' n cs):=by
    show World.ownsRow _ _ _ _ _ _ _;exact hown1
   have HB:=hid (((Below.refl w.heap.size w).alloc (Nat.le_refl _) (.cells #[] 26)).grown hgrow (by simp) (fun q hq=>by simp [Value.ownBlock] at hq;omega));clear hown1 hgrow;go_wp2_with fail;go_ret;exact ⟨_,cs,rfl,HV.out,HC.out,HB.out⟩
theorem infoJSON2:(Tryz.prog.info? 26).map (fun i=>(i.zero,i.size,i.bytes))=some (some (.agg #[.int .u8 0,.bool false,.int .i64 0,.string ⟨#[]⟩,.slice none 0 0,.slice none 0 0]),6,80):=by kernel_rfl
def ListInv (w:World) (R deep:Nat) (p:J.T×List ByteArray) (W:World):Prop:=
 W.heap[w.heap.size]? =some (.cells #[.pointer (some ⟨R,0,none⟩)] 145 (0,0))∧W.heap[w.heap.size+1]? =some (.cells #[.int .i64 deep] 3 (0,0))∧
 p.2= []∧∃t':J.T,t'.loose p.1∧VSt (w.heap.size+3) (w.heap.size+2) 5 t' [] W
theorem keepV {w3 w6:World}{V B n sz:Nat}{v:Value}{E:TypeId}{cs:List Value}{Z O:Obj}(h:((w3.alloc Z).drew).grownBy w6 v.ownBlock) (ho:((w3.alloc Z).drew).ownsRow B E sz v n cs) (hv:V<B∧B≤w3.heap.size∧V<w3.heap.size) (hb:w3.heap[V]? =some O):w6.heap[V]? =some O:=by
 rw [h.block V (by show V<(w3.alloc Z).heap.size;simp;omega) (fun e=>by have:=(World.ownsRow.lt ho V e.symm).1;omega)];show (w3.alloc Z).heap[V]? =_;rw [Lib.alloc_old w3 _ V hv.2.2];exact hb
theorem push_facts {w6:World}{B n g cap:Nat}{E:TypeId}{ts:List Value}(h:w6.ownsRow B E 6 (.slice (some ⟨g,0,none⟩) (n+1) cap) (n+1) (ts++zero6)) (hl:ts.length=n*6):
  w6.cell? ⟨g,n*6,none⟩=some (.int .u8 0)∧w6.cell? ⟨g,n*6+1,none⟩=some (.bool false)∧w6.cell? ⟨g,n*6+2,none⟩=some (.int .i64 0)∧w6.cell? ⟨g,n*6+3,none⟩=some (.string ⟨#[]⟩)∧w6.cell? ⟨g,n*6+4,none⟩=some (.slice none 0 0)∧w6.cell? ⟨g,n*6+5,none⟩=some (.slice none 0 0)∧
  w6.frozen? ⟨g,n*6,none⟩=false∧w6.frozen? ⟨g,n*6+1,none⟩=false∧w6.frozen? ⟨g,n*6+2,none⟩=false∧w6.frozen? ⟨g,n*6+3,none⟩=false∧w6.frozen? ⟨g,n*6+4,none⟩=false∧w6.frozen? ⟨g,n*6+5,none⟩=false∧B≤g:=by
 have hc:∀i,i<6→w6.cell? ⟨g,n*6+i,none⟩=zero6[i]? :=fun i hi=>by
  rw [World.ownsRow.cellAt h (n*6+i) (by omega),List.getElem?_append_right (by omega),hl];congr 1;omega
 exact ⟨hc 0 (by omega),hc 1 (by omega),hc 2 (by omega),hc 3 (by omega),hc 4 (by omega),hc 5 (by omega),World.ownsRow.frozenAt h _,World.ownsRow.frozenAt h _,World.ownsRow.frozenAt h _,World.ownsRow.frozenAt h _,World.ownsRow.frozenAt h _,World.ownsRow.frozenAt h _,(World.ownsRow.lt h g rfl).1⟩
theorem list_end {w W w2 w6 WF:World}{R d deep q n g cap:Nat}{s:ByteArray}{st:J.T×List ByteArray}{t':J.T}{lv nv:Value}{ts:List Value}{b:Bool}{c0 c1 c2 c3 c4 c5:Value}{ZX Z:Obj}(hR:Rdr w R s q 0 0 W) (hI:ListInv w R deep st W) (ht:t'.loose st.1)
   (hP:VP (w.heap.size+3) (w.heap.size+2) 5 t' [] W lv nv ts) (hn:t'.length=n) (hV:Parts W R s (J.val d (s.data.toList.drop q)) b [c0,c1,c2,c3,c4,c5] w2)
   (hgrow:(((w2.alloc ZX).alloc Z).drew).grownBy w6 lv.ownBlock) (hat:lv.ownBlock=some g∨g=(((w2.alloc ZX).alloc Z).drew).heap.size)
   (hown:w6.ownsRow (w.heap.size+3) 26 6 (.slice (some ⟨g,0,none⟩) (n+1) cap) (n+1) (ts++zero6))
   (hWF:WF=(st6 w6 g (n*6) c0 c1 c2 c3 c4 c5).setCell ⟨w.heap.size+2,4,none⟩ (.slice (some ⟨g,0,none⟩) (n+1) cap)∨WF=st6 (w6.setCell ⟨w.heap.size+2,4,none⟩ (.slice (some ⟨g,0,none⟩) (n+1) cap)) g (n*6) c0 c1 c2 c3 c4 c5):
   OneOf w R s (J.stepL (J.val d) st (s.data.toList.drop q)) (ListInv w R deep) (VBad (w.heap.size+2)) (.returned (.bool b)) WF:=by
 have hRlt:=hR.lt;have hg:=hV.g;have hP2:=hP.kept hg (by omega) (by omega);have hlt1:=World.ownsRow.lt hP.l;have hlt2:=World.ownsRow.lt hP.n;have hVW:=Go.lt_of_block hP.v;have hs2:=hg.size;have hsz3:(((w2.alloc ZX).alloc Z).drew).heap.size=w2.heap.size+2:=by show ((w2.alloc ZX).alloc Z).heap.size=_;simp
 have hold:∀k,k<w2.heap.size→(((w2.alloc ZX).alloc Z).drew).heap[k]? =w2.heap[k]? :=fun k hk=>by
   show ((w2.alloc ZX).alloc Z).heap[k]? =_;rw [Lib.alloc_old _ _ k (by simp;omega),Lib.alloc_old _ _ k hk]
 have hV6:w6.heap[w.heap.size+2]? =some (vRow 5 lv nv):=by
   rw [hgrow.block _ (by rw [hsz3];omega) (fun e=>by have:=(hlt1 _ e.symm).1;omega),hold _ (by omega)];exact hP2.v
 have hts:ts.length=n*6:=by rw [←hn];exact hP.l.1
 obtain ⟨d1,d2,⟨d3,d4,d5,d6⟩,d7⟩:=push_done hown hts hV6 (by omega) hWF;have hgB:=(World.ownsRow.lt hown g rfl).1;have hsz6:=hgrow.size;rw [hsz3] at hsz6;have hfar:∀k,k<w2.heap.size→lv.ownBlock≠some k→k≠w.heap.size+2→WF.heap[k]? =w2.heap[k]? :=fun k h1 h2 h3=>by
   have hkg:k≠g:=by
     rcases hat with hat|hat
     · intro e;rw [e] at h2;exact h2 hat
     · rw [hsz3] at hat;omega
   rw [d7 k hkg h3,hgrow.block k (by rw [hsz3];omega) (fun e=>h2 e.symm),hold k h1]
 have hlow:∀k,k<w.heap.size+3→k≠w.heap.size+2→WF.heap[k]? =w2.heap[k]? :=fun k h1 h2=>hfar k (by omega) (fun e=>by have:=(hlt1 k e).1;omega) h2
 have hbel:Below w.heap.size w2 WF:=⟨d3.trans hgrow.os,d4.trans hgrow.tape,d5.trans hgrow.output,by omega,fun k hk=>hlow k (by omega) (by omega)⟩;have hbox:WF.heap[w.heap.size]? =some (.cells #[.pointer (some ⟨R,0,none⟩)] 145 (0,0))∧WF.heap[w.heap.size+1]? =some (.cells #[.int .i64 deep] 3 (0,0)):=by
   constructor
   · rw [hlow _ (by omega) (by omega),hg.block _ (by omega) (fun e=>by have:=Option.some.inj e;omega)];exact hI.1
   · rw [hlow _ (by omega) (by omega),hg.block _ (by omega) (fun e=>by have:=Option.some.inj e;omega)];exact hI.2.1
 obtain ⟨na,nc,hnv⟩:=own_shape hP.n;unfold J.stepL;rcases hV with ⟨rfl,y,v,r,hx,hlo,hh,hr⟩|⟨rfl,m,er,q',hx,hq',hr⟩
 · rw [hx];left;refine ⟨_,_,rfl,rfl,(hR.trans hr).under hbel (Nat.le_refl _),hbox.1,hbox.2,hI.2.2.1,t'.snoc v,J.T.loose_snoc ht hlo,?_⟩;have hnn:WF.ownsRow (w.heap.size+3) 9 1 nv ([]:List ByteArray).length (([]:List ByteArray).map Value.string):=by
     have h0:=hP2.n;rcases h0.2 with ⟨rfl,h1⟩|⟨g2,cap2,cur2,h1,h2,h3,h4⟩
     · exact World.ownsRow_nil _ _ _ _
     · refine ⟨h0.1,Or.inr ⟨g2,cap2,cur2,h1,h2,?_,h4⟩⟩;rw [hfar g2 (Go.lt_of_block h3) (fun e=>hP2.apart e (by rw [h1];rfl)) (by omega)];exact h3
   have:=VP.push (H0:=W.heap.size) hP2 hh (by omega) (fun k hk=>(hlt1 k hk).2) (fun k hk=>(hlt2 k hk).2) (by omega) (fun k h1 h2 _ h3=>hfar k h1 h2 h3) (by omega) (by rw [hn];exact d1) (by rcases hat with hat|hat;exact Or.inl hat;rw [hsz3] at hat;exact Or.inr (by omega)) (by rw [hn];exact d2) hnn (fun k hk=>Or.inl hk);exact ⟨_,_,_,this⟩
 · rw [hx];right;exact ⟨_,_,_,rfl,hq',rfl,(hR.trans hr).under hbel (Nat.le_refl _),by rw [hnv] at d2;exact ⟨_,_,_,_,_,_,_,d2⟩⟩
theorem list_one {w:World}{G R:Nat}{s:ByteArray}{d deep:Nat}(hV:ValC G R s d (deep+1)) (hG:Ground G w) (hGR:G≤R) (hd:deep<16) (hs:s.size≤1000000000000):
   OneC w R s (J.stepL (J.val d)) 109 #[.pointer (some ⟨w.heap.size,0,none⟩),.pointer (some ⟨w.heap.size+1,0,none⟩),.pointer (some ⟨w.heap.size+2,0,none⟩)] (ListInv w R deep) (VBad (w.heap.size+2)):=by
 intro st q W hq hl1 hl2 hR hI;have HR:=hid hR;have HI:=hid hI;have cV:=hV q W hR.own hq (hG.keep (hR.base hGR));obtain ⟨hr1,hd1, -, -⟩:=hI;have c0:=cell_of_one hr1;have c1:=cell_of_one hd1;obtain ⟨dp,hdp⟩:∃dp,deep+1=dp:=⟨_,rfl⟩;rw [hdp] at cV;have e1:(deep:Int)+1=(dp:Int):=by omega
 have e2:IntKind.i64.wrap (dp:Int)=(dp:Int):=by rw [IntKind.wrap_i64];omega
 clear hr1 hd1 hR hV;go_enter Tryz.func109,Tryz.ntmps109;go_wp2_with fail;refine cV.mono ?_;intro e w2 hval;obtain ⟨b,cs,rfl,⟨k',b',n',s',a1,l1,q1,a2,l2,q2,rfl⟩,hparts⟩:=hval.parts;have HV:Hid (Parts W R s (J.val d (s.data.toList.drop q)) b [.int .u8 k',.bool b',.int .i64 n',.string s',.slice a1 l1 q1,.slice a2 l2 q2] w2):=hparts;obtain ⟨_,_,_,t',ht',lv,nv,ts,hPW⟩:=HI.out;have hg2:=HV.out.g;have hP2:=hPW.kept hg2 (by have:=HR.out.lt;omega) (by have:=HR.out.lt;omega);have HPW:=hid hPW;have HT:=hid ht';obtain ⟨hv1,hv2, -, -⟩:=hP2;obtain ⟨la,lc,rfl⟩:=own_shape hv2;have hlen:t'.length≤1000000000000:=by rw [J.T.loose_len ht'];omega
 obtain ⟨n,hn⟩:∃n,t'.length=n:=⟨_,rfl⟩;rw [hn] at hv2 hv1 hlen HPW;have HN:=hid hn;have FIN:=hid (fun g cap w6 WF hown hgrow hat hWF=>list_end (n:=n) (g:=g) (cap:=cap) (w6:=w6) (WF:=WF) (ZX:= .cells #[.int .u8 k',.bool b',.int .i64 n',.string s',.slice a1 l1 q1,.slice a2 l2 q2] 26) (Z:= .cells #[.int .u8 0,.bool false,.int .i64 0,.string ⟨#[]⟩,.slice none 0 0,.slice none 0 0] 26) HR.out HI.out HT.out HPW.out HN.out HV.out hgrow hat hown hWF);have hts:ts.length=n*6:=hv2.1;clear hval cV hdp ht' hn hparts hPW hg2;go_upto_region 2 with fail;have HX:Hid ((w2.alloc (.cells #[.int .u8 k',.bool b',.int .i64 n',.string s',.slice a1 l1 q1,.slice a2 l2 q2] 26)).heap[w2.heap.size]? =some (.cells #[.int .u8 k',.bool b',.int .i64 n',.string s',.slice a1 l1 q1,.slice a2 l2 q2] 26 (0,0))):=heap_alloc_new w2 _;have H1:=hid (Go.Lib.alloc_old w2 (.cells #[.int .u8 k',.bool b',.int .i64 n',.string s',.slice a1 l1 q1,.slice a2 l2 q2] 26) _ (Go.lt_of_block hv1));have H2:=hid (World.ownsRow.alloc hv2 (.cells #[.int .u8 k',.bool b',.int .i64 n',.string s',.slice a1 l1 q1,.slice a2 l2 q2] 26));obtain ⟨w3,hw3⟩:∃w3,w2.alloc (.cells #[.int .u8 k',.bool b',.int .i64 n',.string s',.slice a1 l1 q1,.slice a2 l2 q2] 26)=w3:=⟨_,rfl⟩;rw [hw3] at HX H1 H2 ⊢;obtain ⟨X,hX⟩:∃X,w2.heap.size=X:=⟨_,rfl⟩;rw [hX] at HX ⊢;have hsz3:w3.heap.size=X+1:=by rw [←hw3,←hX];simp
 obtain ⟨V,hVe⟩:∃V,w.heap.size+2=V:=⟨_,rfl⟩;obtain ⟨B,hB⟩:∃B,w.heap.size+3=B:=⟨_,rfl⟩;rw [hVe] at H1 hv1 ⊢;rw [hB] at H2;have cv4:w3.cell? ⟨V,4,none⟩=some (.slice la n lc):=by
   have:w3.heap[V]? =some (vRow 5 (.slice la n lc) nv):=H1.out.trans hv1;rw [Lib.cell_of_heap this];rfl
 have fv4:w3.frozen? ⟨V,4,none⟩=false:=by
   have:w3.heap[V]? =some (vRow 5 (.slice la n lc) nv):=H1.out.trans hv1;exact Lib.frozen_of_heap this 4
 have x0:w3.cell? ⟨X,0,none⟩=some (.int .u8 k'):=by rw [Lib.cell_of_heap HX.out];rfl
 have x1:w3.cell? ⟨X,1,none⟩=some (.bool b'):=by rw [Lib.cell_of_heap HX.out];rfl
 have x2:w3.cell? ⟨X,2,none⟩=some (.int .i64 n'):=by rw [Lib.cell_of_heap HX.out];rfl
 have x3:w3.cell? ⟨X,3,none⟩=some (.string s'):=by rw [Lib.cell_of_heap HX.out];rfl
 have x4:w3.cell? ⟨X,4,none⟩=some (.slice a1 l1 q1):=by rw [Lib.cell_of_heap HX.out];rfl
 have x5:w3.cell? ⟨X,5,none⟩=some (.slice a2 l2 q2):=by rw [Lib.cell_of_heap HX.out];rfl
 obtain ⟨i0,hi,hz0,hz1,hz2⟩:=info_parts infoJSON2;have HVB:Hid (V<B∧B≤w3.heap.size∧V<w3.heap.size):=by
   have:=Go.lt_of_block hv1;have:=HR.out.lt;show _∧_∧_;omega
 have hB3:=HVB.out.2.1;have H1V:Hid (w3.heap[V]? =some (vRow 5 (.slice la n lc) nv)):=H1.out.trans hv1;have HSZ:=hid hsz3;clear hsz3;have HW3:=hid hw3;have HVE:=hid hVe;rw [hVe,hB,hw3] at FIN;clear hw3 hX hVe hB hv1 hl1 hl2 c0 c1 e1 e2 H1;have htest:=(World.news_of_block (heap_alloc_new w3 (.cells zero6.toArray 26)));have htest2:=(World.ownsRow.drew (World.ownsRow.alloc H2.out (.cells zero6.toArray 26)));have hbd:(n+1)*80≤140737488355328:=by omega
 have hmx:n+1≤maxLen:=by unfold maxLen;omega
 have hn1:(n:Int)<(n:Int)+1:=by omega
 have hX3:X<w3.heap.size:=Go.lt_of_block HX.out;have z0:=(((Below.refl w3.heap.size w3).alloc (Nat.le_refl _) (.cells #[.int .u8 0,.bool false,.int .i64 0,.string ⟨#[]⟩,.slice none 0 0,.slice none 0 0] 26)).cell (p:=⟨X,0,none⟩) hX3).trans x0;have z1:=(((Below.refl w3.heap.size w3).alloc (Nat.le_refl _) (.cells #[.int .u8 0,.bool false,.int .i64 0,.string ⟨#[]⟩,.slice none 0 0,.slice none 0 0] 26)).cell (p:=⟨X,1,none⟩) hX3).trans x1;have z2:=(((Below.refl w3.heap.size w3).alloc (Nat.le_refl _) (.cells #[.int .u8 0,.bool false,.int .i64 0,.string ⟨#[]⟩,.slice none 0 0,.slice none 0 0] 26)).cell (p:=⟨X,2,none⟩) hX3).trans x2;have z3:=(((Below.refl w3.heap.size w3).alloc (Nat.le_refl _) (.cells #[.int .u8 0,.bool false,.int .i64 0,.string ⟨#[]⟩,.slice none 0 0,.slice none 0 0] 26)).cell (p:=⟨X,3,none⟩) hX3).trans x3;have z4:=(((Below.refl w3.heap.size w3).alloc (Nat.le_refl _) (.cells #[.int .u8 0,.bool false,.int .i64 0,.string ⟨#[]⟩,.slice none 0 0,.slice none 0 0] 26)).cell (p:=⟨X,4,none⟩) hX3).trans x4;have z5:=(((Below.refl w3.heap.size w3).alloc (Nat.le_refl _) (.cells #[.int .u8 0,.bool false,.int .i64 0,.string ⟨#[]⟩,.slice none 0 0,.slice none 0 0] 26)).cell (p:=⟨X,5,none⟩) hX3).trans x5;have zv:=(((Below.refl w3.heap.size w3).alloc (Nat.le_refl _) (.cells #[.int .u8 0,.bool false,.int .i64 0,.string ⟨#[]⟩,.slice none 0 0,.slice none 0 0] 26)).cell (p:=⟨V,4,none⟩) HVB.out.2.2).trans cv4;go_region_law (refine step_append_lies _ (by rfl) (.tmp 14) (.tmp 17) 22 (by rfl) B 26 i0 _ 6 80 Tryz.underlying22 hi hz0 hz1 hz2 rfl (by decide) (.slice la n lc) n ts (by rfl) htest2 ⟨w3.heap.size,0,none⟩ 1 1 zero6 (by rfl) rfl htest Shape.zero.one (by decide) hmx hbd (Nat.le_trans hB3 (by simp)) _ rfl ?_;intro g cap w6 hown hgrow hat hlt;(have KV:=keepV hgrow htest2 HVB.out H1V.out);(have FV:=Lib.frozen_of_heap KV 4);(have CV:w6.cell? ⟨V,4,none⟩=some (.slice la n lc):=by rw [Lib.cell_of_heap KV];rfl);(have HKV:=hid KV);clear KV;(obtain ⟨y0,y1,y2,y3,y4,y5,f0,f1,f2,f3,f4,f5,hgB⟩:=push_facts hown hts);(have gv1:g≠V:=by have:=HVB.out.1;omega);(have gv2:V≠g:=by omega);(have HO:=hid hown);(have HG:=hid hgrow);clear hown hgrow)
 · clear x0 x1 x2 x3 x4 x5 z0 z1 z2 z3 z4 z5 zv y0 y1 y2 y3 y4 y5 f0 f1 f2 f3 f4 f5 CV FV cv4;have FZ:∀(en:Ending) (WF:World),en= .returned (.bool b)→(WF=(st6 w6 g (n*6) (.int .u8 k') (.bool b') (.int .i64 n') (.string s') (.slice a1 l1 q1) (.slice a2 l2 q2)).setCell ⟨V,4,none⟩ (.slice (some ⟨g,0,none⟩) (n+1) cap)∨WF=st6 (w6.setCell ⟨V,4,none⟩ (.slice (some ⟨g,0,none⟩) (n+1) cap)) g (n*6) (.int .u8 k') (.bool b') (.int .i64 n') (.string s') (.slice a1 l1 q1) (.slice a2 l2 q2))→OneOf w R s (J.stepL (J.val d) st (s.data.toList.drop q)) (ListInv w R deep) (VBad (w.heap.size+2)) en WF:=fun en WF h1 h2=>by rw [h1,HVE.out];exact FIN.out g cap w6 WF HO.out HG.out hat h2
   have HFZ:=hid FZ;clear FZ;go_wp2_with fail;go_ret;have FZ:=HFZ.out;with_reducible refine FZ _ _ ?_ (Or.inl rfl)
   rfl
 · clear x0 x1 x2 x3 x4 x5 z0 z1 z2 z3 z4 z5 zv y0 y1 y2 y3 y4 y5 f0 f1 f2 f3 f4 f5 CV FV cv4;have FZ:∀(en:Ending) (WF:World),en= .returned (.bool b)→(WF=(st6 w6 g (n*6) (.int .u8 k') (.bool b') (.int .i64 n') (.string s') (.slice a1 l1 q1) (.slice a2 l2 q2)).setCell ⟨V,4,none⟩ (.slice (some ⟨g,0,none⟩) (n+1) cap)∨WF=st6 (w6.setCell ⟨V,4,none⟩ (.slice (some ⟨g,0,none⟩) (n+1) cap)) g (n*6) (.int .u8 k') (.bool b') (.int .i64 n') (.string s') (.slice a1 l1 q1) (.slice a2 l2 q2))→OneOf w R s (J.stepL (J.val d) st (s.data.toList.drop q)) (ListInv w R deep) (VBad (w.heap.size+2)) en WF:=fun en WF h1 h2=>by rw [h1,HVE.out];exact FIN.out g cap w6 WF HO.out HG.out hat h2
   have HFZ:=hid FZ;clear FZ;go_wp2_with fail;go_ret;have FZ:=HFZ.out;with_reducible refine FZ _ _ ?_ (Or.inr rfl)
   rfl
 · clear x0 x1 x2 x3 x4 x5 z0 z1 z2 z3 z4 z5 zv y0 y1 y2 y3 y4 y5 f0 f1 f2 f3 f4 f5 CV FV cv4;have FZ:∀(en:Ending) (WF:World),en= .returned (.bool b)→(WF=(st6 w6 g (n*6) (.int .u8 k') (.bool b') (.int .i64 n') (.string s') (.slice a1 l1 q1) (.slice a2 l2 q2)).setCell ⟨V,4,none⟩ (.slice (some ⟨g,0,none⟩) (n+1) cap)∨WF=st6 (w6.setCell ⟨V,4,none⟩ (.slice (some ⟨g,0,none⟩) (n+1) cap)) g (n*6) (.int .u8 k') (.bool b') (.int .i64 n') (.string s') (.slice a1 l1 q1) (.slice a2 l2 q2))→OneOf w R s (J.stepL (J.val d) st (s.data.toList.drop q)) (ListInv w R deep) (VBad (w.heap.size+2)) en WF:=fun en WF h1 h2=>by rw [h1,HVE.out];exact FIN.out g cap w6 WF HO.out HG.out hat h2
   have HFZ:=hid FZ;clear FZ;go_wp2_with fail;go_ret;have FZ:=HFZ.out;with_reducible refine FZ _ _ ?_ (Or.inl rfl)
   rfl
 · clear x0 x1 x2 x3 x4 x5 z0 z1 z2 z3 z4 z5 zv y0 y1 y2 y3 y4 y5 f0 f1 f2 f3 f4 f5 CV FV cv4;have FZ:∀(en:Ending) (WF:World),en= .returned (.bool b)→(WF=(st6 w6 g (n*6) (.int .u8 k') (.bool b') (.int .i64 n') (.string s') (.slice a1 l1 q1) (.slice a2 l2 q2)).setCell ⟨V,4,none⟩ (.slice (some ⟨g,0,none⟩) (n+1) cap)∨WF=st6 (w6.setCell ⟨V,4,none⟩ (.slice (some ⟨g,0,none⟩) (n+1) cap)) g (n*6) (.int .u8 k') (.bool b') (.int .i64 n') (.string s') (.slice a1 l1 q1) (.slice a2 l2 q2))→OneOf w R s (J.stepL (J.val d) st (s.data.toList.drop q)) (ListInv w R deep) (VBad (w.heap.size+2)) en WF:=fun en WF h1 h2=>by rw [h1,HVE.out];exact FIN.out g cap w6 WF HO.out HG.out hat h2
   have HFZ:=hid FZ;clear FZ;go_wp2_with fail;go_ret;have FZ:=HFZ.out;with_reducible refine FZ _ _ ?_ (Or.inr rfl)
   rfl
 · clear x0 x1 x2 x3 x4 x5 z0 z1 z2 z3 z4 z5 zv y0 y1 y2 y3 y4 y5 f0 f1 f2 f3 f4 f5 CV FV cv4;have FZ:∀(en:Ending) (WF:World),en= .returned (.bool b)→(WF=(st6 w6 g (n*6) (.int .u8 k') (.bool b') (.int .i64 n') (.string s') (.slice a1 l1 q1) (.slice a2 l2 q2)).setCell ⟨V,4,none⟩ (.slice (some ⟨g,0,none⟩) (n+1) cap)∨WF=st6 (w6.setCell ⟨V,4,none⟩ (.slice (some ⟨g,0,none⟩) (n+1) cap)) g (n*6) (.int .u8 k') (.bool b') (.int .i64 n') (.string s') (.slice a1 l1 q1) (.slice a2 l2 q2))→OneOf w R s (J.stepL (J.val d) st (s.data.toList.drop q)) (ListInv w R deep) (VBad (w.heap.size+2)) en WF:=fun en WF h1 h2=>by rw [h1,HVE.out];exact FIN.out g cap w6 WF HO.out HG.out hat h2
   have HFZ:=hid FZ;clear FZ;go_wp2_with fail;go_ret;have FZ:=HFZ.out;with_reducible refine FZ _ _ ?_ (Or.inl rfl)
   rfl
 · clear x0 x1 x2 x3 x4 x5 z0 z1 z2 z3 z4 z5 zv y0 y1 y2 y3 y4 y5 f0 f1 f2 f3 f4 f5 CV FV cv4;have FZ:∀(en:Ending) (WF:World),en= .returned (.bool b)→(WF=(st6 w6 g (n*6) (.int .u8 k') (.bool b') (.int .i64 n') (.string s') (.slice a1 l1 q1) (.slice a2 l2 q2)).setCell ⟨V,4,none⟩ (.slice (some ⟨g,0,none⟩) (n+1) cap)∨WF=st6 (w6.setCell ⟨V,4,none⟩ (.slice (some ⟨g,0,none⟩) (n+1) cap)) g (n*6) (.int .u8 k') (.bool b') (.int .i64 n') (.string s') (.slice a1 l1 q1) (.slice a2 l2 q2))→OneOf w R s (J.stepL (J.val d) st (s.data.toList.drop q)) (ListInv w R deep) (VBad (w.heap.size+2)) en WF:=fun en WF h1 h2=>by rw [h1,HVE.out];exact FIN.out g cap w6 WF HO.out HG.out hat h2
   have HFZ:=hid FZ;clear FZ;go_wp2_with fail;go_ret;have FZ:=HFZ.out;with_reducible refine FZ _ _ ?_ (Or.inr rfl)
   rfl
 · clear x0 x1 x2 x3 x4 x5 z0 z1 z2 z3 z4 z5 zv y0 y1 y2 y3 y4 y5 f0 f1 f2 f3 f4 f5 CV FV cv4;have FZ:∀(en:Ending) (WF:World),en= .returned (.bool b)→(WF=(st6 w6 g (n*6) (.int .u8 k') (.bool b') (.int .i64 n') (.string s') (.slice a1 l1 q1) (.slice a2 l2 q2)).setCell ⟨V,4,none⟩ (.slice (some ⟨g,0,none⟩) (n+1) cap)∨WF=st6 (w6.setCell ⟨V,4,none⟩ (.slice (some ⟨g,0,none⟩) (n+1) cap)) g (n*6) (.int .u8 k') (.bool b') (.int .i64 n') (.string s') (.slice a1 l1 q1) (.slice a2 l2 q2))→OneOf w R s (J.stepL (J.val d) st (s.data.toList.drop q)) (ListInv w R deep) (VBad (w.heap.size+2)) en WF:=fun en WF h1 h2=>by rw [h1,HVE.out];exact FIN.out g cap w6 WF HO.out HG.out hat h2
   have HFZ:=hid FZ;clear FZ;go_wp2_with fail;go_ret;have FZ:=HFZ.out;with_reducible refine FZ _ _ ?_ (Or.inl rfl)
   rfl
 · clear x0 x1 x2 x3 x4 x5 z0 z1 z2 z3 z4 z5 zv y0 y1 y2 y3 y4 y5 f0 f1 f2 f3 f4 f5 CV FV cv4;have FZ:∀(en:Ending) (WF:World),en= .returned (.bool b)→(WF=(st6 w6 g (n*6) (.int .u8 k') (.bool b') (.int .i64 n') (.string s') (.slice a1 l1 q1) (.slice a2 l2 q2)).setCell ⟨V,4,none⟩ (.slice (some ⟨g,0,none⟩) (n+1) cap)∨WF=st6 (w6.setCell ⟨V,4,none⟩ (.slice (some ⟨g,0,none⟩) (n+1) cap)) g (n*6) (.int .u8 k') (.bool b') (.int .i64 n') (.string s') (.slice a1 l1 q1) (.slice a2 l2 q2))→OneOf w R s (J.stepL (J.val d) st (s.data.toList.drop q)) (ListInv w R deep) (VBad (w.heap.size+2)) en WF:=fun en WF h1 h2=>by rw [h1,HVE.out];exact FIN.out g cap w6 WF HO.out HG.out hat h2
   have HFZ:=hid FZ;clear FZ;go_wp2_with fail;go_ret;have FZ:=HFZ.out;with_reducible refine FZ _ _ ?_ (Or.inr rfl)
   rfl
 · clear x0 x1 x2 x3 x4 x5 z0 z1 z2 z3 z4 z5 zv y0 y1 y2 y3 y4 y5 f0 f1 f2 f3 f4 f5 CV FV cv4;have FZ:∀(en:Ending) (WF:World),en= .returned (.bool b)→(WF=(st6 w6 g (n*6) (.int .u8 k') (.bool b') (.int .i64 n') (.string s') (.slice a1 l1 q1) (.slice a2 l2 q2)).setCell ⟨V,4,none⟩ (.slice (some ⟨g,0,none⟩) (n+1) cap)∨WF=st6 (w6.setCell ⟨V,4,none⟩ (.slice (some ⟨g,0,none⟩) (n+1) cap)) g (n*6) (.int .u8 k') (.bool b') (.int .i64 n') (.string s') (.slice a1 l1 q1) (.slice a2 l2 q2))→OneOf w R s (J.stepL (J.val d) st (s.data.toList.drop q)) (ListInv w R deep) (VBad (w.heap.size+2)) en WF:=fun en WF h1 h2=>by rw [h1,HVE.out];exact FIN.out g cap w6 WF HO.out HG.out hat h2
   have HFZ:=hid FZ;clear FZ;go_wp2_with fail;go_ret;have FZ:=HFZ.out;with_reducible refine FZ _ _ ?_ (Or.inl rfl)
   rfl
 · clear x0 x1 x2 x3 x4 x5 z0 z1 z2 z3 z4 z5 zv y0 y1 y2 y3 y4 y5 f0 f1 f2 f3 f4 f5 CV FV cv4;have FZ:∀(en:Ending) (WF:World),en= .returned (.bool b)→(WF=(st6 w6 g (n*6) (.int .u8 k') (.bool b') (.int .i64 n') (.string s') (.slice a1 l1 q1) (.slice a2 l2 q2)).setCell ⟨V,4,none⟩ (.slice (some ⟨g,0,none⟩) (n+1) cap)∨WF=st6 (w6.setCell ⟨V,4,none⟩ (.slice (some ⟨g,0,none⟩) (n+1) cap)) g (n*6) (.int .u8 k') (.bool b') (.int .i64 n') (.string s') (.slice a1 l1 q1) (.slice a2 l2 q2))→OneOf w R s (J.stepL (J.val d) st (s.data.toList.drop q)) (ListInv w R deep) (VBad (w.heap.size+2)) en WF:=fun en WF h1 h2=>by rw [h1,HVE.out];exact FIN.out g cap w6 WF HO.out HG.out hat h2
   have HFZ:=hid FZ;clear FZ;go_wp2_with fail;go_ret;have FZ:=HFZ.out;with_reducible refine FZ _ _ ?_ (Or.inr rfl)
   rfl
 · clear x0 x1 x2 x3 x4 x5 z0 z1 z2 z3 z4 z5 zv y0 y1 y2 y3 y4 y5 f0 f1 f2 f3 f4 f5 CV FV cv4;have FZ:∀(en:Ending) (WF:World),en= .returned (.bool b)→(WF=(st6 w6 g (n*6) (.int .u8 k') (.bool b') (.int .i64 n') (.string s') (.slice a1 l1 q1) (.slice a2 l2 q2)).setCell ⟨V,4,none⟩ (.slice (some ⟨g,0,none⟩) (n+1) cap)∨WF=st6 (w6.setCell ⟨V,4,none⟩ (.slice (some ⟨g,0,none⟩) (n+1) cap)) g (n*6) (.int .u8 k') (.bool b') (.int .i64 n') (.string s') (.slice a1 l1 q1) (.slice a2 l2 q2))→OneOf w R s (J.stepL (J.val d) st (s.data.toList.drop q)) (ListInv w R deep) (VBad (w.heap.size+2)) en WF:=fun en WF h1 h2=>by rw [h1,HVE.out];exact FIN.out g cap w6 WF HO.out HG.out hat h2
   have HFZ:=hid FZ;clear FZ;go_wp2_with fail;go_ret;have FZ:=HFZ.out;with_reducible refine FZ _ _ ?_ (Or.inl rfl)
   rfl
 · clear x0 x1 x2 x3 x4 x5 z0 z1 z2 z3 z4 z5 zv y0 y1 y2 y3 y4 y5 f0 f1 f2 f3 f4 f5 CV FV cv4;have FZ:∀(en:Ending) (WF:World),en= .returned (.bool b)→(WF=(st6 w6 g (n*6) (.int .u8 k') (.bool b') (.int .i64 n') (.string s') (.slice a1 l1 q1) (.slice a2 l2 q2)).setCell ⟨V,4,none⟩ (.slice (some ⟨g,0,none⟩) (n+1) cap)∨WF=st6 (w6.setCell ⟨V,4,none⟩ (.slice (some ⟨g,0,none⟩) (n+1) cap)) g (n*6) (.int .u8 k') (.bool b') (.int .i64 n') (.string s') (.slice a1 l1 q1) (.slice a2 l2 q2))→OneOf w R s (J.stepL (J.val d) st (s.data.toList.drop q)) (ListInv w R deep) (VBad (w.heap.size+2)) en WF:=fun en WF h1 h2=>by rw [h1,HVE.out];exact FIN.out g cap w6 WF HO.out HG.out hat h2
   have HFZ:=hid FZ;clear FZ;go_wp2_with fail;go_ret;have FZ:=HFZ.out;with_reducible refine FZ _ _ ?_ (Or.inr rfl)
   rfl
def ObjInv (w:World) (R deep:Nat) (p:J.T×List ByteArray) (W:World):Prop:=
 W.heap[w.heap.size]? =some (.cells #[.pointer (some ⟨R,0,none⟩)] 145 (0,0))∧W.heap[w.heap.size+1]? =some (.cells #[.int .i64 deep] 3 (0,0))∧
 ∃t':J.T,t'.loose p.1∧VSt (w.heap.size+3) (w.heap.size+2) 6 t' p.2 W
theorem contains_any {W:World}{B:Nat}{nv:Value}{ns:List ByteArray}(h:W.ownsRow B 9 1 nv ns.length (ns.map Value.string)) (x:ByteArray) (hl:ns.length≤1000000000000) (U:World) (hU:∀b,nv.ownBlock=some b→U.heap[b]? =W.heap[b]?):
   Calls Tryz.prog 61 #[nv,.string x] U fun e w'=>e= .returned (.bool (decide (x.data.toList∈ns.map (fun y=>y.data.toList))))∧w'=U:=by
 have hd:decide (x.data.toList∈ns.map (fun y=>y.data.toList))=Lib.containsS ns x:=by
   rw [Bool.eq_iff_iff,decide_eq_true_iff,Lib.containsS_iff];constructor
   · intro h;obtain ⟨y,hy,he⟩:=List.mem_map.1 h;have:y=x:=ByteArray.ext (Array.ext' he);rw [←this];exact hy
   · intro h;exact List.mem_map.2 ⟨x,h,rfl⟩
 rw [hd];have hc:=fun g (hg:nv.ownBlock=some g)=>World.ownsRow.cells h hg
 rcases h.2 with ⟨rfl,h0⟩|⟨g,cap,cur,rfl,_,hgr,hcap,_⟩
 · have:ns= []:=List.eq_nil_of_length_eq_zero h0;subst this;exact Tryz.slices_Contains_string_empty none 0 x U
 · rcases Nat.eq_zero_or_pos ns.length with h0|h0
   · have:ns= []:=List.eq_nil_of_length_eq_zero h0;subst this;exact Tryz.slices_Contains_string_empty _ cap x U
   · have:=Tryz.slices_Contains_string g 0 ns.length cap ns x U (Nat.le_refl _) (by omega) (fun j hj=>by
      have h1:=hc g rfl j (.string ns[j]) (by rw [List.getElem?_map,List.getElem?_eq_getElem hj];rfl);have e:(⟨g,0,none⟩:Addr).add j=⟨g,j,none⟩:=by cases j<;>simp [Addr.add]
      rw [e] at h1;rw [Nat.zero_add,World.cell?_of_block (w:=W) (hU g rfl),h1];simp [List.getD,List.getElem?_eq_getElem hj])
     rw [List.take_of_length_le (Nat.le_refl _)] at this;exact this
namespace J
def valOn (p:T×List ByteArray) (x:ByteArray):Res V→Res (T×List ByteArray)
 | .error e=> .error e
 | .ok (v,r')=> .ok ((p.1.snoc v,p.2++ [x]),r')
def objOn (val:List UInt8→Res V) (p:T×List ByteArray):Res ByteArray→Res (T×List ByteArray)
 | .error e=> .error e
 | .ok (x,r)=>valOn p x (val r)
theorem objOn_err (val:List UInt8→Res V) (p:T×List ByteArray) (e:Nat×Int):objOn val p (.error e)= .error e:=rfl
theorem objOn_ok (val:List UInt8→Res V) (p:T×List ByteArray) (x:ByteArray) (r:List UInt8):objOn val p (.ok (x,r))=valOn p x (val r):=rfl
theorem valOn_err (p:T×List ByteArray) (x:ByteArray) (e:Nat×Int):valOn p x (.error e)= .error e:=rfl
theorem valOn_ok (p:T×List ByteArray) (x:ByteArray) (v:V) (r:List UInt8):valOn p x (.ok (v,r))= .ok ((p.1.snoc v,p.2++ [x]),r):=rfl
theorem stepO_eq (val:List UInt8→Res V) (p:T×List ByteArray) (l:List UInt8):stepO val p l=objOn val p (name p.2 (skip l)):=by
 unfold stepO;cases name p.2 (skip l) with
 | error e=>rfl
 | ok q=>
   rw [show objOn val p (.ok q)=valOn p q.1 (val q.2) from rfl];simp only;cases val q.2 with
   | error e=>rfl
   | ok u=>rfl
theorem name_err {ns:List ByteArray}{l:List UInt8}{e:Nat×Int}(h:text l= .error e):name ns l= .error e:=by unfold name;rw [h]
theorem name_twice {ns:List ByteArray}{l t r:List UInt8}(h:text l= .ok (t,r)) (hm:t∈ns.map (fun x=>x.data.toList)):name ns l= .error (l.length,6):=by unfold name;rw [h];simp only;rw [if_pos hm]
theorem name_rest {ns:List ByteArray}{l t r:List UInt8}(h:text l= .ok (t,r)) (hm:¬ t∈ns.map (fun x=>x.data.toList)):name ns l=match skip r with
 | 58::l3=> .ok (⟨t.toArray⟩,l3)
 | l3=> .error (l3.length,4):=by unfold name;rw [h];exact if_neg hm
theorem name_colon {ns:List ByteArray}{l t r l3:List UInt8}(h:text l= .ok (t,r)) (hm:¬ t∈ns.map (fun x=>x.data.toList)) (hs:skip r=58::l3):name ns l= .ok (⟨t.toArray⟩,l3):=by
 rw [name_rest h hm,hs];rfl
theorem name_none {ns:List ByteArray}{l t r:List UInt8}(h:text l= .ok (t,r)) (hm:¬ t∈ns.map (fun x=>x.data.toList)) (hs:∀l3,skip r≠58::l3):name ns l= .error ((skip r).length,4):=by
 rw [name_rest h hm];split
 · rename_i l3 e;exact absurd e (hs l3)
 · rfl
end J
end Go.Proofs.YtohkomndapngjaaGreatDoor

