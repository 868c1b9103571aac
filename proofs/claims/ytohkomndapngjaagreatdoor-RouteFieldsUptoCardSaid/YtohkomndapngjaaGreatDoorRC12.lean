/- twin: a value in memory of its own. -/
import Derived.Test.YtohkomndapngjaaGreatDoorRC7
import Derived.Test.YtohkomndapngjaaGreatDoorRC11
import Derived.Deep.Onto
import Derived.Test.YtohkomndapngjaaGreatDoorRC3
namespace Go.Proofs.YtohkomndapngjaaGreatDoor
set_option maxRecDepth 100000
set_option maxHeartbeats 16000000
open Go.RowKit
open Go.Lib (hid)
namespace J
def T.All (p:V→Prop):T→Prop
 | .nil=>True
 | .cons k b n s l ns r=>p ⟨k,b,n,s,l,ns⟩∧r.All p
theorem T.all_of {p:V→Prop}(h:∀x:V,x.l.All p→p x):∀t:T,t.All p
 | .nil=>trivial
 | .cons k b n s l ns r=>⟨h ⟨k,b,n,s,l,ns⟩ (T.all_of h l),T.all_of h r⟩
theorem V.of {p:V→Prop}(h:∀x:V,x.l.All p→p x) (x:V):p x:=h x (T.all_of h x.l)
theorem T.All.app {p:V→Prop}:∀(a b:T),(a.app b).All p→a.All p∧b.All p
 | .nil,_,h=>⟨trivial,h⟩
 | .cons _ _ _ _ _ _ r,b,h=>⟨⟨h.1,(T.All.app r b h.2).1⟩,(T.All.app r b h.2).2⟩
def T.small:T→Prop
 | .nil=>True
 | .cons _ _ _ _ l ns r=>(l.length≤100000000000∧ns.length≤100000000000∧l.small)∧r.small
def V.small (x:V):Prop:=x.l.length≤100000000000∧x.ns.length≤100000000000∧x.l.small
theorem T.small_app:∀(a b:T),(a.app b).small→a.small∧b.small
 | .nil,_,h=>⟨trivial,h⟩
 | .cons _ _ _ _ _ _ r,b,h=>⟨⟨h.1,(T.small_app r b h.2).1⟩,(T.small_app r b h.2).2⟩
end J
theorem set6m {ts r:List Value}{m:Nat}(hl:ts.length=m) (z0 z1 z2 z3 z4 z5 c0 c1 c2 c3 c4 c5:Value):((((((ts++(z0::z1::z2::z3::z4::z5::r)).set m c0).set (m+1) c1).set (m+2) c2).set (m+3) c3).set (m+4) c4).set (m+5) c5=ts++(c0::c1::c2::c3::c4::c5::r):=by
 have h0:=set_behind hl (z0::z1::z2::z3::z4::z5::r) 0 c0;rw [Nat.add_zero] at h0;rw [h0,set_behind hl,set_behind hl,set_behind hl,set_behind hl,set_behind hl];rfl
theorem st6_mid {w:World}{B m n g cap:Nat}{E:TypeId}{ts r:List Value}{z0 z1 z2 z3 z4 z5:Value}(h:w.ownsRow B E 6 (.slice (some ⟨g,0,none⟩) n cap) n (ts++(z0::z1::z2::z3::z4::z5::r))) (hl:ts.length=m) (c0 c1 c2 c3 c4 c5:Value):
  (st6 w g m c0 c1 c2 c3 c4 c5).ownsRow B E 6 (.slice (some ⟨g,0,none⟩) n cap) n (ts++(c0::c1::c2::c3::c4::c5::r))∧w.grownBy (st6 w g m c0 c1 c2 c3 c4 c5) (some g):=by
 have s0:=World.ownsRow.stored h m c0;have s1:=World.ownsRow.stored s0.1 (m+1) c1;have s2:=World.ownsRow.stored s1.1 (m+2) c2;have s3:=World.ownsRow.stored s2.1 (m+3) c3;have s4:=World.ownsRow.stored s3.1 (m+4) c4;have s5:=World.ownsRow.stored s4.1 (m+5) c5;refine ⟨?_,((((s0.2.trans s1.2).trans s2.2).trans s3.2).trans s4.2).trans s5.2⟩;rw [←set6m (r:=r) hl z0 z1 z2 z3 z4 z5 c0 c1 c2 c3 c4 c5];exact s5.1
theorem own_SIn {W:World}{B:Nat}{nv:Value}{ns:List ByteArray}(h4:W.ownsRow B 9 1 nv ns.length (ns.map Value.string)):J.SIn W (Own W B none) ns nv:=by
 have hlt:=World.ownsRow.lt h4;have hc:=fun g (hg:nv.ownBlock=some g)=>World.ownsRow.cells h4 hg
 rcases h4.2 with ⟨rfl,h0⟩|⟨g,cap,cur,rfl,_,hgr,hcap,_⟩
 · exact Or.inl ⟨List.eq_nil_of_length_eq_zero h0,none,0,rfl,fun _=>rfl⟩
 · rcases Nat.eq_zero_or_pos ns.length with h0|h0
   · exact Or.inl ⟨List.eq_nil_of_length_eq_zero h0,_,cap,by rw [h0],fun h=>by cases h⟩
   · refine Or.inr ⟨h0,g,0,cap,rfl,⟨(hlt g rfl).1,(hlt g rfl).2,(fun e=>by cases e),_,_,hgr⟩,hcap,fun j x hj=> ?_⟩;have:=hc g rfl j (.string x) (by rw [List.getElem?_map,hj];rfl);have e:(⟨g,0,none⟩:Addr).add j=⟨g,j,none⟩:=by cases j<;>simp [Addr.add]
     rw [e] at this;rw [Nat.zero_add];exact this
structure TP (w:World) (P:Nat→Prop) (k:Int) (b:Bool) (n:Int) (s:ByteArray) (t1 t2:J.T) (ns:List ByteArray) (lv nv:Value) (ca cb:List Value) (W:World):Prop where
 v:W.heap[w.heap.size]? =some (.cells #[.int .u8 k,.bool b,.int .i64 n,.string s,lv,nv] 26 (0,0))
 z:W.heap[w.heap.size+1]? =some (vRow 0 (.slice none 0 0) (.slice none 0 0))
 l:W.ownsRow (w.heap.size+2) 26 6 lv (t1.length+t2.length) (ca++cb)
 a:t1.Cells W (Own2 W (w.heap.size+2) lv.ownBlock nv.ownBlock) ca
 c:t2.Cells W P cb
 n:W.ownsRow (w.heap.size+2) 9 1 nv ns.length (ns.map Value.string)
 g:Below w.heap.size w W
theorem TP.apart {w W:World}{P:Nat→Prop}{k:Int}{b:Bool}{n:Int}{s:ByteArray}{t1 t2:J.T}{ns:List ByteArray}{lv nv:Value}{ca cb:List Value}(h:TP w P k b n s t1 t2 ns lv nv ca cb W) {g:Nat}(h1:lv.ownBlock=some g):nv.ownBlock≠some g:=by
 intro h2;rcases h.l.2 with ⟨rfl,_⟩|⟨g1,cap1,cur1,rfl,_,hg1,_⟩
 · cases h1
 · rcases h.n.2 with ⟨rfl,_⟩|⟨g2,cap2,cur2,rfl,_,hg2,_⟩
   · cases h2
   · simp only [Value.ownBlock,Option.some.injEq] at h1 h2;subst h1 h2;rw [hg1] at hg2;simp at hg2
theorem TP.after {w W W':World}{P:Nat→Prop}{k:Int}{b:Bool}{n:Int}{s:ByteArray}{t1 t2:J.T}{ns:List ByteArray}{lv nv:Value}{ca cb:List Value}(h:TP w P k b n s t1 t2 ns lv nv ca cb W) (hP:∀b,P b→b<w.heap.size) (hb:Below W.heap.size W W'):TP w P k b n s t1 t2 ns lv nv ca cb W':=by
 have hg:W.grownBy W' none:=⟨hb.os,hb.tape,hb.output,hb.size,fun k hk _=>hb.block k hk⟩;have hs:=h.g.size;refine ⟨by rw [hb.block _ (Go.lt_of_block h.v)];exact h.v,by rw [hb.block _ (Go.lt_of_block h.z)];exact h.z,World.ownsRow.kept h.l hg (Classical.em _),?_,?_,World.ownsRow.kept h.n hg (Classical.em _),h.g.trans (hb.mono hs)⟩
 · refine J.T.Cells.keep (P:=Own2 W (w.heap.size+2) lv.ownBlock nv.ownBlock) ?_ (fun b hb'=>hb.block b hb'.2.1) t1 ca h.a;rintro b ⟨h1,h2,h3,h4,cs',T,h5⟩;exact ⟨h1,Nat.lt_of_lt_of_le h2 hb.size,h3,h4,cs',T,by rw [hb.block b h2];exact h5⟩
 · exact J.T.Cells.keep (fun _ h=>h) (fun b hb'=>hb.block b (Nat.lt_of_lt_of_le (hP b hb') hs)) t2 cb h.c
theorem TP.next {w W W':World}{P:Nat→Prop}{k:Int}{b:Bool}{n:Int}{s:ByteArray}{t1 r:J.T}{x:J.V}{ns:List ByteArray}{nv:Value}{ca cr:List Value}{g cap:Nat}{z0 z1 z2 z3 z4 z5 c0 c1 c2 c3 c4 c5:Value}{k1:Nat}
   (h:TP w P k b n s t1 (x.one.app r) ns (.slice (some ⟨g,0,none⟩) (t1.length+(x.one.app r).length) cap) nv ca (z0::z1::z2::z3::z4::z5::cr) W) (hk:t1.length=k1) (hP:∀b,P b→b<w.heap.size) (hr:r.Cells W P cr) {H0:Nat}(hH:w.heap.size+2≤H0) (hlt:g<H0∧(∀j,nv.ownBlock=some j→j<H0))
   (hx:x.Has W (Own W H0 none) [c0,c1,c2,c3,c4,c5]) (hW:W'=st6 W g (k1*6) c0 c1 c2 c3 c4 c5):
   TP w P k b n s (t1.snoc x) r ns (.slice (some ⟨g,0,none⟩) (t1.length+(x.one.app r).length) cap) nv (ca++ [c0,c1,c2,c3,c4,c5]) cr W':=by
 have hca:ca.length=k1*6:=by rw [←hk];exact J.T.Cells.len _ _ h.a
 have hgl:=World.ownsRow.lt h.l g rfl;have hnl:=World.ownsRow.lt h.n;have hs:=h.g.size;obtain ⟨s1,s2⟩:=st6_mid h.l hca c0 c1 c2 c3 c4 c5;rw [←hW] at s1 s2;have hoth:∀b,b≠g→W'.heap[b]? =W.heap[b]? :=fun b hb=>by
   rw [hW];have ho:∀(u:World) (i:Nat) (x:Value),(u.setCell ⟨g,i,none⟩ x).heap[b]? =u.heap[b]? :=fun u i x=>heap_setCell_other u ⟨g,i,none⟩ b x (fun e=>hb (by simp [e]))
   unfold st6;rw [ho,ho,ho,ho,ho,ho]
 have hsz:W'.heap.size=W.heap.size:=by rw [hW];unfold st6;simp [World.setCell]
 have hlen:(t1.snoc x).length+r.length=t1.length+(x.one.app r).length:=by
   unfold J.T.snoc;rw [J.T.app_length,J.T.app_length,Nat.add_assoc]
 refine ⟨by rw [hoth _ (by omega)];exact h.v,by rw [hoth _ (by omega)];exact h.z,?_,?_,?_,World.ownsRow.kept h.n s2 (Or.inr (fun e=>h.apart rfl e)),?_⟩
 · rw [hlen,List.append_assoc];exact s1
 · refine J.T.Cells.app t1 x.one ca _ ?_ (J.T.Cells.one ?_)
   · refine J.T.Cells.keep (P:=Own2 W (w.heap.size+2) (some g) nv.ownBlock) ?_ (fun b hb=>hoth b (fun e=>hb.2.2.1 (by rw [e]))) t1 ca h.a;rintro b ⟨h1,h2,h3,h4,cs',T,h5⟩;exact ⟨h1,by omega,h3,h4,cs',T,by rw [hoth b (fun e=>h3 (by rw [e]))];exact h5⟩
   · have hne:∀b,Own W H0 none b→b≠g:=fun b hb=>by have:=hb.1;omega
     refine J.V.Has.keep (P:=Own W H0 none) ?_ (fun b hb=>hoth b (hne b hb)) hx;intro b hb;have h1:=hne b hb;obtain ⟨h3,h4,_,cs',T,h5⟩:=hb;exact ⟨by omega,by omega,(fun e=>h1 (by simpa [Value.ownBlock] using e.symm)),(fun e=>by have:=hlt.2 b e;omega),cs',T,by rw [hoth b h1];exact h5⟩
 · exact J.T.Cells.keep (fun _ h=>h) (fun b hb=>hoth b (by have:=hP b hb;omega)) r cr hr
 · exact ⟨s2.os.trans h.g.os,s2.tape.trans h.g.tape,s2.output.trans h.g.output,by omega,fun j hj=>by rw [hoth j (by omega)];exact h.g.block j hj⟩
theorem TP.first {w w1 w2 w3:World}{P:Nat→Prop}{k:Int}{b:Bool}{n:Int}{s:ByteArray}{l:J.T}{ns:List ByteArray}{lv nv lv' nv':Value}{cs:List Value}(hb1:Below w.heap.size w w1) (h1s:w1.heap.size=w.heap.size+2) (hz:w1.heap[w.heap.size+1]? =some (vRow 0 (.slice none 0 0) (.slice none 0 0)))
   (h12:Below w1.heap.size w1 w2) (h23:Below w2.heap.size w2 w3) (hn:w2.ownsRow w1.heap.size 9 1 nv' ns.length (ns.map Value.string)) (hl:w3.ownsRow w2.heap.size 26 6 lv' l.length cs) (hc:l.Cells w2 P cs) (hP:∀b,P b→b<w.heap.size)
   (hv:w3.heap[w.heap.size]? =some (.cells #[.int .u8 k,.bool b,.int .i64 n,.string s,lv,nv] 26 (0,0))):TP w P k b n s .nil l ns lv' nv' [] cs ((w3.setCell ⟨w.heap.size,5,none⟩ nv').setCell ⟨w.heap.size,4,none⟩ lv'):=by
 have hg:=(grownBy_set w3 w.heap.size 5 nv').trans (grownBy_set _ w.heap.size 4 lv');have hs12:=h12.size;have hs23:=h23.size;have hb3:Below w.heap.size w w3:=(hb1.trans (h12.mono hb1.size)).trans (h23.mono (by omega));have ho:∀j,j<w3.heap.size→j≠w.heap.size→((w3.setCell ⟨w.heap.size,5,none⟩ nv').setCell ⟨w.heap.size,4,none⟩ lv').heap[j]? =w3.heap[j]? :=fun j h1 h2=>hg.block j h1 (fun e=>h2 (Option.some.inj e))
 have hln:=World.ownsRow.lt hn;have hll:=World.ownsRow.lt hl;refine ⟨row_set (row_set hv 5 _) 4 _,?_,?_,rfl,?_,?_,?_⟩
 · rw [ho _ (by omega) (by omega),h23.block _ (by omega),h12.block _ (by omega)];exact hz
 · rw [show (J.T.nil).length+l.length=l.length from Nat.zero_add _,List.nil_append];exact World.ownsRow.kept (World.ownsRow.mono hl (by omega)) hg (Or.inr fun e=>by have:=(hll _ e).1;omega)
 · exact J.T.Cells.keep (fun _ h=>h) (fun j hj=>by have:=hP j hj;rw [ho j (by omega) (by omega),h23.block j (by omega)]) l cs hc
 · have h3:=World.ownsRow.kept (row:=none) hn ⟨h23.os,h23.tape,h23.output,h23.size,fun k hk _=>h23.block k hk⟩ (Classical.em _);exact World.ownsRow.kept (World.ownsRow.mono h3 (by omega)) hg (Or.inr fun e=>by have:=(hln _ e).1;omega)
 · exact ⟨hg.os.trans hb3.os,hg.tape.trans hb3.tape,hg.output.trans hb3.output,Nat.le_trans hb3.size hg.size,fun j hj=>by have:=hb3.size;rw [ho j (by omega) (by omega)];exact hb3.block j hj⟩
theorem TP.done {w W:World}{P:Nat→Prop}{k:Nat}{b:Bool}{n:Int}{s:ByteArray}{l:J.T}{ns:List ByteArray}{lv nv:Value}{ca cb:List Value}(h:TP w P k b n s l .nil ns lv nv ca cb W) (c0 c1 c2 c3 c4 c5:Value):
  (⟨k,b,n,s,l,ns⟩:J.V).Has (pt6 W (w.heap.size+1) c0 c1 c2 c3 c4 c5) (Own (pt6 W (w.heap.size+1) c0 c1 c2 c3 c4 c5) w.heap.size none) [.int .u8 k,.bool b,.int .i64 n,.string s,lv,nv]:=by
 have hcb:cb= []:=h.c;have hlst:l.In W (Own W (w.heap.size+2) none) lv:=JOwn.is (E:=26) ⟨ca,by have:=h.l;rw [hcb,List.append_nil] at this;exact this,J.T.Cells.keep (fun b hb=>⟨hb.1,hb.2.1,hb.2.2.1,hb.2.2.2.2⟩) (fun _ _=>rfl) l ca h.a⟩;have hnm:=own_SIn h.n;have h0:(⟨k,b,n,s,l,ns⟩:J.V).Has W (Own W (w.heap.size+2) none) [.int .u8 k,.bool b,.int .i64 n,.string s,lv,nv]:=⟨lv,nv,rfl,hlst,hnm⟩;have hne:∀j,Own W (w.heap.size+2) none j→j≠w.heap.size+1:=fun j hj=>by have:=hj.1;omega
 refine J.V.Has.keep ?_ (fun j hj=>pt6_other _ _ _ _ _ _ _ _ _ (hne j hj)) h0;intro j hj;have h1:=hne j hj;obtain ⟨h2,h3,h4,cs,T,h5⟩:=hj;exact ⟨by omega,by rw [pt6_size];exact h3,h4,cs,T,by rw [pt6_other _ _ _ _ _ _ _ _ _ h1];exact h5⟩
theorem T_nil {t:J.T}(h:t.length=0):t= .nil:=by
 cases t with
 | nil=>rfl
 | cons=>simp [J.T.length] at h
def TwinOf (x:J.V) (w:World) (e:Ending) (W:World):Prop:= ∃cs,e= .returned (.agg cs.toArray)∧x.Has W (Own W w.heap.size none) cs∧Below w.heap.size w W
def TwinC (x:J.V):Prop:=x.small→∀(w:World) (P:Nat→Prop) (cs:List Value),x.Has w P cs→(∀b,P b→b<w.heap.size)→Calls Tryz.prog 81 #[.agg cs.toArray] w (TwinOf x w)
theorem twin_ret {w w1 w2:World}{x:J.V}{cs:List Value}{O:Obj}(hv:w1.heap[w.heap.size]? =some O) (hb:Below w.heap.size w w1) (hb2:Below w1.heap.size w1 w2) (hh:x.Has w2 (Own w2 w1.heap.size none) cs) (c0 c1 c2 c3 c4 c5:Value):TwinOf x w (.returned (.agg cs.toArray)) (pt6 w2 w.heap.size c0 c1 c2 c3 c4 c5):=by
 have hlt:=Go.lt_of_block hv;refine ⟨cs,rfl,?_,pt6_below (hb.trans (hb2.mono hb.size)) (Nat.le_refl _) _ _ _ _ _ _⟩;have hne:∀j,Own w2 w1.heap.size none j→j≠w.heap.size:=fun j hj=>by have:=hj.1;omega
 refine J.V.Has.keep ?_ (fun j hj=>pt6_other _ _ _ _ _ _ _ _ _ (hne j hj)) hh;intro j hj;have h1:=hne j hj;obtain ⟨h2,h3,h4,cs',T,h5⟩:=hj;exact ⟨by omega,by rw [pt6_size];exact h3,h4,cs',T,by rw [pt6_other _ _ _ _ _ _ _ _ _ h1];exact h5⟩
theorem twin_step (x:J.V) (hall:x.l.All TwinC):TwinC x:=by
 obtain ⟨k,b,n,s,l,ns⟩:=x;intro hsm w P cs hhas hPP;obtain ⟨hs1,hs2,hs3⟩:=hsm;obtain ⟨lv,nv,rfl,hl,hn⟩:=hhas;have hl:l.In w P lv:=hl;have hn:J.SIn w P ns nv:=hn;obtain ⟨la,lc,rfl⟩:=hl.shape;obtain ⟨na,nc,rfl⟩:=hn.shape;have HL:=hid hl;have HN:=hid hn;have HPP:=hid hPP;have HALL:=hid hall;have HSM:=hid hs3;simp only at hs1 hs2;clear hl hn hPP hall hs3;go_enter Tryz.func81,Tryz.ntmps81;go_upto_region 1 with fail;obtain ⟨w1,hw1⟩:∃w1,(w.alloc (.cells #[.int .u8 k,.bool b,.int .i64 n,.string s,.slice la l.length lc,.slice na ns.length nc] 26)).alloc (.cells #[.int .u8 0,.bool false,.int .i64 0,.string ⟨#[]⟩,.slice none 0 0,.slice none 0 0] 26)=w1:=⟨_,rfl⟩;have HV1:Hid (w1.heap[w.heap.size]? =some (.cells #[.int .u8 k,.bool b,.int .i64 n,.string s,.slice la l.length lc,.slice na ns.length nc] 26 (0,0))):=by
  show _=_;rw [←hw1,Lib.alloc_old _ _ _ (by simp)];exact heap_alloc_new w _
 have HZ1:Hid (w1.heap[w.heap.size+1]? =some (vRow 0 (.slice none 0 0) (.slice none 0 0))):=by
  show _=_;have:=heap_alloc_new (w.alloc (.cells #[.int .u8 k,.bool b,.int .i64 n,.string s,.slice la l.length lc,.slice na ns.length nc] 26)) (.cells #[.int .u8 0,.bool false,.int .i64 0,.string ⟨#[]⟩,.slice none 0 0,.slice none 0 0] 26);rw [show (w.alloc (.cells #[.int .u8 k,.bool b,.int .i64 n,.string s,.slice la l.length lc,.slice na ns.length nc] 26)).heap.size=w.heap.size+1 by simp] at this;rw [←hw1];exact this
 have HB1:Hid (Below w.heap.size w w1):=by show Below _ _ _;rw [←hw1];exact ((Below.refl _ w).alloc (Nat.le_refl _) _).alloc (by simp) _
 have H1S:Hid (w1.heap.size=w.heap.size+2):=by show _=_;rw [←hw1];simp
 rw [hw1];clear hw1;refine wp_region_till (S:=(fun W:World=>W.heap[w.heap.size]? =some (.cells #[.int .u8 k,.bool b,.int .i64 n,.string s,.slice la l.length lc,.slice na ns.length nc] 26 (0,0)))) 7 (by kernel_rfl) ?_;have HS:=hid (show ((fun W:World=>W.heap[w.heap.size]? =some (.cells #[.int .u8 k,.bool b,.int .i64 n,.string s,.slice la l.length lc,.slice na ns.length nc] 26 (0,0)))) _ from HV1.out);refine tillA 0 (fun _=>HS.out) ?_;refine tillA 3 (fun _=>HS.out) ?_;refine tillL 1 [1,7] (v:= ?v10) HS.out ?hy10 ?_
 case hy10=>
  intro w hSw;obtain ⟨x0,x1,x2,x3,x4,x5⟩:=x6_of hSw;clear hSw;go_simp;try with_reducible rfl
 refine tillL 4 [4,7] (v:= ?v11) HS.out ?hy11 ?_
 case hy11=>
  intro w hSw;obtain ⟨x0,x1,x2,x3,x4,x5⟩:=x6_of hSw;clear hSw;go_simp;try with_reducible rfl
 refine tillD1 2 (fun K hK=> ?step12)
 case step12=>
  go_simp;refine (cloneS_any (P:=P) (ns:=ns) (J.SIn.keep (w':=w1.drew) (fun _ h=>h) (fun b hb=>HB1.out.drew.block b (HPP.out b hb)) HN.out) (by omega)).mono ?_;rintro e w2 ⟨nv',rfl,hown,hb⟩;have HN2:=hid hown;have HS2:=hid (from_drew hb);have HB2:=hid (HB1.out.trans (Below.mono HS2.out HB1.out.size));clear hown hb;try dsimp only
  refine hK.out _ _ (fun _=>((HS2.out.block _ (Go.lt_of_block HV1.out)).trans HV1.out)) (fun hHeld=> ?_);have HS12:=hid (hHeld (by kernel_rfl));clear hHeld hK K;refine tillA 6 (fun _=>HS12.out) ?_;refine tillD1 5 (fun K hK=> ?step14)
  case step14=>
   go_simp;refine (cloneL_any (P:=P) (t:=l) (J.T.In.keep (fun _ h=>h) (fun b hb=>HB2.out.block b (HPP.out b hb)) HL.out) (by omega)).mono ?_;rintro e w3 ⟨lv',cs,rfl,hown,hcs,hb⟩;have HL3:=hid hown;have HC3:=hid hcs;have HS3:=hid hb;clear hown hcs hb;obtain ⟨la',lc',rfl⟩:=own_shape HL3.out;obtain ⟨na',nc',rfl⟩:=own_shape HN2.out;have hv3:w3.heap[w.heap.size]? =some (.cells #[.int .u8 k,.bool b,.int .i64 n,.string s,.slice la l.length lc,.slice na ns.length nc] 26 (0,0)):=(HS3.out.block _ (Nat.lt_of_lt_of_le (Go.lt_of_block HV1.out) HS2.out.size)).trans ((HS2.out.block _ (Go.lt_of_block HV1.out)).trans HV1.out);have HV3:=hid hv3;obtain ⟨x0,x1,x2,x3,x4,x5⟩:=x6_of hv3;obtain ⟨-, -, -, -,f4,f5⟩:=vfree hv3;clear hv3;try dsimp only
   refine hK.out _ _ (fun _=>HV3.out) (fun hHeld=> ?_);have HS14:=hid (hHeld (by kernel_rfl));clear hHeld hK K;refine tillD1 7 (fun K hK=> ?step15)
   case step15=>
    go_simp;refine hK.out _ _ (fun hk=>by cases (show true=false from hk)) (fun _=> ?_);clear hK K;refine tillA 8 (fun hk=>by cases (show true=false from hk)) ?_;refine tillD1 9 (fun K hK=> ?step17)
    case step17=>
     go_simp;refine hK.out _ _ (fun hk=>by cases (show true=false from hk)) (fun _=> ?_);clear hK K;refine wpTill_done (by kernel_rfl) ?_ _;have HT:=hid (TP.first HB1.out H1S.out HZ1.out HS2.out HS3.out HN2.out HL3.out HC3.out HPP.out HV3.out);clear HN2 HL3 HC3 HV3 HS3 HS2 HB2 HB1 HV1 HZ1 H1S x0 x1 x2 x3 x4 x5 f4 f5;generalize World.setCell (World.setCell w3 _ _) _ _=w4 at*;obtain ⟨len,hlen⟩:∃len,l.length=len:=⟨_,rfl⟩;rw [hlen] at HT hs1 ⊢;have HLEN:=hid hlen;obtain ⟨x0,x1,x2,x3,x4,x5⟩:=x6_of HT.out.v;clear hlen;go_wp2_with fail;clear x0 x1 x2 x3 x4 x5;go_loopw [16] (fun vi wr=> ∃(i:Nat),i≤len∧vi= .int .i64 i∧∃(t1 t2:J.T) (ca cb:List Value),Hid (t1.app t2=l∧t1.length=i)∧Hid (TP w P k b n s t1 t2 ns (.slice la' len lc') (.slice na' ns.length nc') ca cb wr)) (fun vi _=>len-(intOf vi).toNat)
     case atStart=>exact ⟨0,Nat.zero_le _,rfl,.nil,l,[],cs,hid ⟨rfl,rfl⟩,HT⟩
     case round=>
      obtain ⟨i,hi,rfl,t1,t2,ca,cb,HA,HI⟩:=hrel;clear HT;by_cases hlt:i<len
      · have d0:decide ((i:Int)<(len:Int))=true:=decide_eq_true (by omega);have d1:decide (i<len)=true:=decide_eq_true (by omega);have hlen2:t1.length+t2.length=len:=by rw [←HLEN.out,←HA.out.1,J.T.app_length]
        cases t2 with
        | nil=>have:=HA.out.2;simp [J.T.length] at hlen2;omega
        | cons k1 b1 n1 s1 l1 ns1 r=>
          obtain ⟨lv1,nv1,cr,hcb,hl1,hn1,hcr⟩:=HI.out.c;subst hcb;obtain ⟨al,cl,rfl⟩:=hl1.shape;obtain ⟨an,cn,rfl⟩:=hn1.shape;have hca:ca.length=i*6:=by rw [←HA.out.2];exact J.T.Cells.len _ _ HI.out.a
          obtain ⟨g,rfl⟩:∃g,la'=some ⟨g,0,none⟩:=by
           rcases HI.out.l.2 with ⟨h1,h2⟩|⟨g,cap,cur,h1,_⟩
           · omega
           · simp only [Value.slice.injEq] at h1;exact ⟨g,h1.1⟩
          have hrow:=HI.out.l;rw [hlen2] at hrow;have hc:∀(W:World) (hr:W.ownsRow (w.heap.size+2) 26 6 (.slice (some ⟨g,0,none⟩) len lc') len (ca++(.int .u8 k1:: .bool b1:: .int .i64 n1:: .string s1:: .slice al l1.length cl:: .slice an ns1.length cn::cr))),
             W.cell? ⟨g,i*6,none⟩=some (.int .u8 k1)∧W.cell? ⟨g,i*6+1,none⟩=some (.bool b1)∧W.cell? ⟨g,i*6+2,none⟩=some (.int .i64 n1)∧W.cell? ⟨g,i*6+3,none⟩=some (.string s1)∧W.cell? ⟨g,i*6+4,none⟩=some (.slice al l1.length cl)∧W.cell? ⟨g,i*6+5,none⟩=some (.slice an ns1.length cn):=fun W hr=>by
           have hx:∀q,q<6→W.cell? ⟨g,i*6+q,none⟩=(Value.int .u8 k1:: .bool b1:: .int .i64 n1:: .string s1:: .slice al l1.length cl:: .slice an ns1.length cn::cr)[q]? :=fun q hq=>by
             rw [World.ownsRow.cellAt hr (i*6+q) (by omega),List.getElem?_append_right (by omega),hca];congr 1;omega
           exact ⟨hx 0 (by omega),hx 1 (by omega),hx 2 (by omega),hx 3 (by omega),hx 4 (by omega),hx 5 (by omega)⟩
          have HCC:=hid hc;obtain ⟨y0,y1,y2,y3,y4,y5⟩:=hc wr hrow;have HH1:=hid (show l1.In wr P _∧J.SIn wr P ns1 _∧r.Cells wr P cr from ⟨hl1,hn1,hcr⟩);have HL2:=hid hlen2;have HCA:=hid hca;have hall2:=(J.T.All.app (p:=TwinC) t1 (.cons k1 b1 n1 s1 l1 ns1 r) (by rw [HA.out.1];exact HALL.out)).2;have HE1:Hid (TwinC ⟨k1,b1,n1,s1,l1,ns1⟩):=hall2.1;have hsm2:=(J.T.small_app t1 (.cons k1 b1 n1 s1 l1 ns1 r) (by rw [HA.out.1];exact HSM.out)).2;have HES:Hid (J.V.small ⟨k1,b1,n1,s1,l1,ns1⟩):=hsm2.1;clear hall2 hsm2;have hi0:(0:Int)≤(i:Int):=by omega
          have hi1:(i:Int)<(len:Int):=by omega
          clear hc hrow hl1 hn1 hcr hlen2 hca;go_upto_region 5 with fail;obtain ⟨w5,hw5⟩:∃w5,wr.alloc (.cells #[.int .u8 k1,.bool b1,.int .i64 n1,.string s1,.slice al l1.length cl,.slice an ns1.length cn] 26)=w5:=⟨_,rfl⟩;obtain ⟨X,hX⟩:∃X,wr.heap.size=X:=⟨_,rfl⟩;have HB5:Hid (Below wr.heap.size wr w5):=by show Below _ _ _;rw [←hw5];exact (Below.refl _ wr).alloc (Nat.le_refl _) _
          have HX5:Hid (w5.heap[X]? =some (.cells #[.int .u8 k1,.bool b1,.int .i64 n1,.string s1,.slice al l1.length cl,.slice an ns1.length cn] 26 (0,0))):=by show _=_;rw [←hw5,←hX];exact heap_alloc_new wr _
          have HT5:=hid (HI.out.after HPP.out HB5.out);have HLT5:=hid (show g<w5.heap.size∧(∀j,(Value.slice na' ns.length nc').ownBlock=some j→j<w5.heap.size) from ⟨(World.ownsRow.lt HT5.out.l g rfl).2,fun j hj=>(World.ownsRow.lt HT5.out.n j hj).2⟩);rw [hw5,hX];clear hw5 hX y0 y1 y2 y3 y4 y5;refine wp_region_till (S:=(fun W:World=>W.heap[w.heap.size]? =some (.cells #[.int .u8 k,.bool b,.int .i64 n,.string s,.slice (some ⟨g,0,none⟩) len lc',.slice na' ns.length nc'] 26 (0,0))∧W.heap[X]? =some (.cells #[.int .u8 k1,.bool b1,.int .i64 n1,.string s1,.slice al l1.length cl,.slice an ns1.length cn] 26 (0,0)))) 6 (by kernel_rfl) ?_;have HS:=hid (show ((fun W:World=>W.heap[w.heap.size]? =some (.cells #[.int .u8 k,.bool b,.int .i64 n,.string s,.slice (some ⟨g,0,none⟩) len lc',.slice na' ns.length nc'] 26 (0,0))∧W.heap[X]? =some (.cells #[.int .u8 k1,.bool b1,.int .i64 n1,.string s1,.slice al l1.length cl,.slice an ns1.length cn] 26 (0,0)))) _ from ⟨HT5.out.v,HX5.out⟩);refine tillA 0 (fun _=>HS.out) ?_;refine tillA 2 (fun _=>HS.out) ?_;refine tillL 1 [1,6] (v:= ?v3) HS.out ?hy3 ?_
          case hy3=>
           intro w hSw;obtain ⟨x0,x1,x2,x3,x4,x5⟩:=x6_of hSw.1;clear hSw;go_simp;try with_reducible rfl
          refine tillL 3 [3,6] (v:= ?v4) HS.out ?hy4 ?_
          case hy4=>
           intro w hSw;obtain ⟨x0,x1,x2,x3,x4,x5⟩:=x6_of hSw.2;clear hSw;go_simp;try with_reducible rfl
          refine tillD1 4 (fun K hK=> ?step5)
          case step5=>
           go_simp;refine (HE1.out HES.out w5.drew P [.int .u8 k1,.bool b1,.int .i64 n1,.string s1,.slice al l1.length cl,.slice an ns1.length cn] ⟨_,_,rfl,J.T.In.keep (w':=w5.drew) (fun _ h=>h) (fun j hj=>HB5.out.drew.block j (Nat.lt_of_lt_of_le (HPP.out j hj) HI.out.g.size)) HH1.out.1,J.SIn.keep (w':=w5.drew) (fun _ h=>h) (fun j hj=>HB5.out.drew.block j (Nat.lt_of_lt_of_le (HPP.out j hj) HI.out.g.size)) HH1.out.2.1⟩ (fun j hj=>Nat.lt_of_lt_of_le (HPP.out j hj) HT5.out.g.size)).mono ?_;rintro e w6 ⟨cs',rfl,hh,hb⟩;obtain ⟨k2,b2,n2,s2,a1,l2,c1,a2,m2,c2,rfl⟩:=Shape.of hh;have HB6:=hid (from_drew hb);have HT6:=hid (HT5.out.after HPP.out HB6.out);have HH6:=hid hh;have hrow:=HT6.out.l;rw [HL2.out] at hrow;obtain ⟨y0,y1,y2,y3,y4,y5⟩:=HCC.out w6 hrow;have g0:=World.ownsRow.frozenAt hrow (i*6);have g1:=World.ownsRow.frozenAt hrow (i*6+1);have g2:=World.ownsRow.frozenAt hrow (i*6+2);have g3:=World.ownsRow.frozenAt hrow (i*6+3);have g4:=World.ownsRow.frozenAt hrow (i*6+4);have g5:=World.ownsRow.frozenAt hrow (i*6+5);clear hh hb hrow;try dsimp only
           refine hK.out _ _ (fun _=>⟨HT6.out.v,(HB6.out.block _ (Go.lt_of_block HX5.out)).trans HX5.out⟩) (fun hHeld=> ?_);have HS5:=hid (hHeld (by kernel_rfl));clear hHeld hK K;refine tillA 5 (fun _=>HS5.out) ?_;refine tillD1 6 (fun K hK=> ?step7)
           case step7=>
             go_simp;refine hK.out _ _ (fun hk=>by cases (show true=false from hk)) (fun _=> ?_);clear hK K;refine wpTill_done (by kernel_rfl) ?_ _;clear y0 y1 y2 y3 y4 y5 g0 g1 g2 g3 g4 g5;go_wp2_with fail;go_roundw
             case rel=>
              refine ⟨i+1,by omega,by go_num,t1.snoc ⟨k1,b1,n1,s1,l1,ns1⟩,r,ca++ [.int .u8 k2,.bool b2,.int .i64 n2,.string s2,.slice a1 l2 c1,.slice a2 m2 c2],cr,hid ⟨?_,?_⟩,?_⟩
              · rw [←HA.out.1];unfold J.T.snoc;rw [J.T.app_assoc];rfl
              · rw [J.T.snoc_length,HA.out.2]
              · show TP _ _ _ _ _ _ _ _ _ _ _ _ _ _;have h7:=HL2.out;rw [←h7];refine TP.next (x:=⟨k1,b1,n1,s1,l1,ns1⟩) (r:=r) (z0:= .int .u8 k1) (z1:= .bool b1) (z2:= .int .i64 n1) (z3:= .string s1) (z4:= .slice al l1.length cl) (z5:= .slice an ns1.length cn) (by have h8:t1.length+((J.V.one ⟨k1,b1,n1,s1,l1,ns1⟩).app r).length=len:=h7;rw [h8];exact HT6.out) HA.out.2 HPP.out (J.T.Cells.keep (fun _ h=>h) (fun j hj=>(HB6.out.block j (Nat.lt_of_lt_of_le (HPP.out j hj) HT5.out.g.size)).trans (HB5.out.block j (Nat.lt_of_lt_of_le (HPP.out j hj) HI.out.g.size))) r cr HH1.out.2.2) (H0:=w5.drew.heap.size) (by have:=HT5.out.g.size;have:=Go.lt_of_block HT5.out.z;show _≤w5.heap.size;omega) HLT5.out HH6.out ?_;with_reducible rfl
             case measure=>simp [intOf];omega
      · have d0:decide ((i:Int)<(len:Int))=false:=decide_eq_false (by omega);have d1:decide (i<len)=false:=decide_eq_false (by omega);have hi2:i=len:=by omega
        have ht2:t2= .nil:=T_nil (by have:=HA.out.2;have:=HLEN.out;rw [←HA.out.1,J.T.app_length] at this;omega);subst ht2;have hl:t1=l:=by rw [←HA.out.1,J.T.app_nil]
        rw [hl] at HI;clear HA hl hi2 hlt;obtain ⟨x0,x1,x2,x3,x4,x5⟩:=x6_of HI.out.v;obtain ⟨z0,z1,z2,z3,z4,z5⟩:=vcells (k:=0) HI.out.z;obtain ⟨f0,f1,f2,f3,f4,f5⟩:=vfree HI.out.z;go_wp2_with fail;exact bodyPost_ret (v:= .agg #[.int .u8 k,.bool b,.int .i64 n,.string s,.slice la' len lc',.slice na' ns.length nc']) (results_cell_row rfl _ _ (w.heap.size+1) 26 _ (0,0) _ rfl (pt6_row HI.out.z _ _ _ _ _ _) Tryz.underlying26 rfl infoJSON) rfl ⟨_,rfl,HI.out.done _ _ _ _ _ _,pt6_below HI.out.g (by omega) _ _ _ _ _ _⟩
theorem twin_any (x:J.V):TwinC x:=J.V.of twin_step x
theorem list_any {l:J.T}(h1:l.length≤100000000000) (h2:l.small) {w:World}{P:Nat→Prop}{lv:Value}(hl:l.In w P lv) (hP:∀b,P b→b<w.heap.size):
  Calls Tryz.prog 39 #[lv] w (TwinOf ⟨5,false,0,⟨#[]⟩,l,[]⟩ w):=by
 obtain ⟨la,lc,rfl⟩:=hl.shape;obtain ⟨w1,hw1⟩:∃w1,w.alloc (.cells #[.int .u8 0,.bool false,.int .i64 0,.string ⟨#[]⟩,.slice none 0 0,.slice none 0 0] 26)=w1:=⟨_,rfl⟩;have hb:Below w.heap.size w w1:=by rw [←hw1];exact (Below.refl _ w).alloc (Nat.le_refl _) _
 have hv:w1.heap[w.heap.size]? =some (vRow 0 (.slice none 0 0) (.slice none 0 0)):=by rw [←hw1];exact heap_alloc_new w _
 have hT:=twin_any ⟨5,false,0,⟨#[]⟩,l,[]⟩ ⟨h1,Nat.zero_le _,h2⟩ w1 P [.int .u8 5,.bool false,.int .i64 0,.string ⟨#[]⟩,.slice la l.length lc,.slice none 0 0] ⟨_,_,rfl,J.T.In.keep (fun _ h=>h) (fun b h=>hb.block b (hP b h)) hl,Or.inl ⟨rfl,none,0,rfl,fun _=>rfl⟩⟩ (fun b h=>Nat.lt_of_lt_of_le (hP b h) hb.size);have HB:=hid hb;have HV:=hid hv;clear hb hv hl;go_enter Tryz.func39,Tryz.ntmps39;go_upto_region 1 with fail;clear hw1;go_wp2_with fail;refine hT.mono ?_;rintro e w2 ⟨cs,rfl,hh,hb2⟩;clear hT;obtain ⟨k2,b2,n2,s2,a1,l2,c1,a2,m2,c2,rfl⟩:=Shape.of hh;have hv2:w2.heap[w.heap.size]? =some (vRow 0 (.slice none 0 0) (.slice none 0 0)):=by rw [hb2.block _ (Go.lt_of_block HV.out)];exact HV.out
 have HV2:=hid hv2;have HH:=hid hh;have HB2:=hid hb2;obtain ⟨v0,v1,v2,v3,v4,v5⟩:=vcells hv2;obtain ⟨f0,f1,f2,f3,f4,f5⟩:=vfree hv2;clear hv2 hh hb2;go_wp2_with fail;exact bodyPost_ret (v:= .agg #[.int .u8 k2,.bool b2,.int .i64 n2,.string s2,.slice a1 l2 c1,.slice a2 m2 c2]) (results_cell_row rfl _ _ w.heap.size 26 _ (0,0) _ rfl (pt6_row HV2.out _ _ _ _ _ _) Tryz.underlying26 rfl infoJSON) rfl (twin_ret HV.out HB.out HB2.out HH.out _ _ _ _ _ _)
namespace J
theorem deepT_app:∀(a b:T),deepT (a.app b)=max (deepT a) (deepT b)
 | .nil,b=>by simp [T.app,deepT]
 | .cons k _ _ _ l _ r,b=>by simp only [T.app,deepT,deepT_app r b];omega
theorem deepT_snoc (a:T) (x:V):deepT (a.snoc x)=max (deepT a) x.deep:=by
 unfold T.snoc;rw [deepT_app];unfold V.one V.deep;simp only [deepT];omega
theorem deepT_cons (a r:T) (x:V):x.deep≤deepT (a.app (x.one.app r)):=by
 rw [deepT_app,deepT_app];unfold V.one V.deep;simp only [deepT];omega
end J
structure AP (w:World) (P:Nat→Prop) (O:Obj) (t:J.T) (g o:Nat) (W:World):Prop where
 v:W.heap[w.heap.size]? =some O
 c:t≠ .nil→t.At W P g o
 b:Below w.heap.size w W
theorem AP.after {w W W':World}{P:Nat→Prop}{O:Obj}{t:J.T}{g o:Nat}(h:AP w P O t g o W) (hP:∀b,P b→b<w.heap.size) (hb:Below W.heap.size W W'):AP w P O t g o W':=
 ⟨by rw [hb.block _ (Go.lt_of_block h.v)];exact h.v,fun hne=>J.T.At.keep (fun _ h=>h) (fun b hb'=>hb.block b (Nat.lt_of_lt_of_le (hP b hb') h.b.size)) _ _ _ (h.c hne),h.b.trans (hb.mono h.b.size)⟩
theorem AP.head {w W:World}{P:Nat→Prop}{O:Obj}{k:Nat}{b:Bool}{n:Int}{s:ByteArray}{l:J.T}{ns:List ByteArray}{r:J.T}{g o:Nat}(h:AP w P O (.cons k b n s l ns r) g o W):
  ∃(al:Option Addr) (cl:Nat) (an:Option Addr) (cn:Nat),W.cell? ⟨g,o,none⟩=some (.int .u8 k)∧W.cell? ⟨g,o+1,none⟩=some (.bool b)∧W.cell? ⟨g,o+2,none⟩=some (.int .i64 n)∧W.cell? ⟨g,o+3,none⟩=some (.string s)∧W.cell? ⟨g,o+4,none⟩=some (.slice al l.length cl)∧W.cell? ⟨g,o+5,none⟩=some (.slice an ns.length cn)∧
    (⟨k,b,n,s,l,ns⟩:J.V).Has W P [.int .u8 k,.bool b,.int .i64 n,.string s,.slice al l.length cl,.slice an ns.length cn]∧AP w P O r g (o+6) W:=by
 obtain ⟨hv,hc,hb⟩:=h;obtain ⟨_,h0,h1,h2,h3,⟨lv,h4,hl⟩,⟨nv,h5,hn⟩,hr⟩:=hc (fun h=>by cases h);have hl':l.In W P lv:=by
  rcases hl with hl|⟨g',o',c,h6,h7,h8,h9⟩
  · exact Or.inl hl
  · exact Or.inr ⟨g',o',c,h6,h7,h8,h9⟩
 obtain ⟨al,cl,rfl⟩:=hl'.shape;obtain ⟨an,cn,rfl⟩:=hn.shape;exact ⟨al,cl,an,cn,h0,h1,h2,h3,h4,h5,⟨_,_,rfl,hl',hn⟩,hv,fun _=>hr,hb⟩
theorem in_addr {w:World}{P:Nat→Prop}{l:J.T}{a:Option Addr}{c:Nat}(h:l.In w P (.slice a l.length c)):∃g o,l≠ .nil→a=some ⟨g,o,none⟩∧l.length≤c∧l.At w P g o:=by
 rcases h with ⟨h,_⟩|⟨g,o,c',h1,h2,h3,h4⟩
 · exact ⟨0,0,fun hne=>absurd h hne⟩
 · simp only [Value.slice.injEq] at h1;obtain ⟨rfl,_,rfl⟩:=h1;exact ⟨g,o,fun _=>⟨rfl,h2,h4⟩⟩
def DepthC (x:J.V):Prop:=x.small→x.deep≤1000000000→∀(w:World) (P:Nat→Prop) (cs:List Value),x.Has w P cs→(∀b,P b→b<w.heap.size)→Calls Tryz.prog 42 #[.agg cs.toArray] w fun e w'=>e= .returned (.int .i64 x.deep)∧Below w.heap.size w w'
theorem depth_flat (x:J.V) (h5:x.k≠5) (h6:x.k≠6):DepthC x:=by
 obtain ⟨k,b,n,s,l,ns⟩:=x;intro hsm hd w P cs hhas hPP;obtain ⟨lv,nv,rfl,hl,hn⟩:=hhas;have hl:l.In w P lv:=hl;have hn:J.SIn w P ns nv:=hn;obtain ⟨la,lc,rfl⟩:=hl.shape;obtain ⟨na,nc,rfl⟩:=hn.shape;have hdp:(⟨k,b,n,s,l,ns⟩:J.V).deep=0:=by unfold J.V.deep;rw [if_neg (by simp only at h5 h6 ⊢;omega)]
 rw [hdp];have t5:((k:Int) !=5)=true:=by rw [bne_iff_ne];simp only at h5;omega
 have t6:((k:Int) !=6)=true:=by rw [bne_iff_ne];simp only at h6;omega
 clear hl hn hd hdp h5 h6;go_enter Tryz.func42,Tryz.ntmps42;go_wp2_with fail;go_ret;exact ⟨rfl,(Below.refl _ w).alloc (Nat.le_refl _) _⟩
theorem depth_list (x:J.V) (hk:x.k=5∨x.k=6) (hall:x.l.All DepthC):DepthC x:=by
 obtain ⟨k,b,n,s,l,ns⟩:=x;intro hsm hd w P cs hhas hPP;obtain ⟨hs1,hs2,hs3⟩:=hsm;obtain ⟨lv,nv,rfl,hl,hn⟩:=hhas;have hl:l.In w P lv:=hl;have hn:J.SIn w P ns nv:=hn;obtain ⟨la,lc,rfl⟩:=hl.shape;obtain ⟨na,nc,rfl⟩:=hn.shape;obtain ⟨g,o,hgo⟩:=in_addr hl;have hdp:(⟨k,b,n,s,l,ns⟩:J.V).deep=J.deepT l+1:=by unfold J.V.deep;rw [if_pos hk]
 rw [hdp] at hd ⊢;have tk:(((k:Int) !=5)=true∧((k:Int) !=6)=false)∨((k:Int) !=5)=false:=by
  simp only at hk;rcases hk with rfl|rfl
  · right;rfl
  · left;exact ⟨rfl,rfl⟩
 obtain ⟨DP,hDP⟩:∃d,J.deepT l=d:=⟨_,rfl⟩;rw [hDP] at hd ⊢;obtain ⟨w1,hw1⟩:∃w1,w.alloc (.cells #[.int .u8 k,.bool b,.int .i64 n,.string s,.slice la l.length lc,.slice na ns.length nc] 26)=w1:=⟨_,rfl⟩;have hb1:Below w.heap.size w w1:=by rw [←hw1];exact (Below.refl _ w).alloc (Nat.le_refl _) _
 have hv1:w1.heap[w.heap.size]? =some (.cells #[.int .u8 k,.bool b,.int .i64 n,.string s,.slice la l.length lc,.slice na ns.length nc] 26 (0,0)):=by rw [←hw1];exact heap_alloc_new w _
 have HT:Hid (AP w P (.cells #[.int .u8 k,.bool b,.int .i64 n,.string s,.slice la l.length lc,.slice na ns.length nc] 26 (0,0)) l g (o+0*6) w1):=⟨hv1,fun hne=>by rw [Nat.zero_mul,Nat.add_zero];exact J.T.At.keep (fun _ h=>h) (fun b hb=>hb1.block b (hPP b hb)) _ _ _ (hgo hne).2.2,hb1⟩;obtain ⟨x0,x1,x2,x3,x4,x5⟩:=x6_of hv1;obtain ⟨len,hlen⟩:∃len,l.length=len:=⟨_,rfl⟩;have HGO:=hid hgo;simp only at hs1;rw [hlen] at HT hs1 HGO x4 hw1 ⊢;have HW1:=hid hw1;have HLEN:=hid hlen;have HDP:=hid hDP;have HPP:=hid hPP;have HALL:=hid hall;have HSM:=hid hs3;have hlen2:l.length=len:=hlen;clear hl hn hgo hdp hb1 hv1 hlen hlen2 hw1 hDP hPP hall hs3 hk;have go:∀(t2:((k:Int) !=5)=true∧((k:Int) !=6)=false∨((k:Int) !=5)=false),Calls Tryz.prog 42 #[.agg #[.int .u8 k,.bool b,.int .i64 n,.string s,.slice la len lc,.slice na ns.length nc]] w fun e w'=>e= .returned (.int .i64 ((DP+1:Nat):Int))∧Below w.heap.size w w':=by
  intro tt;rcases tt with ⟨t5,t6⟩|t5;all_goals
    clear tk;go_enter Tryz.func42,Tryz.ntmps42;go_upto_region 1 with fail;rw [HW1.out];clear HW1;go_wp2_with fail;clear x0 x1 x2 x3 x4 x5;go_loopw [3,17] (fun vn vi wr=> ∃(i:Nat),i≤len∧vi= .int .i64 i∧∃(t1 t2:J.T) (m:Nat),vn= .int .i64 m∧m≤DP∧Hid (J.deepT t1=m)∧Hid (t1.app t2=l∧t1.length=i)∧Hid (AP w P (.cells #[.int .u8 k,.bool b,.int .i64 n,.string s,.slice la len lc,.slice na ns.length nc] 26 (0,0)) t2 g (o+i*6) wr)) (fun _ vi _=>len-(intOf vi).toNat)
    case atStart=>exact ⟨0,Nat.zero_le _,rfl,.nil,l,0,rfl,Nat.zero_le _,rfl,hid ⟨rfl,rfl⟩,HT⟩
    case round=>
     obtain ⟨i,hi,rfl,t1,t2,m,rfl,hm,HM,HA,HI⟩:=hrel;clear HT;by_cases hlt:i<len
     · have d0:decide ((i:Int)<(len:Int))=true:=decide_eq_true (by omega);have d1:decide (i<len)=true:=decide_eq_true (by omega);have hlen2:t1.length+t2.length=len:=by rw [←HLEN.out,←HA.out.1,J.T.app_length]
       cases t2 with
       | nil=>have:=HA.out.2;simp [J.T.length] at hlen2;omega
       | cons k1 b1 v1 s1 l1 ns1 r=>
         obtain ⟨al,cl,an,cn,y0,y1,y2,y3,y4,y5,hh,hrest⟩:=HI.out.head;obtain ⟨hga,hgc, -⟩:=HGO.out (fun h=>by have:=HLEN.out;rw [h] at this;simp [J.T.length] at this;omega);subst hga;have hdx:(⟨k1,b1,v1,s1,l1,ns1⟩:J.V).deep≤DP:=by
          rw [←HDP.out,←HA.out.1];exact J.deepT_cons t1 r ⟨k1,b1,v1,s1,l1,ns1⟩
         have HC:=hid (show DepthC ⟨k1,b1,v1,s1,l1,ns1⟩ from (J.T.All.app (p:=DepthC) t1 (.cons k1 b1 v1 s1 l1 ns1 r) (by rw [HA.out.1];exact HALL.out)).2.1);have HES:=hid (show J.V.small ⟨k1,b1,v1,s1,l1,ns1⟩ from (J.T.small_app t1 (.cons k1 b1 v1 s1 l1 ns1 r) (by rw [HA.out.1];exact HSM.out)).2.1);have HH:=hid hh;have HRE:=hid hrest;obtain ⟨dx,hdx'⟩:∃dx,(⟨k1,b1,v1,s1,l1,ns1⟩:J.V).deep=dx:=⟨_,rfl⟩;rw [hdx'] at hdx;have HDX:=hid hdx';have hi0:(0:Int)≤(i:Int):=by omega
         have hi1:(i:Int)<(len:Int):=by omega
         clear hh hrest hlen2 hdx';go_upto_region 7 with fail;obtain ⟨w5,hw5⟩:∃w5,wr.alloc (.cells #[.int .u8 k1,.bool b1,.int .i64 v1,.string s1,.slice al l1.length cl,.slice an ns1.length cn] 26)=w5:=⟨_,rfl⟩;obtain ⟨X,hX⟩:∃X,wr.heap.size=X:=⟨_,rfl⟩;have HB5:Hid (Below wr.heap.size wr w5):=by show Below _ _ _;rw [←hw5];exact (Below.refl _ wr).alloc (Nat.le_refl _) _
         have hx5:w5.heap[X]? =some (.cells #[.int .u8 k1,.bool b1,.int .i64 v1,.string s1,.slice al l1.length cl,.slice an ns1.length cn] 26 (0,0)):=by rw [←hw5,←hX];exact heap_alloc_new wr _
         rw [hw5,hX];clear hw5 hX y0 y1 y2 y3 y4 y5;obtain ⟨y0,y1,y2,y3,y4,y5⟩:=x6_of hx5;clear hx5;have cD:=HC.out HES.out (by rw [HDX.out];omega) w5 P [.int .u8 k1,.bool b1,.int .i64 v1,.string s1,.slice al l1.length cl,.slice an ns1.length cn] (J.V.Has.keep (fun _ h=>h) (fun j hj=>HB5.out.block j (Nat.lt_of_lt_of_le (HPP.out j hj) HI.out.b.size)) HH.out) (fun j hj=>Nat.lt_of_lt_of_le (Nat.lt_of_lt_of_le (HPP.out j hj) HI.out.b.size) HB5.out.size);rw [HDX.out] at cD;go_wp2_with fail;refine cD.mono ?_;rintro e w6 ⟨rfl,hb6⟩;have HR6:=hid ((HRE.out.after HPP.out HB5.out).after HPP.out hb6);clear hb6 cD y0 y1 y2 y3 y4 y5;go_wp2_with fail;go_roundw
         case rel=>
          refine ⟨i+1,by omega,by go_num,t1.snoc ⟨k1,b1,v1,s1,l1,ns1⟩,r,max m dx,by go_num,by omega,?_,hid ⟨?_,?_⟩,by rw [show o+(i+1)*6=o+i*6+6 by omega];exact HR6⟩
          · show J.deepT _=_;rw [J.deepT_snoc,HM.out,HDX.out]
          · rw [←HA.out.1];unfold J.T.snoc;rw [J.T.app_assoc];rfl
          · rw [J.T.snoc_length,HA.out.2]
         case measure=>simp [intOf];omega
     · have d0:decide ((i:Int)<(len:Int))=false:=decide_eq_false (by omega);have d1:decide (i<len)=false:=decide_eq_false (by omega);have hi2:i=len:=by omega
       have ht2:t2= .nil:=T_nil (by have:=HA.out.2;have:=HLEN.out;rw [←HA.out.1,J.T.app_length] at this;omega);subst ht2;have hl:t1=l:=by rw [←HA.out.1,J.T.app_nil]
       have hmd:m=DP:=by rw [←HM.out,←HDP.out,hl]
       subst hmd;clear HA hl hi2 hlt;go_wp2_with fail;go_ret;exact ⟨by go_num,HI.out.b⟩
 exact go tk
theorem depth_any (x:J.V):DepthC x:=J.V.of (fun x hall=>by
 by_cases h:x.k=5∨x.k=6
 · exact depth_list x h hall
 · exact depth_flat x (fun e=>h (Or.inl e)) (fun e=>h (Or.inr e))) x
end Go.Proofs.YtohkomndapngjaaGreatDoor

