/- RouteFields: the walk. -/
import Derived.Test.YtohkomndapngjaaGreatDoorRC34
import Derived.Test.YtohkomndapngjaaGreatDoorRC35
import Derived.Test.YtohkomndapngjaaGreatDoorRC8
namespace Go.Proofs.YtohkomndapngjaaGreatDoor
set_option maxRecDepth 100000
set_option maxHeartbeats 16000000
open Go.RowKit
open Go.Lib (hid)
theorem fields_out (path:ByteArray) (ll lc len nc:Nat) (la na:Option Addr) (by_:Int) (w:World) (hE:EnvY w) (hln:len≤9223372036854775807) (hp:path.size≤9223372036854775807) (h:30<len∨ll<len∨2000<path.size):
   Calls Tryz.prog 3 #[.string path,.slice la ll lc,.slice na len nc,.int .i64 by_] w (fun e W=>e= .returned (.bool true)∧Below w.heap.size w W):=by
 have cA:=awake_any w hE.x;clear hE;go_enter Tryz.func3,Tryz.ntmps3;by_cases h1:30<len
 · have d1:decide ((30:Int)<(len:Int))=true:=decide_eq_true (by omega);have d2:decide (30<len)=true:=decide_eq_true h1;go_wp2_with fail;refine cA.mono ?_;rintro e w1 ⟨rfl,hb⟩;go_wp2_with fail;go_ret;exact ⟨rfl,hb⟩
 · have d1:decide ((30:Int)<(len:Int))=false:=decide_eq_false (by omega);have d2:decide (30<len)=false:=decide_eq_false h1;by_cases h2:ll<len
   · have d3:decide ((ll:Int)<(len:Int))=true:=decide_eq_true (by omega);have d4:decide (ll<len)=true:=decide_eq_true h2;go_wp2_with fail;refine cA.mono ?_;rintro e w1 ⟨rfl,hb⟩;go_wp2_with fail;go_ret;exact ⟨rfl,hb⟩
   · have d3:decide ((ll:Int)<(len:Int))=false:=decide_eq_false (by omega);have d4:decide (ll<len)=false:=decide_eq_false h2;have h3:2000<path.size:=by omega
     have d5:decide ((2000:Int)<(path.size:Int))=true:=decide_eq_true (by omega);have d6:decide (2000<path.size)=true:=decide_eq_true h3;go_wp2_with fail;refine cA.mono ?_;rintro e w1 ⟨rfl,hb⟩;go_wp2_with fail;go_ret;exact ⟨rfl,hb⟩
namespace J
def T.get:T→Nat→Option V
 | .nil,_=>none
 | .cons k b n s l ns _,0=>some ⟨k,b,n,s,l,ns⟩
 | .cons _ _ _ _ _ _ r,i+1=>r.get i
theorem T.get_lt:∀(a b:T) (i:Nat),i<a.length→(a.app b).get i=a.get i
 | .nil,_,_,h=>by simp [T.length] at h
 | .cons ..,_,0,_=>rfl
 | .cons _ _ _ _ _ _ r,b,i+1,h=>T.get_lt r b i (by simp only [T.length] at h;omega)
theorem T.get_ge:∀(a b:T) (i:Nat),(a.app b).get (a.length+i)=b.get i
 | .nil,b,i=>by show b.get (0+i)=_;rw [Nat.zero_add]
 | .cons _ _ _ _ _ _ r,b,i=>by
   rw [show (T.cons _ _ _ _ _ _ r).length+i=(r.length+i)+1 by simp only [T.length];omega]
   exact T.get_ge r b i
theorem T.At.get {w:World}{P:Nat→Prop}:∀ {t:T}{g o i:Nat}{x:V},t.At w P g o→t.get i=some x→x.one.At w P g (o+i*6)
 | .nil,_,_,_,_,_,h=>by cases h
 | .cons ..,_,_,0,_,⟨h,h0,h1,h2,h3,h4,h5,hr⟩,hx=>by
   cases hx
   rw [Nat.zero_mul,Nat.add_zero]
   exact ⟨h,h0,h1,h2,h3,h4,h5,trivial⟩
 | .cons _ _ _ _ _ _ r,g,o,i+1,x,⟨_,_,_,_,_,_,_,hr⟩,hx=>by
   have:=T.At.get (t:=r) (i:=i) hr hx
   rw [show o+(i+1)*6=o+6+i*6 by omega]
   exact this
theorem T.split:∀(t:T) (q:Nat),q≤t.length→∃a b:T,t=a.app b∧a.length=q
 | t,0,_=>⟨.nil,t,rfl,rfl⟩
 | .nil,q+1,h=>by simp [T.length] at h
 | .cons k b n s l ns r,q+1,h=>by
   obtain ⟨a,c,h1,h2⟩:=T.split r q (by simp only [T.length] at h;omega)
   exact ⟨.cons k b n s l ns a,c,by rw [h1];rfl,by simp only [T.length,h2]⟩
theorem turn_get {a b:T}{i:Nat}(h:i<a.length+b.length):(b.app a).get i=(a.app b).get ((i+a.length) % (a.length+b.length)):=by
 rcases Nat.lt_or_ge i b.length with h1|h1
 · rw [T.get_lt b a i h1,Nat.mod_eq_of_lt (by omega),Nat.add_comm i,T.get_ge]
 · obtain ⟨j,rfl⟩:∃j,i=b.length+j:=⟨i-b.length,by omega⟩;rw [T.get_ge,show b.length+j+a.length=j+(a.length+b.length) by omega,Nat.add_mod_right,Nat.mod_eq_of_lt (by omega),T.get_lt a b j (by omega)]
theorem turn_name {α:Type}{a b:List α}{i:Nat}(h:i<a.length+b.length):(b++a)[i]? =(a++b)[(i+a.length) % (a.length+b.length)]? :=by
 rcases Nat.lt_or_ge i b.length with h1|h1
 · rw [List.getElem?_append_left h1,Nat.mod_eq_of_lt (by omega),List.getElem?_append_right (by omega),Nat.add_sub_cancel]
 · obtain ⟨j,rfl⟩:∃j,i=b.length+j:=⟨i-b.length,by omega⟩;rw [List.getElem?_append_right (by omega),Nat.add_sub_cancel_left,show b.length+j+a.length=j+(a.length+b.length) by omega,Nat.add_mod_right,Nat.mod_eq_of_lt (by omega),List.getElem?_append_left (by omega)]
end J
structure TL (w:World) (B V:Nat) (t1:J.T) (n1:List ByteArray) (lv nv:Value) (cs:List Value) (W:World):Prop where
 v:W.heap[V]? =some (vRow 6 lv nv)
 l:W.ownsRow B 26 6 lv t1.length cs
 c:t1.Cells W (fun b=>b<w.heap.size) cs
 n:W.ownsRow B 9 1 nv n1.length (n1.map Value.string)
 b:Below w.heap.size w W
theorem TL.after {w W W' : World} {B V : Nat} {t1 : J.T} {n1 : List ByteArray} {lv nv : Value} {cs : List Value} (h : TL w B V t1 n1 lv nv cs W) (hb : Below W.heap.size W W') : TL w B V t1 n1 lv nv cs W' :=
  ⟨(hb.block V (Go.lt_of_block h.v)).trans h.v, World.ownsRow.kept (row := none) h.l ⟨hb.os, hb.tape, hb.output, hb.size, fun k hk _ => hb.block k hk⟩ (Classical.em _), J.T.Cells.keep (fun _ h => h) (fun b h1 => hb.block b (Nat.lt_of_lt_of_le h1 h.b.size)) _ _ h.c,
    World.ownsRow.kept (row := none) h.n ⟨hb.os, hb.tape, hb.output, hb.size, fun k hk _ => hb.block k hk⟩ (Classical.em _), h.b.trans (hb.mono h.b.size)⟩
theorem TL.apart {w W:World}{B V:Nat}{t1:J.T}{n1:List ByteArray}{lv nv:Value}{cs:List Value}(h:TL w B V t1 n1 lv nv cs W) {g:Nat}(h1:lv.ownBlock=some g):nv.ownBlock≠some g:=by
 intro h2;rcases h.l.2 with ⟨rfl,_⟩|⟨g1,c1,u1,rfl,_,hg1,_⟩
 · cases h1
 · rcases h.n.2 with ⟨rfl,_⟩|⟨g2,c2,u2,rfl,_,hg2,_⟩
   · cases h2
   · simp only [Value.ownBlock,Option.some.injEq] at h1 h2;subst h1 h2;rw [hg1] at hg2;have:=Option.some.inj hg2;simp only [Obj.cells.injEq] at this;exact absurd this.2.1 (by decide)
theorem wrap_len {len:Nat}(h:len≤30):IntKind.u64.wrap (len:Int)=(len:Int):=by show (len:Int) % 18446744073709551616=len;omega
theorem wrap_small {n:Nat}(h:n≤100):wrap64 (n:Int)=n:=by unfold wrap64;omega
theorem slot_kk {ub:Int}{len i q kk:Nat}(h0:0≤ub) (h1:ub % (len:Int)=q) (hq:q<len) (hi:i<len) (hl:len≤30) (hk:(i+q) % len=kk):(wrap64 ((i:Int)+wrap64 (ub.tmod (len:Int)))).tmod (len:Int)=(kk:Int):=by
 rw [Int.tmod_eq_emod_of_nonneg h0,h1,wrap_small (by omega),show (i:Int)+(q:Int)=((i+q:Nat):Int) by omega,wrap_small (by omega),Int.tmod_eq_emod_of_nonneg (Int.natCast_nonneg _),←Int.natCast_emod,hk]
structure TM (w:World) (B V:Nat) (t1:J.T) (n1:List ByteArray) (nm:ByteArray) (lv nv:Value) (cs:List Value) (g1 cap1:Nat) (W:World):Prop where
 v:W.heap[V]? =some (vRow 6 lv nv)
 l:W.ownsRow B 26 6 lv t1.length cs
 c:t1.Cells W (fun b=>b<w.heap.size) cs
 n:W.ownsRow B 9 1 (.slice (some ⟨g1,0,none⟩) (n1.length+1) cap1) (n1.length+1) (n1.map Value.string++ [.string nm])
 ap:lv.ownBlock≠some g1
 b:Below w.heap.size w W
theorem TM.of {w W W':World}{B V:Nat}{t1:J.T}{n1:List ByteArray}{nm:ByteArray}{lv nv:Value}{cs:List Value}{g1 cap1:Nat}(h:TL w B V t1 n1 lv nv cs W) (hV:V<B) (hB:w.heap.size≤B) (hg:W.grownBy W' nv.ownBlock)
   (ho:W'.ownsRow B 9 1 (.slice (some ⟨g1,0,none⟩) (n1.length+1) cap1) (n1.length+1) (n1.map Value.string++ [.string nm])) (hat:nv.ownBlock=some g1∨g1=W.heap.size):TM w B V t1 n1 nm lv nv cs g1 cap1 W':=by
 have hnl:=World.ownsRow.lt h.n;have hll:=World.ownsRow.lt h.l;refine ⟨?_,World.ownsRow.kept h.l hg ?_,J.T.Cells.keep (fun _ h=>h) (fun b h1=>hg.block b (Nat.lt_of_lt_of_le h1 h.b.size) (fun e=>by have:=(hnl b e.symm).1;omega)) _ _ h.c,ho,?_,h.b.grown hg h.b.size (fun q hq=>by have:=(hnl q hq).1;omega)⟩
 · rw [hg.block V (Go.lt_of_block h.v) (fun e=>by have:=(hnl V e.symm).1;omega)];exact h.v
 · cases he:lv.ownBlock with
   | none=>exact Or.inl rfl
   | some k=>exact Or.inr fun e=>h.apart he e.symm
 · intro e;rcases hat with h1|h1
   · exact h.apart e h1
   · have:=(hll g1 e).2;omega
theorem TM.after {w W W' : World} {B V : Nat} {t1 : J.T} {n1 : List ByteArray} {nm : ByteArray} {lv nv : Value} {cs : List Value} {g1 cap1 : Nat} (h : TM w B V t1 n1 nm lv nv cs g1 cap1 W) (hb : Below W.heap.size W W') : TM w B V t1 n1 nm lv nv cs g1 cap1 W' :=
  ⟨(hb.block V (Go.lt_of_block h.v)).trans h.v, World.ownsRow.kept (row := none) h.l ⟨hb.os, hb.tape, hb.output, hb.size, fun k hk _ => hb.block k hk⟩ (Classical.em _), J.T.Cells.keep (fun _ h => h) (fun b h1 => hb.block b (Nat.lt_of_lt_of_le h1 h.b.size)) _ _ h.c,
    World.ownsRow.kept (row := none) h.n ⟨hb.os, hb.tape, hb.output, hb.size, fun k hk _ => hb.block k hk⟩ (Classical.em _), h.ap, h.b.trans (hb.mono h.b.size)⟩
theorem TM.next {w W W9:World}{B V:Nat}{t1:J.T}{n1:List ByteArray}{nm:ByteArray}{lv nv:Value}{cs ds:List Value}{g1 cap1 g2 cap2:Nat}{x:J.V}(h:TM w B V t1 n1 nm lv nv cs g1 cap1 W) (hV:V<B) (hB:w.heap.size≤V) (hx:x.Has w (fun b=>b<w.heap.size) ds) (hg:W.grownBy W9 lv.ownBlock)
   (ho:W9.ownsRow B 26 6 (.slice (some ⟨g2,0,none⟩) (t1.length+1) cap2) (t1.length+1) (cs++ds)) (hat:lv.ownBlock=some g2∨g2=W.heap.size):
   W9.heap[V]? =some (vRow 6 lv nv)∧TL w B V (t1.snoc x) (n1++ [nm]) (.slice (some ⟨g2,0,none⟩) (t1.length+1) cap2) (.slice (some ⟨g1,0,none⟩) (n1.length+1) cap1) (cs++ds) ((W9.setCell ⟨V,5,none⟩ (.slice (some ⟨g1,0,none⟩) (n1.length+1) cap1)).setCell ⟨V,4,none⟩ (.slice (some ⟨g2,0,none⟩) (t1.length+1) cap2)):=by
 have hll:=World.ownsRow.lt h.l;have hnl:=World.ownsRow.lt h.n;have hVl:=Go.lt_of_block h.v;have hv9:W9.heap[V]? =some (vRow 6 lv nv):=by rw [hg.block V hVl (fun e=>by have:=(hll V e.symm).1;omega)];exact h.v
 have hg2:B≤g2:=by
   rcases hat with h1|h1
   · exact (hll g2 h1).1
   · have:=(hnl g1 rfl);omega
 have hg1:B≤g1:=(hnl g1 rfl).1;have hgg:=(grownBy_set W9 V 5 (.slice (some ⟨g1,0,none⟩) (n1.length+1) cap1)).trans (grownBy_set _ V 4 (.slice (some ⟨g2,0,none⟩) (t1.length+1) cap2));have hall:∀b,b<w.heap.size→((W9.setCell ⟨V,5,none⟩ (.slice (some ⟨g1,0,none⟩) (n1.length+1) cap1)).setCell ⟨V,4,none⟩ (.slice (some ⟨g2,0,none⟩) (t1.length+1) cap2)).heap[b]? =W.heap[b]? :=fun b hb=>by
   rw [hgg.block b (Nat.lt_of_lt_of_le (Nat.lt_of_lt_of_le hb h.b.size) hg.size) (fun e=>by have:=Option.some.inj e;omega),hg.block b (Nat.lt_of_lt_of_le hb h.b.size) (fun e=>by have:=(hll b e.symm).1;omega)]
 have hsl:(t1.snoc x).length=t1.length+1:=by unfold J.T.snoc;rw [J.T.app_length];rfl
 refine ⟨hv9,row_set (row_set hv9 5 _) 4 _,?_,?_,?_,?_⟩
 · rw [hsl];exact World.ownsRow.kept ho hgg (Or.inr fun e=>by have e':g2=V:=Option.some.inj e;omega)
 · exact J.T.Cells.app t1 x.one cs ds (J.T.Cells.keep (fun _ h=>h) hall _ _ h.c) (J.T.Cells.one (J.V.Has.keep (fun _ h=>h) (fun b hb=>(hall b hb).trans (h.b.block b hb)) hx))
 · rw [List.length_append,List.length_singleton,List.map_append];refine World.ownsRow.kept (World.ownsRow.kept h.n hg ?_) hgg (Or.inr fun e=>by have e':g1=V:=Option.some.inj e;omega);exact Or.inr fun e=>h.ap e.symm
 · exact (h.b.grown hg h.b.size (fun q hq=>by have:=(hll q hq).1;omega)).grown hgg (Nat.le_trans h.b.size hg.size) (fun q hq=>by have:=Option.some.inj hq;omega)
theorem TL.is {w W:World}{B V:Nat}{t1:J.T}{n1:List ByteArray}{lv nv:Value}{cs:List Value}(h:TL w B V t1 n1 lv nv cs W):t1.In W (fun b=>b<W.heap.size) lv∧J.SIn W (fun b=>b<W.heap.size) n1 nv:=by
 refine ⟨?_,(own_SIn h.n).mono fun b hb=>hb.2.1⟩;have hc:=fun g (hg:lv.ownBlock=some g)=>World.ownsRow.cells h.l hg
 rcases h.l.2 with ⟨rfl,h0⟩|⟨g,cap,cur,rfl,_,hgr,hcap,_⟩
 · refine Or.inl ⟨?_,none,0,rfl,fun _=>rfl⟩;cases t1 with
   | nil=>rfl
   | cons=>simp [J.T.length] at h0
 · rcases Nat.eq_zero_or_pos t1.length with h0|h0
   · refine Or.inl ⟨?_,_,cap,by rw [h0],fun h=>by cases h⟩;cases t1 with
     | nil=>rfl
     | cons=>simp [J.T.length] at h0
   · refine Or.inr ⟨g,0,cap,rfl,hcap,h0,?_⟩;refine J.T.Cells.at (P:=fun b=>b<W.heap.size) (Go.lt_of_block hgr) t1 cs 0 (J.T.Cells.keep (fun b hb=>Nat.lt_of_lt_of_le hb h.b.size) (fun _ _=>rfl) t1 cs h.c) (fun j u hj=> ?_);have:=hc g rfl j u hj;have e:(⟨g,0,none⟩:Addr).add j=⟨g,j,none⟩:=by cases j<;>simp [Addr.add]
     rw [e] at this;rw [Nat.zero_add];exact this
namespace J
theorem T.small_join:∀(a b:T),a.small→b.small→(a.app b).small
 | .nil,_,_,h=>h
 | .cons _ _ _ _ _ _ r,b,⟨h1,h2⟩,h=>⟨h1,T.small_join r b h2 h⟩
theorem T.brief_join:∀(a b:T),a.brief→b.brief→(a.app b).brief
 | .nil,_,_,h=>h
 | .cons _ _ _ _ _ _ r,b,⟨h1,h2⟩,h=>⟨h1,T.brief_join r b h2 h⟩
theorem T.num_join:∀(a b:T),a.num→b.num→(a.app b).num
 | .nil,_,_,h=>h
 | .cons _ _ _ _ _ _ r,b,⟨h1,h2,h3⟩,h=>⟨h1,h2,T.num_join r b h3 h⟩
end J
def Fits (x:J.V):Prop:=x.small∧x.brief∧x.deep≤1000000000∧x.num∧6*x.show.length+2≤10000000000000
theorem turn_fits {tq uq:J.T}{nt nu:List ByteArray}(h1:nt.length=tq.length) (h2:nu.length=uq.length) (hx:Fits ⟨6,false,0,⟨#[]⟩,tq.app uq,nt++nu⟩):Fits ⟨6,false,0,⟨#[]⟩,uq.app tq,nu++nt⟩:=by
 obtain ⟨⟨a1,a2,a3⟩,⟨b1,b2,b3⟩,c,⟨d1,d2⟩,e⟩:=hx;obtain ⟨s1,s2⟩:=J.T.small_app tq uq a3;obtain ⟨f1,f2⟩:=J.T.brief_app tq uq b3;obtain ⟨n1,n2⟩:=J.T.num_app tq uq d2;refine ⟨⟨?_,?_,J.T.small_join _ _ s2 s1⟩,⟨b1,fun y hy=>b2 y (by rw [List.mem_append] at hy ⊢;exact hy.symm),J.T.brief_join _ _ f2 f1⟩,?_,⟨d1,J.T.num_join _ _ n2 n1⟩,?_⟩
 · show (uq.app tq).length≤_;have a1:(tq.app uq).length≤100000000000:=a1;rw [J.T.app_length] at a1 ⊢;omega
 · show (nu++nt).length≤_;have a2:(nt++nu).length≤100000000000:=a2;rw [List.length_append] at a2 ⊢;omega
 · have c:J.deepT (tq.app uq)+1≤1000000000:=c;show J.deepT (uq.app tq)+1≤1000000000;rw [R.deep_app,Nat.max_comm,←R.deep_app];exact c
 · rw [R.turn_len false 0 ⟨#[]⟩ tq uq nt nu h1 h2];exact e
theorem fields_in (path:ByteArray) (t:J.T) (ns:List ByteArray) (ll lc nc:Nat) (la na:Option Addr) (by_:Int) (w:World) (hE:EnvY w) (hl:t.In w (fun b=>b<w.heap.size) (.slice la ns.length lc)) (hs:J.SIn w (fun b=>b<w.heap.size) ns (.slice na ns.length nc)) (hlen:t.length=ns.length)
   (hll:ll≤lc) (h1:ns.length≤30) (h2:ns.length≤ll) (h3:path.size≤2000) (hx:Fits ⟨6,false,0,⟨#[]⟩,t,ns⟩) (hnz:∀a∈ns,a.size≤1000000000000) (hby: -9223372036854775808≤by_∧by_≤9223372036854775807):
   Calls Tryz.prog 3 #[.string path,.slice la ll lc,.slice na ns.length nc,.int .i64 by_] w (fun e W=>e= .returned (.bool true)∧Below w.heap.size w W):=by
 obtain ⟨len,hn⟩:∃len,ns.length=len:=⟨_,rfl⟩;rw [hn] at hl hs hlen h1 h2 ⊢;have cA:=awake_any w hE.x;have HE:=hid hE;have HL:=hid hl;have HS:=hid hs;have HLN:=hid hlen;have HN:=hid hn;have HX:=hid hx;have HBY:=hid hby;have HNZ:=hid hnz;have d1:decide ((30:Int)<(len:Int))=false:=decide_eq_false (by omega);have d2:decide (30<len)=false:=decide_eq_false (by omega);have d3:decide ((ll:Int)<(len:Int))=false:=decide_eq_false (by omega);have d4:decide (ll<len)=false:=decide_eq_false (by omega);have d5:decide ((2000:Int)<(path.size:Int))=false:=decide_eq_false (by omega);have d6:decide (2000<path.size)=false:=decide_eq_false (by omega);have i0:(0:Int)≤(len:Int):=by omega
 clear hE hl hs hlen hn hx hby hnz;go_enter Tryz.func3,Tryz.ntmps3;go_wp2_with fail;refine cA.mono ?_;rintro e w1 ⟨rfl,hb⟩;have HB1:=hid hb;clear hb cA;go_upto_region 4 with fail;obtain ⟨V1,hV1⟩:∃V,w1.heap.size=V:=⟨_,rfl⟩;obtain ⟨w2,hw2⟩:∃w2,w1.alloc (.cells #[.int .u8 6,.bool false,.int .i64 0,.string ⟨#[]⟩,.slice la len lc,.slice na len nc] 26)=w2:=⟨_,rfl⟩;have hb2:Below w1.heap.size w1 w2:=by rw [←hw2];exact (Below.refl _ w1).alloc (Nat.le_refl _) _
 have hv2:w2.heap[V1]? =some (.cells #[.int .u8 6,.bool false,.int .i64 0,.string ⟨#[]⟩,.slice la len lc,.slice na len nc] 26 (0,0)):=by rw [←hw2,←hV1];exact heap_alloc_new w1 _
 have HB2:=hid (HB1.out.trans (hb2.mono HB1.out.size));have hk2:∀j,j<w.heap.size→w2.heap[j]? =w.heap[j]? :=fun j hj=>HB2.out.block j hj
 have cP:=print_any ⟨6,false,0,⟨#[]⟩,t,ns⟩ HX.out.1 HX.out.2.1 HX.out.2.2.1 HX.out.2.2.2.1 HX.out.2.2.2.2 w2 (fun j=>j<w.heap.size) [.int .u8 6,.bool false,.int .i64 0,.string ⟨#[]⟩,.slice la len lc,.slice na len nc] (HE.out.under HB2.out).x.p.t (HE.out.under HB2.out).x.p.z (HE.out.under HB2.out).x.p.p ⟨_,_,rfl,J.T.In.keep (fun _ h=>h) hk2 HL.out,J.SIn.keep (fun _ h=>h) hk2 HS.out⟩ (fun j hj=>Nat.lt_of_lt_of_le hj HB2.out.size);obtain ⟨x0,x1,x2,x3,x4,x5⟩:=x6_of hv2;rw [hw2,hV1];clear hw2 hV1 hb2 hv2 hk2;obtain ⟨s,er,hse⟩:∃s er,(⟨(⟨6,false,0,⟨#[]⟩,t,ns⟩:J.V).print.1.toArray⟩:ByteArray)=s∧(⟨6,false,0,⟨#[]⟩,t,ns⟩:J.V).print.2=er:=⟨_,_,rfl,rfl⟩;unfold PrintOf at cP;rw [hse.1,hse.2] at cP;have HSE:=hid hse;clear hse;go_wp2_with fail;refine cP.mono ?_;rintro e w3 ⟨rfl,hb⟩;have HB3:=hid (HB2.out.trans (hb.mono HB2.out.size));clear hb cP x0 x1 x2 x3 x4 x5;by_cases he:er=0
 · have g1:(er !=0)=false:=by simp [he]
   by_cases hs5:5000<s.size
   · have g2:decide ((5000:Int)<(s.size:Int))=true:=decide_eq_true (by omega);have g3:decide (5000<s.size)=true:=decide_eq_true hs5;clear he;go_wp2_with fail;go_ret;exact ⟨rfl,HB3.out⟩
   · have g2:decide ((5000:Int)<(s.size:Int))=false:=decide_eq_false (by omega);have g3:decide (5000<s.size)=false:=decide_eq_false hs5;have HER:=hid he;have HS5:Hid (s.size≤5000):=by show _≤_;omega
     clear he hs5;go_upto_region 9 with fail;obtain ⟨V,hV⟩:∃V,w3.heap.size=V:=⟨_,rfl⟩;obtain ⟨w4,hw4⟩:∃w4,w3.alloc (.cells #[.int .u8 6,.bool false,.int .i64 0,.string ⟨#[]⟩,.slice none 0 0,.slice none 0 0] 26)=w4:=⟨_,rfl⟩;have HT4:Hid (TL w (V+1) V .nil [] (.slice none 0 0) (.slice none 0 0) [] w4):=by
      show TL _ _ _ _ _ _ _ _ _;have hb4:Below w3.heap.size w3 w4:=by rw [←hw4];exact (Below.refl _ w3).alloc (Nat.le_refl _) _
      exact ⟨by rw [←hw4,←hV];exact heap_alloc_new w3 _,World.ownsRow_nil _ _ _ _,rfl,World.ownsRow_nil _ _ _ _,HB3.out.trans (hb4.mono HB3.out.size)⟩
     have HVW:Hid (w.heap.size≤V):=by have:=HB3.out.size;show _≤_;omega
     rw [hw4,hV];clear hw4 hV;obtain ⟨ub,hub⟩:∃ub:Int,IntKind.u64.wrap by_=ub:=⟨_,rfl⟩;have hub0:0≤ub∧ub<18446744073709551616:=by
      rw [←hub];show 0≤by_ % 18446744073709551616∧by_ % 18446744073709551616<18446744073709551616;omega
     obtain ⟨q,hq,hql⟩:∃q:Nat,q≤len∧(0<len→ub % (len:Int)=q∧q<len):=by
      by_cases h0:len=0
      · exact ⟨0,Nat.zero_le _,fun h=>by omega⟩
      · have e1:=Int.emod_nonneg ub (show (len:Int)≠0 by omega);have e2:=Int.emod_lt_of_pos ub (show (0:Int)<len by omega);exact ⟨(ub % (len:Int)).toNat,by omega,fun _=>⟨by omega,by omega⟩⟩
     obtain ⟨tq,uq,htu,htq⟩:=J.T.split t q (by rw [HLN.out];exact hq);have hnn:ns=ns.take q++ns.drop q:=(List.take_append_drop q ns).symm;obtain ⟨nt,hnt⟩:∃l,ns.take q=l:=⟨_,rfl⟩;obtain ⟨nu,hnu⟩:∃l,ns.drop q=l:=⟨_,rfl⟩;rw [hnt,hnu] at hnn;have hntl:nt.length=q:=by rw [←hnt,List.length_take,HN.out];omega
     have hnul:nu.length=len-q:=by rw [←hnu,List.length_drop,HN.out]
     have huql:uq.length=len-q:=by have:=HLN.out;rw [htu,J.T.app_length] at this;omega
     have HTU:=hid (show t=tq.app uq∧tq.length=q∧uq.length=len-q∧ns=nt++nu∧nt.length=q∧nu.length=len-q from ⟨htu,htq,huql,hnn,hntl,hnul⟩);have HQ:=hid (show q≤len∧(0<len→ub % (len:Int)=q∧q<len) from ⟨hq,hql⟩);have HUB:=hid hub0;clear htu htq huql hnn hntl hnul hnt hnu hq hql hub0;go_wp2_with fail;go_loopw [13] (fun vi wr=> ∃(i:Nat),i≤len∧vi= .int .i64 i∧∃(t1 r:J.T) (n1 nr:List ByteArray) (lv nv:Value) (cs:List Value),Hid (t1.app r=uq.app tq∧n1++nr=nu++nt∧t1.length=i∧n1.length=i)∧Hid (TL w (V+1) V t1 n1 lv nv cs wr)) (fun vi _=>len-(intOf vi).toNat)
     case atStart=>exact ⟨0,Nat.zero_le _,rfl,.nil,uq.app tq,[],nu++nt,_,_,_,hid ⟨rfl,rfl,rfl,rfl⟩,HT4⟩
     case round=>
      obtain ⟨i,hi,rfl,t1,r,n1,nr,lv,nv,cs,HA,HI⟩:=hrel;clear HT4;by_cases hlt:i<len
      · have e0:decide ((i:Int)<(len:Int))=true:=decide_eq_true (by omega);have e1:decide (i<len)=true:=decide_eq_true hlt;obtain ⟨hq1,hq2⟩:=HQ.out.2 (by omega);obtain ⟨kk,hkk⟩:∃kk:Nat,(i+q) % len=kk:=⟨_,rfl⟩;have hkl:kk<len:=by rw [←hkk];exact Nat.mod_lt _ (by omega)
        obtain ⟨g,o,c,hla,hlc2,hl0,hat⟩:∃g o c,(Value.slice la len lc)= .slice (some ⟨g,o,none⟩) t.length c∧t.length≤c∧0<t.length∧t.At w (fun b=>b<w.heap.size) g o:=by
          rcases HL.out with ⟨h1, -⟩|h
          · have:=HLN.out;rw [h1] at this;simp only [J.T.length] at this;omega
          · exact h
        simp only [Value.slice.injEq] at hla;obtain ⟨rfl, -,rfl⟩:=hla;obtain ⟨nm,hnm⟩:∃nm,ns[kk]? =some nm:=⟨_,List.getElem?_eq_getElem (by rw [HN.out];exact hkl)⟩;obtain ⟨nb,no,hna,hnb,hnc,hnj⟩:∃nb no,na=some ⟨nb,no,none⟩∧nb<w.heap.size∧len≤nc∧w.cell? ⟨nb,no+kk,none⟩=some (.string nm):=by
          rcases HS.out with ⟨h1, -⟩|⟨-,nb,no,c,h1,h2,h3,h4⟩
          · have:=HN.out;rw [h1] at this;simp at this;omega
          · simp only [Value.slice.injEq] at h1;obtain ⟨rfl, -,rfl⟩:=h1;exact ⟨nb,no,rfl,h2,by rw [←HN.out];exact h3,h4 kk nm hnm⟩
        subst hna;have hilt:i<tq.length+uq.length:=by have:=HTU.out.2.1;have:=HTU.out.2.2.1;have:=HQ.out.1;omega
        have hsum:tq.length+uq.length=len:=by have:=HTU.out.2.1;have:=HTU.out.2.2.1;have:=HQ.out.1;omega
        have hget:=J.turn_get (a:=tq) (b:=uq) hilt;rw [HTU.out.2.1,←HTU.out.2.1,hsum,HTU.out.2.1,hkk,←HTU.out.1,←HA.out.1,←HA.out.2.2.1] at hget;have hge0:=J.T.get_ge t1 r 0;rw [Nat.add_zero] at hge0;rw [hge0] at hget;cases r with
        | nil=>
          have:=HA.out.1;have h2:=congrArg J.T.length this;rw [J.T.app_length,J.T.app_length,HA.out.2.2.1,show J.T.nil.length=0 from rfl] at h2;omega
        | cons k1 b1 v1 s1 l1 m1 r=>
          have hget:some (⟨k1,b1,v1,s1,l1,m1⟩:J.V)=t.get kk:=hget;have hel:=J.T.At.get hat hget.symm;obtain ⟨hPg,y0,y1,y2,y3,⟨lv1,y4,hl1⟩,⟨nv1,y5,hn1⟩, -⟩:=hel;obtain ⟨al,cl,rfl⟩:=J.T.In.shape (w:=w) (P:=fun b=>b<w.heap.size) (t:=l1) hl1;obtain ⟨an,cn,rfl⟩:=hn1.shape;have hname:=J.turn_name (a:=nt) (b:=nu) (i:=i) (by rw [HTU.out.2.2.2.2.1,HTU.out.2.2.2.2.2];omega);rw [HTU.out.2.2.2.2.1,HTU.out.2.2.2.2.2,show q+(len-q)=len by omega,hkk,←HTU.out.2.2.2.1,hnm,←HA.out.2.1,←HA.out.2.2.2] at hname;cases nr with
          | nil=>rw [List.append_nil,List.getElem?_eq_none (Nat.le_refl _)] at hname;cases hname
          | cons nm' nr=>
            rw [List.getElem?_append_right (Nat.le_refl _),Nat.sub_self] at hname;have hname:some nm'=some nm:=hname;obtain rfl:nm'=nm:=Option.some.inj hname;have l0:(len:Int)≠0:=by omega
            have l1':=wrap_len h1;have hslot:=slot_kk HUB.out.1 hq1 hq2 hlt h1 hkk;have k0:(0:Int)≤(kk:Int):=by omega
            have k1':(kk:Int)<(len:Int):=by omega
            have k2:(kk:Int)<(ll:Int):=by omega
            obtain ⟨pa,pc,hlv⟩:∃a c,lv= .slice a i c:=by obtain ⟨a,c,h⟩:=own_shape HI.out.l;exact ⟨a,c,by rw [h,HA.out.2.2.1]⟩
            obtain ⟨qa,qc,hnv⟩:∃a c,nv= .slice a i c:=by obtain ⟨a,c,h⟩:=own_shape HI.out.n;exact ⟨a,c,by rw [h,HA.out.2.2.2]⟩
            subst hlv hnv;have HY:=hid (show w.cell? ⟨nb,no+kk,none⟩=some (.string nm')∧nb<w.heap.size∧g<w.heap.size∧w.cell? ⟨g,o+kk*6,none⟩=some (.int .u8 k1)∧w.cell? ⟨g,o+kk*6+1,none⟩=some (.bool b1)∧w.cell? ⟨g,o+kk*6+2,none⟩=some (.int .i64 v1)∧w.cell? ⟨g,o+kk*6+3,none⟩=some (.string s1)∧w.cell? ⟨g,o+kk*6+4,none⟩=some (.slice al l1.length cl)∧w.cell? ⟨g,o+kk*6+5,none⟩=some (.slice an m1.length cn) from ⟨hnj,hnb,hPg,y0,y1,y2,y3,y4,y5⟩);have HH:=hid (show (⟨k1,b1,v1,s1,l1,m1⟩:J.V).Has w (fun b=>b<w.heap.size) [.int .u8 k1,.bool b1,.int .i64 v1,.string s1,.slice al l1.length cl,.slice an m1.length cn] from ⟨_,_,rfl,hl1,hn1⟩);clear hnj hnb hPg y0 y1 y2 y3 y4 y5 hl1 hn1 hget hname hat hlc2 hl0 hge0 hilt hsum hnm;go_upto_region 13 with fail;try rw [hslot]
            have HT0:Hid (TL w (V+1) V t1 n1 (.slice pa i pc) (.slice qa i qc) cs wr.drew):=HI.out.after (Below.refl _ wr).drew;have HM:=hid (show t1.length=i∧n1.length=i from ⟨HA.out.2.2.1,HA.out.2.2.2⟩);obtain ⟨i0',hi1,hz0,hz1,hz2⟩:=info_parts infoJSON2;obtain ⟨j0',hj1,hy0,hy1,hy2⟩:=info_parts infoStr2;have HI0:=hid (show _∧_∧_∧_ from ⟨hi1,hz0,hz1,hz2⟩);have HJ0:=hid (show _∧_∧_∧_ from ⟨hj1,hy0,hy1,hy2⟩);have HMB:Hid (i+1≤maxLen∧(i+1)*80≤140737488355328∧(i+1)*16≤140737488355328):=by show _∧_∧_;unfold maxLen;omega
            have HOC:Hid (∀u∈([.int .u8 k1,.bool b1,.int .i64 v1,.string s1,.slice al l1.length cl,.slice an m1.length cn]:List Value),u.oneCell'=true):=Shape.one ⟨_,_,_,_,_,_,_,_,_,_,rfl⟩;have HON:Hid (∀u∈([.string nm']:List Value),u.oneCell'=true):=by show ∀u∈([.string nm']:List Value),u.oneCell'=true;intro u hu;simp only [List.mem_cons,List.not_mem_nil,or_false] at hu;subst hu;rfl
            clear hi1 hz0 hz1 hz2 hj1 hy0 hy1 hy2;refine wp_region_till (S:=(fun W:World=>W.heap[V]? =some (vRow 6 (.slice pa i pc) (.slice qa i qc))∧Below w.heap.size w W)) 17 (by kernel_rfl) ?_;have HS:=hid (show ((fun W:World=>W.heap[V]? =some (vRow 6 (.slice pa i pc) (.slice qa i qc))∧Below w.heap.size w W)) _ from ⟨HT0.out.v,HT0.out.b⟩);refine tillB 0 (v:= ?v1) (fun _=>HS.out) ?hy1 ?_
            case hy1=>intro w';go_simp;try with_reducible rfl
            refine tillB 2 (v:= ?v2) (fun _=>HS.out) ?hy2 ?_
            case hy2=>intro w';go_simp;try with_reducible rfl
            refine tillB 3 (v:= ?v3) (fun _=>HS.out) ?hy3 ?_
            case hy3=>intro w';go_simp;try with_reducible rfl
            refine tillB 4 (v:= ?v4) (fun _=>HS.out) ?hy4 ?_
            case hy4=>intro w';go_simp;try with_reducible rfl
            refine tillB 8 (v:= ?v5) (fun _=>HS.out) ?hy5 ?_
            case hy5=>intro w';go_simp;try with_reducible rfl
            refine tillB 10 (v:= ?v6) (fun _=>HS.out) ?hy6 ?_
            case hy6=>intro w';go_simp;try with_reducible rfl
            refine tillB 11 (v:= ?v7) (fun _=>HS.out) ?hy7 ?_
            case hy7=>intro w';go_simp;try with_reducible rfl
            refine tillB 12 (v:= ?v8) (fun _=>HS.out) ?hy8 ?_
            case hy8=>intro w';go_simp;try with_reducible rfl
            refine tillL 1 [1,17] (v:= ?v9) HS.out ?hy9 ?_
            case hy9=>
              intro w' hSw;have v5:w'.cell? ⟨V,5,none⟩=some (.slice qa i qc):=rowCell hSw.1 5;clear hSw;go_simp;try with_reducible rfl
            refine tillL 5 [5,17] (v:= ?v10) HS.out ?hy10 ?_
            case hy10=>
              intro w' hSw;have n0:w'.cell? ⟨nb,no+kk,none⟩=some (.string nm'):=(World.cell?_of_block (w:=w) (hSw.2.block nb HY.out.2.1)).trans HY.out.1;clear hSw;go_simp;try with_reducible rfl
            refine tillL 9 [9,17] (v:= ?v11) HS.out ?hy11 ?_
            case hy11=>
              intro w' hSw;have v4:w'.cell? ⟨V,4,none⟩=some (.slice pa i pc):=rowCell hSw.1 4;clear hSw;go_simp;try with_reducible rfl
            refine tillL 13 [13,14,15,17] (v:= ?v12) HS.out ?hy12 ?_
            case hy12=>
              intro w' hSw;have hg:=hSw.2.block g HY.out.2.2.1;have e0:w'.cell? ⟨g,o+kk*6,none⟩=some (.int .u8 k1):=(World.cell?_of_block (w:=w) hg).trans HY.out.2.2.2.1;have e1:w'.cell? ⟨g,o+kk*6+1,none⟩=some (.bool b1):=(World.cell?_of_block (w:=w) hg).trans HY.out.2.2.2.2.1;have e2:w'.cell? ⟨g,o+kk*6+2,none⟩=some (.int .i64 v1):=(World.cell?_of_block (w:=w) hg).trans HY.out.2.2.2.2.2.1;have e3:w'.cell? ⟨g,o+kk*6+3,none⟩=some (.string s1):=(World.cell?_of_block (w:=w) hg).trans HY.out.2.2.2.2.2.2.1;have e4:w'.cell? ⟨g,o+kk*6+4,none⟩=some (.slice al l1.length cl):=(World.cell?_of_block (w:=w) hg).trans HY.out.2.2.2.2.2.2.2.1;have e5:w'.cell? ⟨g,o+kk*6+5,none⟩=some (.slice an m1.length cn):=(World.cell?_of_block (w:=w) hg).trans HY.out.2.2.2.2.2.2.2.2;clear hg;clear hSw;go_simp;try with_reducible rfl
            refine tillD 6 [14] (fun K hK=> ?step13) ?more13
            case step13=>
              go_simp;have hb6:Below wr.drew.heap.size wr.drew ((wr.alloc (.cells #[.string nm'] 9)).drew):=(show Below wr.drew.heap.size wr.drew (wr.drew.alloc (.cells #[.string nm'] 9)) from (Below.refl _ wr.drew).alloc (Nat.le_refl _) (.cells #[.string nm'] 9));have HT6:=hid (HT0.out.after hb6);have HE6:Hid (((wr.alloc (.cells #[.string nm'] 9)).drew).heap[wr.heap.size]? =some (.cells #[.string nm'] 9 (0,0))):=heap_alloc_new wr _;have HG6:Hid (wr.heap.size≤((wr.alloc (.cells #[.string nm'] 9)).drew).heap.size):=hb6.size;obtain ⟨y6,hy6⟩:∃y,(wr.alloc (.cells #[.string nm'] 9)).drew=y:=⟨_,rfl⟩;rw [hy6] at HT6 HE6 HG6;try rw [hy6]
              clear hy6 hb6;refine hK.out _ _ (fun _=>⟨HT6.out.v,HT6.out.b⟩) (fun hHeld=> ?_);have HS13:=hid (hHeld (by kernel_rfl));clear hHeld hK K;refine tillD 7 [14] (fun K hK=> ?step14) ?more14
              case step14=>
                refine step_append_lies _ (by rfl) (.tmp 83) (.tmp 88) 23 (by rfl) (V+1) 9 j0' _ 1 16 Tryz.underlying23 HJ0.out.1 HJ0.out.2.1 HJ0.out.2.2.1 HJ0.out.2.2.2 rfl (by decide) (.slice qa i qc) i (n1.map Value.string) (by rfl) (by have:=HT6.out.n;rw [HM.out.2] at this;exact this) ⟨wr.heap.size,0,none⟩ 1 1 [.string nm'] (by rfl) rfl (World.news_of_block (cs:=#[.string nm']) HE6.out) HON.out (by decide) HMB.out.1 HMB.out.2.2 (by have:=Go.lt_of_block HT6.out.v;omega) _ rfl ?_;intro g1 cap1 y7 hown hgrow hat hlt;have HT7:=hid (TM.of HT6.out (Nat.lt_succ_self V) (Nat.le_succ_of_le HVW.out) hgrow (by rw [HM.out.2];exact hown) hat);clear hown hgrow hat hlt;refine hK.out _ _ (fun _=>⟨HT7.out.v,HT7.out.b⟩) (fun hHeld=> ?_);have HS14:=hid (hHeld (by kernel_rfl));clear hHeld hK K;refine tillB 16 (v:= ?v15) (fun _=>HS14.out) ?hy15 ?_
                case hy15=>intro w';go_simp;try with_reducible rfl
                refine tillD1 14 (fun K hK=> ?step16)
                case step16=>
                 go_simp;have hb14:Below y7.heap.size y7 (y7.alloc (.cells #[.int .u8 k1,.bool b1,.int .i64 v1,.string s1,.slice al l1.length cl,.slice an m1.length cn] 26)):=(Below.refl _ y7).alloc (Nat.le_refl _) _;have HT14:=hid (HT7.out.after hb14);have HE14:Hid ((y7.alloc (.cells #[.int .u8 k1,.bool b1,.int .i64 v1,.string s1,.slice al l1.length cl,.slice an m1.length cn] 26)).heap[y7.heap.size]? =some (.cells #[.int .u8 k1,.bool b1,.int .i64 v1,.string s1,.slice al l1.length cl,.slice an m1.length cn] 26 (0,0))):=heap_alloc_new y7 _;obtain ⟨y14,hy14⟩:∃y,y7.alloc (.cells #[.int .u8 k1,.bool b1,.int .i64 v1,.string s1,.slice al l1.length cl,.slice an m1.length cn] 26)=y:=⟨_,rfl⟩;rw [hy14] at HT14 HE14;try rw [hy14]
                 clear hy14 hb14;refine hK.out _ _ (fun _=>⟨HT14.out.v,HT14.out.b⟩) (fun hHeld=> ?_);have HS16:=hid (hHeld (by kernel_rfl));clear hHeld hK K;refine tillD1 15 (fun K hK=> ?step17)
                 case step17=>
                  refine step_append_lies _ (by rfl) (.tmp 91) (.tmp 96) 22 (by rfl) (V+1) 26 i0' _ 6 80 Tryz.underlying22 HI0.out.1 HI0.out.2.1 HI0.out.2.2.1 HI0.out.2.2.2 rfl (by decide) (.slice pa i pc) i cs (by rfl) (by have:=HT14.out.l;rw [HM.out.1] at this;exact this) ⟨y7.heap.size,0,none⟩ 1 1 [.int .u8 k1,.bool b1,.int .i64 v1,.string s1,.slice al l1.length cl,.slice an m1.length cn] (by rfl) rfl (World.news_of_block (cs:=#[.int .u8 k1,.bool b1,.int .i64 v1,.string s1,.slice al l1.length cl,.slice an m1.length cn]) HE14.out) HOC.out (by decide) HMB.out.1 HMB.out.2.1 (by have:=Go.lt_of_block HT14.out.v;omega) _ rfl ?_;intro g2 cap2 y15 hown hgrow hat hlt;have hnx:=TM.next HT14.out (Nat.lt_succ_self V) HVW.out HH.out hgrow (by rw [HM.out.1];exact hown) hat;rw [HM.out.1,HM.out.2] at hnx;have HNX:=hid hnx;have HB15:Hid (Below w.heap.size w y15):=HT14.out.b.grown hgrow HT14.out.b.size (fun q hq=>by have:=(World.ownsRow.lt HT14.out.l q hq).1;have:=HVW.out;omega);have v4:y15.cell? ⟨V,4,none⟩=some (.slice pa i pc):=rowCell hnx.1 4;have v5:y15.cell? ⟨V,5,none⟩=some (.slice qa i qc):=rowCell hnx.1 5;have f4:=rowFree hnx.1 4;have f5:=rowFree hnx.1 5;clear hown hgrow hat hlt hnx;refine hK.out _ _ (fun _=>⟨HNX.out.1,HB15.out⟩) (fun hHeld=> ?_);have HS17:=hid (hHeld (by kernel_rfl));clear hHeld hK K;refine tillD1 17 (fun K hK=> ?step18)
                  case step18=>
                   go_simp;refine hK.out _ _ (fun hk=>by cases (show true=false from hk)) (fun _=> ?_);clear hK K;refine tillB 18 (v:= ?v19) (fun hk=>by cases (show true=false from hk)) ?hy19 ?_
                   case hy19=>intro w';go_simp;try with_reducible rfl
                   refine tillD1 19 (fun K hK=> ?step20)
                   case step20=>
                    go_simp;refine hK.out _ _ (fun hk=>by cases (show true=false from hk)) (fun _=> ?_);clear hK K;refine wpTill_done (by kernel_rfl) ?_ _;clear v4 v5 f4 f5;go_wp2_with fail;go_roundw
                    case rel=>
                     refine ⟨i+1,by omega,by go_num,t1.snoc ⟨k1,b1,v1,s1,l1,m1⟩,r,n1++ [nm'],nr,_,_,_,hid ⟨?_,?_,?_,?_⟩,hid HNX.out.2⟩
                     · rw [←HA.out.1];unfold J.T.snoc;rw [J.T.app_assoc];rfl
                     · rw [←HA.out.2.1,List.append_assoc];rfl
                     · unfold J.T.snoc;rw [J.T.app_length,HM.out.1];rfl
                     · rw [List.length_append,HM.out.2];rfl
                    case measure=>simp [intOf];omega
              case more14=>
                refine AllTill.consH (o:= ?oi21) ?ho21 (fun K hK=> ?step21) ?more21
                case ho21=>rfl
                case step21=>
                 go_simp;have hb14:Below y6.heap.size y6 (y6.alloc (.cells #[.int .u8 k1,.bool b1,.int .i64 v1,.string s1,.slice al l1.length cl,.slice an m1.length cn] 26)):=(Below.refl _ y6).alloc (Nat.le_refl _) _;have HT14:=hid (HT6.out.after hb14);have HE14:Hid ((y6.alloc (.cells #[.int .u8 k1,.bool b1,.int .i64 v1,.string s1,.slice al l1.length cl,.slice an m1.length cn] 26)).heap[y6.heap.size]? =some (.cells #[.int .u8 k1,.bool b1,.int .i64 v1,.string s1,.slice al l1.length cl,.slice an m1.length cn] 26 (0,0))):=heap_alloc_new y6 _;have HG14:Hid (wr.heap.size≤(y6.alloc (.cells #[.int .u8 k1,.bool b1,.int .i64 v1,.string s1,.slice al l1.length cl,.slice an m1.length cn] 26)).heap.size):=Nat.le_trans HG6.out hb14.size;have HE6b:=hid ((hb14.block _ (Go.lt_of_block HE6.out)).trans HE6.out);obtain ⟨y14,hy14⟩:∃y,y6.alloc (.cells #[.int .u8 k1,.bool b1,.int .i64 v1,.string s1,.slice al l1.length cl,.slice an m1.length cn] 26)=y:=⟨_,rfl⟩;rw [hy14] at HT14 HE14 HE6b HG14;try rw [hy14]
                 clear hy14 hb14;refine hK.out _ _ (fun _=>⟨HT14.out.v,HT14.out.b⟩) (fun hHeld=> ?_);have HS21:=hid (hHeld (by kernel_rfl));clear hHeld hK K;refine tillD1 7 (fun K hK=> ?step22)
                 case step22=>
                  have HNO:Hid ((Value.slice qa i qc).ownBlock≠some y6.heap.size):=fun e=>by have h9:=(World.ownsRow.lt HI.out.n _ e).2;have h8:=HG6.out;omega
                  refine step_append_lies _ (by rfl) (.tmp 83) (.tmp 88) 23 (by rfl) (V+1) 9 j0' _ 1 16 Tryz.underlying23 HJ0.out.1 HJ0.out.2.1 HJ0.out.2.2.1 HJ0.out.2.2.2 rfl (by decide) (.slice qa i qc) i (n1.map Value.string) (by rfl) (by have:=HT14.out.n;rw [HM.out.2] at this;exact this) ⟨wr.heap.size,0,none⟩ 1 1 [.string nm'] (by rfl) rfl (World.news_of_block (cs:=#[.string nm']) HE6b.out) HON.out (by decide) HMB.out.1 HMB.out.2.2 (by have:=Go.lt_of_block HT14.out.v;omega) _ rfl ?_;intro g1 cap1 y7 hown hgrow hat hlt;have HT7:=hid (TM.of HT14.out (Nat.lt_succ_self V) (Nat.le_succ_of_le HVW.out) hgrow (by rw [HM.out.2];exact hown) hat);have HE14c:Hid (y7.heap[y6.heap.size]? =some (.cells #[.int .u8 k1,.bool b1,.int .i64 v1,.string s1,.slice al l1.length cl,.slice an m1.length cn] 26 (0,0))):=(hgrow.block _ (Go.lt_of_block HE14.out) (fun e=>HNO.out e.symm)).trans HE14.out;clear hown hgrow hat hlt;refine hK.out _ _ (fun _=>⟨HT7.out.v,HT7.out.b⟩) (fun hHeld=> ?_);have HS22:=hid (hHeld (by kernel_rfl));clear hHeld hK K;refine tillB 16 (v:= ?v23) (fun _=>HS22.out) ?hy23 ?_
                  case hy23=>intro w';go_simp;try with_reducible rfl
                  refine tillD1 15 (fun K hK=> ?step24)
                  case step24=>
                   refine step_append_lies _ (by rfl) (.tmp 91) (.tmp 96) 22 (by rfl) (V+1) 26 i0' _ 6 80 Tryz.underlying22 HI0.out.1 HI0.out.2.1 HI0.out.2.2.1 HI0.out.2.2.2 rfl (by decide) (.slice pa i pc) i cs (by rfl) (by have:=HT7.out.l;rw [HM.out.1] at this;exact this) ⟨y6.heap.size,0,none⟩ 1 1 [.int .u8 k1,.bool b1,.int .i64 v1,.string s1,.slice al l1.length cl,.slice an m1.length cn] (by rfl) rfl (World.news_of_block (cs:=#[.int .u8 k1,.bool b1,.int .i64 v1,.string s1,.slice al l1.length cl,.slice an m1.length cn]) HE14c.out) HOC.out (by decide) HMB.out.1 HMB.out.2.1 (by have:=Go.lt_of_block HT7.out.v;omega) _ rfl ?_;intro g2 cap2 y15 hown hgrow hat hlt;have hnx:=TM.next HT7.out (Nat.lt_succ_self V) HVW.out HH.out hgrow (by rw [HM.out.1];exact hown) hat;rw [HM.out.1,HM.out.2] at hnx;have HNX:=hid hnx;have HB15:Hid (Below w.heap.size w y15):=HT7.out.b.grown hgrow HT7.out.b.size (fun q hq=>by have:=(World.ownsRow.lt HT7.out.l q hq).1;have:=HVW.out;omega);have v4:y15.cell? ⟨V,4,none⟩=some (.slice pa i pc):=rowCell hnx.1 4;have v5:y15.cell? ⟨V,5,none⟩=some (.slice qa i qc):=rowCell hnx.1 5;have f4:=rowFree hnx.1 4;have f5:=rowFree hnx.1 5;clear hown hgrow hat hlt hnx;refine hK.out _ _ (fun _=>⟨HNX.out.1,HB15.out⟩) (fun hHeld=> ?_);have HS24:=hid (hHeld (by kernel_rfl));clear hHeld hK K;refine tillD1 17 (fun K hK=> ?step25)
                   case step25=>
                    go_simp;refine hK.out _ _ (fun hk=>by cases (show true=false from hk)) (fun _=> ?_);clear hK K;refine tillB 18 (v:= ?v26) (fun hk=>by cases (show true=false from hk)) ?hy26 ?_
                    case hy26=>intro w';go_simp;try with_reducible rfl
                    refine tillD1 19 (fun K hK=> ?step27)
                    case step27=>
                     go_simp;refine hK.out _ _ (fun hk=>by cases (show true=false from hk)) (fun _=> ?_);clear hK K;refine wpTill_done (by kernel_rfl) ?_ _;clear v4 v5 f4 f5;go_wp2_with fail;go_roundw
                     case rel=>
                       refine ⟨i+1,by omega,by go_num,t1.snoc ⟨k1,b1,v1,s1,l1,m1⟩,r,n1++ [nm'],nr,_,_,_,hid ⟨?_,?_,?_,?_⟩,hid HNX.out.2⟩
                       · rw [←HA.out.1];unfold J.T.snoc;rw [J.T.app_assoc];rfl
                       · rw [←HA.out.2.1,List.append_assoc];rfl
                       · unfold J.T.snoc;rw [J.T.app_length,HM.out.1];rfl
                       · rw [List.length_append,HM.out.2];rfl
                     case measure=>simp [intOf];omega
                case more21=>
                 exact AllTill.nil
            case more13=>
              refine AllTill.consH (o:= ?oi28) ?ho28 (fun K hK=> ?step28) ?more28
              case ho28=>rfl
              case step28=>
                go_simp;have hb14:Below wr.drew.heap.size wr.drew ((wr.alloc (.cells #[.int .u8 k1,.bool b1,.int .i64 v1,.string s1,.slice al l1.length cl,.slice an m1.length cn] 26)).drew):=(show Below wr.drew.heap.size wr.drew (wr.drew.alloc (.cells #[.int .u8 k1,.bool b1,.int .i64 v1,.string s1,.slice al l1.length cl,.slice an m1.length cn] 26)) from (Below.refl _ wr.drew).alloc (Nat.le_refl _) (.cells #[.int .u8 k1,.bool b1,.int .i64 v1,.string s1,.slice al l1.length cl,.slice an m1.length cn] 26));have HT14:=hid (HT0.out.after hb14);have HE14:Hid (((wr.alloc (.cells #[.int .u8 k1,.bool b1,.int .i64 v1,.string s1,.slice al l1.length cl,.slice an m1.length cn] 26)).drew).heap[wr.heap.size]? =some (.cells #[.int .u8 k1,.bool b1,.int .i64 v1,.string s1,.slice al l1.length cl,.slice an m1.length cn] 26 (0,0))):=heap_alloc_new wr _;have HG14:Hid (wr.heap.size≤((wr.alloc (.cells #[.int .u8 k1,.bool b1,.int .i64 v1,.string s1,.slice al l1.length cl,.slice an m1.length cn] 26)).drew).heap.size):=hb14.size;obtain ⟨y14,hy14⟩:∃y,(wr.alloc (.cells #[.int .u8 k1,.bool b1,.int .i64 v1,.string s1,.slice al l1.length cl,.slice an m1.length cn] 26)).drew=y:=⟨_,rfl⟩;rw [hy14] at HT14 HE14 HG14;try rw [hy14]
                clear hy14 hb14;refine hK.out _ _ (fun _=>⟨HT14.out.v,HT14.out.b⟩) (fun hHeld=> ?_);have HS28:=hid (hHeld (by kernel_rfl));clear hHeld hK K;refine tillD1 6 (fun K hK=> ?step29)
                case step29=>
                 go_simp;have hb6:Below y14.heap.size y14 (y14.alloc (.cells #[.string nm'] 9)):=(Below.refl _ y14).alloc (Nat.le_refl _) _;have HT6:=hid (HT14.out.after hb6);have HE6:Hid ((y14.alloc (.cells #[.string nm'] 9)).heap[y14.heap.size]? =some (.cells #[.string nm'] 9 (0,0))):=heap_alloc_new y14 _;have HG6:Hid (wr.heap.size≤(y14.alloc (.cells #[.string nm'] 9)).heap.size):=Nat.le_trans HG14.out hb6.size;have HE14b:=hid ((hb6.block _ (Go.lt_of_block HE14.out)).trans HE14.out);obtain ⟨y6,hy6⟩:∃y,y14.alloc (.cells #[.string nm'] 9)=y:=⟨_,rfl⟩;rw [hy6] at HT6 HE6 HE14b HG6;try rw [hy6]
                 clear hy6 hb6;refine hK.out _ _ (fun _=>⟨HT6.out.v,HT6.out.b⟩) (fun hHeld=> ?_);have HS29:=hid (hHeld (by kernel_rfl));clear hHeld hK K;refine tillD1 7 (fun K hK=> ?step30)
                 case step30=>
                  have HNO:Hid ((Value.slice qa i qc).ownBlock≠some wr.heap.size):=fun e=>by have h9:=(World.ownsRow.lt HI.out.n _ e).2;omega
                  refine step_append_lies _ (by rfl) (.tmp 83) (.tmp 88) 23 (by rfl) (V+1) 9 j0' _ 1 16 Tryz.underlying23 HJ0.out.1 HJ0.out.2.1 HJ0.out.2.2.1 HJ0.out.2.2.2 rfl (by decide) (.slice qa i qc) i (n1.map Value.string) (by rfl) (by have:=HT6.out.n;rw [HM.out.2] at this;exact this) ⟨y14.heap.size,0,none⟩ 1 1 [.string nm'] (by rfl) rfl (World.news_of_block (cs:=#[.string nm']) HE6.out) HON.out (by decide) HMB.out.1 HMB.out.2.2 (by have:=Go.lt_of_block HT6.out.v;omega) _ rfl ?_;intro g1 cap1 y7 hown hgrow hat hlt;have HT7:=hid (TM.of HT6.out (Nat.lt_succ_self V) (Nat.le_succ_of_le HVW.out) hgrow (by rw [HM.out.2];exact hown) hat);have HE14c:Hid (y7.heap[wr.heap.size]? =some (.cells #[.int .u8 k1,.bool b1,.int .i64 v1,.string s1,.slice al l1.length cl,.slice an m1.length cn] 26 (0,0))):=(hgrow.block _ (Go.lt_of_block HE14b.out) (fun e=>HNO.out e.symm)).trans HE14b.out;clear hown hgrow hat hlt;refine hK.out _ _ (fun _=>⟨HT7.out.v,HT7.out.b⟩) (fun hHeld=> ?_);have HS30:=hid (hHeld (by kernel_rfl));clear hHeld hK K;refine tillB 16 (v:= ?v31) (fun _=>HS30.out) ?hy31 ?_
                  case hy31=>intro w';go_simp;try with_reducible rfl
                  refine tillD1 15 (fun K hK=> ?step32)
                  case step32=>
                   refine step_append_lies _ (by rfl) (.tmp 91) (.tmp 96) 22 (by rfl) (V+1) 26 i0' _ 6 80 Tryz.underlying22 HI0.out.1 HI0.out.2.1 HI0.out.2.2.1 HI0.out.2.2.2 rfl (by decide) (.slice pa i pc) i cs (by rfl) (by have:=HT7.out.l;rw [HM.out.1] at this;exact this) ⟨wr.heap.size,0,none⟩ 1 1 [.int .u8 k1,.bool b1,.int .i64 v1,.string s1,.slice al l1.length cl,.slice an m1.length cn] (by rfl) rfl (World.news_of_block (cs:=#[.int .u8 k1,.bool b1,.int .i64 v1,.string s1,.slice al l1.length cl,.slice an m1.length cn]) HE14c.out) HOC.out (by decide) HMB.out.1 HMB.out.2.1 (by have:=Go.lt_of_block HT7.out.v;omega) _ rfl ?_;intro g2 cap2 y15 hown hgrow hat hlt;have hnx:=TM.next HT7.out (Nat.lt_succ_self V) HVW.out HH.out hgrow (by rw [HM.out.1];exact hown) hat;rw [HM.out.1,HM.out.2] at hnx;have HNX:=hid hnx;have HB15:Hid (Below w.heap.size w y15):=HT7.out.b.grown hgrow HT7.out.b.size (fun q hq=>by have:=(World.ownsRow.lt HT7.out.l q hq).1;have:=HVW.out;omega);have v4:y15.cell? ⟨V,4,none⟩=some (.slice pa i pc):=rowCell hnx.1 4;have v5:y15.cell? ⟨V,5,none⟩=some (.slice qa i qc):=rowCell hnx.1 5;have f4:=rowFree hnx.1 4;have f5:=rowFree hnx.1 5;clear hown hgrow hat hlt hnx;refine hK.out _ _ (fun _=>⟨HNX.out.1,HB15.out⟩) (fun hHeld=> ?_);have HS32:=hid (hHeld (by kernel_rfl));clear hHeld hK K;refine tillD1 17 (fun K hK=> ?step33)
                   case step33=>
                    go_simp;refine hK.out _ _ (fun hk=>by cases (show true=false from hk)) (fun _=> ?_);clear hK K;refine tillB 18 (v:= ?v34) (fun hk=>by cases (show true=false from hk)) ?hy34 ?_
                    case hy34=>intro w';go_simp;try with_reducible rfl
                    refine tillD1 19 (fun K hK=> ?step35)
                    case step35=>
                     go_simp;refine hK.out _ _ (fun hk=>by cases (show true=false from hk)) (fun _=> ?_);clear hK K;refine wpTill_done (by kernel_rfl) ?_ _;clear v4 v5 f4 f5;go_wp2_with fail;go_roundw
                     case rel=>
                       refine ⟨i+1,by omega,by go_num,t1.snoc ⟨k1,b1,v1,s1,l1,m1⟩,r,n1++ [nm'],nr,_,_,_,hid ⟨?_,?_,?_,?_⟩,hid HNX.out.2⟩
                       · rw [←HA.out.1];unfold J.T.snoc;rw [J.T.app_assoc];rfl
                       · rw [←HA.out.2.1,List.append_assoc];rfl
                       · unfold J.T.snoc;rw [J.T.app_length,HM.out.1];rfl
                       · rw [List.length_append,HM.out.2];rfl
                     case measure=>simp [intOf];omega
              case more28=>
                exact AllTill.nil
      · have e0:decide ((i:Int)<(len:Int))=false:=decide_eq_false (by omega);have e1:decide (i<len)=false:=decide_eq_false hlt;have hil:i=len:=by omega
        subst hil;cases r with
        | cons=>
          have h2:=congrArg J.T.length HA.out.1;have h3:=HTU.out.2.1;have h4:=HTU.out.2.2.1;have h5:=HQ.out.1;rw [J.T.app_length,J.T.app_length,HA.out.2.2.1] at h2;simp only [J.T.length] at h2;omega
        | nil=>
          have hn2:nr= []:=by
            have h2:=congrArg List.length HA.out.2.1;have h3:=HTU.out.2.2.2.2.1;have h4:=HTU.out.2.2.2.2.2;have h5:=HQ.out.1;rw [List.length_append,List.length_append,HA.out.2.2.2] at h2;exact List.eq_nil_of_length_eq_zero (by omega)
          have ht1:t1=uq.app tq:=by have:=HA.out.1;rw [J.T.app_nil] at this;exact this
          have hn1:n1=nu++nt:=by have:=HA.out.2.1;rw [hn2,List.append_nil] at this;exact this
          have hl1:=HA.out.2.2.1;have hl2:=HA.out.2.2.2;clear HA hn2;subst ht1 hn1;obtain ⟨pa,pc,hlv⟩:∃a c,lv= .slice a i c:=by obtain ⟨a,c,h⟩:=own_shape HI.out.l;exact ⟨a,c,by rw [h,hl1]⟩
          obtain ⟨qa,qc,hnv⟩:∃a c,nv= .slice a i c:=by obtain ⟨a,c,h⟩:=own_shape HI.out.n;exact ⟨a,c,by rw [h,hl2]⟩
          subst hlv hnv;have hq1:nt.length=tq.length:=by rw [HTU.out.2.1,HTU.out.2.2.2.2.1]
          have hq2:nu.length=uq.length:=by rw [HTU.out.2.2.1,HTU.out.2.2.2.2.2]
          have hfx:=HX.out;have hse:=HSE.out;have hnz:=HNZ.out;rw [HTU.out.1,HTU.out.2.2.2.1] at hfx hse;rw [HTU.out.2.2.2.1] at hnz;have hpr:(⟨6,false,0,⟨#[]⟩,tq.app uq,nt++nu⟩:J.V).print=(s.data.toList,0):=by
            refine Prod.ext ?_ (hse.2.trans HER.out);rw [←hse.1]
          obtain ⟨u,hu1,hu2,hb1,hb2,hb3,hrd⟩:=law_plain hq1 hq2 hpr HS5.out hfx.2.2.2.1.2 hnz;have hfy:=turn_fits hq1 hq2 hfx;have HIS:=HI.out.is;have cP:=print_any ⟨6,false,0,⟨#[]⟩,uq.app tq,nu++nt⟩ hfy.1 hfy.2.1 hfy.2.2.1 hfy.2.2.2.1 hfy.2.2.2.2 wr (fun j=>j<wr.heap.size) [.int .u8 6,.bool false,.int .i64 0,.string ⟨#[]⟩,.slice pa i pc,.slice qa i qc] (HE.out.under HI.out.b).x.p.t (HE.out.under HI.out.b).x.p.z (HE.out.under HI.out.b).x.p.p ⟨_,_,rfl,HIS.1,HIS.2⟩ (fun _ h=>h);unfold PrintOf at cP;rw [hu1] at cP;have hut:(⟨u.data.toList.toArray⟩:ByteArray)=u:=rfl;dsimp only at cP;rw [hut] at cP;have HBD:=hid (show Body s ⟨6,false,0,⟨#[]⟩,tq.app uq,nt++nu⟩∧Body (⟨#[32]⟩++u++⟨#[10]⟩) ⟨6,false,0,⟨#[]⟩,uq.app tq,nu++nt⟩∧Body u ⟨6,false,0,⟨#[]⟩,uq.app tq,nu++nt⟩∧∀path,R.read false true path (⟨6,false,0,⟨#[]⟩,uq.app tq,nu++nt⟩,0,0)=R.read false true path (⟨6,false,0,⟨#[]⟩,tq.app uq,nt++nu⟩,0,0) from ⟨hb1,hb2,hb3,hrd⟩);have HU:=hid hu2;have hv:=HI.out.v;unfold vRow at hv;obtain ⟨x0,x1,x2,x3,x4,x5⟩:=x6_of hv;clear hu1 hu2 hb1 hb2 hb3 hrd hfx hfy hse hnz hpr HIS hq1 hq2 hut hl1 hl2 hv;go_wp2_with fail;refine cP.mono ?_;rintro e w9 ⟨rfl,hb⟩;have HB9:=hid (HI.out.b.trans (hb.mono HI.out.b.size));clear hb cP x0 x1 x2 x3 x4 x5;go_upto_region 17 with fail;rename Act→World→Prop=>KK
          rename ∀(a:Act) (w:World),_→KK a w=>hKK
          have hrt:=R.read_told path HBD.out.1.ev;by_cases hpm:path.data.toList= [47,109,111,100,101,108,115]
          · have ho:told (R.read false true path (⟨6,false,0,⟨#[]⟩,tq.app uq,nt++nu⟩,0,0))∨R.read false true path (⟨6,false,0,⟨#[]⟩,tq.app uq,nt++nu⟩,0,0)= .deploy:=by
              rcases hrt with h|h
              · exact Or.inl h.1
              · exact Or.inr h.1
            refine Code.wp_mono (fun e a w h=> ?_) (law_models HE.out HB9.out h3 HU.out HBD.out.1 HBD.out.2.1 HBD.out.2.2.1 hpm ho (by rw [HBD.out.2.2.2];exact ho));cases e with
            | normal=>exact hKK _ _ h
            | _=>exact h
          · have ho:=(hrt.resolve_right fun h=>hpm h.2);refine Code.wp_mono (fun e a w h=> ?_) (law_same HE.out HB9.out h3 HU.out HBD.out.1 HBD.out.2.1 HBD.out.2.2.1 hpm ho (HBD.out.2.2.2 path));cases e with
            | normal=>exact hKK _ _ h
            | _=>exact h
 · have g1:(er !=0)=true:=by simpa using he
   clear he;go_wp2_with fail;go_ret;exact ⟨rfl,HB3.out⟩
end Go.Proofs.YtohkomndapngjaaGreatDoor

