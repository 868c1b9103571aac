/- may: whether a value may be, but for how deep. -/
import Derived.Test.YtohkomndapngjaaGreatDoorRC12
import Derived.Test.YtohkomndapngjaaGreatDoorRC4
import Derived.Maps.Own
import Derived.Maps.OwnOps
import Derived.Maps.OwnSet
import Derived.Maps.Views
import Derived.Carry
import Derived.Test.YtohkomndapngjaaGreatDoorRC3
import Derived.Test.YtohkomndapngjaaGreatDoorShelfN
import Derived.Test.YtohkomndapngjaaGreatDoorShelfS
namespace Go.Proofs.YtohkomndapngjaaGreatDoor
set_option maxRecDepth 100000
set_option maxHeartbeats 16000000
open Go.RowKit Go.Maps
open Go.Lib (hid validD)
theorem utf8J_any (s:ByteArray) (w:World) (hs:s.size≤9223372036854775807) (hT:Tabs w):Calls Tryz.prog 82 #[.string s] w fun e w'=>e= .returned (.bool (validD s.data.toList))∧Below w.heap.size w w':=by
 have cV:=Tryz.utf8_ValidString s w hs hT;obtain ⟨q,hq⟩:∃q,validD s.data.toList=q:=⟨_,rfl⟩;rw [hq] at cV ⊢;clear hq hT;go_enter Tryz.func82,Tryz.ntmps82;go_wp2_with fail;refine cV.mono ?_;rintro e w' ⟨rfl,hb⟩;have HB:=hid hb;clear hb cV;go_wp2_with fail;go_ret;exact ⟨rfl,HB.out⟩
namespace J
def seenD (l:List (List UInt8)):DataW Unit:=l.foldl (fun D x=>D.put (.string x) (.lit (.bool true))) (.map [])
theorem seenD_snoc (l:List (List UInt8)) (x:List UInt8):seenD (l++ [x])=(seenD l).put (.string x) (.lit (.bool true)):=by simp [seenD]
theorem seen_at (x:List UInt8):∀(l:List (List UInt8)) (D:DataW Unit),IsMap D→(l.foldl (fun D x=>D.put (.string x) (.lit (.bool true))) D).atKey (.string x) (.lit (.bool false))=if x∈l then .lit (.bool true) else D.atKey (.string x) (.lit (.bool false))
 | [],D,_=>by simp
 | y::l,D,hD=>by
   rw [List.foldl_cons,seen_at x l _ (hD.put _ _)]
   by_cases h:x∈l
   · rw [if_pos h,if_pos (by simp [h])]
   · rw [if_neg h]
     by_cases e:x=y
     · subst e
       rw [if_pos (by simp),atKey_put_same hD (by first|trivial|exact ⟨_,rfl⟩|simp)]
     · rw [if_neg (by simp [h,e]),atKey_put_other (by simpa using e)]
theorem seenD_at (l:List (List UInt8)) (x:List UInt8):(seenD l).atKey (.string x) (.lit (.bool false))= .lit (.bool (decide (x∈l))):=by
 unfold seenD;rw [seen_at x l _ ⟨_,rfl⟩];by_cases h:x∈l
 · simp [h]
 · rw [if_neg h,decide_eq_false h];rfl
def T.brief:T→Prop
 | .nil=>True
 | .cons _ _ _ s l ns r=>(s.size≤1125899906842624∧(∀x∈ns,x.size≤1125899906842624)∧l.brief)∧r.brief
def V.brief (x:V):Prop:=x.s.size≤1125899906842624∧(∀y∈x.ns,y.size≤1125899906842624)∧x.l.brief
theorem T.brief_app:∀(a b:T),(a.app b).brief→a.brief∧b.brief
 | .nil,_,h=>⟨trivial,h⟩
 | .cons _ _ _ _ _ _ r,b,h=>⟨⟨h.1,(T.brief_app r b h.2).1⟩,(T.brief_app r b h.2).2⟩
theorem seen_any (a:List ByteArray) (x:ByteArray):(a.reverse.any fun y=>decide (y.data.toList=x.data.toList))=decide (x.data.toList∈a.map fun y=>y.data.toList):=by
 rw [Bool.eq_iff_iff,List.any_eq_true,decide_eq_true_iff,List.mem_map];constructor
 · rintro ⟨y,h1,h2⟩;exact ⟨y,List.mem_reverse.1 h1,of_decide_eq_true h2⟩
 · rintro ⟨y,h1,h2⟩;exact ⟨y,List.mem_reverse.2 h1,decide_eq_true h2⟩
theorem mayT_app:∀(a b:T),mayT (a.app b)=(mayT a&&mayT b)
 | .nil,b=>by simp [T.app,mayT]
 | .cons _ _ _ _ _ _ r,b=>by simp only [T.app,mayT,mayT_app r b,Bool.and_assoc]
theorem mayT_cons (k:Nat) (b:Bool) (n:Int) (s:ByteArray) (l:T) (ns:List ByteArray) (r:T):mayT (.cons k b n s l ns r)=((⟨k,b,n,s,l,ns⟩:V).may&&mayT r):=rfl
end J
theorem lawJ:Keyed Tryz.prog 9:=string_keyed Tryz.underlying9
theorem zeroBoolJ (w:World):(zeroValue 4).run Tryz.prog w= .ok (.bool false) w:=by kernel_rfl
theorem plainBoolJ {v:Value}{q:Bool}{ps:List MemPlace}(h:plainElem (H:=Unit) Tryz.prog 4 v=some (.lit (.bool q),ps)):v= .bool q:=by
 cases v<;>simp [plainElem,Tryz.underlying4] at h;rw [h.1]
theorem mapJ_below {P:Program}{k:TypeId}{R:Value→Option (DataW Unit×List MemPlace)}{b n:Nat}{D:DataW Unit}{w w':World}(h:w.ownsMap P k R b n D) (hb:Below w.heap.size w w'):w'.ownsMap P k R b n D:=
 h.kept (row:=none) ⟨hb.os,hb.tape,hb.output,hb.size,fun k hk _=>hb.block k hk⟩ (by simp)
theorem Tabs.under {w W:World}(h:Tabs w) (hb:Below w.heap.size w W):Tabs W:=h.below hb h.size.1 h.size.2
def MayC (x:J.V):Prop:=x.small→x.brief→∀(w:World) (P:Nat→Prop) (cs:List Value),Tabs w→x.Has w P cs→(∀b,P b→b<w.heap.size)→Calls Tryz.prog 41 #[.agg cs.toArray] w fun e w'=>e= .returned (.bool x.may)∧Below w.heap.size w w'
theorem enters65:∀args W,(callFunc 84 args).run Tryz.prog W= .ok (.enter 84 args) W:=enters_of Tryz.func84 (by kernel_rfl) rfl
theorem may1_any (x:J.V) (hC:MayC x) (h1:x.small) (h2:x.brief) (w:World) (P:Nat→Prop) (cs:List Value) (hT:Tabs w) (hh:x.Has w P cs) (hP:∀b,P b→b<w.heap.size):
  Calls Tryz.prog 84 #[.agg cs.toArray] w fun e w'=>e= .returned (.bool (!x.may))∧Below w.heap.size w w':=by
 obtain ⟨k2,b2,n2,s2,a1,l2,c1,a2,m2,c2,rfl⟩:=Shape.of hh;obtain ⟨w1,hw1⟩:∃w1,w.alloc (.cells #[.int .u8 k2,.bool b2,.int .i64 n2,.string s2,.slice a1 l2 c1,.slice a2 m2 c2] 26)=w1:=⟨_,rfl⟩;have hb1:Below w.heap.size w w1:=by rw [←hw1];exact (Below.refl _ w).alloc (Nat.le_refl _) _
 have hv1:w1.heap[w.heap.size]? =some (.cells #[.int .u8 k2,.bool b2,.int .i64 n2,.string s2,.slice a1 l2 c1,.slice a2 m2 c2] 26 (0,0)):=by rw [←hw1];exact heap_alloc_new w _
 have cM:=hC h1 h2 w1 P [.int .u8 k2,.bool b2,.int .i64 n2,.string s2,.slice a1 l2 c1,.slice a2 m2 c2] (hT.under hb1) (J.V.Has.keep (fun _ h=>h) (fun b h=>hb1.block b (hP b h)) hh) (fun b h=>Nat.lt_of_lt_of_le (hP b h) hb1.size);obtain ⟨q,hq⟩:∃q,x.may=q:=⟨_,rfl⟩;rw [hq] at cM ⊢;have HB:=hid hb1;have HW1:=hid hw1;obtain ⟨x0,x1,x2,x3,x4,x5⟩:=x6_of hv1;clear hb1 hw1 hv1 hh hC hT hP hq;go_enter Tryz.func84,Tryz.ntmps84;go_upto_region 1 with fail;rw [HW1.out];clear HW1;go_wp2_with fail;refine cM.mono ?_;rintro e w2 ⟨rfl,hb⟩;have HB2:=hid (HB.out.trans (hb.mono HB.out.size));clear hb cM;go_wp2_with fail;go_ret;exact ⟨by cases q<;>rfl,HB2.out⟩
def FirstOf (b:Bool) (w:World) (e:Ending) (W:World):Prop:=((∃i:Nat,e= .returned (.int .i64 i)∧b=false)∨(e= .returned (.int .i64 (-1))∧b=true))∧Below w.heap.size w W
theorem indexFunc_any (l:J.T) (hall:l.All MayC) (h0:l.length≤100000000000) (h1:l.small) (h2:l.brief) (w:World) (P:Nat→Prop) (lv:Value) (hT:Tabs w) (hl:l.In w P lv) (hPP:∀b,P b→b<w.heap.size):
  Calls Tryz.prog 164 #[lv,.func (.func 84) #[] #[]] w (FirstOf (J.mayT l) w):=by
 obtain ⟨la,lc,rfl⟩:=hl.shape;obtain ⟨g,o,hgo⟩:=in_addr hl;have HT:Hid ((l≠ .nil→l.At w P g (o+0*6))∧Below w.heap.size w w):=⟨fun hne=>by rw [Nat.zero_mul,Nat.add_zero];exact (hgo hne).2.2,Below.refl _ _⟩;obtain ⟨len,hlen⟩:∃len,l.length=len:=⟨_,rfl⟩;have HGO:=hid hgo;rw [hlen] at h0 HGO ⊢;have HLEN:=hid hlen;have HPP:=hid hPP;have HALL:=hid hall;have HSM:=hid h1;have HBR:=hid h2;have HTB:=hid hT;have hE:=enters65;clear hl hgo hlen hPP hall h1 h2 hT;go_enter Tryz.func164,Tryz.ntmps164;go_wp2_with fail;go_loopw [8] (fun vi wr=> ∃(i:Nat),i≤len∧vi= .int .i64 i∧∃(t1 t2:J.T),Hid (J.mayT t1=true)∧Hid (t1.app t2=l∧t1.length=i)∧Hid ((t2≠ .nil→t2.At wr P g (o+i*6))∧Below w.heap.size w wr)) (fun vi _=>len-(intOf vi).toNat)
 case atStart=>exact ⟨0,Nat.zero_le _,rfl,.nil,l,rfl,hid ⟨rfl,rfl⟩,HT⟩
 case round=>
  obtain ⟨i,hi,rfl,t1,t2,HM,HA,HI⟩:=hrel;clear HT;by_cases hlt:i<len
  · have d0:decide ((i:Int)<(len:Int))=true:=decide_eq_true (by omega);have d1:decide (i<len)=true:=decide_eq_true (by omega);have hlen2:t1.length+t2.length=len:=by rw [←HLEN.out,←HA.out.1,J.T.app_length]
    cases t2 with
    | nil=>have:=HA.out.2;simp [J.T.length] at hlen2;omega
    | cons k1 b1 v1 s1 l1 ns1 r=>
      obtain ⟨_,y0,y1,y2,y3,⟨lv1,y4,hl1⟩,⟨nv1,y5,hn1⟩,hr⟩:=HI.out.1 (fun h=>by cases h);have hl1':l1.In wr P lv1:=by
        rcases hl1 with hl|⟨g',o',c,h6,h7,h8,h9⟩
        · exact Or.inl hl
        · exact Or.inr ⟨g',o',c,h6,h7,h8,h9⟩
      obtain ⟨al,cl,rfl⟩:=hl1'.shape;obtain ⟨an,cn,rfl⟩:=hn1.shape;obtain ⟨hga,hgc, -⟩:=HGO.out (fun h=>by have:=HLEN.out;rw [h] at this;simp [J.T.length] at this;omega);subst hga;have cM:=may1_any ⟨k1,b1,v1,s1,l1,ns1⟩ (J.T.All.app (p:=MayC) t1 (.cons k1 b1 v1 s1 l1 ns1 r) (by rw [HA.out.1];exact HALL.out)).2.1 (J.T.small_app t1 (.cons k1 b1 v1 s1 l1 ns1 r) (by rw [HA.out.1];exact HSM.out)).2.1 (J.T.brief_app t1 (.cons k1 b1 v1 s1 l1 ns1 r) (by rw [HA.out.1];exact HBR.out)).2.1
        wr P [.int .u8 k1,.bool b1,.int .i64 v1,.string s1,.slice al l1.length cl,.slice an ns1.length cn] (HTB.out.under HI.out.2) ⟨_,_,rfl,hl1',hn1⟩ (fun j hj=>Nat.lt_of_lt_of_le (HPP.out j hj) HI.out.2.size)
      obtain ⟨q,hq⟩:∃q,(⟨k1,b1,v1,s1,l1,ns1⟩:J.V).may=q:=⟨_,rfl⟩;rw [hq] at cM;have HQ:=hid hq;have HR:=hid hr;have hi0:(0:Int)≤(i:Int):=by omega
      have hi1:(i:Int)<(len:Int):=by omega
      clear hl1 hl1' hn1 hr hlen2 hq;cases q
      · rw [Bool.not_false] at cM;go_wp2_with fail;refine cM.mono ?_;rintro e w2 ⟨rfl,hb⟩;have HB:=hid (HI.out.2.trans (hb.mono HI.out.2.size));clear hb cM y0 y1 y2 y3 y4 y5;go_wp2_with fail;go_ret;exact ⟨Or.inl ⟨i,rfl,by rw [←HA.out.1,J.mayT_app,J.mayT_cons,HQ.out];simp⟩,HB.out⟩
      · rw [Bool.not_true] at cM;go_wp2_with fail;refine cM.mono ?_;rintro e w2 ⟨rfl,hb⟩;have HB:=hid (HI.out.2.trans (hb.mono HI.out.2.size));have HR2:=hid (J.T.At.keep (fun _ h=>h) (fun j hj=>hb.block j (Nat.lt_of_lt_of_le (HPP.out j hj) HI.out.2.size)) _ _ _ HR.out);clear hb cM y0 y1 y2 y3 y4 y5;go_wp2_with fail;go_roundw
        case rel=>
          refine ⟨i+1,by omega,by go_num,t1.snoc ⟨k1,b1,v1,s1,l1,ns1⟩,r,?_,hid ⟨?_,?_⟩,hid ⟨fun _=>by rw [show o+(i+1)*6=o+i*6+6 by omega];exact HR2.out,HB.out⟩⟩
          · show J.mayT _=_;unfold J.T.snoc;rw [J.mayT_app,HM.out];unfold J.V.one;rw [J.mayT_cons,HQ.out];rfl
          · rw [←HA.out.1];unfold J.T.snoc;rw [J.T.app_assoc];rfl
          · rw [J.T.snoc_length,HA.out.2]
        case measure=>simp [intOf];omega
  · have d0:decide ((i:Int)<(len:Int))=false:=decide_eq_false (by omega);have d1:decide (i<len)=false:=decide_eq_false (by omega);have ht2:t2= .nil:=T_nil (by have:=HA.out.2;have:=HLEN.out;rw [←HA.out.1,J.T.app_length] at this;omega);subst ht2;have hl:t1=l:=by rw [←HA.out.1,J.T.app_nil]
    have HF:Hid (J.mayT l=true):=by show _=_;rw [←hl];exact HM.out
    clear HA hl hlt;go_wp2_with fail;go_ret;exact ⟨Or.inr ⟨rfl,HF.out⟩,HI.out.2⟩
theorem containsFunc_any (l:J.T) (hall:l.All MayC) (h0:l.length≤100000000000) (h1:l.small) (h2:l.brief) (w:World) (P:Nat→Prop) (lv:Value) (hT:Tabs w) (hl:l.In w P lv) (hPP:∀b,P b→b<w.heap.size):
   Calls Tryz.prog 83 #[lv,.func (.func 84) #[] #[]] w fun e w'=>e= .returned (.bool (!J.mayT l))∧Below w.heap.size w w':=by
 have cI:=indexFunc_any l hall h0 h1 h2 w P lv hT hl hPP;obtain ⟨q,hq⟩:∃q,J.mayT l=q:=⟨_,rfl⟩;rw [hq] at cI ⊢;clear hq hall hT hl hPP;go_enter Tryz.func83,Tryz.ntmps83;go_wp2_with fail;refine cI.mono ?_;rintro e w2 ⟨⟨i,rfl,rfl⟩|⟨rfl,rfl⟩,hb⟩
 · have d:decide ((0:Int)≤(i:Int))=true:=decide_eq_true (by omega);have HB:=hid hb;clear hb cI;go_wp2_with fail;go_ret;exact ⟨rfl,HB.out⟩
 · have HB:=hid hb;clear hb cI;go_wp2_with fail;go_ret;exact ⟨rfl,HB.out⟩
open Go.RowKit
def Pw (w:World):Prop:=Lib.TabIs Tryz.prog w "internal/strconv.uint64pow10" .u64 Lib.pow10Tab
theorem below_growJ (w:World) (k:Nat) (os:Array Obj):Below w.heap.size w (Go.Sort.grow (w.drewN k) os):=
 (below_drewN (Below.refl _ w) k).trans ⟨rfl,rfl,rfl,by simp [Go.Sort.grow],fun j hj=>by simp only [Go.Sort.grow];rw [Array.getElem?_append_left (show j<(w.drewN k).heap.size from hj)]⟩
namespace J
def T.num:T→Prop
 | .nil=>True
 | .cons _ _ n _ l _ r=>(-9223372036854775808≤n∧n≤9223372036854775807)∧l.num∧r.num
def V.num (x:V):Prop:=(-9223372036854775808≤x.n∧x.n≤9223372036854775807)∧x.l.num
theorem T.num_app:∀(a b:T),(a.app b).num→a.num∧b.num
 | .nil,_,h=>⟨trivial,h⟩
 | .cons _ _ _ _ _ _ r,b,⟨h1,h2,h3⟩=>⟨⟨h1,h2,(T.num_app r b h3).1⟩,(T.num_app r b h3).2⟩
theorem names_valid:∀(ns seen:List ByteArray),namesOk seen ns=true→∀x∈ns,validD x.data.toList=true
 | [],_,_,x,hx=>by cases hx
 | y::r,seen,h,x,hx=>by
   simp only [namesOk,Bool.and_eq_true] at h
   rcases List.mem_cons.mp hx with rfl|hx
   · exact h.2.1
   · exact names_valid r (y::seen) h.2.2 x hx
theorem may_parts {k:Nat}{b:Bool}{n:Int}{s:ByteArray}{l:T}{ns:List ByteArray}(h:(⟨k,b,n,s,l,ns⟩:V).may=true):(1≤k∧k≤6)∧(k=6→ns.length=l.length)∧validD s.data.toList=true∧(∀x∈ns,validD x.data.toList=true)∧mayT l=true:=by
 simp only [V.may,flat,plainOk,listOk,Bool.and_eq_true,decide_eq_true_eq] at h;obtain ⟨⟨⟨h1,_⟩,⟨_,_,h3⟩,h4,h5⟩,h6⟩:=h;refine ⟨h1,fun e=> ?_,h4,names_valid ns [] h5,h6⟩;rw [e] at h3;simpa using h3
theorem showT_snoc {ob:Bool}(x:V):∀(t:T) (f:Bool) (ns:List ByteArray),showT ob f (t.snoc x) ns=showT ob f t ns++((if f=true∧t.length=0 then [] else [44])++((if ob then quoteL ((ns.drop t.length).headD ⟨#[]⟩).data.toList++ [58] else [])++x.show))
 | .nil,f,ns=>by
   obtain ⟨k,b,n,s,l,m⟩:=x
   simp only [T.snoc,T.app,V.one,showT,V.show,T.length,List.drop_zero,List.append_nil,List.nil_append,and_true]
 | .cons k b n s l m r,f,ns=>by
   have:=showT_snoc (ob:=ob) x r false (ns.drop 1)
   unfold T.snoc at this ⊢
   simp only [T.app,showT,this,T.length]
   rw [List.drop_drop,show 1+r.length=r.length+1 by omega]
   simp
theorem showT_le {ob:Bool}:∀(a b:T) (f:Bool) (ns:List ByteArray),(showT ob f a ns).length≤(showT ob f (a.app b) ns).length
 | .nil,_,f,ns=>by simp [showT]
 | .cons k b n s l m r,c,f,ns=>by
   have:=showT_le (ob:=ob) r c false (ns.drop 1)
   simp only [T.app,showT,List.length_append] at this ⊢
   omega
theorem quoteIn_ge:∀(l:List UInt8),l.length≤(quoteIn l).length
 | []=>Nat.le_refl _
 | b::r=>by
   have h2:=quoteIn_ge r;have h1:1≤(byteJ b).length:=by
    unfold byteJ;repeat' split
    all_goals simp
   rw [quoteIn,List.length_append,List.length_cons];omega
theorem quoteL_ge (l:List UInt8):l.length+2≤(quoteL l).length:=by
 have:=quoteIn_ge l;unfold quoteL;rw [List.length_cons,List.length_append,List.length_singleton];omega
theorem headD_drop {ns:List ByteArray}{i:Nat}{nm:ByteArray}(h:ns[i]? =some nm):(ns.drop i).headD ⟨#[]⟩=nm:=by
 rw [List.headD_eq_head?_getD,List.head?_drop,h];rfl
theorem SIn.addr {w:World}{P:Nat→Prop}{ns:List ByteArray}{a:Option Addr}{c:Nat}(h:SIn w P ns (.slice a ns.length c)):∃g o,(0<ns.length→a=some ⟨g,o,none⟩∧ns.length≤c)∧∀j x,ns[j]? =some x→P g∧w.cell? ⟨g,o+j,none⟩=some (.string x):=by
 rcases h with ⟨h,_⟩|⟨h0,g,o,c',h1,h2,h3,h4⟩
 · subst h;exact ⟨0,0,fun hne=>by simp at hne,fun j x hj=>by simp at hj⟩
 · simp only [Value.slice.injEq] at h1;obtain ⟨rfl,_,rfl⟩:=h1;exact ⟨g,o,fun _=>⟨rfl,h3⟩,fun j x hj=>⟨h2,h4 j x hj⟩⟩
end J
structure WS (w:World) (B bb X:Nat) (P:Nat→Prop) (O:Obj) (acc:List UInt8) (t:J.T) (g o:Nat) (ns:List ByteArray) (gn on:Nat) (W:World):Prop where
 v:W.heap[X]? =some O
 c:t≠ .nil→t.At W P g o
 n:∀j x,ns[j]? =some x→P gn∧W.cell? ⟨gn,on+j,none⟩=some (.string x)
 b:Below B w W
 k:Kept bb w W
 h:Holds B bb acc W
theorem WS.wrote {w W W' : World} {B bb X : Nat} {P : Nat → Prop} {O : Obj} {acc acc' : List UInt8} {t : J.T} {g o : Nat} {ns : List ByteArray} {gn on : Nat} (h : WS w B bb X P O acc t g o ns gn on W) (hP : ∀ b, P b → b < B) (hX : X ≠ bb) (hO : ∀ c fz, O ≠ .cells c 5 fz)
  (hh : Holds B bb acc' W') (hb : Below B W W') (hk : Kept bb W W') : WS w B bb X P O acc' t g o ns gn on W' :=
 ⟨hk X O h.v (fun e => hX (Option.some.inj e)) hO, fun hne => J.T.At.keep (fun _ h => h) (fun b hb' => hb.block b (hP b hb')) _ _ _ (h.c hne),
  fun j x hj => ⟨(h.n j x hj).1, by rw [World.cell?_of_block (w := W) (hb.block gn (hP gn (h.n j x hj).1))]; exact (h.n j x hj).2⟩, h.b.trans hb, Lib.OthersKept.trans h.k hk, hh⟩
theorem WS.after {w W W':World}{B bb X:Nat}{P:Nat→Prop}{O:Obj}{acc:List UInt8}{t:J.T}{g o:Nat}{ns:List ByteArray}{gn on:Nat}(h:WS w B bb X P O acc t g o ns gn on W) (hP:∀b,P b→b<B) (hX:X≠bb) (hO:∀c fz,O≠ .cells c 5 fz)
 (hb:Below W.heap.size W W'):WS w B bb X P O acc t g o ns gn on W':=h.wrote hP hX hO (Holds.after h.h hb) (hb.mono h.h.bw) (kept_after hb)
theorem WS.head {w W:World}{B bb X:Nat}{P:Nat→Prop}{O:Obj}{acc:List UInt8}{k:Nat}{b:Bool}{n:Int}{s:ByteArray}{l:J.T}{ms:List ByteArray}{r:J.T}{g o:Nat}{ns:List ByteArray}{gn on:Nat}(h:WS w B bb X P O acc (.cons k b n s l ms r) g o ns gn on W):
  ∃(al:Option Addr) (cl:Nat) (an:Option Addr) (cn:Nat),W.cell? ⟨g,o,none⟩=some (.int .u8 k)∧W.cell? ⟨g,o+1,none⟩=some (.bool b)∧W.cell? ⟨g,o+2,none⟩=some (.int .i64 n)∧W.cell? ⟨g,o+3,none⟩=some (.string s)∧W.cell? ⟨g,o+4,none⟩=some (.slice al l.length cl)∧W.cell? ⟨g,o+5,none⟩=some (.slice an ms.length cn)∧
    (⟨k,b,n,s,l,ms⟩:J.V).Has W P [.int .u8 k,.bool b,.int .i64 n,.string s,.slice al l.length cl,.slice an ms.length cn]∧WS w B bb X P O acc r g (o+6) ns gn on W:=by
 obtain ⟨hv,hc,hn0,hb,hk,hh⟩:=h;obtain ⟨_,h0,h1,h2,h3,⟨lv,h4,hl⟩,⟨nv,h5,hn⟩,hr⟩:=hc (fun h=>by cases h);have hl':l.In W P lv:=by
  rcases hl with hl|⟨g',o',c,h6,h7,h8,h9⟩
  · exact Or.inl hl
  · exact Or.inr ⟨g',o',c,h6,h7,h8,h9⟩
 obtain ⟨al,cl,rfl⟩:=hl'.shape;obtain ⟨an,cn,rfl⟩:=hn.shape;exact ⟨al,cl,an,cn,h0,h1,h2,h3,h4,h5,⟨_,_,rfl,hl',hn⟩,hv,fun _=>hr,hn0,hb,hk,hh⟩
def WriteC (x:J.V):Prop:=x.small→x.num→x.may=true→∀(w:World) (B bb:Nat) (l0:List UInt8) (P:Nat→Prop) (cs:List Value),Holds B bb l0 w→x.Has w P cs→(∀b,P b→b<B)→(∀W,Below B w W→Tz W∧Pw W)→l0.length+6*x.show.length+2≤10000000000000→
 Calls Tryz.prog 12 #[.pointer (some ⟨bb,0,none⟩),.agg cs.toArray] w fun e w'=>e= .returned (.tuple #[])∧Holds B bb (l0++x.show) w'∧Below B w w'∧Kept bb w w'
theorem write_flat1 (b:Bool) (n:Int) (s:ByteArray) (l:J.T) (ns:List ByteArray):WriteC ⟨1,b,n,s,l,ns⟩:=by
 intro hsm hnum hmay w B bb l0 P cs hO hhas hPP hZ hlen;obtain ⟨hs1,hs2,hs3⟩:=hsm;obtain ⟨hn1,hn2⟩:=hnum;obtain ⟨lv,nv,rfl,hl,hn⟩:=hhas;have hl:l.In w P lv:=hl;have hn:J.SIn w P ns nv:=hn;obtain ⟨la,lc,rfl⟩:=hl.shape;obtain ⟨na,nc,rfl⟩:=hn.shape;obtain ⟨hk16,hk6,hvs,hvn,hml⟩:=J.may_parts hmay;have hbw:=Holds.bw hO;have hbb:=Holds.lt hO;simp only at hn1 hn2 hs1 hs3;obtain ⟨w1,hw1⟩:∃w1,w.alloc (.cells #[.int .u8 1,.bool b,.int .i64 n,.string s,.slice la l.length lc,.slice na ns.length nc] 26)=w1:=⟨_,rfl⟩;have hbl:Below w.heap.size w w1:=by rw [←hw1];exact (Below.refl _ w).alloc (Nat.le_refl _) _
 have hv1:w1.heap[w.heap.size]? =some (.cells #[.int .u8 1,.bool b,.int .i64 n,.string s,.slice la l.length lc,.slice na ns.length nc] 26 (0,0)):=by rw [←hw1];exact heap_alloc_new w _
 have x0:w1.cell? ⟨w.heap.size,0,none⟩=some (.int .u8 1):=(x6_of hv1).1;obtain ⟨_,x1,x2,x3,x4,x5⟩:=x6_of hv1;have HO1:=hid (Holds.after hO hbl);have hb1:B≤w1.heap.size:=Nat.le_trans hbw hbl.size;have HB:=hid (hbl.mono hbw);have HK:=hid (kept_after (b:=bb) hbl);have HZ1:Hid (Pw w1):=(hZ w1 HB.out).2;have HL:=hid hlen;have HW1:=hid hw1;clear hl hn hw1 hv1 hbl hmay hO hml hPP hlen hbw hs1 hs2 hs3 hn2 hvn hk6 hk16;have hl0:l0.length+2≤10000000000000:=by have:=HL.out;omega
 go_enter Tryz.func12,Tryz.ntmps12;go_upto_region 1 with fail;rw [show w.alloc (.cells #[.int .u8 1,.bool b,.int .i64 n,.string s,.slice la l.length lc,.slice na ns.length nc] 26)=w1 from HW1.out];clear HW1;have cW:=writeString_any B bb l0 ⟨#[110,117,108,108]⟩ w1 HO1.out (by show _+4≤_;omega) hb1;go_wp2_with fail;refine cW.mono ?_;rintro e w2 ⟨rfl,h1,h2,h3⟩;have HF:Hid (Holds B bb (l0++(⟨1,b,n,s,l,ns⟩:J.V).show) w2∧Below B w w2∧Kept bb w w2):=⟨by exact h1,HB.out.trans h2,Lib.OthersKept.trans HK.out h3⟩;clear h1 h2 h3;go_wp2_with fail;go_end0;exact ⟨rfl,HF.out⟩
theorem write_flat2 (b:Bool) (n:Int) (s:ByteArray) (l:J.T) (ns:List ByteArray):WriteC ⟨2,b,n,s,l,ns⟩:=by
 intro hsm hnum hmay w B bb l0 P cs hO hhas hPP hZ hlen;obtain ⟨hs1,hs2,hs3⟩:=hsm;obtain ⟨hn1,hn2⟩:=hnum;obtain ⟨lv,nv,rfl,hl,hn⟩:=hhas;have hl:l.In w P lv:=hl;have hn:J.SIn w P ns nv:=hn;obtain ⟨la,lc,rfl⟩:=hl.shape;obtain ⟨na,nc,rfl⟩:=hn.shape;obtain ⟨hk16,hk6,hvs,hvn,hml⟩:=J.may_parts hmay;have hbw:=Holds.bw hO;have hbb:=Holds.lt hO;simp only at hn1 hn2 hs1 hs3;obtain ⟨w1,hw1⟩:∃w1,w.alloc (.cells #[.int .u8 2,.bool b,.int .i64 n,.string s,.slice la l.length lc,.slice na ns.length nc] 26)=w1:=⟨_,rfl⟩;have hbl:Below w.heap.size w w1:=by rw [←hw1];exact (Below.refl _ w).alloc (Nat.le_refl _) _
 have hv1:w1.heap[w.heap.size]? =some (.cells #[.int .u8 2,.bool b,.int .i64 n,.string s,.slice la l.length lc,.slice na ns.length nc] 26 (0,0)):=by rw [←hw1];exact heap_alloc_new w _
 have x0:w1.cell? ⟨w.heap.size,0,none⟩=some (.int .u8 2):=(x6_of hv1).1;obtain ⟨_,x1,x2,x3,x4,x5⟩:=x6_of hv1;have HO1:=hid (Holds.after hO hbl);have hb1:B≤w1.heap.size:=Nat.le_trans hbw hbl.size;have HB:=hid (hbl.mono hbw);have HK:=hid (kept_after (b:=bb) hbl);have HZ1:Hid (Pw w1):=(hZ w1 HB.out).2;have HL:=hid hlen;have HW1:=hid hw1;clear hl hn hw1 hv1 hbl hmay hO hml hPP hlen hbw hs1 hs2 hs3 hn2 hvn hk6 hk16;have hl0:l0.length+2≤10000000000000:=by have:=HL.out;omega
 go_enter Tryz.func12,Tryz.ntmps12;go_upto_region 1 with fail;rw [show w.alloc (.cells #[.int .u8 2,.bool b,.int .i64 n,.string s,.slice la l.length lc,.slice na ns.length nc] 26)=w1 from HW1.out];clear HW1;go_wp2_with fail;refine (Tryz.strconv_FormatBool b w1).mono ?_;rintro e w2' ⟨rfl,hw⟩;rw [hw];clear hw;go_wp2_with fail;refine (writeString_any B bb l0 ⟨(Lib.formatBool b).toArray⟩ w1 HO1.out (by show _+(Lib.formatBool b).toArray.size≤_;cases b<;>(show _+List.length (_::_)≤_)<;>simp<;>omega) hb1).mono ?_;rintro e w2 ⟨rfl,h1,h2,h3⟩;have HF:Hid (Holds B bb (l0++(⟨2,b,n,s,l,ns⟩:J.V).show) w2∧Below B w w2∧Kept bb w w2):=⟨by cases b<;>exact h1,HB.out.trans h2,Lib.OthersKept.trans HK.out h3⟩;clear h1 h2 h3;go_wp2_with fail;go_end0;exact ⟨rfl,HF.out⟩
theorem write_flat3 (b:Bool) (n:Int) (s:ByteArray) (l:J.T) (ns:List ByteArray):WriteC ⟨3,b,n,s,l,ns⟩:=by
 intro hsm hnum hmay w B bb l0 P cs hO hhas hPP hZ hlen;obtain ⟨hs1,hs2,hs3⟩:=hsm;obtain ⟨hn1,hn2⟩:=hnum;obtain ⟨lv,nv,rfl,hl,hn⟩:=hhas;have hl:l.In w P lv:=hl;have hn:J.SIn w P ns nv:=hn;obtain ⟨la,lc,rfl⟩:=hl.shape;obtain ⟨na,nc,rfl⟩:=hn.shape;obtain ⟨hk16,hk6,hvs,hvn,hml⟩:=J.may_parts hmay;have hbw:=Holds.bw hO;have hbb:=Holds.lt hO;simp only at hn1 hn2 hs1 hs3;obtain ⟨w1,hw1⟩:∃w1,w.alloc (.cells #[.int .u8 3,.bool b,.int .i64 n,.string s,.slice la l.length lc,.slice na ns.length nc] 26)=w1:=⟨_,rfl⟩;have hbl:Below w.heap.size w w1:=by rw [←hw1];exact (Below.refl _ w).alloc (Nat.le_refl _) _
 have hv1:w1.heap[w.heap.size]? =some (.cells #[.int .u8 3,.bool b,.int .i64 n,.string s,.slice la l.length lc,.slice na ns.length nc] 26 (0,0)):=by rw [←hw1];exact heap_alloc_new w _
 have x0:w1.cell? ⟨w.heap.size,0,none⟩=some (.int .u8 3):=(x6_of hv1).1;obtain ⟨_,x1,x2,x3,x4,x5⟩:=x6_of hv1;have HO1:=hid (Holds.after hO hbl);have hb1:B≤w1.heap.size:=Nat.le_trans hbw hbl.size;have HB:=hid (hbl.mono hbw);have HK:=hid (kept_after (b:=bb) hbl);have HZ1:Hid (Pw w1):=(hZ w1 HB.out).2;have HL:=hid hlen;have HW1:=hid hw1;clear hl hn hw1 hv1 hbl hmay hO hml hPP hlen hbw hs1 hs2 hs3 hn2 hvn hk6 hk16;have hl0:l0.length+2≤10000000000000:=by have:=HL.out;omega
 go_enter Tryz.func12,Tryz.ntmps12;go_upto_region 1 with fail;rw [show w.alloc (.cells #[.int .u8 3,.bool b,.int .i64 n,.string s,.slice la l.length lc,.slice na ns.length nc] 26)=w1 from HW1.out];clear HW1;go_wp2_with fail;refine (Tryz.strconv_FormatInt_10 n hn1.1 hn1.2 w1 HZ1.out).mono ?_;rintro e w2' ⟨rfl,kk,os,hw⟩;have hb2:Below w1.heap.size w1 w2':=by rw [hw];exact below_growJ w1 kk os
 have HO2:=hid (Holds.after HO1.out hb2);have hb2s:=hb2.size;have HB1:=hid (HB.out.trans (hb2.mono hb1));have HK1:Hid (Kept bb w w2'):=Lib.OthersKept.trans HK.out (kept_after hb2);clear hw hb2;go_wp2_with fail;refine (writeString_any B bb l0 ⟨(Lib.itoa n).toArray⟩ w2' HO2.out (by have:=HL.out;show _+(Lib.itoa n).toArray.size≤_;rw [List.size_toArray];have h:=this;simp only [J.V.show] at h;simp at h;omega) (by omega)).mono ?_;rintro e w2 ⟨rfl,h1,h2,h3⟩;have HF:Hid (Holds B bb (l0++(⟨3,b,n,s,l,ns⟩:J.V).show) w2∧Below B w w2∧Kept bb w w2):=⟨by exact h1,HB1.out.trans h2,Lib.OthersKept.trans HK1.out h3⟩;clear h1 h2 h3;go_wp2_with fail;go_end0;exact ⟨rfl,HF.out⟩
theorem write_flat4 (b:Bool) (n:Int) (s:ByteArray) (l:J.T) (ns:List ByteArray):WriteC ⟨4,b,n,s,l,ns⟩:=by
 intro hsm hnum hmay w B bb l0 P cs hO hhas hPP hZ hlen;obtain ⟨hs1,hs2,hs3⟩:=hsm;obtain ⟨hn1,hn2⟩:=hnum;obtain ⟨lv,nv,rfl,hl,hn⟩:=hhas;have hl:l.In w P lv:=hl;have hn:J.SIn w P ns nv:=hn;obtain ⟨la,lc,rfl⟩:=hl.shape;obtain ⟨na,nc,rfl⟩:=hn.shape;obtain ⟨hk16,hk6,hvs,hvn,hml⟩:=J.may_parts hmay;have hbw:=Holds.bw hO;have hbb:=Holds.lt hO;simp only at hn1 hn2 hs1 hs3;obtain ⟨w1,hw1⟩:∃w1,w.alloc (.cells #[.int .u8 4,.bool b,.int .i64 n,.string s,.slice la l.length lc,.slice na ns.length nc] 26)=w1:=⟨_,rfl⟩;have hbl:Below w.heap.size w w1:=by rw [←hw1];exact (Below.refl _ w).alloc (Nat.le_refl _) _
 have hv1:w1.heap[w.heap.size]? =some (.cells #[.int .u8 4,.bool b,.int .i64 n,.string s,.slice la l.length lc,.slice na ns.length nc] 26 (0,0)):=by rw [←hw1];exact heap_alloc_new w _
 have x0:w1.cell? ⟨w.heap.size,0,none⟩=some (.int .u8 4):=(x6_of hv1).1;obtain ⟨_,x1,x2,x3,x4,x5⟩:=x6_of hv1;have HO1:=hid (Holds.after hO hbl);have hb1:B≤w1.heap.size:=Nat.le_trans hbw hbl.size;have HB:=hid (hbl.mono hbw);have HK:=hid (kept_after (b:=bb) hbl);have HZ1:Hid (Pw w1):=(hZ w1 HB.out).2;have HL:=hid hlen;have HW1:=hid hw1;clear hl hn hw1 hv1 hbl hmay hO hml hPP hlen hbw hs1 hs2 hs3 hn2 hvn hk6 hk16;have hl0:l0.length+2≤10000000000000:=by have:=HL.out;omega
 go_enter Tryz.func12,Tryz.ntmps12;go_upto_region 1 with fail;rw [show w.alloc (.cells #[.int .u8 4,.bool b,.int .i64 n,.string s,.slice la l.length lc,.slice na ns.length nc] 26)=w1 from HW1.out];clear HW1;have cQ:=quote_any HO1.out hvs (fun W hW=>(hZ W (HB.out.trans hW)).1) (by have:=HL.out;have h:=J.quoteL_ge s.data.toList;simp only [J.V.show] at this;simp at this;rw [←Lib.size_eq] at h;omega);clear hZ;go_wp2_with fail;refine cQ.mono ?_;rintro e w2 ⟨rfl,h1,h2,h3⟩;have HF:Hid (Holds B bb (l0++(⟨4,b,n,s,l,ns⟩:J.V).show) w2∧Below B w w2∧Kept bb w w2):=⟨by exact h1,HB.out.trans h2,Lib.OthersKept.trans HK.out h3⟩;clear h1 h2 h3;go_wp2_with fail;go_end0;exact ⟨rfl,HF.out⟩
end Go.Proofs.YtohkomndapngjaaGreatDoor

