/- fill: a deed is filled with a body's fields. -/
import Derived.Test.YtohkomndapngjaaGreatDoorRC27
namespace Go.Proofs.YtohkomndapngjaaGreatDoor
set_option maxRecDepth 100000
set_option maxHeartbeats 16000000
open Go.RowKit Go.Maps
open Go.Lib (hid)
theorem R.fill_no {K:Nat}{d:R.D}{b:Bool}{n:Int}{s:ByteArray}{t:J.T}{ns:List ByteArray}(h:R.go K d t ns=none):R.fill K d ⟨6,b,n,s,t,ns⟩=none:=by
 unfold R.fill;simp only [h];rfl
theorem R.fill_is {K:Nat}{d d':R.D}{b:Bool}{n:Int}{s:ByteArray}{t:J.T}{ns:List ByteArray}(h:R.go K d t ns=some d'):R.fill K d ⟨6,b,n,s,t,ns⟩=if R.musts K ns=true then some d' else none:=by
 unfold R.fill;simp only [h];rfl
theorem enters_put (i:Nat) (hi:i≤5):∀args W,(callFunc (R.fnOf i) args).run Tryz.prog W= .ok (.enter (R.fnOf i) args) W:=by
 obtain rfl|rfl|rfl|rfl|rfl|rfl:i=0∨i=1∨i=2∨i=3∨i=4∨i=5:=by omega
 · exact enters_of Tryz.func116 (by kernel_rfl) rfl
 · exact enters_of Tryz.func120 (by kernel_rfl) rfl
 · exact enters_of Tryz.func117 (by kernel_rfl) rfl
 · exact enters_of Tryz.func118 (by kernel_rfl) rfl
 · exact enters_of Tryz.func119 (by kernel_rfl) rfl
 · exact enters_of Tryz.func115 (by kernel_rfl) rfl
theorem fill_obj (b0:Bool) (n0:Int) (s0:ByteArray) (t:J.T) (ns:List ByteArray) (lv nv:Value) (w:World) (P:Nat→Prop) (A K:Nat) (id:Int) (d:R.D) (hK:2≤K∧K≤9) (hl:t.In w P lv) (hs:J.SIn w P ns nv) (hln:ns.length=t.length) (hlt:t.length≤65536) (hev:R.evenT t)
  (hd:d.patch= []) (hP:∀b,P b→b<w.heap.size∧b≠A) (hn:∀a∈ns,a.size≤1000000000000) (h:DAt w A w.heap.size K id d (.slice none 0 0)):
  Calls Tryz.prog 20 #[.pointer (some ⟨A,0,none⟩),.agg #[.int .u8 6,.bool b0,.int .i64 n0,.string s0,lv,nv]] w (PutOf A w.heap.size K id (.slice none 0 0) w (R.fill K d ⟨6,b0,n0,s0,t,ns⟩)):=by
 obtain ⟨RES,hR⟩:∃r,R.fill K d ⟨6,b0,n0,s0,t,ns⟩=r:=⟨_,rfl⟩;rw [hR];have HR:=hid hR;clear hR;obtain ⟨la,lc,rfl⟩:=hl.shape;obtain ⟨na,nc,rfl⟩:=hs.shape;obtain ⟨len,hlen⟩:∃len,t.length=len:=⟨_,rfl⟩;rw [hln,hlen] at hs ⊢;rw [hlen] at hlt hl;obtain ⟨XO,hXO⟩:∃o,Obj.cells #[.int .u8 6,.bool b0,.int .i64 n0,.string s0,.slice la len lc,.slice na len nc] 26 (0,0)=o:=⟨_,rfl⟩;obtain ⟨X,hX⟩:∃X,w.heap.size=X:=⟨_,rfl⟩;obtain ⟨w0,hw0⟩:∃w0,w.alloc (.cells #[.int .u8 6,.bool b0,.int .i64 n0,.string s0,.slice la len lc,.slice na len nc] 26)=w0:=⟨_,rfl⟩;have hx0:w0.heap[X]? =some XO:=by rw [←hw0,←hX,←hXO];exact heap_alloc_new w _
 have hb0:Below w.heap.size w w0:=by rw [←hw0];exact (Below.refl _ w).alloc (Nat.le_refl _) _
 obtain ⟨g,o,hgo⟩:∃g o,t≠ .nil→la=some ⟨g,o,none⟩∧len≤lc∧t.At w P g o:=by
  rcases hl with ⟨h1, -⟩|⟨g,o,c,h1,h2,h3,h4⟩
  · exact ⟨0,0,fun h=>absurd h1 h⟩
  · cases h1;exact ⟨g,o,fun _=>⟨rfl,by rw [←hlen];exact h2,h4⟩⟩
 have cF:=fields_any K hK w0;have HD0:=hid h;have HD00:=hid (h.below hb0);have HSN0:=hid hs;have HX0:=hid hx0;have HB0:=hid hb0;have HGO:=hid hgo;have HPP:=hid hP;have HLN:=hid (show ns.length=len by rw [hln,hlen]);have HXA:Hid (X≠A):=by have:=Go.lt_of_block h.sx.h;show _≠_;omega
 have HXW:=hid hX;have HLL:=hid hlen;have HXO:=hid hXO;have HW0:=hid hw0;have HEV:=hid hev;have HDP:=hid hd;have HNS:=hid hn;have HK:=hid hK;obtain ⟨k,hk⟩:∃k:Int,(K:Int)=k:=⟨_,rfl⟩;have a0:w0.cell? ⟨A,0,none⟩=some (.int .u8 k):=by rw [←hk];exact rowCell HD00.out.sx.h 0
 rw [hk] at cF;clear hK hl hs hln hev hd hP hn h hlen hXO hX hw0 hx0 hb0 hgo;go_enter Tryz.func20,Tryz.ntmps20;go_upto_region 1 with fail;rw [HW0.out,HXW.out];clear HW0;have hx:=HX0.out;rw [←HXO.out] at hx;obtain ⟨x0,x1,x2,x3,x4,x5⟩:=x6_of hx;clear hx;go_wp2_with fail;refine cF.mono ?_;rintro e w2 ⟨v,rfl,hm,hb⟩;clear x0 x1 x2 x3 x4 x5 a0 cF;obtain ⟨M,L,rfl,hM,hL,hma⟩:=hm;have hx2:=(hb.block X (Go.lt_of_block HX0.out)).trans HX0.out;have hb2:=HB0.out.trans (hb.mono HB0.out.size);have hk0:∀b,P b→w2.heap[b]? =w.heap[b]? :=fun b hb=>hb2.block b (HPP.out b hb).1
 have HV2:Hid (FR w P A K id ns (.slice na len nc) X XO M L 0 d (.slice none 0 0) t g (o+0*6) w2):=by
  refine ⟨HD00.out.below hb,(G2.refl _ _ _).below hb2,hx2,fun hne=> ?_,J.SIn.keep (fun _ h=>h) hk0 HSN0.out,hma,?_,fun k hk=>by cases hk⟩
  · rw [Nat.zero_mul,Nat.add_zero];exact J.T.At.keep (fun _ h=>h) hk0 _ _ _ (HGO.out hne).2.2
  · rw [HDP.out];exact Nat.zero_le _
 have HMX:Hid (X<M):=by have:=Go.lt_of_block HX0.out;show _<_;omega
 have HMA:Hid (M≠A):=by have:=Go.lt_of_block HD0.out.sx.h;have:=HMX.out;have:=HXW.out;show _≠_;omega
 have HA2:Hid (R.go K d t ns=R.go K d t (ns.drop 0)∧t.length+0=len∧R.evenT t):=⟨rfl,HLL.out,HEV.out⟩;have HL:=hid hL;have hx:=HV2.out.bx;rw [←HXO.out] at hx;obtain ⟨x0,x1,x2,x3,x4,x5⟩:=x6_of hx;clear hx hb hx2 hb2 hk0 hma hM hL;go_wp2_with fail;clear x0 x1 x2 x3 x4 x5;go_loopw [23] (fun vi wr=> ∃(i:Nat),i≤len∧vi= .int .i64 i∧∃(d1:R.D) (pv:Value) (t2:J.T),Hid (R.go K d t ns=R.go K d1 t2 (ns.drop i)∧t2.length+i=len∧R.evenT t2)∧Hid (FR w P A K id ns (.slice na len nc) X XO M L i d1 pv t2 g (o+i*6) wr)) (fun vi _=>len-(intOf vi).toNat)
 case atStart=>exact ⟨0,Nat.zero_le _,rfl,d,_,t,HA2,HV2⟩
 case round=>
  obtain ⟨i,hi,rfl,d1,pv,t2,HA,HI⟩:=hrel;clear HV2 HA2;by_cases hlt':i<len
  · have e0:decide ((i:Int)<(len:Int))=true:=decide_eq_true (by omega);have e1:decide (i<len)=true:=decide_eq_true (by omega);cases t2 with
    | nil=>have:=HA.out.2.1;simp only [J.T.length] at this;omega
    | cons k1 b1 n1 s1 l1 m1 r=>
      obtain ⟨hPg,y0,y1,y2,y3,⟨lv1,y4,hl1⟩,⟨nv1,y5,hn1⟩,hpr⟩:=HI.out.ca (fun h=>by cases h);obtain ⟨al,cl,rfl⟩:=J.T.In.shape (w:=wr) (P:=P) (t:=l1) hl1;obtain ⟨an,cn,rfl⟩:=hn1.shape;obtain ⟨nm,hnm⟩:∃nm,ns[i]? =some nm:=⟨_,List.getElem?_eq_getElem (by have:=HLN.out;omega)⟩;have HN:=hid hnm;have htn:t≠ .nil:=fun e=>by
        have h1:=HLL.out;rw [e] at h1;simp only [J.T.length] at h1;omega
      obtain ⟨rfl,hgc, -⟩:=HGO.out htn;have hi0:(0:Int)≤(i:Int):=by omega
      have hi1:(i:Int)<(len:Int):=by omega
      obtain ⟨nb,no,hna,hnc,hnj⟩:∃nb no,na=some ⟨nb,no,none⟩∧len≤nc∧wr.cell? ⟨nb,no+i,none⟩=some (.string nm):=by
        rcases HI.out.sn with ⟨h1, -⟩|⟨-,nb,no,c,h1, -,h2,h3⟩
        · exact absurd HN.out (by rw [h1];simp)
        · cases h1;exact ⟨nb,no,rfl,by rw [←HLN.out];exact h2,h3 i nm HN.out⟩
      subst hna;have HFN:Hid (R.go K d t ns=none→RES=none):=fun h=>HR.out.symm.trans (R.fill_no h)
      have HY:Hid (l1.In wr P (.slice al l1.length cl)∧J.SIn wr P m1 (.slice an m1.length cn)∧P g∧wr.cell? ⟨g,o+i*6+4,none⟩=some (.slice al l1.length cl)∧wr.cell? ⟨g,o+i*6+5,none⟩=some (.slice an m1.length cn)):=⟨hl1,hn1,hPg,y4,y5⟩;have hlook:=R.look_fl K nm HL.out;have hnms:nm.size≤1000000000000:=HNS.out nm (List.mem_of_getElem? hnm);have hxx:=HI.out.bx;rw [←HXO.out] at hxx;obtain ⟨x0,x1,x2,x3,x4,x5⟩:=x6_of hxx;rcases look_field HI.out.ma nm hnms with ⟨hlk,hrun⟩|⟨f,hlk,hrun⟩
      · rw [hlk] at hlook;have HNO:Hid (RES=none):=HFN.out (by rw [HA.out.1,R.go_step HN.out];unfold R.step;rw [←hlook]);clear hPg hl1 hn1 hpr hnm htn hlk hlook hxx hnms y0 y1 y2 y3 y4 y5;go_upto_region 8 with fail;obtain ⟨Y,hY⟩:∃Y,wr.heap.size=Y:=⟨_,rfl⟩;obtain ⟨w5,hw5⟩:∃w5,wr.alloc (.cells #[.bool false,.int .u8 0,.nilFunc] 154)=w5:=⟨_,rfl⟩;have hb5:Below wr.heap.size wr w5:=by rw [←hw5];exact (Below.refl _ wr).alloc (Nat.le_refl _) _
        have HY5:Hid (w5.heap[Y]? =some (.cells #[.bool false,.int .u8 0,.nilFunc] 154 (0,0))):=by show _=_;rw [←hw5,←hY];exact heap_alloc_new wr _
        have HI5:=hid (HI.out.after (fun b hb=>(HPP.out b hb).1) hb5);rw [hw5,hY];have HBD5:=hid (HI5.out.after (fun b hb=>(HPP.out b hb).1) (Below.refl _ w5).drew);clear hw5 hY hb5 hrun hnj x0 x1 x2 x3 x4 x5;refine wp_region_till (S:=(fun W:World=>FR w P A K id ns (.slice (some ⟨nb,no,none⟩) len nc) X XO M L i d1 pv (.cons k1 b1 n1 s1 l1 m1 r) g (o+i*6) W∧W.heap[Y]? =some (.cells #[.bool false,.int .u8 0,.nilFunc] 154 (0,0)))) 22 (by kernel_rfl) ?_;have HS:=hid (show ((fun W:World=>FR w P A K id ns (.slice (some ⟨nb,no,none⟩) len nc) X XO M L i d1 pv (.cons k1 b1 n1 s1 l1 m1 r) g (o+i*6) W∧W.heap[Y]? =some (.cells #[.bool false,.int .u8 0,.nilFunc] 154 (0,0)))) _ from ⟨HBD5.out,HY5.out⟩);refine wpTill_any 0 (oi:= ?oi1) (v:= ?v1) ?ho1 (by kernel_rfl) (by kernel_rfl) (by kernel_rfl) (by kernel_rfl) ?hq1 (Or.inl ⟨?hw1,?hy1⟩) (fun _=>HS.out) ?rest1
        case ho1=>simp only [List.getElem?_toArray,List.getElem?_cons_zero];rfl
        case hw1=>rfl
        case hy1=>intro w;go_simp;try with_reducible rfl
        case hq1=>exact fun _ _ _ h=>h
        try simp only [Act.put,List.setIfInBounds_toArray,List.set_cons_zero,List.set_cons_succ]
        refine wpTill_any 1 (oi:= ?oi2) (v:= ?v2) ?ho2 (by kernel_rfl) (by kernel_rfl) (by kernel_rfl) (by kernel_rfl) ?hq2 (Or.inl ⟨?hw2,?hy2⟩) (fun _=>HS.out) ?rest2
        case ho2=>simp only [List.getElem?_toArray,List.getElem?_cons_succ,List.getElem?_cons_zero];rfl
        case hw2=>rfl
        case hy2=>intro w;go_simp;try with_reducible rfl
        case hq2=>exact fun _ _ _ h=>h
        try simp only [Act.put,List.setIfInBounds_toArray,List.set_cons_zero,List.set_cons_succ]
        refine wpTill_any 2 (oi:= ?oi3) (v:= ?v3) ?ho3 (by kernel_rfl) (by kernel_rfl) (by kernel_rfl) (by kernel_rfl) ?hq3 (Or.inl ⟨?hw3,?hy3⟩) (fun _=>HS.out) ?rest3
        case ho3=>simp only [List.getElem?_toArray,List.getElem?_cons_succ,List.getElem?_cons_zero];rfl
        case hw3=>rfl
        case hy3=>intro w;go_simp;try with_reducible rfl
        case hq3=>exact fun _ _ _ h=>h
        try simp only [Act.put,List.setIfInBounds_toArray,List.set_cons_zero,List.set_cons_succ]
        refine wpTill_any 3 (oi:= ?oi4) (v:=undef) ?ho4 (by kernel_rfl) (by kernel_rfl) (by kernel_rfl) (by kernel_rfl) ?hq4 (Or.inr ⟨?hw4,rfl⟩) (fun _=>HS.out) ?rest4
        case ho4=>simp only [List.getElem?_toArray,List.getElem?_cons_succ,List.getElem?_cons_zero];rfl
        case hw4=>rfl
        case hq4=>exact fun _ _ _ h=>h
        try simp only [Act.put,List.setIfInBounds_toArray,List.set_cons_zero,List.set_cons_succ]
        refine wpTill_any 4 (oi:= ?oi5) (v:=undef) ?ho5 (by kernel_rfl) (by kernel_rfl) (by kernel_rfl) (by kernel_rfl) ?hq5 (Or.inr ⟨?hw5,rfl⟩) (fun _=>HS.out) ?rest5
        case ho5=>simp only [List.getElem?_toArray,List.getElem?_cons_succ,List.getElem?_cons_zero];rfl
        case hw5=>rfl
        case hq5=>exact fun _ _ _ h=>h
        try simp only [Act.put,List.setIfInBounds_toArray,List.set_cons_zero,List.set_cons_succ]
        refine wpTill_any 5 (oi:= ?oi6) (v:=undef) ?ho6 (by kernel_rfl) (by kernel_rfl) (by kernel_rfl) (by kernel_rfl) ?hq6 (Or.inr ⟨?hw6,rfl⟩) (fun _=>HS.out) ?rest6
        case ho6=>simp only [List.getElem?_toArray,List.getElem?_cons_succ,List.getElem?_cons_zero];rfl
        case hw6=>rfl
        case hq6=>exact fun _ _ _ h=>h
        try simp only [Act.put,List.setIfInBounds_toArray,List.set_cons_zero,List.set_cons_succ]
        refine wpTill_any 6 (oi:= ?oi7) (v:=undef) ?ho7 (by kernel_rfl) (by kernel_rfl) (by kernel_rfl) (by kernel_rfl) ?hq7 (Or.inr ⟨?hw7,rfl⟩) (fun _=>HS.out) ?rest7
        case ho7=>simp only [List.getElem?_toArray,List.getElem?_cons_succ,List.getElem?_cons_zero];rfl
        case hw7=>rfl
        case hq7=>exact fun _ _ _ h=>h
        try simp only [Act.put,List.setIfInBounds_toArray,List.set_cons_zero,List.set_cons_succ]
        refine wpTill_any 7 (oi:= ?oi8) (v:=undef) ?ho8 (by kernel_rfl) (by kernel_rfl) (by kernel_rfl) (by kernel_rfl) ?hq8 (Or.inr ⟨?hw8,rfl⟩) (fun _=>HS.out) ?rest8
        case ho8=>simp only [List.getElem?_toArray,List.getElem?_cons_succ,List.getElem?_cons_zero];rfl
        case hw8=>rfl
        case hq8=>exact fun _ _ _ h=>h
        try simp only [Act.put,List.setIfInBounds_toArray,List.set_cons_zero,List.set_cons_succ]
        refine wpTill_any 8 (oi:= ?oi9) (v:=undef) ?ho9 (by kernel_rfl) (by kernel_rfl) (by kernel_rfl) (by kernel_rfl) ?hq9 (Or.inr ⟨?hw9,rfl⟩) (fun _=>HS.out) ?rest9
        case ho9=>simp only [List.getElem?_toArray,List.getElem?_cons_succ,List.getElem?_cons_zero];rfl
        case hw9=>rfl
        case hq9=>exact fun _ _ _ h=>h
        try simp only [Act.put,List.setIfInBounds_toArray,List.set_cons_zero,List.set_cons_succ]
        refine wpTill_any 9 (oi:= ?oi10) (v:=undef) ?ho10 (by kernel_rfl) (by kernel_rfl) (by kernel_rfl) (by kernel_rfl) ?hq10 (Or.inr ⟨?hw10,rfl⟩) (fun _=>HS.out) ?rest10
        case ho10=>simp only [List.getElem?_toArray,List.getElem?_cons_succ,List.getElem?_cons_zero];rfl
        case hw10=>rfl
        case hq10=>exact fun _ _ _ h=>h
        try simp only [Act.put,List.setIfInBounds_toArray,List.set_cons_zero,List.set_cons_succ]
        refine wpTill_any 10 (oi:= ?oi11) (v:=undef) ?ho11 (by kernel_rfl) (by kernel_rfl) (by kernel_rfl) (by kernel_rfl) ?hq11 (Or.inr ⟨?hw11,rfl⟩) (fun _=>HS.out) ?rest11
        case ho11=>simp only [List.getElem?_toArray,List.getElem?_cons_succ,List.getElem?_cons_zero];rfl
        case hw11=>rfl
        case hq11=>exact fun _ _ _ h=>h
        try simp only [Act.put,List.setIfInBounds_toArray,List.set_cons_zero,List.set_cons_succ]
        refine wpTill_any 11 (oi:= ?oi12) (v:=undef) ?ho12 (by kernel_rfl) (by kernel_rfl) (by kernel_rfl) (by kernel_rfl) ?hq12 (Or.inr ⟨?hw12,rfl⟩) (fun _=>HS.out) ?rest12
        case ho12=>simp only [List.getElem?_toArray,List.getElem?_cons_succ,List.getElem?_cons_zero];rfl
        case hw12=>rfl
        case hq12=>exact fun _ _ _ h=>h
        try simp only [Act.put,List.setIfInBounds_toArray,List.set_cons_zero,List.set_cons_succ]
        refine wpTill_any 12 (oi:= ?oi13) (v:= ?v13) ?ho13 (by kernel_rfl) (by kernel_rfl) (by kernel_rfl) (by kernel_rfl) ?hq13 (Or.inl ⟨?hw13,?hy13⟩) (fun _=>HS.out) ?rest13
        case ho13=>simp only [List.getElem?_toArray,List.getElem?_cons_succ,List.getElem?_cons_zero];rfl
        case hw13=>rfl
        case hy13=>intro w;go_simp;try with_reducible rfl
        case hq13=>exact fun _ _ _ h=>h
        try simp only [Act.put,List.setIfInBounds_toArray,List.set_cons_zero,List.set_cons_succ]
        refine wpTill_any 13 (oi:= ?oi14) (v:= ?v14) ?ho14 (by kernel_rfl) (by kernel_rfl) (by kernel_rfl) (by kernel_rfl) ?hq14 (Or.inl ⟨?hw14,?hy14⟩) (fun _=>HS.out) ?rest14
        case ho14=>simp only [List.getElem?_toArray,List.getElem?_cons_succ,List.getElem?_cons_zero];rfl
        case hw14=>rfl
        case hy14=>intro w;go_simp;try with_reducible rfl
        case hq14=>exact fun _ _ _ h=>h
        try simp only [Act.put,List.setIfInBounds_toArray,List.set_cons_zero,List.set_cons_succ]
        refine wpTill_any 14 (oi:= ?oi15) (v:=undef) ?ho15 (by kernel_rfl) (by kernel_rfl) (by kernel_rfl) (by kernel_rfl) ?hq15 (Or.inr ⟨?hw15,rfl⟩) (fun _=>HS.out) ?rest15
        case ho15=>simp only [List.getElem?_toArray,List.getElem?_cons_succ,List.getElem?_cons_zero];rfl
        case hw15=>rfl
        case hq15=>exact fun _ _ _ h=>h
        try simp only [Act.put,List.setIfInBounds_toArray,List.set_cons_zero,List.set_cons_succ]
        refine wpTill_any 15 (oi:= ?oi16) (v:=undef) ?ho16 (by kernel_rfl) (by kernel_rfl) (by kernel_rfl) (by kernel_rfl) ?hq16 (Or.inr ⟨?hw16,rfl⟩) (fun _=>HS.out) ?rest16
        case ho16=>simp only [List.getElem?_toArray,List.getElem?_cons_succ,List.getElem?_cons_zero];rfl
        case hw16=>rfl
        case hq16=>exact fun _ _ _ h=>h
        try simp only [Act.put,List.setIfInBounds_toArray,List.set_cons_zero,List.set_cons_succ]
        refine wpTill_any 16 (oi:= ?oi17) (v:=undef) ?ho17 (by kernel_rfl) (by kernel_rfl) (by kernel_rfl) (by kernel_rfl) ?hq17 (Or.inr ⟨?hw17,rfl⟩) (fun _=>HS.out) ?rest17
        case ho17=>simp only [List.getElem?_toArray,List.getElem?_cons_succ,List.getElem?_cons_zero];rfl
        case hw17=>rfl
        case hq17=>exact fun _ _ _ h=>h
        try simp only [Act.put,List.setIfInBounds_toArray,List.set_cons_zero,List.set_cons_succ]
        refine wpTill_any 17 (oi:= ?oi18) (v:=undef) ?ho18 (by kernel_rfl) (by kernel_rfl) (by kernel_rfl) (by kernel_rfl) ?hq18 (Or.inr ⟨?hw18,rfl⟩) (fun _=>HS.out) ?rest18
        case ho18=>simp only [List.getElem?_toArray,List.getElem?_cons_succ,List.getElem?_cons_zero];rfl
        case hw18=>rfl
        case hq18=>exact fun _ _ _ h=>h
        try simp only [Act.put,List.setIfInBounds_toArray,List.set_cons_zero,List.set_cons_succ]
        refine wpTill_any 18 (oi:= ?oi19) (v:=undef) ?ho19 (by kernel_rfl) (by kernel_rfl) (by kernel_rfl) (by kernel_rfl) ?hq19 (Or.inr ⟨?hw19,rfl⟩) (fun _=>HS.out) ?rest19
        case ho19=>simp only [List.getElem?_toArray,List.getElem?_cons_succ,List.getElem?_cons_zero];rfl
        case hw19=>rfl
        case hq19=>exact fun _ _ _ h=>h
        try simp only [Act.put,List.setIfInBounds_toArray,List.set_cons_zero,List.set_cons_succ]
        refine wpTill_any 19 (oi:= ?oi20) (v:=undef) ?ho20 (by kernel_rfl) (by kernel_rfl) (by kernel_rfl) (by kernel_rfl) ?hq20 (Or.inr ⟨?hw20,rfl⟩) (fun _=>HS.out) ?rest20
        case ho20=>simp only [List.getElem?_toArray,List.getElem?_cons_succ,List.getElem?_cons_zero];rfl
        case hw20=>rfl
        case hq20=>exact fun _ _ _ h=>h
        try simp only [Act.put,List.setIfInBounds_toArray,List.set_cons_zero,List.set_cons_succ]
        refine wpTill_any 20 (oi:= ?oi21) (v:=undef) ?ho21 (by kernel_rfl) (by kernel_rfl) (by kernel_rfl) (by kernel_rfl) ?hq21 (Or.inr ⟨?hw21,rfl⟩) (fun _=>HS.out) ?rest21
        case ho21=>simp only [List.getElem?_toArray,List.getElem?_cons_succ,List.getElem?_cons_zero];rfl
        case hw21=>rfl
        case hq21=>exact fun _ _ _ h=>h
        try simp only [Act.put,List.setIfInBounds_toArray,List.set_cons_zero,List.set_cons_succ]
        refine wpTill_any 21 (oi:= ?oi22) (v:=undef) ?ho22 (by kernel_rfl) (by kernel_rfl) (by kernel_rfl) (by kernel_rfl) ?hq22 (Or.inr ⟨?hw22,rfl⟩) (fun _=>HS.out) ?rest22
        case ho22=>simp only [List.getElem?_toArray,List.getElem?_cons_succ,List.getElem?_cons_zero];rfl
        case hw22=>rfl
        case hq22=>exact fun _ _ _ h=>h
        try simp only [Act.put,List.setIfInBounds_toArray,List.set_cons_zero,List.set_cons_succ]
        refine wpTill_ready (rs:= [22]) (by kernel_rfl) (by decide) ?_;refine AllTill.consH (o:= ?oi23) ?ho23 (fun K hK=> ?step23) ?more23
        case ho23=>simp only [List.getElem?_toArray,List.getElem?_cons_succ,List.getElem?_cons_zero];rfl
        case step23=>
          rw [if_neg (fun h=>by cases (show false=true from h))];refine hK.out _ _ (fun hk=>by cases (show true=false from hk)) (fun _=> ?_);clear hK K;try simp only [Act.put,List.setIfInBounds_toArray,List.set_cons_zero,List.set_cons_succ]
          refine wpTill_any 23 (oi:= ?oi24) (v:=undef) ?ho24 (by kernel_rfl) (by kernel_rfl) (by kernel_rfl) (by kernel_rfl) ?hq24 (Or.inr ⟨?hw24,rfl⟩) (fun hk=>by cases (show true=false from hk)) ?rest24
          case ho24=>simp only [List.getElem?_toArray,List.getElem?_cons_succ,List.getElem?_cons_zero];rfl
          case hw24=>rfl
          case hq24=>exact fun _ _ _ h=>h
          try simp only [Act.put,List.setIfInBounds_toArray,List.set_cons_zero,List.set_cons_succ]
          refine wpTill_any 24 (oi:= ?oi25) (v:= ?v25) ?ho25 (by kernel_rfl) (by kernel_rfl) (by kernel_rfl) (by kernel_rfl) ?hq25 (Or.inl ⟨?hw25,?hy25⟩) (fun hk=>by cases (show true=false from hk)) ?rest25
          case ho25=>simp only [List.getElem?_toArray,List.getElem?_cons_succ,List.getElem?_cons_zero];rfl
          case hw25=>rfl
          case hy25=>intro w;go_simp;try with_reducible rfl
          case hq25=>exact fun _ _ _ h=>h
          try simp only [Act.put,List.setIfInBounds_toArray,List.set_cons_zero,List.set_cons_succ]
          refine wpTill_done (by kernel_rfl) ?_ _;go_wp2_with fail;go_ret;exact ⟨HBD5.out.gr,Or.inl ⟨HNO.out,rfl⟩⟩
        case more23=>
          exact AllTill.nil
      · rw [hlk] at hlook;obtain ⟨fnm,fm,fk,fi⟩:=f;obtain ⟨hft,hfe⟩:=R.look_mem hlook.symm;have hki:=R.kind_to K _ hft;simp only at hki hfe;by_cases hkk:fk=k1
        · have q0:((fk:Int) !=(k1:Int))=false:=by subst hkk;simp
          have q1:((fk:Int)==(k1:Int))=true:=by subst hkk;simp
          have HST:Hid (R.step K d1 nm ⟨k1,b1,n1,s1,l1,m1⟩=R.put fi d1 ⟨k1,b1,n1,s1,l1,m1⟩):=by
            show R.step K d1 nm _=_;unfold R.step;rw [←hlook];exact if_pos hkk
          have hev2:k1=6→m1.length=l1.length∧l1.length≤65536:=by
            exact HA.out.2.2.1
          have HPL:Hid (∀d',R.put fi d1 ⟨k1,b1,n1,s1,l1,m1⟩=some d'→d'.patch.length≤d1.patch.length+65536):=fun d' hd'=>by
            have:=R.put_len (by rcases hki with h|h<;>omega) hd';simp only at this;split at this
            · have:=(hev2 (by rcases hki with h|h<;>omega)).2;omega
            · omega
          have HP5:Hid (fi=5→m1.length=l1.length∧d1.patch.length+l1.length≤1000000000000):=fun h5=>by
            have h6:=hev2 (by rcases hki with h|h<;>omega);have:=HI.out.le;have:i*65536≤65536*65536:=Nat.mul_le_mul_right _ (by omega);exact ⟨h6.1,by omega⟩
          have HGY:Hid (∀d',R.put fi d1 ⟨k1,b1,n1,s1,l1,m1⟩=some d'→R.go K d t ns=R.go K d' r (ns.drop (i+1))):=fun d' h1=>by rw [HA.out.1,R.go_step HN.out,HST.out,h1]
          have HFI:Hid (fi≤5):=by rcases hki with h|h<;>(show _≤_;omega)
          obtain ⟨ff,hff⟩:∃ff,R.fnOf fi=ff:=⟨_,rfl⟩;have HFF:=hid hff;rw [show fieldV ⟨fnm,fm,fk,fi⟩= .agg #[.bool fm,.int .u8 fk,.func (.func ff) #[] #[]] by rw [←hff]] at hrun;clear hPg hl1 hn1 hpr hnm htn hlk hlook hxx hnms y0 y1 y2 y3 y4 y5 hkk hft hfe hki hev2 hff;go_upto_region 8 with fail;obtain ⟨Y,hY⟩:∃Y,wr.heap.size=Y:=⟨_,rfl⟩;obtain ⟨w5,hw5⟩:∃w5,wr.alloc (.cells #[.bool fm,.int .u8 fk,.func (.func ff) #[] #[]] 154)=w5:=⟨_,rfl⟩;have hb5:Below wr.heap.size wr w5:=by rw [←hw5];exact (Below.refl _ wr).alloc (Nat.le_refl _) _
          have HY5:Hid (w5.heap[Y]? =some (.cells #[.bool fm,.int .u8 fk,.func (.func ff) #[] #[]] 154 (0,0))):=by show _=_;rw [←hw5,←hY];exact heap_alloc_new wr _
          have HI5:=hid (HI.out.after (fun b hb=>(HPP.out b hb).1) hb5);rw [hw5,hY];have HBD5:=hid (HI5.out.after (fun b hb=>(HPP.out b hb).1) (Below.refl _ w5).drew);have hbD:Below wr.heap.size wr w5.drew:=hb5.drew;have hkD:∀b,P b→w5.drew.heap[b]? =wr.heap[b]? :=fun b hb=>hbD.block b (Nat.lt_of_lt_of_le (HPP.out b hb).1 HI.out.gr.size)
          have HSV:Hid (w5.drew.cell? ⟨g,o+i*6+4,none⟩=some (.slice al l1.length cl)∧w5.drew.cell? ⟨g,o+i*6+5,none⟩=some (.slice an m1.length cn)):=by
            have hg:=hkD g HY.out.2.2.1;exact ⟨(World.cell?_of_block (w:=wr) hg).trans HY.out.2.2.2.1,(World.cell?_of_block (w:=wr) hg).trans HY.out.2.2.2.2⟩
          have HPUT:=hid (put_any fi HFI.out ⟨k1,b1,n1,s1,l1,m1⟩ (.slice al l1.length cl) (.slice an m1.length cn) w5.drew P A w.heap.size K id d1 pv (J.T.In.keep (fun _ h=>h) hkD HY.out.1) (J.SIn.keep (fun _ h=>h) hkD HY.out.2.1) HP5.out (fun b hb=>⟨Nat.lt_of_lt_of_le (HPP.out b hb).1 HBD5.out.gr.size,(HPP.out b hb).2,fun e=>by have:=(HBD5.out.de.far b e).1;have:=(HPP.out b hb).1;omega⟩) HBD5.out.gr.size HBD5.out.de);have hF:=enters_put fi HFI.out;rw [HFF.out] at HPUT hF;clear hw5 hY hb5 hbD hkD hrun hnj x0 x1 x2 x3 x4 x5 HP5 HFI HFF;refine wp_region_till (S:=(fun W:World=>(FR w P A K id ns (.slice (some ⟨nb,no,none⟩) len nc) X XO M L i d1 pv (.cons k1 b1 n1 s1 l1 m1 r) g (o+i*6) W∧W.heap[Y]? =some (.cells #[.bool fm,.int .u8 fk,.func (.func ff) #[] #[]] 154 (0,0)))∧W.cell? ⟨g,o+i*6+4,none⟩=some (.slice al l1.length cl)∧W.cell? ⟨g,o+i*6+5,none⟩=some (.slice an m1.length cn))) 22 (by kernel_rfl) ?_;have HS:=hid (show ((fun W:World=>(FR w P A K id ns (.slice (some ⟨nb,no,none⟩) len nc) X XO M L i d1 pv (.cons k1 b1 n1 s1 l1 m1 r) g (o+i*6) W∧W.heap[Y]? =some (.cells #[.bool fm,.int .u8 fk,.func (.func ff) #[] #[]] 154 (0,0)))∧W.cell? ⟨g,o+i*6+4,none⟩=some (.slice al l1.length cl)∧W.cell? ⟨g,o+i*6+5,none⟩=some (.slice an m1.length cn))) _ from ⟨⟨HBD5.out,HY5.out⟩,HSV.out⟩);refine wpTill_any 0 (oi:= ?oi26) (v:= ?v26) ?ho26 (by kernel_rfl) (by kernel_rfl) (by kernel_rfl) (by kernel_rfl) ?hq26 (Or.inl ⟨?hw26,?hy26⟩) (fun _=>HS.out) ?rest26
          case ho26=>simp only [List.getElem?_toArray,List.getElem?_cons_zero];rfl
          case hw26=>rfl
          case hy26=>intro w;go_simp;try with_reducible rfl
          case hq26=>exact fun _ _ _ h=>h
          try simp only [Act.put,List.setIfInBounds_toArray,List.set_cons_zero,List.set_cons_succ]
          refine wpTill_any 1 (oi:= ?oi27) (v:= ?v27) ?ho27 (by kernel_rfl) (by kernel_rfl) (by kernel_rfl) (by kernel_rfl) ?hq27 (Or.inl ⟨?hw27,?hy27⟩) (fun _=>HS.out) ?rest27
          case ho27=>simp only [List.getElem?_toArray,List.getElem?_cons_succ,List.getElem?_cons_zero];rfl
          case hw27=>rfl
          case hy27=>intro w;go_simp;try with_reducible rfl
          case hq27=>exact fun _ _ _ h=>h
          try simp only [Act.put,List.setIfInBounds_toArray,List.set_cons_zero,List.set_cons_succ]
          refine wpTill_any 2 (oi:= ?oi28) (v:= ?v28) ?ho28 (by kernel_rfl) (by kernel_rfl) (by kernel_rfl) (by kernel_rfl) ?hq28 (Or.inl ⟨?hw28,?hy28⟩) (fun _=>HS.out) ?rest28
          case ho28=>simp only [List.getElem?_toArray,List.getElem?_cons_succ,List.getElem?_cons_zero];rfl
          case hw28=>rfl
          case hy28=>intro w;go_simp;try with_reducible rfl
          case hq28=>exact fun _ _ _ h=>h
          try simp only [Act.put,List.setIfInBounds_toArray,List.set_cons_zero,List.set_cons_succ]
          refine wpTill_any 3 (oi:= ?oi29) (v:= ?v29) ?ho29 (by kernel_rfl) (by kernel_rfl) (by kernel_rfl) (by kernel_rfl) ?hq29 (Or.inl ⟨?hw29,?hy29⟩) (fun _=>HS.out) ?rest29
          case ho29=>simp only [List.getElem?_toArray,List.getElem?_cons_succ,List.getElem?_cons_zero];rfl
          case hw29=>rfl
          case hy29=>intro w;go_simp;try with_reducible rfl
          case hq29=>exact fun _ _ _ h=>h
          try simp only [Act.put,List.setIfInBounds_toArray,List.set_cons_zero,List.set_cons_succ]
          refine wpTill_any 5 (oi:= ?oi30) (v:= ?v30) ?ho30 (by kernel_rfl) (by kernel_rfl) (by kernel_rfl) (by kernel_rfl) ?hq30 (Or.inl ⟨?hw30,?hy30⟩) (fun _=>HS.out) ?rest30
          case ho30=>simp only [List.getElem?_toArray,List.getElem?_cons_succ,List.getElem?_cons_zero];rfl
          case hw30=>rfl
          case hy30=>intro w;go_simp;try with_reducible rfl
          case hq30=>exact fun _ _ _ h=>h
          try simp only [Act.put,List.setIfInBounds_toArray,List.set_cons_zero,List.set_cons_succ]
          refine wpTill_any 7 (oi:= ?oi31) (v:= ?v31) ?ho31 (by kernel_rfl) (by kernel_rfl) (by kernel_rfl) (by kernel_rfl) ?hq31 (Or.inl ⟨?hw31,?hy31⟩) (fun _=>HS.out) ?rest31
          case ho31=>simp only [List.getElem?_toArray,List.getElem?_cons_succ,List.getElem?_cons_zero];rfl
          case hw31=>rfl
          case hy31=>intro w;go_simp;try with_reducible rfl
          case hq31=>exact fun _ _ _ h=>h
          try simp only [Act.put,List.setIfInBounds_toArray,List.set_cons_zero,List.set_cons_succ]
          refine wpTill_load 4 [4,11,12,13,22] (oi:= ?oi32) (v:= ?v32) ?ho32 (by kernel_rfl) (by kernel_rfl) (by kernel_rfl) (by kernel_rfl) ?hq32 (Or.inl ⟨?hw32,?hy32⟩) HS.out ?rest32
          case ho32=>simp only [List.getElem?_toArray,List.getElem?_cons_succ,List.getElem?_cons_zero];rfl
          case hw32=>rfl
          case hy32=>
            intro w hSw;have c1:w.cell? ⟨Y,1,none⟩=some (.int .u8 fk):=rowCell hSw.1.2 1;have c2:w.cell? ⟨Y,2,none⟩=some (.func (.func ff) #[] #[]):=rowCell hSw.1.2 2;clear hSw;go_simp;try with_reducible rfl
          case hq32=>exact fun _ _ _ h=>h
          try simp only [Act.put,List.setIfInBounds_toArray,List.set_cons_zero,List.set_cons_succ]
          refine wpTill_load 6 [6,8,9,10,11,12,13,22] (oi:= ?oi33) (v:= ?v33) ?ho33 (by kernel_rfl) (by kernel_rfl) (by kernel_rfl) (by kernel_rfl) ?hq33 (Or.inl ⟨?hw33,?hy33⟩) HS.out ?rest33
          case ho33=>simp only [List.getElem?_toArray,List.getElem?_cons_succ,List.getElem?_cons_zero];rfl
          case hw33=>rfl
          case hy33=>
            intro w hSw;have hx:=hSw.1.1.bx;rw [←HXO.out] at hx;obtain ⟨x0,x1,x2,x3,x4,x5⟩:=x6_of hx;clear hx;clear hSw;go_simp;try with_reducible rfl
          case hq33=>exact fun _ _ _ h=>h
          try simp only [Act.put,List.setIfInBounds_toArray,List.set_cons_zero,List.set_cons_succ]
          refine wpTill_any 8 (oi:= ?oi34) (v:= ?v34) ?ho34 (by kernel_rfl) (by kernel_rfl) (by kernel_rfl) (by kernel_rfl) ?hq34 (Or.inl ⟨?hw34,?hy34⟩) (fun _=>HS.out) ?rest34
          case ho34=>simp only [List.getElem?_toArray,List.getElem?_cons_succ,List.getElem?_cons_zero];rfl
          case hw34=>rfl
          case hy34=>intro w;go_simp;try with_reducible rfl
          case hq34=>exact fun _ _ _ h=>h
          try simp only [Act.put,List.setIfInBounds_toArray,List.set_cons_zero,List.set_cons_succ]
          refine wpTill_any 9 (oi:= ?oi35) (v:= ?v35) ?ho35 (by kernel_rfl) (by kernel_rfl) (by kernel_rfl) (by kernel_rfl) ?hq35 (Or.inl ⟨?hw35,?hy35⟩) (fun _=>HS.out) ?rest35
          case ho35=>simp only [List.getElem?_toArray,List.getElem?_cons_succ,List.getElem?_cons_zero];rfl
          case hw35=>rfl
          case hy35=>intro w;go_simp;try with_reducible rfl
          case hq35=>exact fun _ _ _ h=>h
          try simp only [Act.put,List.setIfInBounds_toArray,List.set_cons_zero,List.set_cons_succ]
          refine wpTill_load 10 [10,11,12,13,22] (oi:= ?oi36) (v:= ?v36) ?ho36 (by kernel_rfl) (by kernel_rfl) (by kernel_rfl) (by kernel_rfl) ?hq36 (Or.inl ⟨?hw36,?hy36⟩) HS.out ?rest36
          case ho36=>simp only [List.getElem?_toArray,List.getElem?_cons_succ,List.getElem?_cons_zero];rfl
          case hw36=>rfl
          case hy36=>
            intro w hSw;obtain ⟨-,y0,y1,y2,y3, -⟩:=hSw.1.1.ca (fun h=>by cases h);have y4:=hSw.2.1;have y5:=hSw.2.2;clear hSw;go_simp;try with_reducible rfl
          case hq36=>exact fun _ _ _ h=>h
          try simp only [Act.put,List.setIfInBounds_toArray,List.set_cons_zero,List.set_cons_succ]
          refine wpTill_any 11 (oi:= ?oi37) (v:= ?v37) ?ho37 (by kernel_rfl) (by kernel_rfl) (by kernel_rfl) (by kernel_rfl) ?hq37 (Or.inl ⟨?hw37,?hy37⟩) (fun _=>HS.out) ?rest37
          case ho37=>simp only [List.getElem?_toArray,List.getElem?_cons_succ,List.getElem?_cons_zero];rfl
          case hw37=>rfl
          case hy37=>intro w;go_simp;try with_reducible rfl
          case hq37=>exact fun _ _ _ h=>h
          try simp only [Act.put,List.setIfInBounds_toArray,List.set_cons_zero,List.set_cons_succ]
          refine wpTill_any 12 (oi:= ?oi38) (v:= ?v38) ?ho38 (by kernel_rfl) (by kernel_rfl) (by kernel_rfl) (by kernel_rfl) ?hq38 (Or.inl ⟨?hw38,?hy38⟩) (fun _=>HS.out) ?rest38
          case ho38=>simp only [List.getElem?_toArray,List.getElem?_cons_succ,List.getElem?_cons_zero];rfl
          case hw38=>rfl
          case hy38=>intro w;go_simp;try with_reducible rfl
          case hq38=>exact fun _ _ _ h=>h
          try simp only [Act.put,List.setIfInBounds_toArray,List.set_cons_zero,List.set_cons_succ]
          refine wpTill_any 13 (oi:= ?oi39) (v:= ?v39) ?ho39 (by kernel_rfl) (by kernel_rfl) (by kernel_rfl) (by kernel_rfl) ?hq39 (Or.inl ⟨?hw39,?hy39⟩) (fun _=>HS.out) ?rest39
          case ho39=>simp only [List.getElem?_toArray,List.getElem?_cons_succ,List.getElem?_cons_zero];rfl
          case hw39=>rfl
          case hy39=>intro w;go_simp;try with_reducible rfl
          case hq39=>exact fun _ _ _ h=>h
          try simp only [Act.put,List.setIfInBounds_toArray,List.set_cons_zero,List.set_cons_succ]
          refine wpTill_any 14 (oi:= ?oi40) (v:= ?v40) ?ho40 (by kernel_rfl) (by kernel_rfl) (by kernel_rfl) (by kernel_rfl) ?hq40 (Or.inl ⟨?hw40,?hy40⟩) (fun _=>HS.out) ?rest40
          case ho40=>simp only [List.getElem?_toArray,List.getElem?_cons_succ,List.getElem?_cons_zero];rfl
          case hw40=>rfl
          case hy40=>intro w;go_simp;try with_reducible rfl
          case hq40=>exact fun _ _ _ h=>h
          try simp only [Act.put,List.setIfInBounds_toArray,List.set_cons_zero,List.set_cons_succ]
          refine wpTill_any 16 (oi:= ?oi41) (v:= ?v41) ?ho41 (by kernel_rfl) (by kernel_rfl) (by kernel_rfl) (by kernel_rfl) ?hq41 (Or.inl ⟨?hw41,?hy41⟩) (fun _=>HS.out) ?rest41
          case ho41=>simp only [List.getElem?_toArray,List.getElem?_cons_succ,List.getElem?_cons_zero];rfl
          case hw41=>rfl
          case hy41=>intro w;go_simp;try with_reducible rfl
          case hq41=>exact fun _ _ _ h=>h
          try simp only [Act.put,List.setIfInBounds_toArray,List.set_cons_zero,List.set_cons_succ]
          refine wpTill_any 17 (oi:= ?oi42) (v:= ?v42) ?ho42 (by kernel_rfl) (by kernel_rfl) (by kernel_rfl) (by kernel_rfl) ?hq42 (Or.inl ⟨?hw42,?hy42⟩) (fun _=>HS.out) ?rest42
          case ho42=>simp only [List.getElem?_toArray,List.getElem?_cons_succ,List.getElem?_cons_zero];rfl
          case hw42=>rfl
          case hy42=>intro w;go_simp;try with_reducible rfl
          case hq42=>exact fun _ _ _ h=>h
          try simp only [Act.put,List.setIfInBounds_toArray,List.set_cons_zero,List.set_cons_succ]
          refine wpTill_any 19 (oi:= ?oi43) (v:= ?v43) ?ho43 (by kernel_rfl) (by kernel_rfl) (by kernel_rfl) (by kernel_rfl) ?hq43 (Or.inl ⟨?hw43,?hy43⟩) (fun _=>HS.out) ?rest43
          case ho43=>simp only [List.getElem?_toArray,List.getElem?_cons_succ,List.getElem?_cons_zero];rfl
          case hw43=>rfl
          case hy43=>intro w;go_simp;try with_reducible rfl
          case hq43=>exact fun _ _ _ h=>h
          try simp only [Act.put,List.setIfInBounds_toArray,List.set_cons_zero,List.set_cons_succ]
          refine wpTill_load 15 [15,22] (oi:= ?oi44) (v:= ?v44) ?ho44 (by kernel_rfl) (by kernel_rfl) (by kernel_rfl) (by kernel_rfl) ?hq44 (Or.inl ⟨?hw44,?hy44⟩) HS.out ?rest44
          case ho44=>simp only [List.getElem?_toArray,List.getElem?_cons_succ,List.getElem?_cons_zero];rfl
          case hw44=>rfl
          case hy44=>
            intro w hSw;have c1:w.cell? ⟨Y,1,none⟩=some (.int .u8 fk):=rowCell hSw.1.2 1;have c2:w.cell? ⟨Y,2,none⟩=some (.func (.func ff) #[] #[]):=rowCell hSw.1.2 2;clear hSw;go_simp;try with_reducible rfl
          case hq44=>exact fun _ _ _ h=>h
          try simp only [Act.put,List.setIfInBounds_toArray,List.set_cons_zero,List.set_cons_succ]
          refine wpTill_load 18 [18,20,21,22] (oi:= ?oi45) (v:= ?v45) ?ho45 (by kernel_rfl) (by kernel_rfl) (by kernel_rfl) (by kernel_rfl) ?hq45 (Or.inl ⟨?hw45,?hy45⟩) HS.out ?rest45
          case ho45=>simp only [List.getElem?_toArray,List.getElem?_cons_succ,List.getElem?_cons_zero];rfl
          case hw45=>rfl
          case hy45=>
            intro w hSw;have hx:=hSw.1.1.bx;rw [←HXO.out] at hx;obtain ⟨x0,x1,x2,x3,x4,x5⟩:=x6_of hx;clear hx;clear hSw;go_simp;try with_reducible rfl
          case hq45=>exact fun _ _ _ h=>h
          try simp only [Act.put,List.setIfInBounds_toArray,List.set_cons_zero,List.set_cons_succ]
          refine wpTill_any 20 (oi:= ?oi46) (v:= ?v46) ?ho46 (by kernel_rfl) (by kernel_rfl) (by kernel_rfl) (by kernel_rfl) ?hq46 (Or.inl ⟨?hw46,?hy46⟩) (fun _=>HS.out) ?rest46
          case ho46=>simp only [List.getElem?_toArray,List.getElem?_cons_succ,List.getElem?_cons_zero];rfl
          case hw46=>rfl
          case hy46=>intro w;go_simp;try with_reducible rfl
          case hq46=>exact fun _ _ _ h=>h
          try simp only [Act.put,List.setIfInBounds_toArray,List.set_cons_zero,List.set_cons_succ]
          refine wpTill_load 21 [21,22] (oi:= ?oi47) (v:= ?v47) ?ho47 (by kernel_rfl) (by kernel_rfl) (by kernel_rfl) (by kernel_rfl) ?hq47 (Or.inl ⟨?hw47,?hy47⟩) HS.out ?rest47
          case ho47=>simp only [List.getElem?_toArray,List.getElem?_cons_succ,List.getElem?_cons_zero];rfl
          case hw47=>rfl
          case hy47=>
            intro w hSw;obtain ⟨-,y0,y1,y2,y3, -⟩:=hSw.1.1.ca (fun h=>by cases h);have y4:=hSw.2.1;have y5:=hSw.2.2;clear hSw;go_simp;try with_reducible rfl
          case hq47=>exact fun _ _ _ h=>h
          try simp only [Act.put,List.setIfInBounds_toArray,List.set_cons_zero,List.set_cons_succ]
          refine wpTill_ready (rs:= [22]) (by kernel_rfl) (by decide) ?_;refine AllTill.consH (o:= ?oi48) ?ho48 (fun K hK=> ?step48) ?more48
          case ho48=>simp only [List.getElem?_toArray,List.getElem?_cons_succ,List.getElem?_cons_zero];rfl
          case step48=>
            go_simp;refine HPUT.out.mono ?_;rintro e w9 ⟨hg9,hor⟩;rcases hor with ⟨h1,rfl⟩|⟨d',pv',h1,rfl,h3,h4⟩
            · have HG9:=hid (HBD5.out.gr.trans hg9 (fun k hk=>Or.inr (HBD5.out.de.far k hk).1));have HNO:Hid (RES=none):=HFN.out (by rw [HA.out.1,R.go_step HN.out,HST.out,h1]);clear hg9 h1;refine hK.out _ _ (fun hk=>by cases (show true=false from hk)) (fun _=> ?_);clear hK K;try simp only [Act.put,List.setIfInBounds_toArray,List.set_cons_zero,List.set_cons_succ]
              refine wpTill_any 23 (oi:= ?oi49) (v:= ?v49) ?ho49 (by kernel_rfl) (by kernel_rfl) (by kernel_rfl) (by kernel_rfl) ?hq49 (Or.inl ⟨?hw49,?hy49⟩) (fun hk=>by cases (show true=false from hk)) ?rest49
              case ho49=>simp only [List.getElem?_toArray,List.getElem?_cons_succ,List.getElem?_cons_zero];rfl
              case hw49=>rfl
              case hy49=>intro w;go_simp;try with_reducible rfl
              case hq49=>exact fun _ _ _ h=>h
              try simp only [Act.put,List.setIfInBounds_toArray,List.set_cons_zero,List.set_cons_succ]
              refine wpTill_any 24 (oi:= ?oi50) (v:= ?v50) ?ho50 (by kernel_rfl) (by kernel_rfl) (by kernel_rfl) (by kernel_rfl) ?hq50 (Or.inl ⟨?hw50,?hy50⟩) (fun hk=>by cases (show true=false from hk)) ?rest50
              case ho50=>simp only [List.getElem?_toArray,List.getElem?_cons_succ,List.getElem?_cons_zero];rfl
              case hw50=>rfl
              case hy50=>intro w;go_simp;try with_reducible rfl
              case hq50=>exact fun _ _ _ h=>h
              try simp only [Act.put,List.setIfInBounds_toArray,List.set_cons_zero,List.set_cons_succ]
              refine wpTill_done (by kernel_rfl) ?_ _;go_wp2_with fail;go_ret;exact ⟨HG9.out,Or.inl ⟨HNO.out,rfl⟩⟩
            · have HNX:=hid (FR.next HBD5.out HPP.out HXA.out HMA.out hg9 h3 h4 (HPL.out d' h1));have HGO2:=hid (HGY.out d' h1);clear hg9 h1 h3 h4;refine hK.out _ _ (fun hk=>by cases (show true=false from hk)) (fun _=> ?_);clear hK K;try simp only [Act.put,List.setIfInBounds_toArray,List.set_cons_zero,List.set_cons_succ]
              refine wpTill_any 23 (oi:= ?oi51) (v:= ?v51) ?ho51 (by kernel_rfl) (by kernel_rfl) (by kernel_rfl) (by kernel_rfl) ?hq51 (Or.inl ⟨?hw51,?hy51⟩) (fun hk=>by cases (show true=false from hk)) ?rest51
              case ho51=>simp only [List.getElem?_toArray,List.getElem?_cons_succ,List.getElem?_cons_zero];rfl
              case hw51=>rfl
              case hy51=>intro w;go_simp;try with_reducible rfl
              case hq51=>exact fun _ _ _ h=>h
              try simp only [Act.put,List.setIfInBounds_toArray,List.set_cons_zero,List.set_cons_succ]
              refine wpTill_any 24 (oi:= ?oi52) (v:= ?v52) ?ho52 (by kernel_rfl) (by kernel_rfl) (by kernel_rfl) (by kernel_rfl) ?hq52 (Or.inl ⟨?hw52,?hy52⟩) (fun hk=>by cases (show true=false from hk)) ?rest52
              case ho52=>simp only [List.getElem?_toArray,List.getElem?_cons_succ,List.getElem?_cons_zero];rfl
              case hw52=>rfl
              case hy52=>intro w;go_simp;try with_reducible rfl
              case hq52=>exact fun _ _ _ h=>h
              try simp only [Act.put,List.setIfInBounds_toArray,List.set_cons_zero,List.set_cons_succ]
              refine wpTill_done (by kernel_rfl) ?_ _;go_wp2_with fail;go_roundw
              case rel=>
               refine ⟨i+1,by omega,by go_num,d',pv',r,hid ⟨HGO2.out,by have:=HA.out.2.1;simp only [J.T.length] at this;omega,HA.out.2.2.2⟩,by rw [show o+(i+1)*6=o+i*6+6 by omega];exact HNX⟩
              case measure=>simp [intOf];omega
          case more48=>
            exact AllTill.nil
        · have q0:((fk:Int) !=(k1:Int))=true:=by simp;omega
          have q1:((fk:Int)==(k1:Int))=false:=by simp;omega
          have HNO:Hid (RES=none):=HFN.out (by
            rw [HA.out.1,R.go_step HN.out];unfold R.step;rw [←hlook];simp only [if_neg hkk])
          obtain ⟨ff,hff⟩:∃ff,R.fnOf fi=ff:=⟨_,rfl⟩;rw [show fieldV ⟨fnm,fm,fk,fi⟩= .agg #[.bool fm,.int .u8 fk,.func (.func ff) #[] #[]] by rw [←hff]] at hrun;clear hPg hl1 hn1 hpr hnm htn hlk hlook hxx hnms y0 y1 y2 y3 y4 y5 hkk hft hfe hki hff;go_upto_region 8 with fail;obtain ⟨Y,hY⟩:∃Y,wr.heap.size=Y:=⟨_,rfl⟩;obtain ⟨w5,hw5⟩:∃w5,wr.alloc (.cells #[.bool fm,.int .u8 fk,.func (.func ff) #[] #[]] 154)=w5:=⟨_,rfl⟩;have hb5:Below wr.heap.size wr w5:=by rw [←hw5];exact (Below.refl _ wr).alloc (Nat.le_refl _) _
          have HY5:Hid (w5.heap[Y]? =some (.cells #[.bool fm,.int .u8 fk,.func (.func ff) #[] #[]] 154 (0,0))):=by show _=_;rw [←hw5,←hY];exact heap_alloc_new wr _
          have HI5:=hid (HI.out.after (fun b hb=>(HPP.out b hb).1) hb5);rw [hw5,hY];have HBD5:=hid (HI5.out.after (fun b hb=>(HPP.out b hb).1) (Below.refl _ w5).drew);clear hw5 hY hb5 hrun hnj x0 x1 x2 x3 x4 x5;refine wp_region_till (S:=(fun W:World=>FR w P A K id ns (.slice (some ⟨nb,no,none⟩) len nc) X XO M L i d1 pv (.cons k1 b1 n1 s1 l1 m1 r) g (o+i*6) W∧W.heap[Y]? =some (.cells #[.bool fm,.int .u8 fk,.func (.func ff) #[] #[]] 154 (0,0)))) 22 (by kernel_rfl) ?_;have HS:=hid (show ((fun W:World=>FR w P A K id ns (.slice (some ⟨nb,no,none⟩) len nc) X XO M L i d1 pv (.cons k1 b1 n1 s1 l1 m1 r) g (o+i*6) W∧W.heap[Y]? =some (.cells #[.bool fm,.int .u8 fk,.func (.func ff) #[] #[]] 154 (0,0)))) _ from ⟨HBD5.out,HY5.out⟩);refine wpTill_any 0 (oi:= ?oi53) (v:= ?v53) ?ho53 (by kernel_rfl) (by kernel_rfl) (by kernel_rfl) (by kernel_rfl) ?hq53 (Or.inl ⟨?hw53,?hy53⟩) (fun _=>HS.out) ?rest53
          case ho53=>simp only [List.getElem?_toArray,List.getElem?_cons_zero];rfl
          case hw53=>rfl
          case hy53=>intro w;go_simp;try with_reducible rfl
          case hq53=>exact fun _ _ _ h=>h
          try simp only [Act.put,List.setIfInBounds_toArray,List.set_cons_zero,List.set_cons_succ]
          refine wpTill_any 1 (oi:= ?oi54) (v:= ?v54) ?ho54 (by kernel_rfl) (by kernel_rfl) (by kernel_rfl) (by kernel_rfl) ?hq54 (Or.inl ⟨?hw54,?hy54⟩) (fun _=>HS.out) ?rest54
          case ho54=>simp only [List.getElem?_toArray,List.getElem?_cons_succ,List.getElem?_cons_zero];rfl
          case hw54=>rfl
          case hy54=>intro w;go_simp;try with_reducible rfl
          case hq54=>exact fun _ _ _ h=>h
          try simp only [Act.put,List.setIfInBounds_toArray,List.set_cons_zero,List.set_cons_succ]
          refine wpTill_any 2 (oi:= ?oi55) (v:= ?v55) ?ho55 (by kernel_rfl) (by kernel_rfl) (by kernel_rfl) (by kernel_rfl) ?hq55 (Or.inl ⟨?hw55,?hy55⟩) (fun _=>HS.out) ?rest55
          case ho55=>simp only [List.getElem?_toArray,List.getElem?_cons_succ,List.getElem?_cons_zero];rfl
          case hw55=>rfl
          case hy55=>intro w;go_simp;try with_reducible rfl
          case hq55=>exact fun _ _ _ h=>h
          try simp only [Act.put,List.setIfInBounds_toArray,List.set_cons_zero,List.set_cons_succ]
          refine wpTill_any 3 (oi:= ?oi56) (v:= ?v56) ?ho56 (by kernel_rfl) (by kernel_rfl) (by kernel_rfl) (by kernel_rfl) ?hq56 (Or.inl ⟨?hw56,?hy56⟩) (fun _=>HS.out) ?rest56
          case ho56=>simp only [List.getElem?_toArray,List.getElem?_cons_succ,List.getElem?_cons_zero];rfl
          case hw56=>rfl
          case hy56=>intro w;go_simp;try with_reducible rfl
          case hq56=>exact fun _ _ _ h=>h
          try simp only [Act.put,List.setIfInBounds_toArray,List.set_cons_zero,List.set_cons_succ]
          refine wpTill_any 5 (oi:= ?oi57) (v:= ?v57) ?ho57 (by kernel_rfl) (by kernel_rfl) (by kernel_rfl) (by kernel_rfl) ?hq57 (Or.inl ⟨?hw57,?hy57⟩) (fun _=>HS.out) ?rest57
          case ho57=>simp only [List.getElem?_toArray,List.getElem?_cons_succ,List.getElem?_cons_zero];rfl
          case hw57=>rfl
          case hy57=>intro w;go_simp;try with_reducible rfl
          case hq57=>exact fun _ _ _ h=>h
          try simp only [Act.put,List.setIfInBounds_toArray,List.set_cons_zero,List.set_cons_succ]
          refine wpTill_any 7 (oi:= ?oi58) (v:= ?v58) ?ho58 (by kernel_rfl) (by kernel_rfl) (by kernel_rfl) (by kernel_rfl) ?hq58 (Or.inl ⟨?hw58,?hy58⟩) (fun _=>HS.out) ?rest58
          case ho58=>simp only [List.getElem?_toArray,List.getElem?_cons_succ,List.getElem?_cons_zero];rfl
          case hw58=>rfl
          case hy58=>intro w;go_simp;try with_reducible rfl
          case hq58=>exact fun _ _ _ h=>h
          try simp only [Act.put,List.setIfInBounds_toArray,List.set_cons_zero,List.set_cons_succ]
          refine wpTill_load 4 [4,11,12,13,22] (oi:= ?oi59) (v:= ?v59) ?ho59 (by kernel_rfl) (by kernel_rfl) (by kernel_rfl) (by kernel_rfl) ?hq59 (Or.inl ⟨?hw59,?hy59⟩) HS.out ?rest59
          case ho59=>simp only [List.getElem?_toArray,List.getElem?_cons_succ,List.getElem?_cons_zero];rfl
          case hw59=>rfl
          case hy59=>
            intro w hSw;have c1:w.cell? ⟨Y,1,none⟩=some (.int .u8 fk):=rowCell hSw.2 1;clear hSw;go_simp;try with_reducible rfl
          case hq59=>exact fun _ _ _ h=>h
          try simp only [Act.put,List.setIfInBounds_toArray,List.set_cons_zero,List.set_cons_succ]
          refine wpTill_load 6 [6,8,9,10,11,12,13,22] (oi:= ?oi60) (v:= ?v60) ?ho60 (by kernel_rfl) (by kernel_rfl) (by kernel_rfl) (by kernel_rfl) ?hq60 (Or.inl ⟨?hw60,?hy60⟩) HS.out ?rest60
          case ho60=>simp only [List.getElem?_toArray,List.getElem?_cons_succ,List.getElem?_cons_zero];rfl
          case hw60=>rfl
          case hy60=>
            intro w hSw;have hx:=hSw.1.bx;rw [←HXO.out] at hx;obtain ⟨x0,x1,x2,x3,x4,x5⟩:=x6_of hx;clear hx;clear hSw;go_simp;try with_reducible rfl
          case hq60=>exact fun _ _ _ h=>h
          try simp only [Act.put,List.setIfInBounds_toArray,List.set_cons_zero,List.set_cons_succ]
          refine wpTill_any 8 (oi:= ?oi61) (v:= ?v61) ?ho61 (by kernel_rfl) (by kernel_rfl) (by kernel_rfl) (by kernel_rfl) ?hq61 (Or.inl ⟨?hw61,?hy61⟩) (fun _=>HS.out) ?rest61
          case ho61=>simp only [List.getElem?_toArray,List.getElem?_cons_succ,List.getElem?_cons_zero];rfl
          case hw61=>rfl
          case hy61=>intro w;go_simp;try with_reducible rfl
          case hq61=>exact fun _ _ _ h=>h
          try simp only [Act.put,List.setIfInBounds_toArray,List.set_cons_zero,List.set_cons_succ]
          refine wpTill_any 9 (oi:= ?oi62) (v:= ?v62) ?ho62 (by kernel_rfl) (by kernel_rfl) (by kernel_rfl) (by kernel_rfl) ?hq62 (Or.inl ⟨?hw62,?hy62⟩) (fun _=>HS.out) ?rest62
          case ho62=>simp only [List.getElem?_toArray,List.getElem?_cons_succ,List.getElem?_cons_zero];rfl
          case hw62=>rfl
          case hy62=>intro w;go_simp;try with_reducible rfl
          case hq62=>exact fun _ _ _ h=>h
          try simp only [Act.put,List.setIfInBounds_toArray,List.set_cons_zero,List.set_cons_succ]
          refine wpTill_load 10 [10,11,12,13,22] (oi:= ?oi63) (v:= ?v63) ?ho63 (by kernel_rfl) (by kernel_rfl) (by kernel_rfl) (by kernel_rfl) ?hq63 (Or.inl ⟨?hw63,?hy63⟩) HS.out ?rest63
          case ho63=>simp only [List.getElem?_toArray,List.getElem?_cons_succ,List.getElem?_cons_zero];rfl
          case hw63=>rfl
          case hy63=>
            intro w hSw;obtain ⟨-,y0,y1,y2,y3, -⟩:=hSw.1.ca (fun h=>by cases h);clear hSw;go_simp;try with_reducible rfl
          case hq63=>exact fun _ _ _ h=>h
          try simp only [Act.put,List.setIfInBounds_toArray,List.set_cons_zero,List.set_cons_succ]
          refine wpTill_any 11 (oi:= ?oi64) (v:= ?v64) ?ho64 (by kernel_rfl) (by kernel_rfl) (by kernel_rfl) (by kernel_rfl) ?hq64 (Or.inl ⟨?hw64,?hy64⟩) (fun _=>HS.out) ?rest64
          case ho64=>simp only [List.getElem?_toArray,List.getElem?_cons_succ,List.getElem?_cons_zero];rfl
          case hw64=>rfl
          case hy64=>intro w;go_simp;try with_reducible rfl
          case hq64=>exact fun _ _ _ h=>h
          try simp only [Act.put,List.setIfInBounds_toArray,List.set_cons_zero,List.set_cons_succ]
          refine wpTill_any 12 (oi:= ?oi65) (v:= ?v65) ?ho65 (by kernel_rfl) (by kernel_rfl) (by kernel_rfl) (by kernel_rfl) ?hq65 (Or.inl ⟨?hw65,?hy65⟩) (fun _=>HS.out) ?rest65
          case ho65=>simp only [List.getElem?_toArray,List.getElem?_cons_succ,List.getElem?_cons_zero];rfl
          case hw65=>rfl
          case hy65=>intro w;go_simp;try with_reducible rfl
          case hq65=>exact fun _ _ _ h=>h
          try simp only [Act.put,List.setIfInBounds_toArray,List.set_cons_zero,List.set_cons_succ]
          refine wpTill_any 13 (oi:= ?oi66) (v:= ?v66) ?ho66 (by kernel_rfl) (by kernel_rfl) (by kernel_rfl) (by kernel_rfl) ?hq66 (Or.inl ⟨?hw66,?hy66⟩) (fun _=>HS.out) ?rest66
          case ho66=>simp only [List.getElem?_toArray,List.getElem?_cons_succ,List.getElem?_cons_zero];rfl
          case hw66=>rfl
          case hy66=>intro w;go_simp;try with_reducible rfl
          case hq66=>exact fun _ _ _ h=>h
          try simp only [Act.put,List.setIfInBounds_toArray,List.set_cons_zero,List.set_cons_succ]
          refine wpTill_any 14 (oi:= ?oi67) (v:=undef) ?ho67 (by kernel_rfl) (by kernel_rfl) (by kernel_rfl) (by kernel_rfl) ?hq67 (Or.inr ⟨?hw67,rfl⟩) (fun _=>HS.out) ?rest67
          case ho67=>simp only [List.getElem?_toArray,List.getElem?_cons_succ,List.getElem?_cons_zero];rfl
          case hw67=>rfl
          case hq67=>exact fun _ _ _ h=>h
          try simp only [Act.put,List.setIfInBounds_toArray,List.set_cons_zero,List.set_cons_succ]
          refine wpTill_any 15 (oi:= ?oi68) (v:=undef) ?ho68 (by kernel_rfl) (by kernel_rfl) (by kernel_rfl) (by kernel_rfl) ?hq68 (Or.inr ⟨?hw68,rfl⟩) (fun _=>HS.out) ?rest68
          case ho68=>simp only [List.getElem?_toArray,List.getElem?_cons_succ,List.getElem?_cons_zero];rfl
          case hw68=>rfl
          case hq68=>exact fun _ _ _ h=>h
          try simp only [Act.put,List.setIfInBounds_toArray,List.set_cons_zero,List.set_cons_succ]
          refine wpTill_any 16 (oi:= ?oi69) (v:=undef) ?ho69 (by kernel_rfl) (by kernel_rfl) (by kernel_rfl) (by kernel_rfl) ?hq69 (Or.inr ⟨?hw69,rfl⟩) (fun _=>HS.out) ?rest69
          case ho69=>simp only [List.getElem?_toArray,List.getElem?_cons_succ,List.getElem?_cons_zero];rfl
          case hw69=>rfl
          case hq69=>exact fun _ _ _ h=>h
          try simp only [Act.put,List.setIfInBounds_toArray,List.set_cons_zero,List.set_cons_succ]
          refine wpTill_any 17 (oi:= ?oi70) (v:=undef) ?ho70 (by kernel_rfl) (by kernel_rfl) (by kernel_rfl) (by kernel_rfl) ?hq70 (Or.inr ⟨?hw70,rfl⟩) (fun _=>HS.out) ?rest70
          case ho70=>simp only [List.getElem?_toArray,List.getElem?_cons_succ,List.getElem?_cons_zero];rfl
          case hw70=>rfl
          case hq70=>exact fun _ _ _ h=>h
          try simp only [Act.put,List.setIfInBounds_toArray,List.set_cons_zero,List.set_cons_succ]
          refine wpTill_any 18 (oi:= ?oi71) (v:=undef) ?ho71 (by kernel_rfl) (by kernel_rfl) (by kernel_rfl) (by kernel_rfl) ?hq71 (Or.inr ⟨?hw71,rfl⟩) (fun _=>HS.out) ?rest71
          case ho71=>simp only [List.getElem?_toArray,List.getElem?_cons_succ,List.getElem?_cons_zero];rfl
          case hw71=>rfl
          case hq71=>exact fun _ _ _ h=>h
          try simp only [Act.put,List.setIfInBounds_toArray,List.set_cons_zero,List.set_cons_succ]
          refine wpTill_any 19 (oi:= ?oi72) (v:=undef) ?ho72 (by kernel_rfl) (by kernel_rfl) (by kernel_rfl) (by kernel_rfl) ?hq72 (Or.inr ⟨?hw72,rfl⟩) (fun _=>HS.out) ?rest72
          case ho72=>simp only [List.getElem?_toArray,List.getElem?_cons_succ,List.getElem?_cons_zero];rfl
          case hw72=>rfl
          case hq72=>exact fun _ _ _ h=>h
          try simp only [Act.put,List.setIfInBounds_toArray,List.set_cons_zero,List.set_cons_succ]
          refine wpTill_any 20 (oi:= ?oi73) (v:=undef) ?ho73 (by kernel_rfl) (by kernel_rfl) (by kernel_rfl) (by kernel_rfl) ?hq73 (Or.inr ⟨?hw73,rfl⟩) (fun _=>HS.out) ?rest73
          case ho73=>simp only [List.getElem?_toArray,List.getElem?_cons_succ,List.getElem?_cons_zero];rfl
          case hw73=>rfl
          case hq73=>exact fun _ _ _ h=>h
          try simp only [Act.put,List.setIfInBounds_toArray,List.set_cons_zero,List.set_cons_succ]
          refine wpTill_any 21 (oi:= ?oi74) (v:=undef) ?ho74 (by kernel_rfl) (by kernel_rfl) (by kernel_rfl) (by kernel_rfl) ?hq74 (Or.inr ⟨?hw74,rfl⟩) (fun _=>HS.out) ?rest74
          case ho74=>simp only [List.getElem?_toArray,List.getElem?_cons_succ,List.getElem?_cons_zero];rfl
          case hw74=>rfl
          case hq74=>exact fun _ _ _ h=>h
          try simp only [Act.put,List.setIfInBounds_toArray,List.set_cons_zero,List.set_cons_succ]
          refine wpTill_ready (rs:= [22]) (by kernel_rfl) (by decide) ?_;refine AllTill.consH (o:= ?oi75) ?ho75 (fun K hK=> ?step75) ?more75
          case ho75=>simp only [List.getElem?_toArray,List.getElem?_cons_succ,List.getElem?_cons_zero];rfl
          case step75=>
            rw [if_neg (fun h=>by cases (show false=true from h))];refine hK.out _ _ (fun hk=>by cases (show true=false from hk)) (fun _=> ?_);clear hK K;try simp only [Act.put,List.setIfInBounds_toArray,List.set_cons_zero,List.set_cons_succ]
            refine wpTill_any 23 (oi:= ?oi76) (v:=undef) ?ho76 (by kernel_rfl) (by kernel_rfl) (by kernel_rfl) (by kernel_rfl) ?hq76 (Or.inr ⟨?hw76,rfl⟩) (fun hk=>by cases (show true=false from hk)) ?rest76
            case ho76=>simp only [List.getElem?_toArray,List.getElem?_cons_succ,List.getElem?_cons_zero];rfl
            case hw76=>rfl
            case hq76=>exact fun _ _ _ h=>h
            try simp only [Act.put,List.setIfInBounds_toArray,List.set_cons_zero,List.set_cons_succ]
            refine wpTill_any 24 (oi:= ?oi77) (v:= ?v77) ?ho77 (by kernel_rfl) (by kernel_rfl) (by kernel_rfl) (by kernel_rfl) ?hq77 (Or.inl ⟨?hw77,?hy77⟩) (fun hk=>by cases (show true=false from hk)) ?rest77
            case ho77=>simp only [List.getElem?_toArray,List.getElem?_cons_succ,List.getElem?_cons_zero];rfl
            case hw77=>rfl
            case hy77=>intro w;go_simp;try with_reducible rfl
            case hq77=>exact fun _ _ _ h=>h
            try simp only [Act.put,List.setIfInBounds_toArray,List.set_cons_zero,List.set_cons_succ]
            refine wpTill_done (by kernel_rfl) ?_ _;go_wp2_with fail;go_ret;exact ⟨HBD5.out.gr,Or.inl ⟨HNO.out,rfl⟩⟩
          case more75=>
            exact AllTill.nil
  · have e0:decide ((i:Int)<(len:Int))=false:=decide_eq_false (by omega);have e1:decide (i<len)=false:=decide_eq_false (by omega);cases t2 with
    | cons=>have:=HA.out.2.1;simp only [J.T.length] at this;omega
    | nil=>
      have HRES:Hid (RES=if R.musts K ns=true then some d1 else none):=HR.out.symm.trans (R.fill_is HA.out.1);obtain ⟨R0,hR0⟩:∃R0,wr.heap.size=R0:=⟨_,rfl⟩;go_wp2_with (first
        | (at_range;refine wpList_range_own _ rfl _ 151 rfl 9 154 lawS Tryz.underlying151 R.fieldR M 4 _ rfl HI.out.ma ?_;intro wq hrg0 hg0 hs0)
        | fail)
      go_frame;rw [hR0] at hrg0 ⊢;have HIQ:=hid (HI.out.after (fun b hb=>(HPP.out b hb).1) ((Below.refl _ wr).grown hg0 (Nat.le_refl _) (fun q hq=>by cases hq)));have HPR:Hid (∀k,pv.ownBlock=some k→k≠R0):=fun k hk=>by have:=(HI.out.de.far k hk).2;omega
      have HRW:Hid (w.heap.size≤R0):=by have:=HI.out.gr.size;show _≤_;omega
      have HRX:Hid (R0≠X):=by have:=Go.lt_of_block HI.out.bx;show _≠_;omega
      have HRM:Hid (R0≠M):=by have:=World.ownsMap.lt HI.out.ma;show _≠_;omega
      have HLE:Hid (ns.length≤1000000000000):=by have:=HLN.out;show _≤_;omega
      have HM0:Hid (R.Met K ns (Maps.has (R.mapD R.fieldD L))):=R.Met.start HL.out;clear hg0 hs0 hR0 e0 e1 hlt' HI;go_loopw [62] (fun _ wl=> ∃(left:Lit→Bool) (cnt:Nat),wl.ranges Tryz.prog 9 R.fieldR M R0 4 (R.mapD R.fieldD L) left cnt∧Hid (FR w P A K id ns (.slice na len nc) X XO M L i d1 pv .nil g (o+i*6) wl)∧Hid (R.Met K ns left)) (fun _ wl=>wl.rangeLeft M R0)
      case atStart=>exact ⟨_,_,hrg0,HIQ,HM0⟩
      case round=>
        rename World=>wl
        obtain ⟨left,cnt,hrg,HIR,HMT⟩:=hrel;clear HIQ HM0 hrg0;go_wp2_with (first
          | (at_next;refine wpList_next_field _ rfl _ rfl M R0 4 _ _ _ rfl hrg ?_ ?_)
          | fail)
        · intro _ hl0;have HML:=hid (R.Met.done HMT.out hl0);clear hrg hl0;go_wp2_with fail;go_ret;refine ⟨HIR.out.gr,Or.inr ⟨d1,pv,?_,rfl,HIR.out.de,fun k hk=>Or.inr (HIR.out.de.far k hk).1⟩⟩;rw [HRES.out,if_pos HML.out]
        · intro s c w1 cnt1 hls hat hrg1 hlt1 hg1 hs1 hen;obtain ⟨m,k',f⟩:=c;dsimp only at hat hen ⊢;obtain ⟨f0,hf0,hnm0,hmu0⟩:=field_of HL.out s hat;have HF0:=hid (show f0∈R.table K∧f0.nm=s.data.toList∧f0.must=m from ⟨hf0,hnm0,hmu0⟩);have HI1:=hid (HIR.out.turned (fun b hb=>(HPP.out b hb).1) hg1 HRW.out HRX.out HRM.out HPR.out);have HLS:Hid (cnt1<wl.rangeLeft M R0):=by show _<_;rw [hrg.left_eq];exact hlt1
          have HG1:=hid hrg1;clear hrg hls hat hlt1 hg1 hs1 hf0 hnm0 hmu0 hrg1;go_upto_region 14 with fail;obtain ⟨Y,hY⟩:∃Y,w1.heap.size=Y:=⟨_,rfl⟩;obtain ⟨w5,hw5⟩:∃w5,w1.alloc (.cells #[.bool m,.int .u8 k',.func (.func f) #[] #[]] 154)=w5:=⟨_,rfl⟩;have hb5:Below w1.heap.size w1 w5:=by rw [←hw5];exact (Below.refl _ w1).alloc (Nat.le_refl _) _
          have HY5:Hid (w5.heap[Y]? =some (.cells #[.bool m,.int .u8 k',.func (.func f) #[] #[]] 154 (0,0))):=by show _=_;rw [←hw5,←hY];exact heap_alloc_new w1 _
          have HI5:=hid (HI1.out.after (fun b hb=>(HPP.out b hb).1) hb5);have HG5:Hid (w5.ranges Tryz.prog 9 R.fieldR M R0 4 (R.mapD R.fieldD L) (fun z=>left z&& !z.sameKey (.string s.data.toList)) cnt1):=HG1.out.kept (row:=none) ⟨hb5.os,hb5.tape,hb5.output,hb5.size,fun k hk _=>hb5.block k hk⟩ (by simp) (by simp);rw [hw5,hY];obtain ⟨q,hq⟩:∃q,decide (s.data.toList∈ns.map fun y=>y.data.toList)=q:=⟨_,rfl⟩;have HCT:=hid (scontains_in HI5.out.sn s HLE.out);rw [hq] at HCT;have HQ:Hid (decide (f0.nm∈ns.map fun y=>y.data.toList)=q):=by show _=_;rw [HF0.out.2.1];exact hq
          clear hw5 hY hb5 hen hq;cases m with
          | false=>
            have c0:w5.cell? ⟨Y,0,none⟩=some (.bool false):=rowCell HY5.out 0;go_wp2_with fail;go_roundw
            case rel=>
              have hst:Hid (R.Met K ns (fun z=>left z&& !z.sameKey (.string s.data.toList))):=by rw [←HF0.out.2.1];exact HMT.out.step HF0.out.1 (fun hm=>absurd (HF0.out.2.2.symm.trans hm) (by decide))
              exact ⟨_,cnt1,HG5.out,HI5,hst⟩
            case measure=>rw [HG5.out.left_eq];exact HLS.out
          | true=>
            cases q with
            | false=>
              have c0:w5.cell? ⟨Y,0,none⟩=some (.bool true):=rowCell HY5.out 0;have hx:=HI5.out.bx;rw [←HXO.out] at hx;obtain ⟨x0,x1,x2,x3,x4,x5⟩:=x6_of hx;clear hx;go_wp2_with fail;refine HCT.out.mono ?_;rintro e w9 ⟨rfl,hw⟩;subst hw;clear x0 x1 x2 x3 x4 x5;go_wp2_with fail;go_ret;refine ⟨HI5.out.gr,Or.inl ⟨?_,rfl⟩⟩;rw [HRES.out,R.Met.not HF0.out.1 HF0.out.2.2 (of_decide_eq_false HQ.out)];rfl
            | true=>
              have c0:w5.cell? ⟨Y,0,none⟩=some (.bool true):=rowCell HY5.out 0;have hx:=HI5.out.bx;rw [←HXO.out] at hx;obtain ⟨x0,x1,x2,x3,x4,x5⟩:=x6_of hx;clear hx;go_wp2_with fail;refine HCT.out.mono ?_;rintro e w9 ⟨rfl,hw⟩;subst hw;clear x0 x1 x2 x3 x4 x5;go_wp2_with fail;go_roundw
              case rel=>
               have hst:Hid (R.Met K ns (fun z=>left z&& !z.sameKey (.string s.data.toList))):=by rw [←HF0.out.2.1];exact HMT.out.step HF0.out.1 (fun hm=>of_decide_eq_true HQ.out)
               exact ⟨_,cnt1,HG5.out,HI5,hst⟩
              case measure=>rw [HG5.out.left_eq];exact HLS.out
end Go.Proofs.YtohkomndapngjaaGreatDoor

