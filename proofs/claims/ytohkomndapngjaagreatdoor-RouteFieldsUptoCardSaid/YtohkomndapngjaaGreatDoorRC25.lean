/- vars: a deed's variables are put. -/
import Derived.Test.YtohkomndapngjaaGreatDoorRC24
import Derived.Test.YtohkomndapngjaaGreatDoorRC8
import Derived.Deep.AppendLies
import Derived.Maps.RangeWalk
import Derived.Laws.EntriesVeiled
import Derived.ProofKit
import Derived.Deep.RegionHeld3
namespace Go.Proofs.YtohkomndapngjaaGreatDoor
set_option maxRecDepth 100000
set_option maxHeartbeats 16000000
open Go.RowKit
open Go.Lib (hid)
theorem R.vars_step {acc:List R.B}{k:Nat}{b:Bool}{n:Int}{s:ByteArray}{l:J.T}{m:List ByteArray}{r:J.T}{ns:List ByteArray}{i:Nat}{nm:ByteArray}(h:ns[i]? =some nm):
  R.vars acc (.cons k b n s l m r) (ns.drop i)=(match R.bind nm k b n s with|none=>none|some x=>R.vars (acc++ [x]) r (ns.drop (i+1))):=by
 have e:ns.drop i=nm::ns.drop (i+1):=by
  obtain ⟨hi,e⟩:=List.getElem?_eq_some_iff.1 h;rw [List.drop_eq_getElem_cons hi,e]
 rw [e];rfl
theorem set_vars (x:J.V) (lv nv:Value) (w:World) (P:Nat→Prop) (A B K:Nat) (id:Int) (d:R.D) (pv0:Value) (hl:x.l.In w P lv) (hs:J.SIn w P x.ns nv) (hln:x.ns.length=x.l.length) (hbd:d.patch.length+x.l.length≤1000000000000)
  (hP:∀b,P b→b<w.heap.size∧b≠A∧pv0.ownBlock≠some b) (hB:B≤w.heap.size) (h:DAt w A B K id d pv0):
  Calls Tryz.prog 115 #[.pointer (some ⟨A,0,none⟩),.agg #[.int .u8 x.k,.bool x.b,.int .i64 x.n,.string x.s,lv,nv]] w (PutOf A B K id pv0 w ((R.vars d.patch x.l x.ns).map fun p=> { d with patch:=p })):=by
 obtain ⟨k0,b0,n0,s0,t,ns⟩:=x;simp only at hl hs hln hbd ⊢;obtain ⟨la,lc,rfl⟩:=hl.shape;obtain ⟨na,nc,rfl⟩:=hs.shape;obtain ⟨len,hlen⟩:∃len,t.length=len:=⟨_,rfl⟩;obtain ⟨RES,hR⟩:∃r,R.vars d.patch t ns=r:=⟨_,rfl⟩;rw [hln,hlen] at hs ⊢;rw [hlen] at hbd hl;rw [hR];obtain ⟨XO,hXO⟩:∃o,Obj.cells #[.int .u8 k0,.bool b0,.int .i64 n0,.string s0,.slice la len lc,.slice na len nc] 26 (0,0)=o:=⟨_,rfl⟩;obtain ⟨X,hX⟩:∃X,w.heap.size=X:=⟨_,rfl⟩;obtain ⟨w0,hw0⟩:∃w0,w.alloc (.cells #[.int .u8 k0,.bool b0,.int .i64 n0,.string s0,.slice la len lc,.slice na len nc] 26)=w0:=⟨_,rfl⟩;have hx0:w0.heap[X]? =some XO:=by rw [←hw0,←hX,←hXO];exact heap_alloc_new w _
 have hb0:Below w.heap.size w w0:=by rw [←hw0];exact (Below.refl _ w).alloc (Nat.le_refl _) _
 have hk0:∀b,P b→w0.heap[b]? =w.heap[b]? :=fun b hb=>hb0.block b (hP b hb).1
 obtain ⟨g,o,hgo⟩:∃g o,t≠ .nil→la=some ⟨g,o,none⟩∧len≤lc∧t.At w0 P g o:=by
  rcases hl with ⟨h1, -⟩|⟨g,o,c,h1,h2,h3,h4⟩
  · exact ⟨0,0,fun h=>absurd h1 h⟩
  · cases h1;exact ⟨g,o,fun _=>⟨rfl,by rw [←hlen];exact h2,J.T.At.keep (fun _ h=>h) hk0 _ _ _ h4⟩⟩
 have HV0:Hid (VR w P A B K id d pv0 ns (.slice na len nc) X XO 0 d.patch pv0 t g (o+0*6) w0):=by
  refine ⟨h.below hb0,(G2.refl _ _ _).below hb0,hx0,fun hne=> ?_,J.SIn.keep (fun _ h=>h) hk0 hs,by omega,fun k hk=>⟨?_,Or.inl hk⟩⟩
  · rw [Nat.zero_mul,Nat.add_zero];exact (hgo hne).2.2
  · have:=(h.far k hk).2;omega
 have HA0:Hid (RES=R.vars d.patch t (ns.drop 0)∧t.length+0=len):=⟨hR.symm,hlen⟩;have HGO:=hid hgo;have HPP:=hid hP;have HBW:=hid hB;have HBD0:=hid hbd;have hlb:len≤1000000000000:=by omega
 have HLN:=hid (show ns.length=len by rw [hln,hlen]);have HXA:Hid (X≠A):=by have:=Go.lt_of_block h.sx.h;show _≠_;omega
 have HXW:=hid hX;have HLL:=hid hlen;have HXO:=hid hXO;have HW0:=hid hw0;obtain ⟨i0,hi,hz0,hz1,hz2⟩:=info_parts infoBind;have HI0:=hid (show _∧_∧_∧_ from ⟨hi,hz0,hz1,hz2⟩);clear hi hz0 hz1 hz2 hl hs hln hbd hP hB h hlen hR hXO hX hw0 hx0 hb0 hk0 hgo;go_enter Tryz.func115,Tryz.ntmps115;go_upto_region 1 with fail;rw [HW0.out,HXW.out];clear HW0;have hx:=HV0.out.bx;rw [←HXO.out] at hx;obtain ⟨x0,x1,x2,x3,x4,x5⟩:=x6_of hx;clear hx;go_wp2_with fail;clear x0 x1 x2 x3 x4 x5;go_loopw [11] (fun vi wr=> ∃(i:Nat),i≤len∧vi= .int .i64 i∧∃(acc:List R.B) (pv:Value) (t2:J.T),Hid (RES=R.vars acc t2 (ns.drop i)∧t2.length+i=len)∧Hid (VR w P A B K id d pv0 ns (.slice na len nc) X XO i acc pv t2 g (o+i*6) wr)) (fun vi _=>len-(intOf vi).toNat)
 case atStart=>exact ⟨0,Nat.zero_le _,rfl,d.patch,pv0,t,HA0,HV0⟩
 case round=>
  obtain ⟨i,hi,rfl,acc,pv,t2,HA,HI⟩:=hrel;clear HV0 HA0;by_cases hlt:i<len
  · have d0:decide ((i:Int)<(len:Int))=true:=decide_eq_true (by omega);have d1:decide (i<len)=true:=decide_eq_true (by omega);cases t2 with
    | nil=>have:=HA.out.2;simp only [J.T.length] at this;omega
    | cons k1 b1 n1 s1 l1 m1 r=>
      obtain ⟨hPg,y0,y1,y2,y3,⟨lv1,y4,hl1⟩,⟨nv1,y5,hn1⟩,hpr⟩:=HI.out.ca (fun h=>by cases h);obtain ⟨al,cl,rfl⟩:=J.T.In.shape (w:=wr) (P:=P) (t:=l1) hl1;obtain ⟨an,cn,rfl⟩:=hn1.shape;obtain ⟨nm,hnm⟩:∃nm,ns[i]? =some nm:=⟨_,List.getElem?_eq_getElem (by have:=HLN.out;omega)⟩;have HN:=hid hnm;have htn:t≠ .nil:=fun e=>by
        have h1:=HLL.out;rw [e] at h1;simp only [J.T.length] at h1;omega
      obtain ⟨rfl,hgc, -⟩:=HGO.out htn;obtain ⟨m,hm⟩:∃m,acc.length=m:=⟨_,rfl⟩;obtain ⟨pa,pc,hpv⟩:∃pa pc,pv= .slice pa m pc:=by
        obtain ⟨a,c,h⟩:=own_shape HI.out.de.own;exact ⟨a,c,by rw [h,←hm]⟩
      subst hpv;have HM:=hid hm;have HMB:Hid (m+1≤maxLen∧(m+1)*56≤140737488355328):=by have:=HI.out.le;have:=HBD0.out;show _∧_;unfold maxLen;omega
      have hi0:(0:Int)≤(i:Int):=by omega
      have hi1:(i:Int)<(len:Int):=by omega
      clear hPg hl1 hn1 hpr hnm hm htn;go_upto_region 4 with fail;obtain ⟨Y0,hY0⟩:∃Y,wr.heap.size=Y:=⟨_,rfl⟩;obtain ⟨w3,hw3⟩:∃w3,wr.alloc (.cells #[.int .u8 k1,.bool b1,.int .i64 n1,.string s1,.slice al l1.length cl,.slice an m1.length cn] 26)=w3:=⟨_,rfl⟩;have hb3:Below wr.heap.size wr w3:=by rw [←hw3];exact (Below.refl _ wr).alloc (Nat.le_refl _) _
      have hy3:w3.heap[Y0]? =some (.cells #[.int .u8 k1,.bool b1,.int .i64 n1,.string s1,.slice al l1.length cl,.slice an m1.length cn] 26 (0,0)):=by rw [←hw3,←hY0];exact heap_alloc_new wr _
      have hv3:=HI.out.after (fun b hb=>(HPP.out b hb).1) hb3;have hx:=hv3.bx;rw [←HXO.out] at hx;obtain ⟨x0,x1,x2,x3,x4,x5⟩:=x6_of hx;obtain ⟨nb,no,hna,hnc,hnj⟩:∃nb no,na=some ⟨nb,no,none⟩∧len≤nc∧w3.cell? ⟨nb,no+i,none⟩=some (.string nm):=by
        rcases hv3.sn with ⟨h1, -⟩|⟨-,nb,no,c,h1, -,h2,h3⟩
        · exact absurd HN.out (by rw [h1];simp)
        · cases h1;exact ⟨nb,no,rfl,by rw [←HLN.out];exact h2,h3 i nm HN.out⟩
      subst hna;rw [hw3,hY0];have HY3:=hid hy3;have HB3:=hid hb3;have HYY:=hid hY0;clear hb3 hy3 hv3 hx hw3 hY0 y0 y1 y2 y3 y4 y5;go_upto_region 5 with fail;obtain ⟨Y,hY⟩:∃Y,w3.heap.size=Y:=⟨_,rfl⟩;obtain ⟨w4,hw4⟩:∃w4,w3.alloc (.cells #[.string nm,.int .u8 0,.int .i64 0,.bool false,.string ⟨#[]⟩] 57)=w4:=⟨_,rfl⟩;have hb4:Below w3.heap.size w3 w4:=by rw [←hw4];exact (Below.refl _ w3).alloc (Nat.le_refl _) _
      have HY4:Hid (w4.heap[Y]? =some (.cells #[.string nm,.int .u8 0,.int .i64 0,.bool false,.string ⟨#[]⟩] 57 (0,0))):=by show _=_;rw [←hw4,←hY];exact heap_alloc_new w3 _
      have HYE:Hid (wr.heap.size≤Y):=by have:=HB3.out.size;show _≤_;omega
      have hyb:=(hb4.block Y0 (Go.lt_of_block HY3.out)).trans HY3.out;have HB4:=hid (HB3.out.trans (hb4.mono HB3.out.size));rw [hw4,hY];obtain ⟨z0,z1,z2,z3,z4,z5⟩:=x6_of hyb;have e0:w4.cell? ⟨Y,0,none⟩=some (.string nm):=rowCell HY4.out 0;have e1:w4.cell? ⟨Y,1,none⟩=some (.int .u8 0):=rowCell HY4.out 1;have e2:w4.cell? ⟨Y,2,none⟩=some (.int .i64 0):=rowCell HY4.out 2;have e3:w4.cell? ⟨Y,3,none⟩=some (.bool false):=rowCell HY4.out 3;have e4:w4.cell? ⟨Y,4,none⟩=some (.string ⟨#[]⟩):=rowCell HY4.out 4;have f1:=rowFree HY4.out 1;have f2:=rowFree HY4.out 2;have f3:=rowFree HY4.out 3;have f4:=rowFree HY4.out 4;clear hw4 hY hb4 hyb x0 x1 x2 x3 x4 x5 hnj;by_cases hk3:k1=3
      · have t3:((k1:Int)==3)=true:=by subst hk3;rfl
        have HBD:Hid (R.bind nm k1 b1 n1 s1=some ⟨nm,1,false,n1,⟨#[]⟩⟩):=by subst hk3;rfl
        clear hk3;go_upto_region 13 with fail;have hy6:((((w4.setCell ⟨Y,1,none⟩ (.int .u8 1)).setCell ⟨Y,2,none⟩ (.int .i64 n1)).setCell ⟨Y,3,none⟩ (.bool false)).setCell ⟨Y,4,none⟩ (.string ⟨#[]⟩)).heap[Y]? =some (.cells #[.string nm,.int .u8 1,.int .i64 n1,.bool false,.string ⟨#[]⟩] 57 (0,0)):=row_set (row_set (row_set (row_set HY4.out 1 (.int .u8 1)) 2 (.int .i64 n1)) 3 (.bool false)) 4 (.string ⟨#[]⟩);have hb6:Below wr.heap.size wr ((((w4.setCell ⟨Y,1,none⟩ (.int .u8 1)).setCell ⟨Y,2,none⟩ (.int .i64 n1)).setCell ⟨Y,3,none⟩ (.bool false)).setCell ⟨Y,4,none⟩ (.string ⟨#[]⟩)):=(((HB4.out.setCell (p:=⟨Y,1,none⟩) HYE.out (.int .u8 1)).setCell (p:=⟨Y,2,none⟩) HYE.out (.int .i64 n1)).setCell (p:=⟨Y,3,none⟩) HYE.out (.bool false)).setCell (p:=⟨Y,4,none⟩) HYE.out (.string ⟨#[]⟩);obtain ⟨w6,hw6⟩:∃w6,(((w4.setCell ⟨Y,1,none⟩ (.int .u8 1)).setCell ⟨Y,2,none⟩ (.int .i64 n1)).setCell ⟨Y,3,none⟩ (.bool false)).setCell ⟨Y,4,none⟩ (.string ⟨#[]⟩)=w6:=⟨_,rfl⟩;rw [hw6] at hy6 hb6 ⊢;have hv6:=HI.out.after (fun b hb=>(HPP.out b hb).1) hb6;have hb67:Below wr.heap.size wr (w6.alloc (.cells #[.string nm,.int .u8 1,.int .i64 n1,.bool false,.string ⟨#[]⟩] 57)).drew:=(hb6.alloc hb6.size _).drew;have HA6:Hid (w6.heap[A]? =some (.cells #[.int .u8 K,.string ⟨#[]⟩,.string ⟨#[]⟩,.slice none 0 0,.slice none 0 0,.slice none 0 0,.string d.name,.string d.key,.string d.worker,.int .i64 id,.int .i64 d.n,.int .i64 d.ticks,(.slice pa m pc),.int .u8 0,.string ⟨#[]⟩,.int .i64 0] 39 (0,0))):=hv6.de.sx.h;have HY6:=hid hy6;have HA7:Hid ((w6.alloc (.cells #[.string nm,.int .u8 1,.int .i64 n1,.bool false,.string ⟨#[]⟩] 57)).drew.heap[A]? =some (.cells #[.int .u8 K,.string ⟨#[]⟩,.string ⟨#[]⟩,.slice none 0 0,.slice none 0 0,.slice none 0 0,.string d.name,.string d.key,.string d.worker,.int .i64 id,.int .i64 d.n,.int .i64 d.ticks,(.slice pa m pc),.int .u8 0,.string ⟨#[]⟩,.int .i64 0] 39 (0,0))):=(Lib.alloc_old _ _ _ (Go.lt_of_block HA6.out)).trans HA6.out;have HY7:Hid ((w6.alloc (.cells #[.string nm,.int .u8 1,.int .i64 n1,.bool false,.string ⟨#[]⟩] 57)).drew.heap[Y]? =some (.cells #[.string nm,.int .u8 1,.int .i64 n1,.bool false,.string ⟨#[]⟩] 57 (0,0))):=(Lib.alloc_old _ _ _ (Go.lt_of_block hy6)).trans hy6;have HO6:Hid ((w6.alloc (.cells #[.string nm,.int .u8 1,.int .i64 n1,.bool false,.string ⟨#[]⟩] 57)).drew.ownsRow B 57 5 (.slice pa m pc) m (R.bindsC acc)):=by
          have:=World.ownsRow.drew (World.ownsRow.alloc hv6.de.own (.cells #[.string nm,.int .u8 1,.int .i64 n1,.bool false,.string ⟨#[]⟩] 57));rw [show ({ d with patch:=acc }:R.D).patch.length=m from HM.out] at this;exact this
        have HNW:Hid (∀j u,(R.bindC ⟨nm,1,false,n1,⟨#[]⟩⟩)[j]? =some u→(w6.alloc (.cells #[.string nm,.int .u8 1,.int .i64 n1,.bool false,.string ⟨#[]⟩] 57)).drew.cell? ((⟨w6.heap.size,0,none⟩:Addr).add j)=some u):=World.news_of_block (w:=(w6.alloc (.cells #[.string nm,.int .u8 1,.int .i64 n1,.bool false,.string ⟨#[]⟩] 57)).drew) (cs:=#[.string nm,.int .u8 1,.int .i64 n1,.bool false,.string ⟨#[]⟩]) (heap_alloc_new w6 (.cells #[.string nm,.int .u8 1,.int .i64 n1,.bool false,.string ⟨#[]⟩] 57));have HNO:Hid (∀j,(Value.slice pa m pc).ownBlock=some j→¬ (j=A∨j=Y)):=fun j hj hc=>by
          have h1:=HI.out.de.far j hj;have h2:=HI.out.de.ab;have h3:=HYE.out;rcases hc with hc|hc<;>omega
        have HB7:Hid (B≤(w6.alloc (.cells #[.string nm,.int .u8 1,.int .i64 n1,.bool false,.string ⟨#[]⟩] 57)).drew.heap.size):=by show B≤(w6.alloc (.cells #[.string nm,.int .u8 1,.int .i64 n1,.bool false,.string ⟨#[]⟩] 57)).heap.size;have:=hb67.size;have:=HBW.out;have:=HI.out.gr.size;have e:(w6.alloc (.cells #[.string nm,.int .u8 1,.int .i64 n1,.bool false,.string ⟨#[]⟩] 57)).drew.heap.size=(w6.alloc (.cells #[.string nm,.int .u8 1,.int .i64 n1,.bool false,.string ⟨#[]⟩] 57)).heap.size:=rfl;omega
        have HB67:=hid hb67;clear hw6 hy6 hb6 hv6 hb67;refine wp_region_till (S:=(fun W:World=>W.heap[A]? =some (.cells #[.int .u8 K,.string ⟨#[]⟩,.string ⟨#[]⟩,.slice none 0 0,.slice none 0 0,.slice none 0 0,.string d.name,.string d.key,.string d.worker,.int .i64 id,.int .i64 d.n,.int .i64 d.ticks,(.slice pa m pc),.int .u8 0,.string ⟨#[]⟩,.int .i64 0] 39 (0,0))∧W.heap[Y]? =some (.cells #[.string nm,.int .u8 1,.int .i64 n1,.bool false,.string ⟨#[]⟩] 57 (0,0)))) 10 (by kernel_rfl) ?_;have HS:=hid (show ((fun W:World=>W.heap[A]? =some (.cells #[.int .u8 K,.string ⟨#[]⟩,.string ⟨#[]⟩,.slice none 0 0,.slice none 0 0,.slice none 0 0,.string d.name,.string d.key,.string d.worker,.int .i64 id,.int .i64 d.n,.int .i64 d.ticks,(.slice pa m pc),.int .u8 0,.string ⟨#[]⟩,.int .i64 0] 39 (0,0))∧W.heap[Y]? =some (.cells #[.string nm,.int .u8 1,.int .i64 n1,.bool false,.string ⟨#[]⟩] 57 (0,0)))) _ from ⟨HA6.out,HY6.out⟩);refine tillA 0 (fun _=>HS.out) ?_;refine tillA 1 (fun _=>HS.out) ?_;refine tillA 2 (fun _=>HS.out) ?_;refine tillA 3 (fun _=>HS.out) ?_;refine tillL 4 [4,10] (v:= ?v5) HS.out ?hy5 ?_
        case hy5=>
          intro w hSw;have c12:w.cell? ⟨A,12,none⟩=some (.slice pa m pc):=rowCell hSw.1 12;clear hSw;go_simp;try with_reducible rfl
        refine tillL 5 [5,10] (v:= ?v6) HS.out ?hy6 ?_
        case hy6=>
          intro w hSw;have e0:w.cell? ⟨Y,0,none⟩=some (.string nm):=rowCell hSw.2 0;have e1:w.cell? ⟨Y,1,none⟩=some (.int .u8 1):=rowCell hSw.2 1;have e2:w.cell? ⟨Y,2,none⟩=some (.int .i64 n1):=rowCell hSw.2 2;have e3:w.cell? ⟨Y,3,none⟩=some (.bool false):=rowCell hSw.2 3;have e4:w.cell? ⟨Y,4,none⟩=some (.string ⟨#[]⟩):=rowCell hSw.2 4;clear hSw;go_simp;try with_reducible rfl
        refine tillD1 6 (fun K hK=> ?step7)
        case step7=>
          go_simp;refine hK.out _ _ (fun _=>⟨(Lib.alloc_old _ _ _ (Go.lt_of_block HA6.out)).trans HA6.out,(Lib.alloc_old _ _ _ (Go.lt_of_block HY6.out)).trans HY6.out⟩) (fun hHeld=> ?_);have HS7:=hid (hHeld (by kernel_rfl));clear hHeld hK K;refine tillD1 7 (fun K hK=> ?step8)
          case step8=>
           refine step_append_lies _ (by rfl) (.tmp 46) (.tmp 48) 31 (by rfl) B 57 i0 _ 5 56 Tryz.underlying31 HI0.out.1 HI0.out.2.1 HI0.out.2.2.1 HI0.out.2.2.2 rfl (by decide) (.slice pa m pc) m (R.bindsC acc) (by rfl) HO6.out ⟨w6.heap.size,0,none⟩ 1 1 (R.bindC ⟨nm,1,false,n1,⟨#[]⟩⟩) (by rfl) rfl HNW.out (R.bindC_one _) (by decide) HMB.out.1 HMB.out.2 HB7.out _ rfl ?_;intro g1 cap1 w8 hown hgrow hat hlt;have HNX:=hid (VR.next (x:=⟨nm,1,false,n1,⟨#[]⟩⟩) HI.out HPP.out HXA.out HB67.out HM.out hown hgrow hat);have HA8:=hid ((hgrow.block A (Go.lt_of_block HA7.out) (fun e=>HNO.out A e.symm (Or.inl rfl))).trans HA7.out);have HY8:=hid ((hgrow.block Y (Go.lt_of_block HY7.out) (fun e=>HNO.out Y e.symm (Or.inr rfl))).trans HY7.out);have c12:w8.cell? ⟨A,12,none⟩=some (.slice pa m pc):=rowCell HA8.out 12;have f12:=rowFree HA8.out 12;clear hown hgrow hat hlt;refine hK.out _ _ (fun _=>⟨HA8.out,HY8.out⟩) (fun hHeld=> ?_);have HS8:=hid (hHeld (by kernel_rfl));clear hHeld hK K;refine tillA 8 (fun _=>HS8.out) ?_;refine tillA 9 (fun _=>HS8.out) ?_;refine tillD1 10 (fun K hK=> ?step11)
           case step11=>
            go_simp;refine hK.out _ _ (fun hk=>by cases (show true=false from hk)) (fun _=> ?_);clear hK K;refine wpTill_done (by kernel_rfl) ?_ _;clear c12 f12;go_wp2_with fail;go_roundw
            case rel=>
             refine ⟨i+1,by omega,by go_num,acc++ [⟨nm,1,false,n1,⟨#[]⟩⟩],_,r,hid ⟨?_,by have:=HA.out.2;simp only [J.T.length] at this;omega⟩,by rw [show o+(i+1)*6=o+i*6+6 by omega];exact HNX⟩;rw [HA.out.1,R.vars_step HN.out,HBD.out]
            case measure=>simp [intOf];omega
      have t3:((k1:Int)==3)=false:=by rw [beq_eq_false_iff_ne];omega
      by_cases hk2:k1=2
      · have t2:((k1:Int)==2)=true:=by subst hk2;rfl
        have HBD:Hid (R.bind nm k1 b1 n1 s1=some ⟨nm,2,b1,0,⟨#[]⟩⟩):=by subst hk2;rfl
        clear hk2;go_upto_region 13 with fail;have hy6:((((w4.setCell ⟨Y,1,none⟩ (.int .u8 2)).setCell ⟨Y,2,none⟩ (.int .i64 0)).setCell ⟨Y,3,none⟩ (.bool b1)).setCell ⟨Y,4,none⟩ (.string ⟨#[]⟩)).heap[Y]? =some (.cells #[.string nm,.int .u8 2,.int .i64 0,.bool b1,.string ⟨#[]⟩] 57 (0,0)):=row_set (row_set (row_set (row_set HY4.out 1 (.int .u8 2)) 2 (.int .i64 0)) 3 (.bool b1)) 4 (.string ⟨#[]⟩);have hb6:Below wr.heap.size wr ((((w4.setCell ⟨Y,1,none⟩ (.int .u8 2)).setCell ⟨Y,2,none⟩ (.int .i64 0)).setCell ⟨Y,3,none⟩ (.bool b1)).setCell ⟨Y,4,none⟩ (.string ⟨#[]⟩)):=(((HB4.out.setCell (p:=⟨Y,1,none⟩) HYE.out (.int .u8 2)).setCell (p:=⟨Y,2,none⟩) HYE.out (.int .i64 0)).setCell (p:=⟨Y,3,none⟩) HYE.out (.bool b1)).setCell (p:=⟨Y,4,none⟩) HYE.out (.string ⟨#[]⟩);obtain ⟨w6,hw6⟩:∃w6,(((w4.setCell ⟨Y,1,none⟩ (.int .u8 2)).setCell ⟨Y,2,none⟩ (.int .i64 0)).setCell ⟨Y,3,none⟩ (.bool b1)).setCell ⟨Y,4,none⟩ (.string ⟨#[]⟩)=w6:=⟨_,rfl⟩;rw [hw6] at hy6 hb6 ⊢;have hv6:=HI.out.after (fun b hb=>(HPP.out b hb).1) hb6;have hb67:Below wr.heap.size wr (w6.alloc (.cells #[.string nm,.int .u8 2,.int .i64 0,.bool b1,.string ⟨#[]⟩] 57)).drew:=(hb6.alloc hb6.size _).drew;have HA6:Hid (w6.heap[A]? =some (.cells #[.int .u8 K,.string ⟨#[]⟩,.string ⟨#[]⟩,.slice none 0 0,.slice none 0 0,.slice none 0 0,.string d.name,.string d.key,.string d.worker,.int .i64 id,.int .i64 d.n,.int .i64 d.ticks,(.slice pa m pc),.int .u8 0,.string ⟨#[]⟩,.int .i64 0] 39 (0,0))):=hv6.de.sx.h;have HY6:=hid hy6;have HA7:Hid ((w6.alloc (.cells #[.string nm,.int .u8 2,.int .i64 0,.bool b1,.string ⟨#[]⟩] 57)).drew.heap[A]? =some (.cells #[.int .u8 K,.string ⟨#[]⟩,.string ⟨#[]⟩,.slice none 0 0,.slice none 0 0,.slice none 0 0,.string d.name,.string d.key,.string d.worker,.int .i64 id,.int .i64 d.n,.int .i64 d.ticks,(.slice pa m pc),.int .u8 0,.string ⟨#[]⟩,.int .i64 0] 39 (0,0))):=(Lib.alloc_old _ _ _ (Go.lt_of_block HA6.out)).trans HA6.out;have HY7:Hid ((w6.alloc (.cells #[.string nm,.int .u8 2,.int .i64 0,.bool b1,.string ⟨#[]⟩] 57)).drew.heap[Y]? =some (.cells #[.string nm,.int .u8 2,.int .i64 0,.bool b1,.string ⟨#[]⟩] 57 (0,0))):=(Lib.alloc_old _ _ _ (Go.lt_of_block hy6)).trans hy6;have HO6:Hid ((w6.alloc (.cells #[.string nm,.int .u8 2,.int .i64 0,.bool b1,.string ⟨#[]⟩] 57)).drew.ownsRow B 57 5 (.slice pa m pc) m (R.bindsC acc)):=by
          have:=World.ownsRow.drew (World.ownsRow.alloc hv6.de.own (.cells #[.string nm,.int .u8 2,.int .i64 0,.bool b1,.string ⟨#[]⟩] 57));rw [show ({ d with patch:=acc }:R.D).patch.length=m from HM.out] at this;exact this
        have HNW:Hid (∀j u,(R.bindC ⟨nm,2,b1,0,⟨#[]⟩⟩)[j]? =some u→(w6.alloc (.cells #[.string nm,.int .u8 2,.int .i64 0,.bool b1,.string ⟨#[]⟩] 57)).drew.cell? ((⟨w6.heap.size,0,none⟩:Addr).add j)=some u):=World.news_of_block (w:=(w6.alloc (.cells #[.string nm,.int .u8 2,.int .i64 0,.bool b1,.string ⟨#[]⟩] 57)).drew) (cs:=#[.string nm,.int .u8 2,.int .i64 0,.bool b1,.string ⟨#[]⟩]) (heap_alloc_new w6 (.cells #[.string nm,.int .u8 2,.int .i64 0,.bool b1,.string ⟨#[]⟩] 57));have HNO:Hid (∀j,(Value.slice pa m pc).ownBlock=some j→¬ (j=A∨j=Y)):=fun j hj hc=>by
          have h1:=HI.out.de.far j hj;have h2:=HI.out.de.ab;have h3:=HYE.out;rcases hc with hc|hc<;>omega
        have HB7:Hid (B≤(w6.alloc (.cells #[.string nm,.int .u8 2,.int .i64 0,.bool b1,.string ⟨#[]⟩] 57)).drew.heap.size):=by show B≤(w6.alloc (.cells #[.string nm,.int .u8 2,.int .i64 0,.bool b1,.string ⟨#[]⟩] 57)).heap.size;have:=hb67.size;have:=HBW.out;have:=HI.out.gr.size;have e:(w6.alloc (.cells #[.string nm,.int .u8 2,.int .i64 0,.bool b1,.string ⟨#[]⟩] 57)).drew.heap.size=(w6.alloc (.cells #[.string nm,.int .u8 2,.int .i64 0,.bool b1,.string ⟨#[]⟩] 57)).heap.size:=rfl;omega
        have HB67:=hid hb67;clear hw6 hy6 hb6 hv6 hb67;refine wp_region_till (S:=(fun W:World=>W.heap[A]? =some (.cells #[.int .u8 K,.string ⟨#[]⟩,.string ⟨#[]⟩,.slice none 0 0,.slice none 0 0,.slice none 0 0,.string d.name,.string d.key,.string d.worker,.int .i64 id,.int .i64 d.n,.int .i64 d.ticks,(.slice pa m pc),.int .u8 0,.string ⟨#[]⟩,.int .i64 0] 39 (0,0))∧W.heap[Y]? =some (.cells #[.string nm,.int .u8 2,.int .i64 0,.bool b1,.string ⟨#[]⟩] 57 (0,0)))) 10 (by kernel_rfl) ?_;have HS:=hid (show ((fun W:World=>W.heap[A]? =some (.cells #[.int .u8 K,.string ⟨#[]⟩,.string ⟨#[]⟩,.slice none 0 0,.slice none 0 0,.slice none 0 0,.string d.name,.string d.key,.string d.worker,.int .i64 id,.int .i64 d.n,.int .i64 d.ticks,(.slice pa m pc),.int .u8 0,.string ⟨#[]⟩,.int .i64 0] 39 (0,0))∧W.heap[Y]? =some (.cells #[.string nm,.int .u8 2,.int .i64 0,.bool b1,.string ⟨#[]⟩] 57 (0,0)))) _ from ⟨HA6.out,HY6.out⟩);refine tillA 0 (fun _=>HS.out) ?_;refine tillA 1 (fun _=>HS.out) ?_;refine tillA 2 (fun _=>HS.out) ?_;refine tillA 3 (fun _=>HS.out) ?_;refine tillL 4 [4,10] (v:= ?v16) HS.out ?hy16 ?_
        case hy16=>
          intro w hSw;have c12:w.cell? ⟨A,12,none⟩=some (.slice pa m pc):=rowCell hSw.1 12;clear hSw;go_simp;try with_reducible rfl
        refine tillL 5 [5,10] (v:= ?v17) HS.out ?hy17 ?_
        case hy17=>
          intro w hSw;have e0:w.cell? ⟨Y,0,none⟩=some (.string nm):=rowCell hSw.2 0;have e1:w.cell? ⟨Y,1,none⟩=some (.int .u8 2):=rowCell hSw.2 1;have e2:w.cell? ⟨Y,2,none⟩=some (.int .i64 0):=rowCell hSw.2 2;have e3:w.cell? ⟨Y,3,none⟩=some (.bool b1):=rowCell hSw.2 3;have e4:w.cell? ⟨Y,4,none⟩=some (.string ⟨#[]⟩):=rowCell hSw.2 4;clear hSw;go_simp;try with_reducible rfl
        refine tillD1 6 (fun K hK=> ?step18)
        case step18=>
          go_simp;refine hK.out _ _ (fun _=>⟨(Lib.alloc_old _ _ _ (Go.lt_of_block HA6.out)).trans HA6.out,(Lib.alloc_old _ _ _ (Go.lt_of_block HY6.out)).trans HY6.out⟩) (fun hHeld=> ?_);have HS18:=hid (hHeld (by kernel_rfl));clear hHeld hK K;refine tillD1 7 (fun K hK=> ?step19)
          case step19=>
           refine step_append_lies _ (by rfl) (.tmp 46) (.tmp 48) 31 (by rfl) B 57 i0 _ 5 56 Tryz.underlying31 HI0.out.1 HI0.out.2.1 HI0.out.2.2.1 HI0.out.2.2.2 rfl (by decide) (.slice pa m pc) m (R.bindsC acc) (by rfl) HO6.out ⟨w6.heap.size,0,none⟩ 1 1 (R.bindC ⟨nm,2,b1,0,⟨#[]⟩⟩) (by rfl) rfl HNW.out (R.bindC_one _) (by decide) HMB.out.1 HMB.out.2 HB7.out _ rfl ?_;intro g1 cap1 w8 hown hgrow hat hlt;have HNX:=hid (VR.next (x:=⟨nm,2,b1,0,⟨#[]⟩⟩) HI.out HPP.out HXA.out HB67.out HM.out hown hgrow hat);have HA8:=hid ((hgrow.block A (Go.lt_of_block HA7.out) (fun e=>HNO.out A e.symm (Or.inl rfl))).trans HA7.out);have HY8:=hid ((hgrow.block Y (Go.lt_of_block HY7.out) (fun e=>HNO.out Y e.symm (Or.inr rfl))).trans HY7.out);have c12:w8.cell? ⟨A,12,none⟩=some (.slice pa m pc):=rowCell HA8.out 12;have f12:=rowFree HA8.out 12;clear hown hgrow hat hlt;refine hK.out _ _ (fun _=>⟨HA8.out,HY8.out⟩) (fun hHeld=> ?_);have HS19:=hid (hHeld (by kernel_rfl));clear hHeld hK K;refine tillA 8 (fun _=>HS19.out) ?_;refine tillA 9 (fun _=>HS19.out) ?_;refine tillD1 10 (fun K hK=> ?step22)
           case step22=>
            go_simp;refine hK.out _ _ (fun hk=>by cases (show true=false from hk)) (fun _=> ?_);clear hK K;refine wpTill_done (by kernel_rfl) ?_ _;clear c12 f12;go_wp2_with fail;go_roundw
            case rel=>
             refine ⟨i+1,by omega,by go_num,acc++ [⟨nm,2,b1,0,⟨#[]⟩⟩],_,r,hid ⟨?_,by have:=HA.out.2;simp only [J.T.length] at this;omega⟩,by rw [show o+(i+1)*6=o+i*6+6 by omega];exact HNX⟩;rw [HA.out.1,R.vars_step HN.out,HBD.out]
            case measure=>simp [intOf];omega
      have t2:((k1:Int)==2)=false:=by rw [beq_eq_false_iff_ne];omega
      by_cases hk4:k1=4
      · have t4:((k1:Int)==4)=true:=by subst hk4;rfl
        have HBD:Hid (R.bind nm k1 b1 n1 s1=some ⟨nm,3,false,0,s1⟩):=by subst hk4;rfl
        clear hk4;go_upto_region 13 with fail;have hy6:((((w4.setCell ⟨Y,1,none⟩ (.int .u8 3)).setCell ⟨Y,2,none⟩ (.int .i64 0)).setCell ⟨Y,3,none⟩ (.bool false)).setCell ⟨Y,4,none⟩ (.string s1)).heap[Y]? =some (.cells #[.string nm,.int .u8 3,.int .i64 0,.bool false,.string s1] 57 (0,0)):=row_set (row_set (row_set (row_set HY4.out 1 (.int .u8 3)) 2 (.int .i64 0)) 3 (.bool false)) 4 (.string s1);have hb6:Below wr.heap.size wr ((((w4.setCell ⟨Y,1,none⟩ (.int .u8 3)).setCell ⟨Y,2,none⟩ (.int .i64 0)).setCell ⟨Y,3,none⟩ (.bool false)).setCell ⟨Y,4,none⟩ (.string s1)):=(((HB4.out.setCell (p:=⟨Y,1,none⟩) HYE.out (.int .u8 3)).setCell (p:=⟨Y,2,none⟩) HYE.out (.int .i64 0)).setCell (p:=⟨Y,3,none⟩) HYE.out (.bool false)).setCell (p:=⟨Y,4,none⟩) HYE.out (.string s1);obtain ⟨w6,hw6⟩:∃w6,(((w4.setCell ⟨Y,1,none⟩ (.int .u8 3)).setCell ⟨Y,2,none⟩ (.int .i64 0)).setCell ⟨Y,3,none⟩ (.bool false)).setCell ⟨Y,4,none⟩ (.string s1)=w6:=⟨_,rfl⟩;rw [hw6] at hy6 hb6 ⊢;have hv6:=HI.out.after (fun b hb=>(HPP.out b hb).1) hb6;have hb67:Below wr.heap.size wr (w6.alloc (.cells #[.string nm,.int .u8 3,.int .i64 0,.bool false,.string s1] 57)).drew:=(hb6.alloc hb6.size _).drew;have HA6:Hid (w6.heap[A]? =some (.cells #[.int .u8 K,.string ⟨#[]⟩,.string ⟨#[]⟩,.slice none 0 0,.slice none 0 0,.slice none 0 0,.string d.name,.string d.key,.string d.worker,.int .i64 id,.int .i64 d.n,.int .i64 d.ticks,(.slice pa m pc),.int .u8 0,.string ⟨#[]⟩,.int .i64 0] 39 (0,0))):=hv6.de.sx.h;have HY6:=hid hy6;have HA7:Hid ((w6.alloc (.cells #[.string nm,.int .u8 3,.int .i64 0,.bool false,.string s1] 57)).drew.heap[A]? =some (.cells #[.int .u8 K,.string ⟨#[]⟩,.string ⟨#[]⟩,.slice none 0 0,.slice none 0 0,.slice none 0 0,.string d.name,.string d.key,.string d.worker,.int .i64 id,.int .i64 d.n,.int .i64 d.ticks,(.slice pa m pc),.int .u8 0,.string ⟨#[]⟩,.int .i64 0] 39 (0,0))):=(Lib.alloc_old _ _ _ (Go.lt_of_block HA6.out)).trans HA6.out;have HY7:Hid ((w6.alloc (.cells #[.string nm,.int .u8 3,.int .i64 0,.bool false,.string s1] 57)).drew.heap[Y]? =some (.cells #[.string nm,.int .u8 3,.int .i64 0,.bool false,.string s1] 57 (0,0))):=(Lib.alloc_old _ _ _ (Go.lt_of_block hy6)).trans hy6;have HO6:Hid ((w6.alloc (.cells #[.string nm,.int .u8 3,.int .i64 0,.bool false,.string s1] 57)).drew.ownsRow B 57 5 (.slice pa m pc) m (R.bindsC acc)):=by
          have:=World.ownsRow.drew (World.ownsRow.alloc hv6.de.own (.cells #[.string nm,.int .u8 3,.int .i64 0,.bool false,.string s1] 57));rw [show ({ d with patch:=acc }:R.D).patch.length=m from HM.out] at this;exact this
        have HNW:Hid (∀j u,(R.bindC ⟨nm,3,false,0,s1⟩)[j]? =some u→(w6.alloc (.cells #[.string nm,.int .u8 3,.int .i64 0,.bool false,.string s1] 57)).drew.cell? ((⟨w6.heap.size,0,none⟩:Addr).add j)=some u):=World.news_of_block (w:=(w6.alloc (.cells #[.string nm,.int .u8 3,.int .i64 0,.bool false,.string s1] 57)).drew) (cs:=#[.string nm,.int .u8 3,.int .i64 0,.bool false,.string s1]) (heap_alloc_new w6 (.cells #[.string nm,.int .u8 3,.int .i64 0,.bool false,.string s1] 57));have HNO:Hid (∀j,(Value.slice pa m pc).ownBlock=some j→¬ (j=A∨j=Y)):=fun j hj hc=>by
          have h1:=HI.out.de.far j hj;have h2:=HI.out.de.ab;have h3:=HYE.out;rcases hc with hc|hc<;>omega
        have HB7:Hid (B≤(w6.alloc (.cells #[.string nm,.int .u8 3,.int .i64 0,.bool false,.string s1] 57)).drew.heap.size):=by show B≤(w6.alloc (.cells #[.string nm,.int .u8 3,.int .i64 0,.bool false,.string s1] 57)).heap.size;have:=hb67.size;have:=HBW.out;have:=HI.out.gr.size;have e:(w6.alloc (.cells #[.string nm,.int .u8 3,.int .i64 0,.bool false,.string s1] 57)).drew.heap.size=(w6.alloc (.cells #[.string nm,.int .u8 3,.int .i64 0,.bool false,.string s1] 57)).heap.size:=rfl;omega
        have HB67:=hid hb67;clear hw6 hy6 hb6 hv6 hb67;refine wp_region_till (S:=(fun W:World=>W.heap[A]? =some (.cells #[.int .u8 K,.string ⟨#[]⟩,.string ⟨#[]⟩,.slice none 0 0,.slice none 0 0,.slice none 0 0,.string d.name,.string d.key,.string d.worker,.int .i64 id,.int .i64 d.n,.int .i64 d.ticks,(.slice pa m pc),.int .u8 0,.string ⟨#[]⟩,.int .i64 0] 39 (0,0))∧W.heap[Y]? =some (.cells #[.string nm,.int .u8 3,.int .i64 0,.bool false,.string s1] 57 (0,0)))) 10 (by kernel_rfl) ?_;have HS:=hid (show ((fun W:World=>W.heap[A]? =some (.cells #[.int .u8 K,.string ⟨#[]⟩,.string ⟨#[]⟩,.slice none 0 0,.slice none 0 0,.slice none 0 0,.string d.name,.string d.key,.string d.worker,.int .i64 id,.int .i64 d.n,.int .i64 d.ticks,(.slice pa m pc),.int .u8 0,.string ⟨#[]⟩,.int .i64 0] 39 (0,0))∧W.heap[Y]? =some (.cells #[.string nm,.int .u8 3,.int .i64 0,.bool false,.string s1] 57 (0,0)))) _ from ⟨HA6.out,HY6.out⟩);refine tillA 0 (fun _=>HS.out) ?_;refine tillA 1 (fun _=>HS.out) ?_;refine tillA 2 (fun _=>HS.out) ?_;refine tillA 3 (fun _=>HS.out) ?_;refine tillL 4 [4,10] (v:= ?v27) HS.out ?hy27 ?_
        case hy27=>
          intro w hSw;have c12:w.cell? ⟨A,12,none⟩=some (.slice pa m pc):=rowCell hSw.1 12;clear hSw;go_simp;try with_reducible rfl
        refine tillL 5 [5,10] (v:= ?v28) HS.out ?hy28 ?_
        case hy28=>
          intro w hSw;have e0:w.cell? ⟨Y,0,none⟩=some (.string nm):=rowCell hSw.2 0;have e1:w.cell? ⟨Y,1,none⟩=some (.int .u8 3):=rowCell hSw.2 1;have e2:w.cell? ⟨Y,2,none⟩=some (.int .i64 0):=rowCell hSw.2 2;have e3:w.cell? ⟨Y,3,none⟩=some (.bool false):=rowCell hSw.2 3;have e4:w.cell? ⟨Y,4,none⟩=some (.string s1):=rowCell hSw.2 4;clear hSw;go_simp;try with_reducible rfl
        refine tillD1 6 (fun K hK=> ?step29)
        case step29=>
          go_simp;refine hK.out _ _ (fun _=>⟨(Lib.alloc_old _ _ _ (Go.lt_of_block HA6.out)).trans HA6.out,(Lib.alloc_old _ _ _ (Go.lt_of_block HY6.out)).trans HY6.out⟩) (fun hHeld=> ?_);have HS29:=hid (hHeld (by kernel_rfl));clear hHeld hK K;refine tillD1 7 (fun K hK=> ?step30)
          case step30=>
           refine step_append_lies _ (by rfl) (.tmp 46) (.tmp 48) 31 (by rfl) B 57 i0 _ 5 56 Tryz.underlying31 HI0.out.1 HI0.out.2.1 HI0.out.2.2.1 HI0.out.2.2.2 rfl (by decide) (.slice pa m pc) m (R.bindsC acc) (by rfl) HO6.out ⟨w6.heap.size,0,none⟩ 1 1 (R.bindC ⟨nm,3,false,0,s1⟩) (by rfl) rfl HNW.out (R.bindC_one _) (by decide) HMB.out.1 HMB.out.2 HB7.out _ rfl ?_;intro g1 cap1 w8 hown hgrow hat hlt;have HNX:=hid (VR.next (x:=⟨nm,3,false,0,s1⟩) HI.out HPP.out HXA.out HB67.out HM.out hown hgrow hat);have HA8:=hid ((hgrow.block A (Go.lt_of_block HA7.out) (fun e=>HNO.out A e.symm (Or.inl rfl))).trans HA7.out);have HY8:=hid ((hgrow.block Y (Go.lt_of_block HY7.out) (fun e=>HNO.out Y e.symm (Or.inr rfl))).trans HY7.out);have c12:w8.cell? ⟨A,12,none⟩=some (.slice pa m pc):=rowCell HA8.out 12;have f12:=rowFree HA8.out 12;clear hown hgrow hat hlt;refine hK.out _ _ (fun _=>⟨HA8.out,HY8.out⟩) (fun hHeld=> ?_);have HS30:=hid (hHeld (by kernel_rfl));clear hHeld hK K;refine tillA 8 (fun _=>HS30.out) ?_;refine tillA 9 (fun _=>HS30.out) ?_;refine tillD1 10 (fun K hK=> ?step33)
           case step33=>
            go_simp;refine hK.out _ _ (fun hk=>by cases (show true=false from hk)) (fun _=> ?_);clear hK K;refine wpTill_done (by kernel_rfl) ?_ _;clear c12 f12;go_wp2_with fail;go_roundw
            case rel=>
             refine ⟨i+1,by omega,by go_num,acc++ [⟨nm,3,false,0,s1⟩],_,r,hid ⟨?_,by have:=HA.out.2;simp only [J.T.length] at this;omega⟩,by rw [show o+(i+1)*6=o+i*6+6 by omega];exact HNX⟩;rw [HA.out.1,R.vars_step HN.out,HBD.out]
            case measure=>simp [intOf];omega
      have t4:((k1:Int)==4)=false:=by rw [beq_eq_false_iff_ne];omega
      have HBD:Hid (R.bind nm k1 b1 n1 s1=none):=by show R.bind nm k1 b1 n1 s1=none;unfold R.bind;rw [if_neg hk3,if_neg hk2,if_neg hk4]
      clear hk3 hk2 hk4;go_wp2_with fail;go_ret;refine ⟨HI.out.gr.below HB4.out,Or.inl ⟨?_,rfl⟩⟩;rw [HA.out.1,R.vars_step HN.out,HBD.out];rfl
  · have d0:decide ((i:Int)<(len:Int))=false:=decide_eq_false (by omega);have d1:decide (i<len)=false:=decide_eq_false (by omega);cases t2 with
    | cons=>have:=HA.out.2;simp only [J.T.length] at this;omega
    | nil=>
      go_wp2_with fail;go_ret;refine ⟨HI.out.gr,Or.inr ⟨{ d with patch:=acc },pv,?_,rfl,HI.out.de,fun k hk=>(HI.out.ow k hk).2⟩⟩;rw [HA.out.1];rfl
open Go.RowKit Go.Maps
theorem put_any (i:Nat) (hi:i≤5) (x:J.V) (lv nv:Value) (w:World) (P:Nat→Prop) (A B K:Nat) (id:Int) (d:R.D) (pv0:Value) (hl:x.l.In w P lv) (hs:J.SIn w P x.ns nv)
   (h5:i=5→x.ns.length=x.l.length∧d.patch.length+x.l.length≤1000000000000) (hP:∀b,P b→b<w.heap.size∧b≠A∧pv0.ownBlock≠some b) (hB:B≤w.heap.size) (h:DAt w A B K id d pv0):
   Calls Tryz.prog (R.fnOf i) #[.pointer (some ⟨A,0,none⟩),.agg #[.int .u8 x.k,.bool x.b,.int .i64 x.n,.string x.s,lv,nv]] w (PutOf A B K id pv0 w (R.put i d x)):=by
 obtain ⟨la,lc,hlv⟩:=hl.shape;obtain ⟨na,nc,hnv⟩:=hs.shape;have fin:∀(d':R.D) (e:Ending) (W:World),d'.patch=d.patch→e= .returned (.bool true)→Sx W A (.string d'.name) (.string d'.key) (.string d'.worker) (.int .i64 d'.n) (.int .i64 d'.ticks) pv0 K id→w.grownBy W (some A)→PutOf A B K id pv0 w (some d') e W:=
   fun d' e W h1 h2 h3 h4=>⟨(G2.refl _ _ _).grown h4 fun k hk=>Or.inl (Option.some.inj hk).symm,Or.inr ⟨d',pv0,rfl,h2,h.other h4 h3 h1,fun k hk=>Or.inl hk⟩⟩
 obtain rfl|rfl|rfl|rfl|rfl|rfl:i=0∨i=1∨i=2∨i=3∨i=4∨i=5:=by omega
 · exact (set_name x.k x.b x.n x.s lv nv w A K id _ _ _ _ _ _ h.sx la x.l.length lc na x.ns.length nc hlv hnv).mono fun e W ⟨h1,h2,h3⟩=>fin { d with name:=x.s } e W rfl h1 h2 h3
 · exact (set_key x.k x.b x.n x.s lv nv w A K id _ _ _ _ _ _ h.sx la x.l.length lc na x.ns.length nc hlv hnv).mono fun e W ⟨h1,h2,h3⟩=>fin { d with key:=x.s } e W rfl h1 h2 h3
 · exact (set_worker x.k x.b x.n x.s lv nv w A K id _ _ _ _ _ _ h.sx la x.l.length lc na x.ns.length nc hlv hnv).mono fun e W ⟨h1,h2,h3⟩=>fin { d with worker:=x.s } e W rfl h1 h2 h3
 · exact (set_many x.k x.b x.n x.s lv nv w A K id _ _ _ _ _ _ h.sx la x.l.length lc na x.ns.length nc hlv hnv).mono fun e W ⟨h1,h2,h3⟩=>fin { d with n:=x.n } e W rfl h1 h2 h3
 · exact (set_ticks x.k x.b x.n x.s lv nv w A K id _ _ _ _ _ _ h.sx la x.l.length lc na x.ns.length nc hlv hnv).mono fun e W ⟨h1,h2,h3⟩=>fin { d with ticks:=x.n } e W rfl h1 h2 h3
 · have e:R.put 5 d x=(R.vars d.patch x.l x.ns).map fun p=> { d with patch:=p }:=by
    show (match R.vars d.patch x.l x.ns with|none=>none|some p=>some { d with patch:=p }:Option R.D)=_;cases R.vars d.patch x.l x.ns<;>rfl
   rw [e];exact set_vars x lv nv w P A B K id d pv0 hl hs (h5 rfl).1 (h5 rfl).2 hP hB h
abbrev fieldV (f:R.F):Value:= .agg #[.bool f.must,.int .u8 f.kind,.func (.func (R.fnOf f.slot)) #[] #[]]
theorem look_field {w:World}{M n:Nat}{L:List (List UInt8×R.F)}(h:w.ownsMap Tryz.prog 9 R.fieldR M n (R.mapD R.fieldD L)) (s:ByteArray) (hs:s.size≤1000000000000):
   (R.lookL L s.data.toList=none∧(Instr.lookup 151 (.map (some M)) (.string s) true).run Tryz.prog w= .ok (.tuple #[.agg #[.bool false,.int .u8 0,.nilFunc],.bool false]) w)∨
   ∃f,R.lookL L s.data.toList=some f∧(Instr.lookup 151 (.map (some M)) (.string s) true).run Tryz.prog w= .ok (.tuple #[fieldV f,.bool true]) w:=by
 have hhas:=R.mapD_has R.fieldD s.data.toList L;have hatk:=fun z=>R.mapD_at R.fieldD z s.data.toList L
 obtain ⟨es,clock,hb,F,_,hD⟩:=h;rcases Maps.fit_look true lawS Tryz.underlying151 (zeroFn w) hb F (keyS hs) with ⟨hrun,_,hat⟩|⟨e0,y,_,_,hrun,hRv,hat,_⟩
 · have h1:=Maps.has_false_of_atKey hat;rw [←hD,hhas] at h1;refine Or.inl ⟨?_,hrun⟩;cases h2:R.lookL L s.data.toList with
   | none=>rfl
   | some f=>rw [h2] at h1;cases h1
 · have h1:=Maps.has_true_of_atKey hat;rw [←hD,hhas] at h1;cases h2:R.lookL L s.data.toList with
   | none=>rw [h2] at h1;cases h1
   | some f=>
     refine Or.inr ⟨f,rfl,?_⟩;have h3:=hat (.lit (.bool false));rw [←hD,hatk,h2] at h3;obtain ⟨m,k,fn,h4,h5⟩:=R.fieldR_inv hRv;rw [h5] at h3;have h6:(DataW.agg [.lit (.bool f.must),.lit (.int .u8 f.kind),.lit (.int .i64 (R.fnOf f.slot))]:DataW Unit)= .agg [.lit (.bool m),.lit (.int .u8 k),.lit (.int .i64 fn)]:=h3;simp only [DataW.agg.injEq,List.cons.injEq,DataW.lit.injEq,Lit.bool.injEq,Lit.int.injEq,true_and,and_true,Int.natCast_inj] at h6;obtain ⟨rfl,rfl,h8⟩:=h6;rw [hrun,h4];have h9:fn=R.fnOf f.slot:=by first|exact h8.symm|exact (Int.ofNat.inj h8).symm|exact Int.ofNat.inj h8|exact h8
     rw [h9];rfl
section
variable {P:Program}{ops:Array Oper}{Q:Exit→Act→World→Prop}{md:Region.Mode}
theorem inv_count:∀(l:List Bool) (i:Nat),l[i]? =some false→(l.set i true).count false+1=l.count false
 | [],i,h=>by simp at h
 | b::l,0,h=>by
   simp only [List.getElem?_cons_zero,Option.some.injEq] at h
   subst h
   simp
 | b::l,i+1,h=>by
   rw [List.getElem?_cons_succ] at h
   have ih:=inv_count l i h
   rw [List.set_cons_succ,List.count_cons,List.count_cons]
   omega
theorem inv_unlisted {listed:Array Bool}{i:Nat}(h:listed.getD i true=false):listed.toList[i]? =some false:=by
 rw [Array.getElem?_toList];cases hc:listed[i]? with
 | none=>rw [Array.getD_eq_getD_getElem?,hc] at h;cases h
 | some b=>rw [Array.getD_eq_getD_getElem?,hc] at h;exact congrArg some h
theorem wpAny_inv (I:Array Bool→Act→World→Prop) (hfin:∀listed a w,I listed a w→Region.ready md ops listed= []→Q .normal a w)
   (hop:∀listed a w i,I listed a w→i∈Region.ready md ops listed→wpOp P ops Q i (I (listed.setIfInBounds i true)) a w):
   ∀(fuel:Nat) (listed:Array Bool) (a:Act) (w:World),I listed a w→listed.toList.count false≤fuel→wpAny P md ops Q fuel listed a w
 | 0,listed,a,w,hI,hc=>by
   have hr:Region.ready md ops listed= []:=by
    cases h:Region.ready md ops listed with
    | nil=>rfl
    | cons j r=>
      have hj:j∈Region.ready md ops listed:=by rw [h];exact List.mem_cons_self ..
      have:=inv_count _ _ (inv_unlisted (mem_ready.1 hj).1);omega
   exact ⟨hr,hfin _ _ _ hI hr⟩
 | fuel+1,listed,a,w,hI,hc=>by
   refine ⟨hfin _ _ _ hI,fun i hi=>wpOp_mono (fun a' w' h'=>wpAny_inv I hfin hop fuel _ a' w' h' ?_) (hop _ _ _ _ hI hi)⟩;have:=inv_count _ _ (inv_unlisted (mem_ready.1 hi).1);rw [Array.toList_setIfInBounds];omega
theorem wp_region_inv {id:Nat}{a:Act}{w:World}(I:Array Bool→Act→World→Prop) (hm:P.follows .mixedOrders=true) (h0:I (Array.replicate ops.size false) a w.drew)
  (hfin:∀listed a w,I listed a w→Region.ready .any ops listed= []→Q .normal a w)
  (hop:∀listed a w i,I listed a w→i∈Region.ready .any ops listed→wpOp P ops Q i (I (listed.setIfInBounds i true)) a w):(Code.region id ops true).wp P Q a w:=
 wp_region_any hm (wpAny_inv I hfin hop _ _ _ _ h0 (by simp))
end
end Go.Proofs.YtohkomndapngjaaGreatDoor

