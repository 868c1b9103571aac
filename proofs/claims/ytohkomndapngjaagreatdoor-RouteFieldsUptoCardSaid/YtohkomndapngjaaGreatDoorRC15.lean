/- may: the walk, kind by kind (2). -/
import Derived.Test.YtohkomndapngjaaGreatDoorRC14
namespace Go.Proofs.YtohkomndapngjaaGreatDoor
set_option maxRecDepth 100000
set_option maxHeartbeats 16000000
open Go.RowKit Go.Maps
open Go.Lib (hid validD)
theorem may_1f (k:Nat) (b:Bool) (n:Int) (s:ByteArray) (l:J.T) (ns:List ByteArray) (hall:l.All MayC) (hk:k=1) (hb:b=false):MayC ⟨k,b,n,s,l,ns⟩:=by
 intro hsm hbr w P cs hT hhas hPP;obtain ⟨hs1,hs2,hs3⟩:=hsm;obtain ⟨hr1,hr2,hr3⟩:=hbr;obtain ⟨lv,nv,rfl,hl,hn⟩:=hhas;have hl:l.In w P lv:=hl;have hn:J.SIn w P ns nv:=hn;obtain ⟨la,lc,rfl⟩:=hl.shape;obtain ⟨na,nc,rfl⟩:=hn.shape;simp only at hs1 hs2 hr1;have HL:=hid hl;have HN:=hid hn;have HALL:=hid hall;have HSM:=hid hs3;have HBR:=hid hr3;have HBN:=hid hr2;have HPP:=hid hPP;have HTB:=hid hT;clear hl hn hall hs3 hr3 hr2 hPP hT;obtain ⟨RES,hRES⟩:∃r,(⟨k,b,n,s,l,ns⟩:J.V).may=r:=⟨_,rfl⟩;rw [hRES];have HRES:=hid hRES;clear hRES;have l1:decide ((k:Int)<1)=false:=decide_eq_false (by omega);have l1':decide (k<1)=false:=decide_eq_false (by omega);have l6:decide ((6:Int)<(k:Int))=false:=decide_eq_false (by omega);have l6':decide (6<k)=false:=decide_eq_false (by omega);have te2:((k:Int)==2)=false:=beq_eq_false_iff_ne.2 (by omega);have te3:((k:Int)==3)=false:=beq_eq_false_iff_ne.2 (by omega);have tn4:((k:Int) !=4)=true:=by rw [bne_iff_ne];omega
 have te5:((k:Int)==5)=false:=beq_eq_false_iff_ne.2 (by omega);have te6:((k:Int)==6)=false:=beq_eq_false_iff_ne.2 (by omega);have tn6:((k:Int) !=6)=true:=by rw [bne_iff_ne];omega
 have HK:=hid hk;clear hk;subst hb;by_cases hn0:n=0
 rotate_left
 · have tn:(n !=0)=true:=by rw [bne_iff_ne];exact hn0
   have HE:Hid (RES=false):=by show _=_;rw [←HRES.out];exact may_no1 (by simp [J.plainOk,HK.out,hn0])
   go_enter Tryz.func41,Tryz.ntmps41;go_wp2_with fail;all_goals
    go_ret;exact ⟨by rw [HE.out];rfl,(by repeat (first|exact Below.refl _ _|refine Below.setCell ?_ (by simp<;>omega) _|refine Below.alloc ?_ (by simp<;>omega) _|refine Below.drew ?_))⟩
 subst hn0;by_cases hs0:s.data.toList= []
 rotate_left
 · have ts:s.toList.isEmpty=false:=by rw [Lib.toList_data];simpa using hs0
   have ts':(!s.toList.isEmpty)=true:=by rw [ts];rfl
   have hsE:s.data.toList.isEmpty=false:=by simpa using hs0
   have HSE:=hid hsE;clear hsE;have HE:Hid (RES=false):=by show _=_;rw [←HRES.out];exact may_no1 (by unfold J.plainOk;rw [HK.out,HSE.out];first|rfl| (cases (n==0)<;>rfl))
   go_enter Tryz.func41,Tryz.ntmps41;go_wp2_with fail;all_goals
    go_ret;exact ⟨by rw [HE.out];rfl,(by repeat (first|exact Below.refl _ _|refine Below.setCell ?_ (by simp<;>omega) _|refine Below.alloc ?_ (by simp<;>omega) _|refine Below.drew ?_))⟩
 obtain rfl:s=⟨#[]⟩:=ByteArray.ext (Array.ext' hs0);clear hs0;have HP1:Hid (J.plainOk k false 0 ⟨#[]⟩=true):=by show _=_;simp [J.plainOk,HK.out]
 by_cases hl0:l.length=0
 rotate_left
 · have tl:decide ((0:Int)<(l.length:Int))=true:=decide_eq_true (by omega);have tl':decide (0<l.length)=true:=decide_eq_true (by omega);have HE:Hid (RES=false):=by show _=_;rw [←HRES.out];exact may_no2 (by simp [J.listOk,HK.out,hl0])
   go_enter Tryz.func41,Tryz.ntmps41;go_wp2_with fail;all_goals
    go_ret;exact ⟨by rw [HE.out];rfl,(by repeat (first|exact Below.refl _ _|refine Below.setCell ?_ (by simp<;>omega) _|refine Below.alloc ?_ (by simp<;>omega) _|refine Below.drew ?_))⟩
 have tl:decide ((0:Int)<(l.length:Int))=false:=decide_eq_false (by omega);have tl':decide (0<l.length)=false:=decide_eq_false (by omega);by_cases hm0:ns.length=0
 rotate_left
 · have tm:decide ((0:Int)<(ns.length:Int))=true:=decide_eq_true (by omega);have tm':decide (0<ns.length)=true:=decide_eq_true (by omega);have HE:Hid (RES=false):=by show _=_;rw [←HRES.out];exact may_no2 (by simp [J.listOk,HK.out,hm0])
   go_enter Tryz.func41,Tryz.ntmps41;go_wp2_with fail;all_goals
    go_ret;exact ⟨by rw [HE.out];rfl,(by repeat (first|exact Below.refl _ _|refine Below.setCell ?_ (by simp<;>omega) _|refine Below.alloc ?_ (by simp<;>omega) _|refine Below.drew ?_))⟩
 have tm:decide ((0:Int)<(ns.length:Int))=false:=decide_eq_false (by omega);have tm':decide (0<ns.length)=false:=decide_eq_false (by omega);have HF:Hid (RES=(validD ((⟨#[]⟩:ByteArray)).data.toList&&(J.namesOk [] ns&&J.mayT l))):=by show _=_;rw [←HRES.out];exact may_yes HP1.out (by simp [J.listOk,HK.out,hl0,hm0])
 clear hl0 hm0 HP1;obtain ⟨w6,hw6⟩:∃w6,(w.alloc (.cells #[.int .u8 k,.bool false,.int .i64 0,.string ⟨#[]⟩,.slice la l.length lc,.slice na ns.length nc] 26)).alloc (.cells #[.int .u8 k,.bool false,.int .i64 0,.string ⟨#[]⟩,.slice none 0 0,.slice none 0 0] 26)=w6:=⟨_,rfl⟩;have HB6:Hid (Below w.heap.size w w6):=by show Below _ _ _;rw [←hw6];exact ((Below.refl _ w).alloc (Nat.le_refl _) _).alloc (by simp) _
 have hv6:w6.heap[w.heap.size]? =some (.cells #[.int .u8 k,.bool false,.int .i64 0,.string ⟨#[]⟩,.slice la l.length lc,.slice na ns.length nc] 26 (0,0)):=by rw [←hw6,Lib.alloc_old _ _ _ (by simp)];exact heap_alloc_new w _
 have HV6:=hid hv6;have HW6:=hid hw6;obtain ⟨x0,x1,x2,x3,x4,x5⟩:=x6_of hv6;clear hw6 hv6;have cU:=utf8J_any (⟨#[]⟩:ByteArray) w6 (by first|omega|decide) (HTB.out.under HB6.out);obtain ⟨uq,huq⟩:∃q,validD ((⟨#[]⟩:ByteArray)).data.toList=q:=⟨_,rfl⟩;rw [huq] at cU;have HF2:Hid (RES=(uq&&(J.namesOk [] ns&&J.mayT l))):=by show _=_;rw [HF.out,huq]
 clear huq HF;generalize hnn:ns.length=nn at*;generalize hln:l.length=ln at*;have HNN:=hid hnn;have HLN:=hid hln;clear hnn hln;go_enter Tryz.func41,Tryz.ntmps41;go_upto_region 11 with fail;rw [HW6.out];clear HW6 l1 l1' l6 l6' te2 te3 tn4 te5 te6 tn6;go_wp2_with fail;refine cU.mono ?_;rintro e w7 ⟨rfl,hb⟩;have HB7:=hid (HB6.out.trans (hb.mono HB6.out.size));have hv7:=(hb.block _ (Go.lt_of_block HV6.out)).trans HV6.out;have HV7:=hid hv7;clear hb cU HV6 x0 x1 x2 x3 x4 x5;obtain ⟨x0,x1,x2,x3,x4,x5⟩:=x6_of hv7;clear hv7;have hmm:=@run_makeMap Tryz.prog;cases uq
 · have HE:Hid (RES=false):=by show _=_;rw [HF2.out];rfl
   go_wp2_with fail;go_ret;exact ⟨by rw [HE.out];rfl,HB7.out⟩
 · go_upto_region 14 with fail;obtain ⟨w8,hw8⟩:∃w8,w7.alloc (.map #[] 0)=w8:=⟨_,rfl⟩;obtain ⟨M,hM⟩:∃M,w7.heap.size=M:=⟨_,rfl⟩;have HB8:Hid (Below w.heap.size w w8):=by show Below _ _ _;rw [←hw8];exact HB7.out.alloc HB7.out.size _
   have hv8:w8.heap[w.heap.size]? =some (.cells #[.int .u8 k,.bool false,.int .i64 0,.string ⟨#[]⟩,.slice la ln lc,.slice na nn nc] 26 (0,0)):=by rw [←hw8,Lib.alloc_old _ _ _ (Go.lt_of_block HV7.out)];exact HV7.out
   have HV8:=hid hv8;have HM8:Hid (w8.ownsMap Tryz.prog 9 (plainElem Tryz.prog 4) M 0 (J.seenD [])):=by show World.ownsMap _ _ _ _ _ _ _;rw [←hw8,←hM];exact World.ownsMap_made _ _ _ _
   have HMW:Hid (w.heap.size≤M):=by show _≤_;rw [←hM];exact HB7.out.size
   have HMX:Hid (w.heap.size<M):=by show _<_;rw [←hM];exact Go.lt_of_block HV7.out
   rw [hw8,hM];clear hw8 hM HB7 HV7 hmm x0 x1 x2 x3 x4 x5;obtain ⟨x0,x1,x2,x3,x4,x5⟩:=x6_of hv8;clear hv8;go_wp2_with fail;clear x0 x1 x2 x3 x4 x5;go_loopw [111] (fun vi wr=> ∃(q:Nat),q≤nn∧vi= .int .i64 q∧Hid (Below w.heap.size w wr)∧Hid (wr.heap[w.heap.size]? =some (.cells #[.int .u8 k,.bool false,.int .i64 0,.string ⟨#[]⟩,.slice la ln lc,.slice na nn nc] 26 (0,0)))∧Hid (wr.ownsMap Tryz.prog 9 (plainElem Tryz.prog 4) M q (J.seenD ((ns.take q).map fun y=>y.data.toList)))∧Hid (RES=(J.namesOk (ns.take q).reverse (ns.drop q)&&J.mayT l))) (fun vi _=>nn-(intOf vi).toNat)
   case atStart=>exact ⟨0,Nat.zero_le _,rfl,HB8,HV8,HM8,by show RES=_;rw [HF2.out];rfl⟩
   case round=>
    obtain ⟨q,hq,rfl,HBr,HVr,HMr,HRr⟩:=hrel;clear HB8 HV8 HM8;by_cases hlt:q<nn
    · have d0:decide ((q:Int)<(nn:Int))=true:=decide_eq_true (by omega);have d1:decide (q<nn)=true:=decide_eq_true (by omega);have hqp:q<ns.length:=by have:=HNN.out;omega
      obtain ⟨na0,no,hna,hPb,hncap,hcell⟩:∃na0 no,na=some ⟨na0,no,none⟩∧P na0∧ns.length≤nc∧∀j x,ns[j]? =some x→w.cell? ⟨na0,no+j,none⟩=some (.string x):=by
        rcases HN.out with ⟨h1,_⟩|⟨_,b',o',c',h1,h2,h3,h4⟩
        · rw [h1] at hqp;simp at hqp
        · simp only [Value.slice.injEq] at h1;obtain ⟨rfl,_,rfl⟩:=h1;exact ⟨b',o',rfl,h2,h3,h4⟩
      subst hna;obtain ⟨nm,hnm⟩:∃nm,ns[q]=nm:=⟨_,rfl⟩;have hc0:=hcell q nm (by rw [List.getElem?_eq_getElem hqp,hnm]);rw [←HBr.out.cell (p:=⟨na0,_,none⟩) (HPP.out _ hPb)] at hc0;have hst:ns.drop q=nm::ns.drop (q+1):=by rw [←hnm];exact List.drop_eq_getElem_cons hqp
      have htk:ns.take (q+1)=ns.take q++ [nm]:=by rw [←hnm];exact List.take_succ_eq_append_getElem hqp
      have hsz:nm.size≤1125899906842624:=HBN.out nm (by rw [←hnm];exact List.getElem_mem _);have hkey:keyOf Tryz.prog 9 (.string nm)=some (.string nm.data.toList):=Go.WideMaps.keyOf_string_mk Tryz.underlying9 (by unfold maxLen;omega);have hat:=J.seenD_at ((ns.take q).map fun y=>y.data.toList) nm.data.toList;have hI2:=HRr.out;rw [hst,J.namesOk,J.seen_any] at hI2;obtain ⟨sq,hsq⟩:∃sq,decide (nm.data.toList∈(ns.take q).map fun y=>y.data.toList)=sq:=⟨_,rfl⟩;rw [hsq] at hat hI2;have hlook:(Instr.lookup 176 (.map (some M)) (.string nm) false).run Tryz.prog wr= .ok (.bool sq) wr:=by
        obtain ⟨v,ps,h1,h2⟩:=HMr.out.lookup lawJ Tryz.underlying176 (zeroBoolJ wr) (plainElem_bool Tryz.underlying4 false) hkey;rw [hat] at h2;rw [plainBoolJ h2] at h1;exact h1
      have HI2:=hid hI2;have HTK:=hid htk;have HKEY:=hid hkey;have hq0:(0:Int)≤(q:Int):=by omega
      have hq1:(q:Int)<(nn:Int):=by omega
      clear hst htk hnm hI2 hat hsq hkey hcell hqp;cases sq
      · have cU:=utf8J_any nm wr (by omega) (HTB.out.under HBr.out);obtain ⟨uq,huq⟩:∃u,validD nm.data.toList=u:=⟨_,rfl⟩;rw [huq] at cU;have HU:=hid huq;clear huq;cases uq
        · have HE:Hid (RES=false):=by show _=_;rw [HI2.out,HU.out];rfl
          go_wp2_with fail;refine cU.mono ?_;rintro e w9 ⟨rfl,hb⟩;have HB9:=hid (HBr.out.trans (hb.mono HBr.out.size));clear hb cU;go_wp2_with fail;go_ret;exact ⟨by rw [HE.out];rfl,HB9.out⟩
        · go_wp2_with fail;refine cU.mono ?_;rintro e w9 ⟨rfl,hb⟩;have HB9:=hid (HBr.out.trans (hb.mono HBr.out.size));have HM9:=hid (mapJ_below HMr.out hb);have HV9:=hid ((hb.block _ (Go.lt_of_block HVr.out)).trans HVr.out);clear hb cU hlook;obtain ⟨w10,hput,hown,hturn⟩:=HM9.out.store lawJ Tryz.underlying176 (by unfold maxLen;omega) HKEY.out (plainElem_bool (H:=Unit) Tryz.underlying4 true);have HM10:Hid (w10.ownsMap Tryz.prog 9 (plainElem Tryz.prog 4) M (q+1) (J.seenD ((ns.take (q+1)).map fun y=>y.data.toList))):=by
           show World.ownsMap _ _ _ _ _ _ _;rw [HTK.out,List.map_append];show World.ownsMap _ _ _ _ _ _ (J.seenD (_++ [_]));rw [J.seenD_snoc];exact hown
          have HB10:=hid (HB9.out.grown hturn.grown HB9.out.size (fun j hj=>by have:=HMW.out;simp at hj;omega));have HV10:Hid (w10.heap[w.heap.size]? =some (.cells #[.int .u8 k,.bool false,.int .i64 0,.string ⟨#[]⟩,.slice la ln lc,.slice (some ⟨na0,no,none⟩) nn nc] 26 (0,0))):=by
           show _=_;rw [hturn.grown.block _ (Go.lt_of_block HV9.out) (fun e=>by have h1:=Option.some.inj e;have h2:=HMX.out;omega)];exact HV9.out
          have HR10:Hid (RES=(J.namesOk (ns.take (q+1)).reverse (ns.drop (q+1))&&J.mayT l)):=by
           show _=_;rw [HI2.out,HU.out,HTK.out,List.reverse_append];rfl
          clear hown hturn HI2 HU HTK HKEY;go_wp2_with fail;go_roundw
          case rel=>exact ⟨q+1,by omega,by go_num,HB10,HV10,HM10,HR10⟩
          case measure=>simp [intOf];omega
      · have HE:Hid (RES=false):=by show _=_;rw [HI2.out];rfl
        go_wp2_with fail;go_ret;exact ⟨by rw [HE.out];rfl,HBr.out⟩
    · have d0:decide ((q:Int)<(nn:Int))=false:=decide_eq_false (by omega);have d1:decide (q<nn)=false:=decide_eq_false (by omega);have hqe:q=nn:=by omega
      have HE:Hid (RES=J.mayT l):=by
        show _=_;rw [HRr.out,List.drop_of_length_le (by have:=HNN.out;omega)];rfl
      have cC:=containsFunc_any l HALL.out (by rw [HLN.out];omega) HSM.out HBR.out wr P (.slice la ln lc) (HTB.out.under HBr.out) (by have:=J.T.In.keep (fun _ h=>h) (fun j hj=>HBr.out.block j (HPP.out j hj)) HL.out;exact this) (fun j hj=>Nat.lt_of_lt_of_le (HPP.out j hj) HBr.out.size);obtain ⟨mq,hmq⟩:∃m,J.mayT l=m:=⟨_,rfl⟩;rw [hmq] at cC;have HMQ:=hid hmq;obtain ⟨x0,x1,x2,x3,x4,x5⟩:=x6_of HVr.out;clear hmq hlt hqe;go_wp2_with fail;refine cC.mono ?_;rintro e w9 ⟨rfl,hb⟩;have HB9:=hid (HBr.out.trans (hb.mono HBr.out.size));clear hb cC;go_wp2_with fail;go_ret;exact ⟨by rw [HE.out,HMQ.out];cases mq<;>rfl,HB9.out⟩
theorem may_2f (k:Nat) (b:Bool) (n:Int) (s:ByteArray) (l:J.T) (ns:List ByteArray) (hall:l.All MayC) (hk:k=2) (hb:b=false):MayC ⟨k,b,n,s,l,ns⟩:=by
 intro hsm hbr w P cs hT hhas hPP;obtain ⟨hs1,hs2,hs3⟩:=hsm;obtain ⟨hr1,hr2,hr3⟩:=hbr;obtain ⟨lv,nv,rfl,hl,hn⟩:=hhas;have hl:l.In w P lv:=hl;have hn:J.SIn w P ns nv:=hn;obtain ⟨la,lc,rfl⟩:=hl.shape;obtain ⟨na,nc,rfl⟩:=hn.shape;simp only at hs1 hs2 hr1;have HL:=hid hl;have HN:=hid hn;have HALL:=hid hall;have HSM:=hid hs3;have HBR:=hid hr3;have HBN:=hid hr2;have HPP:=hid hPP;have HTB:=hid hT;clear hl hn hall hs3 hr3 hr2 hPP hT;obtain ⟨RES,hRES⟩:∃r,(⟨k,b,n,s,l,ns⟩:J.V).may=r:=⟨_,rfl⟩;rw [hRES];have HRES:=hid hRES;clear hRES;have l1:decide ((k:Int)<1)=false:=decide_eq_false (by omega);have l1':decide (k<1)=false:=decide_eq_false (by omega);have l6:decide ((6:Int)<(k:Int))=false:=decide_eq_false (by omega);have l6':decide (6<k)=false:=decide_eq_false (by omega);have te2:((k:Int)==2)=true:=by rw [beq_iff_eq];omega
 have te3:((k:Int)==3)=false:=beq_eq_false_iff_ne.2 (by omega);have tn4:((k:Int) !=4)=true:=by rw [bne_iff_ne];omega
 have te5:((k:Int)==5)=false:=beq_eq_false_iff_ne.2 (by omega);have te6:((k:Int)==6)=false:=beq_eq_false_iff_ne.2 (by omega);have tn6:((k:Int) !=6)=true:=by rw [bne_iff_ne];omega
 have HK:=hid hk;clear hk;subst hb;by_cases hn0:n=0
 rotate_left
 · have tn:(n !=0)=true:=by rw [bne_iff_ne];exact hn0
   have HE:Hid (RES=false):=by show _=_;rw [←HRES.out];exact may_no1 (by simp [J.plainOk,HK.out,hn0])
   go_enter Tryz.func41,Tryz.ntmps41;go_wp2_with fail;all_goals
    go_ret;exact ⟨by rw [HE.out];rfl,(by repeat (first|exact Below.refl _ _|refine Below.setCell ?_ (by simp<;>omega) _|refine Below.alloc ?_ (by simp<;>omega) _|refine Below.drew ?_))⟩
 subst hn0;by_cases hs0:s.data.toList= []
 rotate_left
 · have ts:s.toList.isEmpty=false:=by rw [Lib.toList_data];simpa using hs0
   have ts':(!s.toList.isEmpty)=true:=by rw [ts];rfl
   have hsE:s.data.toList.isEmpty=false:=by simpa using hs0
   have HSE:=hid hsE;clear hsE;have HE:Hid (RES=false):=by show _=_;rw [←HRES.out];exact may_no1 (by unfold J.plainOk;rw [HK.out,HSE.out];first|rfl| (cases (n==0)<;>rfl))
   go_enter Tryz.func41,Tryz.ntmps41;go_wp2_with fail;all_goals
    go_ret;exact ⟨by rw [HE.out];rfl,(by repeat (first|exact Below.refl _ _|refine Below.setCell ?_ (by simp<;>omega) _|refine Below.alloc ?_ (by simp<;>omega) _|refine Below.drew ?_))⟩
 obtain rfl:s=⟨#[]⟩:=ByteArray.ext (Array.ext' hs0);clear hs0;have HP1:Hid (J.plainOk k false 0 ⟨#[]⟩=true):=by show _=_;simp [J.plainOk,HK.out]
 by_cases hl0:l.length=0
 rotate_left
 · have tl:decide ((0:Int)<(l.length:Int))=true:=decide_eq_true (by omega);have tl':decide (0<l.length)=true:=decide_eq_true (by omega);have HE:Hid (RES=false):=by show _=_;rw [←HRES.out];exact may_no2 (by simp [J.listOk,HK.out,hl0])
   go_enter Tryz.func41,Tryz.ntmps41;go_wp2_with fail;all_goals
    go_ret;exact ⟨by rw [HE.out];rfl,(by repeat (first|exact Below.refl _ _|refine Below.setCell ?_ (by simp<;>omega) _|refine Below.alloc ?_ (by simp<;>omega) _|refine Below.drew ?_))⟩
 have tl:decide ((0:Int)<(l.length:Int))=false:=decide_eq_false (by omega);have tl':decide (0<l.length)=false:=decide_eq_false (by omega);by_cases hm0:ns.length=0
 rotate_left
 · have tm:decide ((0:Int)<(ns.length:Int))=true:=decide_eq_true (by omega);have tm':decide (0<ns.length)=true:=decide_eq_true (by omega);have HE:Hid (RES=false):=by show _=_;rw [←HRES.out];exact may_no2 (by simp [J.listOk,HK.out,hm0])
   go_enter Tryz.func41,Tryz.ntmps41;go_wp2_with fail;all_goals
    go_ret;exact ⟨by rw [HE.out];rfl,(by repeat (first|exact Below.refl _ _|refine Below.setCell ?_ (by simp<;>omega) _|refine Below.alloc ?_ (by simp<;>omega) _|refine Below.drew ?_))⟩
 have tm:decide ((0:Int)<(ns.length:Int))=false:=decide_eq_false (by omega);have tm':decide (0<ns.length)=false:=decide_eq_false (by omega);have HF:Hid (RES=(validD ((⟨#[]⟩:ByteArray)).data.toList&&(J.namesOk [] ns&&J.mayT l))):=by show _=_;rw [←HRES.out];exact may_yes HP1.out (by simp [J.listOk,HK.out,hl0,hm0])
 clear hl0 hm0 HP1;obtain ⟨w6,hw6⟩:∃w6,(w.alloc (.cells #[.int .u8 k,.bool false,.int .i64 0,.string ⟨#[]⟩,.slice la l.length lc,.slice na ns.length nc] 26)).alloc (.cells #[.int .u8 k,.bool false,.int .i64 0,.string ⟨#[]⟩,.slice none 0 0,.slice none 0 0] 26)=w6:=⟨_,rfl⟩;have HB6:Hid (Below w.heap.size w w6):=by show Below _ _ _;rw [←hw6];exact ((Below.refl _ w).alloc (Nat.le_refl _) _).alloc (by simp) _
 have hv6:w6.heap[w.heap.size]? =some (.cells #[.int .u8 k,.bool false,.int .i64 0,.string ⟨#[]⟩,.slice la l.length lc,.slice na ns.length nc] 26 (0,0)):=by rw [←hw6,Lib.alloc_old _ _ _ (by simp)];exact heap_alloc_new w _
 have HV6:=hid hv6;have HW6:=hid hw6;obtain ⟨x0,x1,x2,x3,x4,x5⟩:=x6_of hv6;clear hw6 hv6;have cU:=utf8J_any (⟨#[]⟩:ByteArray) w6 (by first|omega|decide) (HTB.out.under HB6.out);obtain ⟨uq,huq⟩:∃q,validD ((⟨#[]⟩:ByteArray)).data.toList=q:=⟨_,rfl⟩;rw [huq] at cU;have HF2:Hid (RES=(uq&&(J.namesOk [] ns&&J.mayT l))):=by show _=_;rw [HF.out,huq]
 clear huq HF;generalize hnn:ns.length=nn at*;generalize hln:l.length=ln at*;have HNN:=hid hnn;have HLN:=hid hln;clear hnn hln;go_enter Tryz.func41,Tryz.ntmps41;go_upto_region 11 with fail;rw [HW6.out];clear HW6 l1 l1' l6 l6' te2 te3 tn4 te5 te6 tn6;go_wp2_with fail;refine cU.mono ?_;rintro e w7 ⟨rfl,hb⟩;have HB7:=hid (HB6.out.trans (hb.mono HB6.out.size));have hv7:=(hb.block _ (Go.lt_of_block HV6.out)).trans HV6.out;have HV7:=hid hv7;clear hb cU HV6 x0 x1 x2 x3 x4 x5;obtain ⟨x0,x1,x2,x3,x4,x5⟩:=x6_of hv7;clear hv7;have hmm:=@run_makeMap Tryz.prog;cases uq
 · have HE:Hid (RES=false):=by show _=_;rw [HF2.out];rfl
   go_wp2_with fail;go_ret;exact ⟨by rw [HE.out];rfl,HB7.out⟩
 · go_upto_region 14 with fail;obtain ⟨w8,hw8⟩:∃w8,w7.alloc (.map #[] 0)=w8:=⟨_,rfl⟩;obtain ⟨M,hM⟩:∃M,w7.heap.size=M:=⟨_,rfl⟩;have HB8:Hid (Below w.heap.size w w8):=by show Below _ _ _;rw [←hw8];exact HB7.out.alloc HB7.out.size _
   have hv8:w8.heap[w.heap.size]? =some (.cells #[.int .u8 k,.bool false,.int .i64 0,.string ⟨#[]⟩,.slice la ln lc,.slice na nn nc] 26 (0,0)):=by rw [←hw8,Lib.alloc_old _ _ _ (Go.lt_of_block HV7.out)];exact HV7.out
   have HV8:=hid hv8;have HM8:Hid (w8.ownsMap Tryz.prog 9 (plainElem Tryz.prog 4) M 0 (J.seenD [])):=by show World.ownsMap _ _ _ _ _ _ _;rw [←hw8,←hM];exact World.ownsMap_made _ _ _ _
   have HMW:Hid (w.heap.size≤M):=by show _≤_;rw [←hM];exact HB7.out.size
   have HMX:Hid (w.heap.size<M):=by show _<_;rw [←hM];exact Go.lt_of_block HV7.out
   rw [hw8,hM];clear hw8 hM HB7 HV7 hmm x0 x1 x2 x3 x4 x5;obtain ⟨x0,x1,x2,x3,x4,x5⟩:=x6_of hv8;clear hv8;go_wp2_with fail;clear x0 x1 x2 x3 x4 x5;go_loopw [111] (fun vi wr=> ∃(q:Nat),q≤nn∧vi= .int .i64 q∧Hid (Below w.heap.size w wr)∧Hid (wr.heap[w.heap.size]? =some (.cells #[.int .u8 k,.bool false,.int .i64 0,.string ⟨#[]⟩,.slice la ln lc,.slice na nn nc] 26 (0,0)))∧Hid (wr.ownsMap Tryz.prog 9 (plainElem Tryz.prog 4) M q (J.seenD ((ns.take q).map fun y=>y.data.toList)))∧Hid (RES=(J.namesOk (ns.take q).reverse (ns.drop q)&&J.mayT l))) (fun vi _=>nn-(intOf vi).toNat)
   case atStart=>exact ⟨0,Nat.zero_le _,rfl,HB8,HV8,HM8,by show RES=_;rw [HF2.out];rfl⟩
   case round=>
    obtain ⟨q,hq,rfl,HBr,HVr,HMr,HRr⟩:=hrel;clear HB8 HV8 HM8;by_cases hlt:q<nn
    · have d0:decide ((q:Int)<(nn:Int))=true:=decide_eq_true (by omega);have d1:decide (q<nn)=true:=decide_eq_true (by omega);have hqp:q<ns.length:=by have:=HNN.out;omega
      obtain ⟨na0,no,hna,hPb,hncap,hcell⟩:∃na0 no,na=some ⟨na0,no,none⟩∧P na0∧ns.length≤nc∧∀j x,ns[j]? =some x→w.cell? ⟨na0,no+j,none⟩=some (.string x):=by
        rcases HN.out with ⟨h1,_⟩|⟨_,b',o',c',h1,h2,h3,h4⟩
        · rw [h1] at hqp;simp at hqp
        · simp only [Value.slice.injEq] at h1;obtain ⟨rfl,_,rfl⟩:=h1;exact ⟨b',o',rfl,h2,h3,h4⟩
      subst hna;obtain ⟨nm,hnm⟩:∃nm,ns[q]=nm:=⟨_,rfl⟩;have hc0:=hcell q nm (by rw [List.getElem?_eq_getElem hqp,hnm]);rw [←HBr.out.cell (p:=⟨na0,_,none⟩) (HPP.out _ hPb)] at hc0;have hst:ns.drop q=nm::ns.drop (q+1):=by rw [←hnm];exact List.drop_eq_getElem_cons hqp
      have htk:ns.take (q+1)=ns.take q++ [nm]:=by rw [←hnm];exact List.take_succ_eq_append_getElem hqp
      have hsz:nm.size≤1125899906842624:=HBN.out nm (by rw [←hnm];exact List.getElem_mem _);have hkey:keyOf Tryz.prog 9 (.string nm)=some (.string nm.data.toList):=Go.WideMaps.keyOf_string_mk Tryz.underlying9 (by unfold maxLen;omega);have hat:=J.seenD_at ((ns.take q).map fun y=>y.data.toList) nm.data.toList;have hI2:=HRr.out;rw [hst,J.namesOk,J.seen_any] at hI2;obtain ⟨sq,hsq⟩:∃sq,decide (nm.data.toList∈(ns.take q).map fun y=>y.data.toList)=sq:=⟨_,rfl⟩;rw [hsq] at hat hI2;have hlook:(Instr.lookup 176 (.map (some M)) (.string nm) false).run Tryz.prog wr= .ok (.bool sq) wr:=by
        obtain ⟨v,ps,h1,h2⟩:=HMr.out.lookup lawJ Tryz.underlying176 (zeroBoolJ wr) (plainElem_bool Tryz.underlying4 false) hkey;rw [hat] at h2;rw [plainBoolJ h2] at h1;exact h1
      have HI2:=hid hI2;have HTK:=hid htk;have HKEY:=hid hkey;have hq0:(0:Int)≤(q:Int):=by omega
      have hq1:(q:Int)<(nn:Int):=by omega
      clear hst htk hnm hI2 hat hsq hkey hcell hqp;cases sq
      · have cU:=utf8J_any nm wr (by omega) (HTB.out.under HBr.out);obtain ⟨uq,huq⟩:∃u,validD nm.data.toList=u:=⟨_,rfl⟩;rw [huq] at cU;have HU:=hid huq;clear huq;cases uq
        · have HE:Hid (RES=false):=by show _=_;rw [HI2.out,HU.out];rfl
          go_wp2_with fail;refine cU.mono ?_;rintro e w9 ⟨rfl,hb⟩;have HB9:=hid (HBr.out.trans (hb.mono HBr.out.size));clear hb cU;go_wp2_with fail;go_ret;exact ⟨by rw [HE.out];rfl,HB9.out⟩
        · go_wp2_with fail;refine cU.mono ?_;rintro e w9 ⟨rfl,hb⟩;have HB9:=hid (HBr.out.trans (hb.mono HBr.out.size));have HM9:=hid (mapJ_below HMr.out hb);have HV9:=hid ((hb.block _ (Go.lt_of_block HVr.out)).trans HVr.out);clear hb cU hlook;obtain ⟨w10,hput,hown,hturn⟩:=HM9.out.store lawJ Tryz.underlying176 (by unfold maxLen;omega) HKEY.out (plainElem_bool (H:=Unit) Tryz.underlying4 true);have HM10:Hid (w10.ownsMap Tryz.prog 9 (plainElem Tryz.prog 4) M (q+1) (J.seenD ((ns.take (q+1)).map fun y=>y.data.toList))):=by
           show World.ownsMap _ _ _ _ _ _ _;rw [HTK.out,List.map_append];show World.ownsMap _ _ _ _ _ _ (J.seenD (_++ [_]));rw [J.seenD_snoc];exact hown
          have HB10:=hid (HB9.out.grown hturn.grown HB9.out.size (fun j hj=>by have:=HMW.out;simp at hj;omega));have HV10:Hid (w10.heap[w.heap.size]? =some (.cells #[.int .u8 k,.bool false,.int .i64 0,.string ⟨#[]⟩,.slice la ln lc,.slice (some ⟨na0,no,none⟩) nn nc] 26 (0,0))):=by
           show _=_;rw [hturn.grown.block _ (Go.lt_of_block HV9.out) (fun e=>by have h1:=Option.some.inj e;have h2:=HMX.out;omega)];exact HV9.out
          have HR10:Hid (RES=(J.namesOk (ns.take (q+1)).reverse (ns.drop (q+1))&&J.mayT l)):=by
           show _=_;rw [HI2.out,HU.out,HTK.out,List.reverse_append];rfl
          clear hown hturn HI2 HU HTK HKEY;go_wp2_with fail;go_roundw
          case rel=>exact ⟨q+1,by omega,by go_num,HB10,HV10,HM10,HR10⟩
          case measure=>simp [intOf];omega
      · have HE:Hid (RES=false):=by show _=_;rw [HI2.out];rfl
        go_wp2_with fail;go_ret;exact ⟨by rw [HE.out];rfl,HBr.out⟩
    · have d0:decide ((q:Int)<(nn:Int))=false:=decide_eq_false (by omega);have d1:decide (q<nn)=false:=decide_eq_false (by omega);have hqe:q=nn:=by omega
      have HE:Hid (RES=J.mayT l):=by
        show _=_;rw [HRr.out,List.drop_of_length_le (by have:=HNN.out;omega)];rfl
      have cC:=containsFunc_any l HALL.out (by rw [HLN.out];omega) HSM.out HBR.out wr P (.slice la ln lc) (HTB.out.under HBr.out) (by have:=J.T.In.keep (fun _ h=>h) (fun j hj=>HBr.out.block j (HPP.out j hj)) HL.out;exact this) (fun j hj=>Nat.lt_of_lt_of_le (HPP.out j hj) HBr.out.size);obtain ⟨mq,hmq⟩:∃m,J.mayT l=m:=⟨_,rfl⟩;rw [hmq] at cC;have HMQ:=hid hmq;obtain ⟨x0,x1,x2,x3,x4,x5⟩:=x6_of HVr.out;clear hmq hlt hqe;go_wp2_with fail;refine cC.mono ?_;rintro e w9 ⟨rfl,hb⟩;have HB9:=hid (HBr.out.trans (hb.mono HBr.out.size));clear hb cC;go_wp2_with fail;go_ret;exact ⟨by rw [HE.out,HMQ.out];cases mq<;>rfl,HB9.out⟩
end Go.Proofs.YtohkomndapngjaaGreatDoor

