/- may: the walk, kind by kind (4). -/
import Derived.Test.YtohkomndapngjaaGreatDoorRC14
import Derived.Test.YtohkomndapngjaaGreatDoorRC15
import Derived.Test.YtohkomndapngjaaGreatDoorRC16
import Derived.Lib.AppendIntMem
namespace Go.Proofs.YtohkomndapngjaaGreatDoor
set_option maxRecDepth 100000
set_option maxHeartbeats 16000000
open Go.RowKit Go.Maps
open Go.Lib (hid validD)
theorem may_5f (k:Nat) (b:Bool) (n:Int) (s:ByteArray) (l:J.T) (ns:List ByteArray) (hall:l.All MayC) (hk:k=5) (hb:b=false):MayC ⟨k,b,n,s,l,ns⟩:=by
 intro hsm hbr w P cs hT hhas hPP;obtain ⟨hs1,hs2,hs3⟩:=hsm;obtain ⟨hr1,hr2,hr3⟩:=hbr;obtain ⟨lv,nv,rfl,hl,hn⟩:=hhas;have hl:l.In w P lv:=hl;have hn:J.SIn w P ns nv:=hn;obtain ⟨la,lc,rfl⟩:=hl.shape;obtain ⟨na,nc,rfl⟩:=hn.shape;simp only at hs1 hs2 hr1;have HL:=hid hl;have HN:=hid hn;have HALL:=hid hall;have HSM:=hid hs3;have HBR:=hid hr3;have HBN:=hid hr2;have HPP:=hid hPP;have HTB:=hid hT;clear hl hn hall hs3 hr3 hr2 hPP hT;obtain ⟨RES,hRES⟩:∃r,(⟨k,b,n,s,l,ns⟩:J.V).may=r:=⟨_,rfl⟩;rw [hRES];have HRES:=hid hRES;clear hRES;have l1:decide ((k:Int)<1)=false:=decide_eq_false (by omega);have l1':decide (k<1)=false:=decide_eq_false (by omega);have l6:decide ((6:Int)<(k:Int))=false:=decide_eq_false (by omega);have l6':decide (6<k)=false:=decide_eq_false (by omega);have te2:((k:Int)==2)=false:=beq_eq_false_iff_ne.2 (by omega);have te3:((k:Int)==3)=false:=beq_eq_false_iff_ne.2 (by omega);have tn4:((k:Int) !=4)=true:=by rw [bne_iff_ne];omega
 have te5:((k:Int)==5)=true:=by rw [beq_iff_eq];omega
 have te6:((k:Int)==6)=false:=beq_eq_false_iff_ne.2 (by omega);have tn6:((k:Int) !=6)=true:=by rw [bne_iff_ne];omega
 have HK:=hid hk;clear hk;subst hb;by_cases hn0:n=0
 rotate_left
 · have tn:(n !=0)=true:=by rw [bne_iff_ne];exact hn0
   have HE:Hid (RES=false):=by show _=_;rw [←HRES.out];exact may_no1 (by simp [J.plainOk,HK.out,hn0])
   go_enter Tryz.func41,Tryz.ntmps41;go_wp2_with fail;all_goals
    go_ret;exact ⟨by rw [HE.out];rfl,(by repeat (first|exact Below.refl _ _|refine Below.setCell ?_ (by simp<;>omega) _|refine Below.alloc ?_ (by simp<;>omega) _|refine Below.drew ?_))⟩
 subst hn0;by_cases hs0:s.data.toList= []
 rotate_left
 · have ts:s.toList.isEmpty=false:=by rw [Lib.toList_data];simpa using hs0
   have ts':(!s.toList.isEmpty)=true:=by rw [ts];rfl
   have hsE:s.data.toList.isEmpty=false:=by simpa using hs0
   have HSE:=hid hsE;clear hsE;have HE:Hid (RES=false):=by show _=_;rw [←HRES.out];exact may_no1 (by unfold J.plainOk;rw [HK.out,HSE.out];first|rfl| (cases (n==0)<;>rfl))
   go_enter Tryz.func41,Tryz.ntmps41;go_wp2_with fail;all_goals
    go_ret;exact ⟨by rw [HE.out];rfl,(by repeat (first|exact Below.refl _ _|refine Below.setCell ?_ (by simp<;>omega) _|refine Below.alloc ?_ (by simp<;>omega) _|refine Below.drew ?_))⟩
 obtain rfl:s=⟨#[]⟩:=ByteArray.ext (Array.ext' hs0);clear hs0;have HP1:Hid (J.plainOk k false 0 ⟨#[]⟩=true):=by show _=_;simp [J.plainOk,HK.out]
 by_cases hm0:ns.length=0
 rotate_left
 · have tm:decide ((0:Int)<(ns.length:Int))=true:=decide_eq_true (by omega);have tm':decide (0<ns.length)=true:=decide_eq_true (by omega);have HE:Hid (RES=false):=by show _=_;rw [←HRES.out];exact may_no2 (by simp [J.listOk,HK.out,hm0])
   go_enter Tryz.func41,Tryz.ntmps41;go_wp2_with fail;all_goals
    go_ret;exact ⟨by rw [HE.out];rfl,(by repeat (first|exact Below.refl _ _|refine Below.setCell ?_ (by simp<;>omega) _|refine Below.alloc ?_ (by simp<;>omega) _|refine Below.drew ?_))⟩
 have tm:decide ((0:Int)<(ns.length:Int))=false:=decide_eq_false (by omega);have tm':decide (0<ns.length)=false:=decide_eq_false (by omega);have HF:Hid (RES=(validD ((⟨#[]⟩:ByteArray)).data.toList&&(J.namesOk [] ns&&J.mayT l))):=by show _=_;rw [←HRES.out];exact may_yes HP1.out (by simp [J.listOk,HK.out,hm0])
 clear hm0 HP1;obtain ⟨w6,hw6⟩:∃w6,(w.alloc (.cells #[.int .u8 k,.bool false,.int .i64 0,.string ⟨#[]⟩,.slice la l.length lc,.slice na ns.length nc] 26)).alloc (.cells #[.int .u8 k,.bool false,.int .i64 0,.string ⟨#[]⟩,.slice none 0 0,.slice none 0 0] 26)=w6:=⟨_,rfl⟩;have HB6:Hid (Below w.heap.size w w6):=by show Below _ _ _;rw [←hw6];exact ((Below.refl _ w).alloc (Nat.le_refl _) _).alloc (by simp) _
 have hv6:w6.heap[w.heap.size]? =some (.cells #[.int .u8 k,.bool false,.int .i64 0,.string ⟨#[]⟩,.slice la l.length lc,.slice na ns.length nc] 26 (0,0)):=by rw [←hw6,Lib.alloc_old _ _ _ (by simp)];exact heap_alloc_new w _
 have HV6:=hid hv6;have HW6:=hid hw6;obtain ⟨x0,x1,x2,x3,x4,x5⟩:=x6_of hv6;clear hw6 hv6;have cU:=utf8J_any (⟨#[]⟩:ByteArray) w6 (by first|omega|decide) (HTB.out.under HB6.out);obtain ⟨uq,huq⟩:∃q,validD ((⟨#[]⟩:ByteArray)).data.toList=q:=⟨_,rfl⟩;rw [huq] at cU;have HF2:Hid (RES=(uq&&(J.namesOk [] ns&&J.mayT l))):=by show _=_;rw [HF.out,huq]
 clear huq HF;generalize hnn:ns.length=nn at*;generalize hln:l.length=ln at*;have HNN:=hid hnn;have HLN:=hid hln;clear hnn hln;go_enter Tryz.func41,Tryz.ntmps41;go_upto_region 11 with fail;rw [HW6.out];clear HW6 l1 l1' l6 l6' te2 te3 tn4 te5 te6 tn6;go_wp2_with fail;refine cU.mono ?_;rintro e w7 ⟨rfl,hb⟩;have HB7:=hid (HB6.out.trans (hb.mono HB6.out.size));have hv7:=(hb.block _ (Go.lt_of_block HV6.out)).trans HV6.out;have HV7:=hid hv7;clear hb cU HV6 x0 x1 x2 x3 x4 x5;obtain ⟨x0,x1,x2,x3,x4,x5⟩:=x6_of hv7;clear hv7;have hmm:=@run_makeMap Tryz.prog;cases uq
 · have HE:Hid (RES=false):=by show _=_;rw [HF2.out];rfl
   go_wp2_with fail;go_ret;exact ⟨by rw [HE.out];rfl,HB7.out⟩
 · go_upto_region 14 with fail;obtain ⟨w8,hw8⟩:∃w8,w7.alloc (.map #[] 0)=w8:=⟨_,rfl⟩;obtain ⟨M,hM⟩:∃M,w7.heap.size=M:=⟨_,rfl⟩;have HB8:Hid (Below w.heap.size w w8):=by show Below _ _ _;rw [←hw8];exact HB7.out.alloc HB7.out.size _
   have hv8:w8.heap[w.heap.size]? =some (.cells #[.int .u8 k,.bool false,.int .i64 0,.string ⟨#[]⟩,.slice la ln lc,.slice na nn nc] 26 (0,0)):=by rw [←hw8,Lib.alloc_old _ _ _ (Go.lt_of_block HV7.out)];exact HV7.out
   have HV8:=hid hv8;have HM8:Hid (w8.ownsMap Tryz.prog 9 (plainElem Tryz.prog 4) M 0 (J.seenD [])):=by show World.ownsMap _ _ _ _ _ _ _;rw [←hw8,←hM];exact World.ownsMap_made _ _ _ _
   have HMW:Hid (w.heap.size≤M):=by show _≤_;rw [←hM];exact HB7.out.size
   have HMX:Hid (w.heap.size<M):=by show _<_;rw [←hM];exact Go.lt_of_block HV7.out
   rw [hw8,hM];clear hw8 hM HB7 HV7 hmm x0 x1 x2 x3 x4 x5;obtain ⟨x0,x1,x2,x3,x4,x5⟩:=x6_of hv8;clear hv8;go_wp2_with fail;clear x0 x1 x2 x3 x4 x5;go_loopw [111] (fun vi wr=> ∃(q:Nat),q≤nn∧vi= .int .i64 q∧Hid (Below w.heap.size w wr)∧Hid (wr.heap[w.heap.size]? =some (.cells #[.int .u8 k,.bool false,.int .i64 0,.string ⟨#[]⟩,.slice la ln lc,.slice na nn nc] 26 (0,0)))∧Hid (wr.ownsMap Tryz.prog 9 (plainElem Tryz.prog 4) M q (J.seenD ((ns.take q).map fun y=>y.data.toList)))∧Hid (RES=(J.namesOk (ns.take q).reverse (ns.drop q)&&J.mayT l))) (fun vi _=>nn-(intOf vi).toNat)
   case atStart=>exact ⟨0,Nat.zero_le _,rfl,HB8,HV8,HM8,by show RES=_;rw [HF2.out];rfl⟩
   case round=>
    obtain ⟨q,hq,rfl,HBr,HVr,HMr,HRr⟩:=hrel;clear HB8 HV8 HM8;by_cases hlt:q<nn
    · have d0:decide ((q:Int)<(nn:Int))=true:=decide_eq_true (by omega);have d1:decide (q<nn)=true:=decide_eq_true (by omega);have hqp:q<ns.length:=by have:=HNN.out;omega
      obtain ⟨na0,no,hna,hPb,hncap,hcell⟩:∃na0 no,na=some ⟨na0,no,none⟩∧P na0∧ns.length≤nc∧∀j x,ns[j]? =some x→w.cell? ⟨na0,no+j,none⟩=some (.string x):=by
        rcases HN.out with ⟨h1,_⟩|⟨_,b',o',c',h1,h2,h3,h4⟩
        · rw [h1] at hqp;simp at hqp
        · simp only [Value.slice.injEq] at h1;obtain ⟨rfl,_,rfl⟩:=h1;exact ⟨b',o',rfl,h2,h3,h4⟩
      subst hna;obtain ⟨nm,hnm⟩:∃nm,ns[q]=nm:=⟨_,rfl⟩;have hc0:=hcell q nm (by rw [List.getElem?_eq_getElem hqp,hnm]);rw [←HBr.out.cell (p:=⟨na0,_,none⟩) (HPP.out _ hPb)] at hc0;have hst:ns.drop q=nm::ns.drop (q+1):=by rw [←hnm];exact List.drop_eq_getElem_cons hqp
      have htk:ns.take (q+1)=ns.take q++ [nm]:=by rw [←hnm];exact List.take_succ_eq_append_getElem hqp
      have hsz:nm.size≤1125899906842624:=HBN.out nm (by rw [←hnm];exact List.getElem_mem _);have hkey:keyOf Tryz.prog 9 (.string nm)=some (.string nm.data.toList):=Go.WideMaps.keyOf_string_mk Tryz.underlying9 (by unfold maxLen;omega);have hat:=J.seenD_at ((ns.take q).map fun y=>y.data.toList) nm.data.toList;have hI2:=HRr.out;rw [hst,J.namesOk,J.seen_any] at hI2;obtain ⟨sq,hsq⟩:∃sq,decide (nm.data.toList∈(ns.take q).map fun y=>y.data.toList)=sq:=⟨_,rfl⟩;rw [hsq] at hat hI2;have hlook:(Instr.lookup 176 (.map (some M)) (.string nm) false).run Tryz.prog wr= .ok (.bool sq) wr:=by
        obtain ⟨v,ps,h1,h2⟩:=HMr.out.lookup lawJ Tryz.underlying176 (zeroBoolJ wr) (plainElem_bool Tryz.underlying4 false) hkey;rw [hat] at h2;rw [plainBoolJ h2] at h1;exact h1
      have HI2:=hid hI2;have HTK:=hid htk;have HKEY:=hid hkey;have hq0:(0:Int)≤(q:Int):=by omega
      have hq1:(q:Int)<(nn:Int):=by omega
      clear hst htk hnm hI2 hat hsq hkey hcell hqp;cases sq
      · have cU:=utf8J_any nm wr (by omega) (HTB.out.under HBr.out);obtain ⟨uq,huq⟩:∃u,validD nm.data.toList=u:=⟨_,rfl⟩;rw [huq] at cU;have HU:=hid huq;clear huq;cases uq
        · have HE:Hid (RES=false):=by show _=_;rw [HI2.out,HU.out];rfl
          go_wp2_with fail;refine cU.mono ?_;rintro e w9 ⟨rfl,hb⟩;have HB9:=hid (HBr.out.trans (hb.mono HBr.out.size));clear hb cU;go_wp2_with fail;go_ret;exact ⟨by rw [HE.out];rfl,HB9.out⟩
        · go_wp2_with fail;refine cU.mono ?_;rintro e w9 ⟨rfl,hb⟩;have HB9:=hid (HBr.out.trans (hb.mono HBr.out.size));have HM9:=hid (mapJ_below HMr.out hb);have HV9:=hid ((hb.block _ (Go.lt_of_block HVr.out)).trans HVr.out);clear hb cU hlook;obtain ⟨w10,hput,hown,hturn⟩:=HM9.out.store lawJ Tryz.underlying176 (by unfold maxLen;omega) HKEY.out (plainElem_bool (H:=Unit) Tryz.underlying4 true);have HM10:Hid (w10.ownsMap Tryz.prog 9 (plainElem Tryz.prog 4) M (q+1) (J.seenD ((ns.take (q+1)).map fun y=>y.data.toList))):=by
           show World.ownsMap _ _ _ _ _ _ _;rw [HTK.out,List.map_append];show World.ownsMap _ _ _ _ _ _ (J.seenD (_++ [_]));rw [J.seenD_snoc];exact hown
          have HB10:=hid (HB9.out.grown hturn.grown HB9.out.size (fun j hj=>by have:=HMW.out;simp at hj;omega));have HV10:Hid (w10.heap[w.heap.size]? =some (.cells #[.int .u8 k,.bool false,.int .i64 0,.string ⟨#[]⟩,.slice la ln lc,.slice (some ⟨na0,no,none⟩) nn nc] 26 (0,0))):=by
           show _=_;rw [hturn.grown.block _ (Go.lt_of_block HV9.out) (fun e=>by have h1:=Option.some.inj e;have h2:=HMX.out;omega)];exact HV9.out
          have HR10:Hid (RES=(J.namesOk (ns.take (q+1)).reverse (ns.drop (q+1))&&J.mayT l)):=by
           show _=_;rw [HI2.out,HU.out,HTK.out,List.reverse_append];rfl
          clear hown hturn HI2 HU HTK HKEY;go_wp2_with fail;go_roundw
          case rel=>exact ⟨q+1,by omega,by go_num,HB10,HV10,HM10,HR10⟩
          case measure=>simp [intOf];omega
      · have HE:Hid (RES=false):=by show _=_;rw [HI2.out];rfl
        go_wp2_with fail;go_ret;exact ⟨by rw [HE.out];rfl,HBr.out⟩
    · have d0:decide ((q:Int)<(nn:Int))=false:=decide_eq_false (by omega);have d1:decide (q<nn)=false:=decide_eq_false (by omega);have hqe:q=nn:=by omega
      have HE:Hid (RES=J.mayT l):=by
        show _=_;rw [HRr.out,List.drop_of_length_le (by have:=HNN.out;omega)];rfl
      have cC:=containsFunc_any l HALL.out (by rw [HLN.out];omega) HSM.out HBR.out wr P (.slice la ln lc) (HTB.out.under HBr.out) (by have:=J.T.In.keep (fun _ h=>h) (fun j hj=>HBr.out.block j (HPP.out j hj)) HL.out;exact this) (fun j hj=>Nat.lt_of_lt_of_le (HPP.out j hj) HBr.out.size);obtain ⟨mq,hmq⟩:∃m,J.mayT l=m:=⟨_,rfl⟩;rw [hmq] at cC;have HMQ:=hid hmq;obtain ⟨x0,x1,x2,x3,x4,x5⟩:=x6_of HVr.out;clear hmq hlt hqe;go_wp2_with fail;refine cC.mono ?_;rintro e w9 ⟨rfl,hb⟩;have HB9:=hid (HBr.out.trans (hb.mono HBr.out.size));clear hb cC;go_wp2_with fail;go_ret;exact ⟨by rw [HE.out,HMQ.out];cases mq<;>rfl,HB9.out⟩
theorem may_6f (k:Nat) (b:Bool) (n:Int) (s:ByteArray) (l:J.T) (ns:List ByteArray) (hall:l.All MayC) (hk:k=6) (hb:b=false):MayC ⟨k,b,n,s,l,ns⟩:=by
 intro hsm hbr w P cs hT hhas hPP;obtain ⟨hs1,hs2,hs3⟩:=hsm;obtain ⟨hr1,hr2,hr3⟩:=hbr;obtain ⟨lv,nv,rfl,hl,hn⟩:=hhas;have hl:l.In w P lv:=hl;have hn:J.SIn w P ns nv:=hn;obtain ⟨la,lc,rfl⟩:=hl.shape;obtain ⟨na,nc,rfl⟩:=hn.shape;simp only at hs1 hs2 hr1;have HL:=hid hl;have HN:=hid hn;have HALL:=hid hall;have HSM:=hid hs3;have HBR:=hid hr3;have HBN:=hid hr2;have HPP:=hid hPP;have HTB:=hid hT;clear hl hn hall hs3 hr3 hr2 hPP hT;obtain ⟨RES,hRES⟩:∃r,(⟨k,b,n,s,l,ns⟩:J.V).may=r:=⟨_,rfl⟩;rw [hRES];have HRES:=hid hRES;clear hRES;have l1:decide ((k:Int)<1)=false:=decide_eq_false (by omega);have l1':decide (k<1)=false:=decide_eq_false (by omega);have l6:decide ((6:Int)<(k:Int))=false:=decide_eq_false (by omega);have l6':decide (6<k)=false:=decide_eq_false (by omega);have te2:((k:Int)==2)=false:=beq_eq_false_iff_ne.2 (by omega);have te3:((k:Int)==3)=false:=beq_eq_false_iff_ne.2 (by omega);have tn4:((k:Int) !=4)=true:=by rw [bne_iff_ne];omega
 have te5:((k:Int)==5)=false:=beq_eq_false_iff_ne.2 (by omega);have te6:((k:Int)==6)=true:=by rw [beq_iff_eq];omega
 have tn6:((k:Int) !=6)=false:=by rw [hk];rfl
 have HK:=hid hk;clear hk;subst hb;by_cases hn0:n=0
 rotate_left
 · have tn:(n !=0)=true:=by rw [bne_iff_ne];exact hn0
   have HE:Hid (RES=false):=by show _=_;rw [←HRES.out];exact may_no1 (by simp [J.plainOk,HK.out,hn0])
   go_enter Tryz.func41,Tryz.ntmps41;go_wp2_with fail;all_goals
    go_ret;exact ⟨by rw [HE.out];rfl,(by repeat (first|exact Below.refl _ _|refine Below.setCell ?_ (by simp<;>omega) _|refine Below.alloc ?_ (by simp<;>omega) _|refine Below.drew ?_))⟩
 subst hn0;by_cases hs0:s.data.toList= []
 rotate_left
 · have ts:s.toList.isEmpty=false:=by rw [Lib.toList_data];simpa using hs0
   have ts':(!s.toList.isEmpty)=true:=by rw [ts];rfl
   have hsE:s.data.toList.isEmpty=false:=by simpa using hs0
   have HSE:=hid hsE;clear hsE;have HE:Hid (RES=false):=by show _=_;rw [←HRES.out];exact may_no1 (by unfold J.plainOk;rw [HK.out,HSE.out];first|rfl| (cases (n==0)<;>rfl))
   go_enter Tryz.func41,Tryz.ntmps41;go_wp2_with fail;all_goals
    go_ret;exact ⟨by rw [HE.out];rfl,(by repeat (first|exact Below.refl _ _|refine Below.setCell ?_ (by simp<;>omega) _|refine Below.alloc ?_ (by simp<;>omega) _|refine Below.drew ?_))⟩
 obtain rfl:s=⟨#[]⟩:=ByteArray.ext (Array.ext' hs0);clear hs0;have HP1:Hid (J.plainOk k false 0 ⟨#[]⟩=true):=by show _=_;simp [J.plainOk,HK.out]
 by_cases hm0:ns.length=l.length
 rotate_left
 · have tm:((ns.length:Int) !=(l.length:Int))=true:=by rw [bne_iff_ne];omega
   have tm':(ns.length !=l.length)=true:=by rw [bne_iff_ne];omega
   have HE:Hid (RES=false):=by show _=_;rw [←HRES.out];exact may_no2 (by simp [J.listOk,HK.out,hm0])
   go_enter Tryz.func41,Tryz.ntmps41;go_wp2_with fail;all_goals
    go_ret;exact ⟨by rw [HE.out];rfl,(by repeat (first|exact Below.refl _ _|refine Below.setCell ?_ (by simp<;>omega) _|refine Below.alloc ?_ (by simp<;>omega) _|refine Below.drew ?_))⟩
 have tm:((ns.length:Int) !=(l.length:Int))=false:=by rw [hm0];simp
 have tm':(ns.length !=l.length)=false:=by rw [hm0];simp
 have HF:Hid (RES=(validD ((⟨#[]⟩:ByteArray)).data.toList&&(J.namesOk [] ns&&J.mayT l))):=by show _=_;rw [←HRES.out];exact may_yes HP1.out (by simp [J.listOk,HK.out,hm0])
 clear hm0 HP1;obtain ⟨w6,hw6⟩:∃w6,(w.alloc (.cells #[.int .u8 k,.bool false,.int .i64 0,.string ⟨#[]⟩,.slice la l.length lc,.slice na ns.length nc] 26)).alloc (.cells #[.int .u8 k,.bool false,.int .i64 0,.string ⟨#[]⟩,.slice none 0 0,.slice none 0 0] 26)=w6:=⟨_,rfl⟩;have HB6:Hid (Below w.heap.size w w6):=by show Below _ _ _;rw [←hw6];exact ((Below.refl _ w).alloc (Nat.le_refl _) _).alloc (by simp) _
 have hv6:w6.heap[w.heap.size]? =some (.cells #[.int .u8 k,.bool false,.int .i64 0,.string ⟨#[]⟩,.slice la l.length lc,.slice na ns.length nc] 26 (0,0)):=by rw [←hw6,Lib.alloc_old _ _ _ (by simp)];exact heap_alloc_new w _
 have HV6:=hid hv6;have HW6:=hid hw6;obtain ⟨x0,x1,x2,x3,x4,x5⟩:=x6_of hv6;clear hw6 hv6;have cU:=utf8J_any (⟨#[]⟩:ByteArray) w6 (by first|omega|decide) (HTB.out.under HB6.out);obtain ⟨uq,huq⟩:∃q,validD ((⟨#[]⟩:ByteArray)).data.toList=q:=⟨_,rfl⟩;rw [huq] at cU;have HF2:Hid (RES=(uq&&(J.namesOk [] ns&&J.mayT l))):=by show _=_;rw [HF.out,huq]
 clear huq HF;generalize hnn:ns.length=nn at*;generalize hln:l.length=ln at*;have HNN:=hid hnn;have HLN:=hid hln;clear hnn hln;go_enter Tryz.func41,Tryz.ntmps41;go_upto_region 11 with fail;rw [HW6.out];clear HW6 l1 l1' l6 l6' te2 te3 tn4 te5 te6 tn6;go_wp2_with fail;refine cU.mono ?_;rintro e w7 ⟨rfl,hb⟩;have HB7:=hid (HB6.out.trans (hb.mono HB6.out.size));have hv7:=(hb.block _ (Go.lt_of_block HV6.out)).trans HV6.out;have HV7:=hid hv7;clear hb cU HV6 x0 x1 x2 x3 x4 x5;obtain ⟨x0,x1,x2,x3,x4,x5⟩:=x6_of hv7;clear hv7;have hmm:=@run_makeMap Tryz.prog;cases uq
 · have HE:Hid (RES=false):=by show _=_;rw [HF2.out];rfl
   go_wp2_with fail;go_ret;exact ⟨by rw [HE.out];rfl,HB7.out⟩
 · go_upto_region 14 with fail;obtain ⟨w8,hw8⟩:∃w8,w7.alloc (.map #[] 0)=w8:=⟨_,rfl⟩;obtain ⟨M,hM⟩:∃M,w7.heap.size=M:=⟨_,rfl⟩;have HB8:Hid (Below w.heap.size w w8):=by show Below _ _ _;rw [←hw8];exact HB7.out.alloc HB7.out.size _
   have hv8:w8.heap[w.heap.size]? =some (.cells #[.int .u8 k,.bool false,.int .i64 0,.string ⟨#[]⟩,.slice la ln lc,.slice na nn nc] 26 (0,0)):=by rw [←hw8,Lib.alloc_old _ _ _ (Go.lt_of_block HV7.out)];exact HV7.out
   have HV8:=hid hv8;have HM8:Hid (w8.ownsMap Tryz.prog 9 (plainElem Tryz.prog 4) M 0 (J.seenD [])):=by show World.ownsMap _ _ _ _ _ _ _;rw [←hw8,←hM];exact World.ownsMap_made _ _ _ _
   have HMW:Hid (w.heap.size≤M):=by show _≤_;rw [←hM];exact HB7.out.size
   have HMX:Hid (w.heap.size<M):=by show _<_;rw [←hM];exact Go.lt_of_block HV7.out
   rw [hw8,hM];clear hw8 hM HB7 HV7 hmm x0 x1 x2 x3 x4 x5;obtain ⟨x0,x1,x2,x3,x4,x5⟩:=x6_of hv8;clear hv8;go_wp2_with fail;clear x0 x1 x2 x3 x4 x5;go_loopw [111] (fun vi wr=> ∃(q:Nat),q≤nn∧vi= .int .i64 q∧Hid (Below w.heap.size w wr)∧Hid (wr.heap[w.heap.size]? =some (.cells #[.int .u8 k,.bool false,.int .i64 0,.string ⟨#[]⟩,.slice la ln lc,.slice na nn nc] 26 (0,0)))∧Hid (wr.ownsMap Tryz.prog 9 (plainElem Tryz.prog 4) M q (J.seenD ((ns.take q).map fun y=>y.data.toList)))∧Hid (RES=(J.namesOk (ns.take q).reverse (ns.drop q)&&J.mayT l))) (fun vi _=>nn-(intOf vi).toNat)
   case atStart=>exact ⟨0,Nat.zero_le _,rfl,HB8,HV8,HM8,by show RES=_;rw [HF2.out];rfl⟩
   case round=>
    obtain ⟨q,hq,rfl,HBr,HVr,HMr,HRr⟩:=hrel;clear HB8 HV8 HM8;by_cases hlt:q<nn
    · have d0:decide ((q:Int)<(nn:Int))=true:=decide_eq_true (by omega);have d1:decide (q<nn)=true:=decide_eq_true (by omega);have hqp:q<ns.length:=by have:=HNN.out;omega
      obtain ⟨na0,no,hna,hPb,hncap,hcell⟩:∃na0 no,na=some ⟨na0,no,none⟩∧P na0∧ns.length≤nc∧∀j x,ns[j]? =some x→w.cell? ⟨na0,no+j,none⟩=some (.string x):=by
        rcases HN.out with ⟨h1,_⟩|⟨_,b',o',c',h1,h2,h3,h4⟩
        · rw [h1] at hqp;simp at hqp
        · simp only [Value.slice.injEq] at h1;obtain ⟨rfl,_,rfl⟩:=h1;exact ⟨b',o',rfl,h2,h3,h4⟩
      subst hna;obtain ⟨nm,hnm⟩:∃nm,ns[q]=nm:=⟨_,rfl⟩;have hc0:=hcell q nm (by rw [List.getElem?_eq_getElem hqp,hnm]);rw [←HBr.out.cell (p:=⟨na0,_,none⟩) (HPP.out _ hPb)] at hc0;have hst:ns.drop q=nm::ns.drop (q+1):=by rw [←hnm];exact List.drop_eq_getElem_cons hqp
      have htk:ns.take (q+1)=ns.take q++ [nm]:=by rw [←hnm];exact List.take_succ_eq_append_getElem hqp
      have hsz:nm.size≤1125899906842624:=HBN.out nm (by rw [←hnm];exact List.getElem_mem _);have hkey:keyOf Tryz.prog 9 (.string nm)=some (.string nm.data.toList):=Go.WideMaps.keyOf_string_mk Tryz.underlying9 (by unfold maxLen;omega);have hat:=J.seenD_at ((ns.take q).map fun y=>y.data.toList) nm.data.toList;have hI2:=HRr.out;rw [hst,J.namesOk,J.seen_any] at hI2;obtain ⟨sq,hsq⟩:∃sq,decide (nm.data.toList∈(ns.take q).map fun y=>y.data.toList)=sq:=⟨_,rfl⟩;rw [hsq] at hat hI2;have hlook:(Instr.lookup 176 (.map (some M)) (.string nm) false).run Tryz.prog wr= .ok (.bool sq) wr:=by
        obtain ⟨v,ps,h1,h2⟩:=HMr.out.lookup lawJ Tryz.underlying176 (zeroBoolJ wr) (plainElem_bool Tryz.underlying4 false) hkey;rw [hat] at h2;rw [plainBoolJ h2] at h1;exact h1
      have HI2:=hid hI2;have HTK:=hid htk;have HKEY:=hid hkey;have hq0:(0:Int)≤(q:Int):=by omega
      have hq1:(q:Int)<(nn:Int):=by omega
      clear hst htk hnm hI2 hat hsq hkey hcell hqp;cases sq
      · have cU:=utf8J_any nm wr (by omega) (HTB.out.under HBr.out);obtain ⟨uq,huq⟩:∃u,validD nm.data.toList=u:=⟨_,rfl⟩;rw [huq] at cU;have HU:=hid huq;clear huq;cases uq
        · have HE:Hid (RES=false):=by show _=_;rw [HI2.out,HU.out];rfl
          go_wp2_with fail;refine cU.mono ?_;rintro e w9 ⟨rfl,hb⟩;have HB9:=hid (HBr.out.trans (hb.mono HBr.out.size));clear hb cU;go_wp2_with fail;go_ret;exact ⟨by rw [HE.out];rfl,HB9.out⟩
        · go_wp2_with fail;refine cU.mono ?_;rintro e w9 ⟨rfl,hb⟩;have HB9:=hid (HBr.out.trans (hb.mono HBr.out.size));have HM9:=hid (mapJ_below HMr.out hb);have HV9:=hid ((hb.block _ (Go.lt_of_block HVr.out)).trans HVr.out);clear hb cU hlook;obtain ⟨w10,hput,hown,hturn⟩:=HM9.out.store lawJ Tryz.underlying176 (by unfold maxLen;omega) HKEY.out (plainElem_bool (H:=Unit) Tryz.underlying4 true);have HM10:Hid (w10.ownsMap Tryz.prog 9 (plainElem Tryz.prog 4) M (q+1) (J.seenD ((ns.take (q+1)).map fun y=>y.data.toList))):=by
           show World.ownsMap _ _ _ _ _ _ _;rw [HTK.out,List.map_append];show World.ownsMap _ _ _ _ _ _ (J.seenD (_++ [_]));rw [J.seenD_snoc];exact hown
          have HB10:=hid (HB9.out.grown hturn.grown HB9.out.size (fun j hj=>by have:=HMW.out;simp at hj;omega));have HV10:Hid (w10.heap[w.heap.size]? =some (.cells #[.int .u8 k,.bool false,.int .i64 0,.string ⟨#[]⟩,.slice la ln lc,.slice (some ⟨na0,no,none⟩) nn nc] 26 (0,0))):=by
           show _=_;rw [hturn.grown.block _ (Go.lt_of_block HV9.out) (fun e=>by have h1:=Option.some.inj e;have h2:=HMX.out;omega)];exact HV9.out
          have HR10:Hid (RES=(J.namesOk (ns.take (q+1)).reverse (ns.drop (q+1))&&J.mayT l)):=by
           show _=_;rw [HI2.out,HU.out,HTK.out,List.reverse_append];rfl
          clear hown hturn HI2 HU HTK HKEY;go_wp2_with fail;go_roundw
          case rel=>exact ⟨q+1,by omega,by go_num,HB10,HV10,HM10,HR10⟩
          case measure=>simp [intOf];omega
      · have HE:Hid (RES=false):=by show _=_;rw [HI2.out];rfl
        go_wp2_with fail;go_ret;exact ⟨by rw [HE.out];rfl,HBr.out⟩
    · have d0:decide ((q:Int)<(nn:Int))=false:=decide_eq_false (by omega);have d1:decide (q<nn)=false:=decide_eq_false (by omega);have hqe:q=nn:=by omega
      have HE:Hid (RES=J.mayT l):=by
        show _=_;rw [HRr.out,List.drop_of_length_le (by have:=HNN.out;omega)];rfl
      have cC:=containsFunc_any l HALL.out (by rw [HLN.out];omega) HSM.out HBR.out wr P (.slice la ln lc) (HTB.out.under HBr.out) (by have:=J.T.In.keep (fun _ h=>h) (fun j hj=>HBr.out.block j (HPP.out j hj)) HL.out;exact this) (fun j hj=>Nat.lt_of_lt_of_le (HPP.out j hj) HBr.out.size);obtain ⟨mq,hmq⟩:∃m,J.mayT l=m:=⟨_,rfl⟩;rw [hmq] at cC;have HMQ:=hid hmq;obtain ⟨x0,x1,x2,x3,x4,x5⟩:=x6_of HVr.out;clear hmq hlt hqe;go_wp2_with fail;refine cC.mono ?_;rintro e w9 ⟨rfl,hb⟩;have HB9:=hid (HBr.out.trans (hb.mono HBr.out.size));clear hb cC;go_wp2_with fail;go_ret;exact ⟨by rw [HE.out,HMQ.out];cases mq<;>rfl,HB9.out⟩
theorem may_low (k:Nat) (b:Bool) (n:Int) (s:ByteArray) (l:J.T) (ns:List ByteArray) (hall:l.All MayC) (hk:k<1):MayC ⟨k,b,n,s,l,ns⟩:=by
 intro hsm hbr w P cs hT hhas hPP;obtain ⟨hs1,hs2,hs3⟩:=hsm;obtain ⟨hr1,hr2,hr3⟩:=hbr;obtain ⟨lv,nv,rfl,hl,hn⟩:=hhas;have hl:l.In w P lv:=hl;have hn:J.SIn w P ns nv:=hn;obtain ⟨la,lc,rfl⟩:=hl.shape;obtain ⟨na,nc,rfl⟩:=hn.shape;simp only at hs1 hs2 hr1;have HL:=hid hl;have HN:=hid hn;have HALL:=hid hall;have HSM:=hid hs3;have HBR:=hid hr3;have HBN:=hid hr2;have HPP:=hid hPP;have HTB:=hid hT;clear hl hn hall hs3 hr3 hr2 hPP hT;obtain ⟨RES,hRES⟩:∃r,(⟨k,b,n,s,l,ns⟩:J.V).may=r:=⟨_,rfl⟩;rw [hRES];have HRES:=hid hRES;clear hRES;have l1:decide ((k:Int)<1)=true:=decide_eq_true (by omega);have l1':decide (k<1)=true:=decide_eq_true (by omega);have l6:decide ((6:Int)<(k:Int))=false:=decide_eq_false (by omega);have l6':decide (6<k)=false:=decide_eq_false (by omega);have te2:((k:Int)==2)=false:=beq_eq_false_iff_ne.2 (by omega);have te3:((k:Int)==3)=false:=beq_eq_false_iff_ne.2 (by omega);have tn4:((k:Int) !=4)=true:=by rw [bne_iff_ne];omega
 have te5:((k:Int)==5)=false:=beq_eq_false_iff_ne.2 (by omega);have te6:((k:Int)==6)=false:=beq_eq_false_iff_ne.2 (by omega);have HK:=hid hk;clear hk;have HE:Hid (RES=false):=by show _=_;rw [←HRES.out];exact may_no1 (by unfold J.plainOk;rw [decide_eq_false (by have:=HK.out;omega)];rfl)
 go_enter Tryz.func41,Tryz.ntmps41;go_wp2_with fail;all_goals
  go_ret;exact ⟨by rw [HE.out];rfl,(by repeat (first|exact Below.refl _ _|refine Below.setCell ?_ (by simp<;>omega) _|refine Below.alloc ?_ (by simp<;>omega) _|refine Below.drew ?_))⟩
theorem may_high (k:Nat) (b:Bool) (n:Int) (s:ByteArray) (l:J.T) (ns:List ByteArray) (hall:l.All MayC) (hk:6<k):MayC ⟨k,b,n,s,l,ns⟩:=by
 intro hsm hbr w P cs hT hhas hPP;obtain ⟨hs1,hs2,hs3⟩:=hsm;obtain ⟨hr1,hr2,hr3⟩:=hbr;obtain ⟨lv,nv,rfl,hl,hn⟩:=hhas;have hl:l.In w P lv:=hl;have hn:J.SIn w P ns nv:=hn;obtain ⟨la,lc,rfl⟩:=hl.shape;obtain ⟨na,nc,rfl⟩:=hn.shape;simp only at hs1 hs2 hr1;have HL:=hid hl;have HN:=hid hn;have HALL:=hid hall;have HSM:=hid hs3;have HBR:=hid hr3;have HBN:=hid hr2;have HPP:=hid hPP;have HTB:=hid hT;clear hl hn hall hs3 hr3 hr2 hPP hT;obtain ⟨RES,hRES⟩:∃r,(⟨k,b,n,s,l,ns⟩:J.V).may=r:=⟨_,rfl⟩;rw [hRES];have HRES:=hid hRES;clear hRES;have l1:decide ((k:Int)<1)=false:=decide_eq_false (by omega);have l1':decide (k<1)=false:=decide_eq_false (by omega);have l6:decide ((6:Int)<(k:Int))=true:=decide_eq_true (by omega);have l6':decide (6<k)=true:=decide_eq_true (by omega);have te2:((k:Int)==2)=false:=beq_eq_false_iff_ne.2 (by omega);have te3:((k:Int)==3)=false:=beq_eq_false_iff_ne.2 (by omega);have tn4:((k:Int) !=4)=true:=by rw [bne_iff_ne];omega
 have te5:((k:Int)==5)=false:=beq_eq_false_iff_ne.2 (by omega);have te6:((k:Int)==6)=false:=beq_eq_false_iff_ne.2 (by omega);have HK:=hid hk;clear hk;have HE:Hid (RES=false):=by show _=_;rw [←HRES.out];exact may_no1 (by unfold J.plainOk;rw [decide_eq_false (by have:=HK.out;omega)];rfl)
 go_enter Tryz.func41,Tryz.ntmps41;go_wp2_with fail;all_goals
  go_ret;exact ⟨by rw [HE.out];rfl,(by repeat (first|exact Below.refl _ _|refine Below.setCell ?_ (by simp<;>omega) _|refine Below.alloc ?_ (by simp<;>omega) _|refine Below.drew ?_))⟩
theorem may_b1 (k:Nat) (b:Bool) (n:Int) (s:ByteArray) (l:J.T) (ns:List ByteArray) (hall:l.All MayC) (hk:k=1) (hb:b=true):MayC ⟨k,b,n,s,l,ns⟩:=by
 intro hsm hbr w P cs hT hhas hPP;obtain ⟨hs1,hs2,hs3⟩:=hsm;obtain ⟨hr1,hr2,hr3⟩:=hbr;obtain ⟨lv,nv,rfl,hl,hn⟩:=hhas;have hl:l.In w P lv:=hl;have hn:J.SIn w P ns nv:=hn;obtain ⟨la,lc,rfl⟩:=hl.shape;obtain ⟨na,nc,rfl⟩:=hn.shape;simp only at hs1 hs2 hr1;have HL:=hid hl;have HN:=hid hn;have HALL:=hid hall;have HSM:=hid hs3;have HBR:=hid hr3;have HBN:=hid hr2;have HPP:=hid hPP;have HTB:=hid hT;clear hl hn hall hs3 hr3 hr2 hPP hT;obtain ⟨RES,hRES⟩:∃r,(⟨k,b,n,s,l,ns⟩:J.V).may=r:=⟨_,rfl⟩;rw [hRES];have HRES:=hid hRES;clear hRES;have l1:decide ((k:Int)<1)=false:=decide_eq_false (by omega);have l1':decide (k<1)=false:=decide_eq_false (by omega);have l6:decide ((6:Int)<(k:Int))=false:=decide_eq_false (by omega);have l6':decide (6<k)=false:=decide_eq_false (by omega);have te2:((k:Int)==2)=false:=beq_eq_false_iff_ne.2 (by omega);have te3:((k:Int)==3)=false:=beq_eq_false_iff_ne.2 (by omega);have tn4:((k:Int) !=4)=true:=by rw [bne_iff_ne];omega
 have te5:((k:Int)==5)=false:=beq_eq_false_iff_ne.2 (by omega);have te6:((k:Int)==6)=false:=beq_eq_false_iff_ne.2 (by omega);have tn6:((k:Int) !=6)=true:=by rw [bne_iff_ne];omega
 have HK:=hid hk;clear hk;subst hb;have HE:Hid (RES=false):=by show _=_;rw [←HRES.out];exact may_no1 (by unfold J.plainOk;rw [HK.out];rfl)
 go_enter Tryz.func41,Tryz.ntmps41;go_wp2_with fail;all_goals
  go_ret;exact ⟨by rw [HE.out];rfl,(by repeat (first|exact Below.refl _ _|refine Below.setCell ?_ (by simp<;>omega) _|refine Below.alloc ?_ (by simp<;>omega) _|refine Below.drew ?_))⟩
theorem may_b3 (k:Nat) (b:Bool) (n:Int) (s:ByteArray) (l:J.T) (ns:List ByteArray) (hall:l.All MayC) (hk:k=3) (hb:b=true):MayC ⟨k,b,n,s,l,ns⟩:=by
 intro hsm hbr w P cs hT hhas hPP;obtain ⟨hs1,hs2,hs3⟩:=hsm;obtain ⟨hr1,hr2,hr3⟩:=hbr;obtain ⟨lv,nv,rfl,hl,hn⟩:=hhas;have hl:l.In w P lv:=hl;have hn:J.SIn w P ns nv:=hn;obtain ⟨la,lc,rfl⟩:=hl.shape;obtain ⟨na,nc,rfl⟩:=hn.shape;simp only at hs1 hs2 hr1;have HL:=hid hl;have HN:=hid hn;have HALL:=hid hall;have HSM:=hid hs3;have HBR:=hid hr3;have HBN:=hid hr2;have HPP:=hid hPP;have HTB:=hid hT;clear hl hn hall hs3 hr3 hr2 hPP hT;obtain ⟨RES,hRES⟩:∃r,(⟨k,b,n,s,l,ns⟩:J.V).may=r:=⟨_,rfl⟩;rw [hRES];have HRES:=hid hRES;clear hRES;have l1:decide ((k:Int)<1)=false:=decide_eq_false (by omega);have l1':decide (k<1)=false:=decide_eq_false (by omega);have l6:decide ((6:Int)<(k:Int))=false:=decide_eq_false (by omega);have l6':decide (6<k)=false:=decide_eq_false (by omega);have te2:((k:Int)==2)=false:=beq_eq_false_iff_ne.2 (by omega);have te3:((k:Int)==3)=true:=by rw [beq_iff_eq];omega
 have tn4:((k:Int) !=4)=true:=by rw [bne_iff_ne];omega
 have te5:((k:Int)==5)=false:=beq_eq_false_iff_ne.2 (by omega);have te6:((k:Int)==6)=false:=beq_eq_false_iff_ne.2 (by omega);have tn6:((k:Int) !=6)=true:=by rw [bne_iff_ne];omega
 have HK:=hid hk;clear hk;subst hb;have HE:Hid (RES=false):=by show _=_;rw [←HRES.out];exact may_no1 (by unfold J.plainOk;rw [HK.out];rfl)
 go_enter Tryz.func41,Tryz.ntmps41;go_wp2_with fail;all_goals
  go_ret;exact ⟨by rw [HE.out];rfl,(by repeat (first|exact Below.refl _ _|refine Below.setCell ?_ (by simp<;>omega) _|refine Below.alloc ?_ (by simp<;>omega) _|refine Below.drew ?_))⟩
theorem may_b4 (k:Nat) (b:Bool) (n:Int) (s:ByteArray) (l:J.T) (ns:List ByteArray) (hall:l.All MayC) (hk:k=4) (hb:b=true):MayC ⟨k,b,n,s,l,ns⟩:=by
 intro hsm hbr w P cs hT hhas hPP;obtain ⟨hs1,hs2,hs3⟩:=hsm;obtain ⟨hr1,hr2,hr3⟩:=hbr;obtain ⟨lv,nv,rfl,hl,hn⟩:=hhas;have hl:l.In w P lv:=hl;have hn:J.SIn w P ns nv:=hn;obtain ⟨la,lc,rfl⟩:=hl.shape;obtain ⟨na,nc,rfl⟩:=hn.shape;simp only at hs1 hs2 hr1;have HL:=hid hl;have HN:=hid hn;have HALL:=hid hall;have HSM:=hid hs3;have HBR:=hid hr3;have HBN:=hid hr2;have HPP:=hid hPP;have HTB:=hid hT;clear hl hn hall hs3 hr3 hr2 hPP hT;obtain ⟨RES,hRES⟩:∃r,(⟨k,b,n,s,l,ns⟩:J.V).may=r:=⟨_,rfl⟩;rw [hRES];have HRES:=hid hRES;clear hRES;have l1:decide ((k:Int)<1)=false:=decide_eq_false (by omega);have l1':decide (k<1)=false:=decide_eq_false (by omega);have l6:decide ((6:Int)<(k:Int))=false:=decide_eq_false (by omega);have l6':decide (6<k)=false:=decide_eq_false (by omega);have te2:((k:Int)==2)=false:=beq_eq_false_iff_ne.2 (by omega);have te3:((k:Int)==3)=false:=beq_eq_false_iff_ne.2 (by omega);have tn4:((k:Int) !=4)=false:=by rw [hk];rfl
 have te5:((k:Int)==5)=false:=beq_eq_false_iff_ne.2 (by omega);have te6:((k:Int)==6)=false:=beq_eq_false_iff_ne.2 (by omega);have tn6:((k:Int) !=6)=true:=by rw [bne_iff_ne];omega
 have HK:=hid hk;clear hk;subst hb;have HE:Hid (RES=false):=by show _=_;rw [←HRES.out];exact may_no1 (by unfold J.plainOk;rw [HK.out];rfl)
 go_enter Tryz.func41,Tryz.ntmps41;go_wp2_with fail;all_goals
  go_ret;exact ⟨by rw [HE.out];rfl,(by repeat (first|exact Below.refl _ _|refine Below.setCell ?_ (by simp<;>omega) _|refine Below.alloc ?_ (by simp<;>omega) _|refine Below.drew ?_))⟩
theorem may_b5 (k:Nat) (b:Bool) (n:Int) (s:ByteArray) (l:J.T) (ns:List ByteArray) (hall:l.All MayC) (hk:k=5) (hb:b=true):MayC ⟨k,b,n,s,l,ns⟩:=by
 intro hsm hbr w P cs hT hhas hPP;obtain ⟨hs1,hs2,hs3⟩:=hsm;obtain ⟨hr1,hr2,hr3⟩:=hbr;obtain ⟨lv,nv,rfl,hl,hn⟩:=hhas;have hl:l.In w P lv:=hl;have hn:J.SIn w P ns nv:=hn;obtain ⟨la,lc,rfl⟩:=hl.shape;obtain ⟨na,nc,rfl⟩:=hn.shape;simp only at hs1 hs2 hr1;have HL:=hid hl;have HN:=hid hn;have HALL:=hid hall;have HSM:=hid hs3;have HBR:=hid hr3;have HBN:=hid hr2;have HPP:=hid hPP;have HTB:=hid hT;clear hl hn hall hs3 hr3 hr2 hPP hT;obtain ⟨RES,hRES⟩:∃r,(⟨k,b,n,s,l,ns⟩:J.V).may=r:=⟨_,rfl⟩;rw [hRES];have HRES:=hid hRES;clear hRES;have l1:decide ((k:Int)<1)=false:=decide_eq_false (by omega);have l1':decide (k<1)=false:=decide_eq_false (by omega);have l6:decide ((6:Int)<(k:Int))=false:=decide_eq_false (by omega);have l6':decide (6<k)=false:=decide_eq_false (by omega);have te2:((k:Int)==2)=false:=beq_eq_false_iff_ne.2 (by omega);have te3:((k:Int)==3)=false:=beq_eq_false_iff_ne.2 (by omega);have tn4:((k:Int) !=4)=true:=by rw [bne_iff_ne];omega
 have te5:((k:Int)==5)=true:=by rw [beq_iff_eq];omega
 have te6:((k:Int)==6)=false:=beq_eq_false_iff_ne.2 (by omega);have tn6:((k:Int) !=6)=true:=by rw [bne_iff_ne];omega
 have HK:=hid hk;clear hk;subst hb;have HE:Hid (RES=false):=by show _=_;rw [←HRES.out];exact may_no1 (by unfold J.plainOk;rw [HK.out];rfl)
 go_enter Tryz.func41,Tryz.ntmps41;go_wp2_with fail;all_goals
  go_ret;exact ⟨by rw [HE.out];rfl,(by repeat (first|exact Below.refl _ _|refine Below.setCell ?_ (by simp<;>omega) _|refine Below.alloc ?_ (by simp<;>omega) _|refine Below.drew ?_))⟩
theorem may_b6 (k:Nat) (b:Bool) (n:Int) (s:ByteArray) (l:J.T) (ns:List ByteArray) (hall:l.All MayC) (hk:k=6) (hb:b=true):MayC ⟨k,b,n,s,l,ns⟩:=by
 intro hsm hbr w P cs hT hhas hPP;obtain ⟨hs1,hs2,hs3⟩:=hsm;obtain ⟨hr1,hr2,hr3⟩:=hbr;obtain ⟨lv,nv,rfl,hl,hn⟩:=hhas;have hl:l.In w P lv:=hl;have hn:J.SIn w P ns nv:=hn;obtain ⟨la,lc,rfl⟩:=hl.shape;obtain ⟨na,nc,rfl⟩:=hn.shape;simp only at hs1 hs2 hr1;have HL:=hid hl;have HN:=hid hn;have HALL:=hid hall;have HSM:=hid hs3;have HBR:=hid hr3;have HBN:=hid hr2;have HPP:=hid hPP;have HTB:=hid hT;clear hl hn hall hs3 hr3 hr2 hPP hT;obtain ⟨RES,hRES⟩:∃r,(⟨k,b,n,s,l,ns⟩:J.V).may=r:=⟨_,rfl⟩;rw [hRES];have HRES:=hid hRES;clear hRES;have l1:decide ((k:Int)<1)=false:=decide_eq_false (by omega);have l1':decide (k<1)=false:=decide_eq_false (by omega);have l6:decide ((6:Int)<(k:Int))=false:=decide_eq_false (by omega);have l6':decide (6<k)=false:=decide_eq_false (by omega);have te2:((k:Int)==2)=false:=beq_eq_false_iff_ne.2 (by omega);have te3:((k:Int)==3)=false:=beq_eq_false_iff_ne.2 (by omega);have tn4:((k:Int) !=4)=true:=by rw [bne_iff_ne];omega
 have te5:((k:Int)==5)=false:=beq_eq_false_iff_ne.2 (by omega);have te6:((k:Int)==6)=true:=by rw [beq_iff_eq];omega
 have tn6:((k:Int) !=6)=false:=by rw [hk];rfl
 have HK:=hid hk;clear hk;subst hb;have HE:Hid (RES=false):=by show _=_;rw [←HRES.out];exact may_no1 (by unfold J.plainOk;rw [HK.out];rfl)
 go_enter Tryz.func41,Tryz.ntmps41;go_wp2_with fail;all_goals
  go_ret;exact ⟨by rw [HE.out];rfl,(by repeat (first|exact Below.refl _ _|refine Below.setCell ?_ (by simp<;>omega) _|refine Below.alloc ?_ (by simp<;>omega) _|refine Below.drew ?_))⟩
theorem may_any (x:J.V):MayC x:=J.V.of (fun x hall=>by
 obtain ⟨k,b,n,s,l,ns⟩:=x
 by_cases h1:k<1
 · exact may_low k b n s l ns hall h1
 by_cases h6:6<k
 · exact may_high k b n s l ns hall h6
 rcases (by omega:k=1∨k=2∨k=3∨k=4∨k=5∨k=6) with h|h|h|h|h|h
 · cases hb:b
   · exact may_1f k false n s l ns hall h rfl
   · exact may_b1 k true n s l ns hall h rfl
 · cases hb:b
   · exact may_2f k false n s l ns hall h rfl
   · exact may_2t k true n s l ns hall h rfl
 · cases hb:b
   · exact may_3f k false n s l ns hall h rfl
   · exact may_b3 k true n s l ns hall h rfl
 · cases hb:b
   · exact may_4f k false n s l ns hall h rfl
   · exact may_b4 k true n s l ns hall h rfl
 · cases hb:b
   · exact may_5f k false n s l ns hall h rfl
   · exact may_b5 k true n s l ns hall h rfl
 · cases hb:b
   · exact may_6f k false n s l ns hall h rfl
   · exact may_b6 k true n s l ns hall h rfl) x
theorem check_any (x:J.V) (h1:x.small) (h2:x.brief) (h3:x.deep≤1000000000) (w:World) (P:Nat→Prop) (cs:List Value) (hT:Tabs w) (hh:x.Has w P cs) (hP:∀b,P b→b<w.heap.size):
   Calls Tryz.prog 11 #[.agg cs.toArray] w fun e w'=>e= .returned (.int .i64 (J.check x))∧Below w.heap.size w w':=by
 obtain ⟨k2,b2,n2,s2,a1,l2,c1,a2,m2,c2,rfl⟩:=Shape.of hh;obtain ⟨w1,hw1⟩:∃w1,w.alloc (.cells #[.int .u8 k2,.bool b2,.int .i64 n2,.string s2,.slice a1 l2 c1,.slice a2 m2 c2] 26)=w1:=⟨_,rfl⟩;have hb1:Below w.heap.size w w1:=by rw [←hw1];exact (Below.refl _ w).alloc (Nat.le_refl _) _
 have hv1:w1.heap[w.heap.size]? =some (.cells #[.int .u8 k2,.bool b2,.int .i64 n2,.string s2,.slice a1 l2 c1,.slice a2 m2 c2] 26 (0,0)):=by rw [←hw1];exact heap_alloc_new w _
 have cM:=may_any x h1 h2 w1 P [.int .u8 k2,.bool b2,.int .i64 n2,.string s2,.slice a1 l2 c1,.slice a2 m2 c2] (hT.under hb1) (J.V.Has.keep (fun _ h=>h) (fun b h=>hb1.block b (hP b h)) hh) (fun b h=>Nat.lt_of_lt_of_le (hP b h) hb1.size);have HB:=hid hb1;have HH:=hid hh;have HP:=hid hP;have HW1:=hid hw1;have HV:=hid hv1;have HC:Hid (J.check x=if x.may then (if 16<x.deep then 84 else 0) else 1):=rfl;obtain ⟨RES,hRES⟩:∃r,J.check x=r:=⟨_,rfl⟩;rw [hRES] at HC ⊢;obtain ⟨q,hq⟩:∃q,x.may=q:=⟨_,rfl⟩;rw [hq] at cM HC;obtain ⟨x0,x1,x2,x3,x4,x5⟩:=x6_of hv1;clear hb1 hw1 hv1 hh hT hP hq hRES;go_enter Tryz.func11,Tryz.ntmps11;go_upto_region 1 with fail;rw [HW1.out];clear HW1;go_wp2_with fail;refine cM.mono ?_;rintro e w2 ⟨rfl,hb⟩;have HB2:=hid (HB.out.trans (hb.mono HB.out.size));have hv2:=(hb.block _ (Go.lt_of_block HV.out)).trans HV.out;clear hb cM x0 x1 x2 x3 x4 x5;cases q
 · have HE:Hid (RES=1):=HC.out;clear hv2;go_wp2_with fail;go_ret;exact ⟨by rw [HE.out];rfl,HB2.out⟩
 · obtain ⟨x0,x1,x2,x3,x4,x5⟩:=x6_of hv2;have cD:=depth_any x h1 h3 w2 P [.int .u8 k2,.bool b2,.int .i64 n2,.string s2,.slice a1 l2 c1,.slice a2 m2 c2] (J.V.Has.keep (fun _ h=>h) (fun b h=>HB2.out.block b (HP.out b h)) HH.out) (fun b h=>Nat.lt_of_lt_of_le (HP.out b h) HB2.out.size);obtain ⟨d,hd⟩:∃d,x.deep=d:=⟨_,rfl⟩;rw [hd] at cD HC;clear hv2 hd;by_cases h16:16<d
   · have HE:Hid (RES=84):=by show _=_;rw [HC.out,if_pos rfl,if_pos h16]
     have t0:decide ((16:Int)<(d:Int))=true:=decide_eq_true (by omega);have t1:decide (16<d)=true:=decide_eq_true h16;go_wp2_with fail;refine cD.mono ?_;rintro e w3 ⟨rfl,hb⟩;have HB3:=hid (HB2.out.trans (hb.mono HB2.out.size));clear hb cD;go_wp2_with fail;go_ret;exact ⟨by rw [HE.out];rfl,HB3.out⟩
   · have HE:Hid (RES=0):=by show _=_;rw [HC.out,if_pos rfl,if_neg h16]
     have t0:decide ((16:Int)<(d:Int))=false:=decide_eq_false (by omega);have t1:decide (16<d)=false:=decide_eq_false h16;go_wp2_with fail;refine cD.mono ?_;rintro e w3 ⟨rfl,hb⟩;have HB3:=hid (HB2.out.trans (hb.mono HB2.out.size));clear hb cD;go_wp2_with fail;go_ret;exact ⟨by rw [HE.out];rfl,HB3.out⟩
open Go.RowKit
theorem len_any (B b:Nat) (l:List UInt8) (w:World) (h:Holds B b l w):
  Calls Tryz.prog 13 #[.pointer (some ⟨b,0,none⟩)] w fun e w'=>e= .returned (.int .i64 l.length)∧w'=w:=by
 obtain ⟨p,hB,v,hbk,hown,hne⟩:∃p,Lib.BuilderAtF 68 5 B b p (Lib.byteCells l) w:=by
  rcases h with h|h
  · exact ⟨_,h⟩
  · exact ⟨_,h⟩
 obtain ⟨ao,cap,rfl⟩:∃ao cap,v= .slice ao l.length cap:=by
  rcases hown.2 with ⟨hv,h0⟩|⟨g,cap,cur,fz,hv,_⟩
  · rw [Lib.byteCells_length] at h0;exact ⟨none,0,by rw [hv,h0]⟩
  · rw [Lib.byteCells_length] at hv;exact ⟨_,_,hv⟩
 have c1:w.cell? ⟨b,1,none⟩=some (.slice ao l.length cap):=by rw [Lib.cell_of_heap hbk];rfl
 clear hne hown hbk hB h;go_enter Tryz.func13,Tryz.ntmps13;go_wp2_with fail;go_ret;exact ⟨rfl,rfl⟩
def PrintOf (x:J.V) (w:World) (e:Ending) (W:World):Prop:=e= .returned (.tuple #[.string ⟨x.print.1.toArray⟩,.int .i64 x.print.2])∧Below w.heap.size w W
theorem print_any (x:J.V) (h1:x.small) (h2:x.brief) (h3:x.deep≤1000000000) (h4:x.num) (h5:6*x.show.length+2≤10000000000000) (w:World) (P:Nat→Prop) (cs:List Value) (hT:Tabs w) (hZ:Tz w) (hW:Pw w) (hh:x.Has w P cs) (hP:∀b,P b→b<w.heap.size):
   Calls Tryz.prog 6 #[.agg cs.toArray] w (PrintOf x w):=by
 obtain ⟨k2,b2,n2,s2,a1,l2,c1,a2,m2,c2,rfl⟩:=Shape.of hh;obtain ⟨w1,hw1⟩:∃w1,w.alloc (.cells #[.int .u8 k2,.bool b2,.int .i64 n2,.string s2,.slice a1 l2 c1,.slice a2 m2 c2] 26)=w1:=⟨_,rfl⟩;have hb1:Below w.heap.size w w1:=by rw [←hw1];exact (Below.refl _ w).alloc (Nat.le_refl _) _
 have hv1:w1.heap[w.heap.size]? =some (.cells #[.int .u8 k2,.bool b2,.int .i64 n2,.string s2,.slice a1 l2 c1,.slice a2 m2 c2] 26 (0,0)):=by rw [←hw1];exact heap_alloc_new w _
 have hs1:w1.heap.size=w.heap.size+1:=by rw [←hw1];simp
 have cC:=check_any x h1 h2 h3 w1 P [.int .u8 k2,.bool b2,.int .i64 n2,.string s2,.slice a1 l2 c1,.slice a2 m2 c2] (hT.under hb1) (J.V.Has.keep (fun _ h=>h) (fun b h=>hb1.block b (hP b h)) hh) (fun b h=>Nat.lt_of_lt_of_le (hP b h) hb1.size);have HB:=hid hb1;have HH:=hid hh;have HP:=hid hP;have HW1:=hid hw1;have HV:=hid hv1;have HZ:Hid (∀W,Below w.heap.size w W→Tz W∧Pw W):=fun W h=>⟨hZ.keep h,Lib.tabBelow_of_tabIs hW W h⟩
 obtain ⟨x0,x1,x2,x3,x4,x5⟩:=x6_of hv1;have HC:Hid (x.print=(if J.check x=0 then (if 65536<x.show.length then ([],3) else (x.show,0)) else ([],J.check x))):=rfl;have HCK:Hid (J.check x=if x.may then (if 16<x.deep then 84 else 0) else 1):=rfl;unfold PrintOf;obtain ⟨RES,hRES⟩:∃r,x.print=r:=⟨_,rfl⟩;rw [hRES] at HC ⊢;obtain ⟨q,hq⟩:∃q,J.check x=q:=⟨_,rfl⟩;rw [hq] at cC HC HCK;clear hb1 hw1 hv1 hh hT hP hRES hZ hW hq;go_enter Tryz.func6,Tryz.ntmps6;go_upto_region 1 with fail;rw [HW1.out];clear HW1;go_wp2_with fail;by_cases hm:¬ x.may=true
 · have hq:q=1:=by rw [HCK.out,if_neg hm]
   subst hq;have HE:Hid (RES=([],1)):=by show _=_;rw [HC.out];rfl
   clear hm HCK;refine cC.mono ?_;rintro e w2 ⟨rfl,hb⟩;have HB2:=hid (HB.out.trans (hb.mono HB.out.size));clear hb cC x0 x1 x2 x3 x4 x5;go_wp2_with fail;go_ret2;exact ⟨by rw [HE.out];rfl,HB2.out⟩
 have hm:x.may=true:=Classical.byContradiction hm;by_cases hd:16<x.deep
 · have hq:q=84:=by rw [HCK.out,if_pos hm,if_pos hd]
   subst hq;have HE:Hid (RES=([],84)):=by show _=_;rw [HC.out];rfl
   clear hm hd HCK;refine cC.mono ?_;rintro e w2 ⟨rfl,hb⟩;have HB2:=hid (HB.out.trans (hb.mono HB.out.size));clear hb cC x0 x1 x2 x3 x4 x5;go_wp2_with fail;go_ret2;exact ⟨by rw [HE.out];rfl,HB2.out⟩
 have hq:q=0:=by rw [HCK.out,if_pos hm,if_neg hd]
 subst hq;have HM:=hid hm;have HE:Hid (RES=if 65536<x.show.length then ([],3) else (x.show,0)):=by show _=_;rw [HC.out,if_pos rfl]
 clear hm hd HCK HC;refine cC.mono ?_;rintro e w2 ⟨rfl,hb⟩;have HB2:=hid (HB.out.trans (hb.mono HB.out.size));have HV2:=hid ((hb.block _ (Go.lt_of_block HV.out)).trans HV.out);have HS2:Hid (w.heap.size+1≤w2.heap.size):=by show _≤_;have:=hb.size;omega
 clear hb cC x0 x1 x2 x3 x4 x5 hs1;go_upto_region 5 with fail;obtain ⟨w3,hw3⟩:∃w3,w2.alloc (.cells #[.pointer none,.slice none 0 0] 68)=w3:=⟨_,rfl⟩;obtain ⟨B,hB⟩:∃B,w2.heap.size=B:=⟨_,rfl⟩;have HO3:Hid (Holds B B [] w3):=by show Holds _ _ _ _;rw [←hw3,←hB];exact holds_fresh w2
 have hb3:Below w2.heap.size w2 w3:=by rw [←hw3];exact (Below.refl _ w2).alloc (Nat.le_refl _) _
 have HV3:=hid ((hb3.block _ (Go.lt_of_block HV2.out)).trans HV2.out);have HBB:Hid (w.heap.size+1≤B):=by show _≤_;have:=HS2.out;omega
 have HB3:=hid (HB2.out.trans (hb3.mono HB2.out.size));rw [hw3,hB];obtain ⟨x0,x1,x2,x3,x4,x5⟩:=x6_of HV3.out;have cW:=write_any x h1 h4 HM.out w3 B B [] P _ HO3.out (J.V.Has.keep (fun _ h=>h) (fun b h=>HB3.out.block b (HP.out b h)) HH.out) (fun b h=>by have:=HP.out b h;have:=HBB.out;omega) (fun W hW=>HZ.out W (HB3.out.trans (hW.mono (by have:=HBB.out;omega)))) (by simp only [List.length_nil];omega);clear hw3 hB hb3 HV2 HV;go_wp2_with fail;refine cW.mono ?_;rintro e w4 ⟨rfl,h1',h2',h3'⟩;rw [List.nil_append] at h1';have HO4:=hid h1';have HB4:=hid (HB3.out.trans (h2'.mono (by have:=HBB.out;omega)));obtain ⟨SH,hSH⟩:∃l,x.show=l:=⟨_,rfl⟩;rw [hSH] at HO4 HE;clear h1' h2' h3' cW x0 x1 x2 x3 x4 x5 hSH h5;go_wp2_with fail;refine (len_any B B SH w4 HO4.out).mono ?_;rintro e w5 ⟨rfl,hw⟩;rw [hw];clear hw;by_cases hb:65536<SH.length
 · have t0:decide ((65536:Int)<(SH.length:Int))=true:=decide_eq_true (by omega);have t1:decide (65536<SH.length)=true:=decide_eq_true hb;have HE2:Hid (RES=([],3)):=by show _=_;rw [HE.out,if_pos hb]
   clear HE hb;go_wp2_with fail;go_ret2;exact ⟨by rw [HE2.out];rfl,HB4.out⟩
 · have t0:decide ((65536:Int)<(SH.length:Int))=false:=decide_eq_false (by omega);have t1:decide (65536<SH.length)=false:=decide_eq_false hb;have HE2:Hid (RES=(SH,0)):=by show _=_;rw [HE.out,if_neg hb]
   clear HE hb;have cS:=string_any B B SH w4 HO4.out (Holds.bw HO4.out);go_wp2_with fail;refine cS.mono ?_;rintro e w6 ⟨rfl,h1',h2',h3'⟩;have HB6:=hid (HB4.out.trans (h2'.mono (by have:=HBB.out;omega)));clear h1' h2' h3' cS;go_wp2_with fail;go_ret2;exact ⟨by rw [HE2.out];rfl,HB6.out⟩
end Go.Proofs.YtohkomndapngjaaGreatDoor

