/- The reader's inside: what stands in brackets, by whatever closure takes one. -/
import Derived.Test.YtohkomndapngjaaGreatDoorRN5
import Derived.Test.YtohkomndapngjaaGreatDoorRN3
import Derived.Laws.OwnMore
import Derived.Test.YtohkomndapngjaaGreatDoorShelfS
import Derived.WalkSpells
import Derived.Lib.SliceRun
import Derived.Laws.AppendOwn
namespace Go.Proofs.YtohkomndapngjaaGreatDoor
set_option maxRecDepth 100000
set_option maxHeartbeats 16000000
open Go.RowKit
open Go.Lib (hid)
def OneOf (w:World) (R:Nat) (s:ByteArray) (x:J.Res (J.T×List ByteArray)) (Inv:(J.T×List ByteArray)→World→Prop) (Bd:World→Prop) (en:Ending) (W:World):Prop:=
 (∃p' r,x= .ok (p',r)∧en= .returned (.bool true)∧Rdr w R s (s.size-r.length) 0 0 W∧Inv p' W)∨
 (∃n er q',x= .error (n,er)∧q'≤s.size∧en= .returned (.bool false)∧Rdr w R s q' er ((s.size-n:Nat):Int) W∧Bd W)
def OneC (w:World) (R:Nat) (s:ByteArray) (one:J.Step) (F:FuncId) (caps:Array Value) (Inv:(J.T×List ByteArray)→World→Prop) (Bd:World→Prop):Prop:=
 ∀p q W,q≤s.size→p.1.length≤q→p.2.length≤q→Rdr w R s q 0 0 W→Inv p W→Calls Tryz.prog F caps W (OneOf w R s (one p (s.data.toList.drop q)) Inv Bd)
def InOf (w:World) (R:Nat) (s:ByteArray) (x:J.Res (J.T×List ByteArray)) (Inv:(J.T×List ByteArray)→World→Prop) (Bd:World→Prop) (en:Ending) (W:World):Prop:=
 (∃p' r,x= .ok (p',r)∧en= .returned (.bool true)∧Rdr w R s (s.size-r.length) 0 0 W∧Inv p' W)∨
 (∃n er q',x= .error (n,er)∧q'≤s.size∧en= .returned (.bool false)∧Rdr w R s q' er ((s.size-n:Nat):Int) W∧Bd W)
theorem next_cases (s:ByteArray) (q:Nat):(J.skip (s.data.toList.drop q)= []∧J.nextP s q=s.size∧J.nextB s q=0)∨
   (∃c,∃h:J.nextP s q<s.size,s[J.nextP s q]'h=c∧J.skip (s.data.toList.drop q)=c::s.data.toList.drop (J.nextP s q+1)∧J.nextB s q=c.toNat):=by
 rcases Nat.lt_or_ge (J.nextP s q) s.size with h|h
 · refine Or.inr ⟨_,h,rfl,?_,?_⟩
   · rw [←J.nextP_drop,drop_at h]
   · rw [←next_byte h]
 · have h':J.nextP s q=s.size:=Nat.le_antisymm (J.nextP_le s q) h;exact Or.inl ⟨by rw [←J.nextP_drop,drop_end h],h',next_end h'⟩
namespace J
theorem run_err {one:Step}{en:UInt8}{f:Nat}{p:T×List ByteArray}{l:List UInt8}{e:Nat×Int}(h:one p l= .error e):run one en (f+1) p l= .error e:=by rw [run,h]
theorem run_nil {one:Step}{en:UInt8}{f:Nat}{p p':T×List ByteArray}{l r:List UInt8}(h:one p l= .ok (p',r)) (hs:skip r= []):run one en (f+1) p l= .error (0,4):=by rw [run,h];simp only;rw [hs]
theorem run_cons {one:Step}{en:UInt8}{f:Nat}{p p':T×List ByteArray}{l r l6:List UInt8}{c:UInt8}(h:one p l= .ok (p',r)) (hs:skip r=c::l6):run one en (f+1) p l=if c=en then .ok (p',l6) else if c=44 then run one en f p' l6 else .error (l6.length+1,4):=by rw [run,h];simp only;rw [hs]
theorem inR_nil {one:Step}{en:UInt8}{l:List UInt8}(h:skip (l.drop 1)= []):inR one en l=run one en (l.length+1) (.nil,[]) []:=by unfold inR;rw [h]
theorem inR_cons {one:Step}{en:UInt8}{l r:List UInt8}{c:UInt8}(h:skip (l.drop 1)=c::r):inR one en l=if c=en then .ok ((.nil,[]),r) else run one en (l.length+1) (.nil,[]) (c::r):=by unfold inR;rw [h]
end J
theorem next_own {w:World}{R p:Nat}{s:ByteArray}{W:World}(h:Rdr w R s p 0 0 W) (hp:p≤s.size) (hs:s.size≤140737488355328):
  Calls Tryz.prog 58 #[.pointer (some ⟨R,0,none⟩)] W fun en W'=>en= .returned (.int .u8 (J.nextB s p:Nat))∧Rdr w R s (J.nextP s p) 0 0 W'∧W.grownBy W' (some R):=by
 refine (next_any h.own hp hs).mono ?_;rintro en W' ⟨rfl,h'⟩;exact ⟨rfl,h.trans h',h'.g⟩
theorem bad_own {w:World}{R p:Nat}{s:ByteArray}{W:World}(h:Rdr w R s p 0 0 W):
  Calls Tryz.prog 59 #[.pointer (some ⟨R,0,none⟩)] W fun en W'=>en= .returned (.bool false)∧Rdr w R s p 4 (p:Int) W'∧W.grownBy W' (some R):=by
 refine (bad0 h.own).mono ?_;rintro en W' ⟨rfl,h'⟩;exact ⟨rfl,h.trans h',h'.g⟩
theorem fail_own {w:World}{R p:Nat}{s:ByteArray}(er at_:Int) {W:World}(h:Rdr w R s p 0 0 W):
  Calls Tryz.prog 113 #[.pointer (some ⟨R,0,none⟩),.int .i64 er,.int .i64 at_] W fun en W'=>en= .returned (.bool false)∧Rdr w R s p er at_ W'∧W.grownBy W' (some R):=by
 refine (fail0 er at_ h.own).mono ?_;rintro en W' ⟨rfl,h'⟩;exact ⟨rfl,h.trans h',h'.g⟩
theorem inside_deep {w:World}{R p:Nat}{s:ByteArray}{W:World}(en:Int) (fv:Value) (h:Rdr w R s p 0 0 W):
  Calls Tryz.prog 108 #[.pointer (some ⟨R,0,none⟩),.int .u8 en,.int .i64 16,fv] W fun e W'=>e= .returned (.bool false)∧Rdr w R s p 84 (p:Int) W'∧W.grownBy W' (some R):=by
 have cF:=fail_own 84 (p:Int) h;obtain ⟨c0,c1, -, -⟩:=h.cells;clear h;go_enter Tryz.func108,Tryz.ntmps108;go_wp2_with fail;refine cF.mono ?_;rintro e w1 ⟨rfl,hr⟩;have HR:=hid hr;clear hr;go_wp2_with fail;go_ret;exact ⟨rfl,HR.out⟩
theorem inside_any {w:World}{R p:Nat}{s:ByteArray}{W:World}{one:J.Step}{F:FuncId}{caps:Array Value}{Inv:(J.T×List ByteArray)→World→Prop}{Bd:World→Prop}(en:UInt8) (hen:en.toNat≠0∧en.toNat≠44) (deep:Nat) (hdeep:deep<16)
   (hF:∀args W,(callFunc F args).run Tryz.prog W= .ok (.enter F args) W)
   (hS:J.Steps one) (hO:OneC w R s one F caps Inv Bd) (hK:∀p W W',Inv p W→W.grownBy W' (some R)→Inv p W') (hB:∀p W,Inv p W→Bd W)
   (h:Rdr w R s p 0 0 W) (hI:Inv (.nil,[]) W) (hp:p<s.size) (hs:s.size≤1000000000000):
   Calls Tryz.prog 108 #[.pointer (some ⟨R,0,none⟩),.int .u8 en.toNat,.int .i64 deep,.func (.func F) #[] caps] W (InOf w R s (J.inR one en (s.data.toList.drop p)) Inv Bd):=by
 have HR:=hid h;have HI:=hid hI;have HO:=hid hO;have HK:=hid hK;have HB:=hid hB;have HS:=hid hS;obtain ⟨RES,hRES⟩:∃x,J.inR one en (s.data.toList.drop p)=x:=⟨_,rfl⟩;rw [hRES];obtain ⟨c0,c1, -, -⟩:=h.cells;obtain ⟨-,g1, -, -⟩:=h.free;obtain ⟨q,hq⟩:∃q,p+1=q:=⟨_,rfl⟩;have e1:(p:Int)+1=(q:Int):=by omega
 have e2:IntKind.i64.wrap (q:Int)=(q:Int):=by rw [IntKind.wrap_i64];omega
 have hqs:q≤s.size:=by omega
 have t0:((deep:Int)==16)=false:=beq_eq_false_iff_ne.2 (by omega);have HRS:=hid hRES.symm;have HQ:=hid hq;have HEN:=hid hen;clear h hI hO hK hB hS hRES hq hen;go_enter Tryz.func108,Tryz.ntmps108;go_wp2_with fail;have H1:=hid (HR.out.set1 q);have I1:=hid (HK.out _ _ _ HI.out (grownBy_set _ R 1 (.int .i64 q)));clear HR HI c0 c1 g1;generalize World.setCell W _ _=w1 at*;refine (next_own H1.out hqs (by omega)).mono ?_;rintro e w2 ⟨rfl,hr,hg⟩;have H2:=hid hr;have I2:=hid (HK.out _ _ _ I1.out hg);clear hr hg H1 I1;obtain ⟨c0,c1, -, -⟩:=H2.out.cells;obtain ⟨-,g1, -, -⟩:=H2.out.free;have hN:=next_cases s q;have hdrop:(s.data.toList.drop p).drop 1=s.data.toList.drop q:=by rw [List.drop_drop,HQ.out]
 obtain ⟨B,hBb⟩:∃B,J.nextB s q=B:=⟨_,rfl⟩;obtain ⟨P,hP⟩:∃P,J.nextP s q=P:=⟨_,rfl⟩;have hPs:P≤s.size:=by rw [←hP];exact J.nextP_le s q
 have hdP:=J.nextP_drop s q;rw [hBb] at hN ⊢;rw [hP] at H2 c1 hdP;by_cases hbe:B=en.toNat
 · have t1:((B:Int)==(en.toNat:Int))=true:=by rw [hbe];simp
   have hE:RES= .ok ((.nil,[]),s.data.toList.drop (P+1))∧P<s.size:=by
    rcases hN with ⟨_,_,h0⟩|⟨c,hlt,hc,hsk,hcb⟩
    · exact absurd (hbe.symm.trans h0) HEN.out.1
    · have hce:c=en:=UInt8.toNat_inj.1 (by omega);refine ⟨?_,by rw [←hP];exact hlt⟩;rw [HRS.out,J.inR_cons (by rw [hdrop];exact hsk),if_pos hce,hP]
   obtain ⟨q',hq'⟩:∃q',P+1=q':=⟨_,rfl⟩;have e3:(P:Int)+1=(q':Int):=by omega
   have e4:IntKind.i64.wrap (q':Int)=(q':Int):=by rw [IntKind.wrap_i64];omega
   have HE:=hid hE;have HQ':=hid hq';clear hE hN hbe hBb hP hdP hdrop hq' HO HS HRS;go_wp2_with fail;go_ret;refine Or.inl ⟨_,_,HE.out.1,rfl,?_,HK.out _ _ _ I2.out (grownBy_set _ R 1 (.int .i64 q'))⟩;rw [drop_len,show s.size-(s.size-(P+1))=q' by have:=HE.out.2;have:=HQ'.out;omega];exact H2.out.set1 q'
 · have t1:((B:Int)==(en.toNat:Int))=false:=beq_eq_false_iff_ne.2 (by omega);have hE:RES=J.run one en (s.size-p+1) (.nil,[]) (s.data.toList.drop P):=by
    rcases hN with ⟨hsk,hpe,_⟩|⟨c,hlt,hc,hsk,hcb⟩
    · rw [HRS.out,J.inR_nil (by rw [hdrop];exact hsk),drop_len,drop_end (s:=s) (q:=P) (by omega)]
    · have hce:c≠en:=fun h=>hbe (by rw [←h,←hcb])
      rw [HRS.out,J.inR_cons (by rw [hdrop];exact hsk),if_neg hce,drop_len,hdP,hsk]
   have HE:=hid hE;have HPQ0:Hid (q≤P):=by
    show _≤_;rw [←hP];unfold J.nextP;have:=J.skip_length (s.data.toList.drop q);rw [drop_len] at this;omega
   clear hE hN hbe hBb hP hdP hdrop HRS;go_wp2_with fail;go_loopg [] s.size (fun g wr=> ∃(q:Nat) (st:J.T×List ByteArray) (f:Nat),q≤s.size∧s.size-q≤g∧Hid (s.size-q<f∧st.1.length≤q∧st.2.length≤q)∧Hid (RES=J.run one en f st (s.data.toList.drop q))∧Hid (Rdr w R s q 0 0 wr∧Inv st wr))
   case atStart=>exact ⟨P,_,_,hPs,by omega,hid ⟨by have:=HQ.out;have:=HPQ0.out;omega,Nat.zero_le _,Nat.zero_le _⟩,HE,hid ⟨H2.out,I2.out⟩⟩
   case round=>
    obtain ⟨q,st,f,hqs,hg,HFU,HRES,HII⟩:=hrel;clear HE H2 I2 c0 c1 g1 e1 e2 HQ hPs HPQ0;obtain ⟨f,rfl⟩:∃f',f=f'+1:=⟨f-1,by have:=HFU.out.1;omega⟩;have cO:=HO.out st q wr hqs HFU.out.2.1 HFU.out.2.2 HII.out.1 HII.out.2;obtain ⟨X,hX⟩:∃X,one st (s.data.toList.drop q)=X:=⟨_,rfl⟩;have hst:=HS.out st (s.data.toList.drop q);rw [hX] at cO hst;have HX:=hid hX;clear hX HII;go_wp2_with fail;refine cO.mono ?_;intro e w3 hen;clear cO;rcases hen with ⟨p',r,hx,rfl,hr,hi⟩|⟨n,er,q',hx,hq',rfl,hr,hb⟩
    · obtain ⟨⟨a,ha⟩,hl1,hl2⟩:=hst.1 _ _ hx;have HLN:=hid (show p'.1.length≤st.1.length+1∧p'.2.length≤st.2.length+1 from ⟨hl1,hl2⟩);have hrl:r=s.data.toList.drop (s.size-r.length)∧r.length≤s.size-q:=by
        have hl:=congrArg List.length ha;rw [List.length_append,drop_len] at hl;refine ⟨?_,by omega⟩;have e5:s.size-r.length=q+a.length:=by omega
        rw [e5,←List.drop_drop,ha,List.drop_left'];rfl
      obtain ⟨q1,hq1⟩:∃q1,s.size-r.length=q1:=⟨_,rfl⟩;rw [hq1] at hr hrl;have HR3:=hid hr;have HI3:=hid hi;have HRL:=hid hrl;have HOK:=hid (HX.out.trans hx);have hq1s:q1≤s.size:=by omega
      have hqq1:q≤q1:=by omega
      clear hr hi hx hrl ha hst hq1 HX hl1 hl2;go_wp2_with fail;refine (next_own HR3.out hq1s (by omega)).mono ?_;rintro e w4 ⟨rfl,hr,hg⟩;have HR4:=hid hr;have HI4:=hid (HK.out _ _ _ HI3.out hg);clear hr hg HR3 HI3;obtain ⟨c0,c1, -, -⟩:=HR4.out.cells;obtain ⟨-,g1, -, -⟩:=HR4.out.free;have hN:=next_cases s q1;obtain ⟨B,hBb⟩:∃B,J.nextB s q1=B:=⟨_,rfl⟩;obtain ⟨P,hP⟩:∃P,J.nextP s q1=P:=⟨_,rfl⟩;have hPs:P≤s.size:=by rw [←hP];exact J.nextP_le s q1
      rw [hBb] at hN ⊢;rw [hP] at HR4 c1;have HPQ:Hid (q1≤P):=by
        show _≤_;rw [←hP];unfold J.nextP;have:=J.skip_length (s.data.toList.drop q1);rw [drop_len] at this;omega
      have hR:(P=s.size∧B=0∧RES= .error (0,4))∨(∃c:UInt8,P<s.size∧B=c.toNat∧RES=if c=en then .ok (p',s.data.toList.drop (P+1)) else if c=44 then J.run one en f p' (s.data.toList.drop (P+1)) else .error (s.size-P,4)):=by
        rcases hN with ⟨hsk,hpe,hb0⟩|⟨c,hlt,hc,hsk,hcb⟩
        · exact Or.inl ⟨hP ▸ hpe,hb0,by rw [HRES.out,J.run_nil HOK.out (by rw [HRL.out.1];exact hsk)]⟩
        · refine Or.inr ⟨c,hP ▸ hlt,hcb,?_⟩;rw [HRES.out,J.run_cons HOK.out (by rw [HRL.out.1];exact hsk),hP,drop_len,show s.size-(P+1)+1=s.size-P by have:=hP ▸ hlt;omega]
      clear hN hBb hP HRES HRL HOK;rcases hR with ⟨hpe,hb0,hE⟩|⟨c,hlt,hcb,hE⟩
      · subst hb0;have t2:((0:Int)==(en.toNat:Int))=false:=beq_eq_false_iff_ne.2 (by have:=HEN.out.1;omega);have HE:Hid (RES= .error (s.size-P,4)):=by
          show _=_;rw [hE,hpe,Nat.sub_self]
        clear hE hpe;go_wp2_with fail;refine (bad_own HR4.out).mono ?_;rintro e w5 ⟨rfl,hr,hg⟩;have HR5:=hid hr;have HB5:=hid (HB.out _ _ (HK.out _ _ _ HI4.out hg));clear hr hg;go_wp2_with fail;go_ret;exact Or.inr ⟨_,4,P,HE.out,hPs,rfl,by rw [show s.size-(s.size-P)=P by omega];exact HR5.out,HB5.out⟩
      · obtain ⟨q2,hq2⟩:∃q2,P+1=q2:=⟨_,rfl⟩;have e3:(P:Int)+1=(q2:Int):=by omega
        have e4:IntKind.i64.wrap (q2:Int)=(q2:Int):=by rw [IntKind.wrap_i64];omega
        have hq2s:q2≤s.size:=by omega
        rw [hq2] at hE;by_cases h1:c=en
        · have t2:((B:Int)==(en.toNat:Int))=true:=by rw [hcb,h1];simp
          have HE:Hid (RES= .ok (p',s.data.toList.drop q2)):=by
            show _=_;rw [hE,if_pos h1]
          have HQ2:=hid hq2;clear hE h1 hcb hq2;go_wp2_with fail;go_ret;refine Or.inl ⟨_,_,HE.out,rfl,?_,HK.out _ _ _ HI4.out (grownBy_set _ R 1 (.int .i64 q2))⟩;rw [drop_len,show s.size-(s.size-q2)=q2 by omega];exact HR4.out.set1 q2
        · have t2:((B:Int)==(en.toNat:Int))=false:=beq_eq_false_iff_ne.2 (fun h=>h1 (UInt8.toNat_inj.1 (by omega)));by_cases h2:c=44
          · have t3:((B:Int)==44)=true:=by rw [hcb,h2];rfl
            have HE:Hid (RES=J.run one en f p' (s.data.toList.drop q2)):=by
             show _=_;rw [hE,if_neg h1,if_pos h2]
            have HQ2:=hid hq2;clear hE h1 h2 hcb hq2;go_wp2_with fail;go_roundg (s.size-q2)
            case measure=>have:=HQ2.out;have:=HPQ.out;omega
            case rel=>exact ⟨q2,p',f,hq2s,Nat.le_refl _,hid ⟨by have:=HQ2.out;have:=HPQ.out;have:=HFU.out.1;omega,by have:=HQ2.out;have:=HPQ.out;have:=HFU.out.2.1;have:=HLN.out.1;omega,by have:=HQ2.out;have:=HPQ.out;have:=HFU.out.2.2;have:=HLN.out.2;omega⟩,HE,hid ⟨HR4.out.set1 q2,HK.out _ _ _ HI4.out (grownBy_set _ R 1 (.int .i64 q2))⟩⟩
          · have t3:((B:Int)==44)=false:=beq_eq_false_iff_ne.2 (fun h=>h2 (UInt8.toNat_inj.1 (show c.toNat=44 by omega)));have HE:Hid (RES= .error (s.size-P,4)):=by
             show _=_;rw [hE,if_neg h1,if_neg h2]
            clear hE h1 h2 hcb hq2;go_wp2_with fail;refine (bad_own HR4.out).mono ?_;rintro e w5 ⟨rfl,hr,hg⟩;have HR5:=hid hr;have HB5:=hid (HB.out _ _ (HK.out _ _ _ HI4.out hg));clear hr hg;go_wp2_with fail;go_ret;exact Or.inr ⟨_,4,P,HE.out,hPs,rfl,by rw [show s.size-(s.size-P)=P by omega];exact HR5.out,HB5.out⟩
    · have HE:Hid (RES= .error (n,er)):=by
        show _=_;rw [HRES.out];exact J.run_err (HX.out.trans hx)
      have HR3:=hid hr;have HB3:=hid hb;clear hr hb hx hst HX HRES;go_wp2_with fail;go_ret;exact Or.inr ⟨n,er,q',HE.out,hq',rfl,HR3.out,HB3.out⟩
def Shape (cs:List Value):Prop:= ∃(k:Int) (b:Bool) (n:Int) (s:ByteArray) (a1:Option Addr) (l1 c1:Nat) (a2:Option Addr) (l2 c2:Nat),cs= [.int .u8 k,.bool b,.int .i64 n,.string s,.slice a1 l1 c1,.slice a2 l2 c2]
theorem Shape.one {cs:List Value}(h:Shape cs):∀u∈cs,u.oneCell'=true:=by
 obtain ⟨_,_,_,_,_,_,_,_,_,_,rfl⟩:=h;intro u hu;simp only [List.mem_cons,List.not_mem_nil,or_false] at hu;rcases hu with rfl|rfl|rfl|rfl|rfl|rfl<;>rfl
theorem Shape.of {w:World}{P:Nat→Prop}{x:J.V}{cs:List Value}(h:x.Has w P cs):Shape cs:=by
 obtain ⟨lv,nv,rfl,h2,h3⟩:=h;obtain ⟨a1,c1,rfl⟩:=h2.shape;obtain ⟨a2,c2,rfl⟩:=h3.shape;exact ⟨_,_,_,_,_,_,_,_,_,_,rfl⟩
def zero6:List Value:= [.int .u8 0,.bool false,.int .i64 0,.string ⟨#[]⟩,.slice none 0 0,.slice none 0 0]
theorem Shape.zero:Shape zero6:=⟨0,false,0,⟨#[]⟩,none,0,0,none,0,0,rfl⟩
def ValOf (W0:World) (R:Nat) (s:ByteArray) (x:J.Res J.V) (en:Ending) (W:World):Prop:=
 (∃(y v:J.V) (r:List UInt8) (cs:List Value),x= .ok (y,r)∧v.loose y∧en= .returned (.tuple #[.agg cs.toArray,.bool true])∧v.Has W (Own W W0.heap.size none) cs∧Rdr W0 R s (s.size-r.length) 0 0 W)∨
 (∃(n:Nat) (er:Int) (q:Nat) (cs:List Value),x= .error (n,er)∧q≤s.size∧en= .returned (.tuple #[.agg cs.toArray,.bool false])∧Shape cs∧Rdr W0 R s q er ((s.size-n:Nat):Int) W)
def ValC (G R:Nat) (s:ByteArray) (d deep:Nat):Prop:= ∀(p:Nat) (W:World),Rdr W R s p 0 0 W→p≤s.size→Ground G W→
 Calls Tryz.prog 57 #[.pointer (some ⟨R,0,none⟩),.int .i64 deep] W (ValOf W R s (J.val d (s.data.toList.drop p)))
def Own2 (w:World) (B:Nat) (g0 g1:Option Nat) (b:Nat):Prop:=B≤b∧b<w.heap.size∧g0≠some b∧g1≠some b∧∃cs T,w.heap[b]? =some (.cells cs T (0,0))
def vRow (k:Int) (lv nv:Value):Obj:= .cells #[.int .u8 k,.bool false,.int .i64 0,.string ⟨#[]⟩,lv,nv] 26 (0,0)
structure VP (B V:Nat) (k:Int) (t:J.T) (ns:List ByteArray) (W:World) (lv nv:Value) (cs:List Value):Prop where
 v:W.heap[V]? =some (vRow k lv nv)
 l:W.ownsRow B 26 6 lv t.length cs
 c:t.Cells W (Own2 W B lv.ownBlock nv.ownBlock) cs
 n:W.ownsRow B 9 1 nv ns.length (ns.map Value.string)
def VSt (B V:Nat) (k:Int) (t:J.T) (ns:List ByteArray) (W:World):Prop:= ∃lv nv cs,VP B V k t ns W lv nv cs
def VBad (V:Nat) (W:World):Prop:= ∃(k:Int) (a1:Option Addr) (l1 c1:Nat) (a2:Option Addr) (l2 c2:Nat),W.heap[V]? =some (vRow k (.slice a1 l1 c1) (.slice a2 l2 c2))
theorem own_shape {w:World}{B:Nat}{E:TypeId}{sz n:Nat}{v:Value}{cs:List Value}(h:w.ownsRow B E sz v n cs):∃a c,v= .slice a n c:=by
 rcases h.2 with ⟨rfl,h0⟩|⟨g,cap,cur,rfl,_⟩
 · exact ⟨none,0,by rw [h0]⟩
 · exact ⟨_,_,rfl⟩
theorem VSt.bad {B V:Nat}{k:Int}{t:J.T}{ns:List ByteArray}{W:World}(h:VSt B V k t ns W):VBad V W:=by
 obtain ⟨lv,nv,cs,h1,h2,_,h4⟩:=h;obtain ⟨a1,c1,rfl⟩:=own_shape h2;obtain ⟨a2,c2,rfl⟩:=own_shape h4;exact ⟨k,a1,_,c1,a2,_,c2,h1⟩
theorem VSt.first {B V:Nat}(k:Int) {W:World}(h:W.heap[V]? =some (vRow k (.slice none 0 0) (.slice none 0 0))):VSt B V k .nil [] W:=
 ⟨_,_,[],⟨h,World.ownsRow_nil _ _ _ _,rfl,World.ownsRow_nil _ _ _ _⟩⟩
theorem VP.kept {B V:Nat}{k:Int}{t:J.T}{ns:List ByteArray}{W W':World}{R:Nat}{lv nv:Value}{cs:List Value}(h:VP B V k t ns W lv nv cs) (g:W.grownBy W' (some R)) (hV:R≠V) (hR:R<B):VP B V k t ns W' lv nv cs:=by
 obtain ⟨h1,h2,h3,h4⟩:=h;have hs:=g.size;refine ⟨?_,World.ownsRow.kept h2 g (Or.inr fun e=>by have:=(World.ownsRow.lt h2 R e).1;omega),?_,World.ownsRow.kept h4 g (Or.inr fun e=>by have:=(World.ownsRow.lt h4 R e).1;omega)⟩
 · rw [g.block V (Go.lt_of_block h1) (fun e=>hV (Option.some.inj e).symm)];exact h1
 · refine J.T.Cells.keep ?_ (fun b hb=>g.block b hb.2.1 (fun e=>by have:=Option.some.inj e;have:=hb.1;omega)) t cs h3;rintro b ⟨h5,h6,h7,h8,cs',T,h9⟩;exact ⟨h5,by omega,h7,h8,cs',T,by rw [g.block b h6 (fun e=>by have:=Option.some.inj e;omega)];exact h9⟩
theorem VSt.kept {B V:Nat}{k:Int}{t:J.T}{ns:List ByteArray}{W W':World}{R:Nat}(h:VSt B V k t ns W) (g:W.grownBy W' (some R)) (hV:R≠V) (hR:R<B):VSt B V k t ns W':=by
 obtain ⟨lv,nv,cs,h⟩:=h;exact ⟨lv,nv,cs,h.kept g hV hR⟩
theorem VP.apart {B V:Nat}{k:Int}{t:J.T}{ns:List ByteArray}{W:World}{lv nv:Value}{cs:List Value}(h:VP B V k t ns W lv nv cs) {g:Nat}(h1:lv.ownBlock=some g):nv.ownBlock≠some g:=by
 intro h2;rcases h.l.2 with ⟨rfl,_⟩|⟨g1,cap1,cur1,rfl,_,hg1,_⟩
 · cases h1
 · rcases h.n.2 with ⟨rfl,_⟩|⟨g2,cap2,cur2,rfl,_,hg2,_⟩
   · cases h2
   · simp only [Value.ownBlock,Option.some.injEq] at h1 h2;subst h1 h2;rw [hg1] at hg2;simp at hg2
theorem VP.push {B V H0:Nat}{k:Int}{t:J.T}{ns ns':List ByteArray}{w2 WF:World}{lv nv nv':Value}{ts cs:List Value}(h:VP B V k t ns w2 lv nv ts) {v:J.V}(hv:v.Has w2 (Own w2 H0 none) cs) (hH:B≤H0)
   (hlv:∀b,lv.ownBlock=some b→b<H0) (hnv:∀b,nv.ownBlock=some b→b<H0) (hV:V<B)
   (hF:∀b,b<w2.heap.size→lv.ownBlock≠some b→nv.ownBlock≠some b→b≠V→WF.heap[b]? =w2.heap[b]?) (hsz:w2.heap.size≤WF.heap.size) {g cap:Nat}
   (hrow:WF.ownsRow B 26 6 (.slice (some ⟨g,0,none⟩) (t.length+1) cap) (t.length+1) (ts++cs)) (hg:lv.ownBlock=some g∨w2.heap.size≤g)
   (hVF:WF.heap[V]? =some (vRow k (.slice (some ⟨g,0,none⟩) (t.length+1) cap) nv')) (hn:WF.ownsRow B 9 1 nv' ns'.length (ns'.map Value.string)) (hn':∀b,nv'.ownBlock=some b→nv.ownBlock=some b∨w2.heap.size≤b):
   VP B V k (t.snoc v) ns' WF (.slice (some ⟨g,0,none⟩) (t.length+1) cap) nv' (ts++cs):=by
 have hl:(t.snoc v).length=t.length+1:=by
   unfold J.T.snoc;rw [J.T.app_length];rfl
 have hc:=h.c;have hll:=World.ownsRow.lt h.l;have hnl:=World.ownsRow.lt h.n;refine ⟨hVF,by rw [hl];exact hrow,?_,hn⟩;have hfar:∀b,b<w2.heap.size→lv.ownBlock≠some b→nv.ownBlock≠some b→(Value.slice (some ⟨g,0,none⟩) (t.length+1) cap).ownBlock≠some b∧nv'.ownBlock≠some b:=by
   intro b h1 h2 h3;constructor
   · intro e;simp only [Value.ownBlock,Option.some.injEq] at e;subst e;rcases hg with hg|hg
     · exact h2 hg
     · omega
   · intro e;rcases hn' b e with h4|h4
     · exact h3 h4
     · omega
 refine J.T.Cells.app t v.one ts cs ?_ (J.T.Cells.one ?_)
 · refine J.T.Cells.keep (P:=Own2 w2 B lv.ownBlock nv.ownBlock) ?_ (fun b hb=>hF b hb.2.1 hb.2.2.1 hb.2.2.2.1 (by have:=hb.1;omega)) t ts hc;rintro b ⟨h1,h2,h3,h4,cs',T,h5⟩;exact ⟨h1,by omega,(hfar b h2 h3 h4).1,(hfar b h2 h3 h4).2,cs',T,by rw [hF b h2 h3 h4 (by omega)];exact h5⟩
 · have hne:∀b,Own w2 H0 none b→lv.ownBlock≠some b∧nv.ownBlock≠some b:=fun b hb=>⟨fun e=>by have:=hlv b e;have:=hb.1;omega,fun e=>by have:=hnv b e;have:=hb.1;omega⟩
   refine J.V.Has.keep (P:=Own w2 H0 none) ?_ (fun b hb=>hF b hb.2.1 (hne b hb).1 (hne b hb).2 (by have:=hb.1;omega)) hv;intro b hb;obtain ⟨h1,h2⟩:=hne b hb;obtain ⟨h3,h4,_,cs',T,h5⟩:=hb;exact ⟨by omega,by omega,(hfar b h4 h1 h2).1,(hfar b h4 h1 h2).2,cs',T,by rw [hF b h4 h1 h2 (by omega)];exact h5⟩
theorem VSt.has {B V:Nat}{k:Nat}{t:J.T}{ns:List ByteArray}{W:World}(h:VSt B V k t ns W):∃lv nv,W.heap[V]? =some (vRow k lv nv)∧(⟨k,false,0,⟨#[]⟩,t,ns⟩:J.V).Has W (Own W B none) [.int .u8 k,.bool false,.int .i64 0,.string ⟨#[]⟩,lv,nv]:=by
 obtain ⟨lv,nv,cs,h1,h2,h3,h4⟩:=h;refine ⟨lv,nv,h1,lv,nv,rfl,?_,?_⟩
 · exact JOwn.is (E:=26) (B:=B) (t:=t) (v:=lv) (w:=W) ⟨cs,h2,J.T.Cells.keep (fun b hb=>⟨hb.1,hb.2.1,hb.2.2.1,hb.2.2.2.2⟩) (fun _ _=>rfl) t cs h3⟩
 · have hlt:=World.ownsRow.lt h4;have hc:=fun g (hg:nv.ownBlock=some g)=>World.ownsRow.cells h4 hg
   rcases h4.2 with ⟨rfl,h0⟩|⟨g,cap,cur,rfl,_,hgr,hcap,_⟩
   · exact Or.inl ⟨List.eq_nil_of_length_eq_zero h0,none,0,rfl,fun _=>rfl⟩
   · rcases Nat.eq_zero_or_pos ns.length with h0|h0
     · exact Or.inl ⟨List.eq_nil_of_length_eq_zero h0,_,cap,by rw [h0],fun h=>by cases h⟩
     · refine Or.inr ⟨h0,g,0,cap,rfl,⟨(hlt g rfl).1,(hlt g rfl).2,(fun e=>by cases e),_,_,hgr⟩,hcap,fun j x hj=> ?_⟩;have:=hc g rfl j (.string x) (by rw [List.getElem?_map,hj];rfl);have e:(⟨g,0,none⟩:Addr).add j=⟨g,j,none⟩:=by cases j<;>simp [Addr.add]
       rw [e] at this;rw [Nat.zero_add];exact this
abbrev st6 (w:World) (g o:Nat) (c0 c1 c2 c3 c4 c5:Value):World:=(((((w.setCell ⟨g,o,none⟩ c0).setCell ⟨g,o+1,none⟩ c1).setCell ⟨g,o+2,none⟩ c2).setCell ⟨g,o+3,none⟩ c3).setCell ⟨g,o+4,none⟩ c4).setCell ⟨g,o+5,none⟩ c5
theorem set_behind {ts:List Value}{m:Nat}(hl:ts.length=m) (l:List Value) (i:Nat) (u:Value):(ts++l).set (m+i) u=ts++l.set i u:=by
 rw [List.set_append_right _ _ (by omega)];congr 2;omega
theorem set6 {ts:List Value}{m:Nat}(hl:ts.length=m) (z0 z1 z2 z3 z4 z5 c0 c1 c2 c3 c4 c5:Value):((((((ts++ [z0,z1,z2,z3,z4,z5]).set m c0).set (m+1) c1).set (m+2) c2).set (m+3) c3).set (m+4) c4).set (m+5) c5=ts++ [c0,c1,c2,c3,c4,c5]:=by
 have h0:=set_behind hl [z0,z1,z2,z3,z4,z5] 0 c0;rw [Nat.add_zero] at h0;rw [h0,set_behind hl,set_behind hl,set_behind hl,set_behind hl,set_behind hl];rfl
theorem st6_row {w:World}{B n g cap:Nat}{E:TypeId}{ts:List Value}(h:w.ownsRow B E 6 (.slice (some ⟨g,0,none⟩) (n+1) cap) (n+1) (ts++zero6)) (hl:ts.length=n*6) (c0 c1 c2 c3 c4 c5:Value):
  (st6 w g (n*6) c0 c1 c2 c3 c4 c5).ownsRow B E 6 (.slice (some ⟨g,0,none⟩) (n+1) cap) (n+1) (ts++ [c0,c1,c2,c3,c4,c5])∧w.grownBy (st6 w g (n*6) c0 c1 c2 c3 c4 c5) (some g):=by
 have s0:=World.ownsRow.stored h (n*6) c0;have s1:=World.ownsRow.stored s0.1 (n*6+1) c1;have s2:=World.ownsRow.stored s1.1 (n*6+2) c2;have s3:=World.ownsRow.stored s2.1 (n*6+3) c3;have s4:=World.ownsRow.stored s3.1 (n*6+4) c4;have s5:=World.ownsRow.stored s4.1 (n*6+5) c5;refine ⟨?_,((((s0.2.trans s1.2).trans s2.2).trans s3.2).trans s4.2).trans s5.2⟩;have e:=set6 hl (.int .u8 0) (.bool false) (.int .i64 0) (.string ⟨#[]⟩) (.slice none 0 0) (.slice none 0 0) c0 c1 c2 c3 c4 c5;rw [←e];exact s5.1
theorem vRow_set {w:World}{V:Nat}{k:Int}{lv nv:Value}(h:w.heap[V]? =some (vRow k lv nv)) (x:Value):(w.setCell ⟨V,4,none⟩ x).heap[V]? =some (vRow k x nv):=row_set h 4 x
theorem vRow_set5 {w:World}{V:Nat}{k:Int}{lv nv:Value}(h:w.heap[V]? =some (vRow k lv nv)) (x:Value):(w.setCell ⟨V,5,none⟩ x).heap[V]? =some (vRow k lv x):=row_set h 5 x
theorem push_done {w6 WF:World}{B V n g cap:Nat}{k:Int}{lv nv:Value}{ts:List Value}{c0 c1 c2 c3 c4 c5:Value}(h:w6.ownsRow B 26 6 (.slice (some ⟨g,0,none⟩) (n+1) cap) (n+1) (ts++zero6)) (hl:ts.length=n*6)
   (hV:w6.heap[V]? =some (vRow k lv nv)) (hVB:V<B)
   (hWF:WF=(st6 w6 g (n*6) c0 c1 c2 c3 c4 c5).setCell ⟨V,4,none⟩ (.slice (some ⟨g,0,none⟩) (n+1) cap)∨WF=st6 (w6.setCell ⟨V,4,none⟩ (.slice (some ⟨g,0,none⟩) (n+1) cap)) g (n*6) c0 c1 c2 c3 c4 c5):
   WF.ownsRow B 26 6 (.slice (some ⟨g,0,none⟩) (n+1) cap) (n+1) (ts++ [c0,c1,c2,c3,c4,c5])∧WF.heap[V]? =some (vRow k (.slice (some ⟨g,0,none⟩) (n+1) cap) nv)∧
   (WF.os=w6.os∧WF.tape=w6.tape∧WF.output=w6.output∧WF.heap.size=w6.heap.size)∧(∀b,b≠g→b≠V→WF.heap[b]? =w6.heap[b]?):=by
 have hgB:=(World.ownsRow.lt h g rfl).1;have hgl:=(World.ownsRow.lt h g rfl).2;have hVl:=Go.lt_of_block hV;have hset:∀(u:World) (b:Nat) (i:Nat) (x:Value),(u.setCell ⟨b,i,none⟩ x).heap.size=u.heap.size:=fun u b i x=>by simp [World.setCell]
 have hsz6:∀u:World,(st6 u g (n*6) c0 c1 c2 c3 c4 c5).heap.size=u.heap.size:=fun u=>by unfold st6;simp [World.setCell]
 have hoth:∀(u:World) (b i:Nat) (x:Value) (k:Nat),k≠b→(u.setCell ⟨b,i,none⟩ x).heap[k]? =u.heap[k]? :=fun u b i x k hk=>heap_setCell_other u ⟨b,i,none⟩ k x (fun e=>hk (by simp [e]))
 have hoth6:∀(u:World) (k:Nat),k≠g→(st6 u g (n*6) c0 c1 c2 c3 c4 c5).heap[k]? =u.heap[k]? :=fun u k hk=>by
   unfold st6;rw [hoth _ _ _ _ _ hk,hoth _ _ _ _ _ hk,hoth _ _ _ _ _ hk,hoth _ _ _ _ _ hk,hoth _ _ _ _ _ hk,hoth _ _ _ _ _ hk]
 rcases hWF with rfl|rfl
 · have s:=st6_row h hl c0 c1 c2 c3 c4 c5;refine ⟨World.ownsRow.kept s.1 (grownBy_set _ V 4 _) (Or.inr fun e=>by simp only [Value.ownBlock,Option.some.injEq] at e;omega),?_,⟨(grownBy_set _ V 4 _).os.trans s.2.os,(grownBy_set _ V 4 _).tape.trans s.2.tape,(grownBy_set _ V 4 _).output.trans s.2.output,by rw [hset,hsz6]⟩,fun b h1 h2=>by rw [hoth _ _ _ _ _ h2,hoth6 _ _ h1]⟩;have hV6:(st6 w6 g (n*6) c0 c1 c2 c3 c4 c5).heap[V]? =some (vRow k lv nv):=by rw [hoth6 _ _ (by omega)];exact hV
   exact vRow_set hV6 _
 · have h':=World.ownsRow.kept h (grownBy_set w6 V 4 (.slice (some ⟨g,0,none⟩) (n+1) cap)) (Or.inr fun e=>by simp only [Value.ownBlock,Option.some.injEq] at e;omega);have s:=st6_row h' hl c0 c1 c2 c3 c4 c5;refine ⟨s.1,?_,⟨s.2.os.trans (grownBy_set _ V 4 _).os,s.2.tape.trans (grownBy_set _ V 4 _).tape,s.2.output.trans (grownBy_set _ V 4 _).output,by rw [hsz6,hset]⟩,fun b h1 h2=>by rw [hoth6 _ _ h1,hoth _ _ _ _ _ h2]⟩;rw [hoth6 _ _ (by omega)];exact vRow_set hV _
theorem ValOf.parts {W0 : World} {R : Nat} {s : ByteArray} {x : J.Res J.V} {en : Ending} {W : World} (h : ValOf W0 R s x en W) : ∃ (b : Bool) (cs : List Value), en = .returned (.tuple #[.agg cs.toArray, .bool b]) ∧ Shape cs ∧
    ((b = true ∧ ∃ (y v : J.V) (r : List UInt8), x = .ok (y, r) ∧ v.loose y ∧ v.Has W (Own W W0.heap.size none) cs ∧ Rdr W0 R s (s.size - r.length) 0 0 W) ∨
      (b = false ∧ ∃ (n : Nat) (er : Int) (q : Nat), x = .error (n, er) ∧ q ≤ s.size ∧ Rdr W0 R s q er ((s.size - n : Nat) : Int) W)) := by
  rcases h with ⟨y, v, r, cs, h1, h2, h3, h4, h5⟩ | ⟨n, er, q, cs, h1, h2, h3, h4, h5⟩
  · exact ⟨true, cs, h3, Shape.of h4, Or.inl ⟨rfl, y, v, r, h1, h2, h4, h5⟩⟩
  · exact ⟨false, cs, h3, h4, Or.inr ⟨rfl, n, er, q, h1, h2, h5⟩⟩
def Parts (W0 : World) (R : Nat) (s : ByteArray) (x : J.Res J.V) (b : Bool) (cs : List Value) (W : World) : Prop :=
 (b = true ∧ ∃ (y v : J.V) (r : List UInt8), x = .ok (y, r) ∧ v.loose y ∧ v.Has W (Own W W0.heap.size none) cs ∧ Rdr W0 R s (s.size - r.length) 0 0 W) ∨
  (b = false ∧ ∃ (n : Nat) (er : Int) (q : Nat), x = .error (n, er) ∧ q ≤ s.size ∧ Rdr W0 R s q er ((s.size - n : Nat) : Int) W)
theorem Parts.g {W0:World}{R:Nat}{s:ByteArray}{x:J.Res J.V}{b:Bool}{cs:List Value}{W:World}(h:Parts W0 R s x b cs W):W0.grownBy W (some R):=by
 rcases h with ⟨_,_,_,_,_,_,_,h⟩|⟨_,_,_,_,_,_,h⟩<;>exact h.g
theorem infoJSON4:(Tryz.prog.info? 26).map (fun i=>(i.zero,i.size,i.bytes))=some (some (.agg #[.int .u8 0,.bool false,.int .i64 0,.string ⟨#[]⟩,.slice none 0 0,.slice none 0 0]),6,80):=by kernel_rfl
namespace J
theorem T.At.cells {w:World}{P:Nat→Prop}:∀(t:T) (g o:Nat),t.At w P g o→∃cs,t.Cells w P cs∧cs.length=t.length*6∧(∀u∈cs,u.oneCell'=true)∧∀j u,cs[j]? =some u→w.cell? ⟨g,o+j,none⟩=some u
 | .nil,_,_,_=>⟨[],rfl,rfl,(by intro _ h;cases h),(by intro _ _ h;simp at h)⟩
 | .cons k b n s l ns r,g,o,⟨_,h0,h1,h2,h3,⟨v,h4,hv⟩,⟨u,h5,hu⟩,hr⟩=>by
   obtain ⟨cs,c1,c2,c3,c4⟩:=T.At.cells r g (o+6) hr;obtain ⟨a1,q1,rfl⟩:∃a q,v= .slice a l.length q:=by
     rcases hv with ⟨rfl,a,c,rfl,_⟩|⟨g',o',c,rfl,_⟩
     · exact ⟨a,c,rfl⟩
     · exact ⟨_,c,rfl⟩
   obtain ⟨a2,q2,rfl⟩:=hu.shape;refine ⟨.int .u8 k:: .bool b:: .int .i64 n:: .string s:: .slice a1 l.length q1:: .slice a2 ns.length q2::cs,⟨_,_,cs,rfl,?_,hu,c1⟩,by simp [T.length,c2];omega,?_,?_⟩
   · rcases hv with hv|⟨g',o',c,hv,h6,h7,h8⟩
     · exact Or.inl hv
     · exact Or.inr ⟨g',o',c,hv,h6,h7,h8⟩
   · intro x hx;simp only [List.mem_cons] at hx;rcases hx with rfl|rfl|rfl|rfl|rfl|rfl|hx
     · rfl
     · rfl
     · rfl
     · rfl
     · rfl
     · rfl
     · exact c3 x hx
   · intro j x hj;match j,hj with
     | 0,hj=>cases hj;exact h0
     | 1,hj=>cases hj;exact h1
     | 2,hj=>cases hj;exact h2
     | 3,hj=>cases hj;exact h3
     | 4,hj=>cases hj;exact h4
     | 5,hj=>cases hj;exact h5
     | j+6,hj=>
       have:=c4 j x (by simpa using hj);rw [show o+(j+6)=o+6+j by omega];exact this
theorem T.Cells.len {w:World}{P:Nat→Prop}:∀(t:T) (cs:List Value),t.Cells w P cs→cs.length=t.length*6
 | .nil,cs,h=>by rw [show cs= [] from h];rfl
 | .cons _ _ _ _ _ _ r,_,⟨lv,nv,cs',he,_,_,hr⟩=>by
   subst he
   have:=T.Cells.len r cs' hr
   simp [T.length,this];omega
end J
theorem cloneS_any {P:Nat→Prop}{ns:List ByteArray}{nv:Value}{w:World}(h:J.SIn w P ns nv) (hl:ns.length≤1000000000000):
   Calls Tryz.prog 161 #[nv] w fun e w'=> ∃v',e= .returned v'∧w'.ownsRow w.heap.size 9 1 v' ns.length (ns.map Value.string)∧Below w.heap.size w w':=by
 rcases h with ⟨rfl,a,c,rfl,hc⟩|⟨h0,b,o,c,rfl,hb,hc,ha⟩
 · cases a with
   | none=>
     refine (Tryz.slices_Clone_string_nil 0 c w).mono ?_;rintro e w' ⟨rfl,hw⟩;rw [hw];exact ⟨_,rfl,World.ownsRow_nil _ _ _ _,Below.refl _ _⟩
   | some a=>
     refine (Tryz.slices_Clone_string_zero a c w).mono ?_;rintro e w' ⟨v',rfl,h1,_,h2⟩;exact ⟨v',rfl,h1,h2⟩
 · refine (Tryz.slices_Clone_string b o ns.length c ns w (Nat.le_refl _) (by omega) (fun j hj=> ?_)).mono ?_
   · have:=ha j ns[j] (List.getElem?_eq_getElem hj);rw [this];simp [List.getD,List.getElem?_eq_getElem hj]
   · rintro e w' ⟨v',rfl,h1,_,h2⟩;rw [List.take_of_length_le (Nat.le_refl _)] at h1;exact ⟨v',rfl,h1,h2⟩
theorem cloneL_any {P:Nat→Prop}{t:J.T}{lv:Value}{w:World}(h:t.In w P lv) (hl:t.length≤1000000000000):
   Calls Tryz.prog 162 #[lv] w fun e w'=> ∃v' cs,e= .returned v'∧w'.ownsRow w.heap.size 26 6 v' t.length cs∧t.Cells w P cs∧Below w.heap.size w w':=by
 obtain ⟨i0,hi,hz0,hz1,hz2⟩:=info_parts infoJSON4;by_cases hnil:∃c,lv= .slice none t.length c
 · obtain ⟨c,rfl⟩:=hnil;have h0:t= .nil∧c=0:=by
    rcases h with ⟨h,a,c',h1,h2⟩|⟨g,o,c',h1,_⟩
    · simp only [Value.slice.injEq] at h1;obtain ⟨rfl,_,rfl⟩:=h1;exact ⟨h,h2 rfl⟩
    · simp at h1
   obtain ⟨rfl,rfl⟩:=h0;have hE:=fun W=>Lib.run_eql_slice_nil (P:=Tryz.prog) W 22 26 none 0 0 0 0 Tryz.underlying22
   clear h;rw [show (J.T.nil).length=0 from rfl] at*;go_enter Tryz.func162,Tryz.ntmps162;go_wp2_with fail;go_ret;exact ⟨_,[],rfl,World.ownsRow_nil _ _ _ _,rfl,Below.refl _ _⟩
 · have hsome:∃ad c cs,lv= .slice (some ad) t.length c∧t.Cells w P cs∧cs.length=t.length*6∧(∀u∈cs,u.oneCell'=true)∧∀j u,cs[j]? =some u→w.cell? (ad.add j)=some u:=by
    rcases h with ⟨rfl,a,c,rfl,_⟩|⟨g,o,c,rfl,_,_,hat⟩
    · cases a with
      | none=>exact absurd ⟨c,rfl⟩ hnil
      | some a=>exact ⟨a,c,[],rfl,rfl,rfl,(fun _ h=>by cases h),fun j u hj=>by simp at hj⟩
    · obtain ⟨cs,c1,c2,c3,c4⟩:=J.T.At.cells t g o hat;refine ⟨⟨g,o,none⟩,c,cs,rfl,c1,c2,c3,fun j u hj=> ?_⟩;have e:(⟨g,o,none⟩:Addr).add j=⟨g,o+j,none⟩:=by cases j<;>simp [Addr.add]
      rw [e];exact c4 j u hj
   obtain ⟨ad,c,cs,rfl,hcs,hlen,hone,hcell⟩:=hsome;obtain ⟨n,hn⟩:∃n,t.length=n:=⟨_,rfl⟩;rw [hn] at hl hlen ⊢;have hE:=fun W=>Lib.run_eql_slice_nil (P:=Tryz.prog) W 22 26 (some ad) n c 0 0 Tryz.underlying22
   have hlt:∀j u,cs[j]? =some u→(w.alloc (.cells #[] 26)).cell? (ad.add j)=some u:=fun j u hj=>by
    have h:=hcell j u hj;rw [((Below.refl w.heap.size w).alloc (Nat.le_refl _) (.cells #[] 26)).cell (p:=ad.add j) (Lib.lt_of_cell h)];exact h
   have hown:World.ownsRow (w.alloc (.cells #[] 26)) w.heap.size 26 6 (.slice (some ⟨w.heap.size,0,none⟩) 0 0) 0 []:=
    ⟨rfl,Or.inr ⟨w.heap.size,0,#[],rfl,Nat.le_refl _,heap_alloc_new w _,Nat.le_refl _,by decide,rfl,rfl⟩⟩
   have HL:=hid hlt;have HO:=hid hown;have HL2:=hid hlen;have H1:=hid hone;have HC:=hid hcs;clear hlt hown hlen hone hcell hnil hcs h hn;go_enter Tryz.func162,Tryz.ntmps162;go_wp2_with (at_builtin;refine wpList_append_own _ rfl _ _ 22 rfl w.heap.size 26 i0 _ 6 80 Tryz.underlying22 hi hz0 hz1 hz2 rfl (by decide) (.slice (some ⟨w.heap.size,0,none⟩) 0 0) 0 [] rfl HO.out ad n c cs rfl HL2.out HL.out H1.out (by unfold maxLen;omega) (by omega) (by simp) ?_);intro v' w1 hown1 hgrow _;have HV:Hid (w1.ownsRow w.heap.size 26 6 v' n cs):=by
    show World.ownsRow _ _ _ _ _ _ _;exact hown1
   have HB:=hid (((Below.refl w.heap.size w).alloc (Nat.le_refl _) (.cells #[] 26)).grown hgrow (by simp) (fun q hq=>by simp [Value.ownBlock] at hq;omega));clear hown1 hgrow;go_wp2_with fail;go_ret;exact ⟨_,cs,rfl,HV.out,HC.out,HB.out⟩
end Go.Proofs.YtohkomndapngjaaGreatDoor

