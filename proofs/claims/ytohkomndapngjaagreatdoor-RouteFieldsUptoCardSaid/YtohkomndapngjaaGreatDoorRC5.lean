/- The reader's escaped. -/
import Derived.Test.YtohkomndapngjaaGreatDoorRC4
import Derived.Test.YtohkomndapngjaaGreatDoorRC2
import Derived.Test.YtohkomndapngjaaGreatDoorRC1
import Derived.Test.YtohkomndapngjaaGreatDoorRC3
import Derived.Laws.RangeAny
import Derived.Lib.TrimAscii
import Derived.ProofKit
import Derived.BigQuiet
namespace Go.Proofs.YtohkomndapngjaaGreatDoor
set_option maxRecDepth 100000
set_option maxHeartbeats 16000000
open Go.RowKit
open Go.Lib (hid)
def EscOf (w:World) (R:Nat) (s:ByteArray) (B b:Nat) (l:List UInt8) (x:J.Res (List UInt8)) (en:Ending) (W:World):Prop:=
 (∃u r,x= .ok (u,r)∧en= .returned (.bool true)∧Rdr w R s (s.size-r.length) 0 0 W∧Holds B b (l++u) W)∨(∃n er q,x= .error (n,er)∧q≤s.size∧en= .returned (.bool false)∧Rdr w R s q er ((s.size-n:Nat):Int) W)
theorem escaped_u {w:World}{G B R b p:Nat}{s:ByteArray}{l:List UInt8}{W:World}(h:Rdr w R s p 0 0 W) (hB:Holds B b l W) (hwB:w.heap.size≤B) (hl:l.length≤100000000000000) (hp:p<s.size) (hs:s.size≤100000000000000) (hG:Ground G w) (hBR:G≤R) (hc:s[p]=92) (HS:Hid (∀c r,s.data.toList.drop (p+1)=c::r→J.sign c=none)):
   Calls Tryz.prog 197 #[.pointer (some ⟨R,0,none⟩),.pointer (some ⟨b,0,none⟩)] W (EscOf w R s B b l (J.esc (s.data.toList.drop p))):=by
 have HR:=hid h;have HB:=hid hB;obtain ⟨RES,hRES⟩:∃x,J.esc (s.data.toList.drop p)=x:=⟨_,rfl⟩;rw [hRES];obtain ⟨c0,c1, -, -⟩:=h.cells;obtain ⟨q,hq⟩:∃q,p+1=q:=⟨_,rfl⟩;have e1:(p:Int)+1=(q:Int):=by omega
 have e2:IntKind.i64.wrap (q:Int)=(q:Int):=by rw [IntKind.wrap_i64];omega
 have q0:(0:Int)≤(q:Int):=by omega
 have q1:(q:Int)≤(s.size:Int):=by omega
 have hdp:s.data.toList.drop p=92::s.data.toList.drop q:=by rw [drop_at hp,hc,hq]
 obtain ⟨t,ht⟩:∃t,s.extract q s.size=t:=⟨_,rfl⟩;have htl:t.data.toList=s.data.toList.drop q:=by rw [←ht,Lib.extract_to_end]
 rw [hq] at HS;have hE:=J.esc_u hdp HS.out;rw [hRES] at hE;obtain ⟨U,hU⟩:∃U,J.u6 (s.data.toList.drop p)=U:=⟨_,rfl⟩;obtain ⟨L,hL⟩:∃L,J.u6 (s.data.toList.drop (p+6))=L:=⟨_,rfl⟩;obtain ⟨p6,hp6⟩:∃p6,p+6=p6:=⟨_,rfl⟩;obtain ⟨p12,hp12⟩:∃p12,p+12=p12:=⟨_,rfl⟩;have e6:(p:Int)+6=(p6:Int):=by omega
 have e12:(p:Int)+12=(p12:Int):=by omega
 have w6:IntKind.i64.wrap (p6:Int)=(p6:Int):=by rw [IntKind.wrap_i64];omega
 have w12:IntKind.i64.wrap (p12:Int)=(p12:Int):=by rw [IntKind.wrap_i64];omega
 rw [List.drop_drop,List.drop_drop,hU,hL] at hE;have hUr:=J.u6_lt (s.data.toList.drop p);rw [hU] at hUr;have hLr:=J.u6_lt (s.data.toList.drop (p+6));rw [hL] at hLr;have HUU:Hid (0≤U→p6≤s.size):=fun h=>by
   rcases Nat.lt_or_ge (s.data.toList.drop p).length 6 with h6|h6
   · have:=J.u6_short h6;omega
   · rw [drop_len] at h6;omega
 have HLL:Hid (56320≤L→p+12≤s.size):=fun h=>by
   rcases Nat.lt_or_ge (s.data.toList.drop (p+6)).length 6 with h6|h6
   · have:=J.u6_short h6;omega
   · rw [drop_len] at h6;omega
 rw [hp6] at hL hE;have HE:=hid hE;have HU:=hid hU;have HL:=hid hL;have HP6:=hid hp6;have HP12:=hid hp12;clear hU hL hp6 hp12 hE hRES h hB;by_cases hqe:q=s.size
 · have t0:(t.toList.isEmpty)=true:=by
     rw [Lib.toList_data,htl,drop_end (by omega)];rfl
   clear HS hdp htl hc hqe hq;go_enter Tryz.func197,Tryz.ntmps197;go_wp2_with fail;go_quiet (fail);have HR0:=hid (HR.out.drewN nq);have HB0:=hid (HB.out.after (below_drewN (Below.refl _ _) nq));clear HR HB c0 c1;have HR:=HR0;have HB:=HB0;clear HR0 HB0;generalize World.drewN W nq=w0 at*;obtain ⟨c0,c1, -, -⟩:=HR.out.cells;go_wp2_with fail;refine (unit_any p HR.out (by omega) (by omega) hG hBR).mono ?_;rintro en w1 ⟨rfl,hb⟩;rw [HU.out];have HR1:=hid (HR.out.below hb);have HB1:=hid (HB.out.after hb);clear hb HR HB c0 c1;obtain ⟨d0,d1, -, -⟩:=HR1.out.cells;obtain ⟨-,g1, -, -⟩:=HR1.out.free;rcases hUr with rfl|⟨hU0,hU1⟩
   · have F1:(decide ((55296:Int)≤ -1)&&decide ((-1:Int)<55296+1024))=false:=rfl;have F2:(decide ((56320:Int)≤ -1)&&decide ((-1:Int)<56320+1024))=false:=rfl;have HX:Hid (RES= .error ((s.data.toList.drop p).length,4)):=by
       show _=_;rw [HE.out];rfl
     clear HE;go_wp2_with fail;refine (half_any (-1) 55296 _ (by decide) (by decide)).mono ?_;rintro en w2 ⟨rfl,hw⟩;rw [hw,F1];clear hw;go_wp2_with fail;refine (half_any (-1) 56320 _ (by decide) (by decide)).mono ?_;rintro en w2 ⟨rfl,hw⟩;rw [hw,F2];clear hw;go_wp2_with fail;refine (bad0 HR1.out).mono ?_;rintro en w3 ⟨rfl,hr⟩;have H3:=hid hr;clear hr;go_wp2_with fail;go_ret;exact Or.inr ⟨_,4,p,HX.out,by omega,rfl,by rw [drop_len,show s.size-(s.size-p)=p by omega];exact H3.out⟩
   by_cases h1:55296≤U∧U≤56319
   · have F1:(decide ((55296:Int)≤U)&&decide (U<55296+1024))=true:=by rw [Bool.and_eq_true,decide_eq_true_iff,decide_eq_true_iff];omega
     by_cases hL:56320≤L∧L≤57343
     · have F3:(decide ((56320:Int)≤L)&&decide (L<56320+1024))=true:=by rw [Bool.and_eq_true,decide_eq_true_iff,decide_eq_true_iff];omega
       have hok:=J.ok_pair h1 hL;obtain ⟨V,hV⟩:∃V:Int,65536+(U-55296)*1024+L-56320=V:=⟨_,rfl⟩;rw [hV] at hok;have HX:Hid (RES= .ok (Go.Proofs.YtohkomndapngjaaGreatDoor.W.charL V,s.data.toList.drop (p+12))):=by
        show _=_;rw [HE.out];unfold J.escU;rw [if_neg (by omega),if_pos h1,if_pos hL,hV]
       obtain ⟨L0,L1⟩:=hL;obtain ⟨U0,U1⟩:=h1;have HV:=hid hV;have HOK:=hid hok;have hp12:p+12≤s.size:=by
        have h12:=HLL.out L0;omega
       have eV:(U-55296)*1024+(L-56320)+65536=V:=by omega
       have V0:0≤V:=by omega
       have V1:V≤1114111:=by omega
       have hlt:decide (V<0)=false:=by simp;omega
       clear HE hV hok;go_wp2_with fail;refine (half_any U 55296 _ (by decide) (by decide)).mono ?_;rintro en w2 ⟨rfl,hw⟩;rw [hw,F1];clear hw;go_wp2_with fail;refine (unit_any p6 HR1.out (by omega) (by omega) hG hBR).mono ?_;rintro en w2 ⟨rfl,hb⟩;rw [HL.out];have HR2:=hid (HR1.out.below hb);have HB2:=hid (HB1.out.after hb);clear hb HR1 HB1 d0 d1 g1;have HR1:=HR2;have HB1:=HB2;clear HR2 HB2;obtain ⟨d0,d1, -, -⟩:=HR1.out.cells;obtain ⟨-,g1, -, -⟩:=HR1.out.free;go_wp2_with fail;refine (half_any U 55296 _ (by decide) (by decide)).mono ?_;rintro en w2 ⟨rfl,hw⟩;rw [hw,F1];clear hw;go_wp2_with fail;refine (half_any L 56320 _ (by decide) (by decide)).mono ?_;rintro en w2 ⟨rfl,hw⟩;rw [hw,F3];clear hw;go_wp2_with fail;refine (writeRune_any B b l V HOK.out _ HB1.out (by omega) HB1.out.bw).mono ?_;rintro en w3 ⟨⟨z,rfl⟩,hh,hb,hk⟩;have HR3:=hid (HR1.out.under hb hwB);have HB3:=hid hh;clear hh hb hk HR1 HB1 d0 d1 g1;obtain ⟨d0,d1, -, -⟩:=HR3.out.cells;obtain ⟨-,g1, -, -⟩:=HR3.out.free;go_wp2_with fail;go_ret;have HS:=HR3.out.set1 p12;refine Or.inl ⟨_,_,HX.out,rfl,?_,HB3.out.grown (grownBy_set _ _ _ _) (by have:=HR3.out.lt;omega)⟩;rw [drop_len,show s.size-(s.size-(p+12))=p12 by omega];exact HS
     · have F3:(decide ((56320:Int)≤L)&&decide (L<56320+1024))=false:=by rw [Bool.eq_false_iff,ne_eq,Bool.and_eq_true,decide_eq_true_iff,decide_eq_true_iff];omega
       have HX:Hid (RES= .error ((s.data.toList.drop p).length,4)):=by
        show _=_;rw [HE.out];unfold J.escU;rw [if_neg (by omega),if_pos h1,if_neg hL]
       clear HE;go_wp2_with fail;refine (half_any U 55296 _ (by decide) (by decide)).mono ?_;rintro en w2 ⟨rfl,hw⟩;rw [hw,F1];clear hw;go_wp2_with fail;refine (unit_any p6 HR1.out (by omega) (by omega) hG hBR).mono ?_;rintro en w2 ⟨rfl,hb⟩;rw [HL.out];have HR2:=hid (HR1.out.below hb);have HB2:=hid (HB1.out.after hb);clear hb HR1 HB1 d0 d1 g1;have HR1:=HR2;have HB1:=HB2;clear HR2 HB2;obtain ⟨d0,d1, -, -⟩:=HR1.out.cells;obtain ⟨-,g1, -, -⟩:=HR1.out.free;go_wp2_with fail;refine (half_any U 55296 _ (by decide) (by decide)).mono ?_;rintro en w2 ⟨rfl,hw⟩;rw [hw,F1];clear hw;go_wp2_with fail;refine (half_any L 56320 _ (by decide) (by decide)).mono ?_;rintro en w2 ⟨rfl,hw⟩;rw [hw,F3];clear hw;go_wp2_with fail;refine (bad0 HR1.out).mono ?_;rintro en w3 ⟨rfl,hr⟩;have H3:=hid hr;clear hr;go_wp2_with fail;go_ret;exact Or.inr ⟨_,4,p,HX.out,by omega,rfl,by rw [drop_len,show s.size-(s.size-p)=p by omega];exact H3.out⟩
   · have F1:(decide ((55296:Int)≤U)&&decide (U<55296+1024))=false:=by rw [Bool.eq_false_iff,ne_eq,Bool.and_eq_true,decide_eq_true_iff,decide_eq_true_iff];omega
     by_cases h2:56320≤U∧U≤57343
     · have F2:(decide ((56320:Int)≤U)&&decide (U<56320+1024))=true:=by rw [Bool.and_eq_true,decide_eq_true_iff,decide_eq_true_iff];omega
       have HX:Hid (RES= .error ((s.data.toList.drop p).length,4)):=by
        show _=_;rw [HE.out];unfold J.escU;rw [if_neg (by omega),if_neg h1,if_pos h2]
       clear HE;go_wp2_with fail;refine (half_any U 55296 _ (by decide) (by decide)).mono ?_;rintro en w2 ⟨rfl,hw⟩;rw [hw,F1];clear hw;go_wp2_with fail;refine (half_any U 56320 _ (by decide) (by decide)).mono ?_;rintro en w2 ⟨rfl,hw⟩;rw [hw,F2];clear hw;go_wp2_with fail;refine (unit_any p6 HR1.out (by omega) (by omega) hG hBR).mono ?_;rintro en w2 ⟨rfl,hb⟩;rw [HL.out];have HR2:=hid (HR1.out.below hb);have HB2:=hid (HB1.out.after hb);clear hb HR1 HB1 d0 d1 g1;have HR1:=HR2;have HB1:=HB2;clear HR2 HB2;obtain ⟨d0,d1, -, -⟩:=HR1.out.cells;obtain ⟨-,g1, -, -⟩:=HR1.out.free;go_wp2_with fail;refine (half_any U 55296 _ (by decide) (by decide)).mono ?_;rintro en w2 ⟨rfl,hw⟩;rw [hw,F1];clear hw;go_wp2_with fail;refine (bad0 HR1.out).mono ?_;rintro en w3 ⟨rfl,hr⟩;have H3:=hid hr;clear hr;go_wp2_with fail;go_ret;exact Or.inr ⟨_,4,p,HX.out,by omega,rfl,by rw [drop_len,show s.size-(s.size-p)=p by omega];exact H3.out⟩
     · have F2:(decide ((56320:Int)≤U)&&decide (U<56320+1024))=false:=by rw [Bool.eq_false_iff,ne_eq,Bool.and_eq_true,decide_eq_true_iff,decide_eq_true_iff];omega
       have HX:Hid (RES= .ok (Go.Proofs.YtohkomndapngjaaGreatDoor.W.charL U,s.data.toList.drop p6)):=by
        show _=_;rw [HE.out];unfold J.escU;rw [if_neg (by omega),if_neg h1,if_neg h2]
       have HOK:Hid (Go.Proofs.YtohkomndapngjaaGreatDoor.W.charOk U=true):=by
        show _=_;simp only [Go.Proofs.YtohkomndapngjaaGreatDoor.W.charOk,Bool.or_eq_true,decide_eq_true_eq];omega
       have hlt:decide (U<0)=false:=by simp;omega
       have hp6:p6≤s.size:=HUU.out hU0;clear HE h1 h2;go_wp2_with fail;refine (half_any U 55296 _ (by decide) (by decide)).mono ?_;rintro en w2 ⟨rfl,hw⟩;rw [hw,F1];clear hw;go_wp2_with fail;refine (half_any U 56320 _ (by decide) (by decide)).mono ?_;rintro en w2 ⟨rfl,hw⟩;rw [hw,F2];clear hw;go_wp2_with fail;refine (writeRune_any B b l U HOK.out _ HB1.out (by omega) HB1.out.bw).mono ?_;rintro en w3 ⟨⟨z,rfl⟩,hh,hb,hk⟩;have HR3:=hid (HR1.out.under hb hwB);have HB3:=hid hh;clear hh hb hk HR1 HB1 d0 d1 g1;obtain ⟨d0,d1, -, -⟩:=HR3.out.cells;obtain ⟨-,g1, -, -⟩:=HR3.out.free;go_wp2_with fail;go_ret;have HS:=HR3.out.set1 p6;refine Or.inl ⟨_,_,HX.out,rfl,?_,HB3.out.grown (grownBy_set _ _ _ _) (by have:=HR3.out.lt;omega)⟩;rw [drop_len,show s.size-(s.size-p6)=p6 by omega];exact HS
 · have hqs:q<s.size:=by omega
   have hd2:=drop_at hqs;have h0:0<t.size:=by rw [Lib.size_eq,htl,drop_len];omega
   have h0':(0:Int)<(t.size:Int):=by omega
   have t0:(t.toList.isEmpty)=false:=by
     rw [Lib.toList_data,htl,hd2];rfl
   have hx:t[0]=s[q]:=by
     have h1:=Lib.data_getElem? t 0 h0;rw [htl,hd2] at h1;exact (Option.some.inj h1).symm
   have hsg:=J.sign_none (HS.out _ _ (by rw [hd2]));have cI:=fun X=>Tryz.strings_IndexByte ⟨#[34,92,47,98,102,110,114,116]⟩ (t[0].toNat:Int) X
   have e4:((t[0].toNat:Int)).toNat.toUInt8=s[q]:=by rw [hx];simp
   rw [e4,show (⟨#[34,92,47,98,102,110,114,116]⟩:ByteArray).data.toList= [34,92,47,98,102,110,114,116] from rfl,hsg] at cI;clear HS hdp htl hc hqe hq hd2 hx hsg e4;go_enter Tryz.func197,Tryz.ntmps197;go_wp2_with fail;go_quiet (fail);have HR0:=hid (HR.out.drewN nq);have HB0:=hid (HB.out.after (below_drewN (Below.refl _ _) nq));clear HR HB c0 c1;have HR:=HR0;have HB:=HB0;clear HR0 HB0;generalize World.drewN W nq=w0 at*;obtain ⟨c0,c1, -, -⟩:=HR.out.cells;go_wp2_with fail;refine (cI _).mono ?_;rintro en w' ⟨rfl,hw⟩;rw [hw];clear hw;go_wp2_with fail;refine (unit_any p HR.out (by omega) (by omega) hG hBR).mono ?_;rintro en w1 ⟨rfl,hb⟩;rw [HU.out];have HR1:=hid (HR.out.below hb);have HB1:=hid (HB.out.after hb);clear hb HR HB c0 c1;obtain ⟨d0,d1, -, -⟩:=HR1.out.cells;obtain ⟨-,g1, -, -⟩:=HR1.out.free;rcases hUr with rfl|⟨hU0,hU1⟩
   · have F1:(decide ((55296:Int)≤ -1)&&decide ((-1:Int)<55296+1024))=false:=rfl;have F2:(decide ((56320:Int)≤ -1)&&decide ((-1:Int)<56320+1024))=false:=rfl;have HX:Hid (RES= .error ((s.data.toList.drop p).length,4)):=by
       show _=_;rw [HE.out];rfl
     clear HE;go_wp2_with fail;refine (half_any (-1) 55296 _ (by decide) (by decide)).mono ?_;rintro en w2 ⟨rfl,hw⟩;rw [hw,F1];clear hw;go_wp2_with fail;refine (half_any (-1) 56320 _ (by decide) (by decide)).mono ?_;rintro en w2 ⟨rfl,hw⟩;rw [hw,F2];clear hw;go_wp2_with fail;refine (bad0 HR1.out).mono ?_;rintro en w3 ⟨rfl,hr⟩;have H3:=hid hr;clear hr;go_wp2_with fail;go_ret;exact Or.inr ⟨_,4,p,HX.out,by omega,rfl,by rw [drop_len,show s.size-(s.size-p)=p by omega];exact H3.out⟩
   by_cases h1:55296≤U∧U≤56319
   · have F1:(decide ((55296:Int)≤U)&&decide (U<55296+1024))=true:=by rw [Bool.and_eq_true,decide_eq_true_iff,decide_eq_true_iff];omega
     by_cases hL:56320≤L∧L≤57343
     · have F3:(decide ((56320:Int)≤L)&&decide (L<56320+1024))=true:=by rw [Bool.and_eq_true,decide_eq_true_iff,decide_eq_true_iff];omega
       have hok:=J.ok_pair h1 hL;obtain ⟨V,hV⟩:∃V:Int,65536+(U-55296)*1024+L-56320=V:=⟨_,rfl⟩;rw [hV] at hok;have HX:Hid (RES= .ok (Go.Proofs.YtohkomndapngjaaGreatDoor.W.charL V,s.data.toList.drop (p+12))):=by
        show _=_;rw [HE.out];unfold J.escU;rw [if_neg (by omega),if_pos h1,if_pos hL,hV]
       obtain ⟨L0,L1⟩:=hL;obtain ⟨U0,U1⟩:=h1;have HV:=hid hV;have HOK:=hid hok;have hp12:p+12≤s.size:=by
        have h12:=HLL.out L0;omega
       have eV:(U-55296)*1024+(L-56320)+65536=V:=by omega
       have V0:0≤V:=by omega
       have V1:V≤1114111:=by omega
       have hlt:decide (V<0)=false:=by simp;omega
       clear HE hV hok;go_wp2_with fail;refine (half_any U 55296 _ (by decide) (by decide)).mono ?_;rintro en w2 ⟨rfl,hw⟩;rw [hw,F1];clear hw;go_wp2_with fail;refine (unit_any p6 HR1.out (by omega) (by omega) hG hBR).mono ?_;rintro en w2 ⟨rfl,hb⟩;rw [HL.out];have HR2:=hid (HR1.out.below hb);have HB2:=hid (HB1.out.after hb);clear hb HR1 HB1 d0 d1 g1;have HR1:=HR2;have HB1:=HB2;clear HR2 HB2;obtain ⟨d0,d1, -, -⟩:=HR1.out.cells;obtain ⟨-,g1, -, -⟩:=HR1.out.free;go_wp2_with fail;refine (half_any U 55296 _ (by decide) (by decide)).mono ?_;rintro en w2 ⟨rfl,hw⟩;rw [hw,F1];clear hw;go_wp2_with fail;refine (half_any L 56320 _ (by decide) (by decide)).mono ?_;rintro en w2 ⟨rfl,hw⟩;rw [hw,F3];clear hw;go_wp2_with fail;refine (writeRune_any B b l V HOK.out _ HB1.out (by omega) HB1.out.bw).mono ?_;rintro en w3 ⟨⟨z,rfl⟩,hh,hb,hk⟩;have HR3:=hid (HR1.out.under hb hwB);have HB3:=hid hh;clear hh hb hk HR1 HB1 d0 d1 g1;obtain ⟨d0,d1, -, -⟩:=HR3.out.cells;obtain ⟨-,g1, -, -⟩:=HR3.out.free;go_wp2_with fail;go_ret;have HS:=HR3.out.set1 p12;refine Or.inl ⟨_,_,HX.out,rfl,?_,HB3.out.grown (grownBy_set _ _ _ _) (by have:=HR3.out.lt;omega)⟩;rw [drop_len,show s.size-(s.size-(p+12))=p12 by omega];exact HS
     · have F3:(decide ((56320:Int)≤L)&&decide (L<56320+1024))=false:=by rw [Bool.eq_false_iff,ne_eq,Bool.and_eq_true,decide_eq_true_iff,decide_eq_true_iff];omega
       have HX:Hid (RES= .error ((s.data.toList.drop p).length,4)):=by
        show _=_;rw [HE.out];unfold J.escU;rw [if_neg (by omega),if_pos h1,if_neg hL]
       clear HE;go_wp2_with fail;refine (half_any U 55296 _ (by decide) (by decide)).mono ?_;rintro en w2 ⟨rfl,hw⟩;rw [hw,F1];clear hw;go_wp2_with fail;refine (unit_any p6 HR1.out (by omega) (by omega) hG hBR).mono ?_;rintro en w2 ⟨rfl,hb⟩;rw [HL.out];have HR2:=hid (HR1.out.below hb);have HB2:=hid (HB1.out.after hb);clear hb HR1 HB1 d0 d1 g1;have HR1:=HR2;have HB1:=HB2;clear HR2 HB2;obtain ⟨d0,d1, -, -⟩:=HR1.out.cells;obtain ⟨-,g1, -, -⟩:=HR1.out.free;go_wp2_with fail;refine (half_any U 55296 _ (by decide) (by decide)).mono ?_;rintro en w2 ⟨rfl,hw⟩;rw [hw,F1];clear hw;go_wp2_with fail;refine (half_any L 56320 _ (by decide) (by decide)).mono ?_;rintro en w2 ⟨rfl,hw⟩;rw [hw,F3];clear hw;go_wp2_with fail;refine (bad0 HR1.out).mono ?_;rintro en w3 ⟨rfl,hr⟩;have H3:=hid hr;clear hr;go_wp2_with fail;go_ret;exact Or.inr ⟨_,4,p,HX.out,by omega,rfl,by rw [drop_len,show s.size-(s.size-p)=p by omega];exact H3.out⟩
   · have F1:(decide ((55296:Int)≤U)&&decide (U<55296+1024))=false:=by rw [Bool.eq_false_iff,ne_eq,Bool.and_eq_true,decide_eq_true_iff,decide_eq_true_iff];omega
     by_cases h2:56320≤U∧U≤57343
     · have F2:(decide ((56320:Int)≤U)&&decide (U<56320+1024))=true:=by rw [Bool.and_eq_true,decide_eq_true_iff,decide_eq_true_iff];omega
       have HX:Hid (RES= .error ((s.data.toList.drop p).length,4)):=by
        show _=_;rw [HE.out];unfold J.escU;rw [if_neg (by omega),if_neg h1,if_pos h2]
       clear HE;go_wp2_with fail;refine (half_any U 55296 _ (by decide) (by decide)).mono ?_;rintro en w2 ⟨rfl,hw⟩;rw [hw,F1];clear hw;go_wp2_with fail;refine (half_any U 56320 _ (by decide) (by decide)).mono ?_;rintro en w2 ⟨rfl,hw⟩;rw [hw,F2];clear hw;go_wp2_with fail;refine (unit_any p6 HR1.out (by omega) (by omega) hG hBR).mono ?_;rintro en w2 ⟨rfl,hb⟩;rw [HL.out];have HR2:=hid (HR1.out.below hb);have HB2:=hid (HB1.out.after hb);clear hb HR1 HB1 d0 d1 g1;have HR1:=HR2;have HB1:=HB2;clear HR2 HB2;obtain ⟨d0,d1, -, -⟩:=HR1.out.cells;obtain ⟨-,g1, -, -⟩:=HR1.out.free;go_wp2_with fail;refine (half_any U 55296 _ (by decide) (by decide)).mono ?_;rintro en w2 ⟨rfl,hw⟩;rw [hw,F1];clear hw;go_wp2_with fail;refine (bad0 HR1.out).mono ?_;rintro en w3 ⟨rfl,hr⟩;have H3:=hid hr;clear hr;go_wp2_with fail;go_ret;exact Or.inr ⟨_,4,p,HX.out,by omega,rfl,by rw [drop_len,show s.size-(s.size-p)=p by omega];exact H3.out⟩
     · have F2:(decide ((56320:Int)≤U)&&decide (U<56320+1024))=false:=by rw [Bool.eq_false_iff,ne_eq,Bool.and_eq_true,decide_eq_true_iff,decide_eq_true_iff];omega
       have HX:Hid (RES= .ok (Go.Proofs.YtohkomndapngjaaGreatDoor.W.charL U,s.data.toList.drop p6)):=by
        show _=_;rw [HE.out];unfold J.escU;rw [if_neg (by omega),if_neg h1,if_neg h2]
       have HOK:Hid (Go.Proofs.YtohkomndapngjaaGreatDoor.W.charOk U=true):=by
        show _=_;simp only [Go.Proofs.YtohkomndapngjaaGreatDoor.W.charOk,Bool.or_eq_true,decide_eq_true_eq];omega
       have hlt:decide (U<0)=false:=by simp;omega
       have hp6:p6≤s.size:=HUU.out hU0;clear HE h1 h2;go_wp2_with fail;refine (half_any U 55296 _ (by decide) (by decide)).mono ?_;rintro en w2 ⟨rfl,hw⟩;rw [hw,F1];clear hw;go_wp2_with fail;refine (half_any U 56320 _ (by decide) (by decide)).mono ?_;rintro en w2 ⟨rfl,hw⟩;rw [hw,F2];clear hw;go_wp2_with fail;refine (writeRune_any B b l U HOK.out _ HB1.out (by omega) HB1.out.bw).mono ?_;rintro en w3 ⟨⟨z,rfl⟩,hh,hb,hk⟩;have HR3:=hid (HR1.out.under hb hwB);have HB3:=hid hh;clear hh hb hk HR1 HB1 d0 d1 g1;obtain ⟨d0,d1, -, -⟩:=HR3.out.cells;obtain ⟨-,g1, -, -⟩:=HR3.out.free;go_wp2_with fail;go_ret;have HS:=HR3.out.set1 p6;refine Or.inl ⟨_,_,HX.out,rfl,?_,HB3.out.grown (grownBy_set _ _ _ _) (by have:=HR3.out.lt;omega)⟩;rw [drop_len,show s.size-(s.size-p6)=p6 by omega];exact HS
theorem escaped_s {w:World}{G B R b p:Nat}{s:ByteArray}{l:List UInt8}{W:World}(h:Rdr w R s p 0 0 W) (hB:Holds B b l W) (hwB:w.heap.size≤B) (hl:l.length≤100000000000000) (hp:p<s.size) (hs:s.size≤100000000000000) (_hG:Ground G w) (_hBR:G≤R) (hc:s[p]=92) {c d:UInt8}{r:List UInt8}(hr:s.data.toList.drop (p+1)=c::r) (hd:J.sign c=some d):
  Calls Tryz.prog 197 #[.pointer (some ⟨R,0,none⟩),.pointer (some ⟨b,0,none⟩)] W (EscOf w R s B b l (J.esc (s.data.toList.drop p))):=by
 have HR:=hid h;have HB:=hid hB;obtain ⟨RES,hRES⟩:∃x,J.esc (s.data.toList.drop p)=x:=⟨_,rfl⟩;rw [hRES];obtain ⟨c0,c1, -, -⟩:=h.cells;obtain ⟨q,hq⟩:∃q,p+1=q:=⟨_,rfl⟩;have e1:(p:Int)+1=(q:Int):=by omega
 have e2:IntKind.i64.wrap (q:Int)=(q:Int):=by rw [IntKind.wrap_i64];omega
 have q0:(0:Int)≤(q:Int):=by omega
 have q1:(q:Int)≤(s.size:Int):=by omega
 have hdp:s.data.toList.drop p=92::s.data.toList.drop q:=by rw [drop_at hp,hc,hq]
 obtain ⟨t,ht⟩:∃t,s.extract q s.size=t:=⟨_,rfl⟩;have htl:t.data.toList=s.data.toList.drop q:=by rw [←ht,Lib.extract_to_end]
 rw [hq] at hr;have hqs:q<s.size:=by
  rcases Nat.lt_or_ge q s.size with h1|h1
  · exact h1
  · rw [drop_end h1] at hr;cases hr
 have HX:Hid (RES= .ok ([d],r)):=by
  show _=_;rw [←hRES,hdp,hr];exact J.esc_sign hd
 have hrl:s.size-r.length=p+2:=by
  have:=congrArg List.length hr;rw [drop_len,List.length_cons] at this;omega
 obtain ⟨p2,hp2⟩:∃p2,p+2=p2:=⟨_,rfl⟩;have e3:(p:Int)+2=(p2:Int):=by omega
 have w3:IntKind.i64.wrap (p2:Int)=(p2:Int):=by rw [IntKind.wrap_i64];omega
 have h0:0<t.size:=by rw [Lib.size_eq,htl,drop_len];omega
 have h0':(0:Int)<(t.size:Int):=by omega
 have t0:(t.toList.isEmpty)=false:=by
  rw [Lib.toList_data,htl,hr];rfl
 have hx:t[0]=c:=by
  have h1:=Lib.data_getElem? t 0 h0;rw [htl,hr] at h1;exact (Option.some.inj h1).symm
 obtain ⟨i,hi8, -,hid8,hix⟩:=J.sign_at hd;have cI:=fun X=>Tryz.strings_IndexByte ⟨#[34,92,47,98,102,110,114,116]⟩ (t[0].toNat:Int) X
 have e4:((t[0].toNat:Int)).toNat.toUInt8=c:=by rw [hx];simp
 rw [e4,show (⟨#[34,92,47,98,102,110,114,116]⟩:ByteArray).data.toList= [34,92,47,98,102,110,114,116] from rfl,hix] at cI;have HRL:=hid hrl;have HP2:=hid hp2;clear hdp htl hc hq hx e4 hr hd hRES hrl hix hp2 h hB;go_enter Tryz.func197,Tryz.ntmps197;go_wp2_with fail;go_quiet (fail);have HR0:=hid (HR.out.drewN nq);have HB0:=hid (HB.out.after (below_drewN (Below.refl _ _) nq));clear HR HB c0 c1;have HR:=HR0;have HB:=HB0;clear HR0 HB0;generalize World.drewN W nq=w0 at*;obtain ⟨c0,c1, -, -⟩:=HR.out.cells;go_wp2_with fail;refine (cI _).mono ?_;rintro en w' ⟨rfl,hw⟩;rw [hw];clear hw cI;have hall:i=0∨i=1∨i=2∨i=3∨i=4∨i=5∨i=6∨i=7:=by omega
 rcases hall with rfl|rfl|rfl|rfl|rfl|rfl|rfl|rfl;all_goals
  obtain rfl:=Option.some.inj hid8;clear hid8 hi8;go_wp2_with fail;refine (writeByte_any B b l _ _ HB.out (by omega) HB.out.bw).mono ?_;rintro en w3 ⟨rfl,hh,hb,hk⟩;have HR3:=hid (HR.out.under hb hwB);have HB3:=hid hh;clear hh hb hk;obtain ⟨d0,d1, -, -⟩:=HR3.out.cells;obtain ⟨-,g1, -, -⟩:=HR3.out.free;go_wp2_with fail;go_ret;have HS:=HR3.out.set1 p2;refine Or.inl ⟨_,_,HX.out,rfl,?_,HB3.out.grown (grownBy_set _ _ _ _) (by have:=HR3.out.lt;omega)⟩;rw [HRL.out,HP2.out];exact HS
theorem escaped_any {w:World}{G B R b p:Nat}{s:ByteArray}{l:List UInt8}{W:World}(h:Rdr w R s p 0 0 W) (hB:Holds B b l W) (hwB:w.heap.size≤B) (hl:l.length≤100000000000000) (hp:p<s.size) (hs:s.size≤100000000000000) (hG:Ground G w) (hBR:G≤R) (hc:s[p]=92):
   Calls Tryz.prog 197 #[.pointer (some ⟨R,0,none⟩),.pointer (some ⟨b,0,none⟩)] W (EscOf w R s B b l (J.esc (s.data.toList.drop p))):=by
 cases hd:s.data.toList.drop (p+1) with
 | nil=>exact escaped_u h hB hwB hl hp hs hG hBR hc (fun c r e=>by rw [hd] at e;cases e)
 | cons c r=>
   cases hs':J.sign c with
   | none=>exact escaped_u h hB hwB hl hp hs hG hBR hc (fun c' r' e=>by rw [hd] at e;cases e;exact hs')
   | some d=>exact escaped_s h hB hwB hl hp hs hG hBR hc hd hs'
namespace J
def pre (acc:List UInt8) (x:Res (List UInt8)):Res (List UInt8):=on (fun t=>acc++t) x
theorem pre_nil (x:Res (List UInt8)):pre [] x=x:=by
 cases x<;>rfl
theorem pre_pre (a b:List UInt8) (x:Res (List UInt8)):pre a (pre b x)=pre (a++b) x:=by
 cases x with
 | error e=>rfl
 | ok p=>show Except.ok (a++(b++p.1),p.2)=Except.ok ((a++b)++p.1,p.2);rw [List.append_assoc]
theorem pre_err (acc:List UInt8) (e:Nat×Int):pre acc (.error e)= .error e:=rfl
theorem pre_ok (acc t r:List UInt8):pre acc (.ok (t,r))= .ok (acc++t,r):=rfl
theorem str_end (f:Nat):str (f+1) []= .error (0,4):=rfl
theorem str_quote (f:Nat) (r:List UInt8):str (f+1) (34::r)= .ok ([],r):=rfl
def strOn (f:Nat):Res (List UInt8)→Res (List UInt8)
 | .error e=> .error e
 | .ok (u,r1)=>pre u (str f r1)
theorem strOn_err (f:Nat) (e:Nat×Int):strOn f (.error e)= .error e:=rfl
theorem strOn_ok (f:Nat) (u r:List UInt8):strOn f (.ok (u,r))=pre u (str f r):=rfl
theorem str_esc (f:Nat) (r:List UInt8):str (f+1) (92::r)=strOn f (esc (92::r)):=by
 show (match esc (92::r) with
     | .error e=> .error e
     | .ok (u,r1)=>match str f r1 with
       | .error e=> .error e
       | .ok (t,r2)=> .ok (u++t,r2):Res (List UInt8))=_
 cases esc (92::r) with
 | error e=>rfl
 | ok p=>
   show _=pre p.1 (str f p.2);simp only;cases str f p.2 with
   | error e=>rfl
   | ok q=>rfl
theorem str_low {c:UInt8}(f:Nat) (r:List UInt8) (h:c.toNat<32):str (f+1) (c::r)= .error (r.length+1,4):=by
 have h1:¬ c=34:=by rintro rfl;exact absurd h (by decide)
 have h2:¬ c=92:=by rintro rfl;exact absurd h (by decide)
 rw [str,if_neg h1,if_neg h2,if_pos h]
theorem str_char {c:UInt8}(f:Nat) (r:List UInt8) (h1:c≠34) (h2:c≠92) (h3:32≤c.toNat) {ch k:Int}(hh:W.headD (c::r)=(ch,k,true)):str (f+1) (c::r)=pre ((c::r).take k.toNat) (str f ((c::r).drop k.toNat)):=by
 rw [str,if_neg h1,if_neg h2,if_neg (by omega),hh];simp only [if_true];cases str f ((c::r).drop k.toNat) with
 | error e=>rfl
 | ok q=>rfl
theorem str_bad {c:UInt8}(f:Nat) (r:List UInt8) (h1:c≠34) (h2:c≠92) (h3:32≤c.toNat) (hh:(W.headD (c::r)).2.2=false):str (f+1) (c::r)= .error (r.length+1,4):=by
 rw [str,if_neg h1,if_neg h2,if_neg (by omega),hh];rfl
theorem esc_less {l u r:List UInt8}(h:esc l= .ok (u,r)):r.length+2≤l.length∧u.length≤4:=by
 unfold esc at h;split at h
 · cases h
 · rename_i c t e;have hl:t.length+2=l.length:=by
     have:=congrArg List.length e;rw [List.length_drop,List.length_cons] at this;omega
   split at h
   · cases h;exact ⟨by omega,by simp⟩
   · split at h
     · split at h
       · rename_i v rest hu;have h1:=(unit_suf hu).length_le;split at h
         · rename_i hok;cases h;refine ⟨by omega,?_⟩;have h0:(0≤v∧v≤55295)∨(57344≤v∧v≤1114111):=by simpa only [W.charOk,Bool.or_eq_true,decide_eq_true_eq] using hok
           by_cases a1:v≤127
           · rw [W.charL_1 v (by omega) a1];simp
           · by_cases a2:v≤2047
             · rw [W.charL_2 v (by omega) a2];simp
             · by_cases a3:v≤65535
               · rw [W.charL_3 v (by omega) a3 hok];simp
               · rw [W.charL_4 v (by omega) (by omega)];simp
         · cases h
       · cases h
     · cases h
theorem dec_cases {c:UInt8}{r:List UInt8}(h1:c≠34) (h2:c≠92) (h3:32≤c.toNat):
   (Lib.decodeL (c::r)=(65533,1)∧(W.headD (c::r)).2.2=false)∨
   (∃ch k:Nat,Lib.decodeL (c::r)=(ch,k)∧W.headD (c::r)=((ch:Int),(k:Int),true)∧32≤ch∧ch≠34∧ch≠92∧(ch=65533→k≠1)∧W.charOk (ch:Int)=true∧W.charL (ch:Int)=(c::r).take k∧1≤k∧k≤4∧k≤(c::r).length∧ch≤1114111):=by
 obtain ⟨d,hd⟩:∃d,Lib.decodeL (c::r)=d:=⟨_,rfl⟩;obtain ⟨ch,k⟩:=d;have hH:W.headD (c::r)=if ch=65533∧k=1 then ((0:Int),(0:Int),false) else ((ch:Int),(k:Int),true):=by unfold W.headD;rw [hd]
 by_cases hb:ch=65533∧k=1
 · left;rw [if_pos hb] at hH;exact ⟨by rw [hd,hb.1,hb.2],by rw [hH]⟩
 · right;rw [if_neg hb] at hH;obtain ⟨g1,g2, -,g4,g5,g6⟩:=W.head_good (c::r) (by simp) _ _ hH;have hc:32≤ch∧ch≠34∧ch≠92:=by
    by_cases ha:c.toNat<128
    · rw [Lib.decodeL_ascii c r ha] at hd;have:c.toNat=ch:=congrArg Prod.fst hd;refine ⟨by omega,fun h=>h1 (UInt8.toNat_inj.1 (show c.toNat=34 by omega)),fun h=>h2 (UInt8.toNat_inj.1 (show c.toNat=92 by omega))⟩
    · have hz:(0:Nat)<(⟨(c::r).toArray⟩:ByteArray).size:=by show 0<(c::r).toArray.size;simp
      have h5:=decode_high ⟨(c::r).toArray⟩ 0 hz (by show 128≤c.toNat;omega);have e:Utf8.decode ⟨(c::r).toArray⟩ 0=(ch,k):=hd;rw [e] at h5;have:=h5.1;simp only at this;omega
   have hr:=Lib.decodeL_rune (c::r);rw [hd] at hr;refine ⟨ch,k,hd,hH,hc.1,hc.2.1,hc.2.2,fun h h'=>hb ⟨h,h'⟩,g1,?_,by omega,by omega,by omega,hr⟩;rw [g2];rfl
end J
theorem quiet_lit {P:Program}{C:World→Prop}{id:Nat}{Q:Exit→Act→World→Prop}{a:Act}{w:World}{l:List Oper}(hm:P.follows .mixedOrders=true) (hB:Region.lexB .any l.toArray=true) (hC:C w.drew)
  (h:wpQuiet P l.toArray C (fun a'=> ∀w',C w'→Q .normal a' w') l a):(Code.region id l.toArray true).wp P Q a w:=
 wp_region_quiet (C:=C) hm hB hC (by simpa using h)
theorem quiet_val {P:Program}{C:World→Prop}{o:Oper}{a:Act}{K:Act→Prop}{x:Value}(h:∀v,C v→(execOp a.eval o).run P v= .ok (.value x) v) (k:K (a.put o.dst x)):o.quiet P a C K:=
 ⟨x,fun v hC=>by unfold Oper.quietAt;rw [h v hC];exact ⟨rfl,rfl⟩,k⟩
theorem quiet_call {P:Program}{C:World→Prop}{o:Oper}{a:Act}{K:Act→Prop}{x:Value}{f:FuncId}{args:Array Value}(h:∀v,C v→(execOp a.eval o).run P v= .ok (.enter f args) v)
  (c:∀v,C v→Calls P f args v fun e w''=>e= .returned x∧C w'') (k:K (a.put o.dst x)):o.quiet P a C K:=
 ⟨x,fun v hC=>by unfold Oper.quietAt;rw [h v hC];exact ⟨rfl,c v hC⟩,k⟩
end Go.Proofs.YtohkomndapngjaaGreatDoor

