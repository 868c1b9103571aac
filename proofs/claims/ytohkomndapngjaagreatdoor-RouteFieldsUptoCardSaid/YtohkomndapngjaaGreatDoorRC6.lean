/- The reader's text. -/
import Derived.Test.YtohkomndapngjaaGreatDoorRC5
import Derived.Test.YtohkomndapngjaaGreatDoorRC1
namespace Go.Proofs.YtohkomndapngjaaGreatDoor
set_option maxRecDepth 100000
set_option maxHeartbeats 16000000
open Go.RowKit
open Go.Lib (hid)
def TextOf (w:World) (R:Nat) (s:ByteArray) (x:J.Res (List UInt8)) (en:Ending) (W:World):Prop:=
 (∃t r,x= .ok (t,r)∧en= .returned (.tuple #[.string ⟨t.toArray⟩,.bool true])∧Rdr w R s (s.size-r.length) 0 0 W)∨(∃n er q,x= .error (n,er)∧q≤s.size∧en= .returned (.tuple #[.string ⟨#[]⟩,.bool false])∧Rdr w R s q er ((s.size-n:Nat):Int) W)
theorem ret_err {w W:World}{R p:Nat}{s:ByteArray}{x:J.Res (List UInt8)}(hx:x= .error (s.size-p,4)) (hp:p≤s.size) (h:Rdr w R s p 4 (p:Int) W):TextOf w R s x (.returned (.tuple #[.string ⟨#[]⟩,.bool false])) W:=
 Or.inr ⟨_,4,p,hx,hp,rfl,by rw [show s.size-(s.size-p)=p by omega];exact h⟩
theorem text_any {w:World}{G R p:Nat}{s:ByteArray}{W:World}(h:Rdr w R s p 0 0 W) (hp:p≤s.size) (hs:s.size≤10000000000000) (hG:Ground G w) (hGR:G≤R):
   Calls Tryz.prog 107 #[.pointer (some ⟨R,0,none⟩)] W (TextOf w R s (J.text (J.skip (s.data.toList.drop p)))):=by
 have HR:=hid h;obtain ⟨RES,hRES⟩:∃x,J.text (J.skip (s.data.toList.drop p))=x:=⟨_,rfl⟩;rw [hRES];rw [←J.nextP_drop] at hRES;have cN:=next_any h hp (by omega);obtain ⟨q,hq⟩:∃q,J.nextP s p=q:=⟨_,rfl⟩;obtain ⟨bt,hbt⟩:∃bt,J.nextB s p=bt:=⟨_,rfl⟩;have hqs:q≤s.size:=by rw [←hq];exact J.nextP_le s p
 have hbl:bt=((s.data.toList.drop q).headD 0).toNat:=by rw [←hbt,←hq,J.nextP_drop];rfl
 rw [hq,hbt] at cN;rw [hq] at hRES;have HQS:=hid hqs;clear h hq hbt;by_cases h34:bt=34
 · subst h34;have hlt:q<s.size:=by
    rcases Nat.lt_or_ge q s.size with h|h
    · exact h
    · rw [drop_end h] at hbl;exact absurd hbl (by decide)
   have hd:=drop_at hlt;have hc:s[q]=34:=by
    rw [hd] at hbl;exact UInt8.toNat_inj.1 hbl.symm
   rw [hc] at hd;obtain ⟨q0,hq0⟩:∃q0,q+1=q0:=⟨_,rfl⟩;rw [hq0] at hd;have HE:Hid (RES=J.str (s.size-q) (s.data.toList.drop q0)):=by
    show _=_;rw [←hRES,hd];show J.str ((s.data.toList.drop q0).length+1) _=_;rw [drop_len,show s.size-q0+1=s.size-q by omega]
   have e1:(q:Int)+1=(q0:Int):=by omega
   have e2:IntKind.i64.wrap (q0:Int)=(q0:Int):=by rw [IntKind.wrap_i64];omega
   have hq0s:q0≤s.size:=by omega
   have HQ0:=hid hq0;have HLT:=hid hlt;clear hbl hd hc hRES hq0 hlt;go_enter Tryz.func107,Tryz.ntmps107;go_wp2_with fail;refine cN.mono ?_;rintro en w1 ⟨rfl,hr⟩;have HR1:=hid hr;clear hr cN HR;obtain ⟨d0,d1, -, -⟩:=HR1.out.cells;obtain ⟨-,g1, -, -⟩:=HR1.out.free;go_wp2_with fail;have HR2:=hid ((HR1.out.set1 q0).alloc (.cells #[.pointer none,.slice none 0 0] 68));have HH2:Hid (Holds w1.heap.size w1.heap.size [] ((w1.setCell ⟨R,1,none⟩ (.int .i64 q0)).alloc (.cells #[.pointer none,.slice none 0 0] 68))):=by
    show Holds _ _ _ _;have:=holds_fresh (w1.setCell ⟨R,1,none⟩ (.int .i64 q0));simpa using this
   have HWB:Hid (w.heap.size≤w1.heap.size):=HR1.out.g.size;obtain ⟨B,hB⟩:∃B,w1.heap.size=B:=⟨_,rfl⟩;rw [hB] at HH2 HWB ⊢;clear HR1 d0 d1 g1 hB;go_loopg [] s.size (fun g wr=> ∃(q:Nat) (acc:List UInt8) (f:Nat),q≤s.size∧s.size-q≤g∧Hid (s.size-q<f∧acc.length≤4*q)∧Hid (RES=J.pre acc (J.str f (s.data.toList.drop q)))∧Hid (Rdr w R s q 0 0 wr∧Holds B B acc wr))
   case atStart=>exact ⟨q0,[],s.size-q,hq0s,by omega,hid ⟨by have:=HQ0.out;have:=HLT.out;omega,Nat.zero_le _⟩,hid (by rw [J.pre_nil];exact HE.out),hid ⟨HR2.out,HH2.out⟩⟩
   case round=>
    obtain ⟨q,acc,f,hqs,hg,HFU,HRES,HI⟩:=hrel;clear HE HR2 HH2 e1 e2 HQ0 HLT hq0s HQS;have HR:=hid HI.out.1;have HH:=hid HI.out.2;clear HI;obtain ⟨c0,c1, -, -⟩:=HR.out.cells;have q0:(0:Int)≤(q:Int):=by omega
    by_cases hlt:q<s.size
    · have t0:decide ((q:Int)<(s.size:Int))=true:=by simp;omega
      have q1:(q:Int)≤(s.size:Int):=by omega
      have hd:=drop_at hlt;obtain ⟨x,hx⟩:∃x,s[q]=x:=⟨_,rfl⟩;rw [hx] at hd;obtain ⟨f,rfl⟩:∃f',f=f'+1:=⟨f-1,by have:=HFU.out.1;omega⟩;have HD:=hid hd;have HLT:=hid hlt;have HEX:=hid (fun (hw:Below G w wr)=>hG.tabs wr hw);have hcD:∀(d:Nat×Nat),Lib.decodeL (s.data.toList.drop q)=d→Hid (∀X,Below G w X→Calls Tryz.prog 196 #[.string (s.extract q s.size)] X fun e w'=>e= .returned (.tuple #[.int .i32 d.1,.int .i64 d.2])∧Below X.heap.size X w'):=by
        intro d hd' X hX;have:=Tryz.utf8_DecodeRuneInString (s.extract q s.size) X (hG.tabs X hX);rw [Go.Proofs.YtohkomndapngjaaGreatDoor.W.decodeGo_drop s q hlt,hd'] at this;exact this
      rw [hd] at hcD;clear hd hx;by_cases x34:x=34
      · subst x34;have HX:Hid (RES= .ok (acc,s.data.toList.drop (q+1))):=by
          show _=_;rw [HRES.out,HD.out,J.str_quote,J.pre_ok,List.append_nil]
        obtain ⟨q',hq'⟩:∃q',q+1=q':=⟨_,rfl⟩;have e1:(q:Int)+1=(q':Int):=by omega
        have e2:IntKind.i64.wrap (q':Int)=(q':Int):=by rw [IntKind.wrap_i64];omega
        have HQ':=hid hq';clear hq' HRES;have HC:=hcD _ (Lib.decodeL_ascii 34 _ (by decide));clear hcD HEX;go_wp2_with fail;go_quiet (fail);have HR1:=hid (HR.out.drewN nq);have HH1:=hid (HH.out.after (below_drewN (Below.refl _ _) nq));clear HR HH c0 c1;generalize World.drewN wr nq=wn at*;obtain ⟨c0,c1, -, -⟩:=HR1.out.cells;go_wp2_with fail;refine quiet_lit (C:=(fun v=>Hid (Rdr w R s q 0 0 v∧Holds B B acc v))) (by kernel_rfl) (by kernel_rfl) (hid ⟨HR1.out.drew,HH1.out.after (Below.refl _ _).drew⟩) ?_;repeat (first
          | go_big_quiet_skip
          | (go_big_quiet_want
             refine quiet_val (x:= ?_) (fun vv hC=> ?_) ?_
             rotate_left
             · skip
               obtain ⟨x0,x1, -, -⟩:=hC.out.1.cells;clear hC;go_simp;with_reducible rfl
             go_big_quiet_on
             try simp only [Act.put,List.setIfInBounds_toArray,List.set_cons_zero,List.set_cons_succ])
          | (go_big_quiet_want
             refine quiet_call (f:= ?_) (args:= ?_) (x:= ?_) (fun vv hC=> ?_) (fun vv hC=> ?_) ?_
             rotate_left 3
             · go_simp
               first|with_reducible rfl| (apply And.intro<;>with_reducible rfl)
             · first
                 | (go_at_call 196;with_reducible refine (HC.out vv (hC.out.1.base hGR)).mono ?_;rintro e ww ⟨rfl,bb⟩;refine And.intro ?_ (hid ⟨hC.out.1.below bb,hC.out.2.after bb⟩);with_reducible rfl)
             go_big_quiet_on
             try simp only [Act.put,List.setIfInBounds_toArray,List.set_cons_zero,List.set_cons_succ]))
        refine wpQuiet_nil ?_;intro vq hq;have HR2:=hid hq.out.1;have HH2:=hid hq.out.2;clear hq HR1 HH1 HC c0 c1;obtain ⟨c0,c1, -, -⟩:=HR2.out.cells;obtain ⟨-,g1, -, -⟩:=HR2.out.free;go_wp2_with fail;have HR3:=hid (HR2.out.set1 q');have HH3:=hid (HH2.out.grown (grownBy_set _ R 1 (.int .i64 q')) (by have:=HR2.out.lt;have:=HWB.out;omega));refine (string_any B B acc _ HH3.out HH3.out.bw).mono ?_;rintro en w4 ⟨rfl,hh,hb,hk⟩;have HR4:=hid (HR3.out.under hb HWB.out);clear hh hb hk;go_wp2_with fail;go_ret2;refine Or.inl ⟨_,_,HX.out,rfl,?_⟩;rw [drop_len,show s.size-(s.size-(q+1))=q' by have:=HQ'.out;have:=HLT.out;omega];exact HR4.out
      by_cases x92:x=92
      · subst x92;have HX:Hid (RES=J.pre acc (J.strOn f (J.esc (s.data.toList.drop q)))):=by
          show _=_;rw [HRES.out];conv=>lhs;rw [HD.out,J.str_esc,←HD.out]
        have hsq:s[q]=92:=by
          have:=HD.out;rw [drop_at HLT.out] at this;exact (List.cons.inj this).1
        have HSQ:=hid hsq;clear HRES hsq;have HC:=hcD _ (Lib.decodeL_ascii 92 _ (by decide));clear hcD HEX;go_wp2_with fail;go_quiet (fail);have HR1:=hid (HR.out.drewN nq);have HH1:=hid (HH.out.after (below_drewN (Below.refl _ _) nq));clear HR HH c0 c1;generalize World.drewN wr nq=wn at*;obtain ⟨c0,c1, -, -⟩:=HR1.out.cells;go_wp2_with fail;refine quiet_lit (C:=(fun v=>Hid (Rdr w R s q 0 0 v∧Holds B B acc v))) (by kernel_rfl) (by kernel_rfl) (hid ⟨HR1.out.drew,HH1.out.after (Below.refl _ _).drew⟩) ?_;repeat (first
          | go_big_quiet_skip
          | (go_big_quiet_want
             refine quiet_val (x:= ?_) (fun vv hC=> ?_) ?_
             rotate_left
             · skip
               obtain ⟨x0,x1, -, -⟩:=hC.out.1.cells;clear hC;go_simp;with_reducible rfl
             go_big_quiet_on
             try simp only [Act.put,List.setIfInBounds_toArray,List.set_cons_zero,List.set_cons_succ])
          | (go_big_quiet_want
             refine quiet_call (f:= ?_) (args:= ?_) (x:= ?_) (fun vv hC=> ?_) (fun vv hC=> ?_) ?_
             rotate_left 3
             · go_simp
               first|with_reducible rfl| (apply And.intro<;>with_reducible rfl)
             · first
                 | (go_at_call 196;with_reducible refine (HC.out vv (hC.out.1.base hGR)).mono ?_;rintro e ww ⟨rfl,bb⟩;refine And.intro ?_ (hid ⟨hC.out.1.below bb,hC.out.2.after bb⟩);with_reducible rfl)
             go_big_quiet_on
             try simp only [Act.put,List.setIfInBounds_toArray,List.set_cons_zero,List.set_cons_succ]))
        refine wpQuiet_nil ?_;intro vq hq;have HR2:=hid hq.out.1;have HH2:=hid hq.out.2;clear hq HR1 HH1 HC c0 c1;obtain ⟨c0,c1, -, -⟩:=HR2.out.cells;obtain ⟨-,g1, -, -⟩:=HR2.out.free;go_wp2_with fail;refine (escaped_any HR2.out HH2.out HWB.out (by have:=HFU.out.2;omega) HLT.out (by omega) hG hGR HSQ.out).mono ?_;intro en w4 hen;rcases hen with ⟨u,r,hx,rfl,hr,hh⟩|⟨n,er,q2,hx,hq2,rfl,hr⟩
        · have HRR:=hid hr;have HHH:=hid hh;obtain ⟨lr,lu⟩:=J.esc_less hx;rw [drop_len] at lr;have hsuf:r=s.data.toList.drop (s.size-r.length):=by
            obtain ⟨a,ha⟩:=(J.esc_fair (s.data.toList.drop q)).1 _ _ hx;have hl:s.size-r.length=q+a.length:=by
              have:=congrArg List.length ha;rw [List.length_append,drop_len] at this;omega
            rw [hl,←List.drop_drop,←ha,List.drop_left'];rfl
          have HN:Hid (RES=J.pre (acc++u) (J.str f (s.data.toList.drop (s.size-r.length)))):=by
            show _=_;rw [HX.out,hx,←hsuf,J.strOn_ok,J.pre_pre]
          obtain ⟨q3,hq3⟩:∃q3,s.size-r.length=q3:=⟨_,rfl⟩;rw [hq3] at HN HRR;have h3:q+2≤q3:=by omega
          have h3s:q3≤s.size:=by omega
          have HU:=hid lu;clear hx hr hh lr lu hsuf hq3 HX;go_wp2_with fail;go_roundg (s.size-q3)
          case measure=>have:=HLT.out;omega
          case rel=>exact ⟨q3,acc++u,f,h3s,Nat.le_refl _,hid ⟨by have:=HFU.out.1;omega,by rw [List.length_append];have:=HFU.out.2;have:=HU.out;omega⟩,HN,hid ⟨HRR.out,HHH.out⟩⟩
        · have HN:Hid (RES= .error (n,er)):=by
            show _=_;rw [HX.out,hx,J.strOn_err,J.pre_err]
          have HRR:=hid hr;clear hx hr HX;go_wp2_with fail;go_ret2;exact Or.inr ⟨n,er,q2,HN.out,hq2,rfl,HRR.out⟩
      by_cases x32:x.toNat<32
      · have HX:Hid (RES= .error (s.size-q,4)):=by
          show _=_;rw [HRES.out,HD.out,J.str_low f _ x32,J.pre_err,drop_len,show s.size-(q+1)+1=s.size-q by have:=HLT.out;omega]
        obtain ⟨c,hc⟩:∃c,x.toNat=c:=⟨_,rfl⟩;have hdec:Lib.decodeL (x::s.data.toList.drop (q+1))=(c,1):=by rw [Lib.decodeL_ascii x _ (by omega),hc]
        have t2:((c:Int)==34)=false:=beq_eq_false_iff_ne.2 (by omega);have t3:((c:Int)==92)=false:=beq_eq_false_iff_ne.2 (by omega);have t4:decide ((c:Int)<32)=true:=by simp;omega
        clear HRES x34 x92 x32 hc;have HC:=hcD _ hdec;clear hcD HEX hdec;go_wp2_with fail;go_quiet (fail);have HR1:=hid (HR.out.drewN nq);have HH1:=hid (HH.out.after (below_drewN (Below.refl _ _) nq));clear HR HH c0 c1;generalize World.drewN wr nq=wn at*;obtain ⟨c0,c1, -, -⟩:=HR1.out.cells;go_wp2_with fail;refine quiet_lit (C:=(fun v=>Hid (Rdr w R s q 0 0 v∧Holds B B acc v))) (by kernel_rfl) (by kernel_rfl) (hid ⟨HR1.out.drew,HH1.out.after (Below.refl _ _).drew⟩) ?_;repeat (first
          | go_big_quiet_skip
          | (go_big_quiet_want
             refine quiet_val (x:= ?_) (fun vv hC=> ?_) ?_
             rotate_left
             · skip
               obtain ⟨x0,x1, -, -⟩:=hC.out.1.cells;clear hC;go_simp;with_reducible rfl
             go_big_quiet_on
             try simp only [Act.put,List.setIfInBounds_toArray,List.set_cons_zero,List.set_cons_succ])
          | (go_big_quiet_want
             refine quiet_call (f:= ?_) (args:= ?_) (x:= ?_) (fun vv hC=> ?_) (fun vv hC=> ?_) ?_
             rotate_left 3
             · go_simp
               first|with_reducible rfl| (apply And.intro<;>with_reducible rfl)
             · first
                 | (go_at_call 196;with_reducible refine (HC.out vv (hC.out.1.base hGR)).mono ?_;rintro e ww ⟨rfl,bb⟩;refine And.intro ?_ (hid ⟨hC.out.1.below bb,hC.out.2.after bb⟩);with_reducible rfl)
             go_big_quiet_on
             try simp only [Act.put,List.setIfInBounds_toArray,List.set_cons_zero,List.set_cons_succ]))
        refine wpQuiet_nil ?_;intro vq hq;have HR2:=hid hq.out.1;have HH2:=hid hq.out.2;clear hq HR1 HH1 HC c0 c1;obtain ⟨c0,c1, -, -⟩:=HR2.out.cells;obtain ⟨-,g1, -, -⟩:=HR2.out.free;go_wp2_with fail;refine (bad0 HR2.out).mono ?_;rintro en w3 ⟨rfl,hr⟩;have HR3:=hid hr;clear hr;go_wp2_with fail;go_ret2;exact ret_err HX.out hqs HR3.out
      rcases J.dec_cases (r:=s.data.toList.drop (q+1)) x34 x92 (by omega) with ⟨hdec,hbad⟩|⟨ch,k,hdec,hgood,h32,h34',h92',hk1,hok,hch,k1,k4,kl,hch2⟩
      · have HX:Hid (RES= .error (s.size-q,4)):=by
          show _=_;rw [HRES.out,HD.out,J.str_bad f _ x34 x92 (by omega) hbad,J.pre_err,drop_len,show s.size-(q+1)+1=s.size-q by have:=HLT.out;omega]
        clear HRES x34 x92 x32 hbad;have HC:=hcD _ hdec;clear hcD HEX hdec;go_wp2_with fail;go_quiet (fail);have HR1:=hid (HR.out.drewN nq);have HH1:=hid (HH.out.after (below_drewN (Below.refl _ _) nq));clear HR HH c0 c1;generalize World.drewN wr nq=wn at*;obtain ⟨c0,c1, -, -⟩:=HR1.out.cells;go_wp2_with fail;refine quiet_lit (C:=(fun v=>Hid (Rdr w R s q 0 0 v∧Holds B B acc v))) (by kernel_rfl) (by kernel_rfl) (hid ⟨HR1.out.drew,HH1.out.after (Below.refl _ _).drew⟩) ?_;repeat (first
          | go_big_quiet_skip
          | (go_big_quiet_want
             refine quiet_val (x:= ?_) (fun vv hC=> ?_) ?_
             rotate_left
             · skip
               obtain ⟨x0,x1, -, -⟩:=hC.out.1.cells;clear hC;go_simp;with_reducible rfl
             go_big_quiet_on
             try simp only [Act.put,List.setIfInBounds_toArray,List.set_cons_zero,List.set_cons_succ])
          | (go_big_quiet_want
             refine quiet_call (f:= ?_) (args:= ?_) (x:= ?_) (fun vv hC=> ?_) (fun vv hC=> ?_) ?_
             rotate_left 3
             · go_simp
               first|with_reducible rfl| (apply And.intro<;>with_reducible rfl)
             · first
                 | (go_at_call 196;with_reducible refine (HC.out vv (hC.out.1.base hGR)).mono ?_;rintro e ww ⟨rfl,bb⟩;refine And.intro ?_ (hid ⟨hC.out.1.below bb,hC.out.2.after bb⟩);with_reducible rfl)
             go_big_quiet_on
             try simp only [Act.put,List.setIfInBounds_toArray,List.set_cons_zero,List.set_cons_succ]))
        refine wpQuiet_nil ?_;intro vq hq;have HR2:=hid hq.out.1;have HH2:=hid hq.out.2;clear hq HR1 HH1 HC c0 c1;obtain ⟨c0,c1, -, -⟩:=HR2.out.cells;obtain ⟨-,g1, -, -⟩:=HR2.out.free;go_wp2_with fail;refine (bad0 HR2.out).mono ?_;rintro en w3 ⟨rfl,hr⟩;have HR3:=hid hr;clear hr;go_wp2_with fail;go_ret2;exact ret_err HX.out hqs HR3.out
      · obtain ⟨q',hq'⟩:∃q',q+k=q':=⟨_,rfl⟩;have hq's:q'≤s.size:=by
          rw [List.length_cons,drop_len] at kl;omega
        have HN:Hid (RES=J.pre (acc++Go.Proofs.YtohkomndapngjaaGreatDoor.W.charL (ch:Int)) (J.str f (s.data.toList.drop q'))):=by
          show _=_;rw [HRES.out,HD.out,J.str_char f _ x34 x92 (by omega) hgood,J.pre_pre,Int.toNat_natCast,←hch,←HD.out,List.drop_drop,hq']
        have HCL:Hid ((Go.Proofs.YtohkomndapngjaaGreatDoor.W.charL (ch:Int)).length≤4):=by
          show _≤_;rw [hch,List.length_take];omega
        have HOK:=hid hok;have e1:(q:Int)+(k:Int)=(q':Int):=by omega
        have e2:IntKind.i64.wrap (q':Int)=(q':Int):=by rw [IntKind.wrap_i64];omega
        have t2:((ch:Int)==34)=false:=beq_eq_false_iff_ne.2 (by omega);have t3:((ch:Int)==92)=false:=beq_eq_false_iff_ne.2 (by omega);have t4:decide ((ch:Int)<32)=false:=by simp;omega
        have HQ':=hid (show q+k=q'∧1≤k∧k≤4 from ⟨hq',k1,k4⟩);by_cases h65:ch=65533
        · have t5:((ch:Int)==65533)=true:=by rw [h65];rfl
          have t6:((k:Int)==1)=false:=beq_eq_false_iff_ne.2 (by have:=hk1 h65;omega);clear HRES x34 x92 x32 hgood h32 h34' h92' hk1 hok hch k1 k4 kl hq' h65;have HC:=hcD _ hdec;clear hcD HEX hdec;go_wp2_with fail;go_quiet (fail);have HR1:=hid (HR.out.drewN nq);have HH1:=hid (HH.out.after (below_drewN (Below.refl _ _) nq));clear HR HH c0 c1;generalize World.drewN wr nq=wn at*;obtain ⟨c0,c1, -, -⟩:=HR1.out.cells;go_wp2_with fail;refine quiet_lit (C:=(fun v=>Hid (Rdr w R s q 0 0 v∧Holds B B acc v))) (by kernel_rfl) (by kernel_rfl) (hid ⟨HR1.out.drew,HH1.out.after (Below.refl _ _).drew⟩) ?_;repeat (first
            | go_big_quiet_skip
            | (go_big_quiet_want
               refine quiet_val (x:= ?_) (fun vv hC=> ?_) ?_
               rotate_left
               · skip
                 obtain ⟨x0,x1, -, -⟩:=hC.out.1.cells;clear hC;go_simp;with_reducible rfl
               go_big_quiet_on
               try simp only [Act.put,List.setIfInBounds_toArray,List.set_cons_zero,List.set_cons_succ])
            | (go_big_quiet_want
               refine quiet_call (f:= ?_) (args:= ?_) (x:= ?_) (fun vv hC=> ?_) (fun vv hC=> ?_) ?_
               rotate_left 3
               · go_simp
                 first|with_reducible rfl| (apply And.intro<;>with_reducible rfl)
               · first
                  | (go_at_call 196;with_reducible refine (HC.out vv (hC.out.1.base hGR)).mono ?_;rintro e ww ⟨rfl,bb⟩;refine And.intro ?_ (hid ⟨hC.out.1.below bb,hC.out.2.after bb⟩);with_reducible rfl)
               go_big_quiet_on
               try simp only [Act.put,List.setIfInBounds_toArray,List.set_cons_zero,List.set_cons_succ]))
          refine wpQuiet_nil ?_;intro vq hq;have HR2:=hid hq.out.1;have HH2:=hid hq.out.2;clear hq HR1 HH1 HC c0 c1;obtain ⟨c0,c1, -, -⟩:=HR2.out.cells;obtain ⟨-,g1, -, -⟩:=HR2.out.free;go_wp2_with fail;refine (writeRune_any B B acc ch HOK.out _ HH2.out (by have:=HFU.out.2;omega) HH2.out.bw).mono ?_;rintro en w4 ⟨⟨z,rfl⟩,hh,hb,hk⟩;have HR4:=hid (HR2.out.under hb HWB.out);have HH4:=hid hh;clear hh hb hk HR2 HH2 c0 c1 g1;obtain ⟨c0,c1, -, -⟩:=HR4.out.cells;obtain ⟨-,g1, -, -⟩:=HR4.out.free;go_wp2_with fail;go_roundg (s.size-q')
          case measure=>have:=HLT.out;have:=HQ'.out;omega
          case rel=>exact ⟨q',_,f,hq's,Nat.le_refl _,hid ⟨by have:=HFU.out.1;have:=HQ'.out;omega,by rw [List.length_append];have:=HFU.out.2;have:=HCL.out;have:=HQ'.out;omega⟩,HN,hid ⟨HR4.out.set1 q',HH4.out.grown (grownBy_set _ R 1 (.int .i64 q')) (by have:=HR4.out.lt;have:=HWB.out;omega)⟩⟩
        · have t5:((ch:Int)==65533)=false:=beq_eq_false_iff_ne.2 (by omega);clear HRES x34 x92 x32 hgood h32 h34' h92' hk1 hok hch k1 k4 kl hq' h65;have HC:=hcD _ hdec;clear hcD HEX hdec;go_wp2_with fail;go_quiet (fail);have HR1:=hid (HR.out.drewN nq);have HH1:=hid (HH.out.after (below_drewN (Below.refl _ _) nq));clear HR HH c0 c1;generalize World.drewN wr nq=wn at*;obtain ⟨c0,c1, -, -⟩:=HR1.out.cells;go_wp2_with fail;refine quiet_lit (C:=(fun v=>Hid (Rdr w R s q 0 0 v∧Holds B B acc v))) (by kernel_rfl) (by kernel_rfl) (hid ⟨HR1.out.drew,HH1.out.after (Below.refl _ _).drew⟩) ?_;repeat (first
            | go_big_quiet_skip
            | (go_big_quiet_want
               refine quiet_val (x:= ?_) (fun vv hC=> ?_) ?_
               rotate_left
               · skip
                 obtain ⟨x0,x1, -, -⟩:=hC.out.1.cells;clear hC;go_simp;with_reducible rfl
               go_big_quiet_on
               try simp only [Act.put,List.setIfInBounds_toArray,List.set_cons_zero,List.set_cons_succ])
            | (go_big_quiet_want
               refine quiet_call (f:= ?_) (args:= ?_) (x:= ?_) (fun vv hC=> ?_) (fun vv hC=> ?_) ?_
               rotate_left 3
               · go_simp
                 first|with_reducible rfl| (apply And.intro<;>with_reducible rfl)
               · first
                  | (go_at_call 196;with_reducible refine (HC.out vv (hC.out.1.base hGR)).mono ?_;rintro e ww ⟨rfl,bb⟩;refine And.intro ?_ (hid ⟨hC.out.1.below bb,hC.out.2.after bb⟩);with_reducible rfl)
               go_big_quiet_on
               try simp only [Act.put,List.setIfInBounds_toArray,List.set_cons_zero,List.set_cons_succ]))
          refine wpQuiet_nil ?_;intro vq hq;have HR2:=hid hq.out.1;have HH2:=hid hq.out.2;clear hq HR1 HH1 HC c0 c1;obtain ⟨c0,c1, -, -⟩:=HR2.out.cells;obtain ⟨-,g1, -, -⟩:=HR2.out.free;go_wp2_with fail;refine (writeRune_any B B acc ch HOK.out _ HH2.out (by have:=HFU.out.2;omega) HH2.out.bw).mono ?_;rintro en w4 ⟨⟨z,rfl⟩,hh,hb,hk⟩;have HR4:=hid (HR2.out.under hb HWB.out);have HH4:=hid hh;clear hh hb hk HR2 HH2 c0 c1 g1;obtain ⟨c0,c1, -, -⟩:=HR4.out.cells;obtain ⟨-,g1, -, -⟩:=HR4.out.free;go_wp2_with fail;go_roundg (s.size-q')
          case measure=>have:=HLT.out;have:=HQ'.out;omega
          case rel=>exact ⟨q',_,f,hq's,Nat.le_refl _,hid ⟨by have:=HFU.out.1;have:=HQ'.out;omega,by rw [List.length_append];have:=HFU.out.2;have:=HCL.out;have:=HQ'.out;omega⟩,HN,hid ⟨HR4.out.set1 q',HH4.out.grown (grownBy_set _ R 1 (.int .i64 q')) (by have:=HR4.out.lt;have:=HWB.out;omega)⟩⟩
    · have t0:decide ((q:Int)<(s.size:Int))=false:=by simp;omega
      have tn:decide (q<s.size)=false:=by simp;omega
      obtain rfl:q=s.size:=by omega
      obtain ⟨f,rfl⟩:∃f',f=f'+1:=⟨f-1,by have:=HFU.out.1;omega⟩;have HX:Hid (RES= .error (s.size-s.size,4)):=by
        show _=_;rw [HRES.out,drop_end (Nat.le_refl _),J.str_end,J.pre_err,Nat.sub_self]
      clear HRES HFU;go_wp2_with fail;go_quiet (fail);have HR1:=hid (HR.out.drewN nq);clear HR HH c0 c1;generalize World.drewN wr nq=wn at*;go_wp2_with fail;refine (bad0 HR1.out).mono ?_;rintro en w2 ⟨rfl,hr⟩;have HR2:=hid hr;clear hr HR1;go_wp2_with fail;go_ret2;exact ret_err HX.out (Nat.le_refl _) HR2.out
 · have t0:((bt:Int) !=34)=true:=by rw [bne_iff_ne];omega
   have HX:Hid (RES= .error (s.size-q,4)):=by
    show _=_;rw [←hRES];unfold J.text;split
    · rename_i r e;rw [e] at hbl;exact absurd hbl h34
    · rw [drop_len]
   clear hbl h34 hRES;go_enter Tryz.func107,Tryz.ntmps107;go_wp2_with fail;refine cN.mono ?_;rintro en w1 ⟨rfl,hr⟩;have HR1:=hid hr;clear hr cN HR;go_wp2_with fail;refine (bad0 HR1.out).mono ?_;rintro en w2 ⟨rfl,hr⟩;have HR2:=hid hr;clear hr HR1;go_wp2_with fail;go_ret2;exact ret_err HX.out HQS.out HR2.out
namespace J
def T.loose:T→T→Prop
 | .nil,.nil=>True
 | .cons k b n s l ns r,.cons k' b' n' s' l' ns' r'=>k=k'∧b=b'∧n=n'∧s=s'∧ns=ns'∧(l.loose l'∨(k=5∧l= .nil))∧r.loose r'
 | _,_=>False
def V.loose (x y:V):Prop:=x.k=y.k∧x.b=y.b∧x.n=y.n∧x.s=y.s∧x.ns=y.ns∧(x.l.loose y.l∨(x.k=5∧x.l= .nil))
theorem T.loose_refl:∀(t:T),t.loose t
 | .nil=>trivial
 | .cons _ _ _ _ l _ r=>⟨rfl,rfl,rfl,rfl,rfl,Or.inl (T.loose_refl l),T.loose_refl r⟩
theorem V.loose_refl (x:V):x.loose x:=⟨rfl,rfl,rfl,rfl,rfl,Or.inl (T.loose_refl _)⟩
theorem V.loose_one {x y:V}(h:x.loose y):x.one.loose y.one:=⟨h.1,h.2.1,h.2.2.1,h.2.2.2.1,h.2.2.2.2.1,h.2.2.2.2.2,trivial⟩
theorem T.loose_app:∀ {a b c d:T},a.loose b→c.loose d→(a.app c).loose (b.app d)
 | .nil,.nil,_,_,_,h=>h
 | .cons ..,.cons ..,_,_,⟨h1,h2,h3,h4,h5,h6,h7⟩,h=>⟨h1,h2,h3,h4,h5,h6,T.loose_app h7 h⟩
 | .nil,.cons ..,_,_,h,_=>h.elim
 | .cons ..,.nil,_,_,h,_=>h.elim
theorem T.loose_snoc {a b:T}{x y:V}(h:a.loose b) (g:x.loose y):(a.snoc x).loose (b.snoc y):=T.loose_app h (V.loose_one g)
theorem T.loose_len:∀ {a b:T},a.loose b→a.length=b.length
 | .nil,.nil,_=>rfl
 | .cons ..,.cons ..,⟨_,_,_,_,_,_,h⟩=>by simp only [T.length,T.loose_len h]
 | .nil,.cons ..,h=>h.elim
 | .cons ..,.nil,h=>h.elim
abbrev Step:=(T×List ByteArray)→List UInt8→Res (T×List ByteArray)
def stepL (val:List UInt8→Res V):Step:=fun p l=>match val l with
 | .error e=> .error e
 | .ok (v,r)=> .ok ((p.1.snoc v,p.2),r)
def stepO (val:List UInt8→Res V):Step:=fun p l=>match name p.2 (skip l) with
 | .error e=> .error e
 | .ok (x,r)=>match val r with
   | .error e=> .error e
   | .ok (v,r')=> .ok ((p.1.snoc v,p.2++ [x]),r')
def run (one:Step) (en:UInt8):Nat→(T×List ByteArray)→List UInt8→Res (T×List ByteArray)
 | 0,_,l=> .error (l.length,4)
 | f+1,p,l=>match one p l with
   | .error e=> .error e
   | .ok (p',l5)=>match skip l5 with
     | []=> .error (0,4)
     | c::l6=>if c=en then .ok (p',l6) else if c=44 then run one en f p' l6 else .error (l6.length+1,4)
theorem val_skip (d:Nat) (l:List UInt8):val d (skip l)=val d l:=by
 rw [val,val,skip_skip]
theorem elems_list (d:Nat):∀(f:Nat) (t:T) (ns:List ByteArray) (l:List UInt8),elems (val d) false f t ns l=run (stepL (val d)) 93 f (t,ns) l
 | 0,_,_,_=>rfl
 | f+1,t,ns,l=>by
   rw [elems,run,stepL]
   simp only [Bool.false_eq_true,if_false,val_skip]
   cases val d l with
   | error e=>rfl
   | ok p=>
     simp only
     cases skip p.2 with
     | nil=>rfl
     | cons c l6=>
       simp only
       by_cases h1:c=93
       · rw [if_pos h1,if_pos h1]
       · rw [if_neg h1,if_neg h1]
         by_cases h2:c=44
         · rw [if_pos h2,if_pos h2];exact elems_list d f _ _ _
         · rw [if_neg h2,if_neg h2]
theorem elems_obj (d:Nat):∀(f:Nat) (t:T) (ns:List ByteArray) (l:List UInt8),elems (val d) true f t ns l=run (stepO (val d)) 125 f (t,ns) l
 | 0,_,_,_=>rfl
 | f+1,t,ns,l=>by
   rw [elems,run,stepO]
   simp only [if_true]
   cases name ns (skip l) with
   | error e=>rfl
   | ok q=>
     simp only
     cases val d q.2 with
     | error e=>rfl
     | ok p=>
       simp only
       cases skip p.2 with
       | nil=>rfl
       | cons c l6=>
         simp only
         by_cases h1:c=125
         · rw [if_pos h1,if_pos h1]
         · rw [if_neg h1,if_neg h1]
           by_cases h2:c=44
           · rw [if_pos h2,if_pos h2];exact elems_obj d f _ _ _
           · rw [if_neg h2,if_neg h2]
def inR (one:Step) (en:UInt8) (l:List UInt8):Res (T×List ByteArray):=match skip (l.drop 1) with
 | []=>run one en (l.length+1) (.nil,[]) []
 | c::r=>if c=en then .ok ((.nil,[]),r) else run one en (l.length+1) (.nil,[]) (c::r)
theorem inside_list (d:Nat) (l:List UInt8):inside (val d) false l=on (fun p=>⟨5,false,0,⟨#[]⟩,p.1,p.2⟩) (inR (stepL (val d)) 93 l):=by
 unfold inside inR;cases skip (l.drop 1) with
 | nil=>simp only [elems_list];rfl
 | cons c r=>
   simp only [Bool.false_eq_true,if_false];by_cases h:c=93
   · rw [if_pos h,if_pos h];rfl
   · rw [if_neg h,if_neg h,elems_list]
theorem inside_obj (d:Nat) (l:List UInt8):inside (val d) true l=on (fun p=>⟨6,false,0,⟨#[]⟩,p.1,p.2⟩) (inR (stepO (val d)) 125 l):=by
 unfold inside inR;cases skip (l.drop 1) with
 | nil=>simp only [elems_obj];rfl
 | cons c r=>
   simp only [if_true];by_cases h:c=125
   · rw [if_pos h,if_pos h];rfl
   · rw [if_neg h,if_neg h,elems_obj]
def Steps (one:Step):Prop:= ∀p l,(∀p' r,one p l= .ok (p',r)→(∃a,l=a++r)∧p'.1.length≤p.1.length+1∧p'.2.length≤p.2.length+1)∧(∀n e,one p l= .error (n,e)→n≤l.length∧e≠0)
theorem fair_steps {α:Type}{l:List UInt8}{x:Res α}(h:Fair l x):(∀a r,x= .ok (a,r)→∃b,l=b++r)∧(∀n e,x= .error (n,e)→n≤l.length∧e≠0):=
 ⟨fun a r e=>by obtain ⟨b,hb⟩:=h.1 a r e;exact ⟨b,hb.symm⟩,fun n e he=>⟨(h.2 n e he).1,by rcases (h.2 n e he).2 with h|h|h|h<;>omega⟩⟩
theorem T.snoc_length (t:T) (v:V):(t.snoc v).length=t.length+1:=by unfold T.snoc;rw [T.app_length];rfl
theorem stepL_steps (d:Nat):Steps (stepL (val d)):=fun p l=>by
 have hf:=fair_steps (val_fair d l)
 unfold stepL
 cases hx:val d l with
 | error q=>exact ⟨(fun _ _ h=>by cases h),(fun n e h=>by cases h;exact hf.2 _ _ hx)⟩
 | ok q=>exact ⟨(fun _ _ h=>by cases h;exact ⟨hf.1 _ _ hx,by rw [T.snoc_length];exact Nat.le_refl _,Nat.le_succ _⟩),(fun _ _ h=>by cases h)⟩
theorem stepO_steps (d:Nat):Steps (stepO (val d)):=fun p l=>by
 have hf:=(name_fair p.2 (skip l)).suf (skip_suf l)
 unfold stepO
 cases hx:name p.2 (skip l) with
 | error q=>exact ⟨(fun _ _ h=>by cases h),(fun n e h=>by cases h;exact (fair_steps hf).2 _ _ hx)⟩
 | ok q=>
   simp only
   have hv:=fair_steps ((val_fair d q.2).suf (hf.1 q.1 q.2 hx))
   cases hy:val d q.2 with
   | error u=>exact ⟨(fun _ _ h=>by cases h),(fun n e h=>by cases h;exact hv.2 _ _ hy)⟩
   | ok u=>exact ⟨(fun _ _ h=>by cases h;exact ⟨hv.1 _ _ hy,by rw [T.snoc_length];exact Nat.le_refl _,by rw [List.length_append];exact Nat.le_refl _⟩),(fun _ _ h=>by cases h)⟩
end J
def OneOf (w:World) (R:Nat) (s:ByteArray) (x:J.Res (J.T×List ByteArray)) (Inv:(J.T×List ByteArray)→World→Prop) (Bd:World→Prop) (en:Ending) (W:World):Prop:=
 (∃p' r,x= .ok (p',r)∧en= .returned (.bool true)∧Rdr w R s (s.size-r.length) 0 0 W∧Inv p' W)∨
 (∃n er q',x= .error (n,er)∧q'≤s.size∧en= .returned (.bool false)∧Rdr w R s q' er ((s.size-n:Nat):Int) W∧Bd W)
def OneC (w:World) (R:Nat) (s:ByteArray) (one:J.Step) (F:FuncId) (caps:Array Value) (Inv:(J.T×List ByteArray)→World→Prop) (Bd:World→Prop):Prop:=
 ∀p q W,q≤s.size→p.1.length≤q→p.2.length≤q→Rdr w R s q 0 0 W→Inv p W→Calls Tryz.prog F caps W (OneOf w R s (one p (s.data.toList.drop q)) Inv Bd)
def InOf (w:World) (R:Nat) (s:ByteArray) (x:J.Res (J.T×List ByteArray)) (Inv:(J.T×List ByteArray)→World→Prop) (Bd:World→Prop) (en:Ending) (W:World):Prop:=
 (∃p' r,x= .ok (p',r)∧en= .returned (.bool true)∧Rdr w R s (s.size-r.length) 0 0 W∧Inv p' W)∨
 (∃n er q',x= .error (n,er)∧q'≤s.size∧en= .returned (.bool false)∧Rdr w R s q' er ((s.size-n:Nat):Int) W∧Bd W)
theorem next_cases (s:ByteArray) (q:Nat):(J.skip (s.data.toList.drop q)= []∧J.nextP s q=s.size∧J.nextB s q=0)∨
   (∃c,∃h:J.nextP s q<s.size,s[J.nextP s q]'h=c∧J.skip (s.data.toList.drop q)=c::s.data.toList.drop (J.nextP s q+1)∧J.nextB s q=c.toNat):=by
 rcases Nat.lt_or_ge (J.nextP s q) s.size with h|h
 · refine Or.inr ⟨_,h,rfl,?_,?_⟩
   · rw [←J.nextP_drop,drop_at h]
   · rw [←next_byte h]
 · have h':J.nextP s q=s.size:=Nat.le_antisymm (J.nextP_le s q) h;exact Or.inl ⟨by rw [←J.nextP_drop,drop_end h],h',next_end h'⟩
namespace J
theorem run_err {one:Step}{en:UInt8}{f:Nat}{p:T×List ByteArray}{l:List UInt8}{e:Nat×Int}(h:one p l= .error e):run one en (f+1) p l= .error e:=by rw [run,h]
theorem run_nil {one:Step}{en:UInt8}{f:Nat}{p p':T×List ByteArray}{l r:List UInt8}(h:one p l= .ok (p',r)) (hs:skip r= []):run one en (f+1) p l= .error (0,4):=by rw [run,h];simp only;rw [hs]
theorem run_cons {one:Step}{en:UInt8}{f:Nat}{p p':T×List ByteArray}{l r l6:List UInt8}{c:UInt8}(h:one p l= .ok (p',r)) (hs:skip r=c::l6):run one en (f+1) p l=if c=en then .ok (p',l6) else if c=44 then run one en f p' l6 else .error (l6.length+1,4):=by rw [run,h];simp only;rw [hs]
theorem inR_nil {one:Step}{en:UInt8}{l:List UInt8}(h:skip (l.drop 1)= []):inR one en l=run one en (l.length+1) (.nil,[]) []:=by unfold inR;rw [h]
theorem inR_cons {one:Step}{en:UInt8}{l r:List UInt8}{c:UInt8}(h:skip (l.drop 1)=c::r):inR one en l=if c=en then .ok ((.nil,[]),r) else run one en (l.length+1) (.nil,[]) (c::r):=by unfold inR;rw [h]
end J
theorem next_own {w:World}{R p:Nat}{s:ByteArray}{W:World}(h:Rdr w R s p 0 0 W) (hp:p≤s.size) (hs:s.size≤140737488355328):
  Calls Tryz.prog 58 #[.pointer (some ⟨R,0,none⟩)] W fun en W'=>en= .returned (.int .u8 (J.nextB s p:Nat))∧Rdr w R s (J.nextP s p) 0 0 W'∧W.grownBy W' (some R):=by
 refine (next_any h.own hp hs).mono ?_;rintro en W' ⟨rfl,h'⟩;exact ⟨rfl,h.trans h',h'.g⟩
theorem bad_own {w:World}{R p:Nat}{s:ByteArray}{W:World}(h:Rdr w R s p 0 0 W):
  Calls Tryz.prog 59 #[.pointer (some ⟨R,0,none⟩)] W fun en W'=>en= .returned (.bool false)∧Rdr w R s p 4 (p:Int) W'∧W.grownBy W' (some R):=by
 refine (bad0 h.own).mono ?_;rintro en W' ⟨rfl,h'⟩;exact ⟨rfl,h.trans h',h'.g⟩
theorem fail_own {w:World}{R p:Nat}{s:ByteArray}(er at_:Int) {W:World}(h:Rdr w R s p 0 0 W):
  Calls Tryz.prog 113 #[.pointer (some ⟨R,0,none⟩),.int .i64 er,.int .i64 at_] W fun en W'=>en= .returned (.bool false)∧Rdr w R s p er at_ W'∧W.grownBy W' (some R):=by
 refine (fail0 er at_ h.own).mono ?_;rintro en W' ⟨rfl,h'⟩;exact ⟨rfl,h.trans h',h'.g⟩
theorem inside_deep {w:World}{R p:Nat}{s:ByteArray}{W:World}(en:Int) (fv:Value) (h:Rdr w R s p 0 0 W):
  Calls Tryz.prog 108 #[.pointer (some ⟨R,0,none⟩),.int .u8 en,.int .i64 16,fv] W fun e W'=>e= .returned (.bool false)∧Rdr w R s p 84 (p:Int) W'∧W.grownBy W' (some R):=by
 have cF:=fail_own 84 (p:Int) h;obtain ⟨c0,c1, -, -⟩:=h.cells;clear h;go_enter Tryz.func108,Tryz.ntmps108;go_wp2_with fail;refine cF.mono ?_;rintro e w1 ⟨rfl,hr⟩;have HR:=hid hr;clear hr;go_wp2_with fail;go_ret;exact ⟨rfl,HR.out⟩
theorem inside_any {w:World}{R p:Nat}{s:ByteArray}{W:World}{one:J.Step}{F:FuncId}{caps:Array Value}{Inv:(J.T×List ByteArray)→World→Prop}{Bd:World→Prop}(en:UInt8) (hen:en.toNat≠0∧en.toNat≠44) (deep:Nat) (hdeep:deep<16)
   (hF:∀args W,(callFunc F args).run Tryz.prog W= .ok (.enter F args) W)
   (hS:J.Steps one) (hO:OneC w R s one F caps Inv Bd) (hK:∀p W W',Inv p W→W.grownBy W' (some R)→Inv p W') (hB:∀p W,Inv p W→Bd W)
   (h:Rdr w R s p 0 0 W) (hI:Inv (.nil,[]) W) (hp:p<s.size) (hs:s.size≤1000000000000):
   Calls Tryz.prog 108 #[.pointer (some ⟨R,0,none⟩),.int .u8 en.toNat,.int .i64 deep,.func (.func F) #[] caps] W (InOf w R s (J.inR one en (s.data.toList.drop p)) Inv Bd):=by
 have HR:=hid h;have HI:=hid hI;have HO:=hid hO;have HK:=hid hK;have HB:=hid hB;have HS:=hid hS;obtain ⟨RES,hRES⟩:∃x,J.inR one en (s.data.toList.drop p)=x:=⟨_,rfl⟩;rw [hRES];obtain ⟨c0,c1, -, -⟩:=h.cells;obtain ⟨-,g1, -, -⟩:=h.free;obtain ⟨q,hq⟩:∃q,p+1=q:=⟨_,rfl⟩;have e1:(p:Int)+1=(q:Int):=by omega
 have e2:IntKind.i64.wrap (q:Int)=(q:Int):=by rw [IntKind.wrap_i64];omega
 have hqs:q≤s.size:=by omega
 have t0:((deep:Int)==16)=false:=beq_eq_false_iff_ne.2 (by omega);have HRS:=hid hRES.symm;have HQ:=hid hq;have HEN:=hid hen;clear h hI hO hK hB hS hRES hq hen;go_enter Tryz.func108,Tryz.ntmps108;go_wp2_with fail;have H1:=hid (HR.out.set1 q);have I1:=hid (HK.out _ _ _ HI.out (grownBy_set _ R 1 (.int .i64 q)));clear HR HI c0 c1 g1;generalize World.setCell W _ _=w1 at*;refine (next_own H1.out hqs (by omega)).mono ?_;rintro e w2 ⟨rfl,hr,hg⟩;have H2:=hid hr;have I2:=hid (HK.out _ _ _ I1.out hg);clear hr hg H1 I1;obtain ⟨c0,c1, -, -⟩:=H2.out.cells;obtain ⟨-,g1, -, -⟩:=H2.out.free;have hN:=next_cases s q;have hdrop:(s.data.toList.drop p).drop 1=s.data.toList.drop q:=by rw [List.drop_drop,HQ.out]
 obtain ⟨B,hBb⟩:∃B,J.nextB s q=B:=⟨_,rfl⟩;obtain ⟨P,hP⟩:∃P,J.nextP s q=P:=⟨_,rfl⟩;have hPs:P≤s.size:=by rw [←hP];exact J.nextP_le s q
 have hdP:=J.nextP_drop s q;rw [hBb] at hN ⊢;rw [hP] at H2 c1 hdP;by_cases hbe:B=en.toNat
 · have t1:((B:Int)==(en.toNat:Int))=true:=by rw [hbe];simp
   have hE:RES= .ok ((.nil,[]),s.data.toList.drop (P+1))∧P<s.size:=by
    rcases hN with ⟨_,_,h0⟩|⟨c,hlt,hc,hsk,hcb⟩
    · exact absurd (hbe.symm.trans h0) HEN.out.1
    · have hce:c=en:=UInt8.toNat_inj.1 (by omega);refine ⟨?_,by rw [←hP];exact hlt⟩;rw [HRS.out,J.inR_cons (by rw [hdrop];exact hsk),if_pos hce,hP]
   obtain ⟨q',hq'⟩:∃q',P+1=q':=⟨_,rfl⟩;have e3:(P:Int)+1=(q':Int):=by omega
   have e4:IntKind.i64.wrap (q':Int)=(q':Int):=by rw [IntKind.wrap_i64];omega
   have HE:=hid hE;have HQ':=hid hq';clear hE hN hbe hBb hP hdP hdrop hq' HO HS HRS;go_wp2_with fail;go_ret;refine Or.inl ⟨_,_,HE.out.1,rfl,?_,HK.out _ _ _ I2.out (grownBy_set _ R 1 (.int .i64 q'))⟩;rw [drop_len,show s.size-(s.size-(P+1))=q' by have:=HE.out.2;have:=HQ'.out;omega];exact H2.out.set1 q'
 · have t1:((B:Int)==(en.toNat:Int))=false:=beq_eq_false_iff_ne.2 (by omega);have hE:RES=J.run one en (s.size-p+1) (.nil,[]) (s.data.toList.drop P):=by
    rcases hN with ⟨hsk,hpe,_⟩|⟨c,hlt,hc,hsk,hcb⟩
    · rw [HRS.out,J.inR_nil (by rw [hdrop];exact hsk),drop_len,drop_end (s:=s) (q:=P) (by omega)]
    · have hce:c≠en:=fun h=>hbe (by rw [←h,←hcb])
      rw [HRS.out,J.inR_cons (by rw [hdrop];exact hsk),if_neg hce,drop_len,hdP,hsk]
   have HE:=hid hE;have HPQ0:Hid (q≤P):=by
    show _≤_;rw [←hP];unfold J.nextP;have:=J.skip_length (s.data.toList.drop q);rw [drop_len] at this;omega
   clear hE hN hbe hBb hP hdP hdrop HRS;go_wp2_with fail;go_loopg [] s.size (fun g wr=> ∃(q:Nat) (st:J.T×List ByteArray) (f:Nat),q≤s.size∧s.size-q≤g∧Hid (s.size-q<f∧st.1.length≤q∧st.2.length≤q)∧Hid (RES=J.run one en f st (s.data.toList.drop q))∧Hid (Rdr w R s q 0 0 wr∧Inv st wr))
   case atStart=>exact ⟨P,_,_,hPs,by omega,hid ⟨by have:=HQ.out;have:=HPQ0.out;omega,Nat.zero_le _,Nat.zero_le _⟩,HE,hid ⟨H2.out,I2.out⟩⟩
   case round=>
    obtain ⟨q,st,f,hqs,hg,HFU,HRES,HII⟩:=hrel;clear HE H2 I2 c0 c1 g1 e1 e2 HQ hPs HPQ0;obtain ⟨f,rfl⟩:∃f',f=f'+1:=⟨f-1,by have:=HFU.out.1;omega⟩;have cO:=HO.out st q wr hqs HFU.out.2.1 HFU.out.2.2 HII.out.1 HII.out.2;obtain ⟨X,hX⟩:∃X,one st (s.data.toList.drop q)=X:=⟨_,rfl⟩;have hst:=HS.out st (s.data.toList.drop q);rw [hX] at cO hst;have HX:=hid hX;clear hX HII;go_wp2_with fail;refine cO.mono ?_;intro e w3 hen;clear cO;rcases hen with ⟨p',r,hx,rfl,hr,hi⟩|⟨n,er,q',hx,hq',rfl,hr,hb⟩
    · obtain ⟨⟨a,ha⟩,hl1,hl2⟩:=hst.1 _ _ hx;have HLN:=hid (show p'.1.length≤st.1.length+1∧p'.2.length≤st.2.length+1 from ⟨hl1,hl2⟩);have hrl:r=s.data.toList.drop (s.size-r.length)∧r.length≤s.size-q:=by
        have hl:=congrArg List.length ha;rw [List.length_append,drop_len] at hl;refine ⟨?_,by omega⟩;have e5:s.size-r.length=q+a.length:=by omega
        rw [e5,←List.drop_drop,ha,List.drop_left'];rfl
      obtain ⟨q1,hq1⟩:∃q1,s.size-r.length=q1:=⟨_,rfl⟩;rw [hq1] at hr hrl;have HR3:=hid hr;have HI3:=hid hi;have HRL:=hid hrl;have HOK:=hid (HX.out.trans hx);have hq1s:q1≤s.size:=by omega
      have hqq1:q≤q1:=by omega
      clear hr hi hx hrl ha hst hq1 HX hl1 hl2;go_wp2_with fail;refine (next_own HR3.out hq1s (by omega)).mono ?_;rintro e w4 ⟨rfl,hr,hg⟩;have HR4:=hid hr;have HI4:=hid (HK.out _ _ _ HI3.out hg);clear hr hg HR3 HI3;obtain ⟨c0,c1, -, -⟩:=HR4.out.cells;obtain ⟨-,g1, -, -⟩:=HR4.out.free;have hN:=next_cases s q1;obtain ⟨B,hBb⟩:∃B,J.nextB s q1=B:=⟨_,rfl⟩;obtain ⟨P,hP⟩:∃P,J.nextP s q1=P:=⟨_,rfl⟩;have hPs:P≤s.size:=by rw [←hP];exact J.nextP_le s q1
      rw [hBb] at hN ⊢;rw [hP] at HR4 c1;have HPQ:Hid (q1≤P):=by
        show _≤_;rw [←hP];unfold J.nextP;have:=J.skip_length (s.data.toList.drop q1);rw [drop_len] at this;omega
      have hR:(P=s.size∧B=0∧RES= .error (0,4))∨(∃c:UInt8,P<s.size∧B=c.toNat∧RES=if c=en then .ok (p',s.data.toList.drop (P+1)) else if c=44 then J.run one en f p' (s.data.toList.drop (P+1)) else .error (s.size-P,4)):=by
        rcases hN with ⟨hsk,hpe,hb0⟩|⟨c,hlt,hc,hsk,hcb⟩
        · exact Or.inl ⟨hP ▸ hpe,hb0,by rw [HRES.out,J.run_nil HOK.out (by rw [HRL.out.1];exact hsk)]⟩
        · refine Or.inr ⟨c,hP ▸ hlt,hcb,?_⟩;rw [HRES.out,J.run_cons HOK.out (by rw [HRL.out.1];exact hsk),hP,drop_len,show s.size-(P+1)+1=s.size-P by have:=hP ▸ hlt;omega]
      clear hN hBb hP HRES HRL HOK;rcases hR with ⟨hpe,hb0,hE⟩|⟨c,hlt,hcb,hE⟩
      · subst hb0;have t2:((0:Int)==(en.toNat:Int))=false:=beq_eq_false_iff_ne.2 (by have:=HEN.out.1;omega);have HE:Hid (RES= .error (s.size-P,4)):=by
          show _=_;rw [hE,hpe,Nat.sub_self]
        clear hE hpe;go_wp2_with fail;refine (bad_own HR4.out).mono ?_;rintro e w5 ⟨rfl,hr,hg⟩;have HR5:=hid hr;have HB5:=hid (HB.out _ _ (HK.out _ _ _ HI4.out hg));clear hr hg;go_wp2_with fail;go_ret;exact Or.inr ⟨_,4,P,HE.out,hPs,rfl,by rw [show s.size-(s.size-P)=P by omega];exact HR5.out,HB5.out⟩
      · obtain ⟨q2,hq2⟩:∃q2,P+1=q2:=⟨_,rfl⟩;have e3:(P:Int)+1=(q2:Int):=by omega
        have e4:IntKind.i64.wrap (q2:Int)=(q2:Int):=by rw [IntKind.wrap_i64];omega
        have hq2s:q2≤s.size:=by omega
        rw [hq2] at hE;by_cases h1:c=en
        · have t2:((B:Int)==(en.toNat:Int))=true:=by rw [hcb,h1];simp
          have HE:Hid (RES= .ok (p',s.data.toList.drop q2)):=by
            show _=_;rw [hE,if_pos h1]
          have HQ2:=hid hq2;clear hE h1 hcb hq2;go_wp2_with fail;go_ret;refine Or.inl ⟨_,_,HE.out,rfl,?_,HK.out _ _ _ HI4.out (grownBy_set _ R 1 (.int .i64 q2))⟩;rw [drop_len,show s.size-(s.size-q2)=q2 by omega];exact HR4.out.set1 q2
        · have t2:((B:Int)==(en.toNat:Int))=false:=beq_eq_false_iff_ne.2 (fun h=>h1 (UInt8.toNat_inj.1 (by omega)));by_cases h2:c=44
          · have t3:((B:Int)==44)=true:=by rw [hcb,h2];rfl
            have HE:Hid (RES=J.run one en f p' (s.data.toList.drop q2)):=by
             show _=_;rw [hE,if_neg h1,if_pos h2]
            have HQ2:=hid hq2;clear hE h1 h2 hcb hq2;go_wp2_with fail;go_roundg (s.size-q2)
            case measure=>have:=HQ2.out;have:=HPQ.out;omega
            case rel=>exact ⟨q2,p',f,hq2s,Nat.le_refl _,hid ⟨by have:=HQ2.out;have:=HPQ.out;have:=HFU.out.1;omega,by have:=HQ2.out;have:=HPQ.out;have:=HFU.out.2.1;have:=HLN.out.1;omega,by have:=HQ2.out;have:=HPQ.out;have:=HFU.out.2.2;have:=HLN.out.2;omega⟩,HE,hid ⟨HR4.out.set1 q2,HK.out _ _ _ HI4.out (grownBy_set _ R 1 (.int .i64 q2))⟩⟩
          · have t3:((B:Int)==44)=false:=beq_eq_false_iff_ne.2 (fun h=>h2 (UInt8.toNat_inj.1 (show c.toNat=44 by omega)));have HE:Hid (RES= .error (s.size-P,4)):=by
             show _=_;rw [hE,if_neg h1,if_neg h2]
            clear hE h1 h2 hcb hq2;go_wp2_with fail;refine (bad_own HR4.out).mono ?_;rintro e w5 ⟨rfl,hr,hg⟩;have HR5:=hid hr;have HB5:=hid (HB.out _ _ (HK.out _ _ _ HI4.out hg));clear hr hg;go_wp2_with fail;go_ret;exact Or.inr ⟨_,4,P,HE.out,hPs,rfl,by rw [show s.size-(s.size-P)=P by omega];exact HR5.out,HB5.out⟩
    · have HE:Hid (RES= .error (n,er)):=by
        show _=_;rw [HRES.out];exact J.run_err (HX.out.trans hx)
      have HR3:=hid hr;have HB3:=hid hb;clear hr hb hx hst HX HRES;go_wp2_with fail;go_ret;exact Or.inr ⟨n,er,q',HE.out,hq',rfl,HR3.out,HB3.out⟩
end Go.Proofs.YtohkomndapngjaaGreatDoor

