/- value: what stands in brackets; and any value. -/
import Derived.Test.YtohkomndapngjaaGreatDoorRC11
namespace Go.Proofs.YtohkomndapngjaaGreatDoor
set_option maxRecDepth 100000
set_option maxHeartbeats 16000000
open Go.RowKit
open Go.Lib (hid)
theorem Bx.kind {N R deep:Nat}{k k':Int}{lv nv:Value}{W:World}(h:Bx N R deep k lv nv W):Bx N R deep k' lv nv (W.setCell ⟨N+2,0,none⟩ (.int .u8 k')):=by
 have ho:∀b,b≠N+2→(W.setCell ⟨N+2,0,none⟩ (.int .u8 k')).heap[b]? =W.heap[b]? :=fun b hb=>heap_setCell_other W ⟨N+2,0,none⟩ b _ (fun e=>hb (by simp [e]))
 exact ⟨by rw [ho _ (by omega)];exact h.r,by rw [ho _ (by omega)];exact h.d,row_set h.v 0 _⟩
theorem VSt.row {B V:Nat}{k:Int}{t:J.T}{ns:List ByteArray}{W:World}(h:VSt B V k t ns W):∃(a1:Option Addr) (l1 c1:Nat) (a2:Option Addr) (l2 c2:Nat),W.heap[V]? =some (vRow k (.slice a1 l1 c1) (.slice a2 l2 c2)):=by
 obtain ⟨lv,nv,cs,h1,h2,_,h4⟩:=h;obtain ⟨a1,c1,rfl⟩:=own_shape h2;obtain ⟨a2,c2,rfl⟩:=own_shape h4;exact ⟨a1,_,c1,a2,_,c2,h1⟩
theorem inside_deep2 {w:World}{R p:Nat}{s:ByteArray}{W:World}{deep:Nat}(hd:deep=16) (en:Int) (fv:Value) (h:Rdr w R s p 0 0 W):
  Calls Tryz.prog 108 #[.pointer (some ⟨R,0,none⟩),.int .u8 en,.int .i64 deep,fv] W fun e W'=>e= .returned (.bool false)∧Rdr w R s p 84 (p:Int) W'∧W.grownBy W' (some R):=by
 subst hd;exact inside_deep en fv h
theorem listInv_kept {w:World}{R deep:Nat}(hR:R<w.heap.size) (p:J.T×List ByteArray) (W W':World) (h:ListInv w R deep p W) (g:W.grownBy W' (some R)):ListInv w R deep p W':=by
 obtain ⟨h1,h2,h3,t,ht,h4⟩:=h;exact ⟨by rw [g.block _ (Go.lt_of_block h1) (fun e=>by have:=Option.some.inj e;omega)];exact h1,by rw [g.block _ (Go.lt_of_block h2) (fun e=>by have:=Option.some.inj e;omega)];exact h2,h3,t,ht,h4.kept g (by omega) (by omega)⟩
theorem objInv_kept {w:World}{R deep:Nat}(hR:R<w.heap.size) (p:J.T×List ByteArray) (W W':World) (h:ObjInv w R deep p W) (g:W.grownBy W' (some R)):ObjInv w R deep p W':=by
 obtain ⟨h1,h2,t,ht,h4⟩:=h;exact ⟨by rw [g.block _ (Go.lt_of_block h1) (fun e=>by have:=Option.some.inj e;omega)];exact h1,by rw [g.block _ (Go.lt_of_block h2) (fun e=>by have:=Option.some.inj e;omega)];exact h2,t,ht,h4.kept g (by omega) (by omega)⟩
theorem enters47:∀args W,(callFunc 109 args).run Tryz.prog W= .ok (.enter 109 args) W:=enters_of Tryz.func109 (by kernel_rfl) rfl
theorem enters48:∀args W,(callFunc 110 args).run Tryz.prog W= .ok (.enter 110 args) W:=enters_of Tryz.func110 (by kernel_rfl) rfl
theorem brk_full {W0 W:World}{R k:Nat}{s:ByteArray}{x:J.Res J.V}{p':J.T×List ByteArray}{r:List UInt8}{t':J.T}{lv nv:Value}(hx:x= .ok (⟨k,false,0,⟨#[]⟩,p'.1,p'.2⟩,r)) (ht:t'.loose p'.1) (hst:VSt (W0.heap.size+3) (W0.heap.size+2) k t' p'.2 W) (hr:Rdr W0 R s (s.size-r.length) 0 0 W)
  (hv:W.heap[W0.heap.size+2]? =some (vRow k lv nv)):ValOf W0 R s x (.returned (.tuple #[.agg #[.int .u8 k,.bool false,.int .i64 0,.string ⟨#[]⟩,lv,nv],.bool true])) (pt6 W (W0.heap.size+2) (.int .u8 k) (.bool false) (.int .i64 0) (.string ⟨#[]⟩) lv nv):=
 Or.inl ⟨_,⟨k,false,0,⟨#[]⟩,t',p'.2⟩,r,_,hx,⟨rfl,rfl,rfl,rfl,rfl,Or.inl ht⟩,rfl,own_has hst hv,hr.under (pt6_below (Below.refl _ _) (by omega) _ _ _ _ _ _) (Nat.le_refl _)⟩
theorem brk_none {W0 W WF:World}{R:Nat}{s:ByteArray}{x:J.Res J.V}{p':J.T×List ByteArray}{r:List UInt8}(hx:x= .ok (⟨5,false,0,⟨#[]⟩,p'.1,p'.2⟩,r)) (hp:p'.2= []) (hr:Rdr W0 R s (s.size-r.length) 0 0 W) (hF:Below W0.heap.size W WF):
  ValOf W0 R s x (.returned (.tuple #[.agg #[.int .u8 5,.bool false,.int .i64 0,.string ⟨#[]⟩,.slice none 0 0,.slice none 0 0],.bool true])) WF:=
 Or.inl ⟨_,⟨5,false,0,⟨#[]⟩,.nil,[]⟩,r,_,hx,⟨rfl,rfl,rfl,rfl,hp.symm,Or.inr ⟨rfl,rfl⟩⟩,rfl,has_flat _ _ 5 false 0 ⟨#[]⟩,hr.under hF (Nat.le_refl _)⟩
theorem value_deep_l {G R:Nat}{s:ByteArray}{d deep:Nat}(_hGR:G≤R) (hs:s.size≤1000000000000) (p:Nat) (w:World) (hR:Rdr w R s p 0 0 w) (hp:p≤s.size) (_hG:Ground G w) (hB0:J.nextB s p=91) (hd0:d=0) (h16:deep=16):
  Calls Tryz.prog 57 #[.pointer (some ⟨R,0,none⟩),.int .i64 deep] w (ValOf w R s (J.val d (s.data.toList.drop p))):=by
 have hlt:=hR.lt;obtain ⟨RES,hRES⟩:∃x,J.val d (s.data.toList.drop p)=x:=⟨_,rfl⟩;rw [hRES];obtain ⟨q,hq⟩:∃q,J.nextP s p=q:=⟨_,rfl⟩;have hqs:q≤s.size:=by rw [←hq];exact J.nextP_le s p
 have hsk:=J.nextP_drop s p;have hN:=next_cases s p;obtain ⟨B,hB⟩:∃B,J.nextB s p=B:=⟨_,rfl⟩;rw [hq] at hN hsk;rw [hB] at hN;have hBv:B=91:=by rw [←hB];exact hB0
 clear hB0;obtain ⟨c,hqlt,hqc,hcs,hcb⟩:∃c,∃h:q<s.size,s[q]'h=c∧J.skip (s.data.toList.drop p)=c::s.data.toList.drop (q+1)∧B=c.toNat:=by
  rcases hN with ⟨_,_,h0⟩|h
  · omega
  · exact h
 have hcr:s.data.toList.drop q=c::s.data.toList.drop (q+1):=by rw [hsk,hcs]
 clear hN;have hc:c=91:=UInt8.toNat_inj.1 (show c.toNat=91 by omega);subst hc;have HRV:Hid (RES= .error (s.size-q,84)):=by show _=_;subst hd0;rw [←hRES,J.val_deep hcs (Or.inl rfl),drop_len,show s.size-(q+1)+1=s.size-q by omega]
 clear hcs hcr hsk hqc;have t_n:((B:Int)==110)=false:=beq_eq_false_iff_ne.2 (by omega);have t_t:((B:Int)==116)=false:=beq_eq_false_iff_ne.2 (by omega);have t_f:((B:Int)==102)=false:=beq_eq_false_iff_ne.2 (by omega);have t_m:((B:Int)==45)=false:=beq_eq_false_iff_ne.2 (by omega);have t_le:decide ((B:Int)≤57)=false:=decide_eq_false (by omega);have t_q:((B:Int)==34)=false:=beq_eq_false_iff_ne.2 (by omega);have t_l:((B:Int)==91)=true:=by rw [beq_iff_eq];omega
 have t_ge:decide ((48:Int)≤(B:Int))=true:=decide_eq_true (by omega);clear hBv hcb;have H16:=hid h16;clear h16;have HRS:=hid hRES;go_enter Tryz.func57,Tryz.ntmps57;go_upto_region 1 with fail;obtain ⟨w3,hw3⟩:∃w3,((w.alloc (.cells #[.pointer (some ⟨R,0,none⟩)] 145)).alloc (.cells #[.int .i64 deep] 3)).alloc (.cells #[.int .u8 0,.bool false,.int .i64 0,.string ⟨#[]⟩,.slice none 0 0,.slice none 0 0] 26)=w3:=⟨_,rfl⟩;have HB3:Hid (Bx w.heap.size R deep 0 (.slice none 0 0) (.slice none 0 0) w3):=by
  show Bx _ _ _ _ _ _ _;rw [←hw3];refine ⟨?_,?_,?_⟩
  · rw [Lib.alloc_old _ _ _ (by simp;omega),Lib.alloc_old _ _ _ (by simp)];exact heap_alloc_new w _
  · rw [Lib.alloc_old _ _ _ (by simp)];have:=heap_alloc_new (w.alloc (.cells #[.pointer (some ⟨R,0,none⟩)] 145)) (.cells #[.int .i64 deep] 3);simpa using this
  · have:=heap_alloc_new ((w.alloc (.cells #[.pointer (some ⟨R,0,none⟩)] 145)).alloc (.cells #[.int .i64 deep] 3)) (.cells #[.int .u8 0,.bool false,.int .i64 0,.string ⟨#[]⟩,.slice none 0 0,.slice none 0 0] 26);rw [show ((w.alloc (.cells #[.pointer (some ⟨R,0,none⟩)] 145)).alloc (.cells #[.int .i64 deep] 3)).heap.size=w.heap.size+2 by simp] at this;exact this
 have HR3:Hid (Rdr w R s p 0 0 w3):=by
  show Rdr _ _ _ _ _ _ _;rw [←hw3];exact ((hR.alloc _).alloc _).alloc _
 rw [hw3];have H33:Hid (w3.heap.size=w.heap.size+3):=by show _=_;rw [←hw3];simp
 clear hw3 hR hRES;have b0:=cell_of_one HB3.out.r;have cN:=next_own HR3.out hp (by omega);rw [hq,hB] at cN;clear hq;go_wp2_with fail;refine cN.mono ?_;rintro e w4 ⟨rfl,hr,hg⟩;have HR4:=hid hr;have HB4:=hid (HB3.out.kept hg hlt);have H43:Hid (w.heap.size+3≤w4.heap.size):=by show _≤_;have:=H33.out;have:=hg.size;omega
 clear hr hg cN HB3 HR3 b0 H33;have b0:=cell_of_one HB4.out.r;have b1:=cell_of_one HB4.out.d;obtain ⟨y0,y1,y2,y3,y4,y5⟩:=vcells HB4.out.v;obtain ⟨f0, -, -, -, -, -⟩:=vfree HB4.out.v;go_upto_region 14 with fail;have HB5:=hid (HB4.out.kind (k':=5));have HR5:=hid (HR4.out.under ((Below.refl w.heap.size w4).setCell (p:=⟨w.heap.size+2,0,none⟩) (by show _≤w.heap.size+2;omega) (.int .u8 5)) (Nat.le_refl _));clear y0 y1 y2 y3 y4 y5 f0 b0 b1 HB4 HR4 H43;generalize World.setCell w4 _ _=w5 at*;have b0:=cell_of_one HB5.out.r;have b1:=cell_of_one HB5.out.d;refine wp_region_till (S:=(fun w':World=>Bx w.heap.size R deep 5 (.slice none 0 0) (.slice none 0 0) w')) 5 (by kernel_rfl) ?_;have HS:=hid (show ((fun w':World=>Bx w.heap.size R deep 5 (.slice none 0 0) (.slice none 0 0) w')) _ from HB5.out.drew);refine tillA 3 (fun _=>HS.out) ?_;refine tillL 0 [0,5] (v:= ?v2) HS.out ?hy2 ?_
 case hy2=>
  intro w hSw;obtain ⟨v0,v1,v2,v3,v4,v5⟩:=vcells hSw.v;clear hSw;go_simp;try with_reducible rfl
 refine tillL 1 [1,4,5] (v:= ?v3) HS.out ?hy3 ?_
 case hy3=>
  intro w hSw;have b0:=cell_of_one hSw.r;clear hSw;go_simp;try with_reducible rfl
 refine tillL 2 [2,4,5] (v:= ?v4) HS.out ?hy4 ?_
 case hy4=>
  intro w hSw;have b1:=cell_of_one hSw.d;clear hSw;go_simp;try with_reducible rfl
 refine tillD1 4 (fun K hK=> ?step5)
 case step5=>
  go_simp;refine (inside_deep2 H16.out 93 _ HR5.out.drew).mono ?_;rintro e w6 ⟨rfl,hr,hg⟩;have HR6:=hid hr;have HB6:=hid (HB5.out.drew.kept hg hlt);clear hr hg;obtain ⟨v0,v1,v2,v3,v4,v5⟩:=vcells HB6.out.v;obtain ⟨f0,f1,f2,f3,f4,f5⟩:=vfree HB6.out.v;try dsimp only
  refine hK.out _ _ (fun _=>HB6.out) (fun hHeld=> ?_);have HS5:=hid (hHeld (by kernel_rfl));clear hHeld hK K;refine tillD1 5 (fun K hK=> ?step6)
  case step6=>
    go_simp;refine hK.out _ _ (fun hk=>by cases (show true=false from hk)) (fun _=> ?_);clear hK K;refine tillA 6 (fun hk=>by cases (show true=false from hk)) ?_;refine wpTill_done (by kernel_rfl) ?_ _;go_wp2_with fail;exact bodyPost_ret (v:= .tuple #[.agg #[.int .u8 5,.bool false,.int .i64 0,.string ⟨#[]⟩,.slice none 0 0,.slice none 0 0],.bool false]) (results_pair rfl _ _ (w.heap.size+2) 26 #[.int .u8 5,.bool false,.int .i64 0,.string ⟨#[]⟩,.slice none 0 0,.slice none 0 0] (0,0) _ (.bool false) rfl (pt6_row HB6.out.v _ _ _ _ _ _) rfl Tryz.underlying26 rfl infoJSON) rfl (val_err (cs:= [.int .u8 5,.bool false,.int .i64 0,.string ⟨#[]⟩,.slice none 0 0,.slice none 0 0]) ⟨_,_,_,_,_,_,_,_,_,_,rfl⟩ HRV.out hqs (by rw [show s.size-(s.size-q)=q by omega];exact HR6.out) (pt6_below (Below.refl _ _) (by omega) _ _ _ _ _ _))
theorem value_deep_o {G R:Nat}{s:ByteArray}{d deep:Nat}(_hGR:G≤R) (hs:s.size≤1000000000000) (p:Nat) (w:World) (hR:Rdr w R s p 0 0 w) (hp:p≤s.size) (_hG:Ground G w) (hB0:J.nextB s p=123) (hd0:d=0) (h16:deep=16):
  Calls Tryz.prog 57 #[.pointer (some ⟨R,0,none⟩),.int .i64 deep] w (ValOf w R s (J.val d (s.data.toList.drop p))):=by
 have hlt:=hR.lt;obtain ⟨RES,hRES⟩:∃x,J.val d (s.data.toList.drop p)=x:=⟨_,rfl⟩;rw [hRES];obtain ⟨q,hq⟩:∃q,J.nextP s p=q:=⟨_,rfl⟩;have hqs:q≤s.size:=by rw [←hq];exact J.nextP_le s p
 have hsk:=J.nextP_drop s p;have hN:=next_cases s p;obtain ⟨B,hB⟩:∃B,J.nextB s p=B:=⟨_,rfl⟩;rw [hq] at hN hsk;rw [hB] at hN;have hBv:B=123:=by rw [←hB];exact hB0
 clear hB0;obtain ⟨c,hqlt,hqc,hcs,hcb⟩:∃c,∃h:q<s.size,s[q]'h=c∧J.skip (s.data.toList.drop p)=c::s.data.toList.drop (q+1)∧B=c.toNat:=by
  rcases hN with ⟨_,_,h0⟩|h
  · omega
  · exact h
 have hcr:s.data.toList.drop q=c::s.data.toList.drop (q+1):=by rw [hsk,hcs]
 clear hN;have hc:c=123:=UInt8.toNat_inj.1 (show c.toNat=123 by omega);subst hc;have HRV:Hid (RES= .error (s.size-q,84)):=by show _=_;subst hd0;rw [←hRES,J.val_deep hcs (Or.inr rfl),drop_len,show s.size-(q+1)+1=s.size-q by omega]
 clear hcs hcr hsk hqc;have t_n:((B:Int)==110)=false:=beq_eq_false_iff_ne.2 (by omega);have t_t:((B:Int)==116)=false:=beq_eq_false_iff_ne.2 (by omega);have t_f:((B:Int)==102)=false:=beq_eq_false_iff_ne.2 (by omega);have t_m:((B:Int)==45)=false:=beq_eq_false_iff_ne.2 (by omega);have t_le:decide ((B:Int)≤57)=false:=decide_eq_false (by omega);have t_q:((B:Int)==34)=false:=beq_eq_false_iff_ne.2 (by omega);have t_l:((B:Int)==91)=false:=beq_eq_false_iff_ne.2 (by omega);have t_o:((B:Int)==123)=true:=by rw [beq_iff_eq];omega
 have t_ge:decide ((48:Int)≤(B:Int))=true:=decide_eq_true (by omega);clear hBv hcb;have H16:=hid h16;clear h16;have HRS:=hid hRES;go_enter Tryz.func57,Tryz.ntmps57;go_upto_region 1 with fail;obtain ⟨w3,hw3⟩:∃w3,((w.alloc (.cells #[.pointer (some ⟨R,0,none⟩)] 145)).alloc (.cells #[.int .i64 deep] 3)).alloc (.cells #[.int .u8 0,.bool false,.int .i64 0,.string ⟨#[]⟩,.slice none 0 0,.slice none 0 0] 26)=w3:=⟨_,rfl⟩;have HB3:Hid (Bx w.heap.size R deep 0 (.slice none 0 0) (.slice none 0 0) w3):=by
  show Bx _ _ _ _ _ _ _;rw [←hw3];refine ⟨?_,?_,?_⟩
  · rw [Lib.alloc_old _ _ _ (by simp;omega),Lib.alloc_old _ _ _ (by simp)];exact heap_alloc_new w _
  · rw [Lib.alloc_old _ _ _ (by simp)];have:=heap_alloc_new (w.alloc (.cells #[.pointer (some ⟨R,0,none⟩)] 145)) (.cells #[.int .i64 deep] 3);simpa using this
  · have:=heap_alloc_new ((w.alloc (.cells #[.pointer (some ⟨R,0,none⟩)] 145)).alloc (.cells #[.int .i64 deep] 3)) (.cells #[.int .u8 0,.bool false,.int .i64 0,.string ⟨#[]⟩,.slice none 0 0,.slice none 0 0] 26);rw [show ((w.alloc (.cells #[.pointer (some ⟨R,0,none⟩)] 145)).alloc (.cells #[.int .i64 deep] 3)).heap.size=w.heap.size+2 by simp] at this;exact this
 have HR3:Hid (Rdr w R s p 0 0 w3):=by
  show Rdr _ _ _ _ _ _ _;rw [←hw3];exact ((hR.alloc _).alloc _).alloc _
 rw [hw3];have H33:Hid (w3.heap.size=w.heap.size+3):=by show _=_;rw [←hw3];simp
 clear hw3 hR hRES;have b0:=cell_of_one HB3.out.r;have cN:=next_own HR3.out hp (by omega);rw [hq,hB] at cN;clear hq;go_wp2_with fail;refine cN.mono ?_;rintro e w4 ⟨rfl,hr,hg⟩;have HR4:=hid hr;have HB4:=hid (HB3.out.kept hg hlt);have H43:Hid (w.heap.size+3≤w4.heap.size):=by show _≤_;have:=H33.out;have:=hg.size;omega
 clear hr hg cN HB3 HR3 b0 H33;have b0:=cell_of_one HB4.out.r;have b1:=cell_of_one HB4.out.d;obtain ⟨y0,y1,y2,y3,y4,y5⟩:=vcells HB4.out.v;obtain ⟨f0, -, -, -, -, -⟩:=vfree HB4.out.v;go_upto_region 17 with fail;have HB5:=hid (HB4.out.kind (k':=6));have HR5:=hid (HR4.out.under ((Below.refl w.heap.size w4).setCell (p:=⟨w.heap.size+2,0,none⟩) (by show _≤w.heap.size+2;omega) (.int .u8 6)) (Nat.le_refl _));clear y0 y1 y2 y3 y4 y5 f0 b0 b1 HB4 HR4 H43;generalize World.setCell w4 _ _=w5 at*;have b0:=cell_of_one HB5.out.r;have b1:=cell_of_one HB5.out.d;go_wp2_with fail;refine (inside_deep2 H16.out 125 _ HR5.out).mono ?_;rintro e w6 ⟨rfl,hr,hg⟩;have HR6:=hid hr;have HB6:=hid (HB5.out.kept hg hlt);clear hr hg b0 b1;obtain ⟨v0,v1,v2,v3,v4,v5⟩:=vcells HB6.out.v;obtain ⟨f0,f1,f2,f3,f4,f5⟩:=vfree HB6.out.v;go_wp2_with fail;exact bodyPost_ret (v:= .tuple #[.agg #[.int .u8 6,.bool false,.int .i64 0,.string ⟨#[]⟩,.slice none 0 0,.slice none 0 0],.bool false]) (results_pair rfl _ _ (w.heap.size+2) 26 #[.int .u8 6,.bool false,.int .i64 0,.string ⟨#[]⟩,.slice none 0 0,.slice none 0 0] (0,0) _ (.bool false) rfl (pt6_row HB6.out.v _ _ _ _ _ _) rfl Tryz.underlying26 rfl infoJSON) rfl (val_err (cs:= [.int .u8 6,.bool false,.int .i64 0,.string ⟨#[]⟩,.slice none 0 0,.slice none 0 0]) ⟨_,_,_,_,_,_,_,_,_,_,rfl⟩ HRV.out hqs (by rw [show s.size-(s.size-q)=q by omega];exact HR6.out) (pt6_below (Below.refl _ _) (by omega) _ _ _ _ _ _))
theorem value_list {G R:Nat}{s:ByteArray}{d deep:Nat}(hGR:G≤R) (hs:s.size≤1000000000000) (p:Nat) (w:World) (hR:Rdr w R s p 0 0 w) (hp:p≤s.size) (hG:Ground G w) (hB0:J.nextB s p=91) {d':Nat}(hd0:d=d'+1) (hd:deep<16) (hV:ValC G R s d' (deep+1)):
  Calls Tryz.prog 57 #[.pointer (some ⟨R,0,none⟩),.int .i64 deep] w (ValOf w R s (J.val d (s.data.toList.drop p))):=by
 have hlt:=hR.lt;obtain ⟨RES,hRES⟩:∃x,J.val d (s.data.toList.drop p)=x:=⟨_,rfl⟩;rw [hRES];obtain ⟨q,hq⟩:∃q,J.nextP s p=q:=⟨_,rfl⟩;have hqs:q≤s.size:=by rw [←hq];exact J.nextP_le s p
 have hsk:=J.nextP_drop s p;have hN:=next_cases s p;obtain ⟨B,hB⟩:∃B,J.nextB s p=B:=⟨_,rfl⟩;rw [hq] at hN hsk;rw [hB] at hN;have hBv:B=91:=by rw [←hB];exact hB0
 clear hB0;obtain ⟨c,hqlt,hqc,hcs,hcb⟩:∃c,∃h:q<s.size,s[q]'h=c∧J.skip (s.data.toList.drop p)=c::s.data.toList.drop (q+1)∧B=c.toNat:=by
  rcases hN with ⟨_,_,h0⟩|h
  · omega
  · exact h
 have hcr:s.data.toList.drop q=c::s.data.toList.drop (q+1):=by rw [hsk,hcs]
 clear hN;have hc:c=91:=UInt8.toNat_inj.1 (show c.toNat=91 by omega);subst hc;have HRV:Hid (RES=J.on (fun p=>⟨5,false,0,⟨#[]⟩,p.1,p.2⟩) (J.inR (J.stepL (J.val d')) 93 (s.data.toList.drop q))):=by show _=_;subst hd0;rw [←hRES,J.val_list d' hcs,←hcr]
 clear hcs hcr hsk hqc;have t_n:((B:Int)==110)=false:=beq_eq_false_iff_ne.2 (by omega);have t_t:((B:Int)==116)=false:=beq_eq_false_iff_ne.2 (by omega);have t_f:((B:Int)==102)=false:=beq_eq_false_iff_ne.2 (by omega);have t_m:((B:Int)==45)=false:=beq_eq_false_iff_ne.2 (by omega);have t_le:decide ((B:Int)≤57)=false:=decide_eq_false (by omega);have t_q:((B:Int)==34)=false:=beq_eq_false_iff_ne.2 (by omega);have t_l:((B:Int)==91)=true:=by rw [beq_iff_eq];omega
 have t_ge:decide ((48:Int)≤(B:Int))=true:=decide_eq_true (by omega);clear hBv hcb;have HRS:=hid hRES;go_enter Tryz.func57,Tryz.ntmps57;go_upto_region 1 with fail;obtain ⟨w3,hw3⟩:∃w3,((w.alloc (.cells #[.pointer (some ⟨R,0,none⟩)] 145)).alloc (.cells #[.int .i64 deep] 3)).alloc (.cells #[.int .u8 0,.bool false,.int .i64 0,.string ⟨#[]⟩,.slice none 0 0,.slice none 0 0] 26)=w3:=⟨_,rfl⟩;have HB3:Hid (Bx w.heap.size R deep 0 (.slice none 0 0) (.slice none 0 0) w3):=by
  show Bx _ _ _ _ _ _ _;rw [←hw3];refine ⟨?_,?_,?_⟩
  · rw [Lib.alloc_old _ _ _ (by simp;omega),Lib.alloc_old _ _ _ (by simp)];exact heap_alloc_new w _
  · rw [Lib.alloc_old _ _ _ (by simp)];have:=heap_alloc_new (w.alloc (.cells #[.pointer (some ⟨R,0,none⟩)] 145)) (.cells #[.int .i64 deep] 3);simpa using this
  · have:=heap_alloc_new ((w.alloc (.cells #[.pointer (some ⟨R,0,none⟩)] 145)).alloc (.cells #[.int .i64 deep] 3)) (.cells #[.int .u8 0,.bool false,.int .i64 0,.string ⟨#[]⟩,.slice none 0 0,.slice none 0 0] 26);rw [show ((w.alloc (.cells #[.pointer (some ⟨R,0,none⟩)] 145)).alloc (.cells #[.int .i64 deep] 3)).heap.size=w.heap.size+2 by simp] at this;exact this
 have HR3:Hid (Rdr w R s p 0 0 w3):=by
  show Rdr _ _ _ _ _ _ _;rw [←hw3];exact ((hR.alloc _).alloc _).alloc _
 rw [hw3];have H33:Hid (w3.heap.size=w.heap.size+3):=by show _=_;rw [←hw3];simp
 clear hw3 hR hRES;have b0:=cell_of_one HB3.out.r;have cN:=next_own HR3.out hp (by omega);rw [hq,hB] at cN;clear hq;go_wp2_with fail;refine cN.mono ?_;rintro e w4 ⟨rfl,hr,hg⟩;have HR4:=hid hr;have HB4:=hid (HB3.out.kept hg hlt);have H43:Hid (w.heap.size+3≤w4.heap.size):=by show _≤_;have:=H33.out;have:=hg.size;omega
 clear hr hg cN HB3 HR3 b0 H33;have b0:=cell_of_one HB4.out.r;have b1:=cell_of_one HB4.out.d;obtain ⟨y0,y1,y2,y3,y4,y5⟩:=vcells HB4.out.v;obtain ⟨f0, -, -, -, -, -⟩:=vfree HB4.out.v;go_upto_region 14 with fail;have HB5:=hid (HB4.out.kind (k':=5));have HR5:=hid (HR4.out.under ((Below.refl w.heap.size w4).setCell (p:=⟨w.heap.size+2,0,none⟩) (by show _≤w.heap.size+2;omega) (.int .u8 5)) (Nat.le_refl _));clear y0 y1 y2 y3 y4 y5 f0 b0 b1 HB4 HR4 H43;generalize World.setCell w4 _ _=w5 at*;have b0:=cell_of_one HB5.out.r;have b1:=cell_of_one HB5.out.d;refine wp_region_till (S:=(fun w':World=>Bx w.heap.size R deep 5 (.slice none 0 0) (.slice none 0 0) w')) 4 (by kernel_rfl) ?_;have HS:=hid (show ((fun w':World=>Bx w.heap.size R deep 5 (.slice none 0 0) (.slice none 0 0) w')) _ from HB5.out.drew);refine tillA 3 (fun _=>HS.out) ?_;refine tillL 1 [1,4] (v:= ?v9) HS.out ?hy9 ?_
 case hy9=>
  intro w hSw;have b0:=cell_of_one hSw.r;clear hSw;go_simp;try with_reducible rfl
 refine tillL 2 [2,4] (v:= ?v10) HS.out ?hy10 ?_
 case hy10=>
  intro w hSw;have b1:=cell_of_one hSw.d;clear hSw;go_simp;try with_reducible rfl
 refine tillD 0 [4] (fun K hK=> ?step11) ?more11
 case step11=>
  obtain ⟨v0,v1,v2,v3,v4,v5⟩:=vcells HB5.out.v;obtain ⟨f0,f1,f2,f3,f4,f5⟩:=vfree HB5.out.v;go_simp;clear v0 v1 v2 v3 v4 v5 f0 f1 f2 f3 f4 f5;refine hK.out _ _ (fun _=>HB5.out.drew) (fun hHeld=> ?_);have HS11:=hid (hHeld (by kernel_rfl));clear hHeld hK K;refine tillD1 4 (fun K hK=> ?step12)
  case step12=>
    go_simp;refine (inside_any (w:=w) (one:=J.stepL (J.val d')) 93 ⟨by decide,by decide⟩ deep hd enters47 (J.stepL_steps d') (list_one hV hG hGR hd hs) (listInv_kept hlt) (fun p W h=>VSt.bad h.2.2.2.choose_spec.2) HR5.out.drew ⟨HB5.out.r,HB5.out.d,rfl,.nil,trivial,VSt.first 5 HB5.out.v⟩ hqlt hs).mono ?_;intro e w6 hen;rcases hen with ⟨p',r,hx,rfl,hr,hi⟩|⟨n,er,q',hx,hq',rfl,hr,hb⟩
    · obtain ⟨-, -,hp2,t',ht',hst⟩:=hi;obtain ⟨a1,l1,c1,a2,l2,c2,hvr⟩:=hst.row;have HVR:=hid hvr;obtain ⟨v0,v1,v2,v3,v4,v5⟩:=vcells hvr;obtain ⟨f0,f1,f2,f3,f4,f5⟩:=vfree hvr;have HR6:=hid hr;have HX:=hid (show _∧_∧_∧_ from ⟨hx,hp2,ht',hst⟩);clear hvr hr hx hp2 ht' hst;try dsimp only
      refine hK.out _ _ (fun hk=>by cases (show true=false from hk)) (fun _=> ?_);clear hK K;refine tillD1 5 (fun K hK=> ?step13)
      case step13=>
       go_simp;refine hK.out _ _ (fun hk=>by cases (show true=false from hk)) (fun _=> ?_);clear hK K;refine tillA 6 (fun hk=>by cases (show true=false from hk)) ?_;refine wpTill_done (by kernel_rfl) ?_ _;go_wp2_with fail;exact bodyPost_ret (v:= .tuple #[.agg #[.int .u8 5,.bool false,.int .i64 0,.string ⟨#[]⟩,.slice none 0 0,.slice none 0 0],.bool true]) (results_pair rfl _ _ (w.heap.size+2) 26 #[.int .u8 5,.bool false,.int .i64 0,.string ⟨#[]⟩,.slice none 0 0,.slice none 0 0] (0,0) _ (.bool true) rfl (pt6_row HVR.out _ _ _ _ _ _) rfl Tryz.underlying26 rfl infoJSON) rfl (brk_none (x:=RES) (by rw [HRV.out,HX.out.1];rfl) HX.out.2.1 HR6.out (pt6_below (Below.refl _ _) (by omega) _ _ _ _ _ _))
    · obtain ⟨k5,a1,l1,c1,a2,l2,c2,hvr⟩:=hb;have HVR:=hid hvr;obtain ⟨v0,v1,v2,v3,v4,v5⟩:=vcells hvr;obtain ⟨f0,f1,f2,f3,f4,f5⟩:=vfree hvr;have HR6:=hid hr;have HX:=hid (show _∧_ from ⟨hx,hq'⟩);clear hvr hr hx hq';try dsimp only
      refine hK.out _ _ (fun hk=>by cases (show true=false from hk)) (fun _=> ?_);clear hK K;refine tillD1 5 (fun K hK=> ?step15)
      case step15=>
       go_simp;refine hK.out _ _ (fun hk=>by cases (show true=false from hk)) (fun _=> ?_);clear hK K;refine tillA 6 (fun hk=>by cases (show true=false from hk)) ?_;refine wpTill_done (by kernel_rfl) ?_ _;go_wp2_with fail;exact bodyPost_ret (v:= .tuple #[.agg #[.int .u8 5,.bool false,.int .i64 0,.string ⟨#[]⟩,.slice none 0 0,.slice none 0 0],.bool false]) (results_pair rfl _ _ (w.heap.size+2) 26 #[.int .u8 5,.bool false,.int .i64 0,.string ⟨#[]⟩,.slice none 0 0,.slice none 0 0] (0,0) _ (.bool false) rfl (pt6_row HVR.out _ _ _ _ _ _) rfl Tryz.underlying26 rfl infoJSON) rfl (val_err (x:=RES) (cs:= [.int .u8 5,.bool false,.int .i64 0,.string ⟨#[]⟩,.slice none 0 0,.slice none 0 0]) ⟨_,_,_,_,_,_,_,_,_,_,rfl⟩ (by rw [HRV.out,HX.out.1];rfl) HX.out.2 HR6.out (pt6_below (Below.refl _ _) (by omega) _ _ _ _ _ _))
 case more11=>
  refine AllTill.consH (o:= ?oi17) ?ho17 (fun K hK=> ?step17) ?more17
  case ho17=>rfl
  case step17=>
    go_simp;refine (inside_any (w:=w) (one:=J.stepL (J.val d')) 93 ⟨by decide,by decide⟩ deep hd enters47 (J.stepL_steps d') (list_one hV hG hGR hd hs) (listInv_kept hlt) (fun p W h=>VSt.bad h.2.2.2.choose_spec.2) HR5.out.drew ⟨HB5.out.r,HB5.out.d,rfl,.nil,trivial,VSt.first 5 HB5.out.v⟩ hqlt hs).mono ?_;intro e w6 hen;rcases hen with ⟨p',r,hx,rfl,hr,hi⟩|⟨n,er,q',hx,hq',rfl,hr,hb⟩
    · obtain ⟨-, -,hp2,t',ht',hst⟩:=hi;obtain ⟨a1,l1,c1,a2,l2,c2,hvr⟩:=hst.row;have HVR:=hid hvr;obtain ⟨v0,v1,v2,v3,v4,v5⟩:=vcells hvr;obtain ⟨f0,f1,f2,f3,f4,f5⟩:=vfree hvr;have HR6:=hid hr;have HX:=hid (show _∧_∧_∧_ from ⟨hx,hp2,ht',hst⟩);clear hvr hr hx hp2 ht' hst;try dsimp only
      refine hK.out _ _ (fun hk=>by cases (show true=false from hk)) (fun _=> ?_);clear hK K;refine tillD1 0 (fun K hK=> ?step18)
      case step18=>
       go_simp;refine hK.out _ _ (fun hk=>by cases (show true=false from hk)) (fun _=> ?_);clear hK K;refine tillD1 5 (fun K hK=> ?step19)
       case step19=>
        go_simp;refine hK.out _ _ (fun hk=>by cases (show true=false from hk)) (fun _=> ?_);clear hK K;refine tillA 6 (fun hk=>by cases (show true=false from hk)) ?_;refine wpTill_done (by kernel_rfl) ?_ _;go_wp2_with fail;exact bodyPost_ret (v:= .tuple #[.agg #[.int .u8 5,.bool false,.int .i64 0,.string ⟨#[]⟩,.slice a1 l1 c1,.slice a2 l2 c2],.bool true]) (results_pair rfl _ _ (w.heap.size+2) 26 #[.int .u8 5,.bool false,.int .i64 0,.string ⟨#[]⟩,.slice a1 l1 c1,.slice a2 l2 c2] (0,0) _ (.bool true) rfl (pt6_row HVR.out _ _ _ _ _ _) rfl Tryz.underlying26 rfl infoJSON) rfl (brk_full (x:=RES) (k:=5) (by rw [HRV.out,HX.out.1];rfl) HX.out.2.2.1 (by rw [HX.out.2.1];exact HX.out.2.2.2) HR6.out HVR.out)
    · obtain ⟨k5,a1,l1,c1,a2,l2,c2,hvr⟩:=hb;have HVR:=hid hvr;obtain ⟨v0,v1,v2,v3,v4,v5⟩:=vcells hvr;obtain ⟨f0,f1,f2,f3,f4,f5⟩:=vfree hvr;have HR6:=hid hr;have HX:=hid (show _∧_ from ⟨hx,hq'⟩);clear hvr hr hx hq';try dsimp only
      refine hK.out _ _ (fun hk=>by cases (show true=false from hk)) (fun _=> ?_);clear hK K;refine tillD1 0 (fun K hK=> ?step21)
      case step21=>
       go_simp;refine hK.out _ _ (fun hk=>by cases (show true=false from hk)) (fun _=> ?_);clear hK K;refine tillD1 5 (fun K hK=> ?step22)
       case step22=>
        go_simp;refine hK.out _ _ (fun hk=>by cases (show true=false from hk)) (fun _=> ?_);clear hK K;refine tillA 6 (fun hk=>by cases (show true=false from hk)) ?_;refine wpTill_done (by kernel_rfl) ?_ _;go_wp2_with fail;exact bodyPost_ret (v:= .tuple #[.agg #[.int .u8 k5,.bool false,.int .i64 0,.string ⟨#[]⟩,.slice a1 l1 c1,.slice a2 l2 c2],.bool false]) (results_pair rfl _ _ (w.heap.size+2) 26 #[.int .u8 k5,.bool false,.int .i64 0,.string ⟨#[]⟩,.slice a1 l1 c1,.slice a2 l2 c2] (0,0) _ (.bool false) rfl (pt6_row HVR.out _ _ _ _ _ _) rfl Tryz.underlying26 rfl infoJSON) rfl (val_err (x:=RES) (cs:= [.int .u8 k5,.bool false,.int .i64 0,.string ⟨#[]⟩,.slice a1 l1 c1,.slice a2 l2 c2]) ⟨_,_,_,_,_,_,_,_,_,_,rfl⟩ (by rw [HRV.out,HX.out.1];rfl) HX.out.2 HR6.out (pt6_below (Below.refl _ _) (by omega) _ _ _ _ _ _))
  case more17=>
    exact AllTill.nil
theorem value_obj {G R:Nat}{s:ByteArray}{d deep:Nat}(hGR:G≤R) (hs:s.size≤1000000000000) (p:Nat) (w:World) (hR:Rdr w R s p 0 0 w) (hp:p≤s.size) (hG:Ground G w) (hB0:J.nextB s p=123) {d':Nat}(hd0:d=d'+1) (hd:deep<16) (hV:ValC G R s d' (deep+1)):
   Calls Tryz.prog 57 #[.pointer (some ⟨R,0,none⟩),.int .i64 deep] w (ValOf w R s (J.val d (s.data.toList.drop p))):=by
 have hlt:=hR.lt;obtain ⟨RES,hRES⟩:∃x,J.val d (s.data.toList.drop p)=x:=⟨_,rfl⟩;rw [hRES];obtain ⟨q,hq⟩:∃q,J.nextP s p=q:=⟨_,rfl⟩;have hqs:q≤s.size:=by rw [←hq];exact J.nextP_le s p
 have hsk:=J.nextP_drop s p;have hN:=next_cases s p;obtain ⟨B,hB⟩:∃B,J.nextB s p=B:=⟨_,rfl⟩;rw [hq] at hN hsk;rw [hB] at hN;have hBv:B=123:=by rw [←hB];exact hB0
 clear hB0;obtain ⟨c,hqlt,hqc,hcs,hcb⟩:∃c,∃h:q<s.size,s[q]'h=c∧J.skip (s.data.toList.drop p)=c::s.data.toList.drop (q+1)∧B=c.toNat:=by
   rcases hN with ⟨_,_,h0⟩|h
   · omega
   · exact h
 have hcr:s.data.toList.drop q=c::s.data.toList.drop (q+1):=by rw [hsk,hcs]
 clear hN;have hc:c=123:=UInt8.toNat_inj.1 (show c.toNat=123 by omega);subst hc;have HRV:Hid (RES=J.on (fun p=>⟨6,false,0,⟨#[]⟩,p.1,p.2⟩) (J.inR (J.stepO (J.val d')) 125 (s.data.toList.drop q))):=by show _=_;subst hd0;rw [←hRES,J.val_obj d' hcs,←hcr]
 clear hcs hcr hsk hqc;have t_n:((B:Int)==110)=false:=beq_eq_false_iff_ne.2 (by omega);have t_t:((B:Int)==116)=false:=beq_eq_false_iff_ne.2 (by omega);have t_f:((B:Int)==102)=false:=beq_eq_false_iff_ne.2 (by omega);have t_m:((B:Int)==45)=false:=beq_eq_false_iff_ne.2 (by omega);have t_le:decide ((B:Int)≤57)=false:=decide_eq_false (by omega);have t_q:((B:Int)==34)=false:=beq_eq_false_iff_ne.2 (by omega);have t_l:((B:Int)==91)=false:=beq_eq_false_iff_ne.2 (by omega);have t_o:((B:Int)==123)=true:=by rw [beq_iff_eq];omega
 have t_ge:decide ((48:Int)≤(B:Int))=true:=decide_eq_true (by omega);clear hBv hcb;have HRS:=hid hRES;go_enter Tryz.func57,Tryz.ntmps57;go_upto_region 1 with fail;obtain ⟨w3,hw3⟩:∃w3,((w.alloc (.cells #[.pointer (some ⟨R,0,none⟩)] 145)).alloc (.cells #[.int .i64 deep] 3)).alloc (.cells #[.int .u8 0,.bool false,.int .i64 0,.string ⟨#[]⟩,.slice none 0 0,.slice none 0 0] 26)=w3:=⟨_,rfl⟩;have HB3:Hid (Bx w.heap.size R deep 0 (.slice none 0 0) (.slice none 0 0) w3):=by
   show Bx _ _ _ _ _ _ _;rw [←hw3];refine ⟨?_,?_,?_⟩
   · rw [Lib.alloc_old _ _ _ (by simp;omega),Lib.alloc_old _ _ _ (by simp)];exact heap_alloc_new w _
   · rw [Lib.alloc_old _ _ _ (by simp)];have:=heap_alloc_new (w.alloc (.cells #[.pointer (some ⟨R,0,none⟩)] 145)) (.cells #[.int .i64 deep] 3);simpa using this
   · have:=heap_alloc_new ((w.alloc (.cells #[.pointer (some ⟨R,0,none⟩)] 145)).alloc (.cells #[.int .i64 deep] 3)) (.cells #[.int .u8 0,.bool false,.int .i64 0,.string ⟨#[]⟩,.slice none 0 0,.slice none 0 0] 26);rw [show ((w.alloc (.cells #[.pointer (some ⟨R,0,none⟩)] 145)).alloc (.cells #[.int .i64 deep] 3)).heap.size=w.heap.size+2 by simp] at this;exact this
 have HR3:Hid (Rdr w R s p 0 0 w3):=by
   show Rdr _ _ _ _ _ _ _;rw [←hw3];exact ((hR.alloc _).alloc _).alloc _
 rw [hw3];have H33:Hid (w3.heap.size=w.heap.size+3):=by show _=_;rw [←hw3];simp
 clear hw3 hR hRES;have b0:=cell_of_one HB3.out.r;have cN:=next_own HR3.out hp (by omega);rw [hq,hB] at cN;clear hq;go_wp2_with fail;refine cN.mono ?_;rintro e w4 ⟨rfl,hr,hg⟩;have HR4:=hid hr;have HB4:=hid (HB3.out.kept hg hlt);have H43:Hid (w.heap.size+3≤w4.heap.size):=by show _≤_;have:=H33.out;have:=hg.size;omega
 clear hr hg cN HB3 HR3 b0 H33;have b0:=cell_of_one HB4.out.r;have b1:=cell_of_one HB4.out.d;obtain ⟨y0,y1,y2,y3,y4,y5⟩:=vcells HB4.out.v;obtain ⟨f0, -, -, -, -, -⟩:=vfree HB4.out.v;go_upto_region 17 with fail;have HB5:=hid (HB4.out.kind (k':=6));have HR5:=hid (HR4.out.under ((Below.refl w.heap.size w4).setCell (p:=⟨w.heap.size+2,0,none⟩) (by show _≤w.heap.size+2;omega) (.int .u8 6)) (Nat.le_refl _));clear y0 y1 y2 y3 y4 y5 f0 b0 b1 HB4 HR4 H43;generalize World.setCell w4 _ _=w5 at*;have b0:=cell_of_one HB5.out.r;have b1:=cell_of_one HB5.out.d;go_wp2_with fail;refine (inside_any (w:=w) (one:=J.stepO (J.val d')) 125 ⟨by decide,by decide⟩ deep hd enters48 (J.stepO_steps d') (obj_one hV hG hGR hd hs) (objInv_kept hlt) (fun p W h=>VSt.bad h.2.2.choose_spec.2) HR5.out ⟨HB5.out.r,HB5.out.d,.nil,trivial,VSt.first 6 HB5.out.v⟩ hqlt hs).mono ?_;intro e w6 hen;clear b0 b1;rcases hen with ⟨p',r,hx,rfl,hr,hi⟩|⟨n,er,q',hx,hq',rfl,hr,hb⟩
 · obtain ⟨-, -,t',ht',hst⟩:=hi;obtain ⟨a1,l1,c1,a2,l2,c2,hvr⟩:=hst.row;have HVR:=hid hvr;obtain ⟨v0,v1,v2,v3,v4,v5⟩:=vcells hvr;obtain ⟨f0,f1,f2,f3,f4,f5⟩:=vfree hvr;have HR6:=hid hr;have HX:=hid (show _∧_∧_ from ⟨hx,ht',hst⟩);clear hvr hr hx ht' hst;go_wp2_with fail;exact bodyPost_ret (v:= .tuple #[.agg #[.int .u8 6,.bool false,.int .i64 0,.string ⟨#[]⟩,.slice a1 l1 c1,.slice a2 l2 c2],.bool true]) (results_pair rfl _ _ (w.heap.size+2) 26 #[.int .u8 6,.bool false,.int .i64 0,.string ⟨#[]⟩,.slice a1 l1 c1,.slice a2 l2 c2] (0,0) _ (.bool true) rfl (pt6_row HVR.out _ _ _ _ _ _) rfl Tryz.underlying26 rfl infoJSON) rfl (brk_full (x:=RES) (k:=6) (by rw [HRV.out,HX.out.1];rfl) HX.out.2.1 HX.out.2.2 HR6.out HVR.out)
 · obtain ⟨k5,a1,l1,c1,a2,l2,c2,hvr⟩:=hb;have HVR:=hid hvr;obtain ⟨v0,v1,v2,v3,v4,v5⟩:=vcells hvr;obtain ⟨f0,f1,f2,f3,f4,f5⟩:=vfree hvr;have HR6:=hid hr;have HX:=hid (show _∧_ from ⟨hx,hq'⟩);clear hvr hr hx hq';go_wp2_with fail;exact bodyPost_ret (v:= .tuple #[.agg #[.int .u8 k5,.bool false,.int .i64 0,.string ⟨#[]⟩,.slice a1 l1 c1,.slice a2 l2 c2],.bool false]) (results_pair rfl _ _ (w.heap.size+2) 26 #[.int .u8 k5,.bool false,.int .i64 0,.string ⟨#[]⟩,.slice a1 l1 c1,.slice a2 l2 c2] (0,0) _ (.bool false) rfl (pt6_row HVR.out _ _ _ _ _ _) rfl Tryz.underlying26 rfl infoJSON) rfl (val_err (x:=RES) (cs:= [.int .u8 k5,.bool false,.int .i64 0,.string ⟨#[]⟩,.slice a1 l1 c1,.slice a2 l2 c2]) ⟨_,_,_,_,_,_,_,_,_,_,rfl⟩ (by rw [HRV.out,HX.out.1];rfl) HX.out.2 HR6.out (pt6_below (Below.refl _ _) (by omega) _ _ _ _ _ _))
theorem value_by {G R:Nat}{s:ByteArray}{d deep:Nat}(hGR:G≤R) (hs:s.size≤1000000000000) (p:Nat) (w:World) (hR:Rdr w R s p 0 0 w) (hp:p≤s.size) (hG:Ground G w)
   (hl:J.nextB s p=91→Calls Tryz.prog 57 #[.pointer (some ⟨R,0,none⟩),.int .i64 deep] w (ValOf w R s (J.val d (s.data.toList.drop p)))) (ho:J.nextB s p=123→Calls Tryz.prog 57 #[.pointer (some ⟨R,0,none⟩),.int .i64 deep] w (ValOf w R s (J.val d (s.data.toList.drop p)))):
   Calls Tryz.prog 57 #[.pointer (some ⟨R,0,none⟩),.int .i64 deep] w (ValOf w R s (J.val d (s.data.toList.drop p))):=by
 by_cases h1:J.nextB s p=110
 · exact value_null hGR hs p w hR hp hG h1
 by_cases h2:J.nextB s p=116
 · exact value_true hGR hs p w hR hp hG h2
 by_cases h3:J.nextB s p=102
 · exact value_false hGR hs p w hR hp hG h3
 by_cases h4:J.nextB s p=45
 · exact value_neg hGR hs p w hR hp hG h4
 by_cases h5:48≤J.nextB s p∧J.nextB s p≤57
 · exact value_dig hGR hs p w hR hp hG h5
 by_cases h6:J.nextB s p=34
 · exact value_text hGR hs p w hR hp hG h6
 by_cases h7:J.nextB s p=91
 · exact hl h7
 by_cases h8:J.nextB s p=123
 · exact ho h8
 by_cases h9:(48:Int)≤(J.nextB s p:Int)
 · exact value_bad_hi hGR hs p w hR hp hG ⟨h1,h2,h3,h4,h5,h6,h7,h8⟩ (decide_eq_true h9)
 · exact value_bad_lo hGR hs p w hR hp hG ⟨h1,h2,h3,h4,h5,h6,h7,h8⟩ (decide_eq_false h9)
theorem value_any {G R:Nat}{s:ByteArray}(hGR:G≤R) (hs:s.size≤1000000000000):∀(d deep:Nat),d+deep=16→ValC G R s d deep:=by
 intro d;induction d with
 | zero=>
   intro deep he p w hR hp hG;exact value_by hGR hs p w hR hp hG (fun h=>value_deep_l hGR hs p w hR hp hG h rfl (by omega)) (fun h=>value_deep_o hGR hs p w hR hp hG h rfl (by omega))
 | succ d ih=>
   intro deep he p w hR hp hG;have hV:=ih (deep+1) (by omega);exact value_by hGR hs p w hR hp hG (fun h=>value_list hGR hs p w hR hp hG h rfl (by omega) hV) (fun h=>value_obj hGR hs p w hR hp hG h rfl (by omega) hV)
end Go.Proofs.YtohkomndapngjaaGreatDoor

