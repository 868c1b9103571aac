/- fields at the kinds whose maps are laid in any order. -/
import Derived.Test.YtohkomndapngjaaGreatDoorRC23
import Derived.Test.YtohkomndapngjaaGreatDoorRC25
namespace Go.Proofs.YtohkomndapngjaaGreatDoor
set_option maxRecDepth 100000
set_option maxHeartbeats 16000000
open Go.RowKit Go.Maps
open Go.Lib (hid)
namespace R
theorem ins_one {α:Type}(p:α):(p:: []).Perm [p]:=List.Perm.refl _
theorem ins_right {α:Type}{p:α}{x y:List α}(a:List α) (h:(p::x).Perm y):(p::(a++x)).Perm (a++y):=(List.perm_middle (a:=p) (l₁:=a) (l₂:=x)).symm.trans (h.append_left a)
theorem ins_left {α:Type}{p:α}{x y:List α}(c:List α) (h:(p::x).Perm y):(p::(x++c)).Perm (y++c):=h.append_right c
end R
structure FJ2 (w:World) (T:Nat) (b0 b1 b2 b3 b4 b5 b6 b7:Bool) (u9 u10 u11 u12 u13 u2:Value) (W:World):Prop where
 m:b0=true→∃M L,u9= .map (some M)∧w.heap.size≤M∧T≠M∧W.ownsMap Tryz.prog 9 R.fieldR M L.length (R.mapD R.fieldD L)∧L.Perm ((if b5=true then [(R.fVars,(⟨R.fVars,false,6,5⟩:R.F))] else [])++(if b3=true then [(R.fModel,(⟨R.fModel,true,4,0⟩:R.F))] else []))
 x:W.heap[T]? =some (.cells #[.bool false,.int .u8 6,(.func (.func 115) #[] #[])] 154 (0,0))
 bl:Below w.heap.size w W
 v1:b1=true→u10= .func (.func 114) #[] #[]
 v2:b2=true→u11= .agg #[.bool true,.int .u8 4,.func (.func 116) #[] #[]]
 i3:b3=true→b0=true
 v4:b4=true→u12= .agg #[.bool false,.int .u8 6,(.func (.func 115) #[] #[])]
 i5:b5=true→b0=true
 v6:b6=true→u13=u9
 i6:b6=true→b0=true
 v7:b7=true→u2=u9
 i7:b7=true→b0=true
theorem fields_2 (w:World):Calls Tryz.prog 60 #[.int .u8 2] w fun e W=> ∃v,e= .returned v∧MapF W w.heap.size 2 v∧Below w.heap.size w W:=by
 obtain ⟨T,hT⟩:∃T,w.heap.size=T:=⟨_,rfl⟩;obtain ⟨w0,hw0⟩:∃w0,w.alloc (.cells #[.bool false,.int .u8 6,(.func (.func 115) #[] #[])] 154)=w0:=⟨_,rfl⟩;have hv0:w0.heap[T]? =some (.cells #[.bool false,.int .u8 6,(.func (.func 115) #[] #[])] 154 (0,0)):=by rw [←hw0,←hT];exact heap_alloc_new w _
 have HB0:Hid (Below w.heap.size w w0):=by show Below _ _ _;rw [←hw0];exact (Below.refl _ w).alloc (Nat.le_refl _) _
 have HV0:=hid hv0;have HW0:=hid hw0;have HT:=hid hT;clear hw0 hv0 hT;go_enter Tryz.func60,Tryz.ntmps60;go_upto_region 5 with fail;rw [HW0.out,HT.out];clear HW0;have hmm:=@run_makeMap Tryz.prog;refine wp_region_inv (fun listed a W=> ∃b0 b1 b2 b3 b4 b5 b6 b7 u9 u10 u11 u12 u13 u2,listed= #[b0,b1,b2,b3,b4,b5,b6,b7]∧a=⟨#[.int .u8 2,undef,u2,.func (.func 114) #[] #[],.pointer (some ⟨T,0,none⟩),.agg #[.bool false,.int .u8 6,(.func (.func 115) #[] #[])],.int .u8 2,.bool true,.bool true,u9,u10,u11,u12,u13,undef,undef,undef,undef,undef,undef,undef,undef,undef,undef,undef,undef,undef,undef,undef,undef,undef,undef,undef,undef,undef,undef,undef,undef,undef,undef,undef,undef,undef,undef,undef,undef,undef,undef,undef,undef,undef,undef,undef,undef,undef,undef,undef,undef,undef,undef,undef,undef],[]⟩∧FJ2 w T b0 b1 b2 b3 b4 b5 b6 b7 u9 u10 u11 u12 u13 u2 W) (by kernel_rfl) ?_ ?_ ?_
 · exact ⟨false,false,false,false,false,false,false,false,undef,undef,undef,undef,undef,.map none,rfl,rfl,{ m:=fun h=>(by cases h),x:=HV0.out,bl:=HB0.out.drew,v1:=fun h=>(by cases h),v2:=fun h=>(by cases h),i3:=fun h=>(by cases h),v4:=fun h=>(by cases h),i5:=fun h=>(by cases h),v6:=fun h=>(by cases h),i6:=fun h=>(by cases h),v7:=fun h=>(by cases h),i7:=fun h=>(by cases h) }⟩
 · rintro listed a W ⟨b0,b1,b2,b3,b4,b5,b6,b7,u9,u10,u11,u12,u13,u2,rfl,rfl,HJ⟩ hr;have no:∀j,j ∉ Region.ready Region.Mode.any _ _:=fun j h=>by rw [hr] at h;cases h
   clear hr;obtain rfl:b0=true:=by
     cases b0 with
     | true=>rfl
     | false=>
       refine absurd (mem_ready.2 ⟨rfl,_,rfl,?_⟩) (no 0);intro e he _;simp at he
   obtain rfl:b1=true:=by
     cases b1 with
     | true=>rfl
     | false=>
       refine absurd (mem_ready.2 ⟨rfl,_,rfl,?_⟩) (no 1);intro e he _;simp at he
   obtain rfl:b2=true:=by
     cases b2 with
     | true=>rfl
     | false=>
       refine absurd (mem_ready.2 ⟨rfl,_,rfl,?_⟩) (no 2);intro e he _;simp at he;(repeat (rcases he with he|he; · subst he;rfl))
       subst he;rfl
   obtain rfl:b3=true:=by
     cases b3 with
     | true=>rfl
     | false=>
       refine absurd (mem_ready.2 ⟨rfl,_,rfl,?_⟩) (no 3);intro e he _;simp at he;(repeat (rcases he with he|he; · subst he;rfl))
       subst he;rfl
   obtain rfl:b4=true:=by
     cases b4 with
     | true=>rfl
     | false=>
       refine absurd (mem_ready.2 ⟨rfl,_,rfl,?_⟩) (no 4);intro e he _;simp at he
   obtain rfl:b5=true:=by
     cases b5 with
     | true=>rfl
     | false=>
       refine absurd (mem_ready.2 ⟨rfl,_,rfl,?_⟩) (no 5);intro e he _;simp at he;(repeat (rcases he with he|he; · subst he;rfl))
       subst he;rfl
   obtain rfl:b6=true:=by
     cases b6 with
     | true=>rfl
     | false=>
       refine absurd (mem_ready.2 ⟨rfl,_,rfl,?_⟩) (no 6);intro e he _;simp at he;(repeat (rcases he with he|he; · subst he;rfl))
       subst he;rfl
   obtain rfl:b7=true:=by
     cases b7 with
     | true=>rfl
     | false=>
       refine absurd (mem_ready.2 ⟨rfl,_,rfl,?_⟩) (no 7);intro e he _;simp at he;(repeat (rcases he with he|he; · subst he;rfl))
       subst he;rfl
   obtain ⟨M,L,hm,hM,hTM,hD,hL⟩:=HJ.m rfl;have hu:=HJ.v7 rfl;have hL4:L.Perm (R.fl 2):=hL;have HD:Hid (W.ownsMap Tryz.prog 9 R.fieldR M 4 (R.mapD R.fieldD L)):=hD.mono (by rw [hL4.length_eq];decide);rw [hm] at hu;subst hu;have HBE:=hid HJ.bl;clear hD HJ no hL;go_wp2_with fail;go_ret;exact ⟨_,rfl,⟨M,L,rfl,hM,hL4,HD.out⟩,HBE.out⟩
 · rintro listed a W i ⟨b0,b1,b2,b3,b4,b5,b6,b7,u9,u10,u11,u12,u13,u2,rfl,rfl,HJ⟩ hi;obtain ⟨hun,o,ho,hall⟩:=mem_ready.1 hi;clear hi;have hlt:i<8:=by
     rcases Nat.lt_or_ge i 8 with h|h
     · exact h
     · rw [Array.getElem?_eq_none (by simpa using h)] at ho;cases ho
   obtain rfl|rfl|rfl|rfl|rfl|rfl|rfl|rfl:i=0∨i=1∨i=2∨i=3∨i=4∨i=5∨i=6∨i=7:=by omega
   · obtain rfl:=Option.some.inj ho;have hun:b0=false:=hun;subst hun;refine wpOp_step rfl (fun K hK=> ?_);have HK:=hid hK;clear hK hall ho;have HX:=hid HJ;have e3:b3=false:=by
       cases b3 with
       | false=>rfl
       | true=>exact absurd (HX.out.i3 rfl) (by decide)
     subst e3;have e5:b5=false:=by
       cases b5 with
       | false=>rfl
       | true=>exact absurd (HX.out.i5 rfl) (by decide)
     subst e5;have e6:b6=false:=by
       cases b6 with
       | false=>rfl
       | true=>exact absurd (HX.out.i6 rfl) (by decide)
     subst e6;have e7:b7=false:=by
       cases b7 with
       | false=>rfl
       | true=>exact absurd (HX.out.i7 rfl) (by decide)
     subst e7;go_simp;have hb:Below W.heap.size W (W.alloc (.map #[] 0)):=(Below.refl _ W).alloc (Nat.le_refl _) _;have hlt:=Go.lt_of_block HX.out.x;exact HK.out _ _ ⟨true,_,_,_,_,_,_,_,_,_,_,_,_,_,rfl,rfl,{ m:=fun _=>⟨W.heap.size,[],rfl,HX.out.bl.size,Nat.ne_of_lt hlt,World.ownsMap_made (H:=Unit) W Tryz.prog 9 R.fieldR,List.Perm.refl _⟩,x:=(hb.block T hlt).trans HX.out.x,bl:=HX.out.bl.trans (hb.mono HX.out.bl.size),v1:=HX.out.v1,v2:=HX.out.v2,i3:=fun h=>(by cases h),v4:=HX.out.v4,i5:=fun h=>(by cases h),v6:=fun h=>(by cases h),i6:=fun h=>(by cases h),v7:=fun h=>(by cases h),i7:=fun h=>(by cases h) }⟩
   · obtain rfl:=Option.some.inj ho;have hun:b1=false:=hun;subst hun;refine wpOp_step rfl (fun K hK=> ?_);have HK:=hid hK;clear hK hall ho;go_simp;exact HK.out _ _ ⟨_,true,_,_,_,_,_,_,_,_,_,_,_,_,rfl,rfl,{ m:=HJ.m,x:=HJ.x,bl:=HJ.bl,v1:=fun _=>rfl,v2:=HJ.v2,i3:=HJ.i3,v4:=HJ.v4,i5:=HJ.i5,v6:=HJ.v6,i6:=HJ.i6,v7:=HJ.v7,i7:=HJ.i7 }⟩
   · obtain rfl:=Option.some.inj ho;have hun:b2=false:=hun;subst hun;have hd1:b1=true:=hall ⟨1,Ground.data⟩ (by simp) (by rfl);subst hd1;refine wpOp_step rfl (fun K hK=> ?_);have HK:=hid hK;clear hK hall ho;have hf:=HJ.v1 rfl;subst hf;have HX:=hid HJ;clear HJ;go_simp;refine (fld_any _ W).mono ?_;rintro e W' ⟨rfl,hb⟩;exact HK.out _ _ ⟨_,true,true,_,_,_,_,_,_,_,_,_,_,_,rfl,rfl,{ m:=fun h=>(by obtain ⟨M,L,h1,h2,h3,h4,h5⟩:=HX.out.m h;exact ⟨M,L,h1,h2,h3,map_below h4 hb,h5⟩),x:=(hb.block T (Go.lt_of_block HX.out.x)).trans HX.out.x,bl:=HX.out.bl.trans (hb.mono HX.out.bl.size),v1:=HX.out.v1,v2:=fun _=>rfl,i3:=HX.out.i3,v4:=HX.out.v4,i5:=HX.out.i5,v6:=HX.out.v6,i6:=HX.out.i6,v7:=HX.out.v7,i7:=HX.out.i7 }⟩
   · obtain rfl:=Option.some.inj ho;have hun:b3=false:=hun;subst hun;have hd0:b0=true:=hall ⟨0,Ground.data⟩ (by simp) (by rfl);subst hd0;have hd2:b2=true:=hall ⟨2,Ground.data⟩ (by simp) (by rfl);subst hd2;refine wpOp_step rfl (fun K hK=> ?_);have HK:=hid hK;clear hK hall ho;have hf:=HJ.v2 rfl;subst hf;obtain ⟨M,L,hm,hM,hTM,hD,hL⟩:=HJ.m rfl;subst hm;have HX:=hid HJ;clear HJ;have hlen:L.length<maxLen:=by
       rw [hL.length_eq];cases b5<;>decide
     obtain ⟨W',hu,hD',ht⟩:=map_field hD hlen ⟨#[109,111,100,101,108]⟩ (by decide) true 4 0 (ki:=4) (f:=116) rfl rfl (l:=R.fModel) rfl;go_simp;exact HK.out _ _ ⟨true,_,true,true,_,_,_,_,_,_,_,_,_,_,rfl,rfl,{ m:=fun _=>⟨M,(R.fModel,(⟨R.fModel,true,4,0⟩:R.F))::L,rfl,hM,hTM,hD',(hL.cons _).trans (R.ins_right _ (R.ins_one _))⟩,x:=turned_block ht HX.out.x hTM,bl:=turned_below HX.out.bl hM ht,v1:=HX.out.v1,v2:=HX.out.v2,i3:=fun _=>rfl,v4:=HX.out.v4,i5:=HX.out.i5,v6:=HX.out.v6,i6:=HX.out.i6,v7:=HX.out.v7,i7:=HX.out.i7 }⟩
   · obtain rfl:=Option.some.inj ho;have hun:b4=false:=hun;subst hun;refine wpOp_step rfl (fun K hK=> ?_);have HK:=hid hK;clear hK hall ho;have ca:W.cell? ⟨T,0,none⟩=some (.bool false):=rowCell HJ.x 0;have cb:W.cell? ⟨T,1,none⟩=some (.int .u8 6):=rowCell HJ.x 1;have cc:W.cell? ⟨T,2,none⟩=some (.func (.func 115) #[] #[]):=rowCell HJ.x 2;go_simp;exact HK.out _ _ ⟨_,_,_,_,true,_,_,_,_,_,_,_,_,_,rfl,rfl,{ m:=HJ.m,x:=HJ.x,bl:=HJ.bl,v1:=HJ.v1,v2:=HJ.v2,i3:=HJ.i3,v4:=fun _=>rfl,i5:=HJ.i5,v6:=HJ.v6,i6:=HJ.i6,v7:=HJ.v7,i7:=HJ.i7 }⟩
   · obtain rfl:=Option.some.inj ho;have hun:b5=false:=hun;subst hun;have hd0:b0=true:=hall ⟨0,Ground.data⟩ (by simp) (by rfl);subst hd0;have hd4:b4=true:=hall ⟨4,Ground.data⟩ (by simp) (by rfl);subst hd4;refine wpOp_step rfl (fun K hK=> ?_);have HK:=hid hK;clear hK hall ho;have hf:=HJ.v4 rfl;subst hf;obtain ⟨M,L,hm,hM,hTM,hD,hL⟩:=HJ.m rfl;subst hm;have HX:=hid HJ;clear HJ;have hlen:L.length<maxLen:=by
       rw [hL.length_eq];cases b3<;>decide
     obtain ⟨W',hu,hD',ht⟩:=map_field hD hlen ⟨#[118,97,114,115]⟩ (by decide) false 6 5 (ki:=6) (f:=115) rfl rfl (l:=R.fVars) rfl;go_simp;exact HK.out _ _ ⟨true,_,_,_,true,true,_,_,_,_,_,_,_,_,rfl,rfl,{ m:=fun _=>⟨M,(R.fVars,(⟨R.fVars,false,6,5⟩:R.F))::L,rfl,hM,hTM,hD',(hL.cons _).trans (R.ins_left _ (R.ins_one _))⟩,x:=turned_block ht HX.out.x hTM,bl:=turned_below HX.out.bl hM ht,v1:=HX.out.v1,v2:=HX.out.v2,i3:=HX.out.i3,v4:=HX.out.v4,i5:=fun _=>rfl,v6:=HX.out.v6,i6:=HX.out.i6,v7:=HX.out.v7,i7:=HX.out.i7 }⟩
   · obtain rfl:=Option.some.inj ho;have hun:b6=false:=hun;subst hun;have hd0:b0=true:=hall ⟨0,Ground.data⟩ (by simp) (by rfl);subst hd0;refine wpOp_step rfl (fun K hK=> ?_);have HK:=hid hK;clear hK hall ho;go_simp;exact HK.out _ _ ⟨true,_,_,_,_,_,true,_,_,_,_,_,_,_,rfl,rfl,{ m:=HJ.m,x:=HJ.x,bl:=HJ.bl,v1:=HJ.v1,v2:=HJ.v2,i3:=HJ.i3,v4:=HJ.v4,i5:=HJ.i5,v6:=fun _=>rfl,i6:=fun _=>rfl,v7:=HJ.v7,i7:=HJ.i7 }⟩
   · obtain rfl:=Option.some.inj ho;have hun:b7=false:=hun;subst hun;have hd6:b6=true:=hall ⟨6,Ground.data⟩ (by simp) (by rfl);subst hd6;refine wpOp_step rfl (fun K hK=> ?_);have HK:=hid hK;clear hK hall ho;go_simp;exact HK.out _ _ ⟨_,_,_,_,_,_,true,true,_,_,_,_,_,_,rfl,rfl,{ m:=HJ.m,x:=HJ.x,bl:=HJ.bl,v1:=HJ.v1,v2:=HJ.v2,i3:=HJ.i3,v4:=HJ.v4,i5:=HJ.i5,v6:=HJ.v6,i6:=HJ.i6,v7:=fun _=>HJ.v6 rfl,i7:=fun _=>HJ.i6 rfl }⟩
structure FJ5 (w:World) (T:Nat) (b0 b1 b2 b3 b4 b5 b6 b7:Bool) (u29 u30 u31 u32 u33 u2:Value) (W:World):Prop where
 m:b0=true→∃M L,u29= .map (some M)∧w.heap.size≤M∧T≠M∧W.ownsMap Tryz.prog 9 R.fieldR M L.length (R.mapD R.fieldD L)∧L.Perm ((if b5=true then [(R.fVars,(⟨R.fVars,false,6,5⟩:R.F))] else [])++(if b3=true then [(R.fWorker,(⟨R.fWorker,true,4,2⟩:R.F))] else []))
 x:W.heap[T]? =some (.cells #[.bool false,.int .u8 6,(.func (.func 115) #[] #[])] 154 (0,0))
 bl:Below w.heap.size w W
 v1:b1=true→u30= .func (.func 114) #[] #[]
 v2:b2=true→u31= .agg #[.bool true,.int .u8 4,.func (.func 117) #[] #[]]
 i3:b3=true→b0=true
 v4:b4=true→u32= .agg #[.bool false,.int .u8 6,(.func (.func 115) #[] #[])]
 i5:b5=true→b0=true
 v6:b6=true→u33=u29
 i6:b6=true→b0=true
 v7:b7=true→u2=u29
 i7:b7=true→b0=true
theorem fields_5 (w:World):Calls Tryz.prog 60 #[.int .u8 5] w fun e W=> ∃v,e= .returned v∧MapF W w.heap.size 5 v∧Below w.heap.size w W:=by
 obtain ⟨T,hT⟩:∃T,w.heap.size=T:=⟨_,rfl⟩;obtain ⟨w0,hw0⟩:∃w0,w.alloc (.cells #[.bool false,.int .u8 6,(.func (.func 115) #[] #[])] 154)=w0:=⟨_,rfl⟩;have hv0:w0.heap[T]? =some (.cells #[.bool false,.int .u8 6,(.func (.func 115) #[] #[])] 154 (0,0)):=by rw [←hw0,←hT];exact heap_alloc_new w _
 have HB0:Hid (Below w.heap.size w w0):=by show Below _ _ _;rw [←hw0];exact (Below.refl _ w).alloc (Nat.le_refl _) _
 have HV0:=hid hv0;have HW0:=hid hw0;have HT:=hid hT;clear hw0 hv0 hT;go_enter Tryz.func60,Tryz.ntmps60;go_upto_region 11 with fail;rw [HW0.out,HT.out];clear HW0;have hmm:=@run_makeMap Tryz.prog;refine wp_region_inv (fun listed a W=> ∃b0 b1 b2 b3 b4 b5 b6 b7 u29 u30 u31 u32 u33 u2,listed= #[b0,b1,b2,b3,b4,b5,b6,b7]∧a=⟨#[.int .u8 5,undef,u2,.func (.func 114) #[] #[],.pointer (some ⟨T,0,none⟩),.agg #[.bool false,.int .u8 6,(.func (.func 115) #[] #[])],.int .u8 5,.bool false,.bool false,undef,undef,undef,undef,undef,.bool false,.bool false,undef,undef,undef,.bool false,.bool false,undef,undef,undef,undef,undef,undef,.bool true,.bool true,u29,u30,u31,u32,u33,undef,undef,undef,undef,undef,undef,undef,undef,undef,undef,undef,undef,undef,undef,undef,undef,undef,undef,undef,undef,undef,undef,undef,undef,undef,undef,undef,undef],[]⟩∧FJ5 w T b0 b1 b2 b3 b4 b5 b6 b7 u29 u30 u31 u32 u33 u2 W) (by kernel_rfl) ?_ ?_ ?_
 · exact ⟨false,false,false,false,false,false,false,false,undef,undef,undef,undef,undef,.map none,rfl,rfl,{ m:=fun h=>(by cases h),x:=HV0.out,bl:=HB0.out.drew,v1:=fun h=>(by cases h),v2:=fun h=>(by cases h),i3:=fun h=>(by cases h),v4:=fun h=>(by cases h),i5:=fun h=>(by cases h),v6:=fun h=>(by cases h),i6:=fun h=>(by cases h),v7:=fun h=>(by cases h),i7:=fun h=>(by cases h) }⟩
 · rintro listed a W ⟨b0,b1,b2,b3,b4,b5,b6,b7,u29,u30,u31,u32,u33,u2,rfl,rfl,HJ⟩ hr;have no:∀j,j ∉ Region.ready Region.Mode.any _ _:=fun j h=>by rw [hr] at h;cases h
   clear hr;obtain rfl:b0=true:=by
     cases b0 with
     | true=>rfl
     | false=>
       refine absurd (mem_ready.2 ⟨rfl,_,rfl,?_⟩) (no 0);intro e he _;simp at he
   obtain rfl:b1=true:=by
     cases b1 with
     | true=>rfl
     | false=>
       refine absurd (mem_ready.2 ⟨rfl,_,rfl,?_⟩) (no 1);intro e he _;simp at he
   obtain rfl:b2=true:=by
     cases b2 with
     | true=>rfl
     | false=>
       refine absurd (mem_ready.2 ⟨rfl,_,rfl,?_⟩) (no 2);intro e he _;simp at he;(repeat (rcases he with he|he; · subst he;rfl))
       subst he;rfl
   obtain rfl:b3=true:=by
     cases b3 with
     | true=>rfl
     | false=>
       refine absurd (mem_ready.2 ⟨rfl,_,rfl,?_⟩) (no 3);intro e he _;simp at he;(repeat (rcases he with he|he; · subst he;rfl))
       subst he;rfl
   obtain rfl:b4=true:=by
     cases b4 with
     | true=>rfl
     | false=>
       refine absurd (mem_ready.2 ⟨rfl,_,rfl,?_⟩) (no 4);intro e he _;simp at he
   obtain rfl:b5=true:=by
     cases b5 with
     | true=>rfl
     | false=>
       refine absurd (mem_ready.2 ⟨rfl,_,rfl,?_⟩) (no 5);intro e he _;simp at he;(repeat (rcases he with he|he; · subst he;rfl))
       subst he;rfl
   obtain rfl:b6=true:=by
     cases b6 with
     | true=>rfl
     | false=>
       refine absurd (mem_ready.2 ⟨rfl,_,rfl,?_⟩) (no 6);intro e he _;simp at he;(repeat (rcases he with he|he; · subst he;rfl))
       subst he;rfl
   obtain rfl:b7=true:=by
     cases b7 with
     | true=>rfl
     | false=>
       refine absurd (mem_ready.2 ⟨rfl,_,rfl,?_⟩) (no 7);intro e he _;simp at he;(repeat (rcases he with he|he; · subst he;rfl))
       subst he;rfl
   obtain ⟨M,L,hm,hM,hTM,hD,hL⟩:=HJ.m rfl;have hu:=HJ.v7 rfl;have hL4:L.Perm (R.fl 5):=hL;have HD:Hid (W.ownsMap Tryz.prog 9 R.fieldR M 4 (R.mapD R.fieldD L)):=hD.mono (by rw [hL4.length_eq];decide);rw [hm] at hu;subst hu;have HBE:=hid HJ.bl;clear hD HJ no hL;go_wp2_with fail;go_ret;exact ⟨_,rfl,⟨M,L,rfl,hM,hL4,HD.out⟩,HBE.out⟩
 · rintro listed a W i ⟨b0,b1,b2,b3,b4,b5,b6,b7,u29,u30,u31,u32,u33,u2,rfl,rfl,HJ⟩ hi;obtain ⟨hun,o,ho,hall⟩:=mem_ready.1 hi;clear hi;have hlt:i<8:=by
     rcases Nat.lt_or_ge i 8 with h|h
     · exact h
     · rw [Array.getElem?_eq_none (by simpa using h)] at ho;cases ho
   obtain rfl|rfl|rfl|rfl|rfl|rfl|rfl|rfl:i=0∨i=1∨i=2∨i=3∨i=4∨i=5∨i=6∨i=7:=by omega
   · obtain rfl:=Option.some.inj ho;have hun:b0=false:=hun;subst hun;refine wpOp_step rfl (fun K hK=> ?_);have HK:=hid hK;clear hK hall ho;have HX:=hid HJ;have e3:b3=false:=by
       cases b3 with
       | false=>rfl
       | true=>exact absurd (HX.out.i3 rfl) (by decide)
     subst e3;have e5:b5=false:=by
       cases b5 with
       | false=>rfl
       | true=>exact absurd (HX.out.i5 rfl) (by decide)
     subst e5;have e6:b6=false:=by
       cases b6 with
       | false=>rfl
       | true=>exact absurd (HX.out.i6 rfl) (by decide)
     subst e6;have e7:b7=false:=by
       cases b7 with
       | false=>rfl
       | true=>exact absurd (HX.out.i7 rfl) (by decide)
     subst e7;go_simp;have hb:Below W.heap.size W (W.alloc (.map #[] 0)):=(Below.refl _ W).alloc (Nat.le_refl _) _;have hlt:=Go.lt_of_block HX.out.x;exact HK.out _ _ ⟨true,_,_,_,_,_,_,_,_,_,_,_,_,_,rfl,rfl,{ m:=fun _=>⟨W.heap.size,[],rfl,HX.out.bl.size,Nat.ne_of_lt hlt,World.ownsMap_made (H:=Unit) W Tryz.prog 9 R.fieldR,List.Perm.refl _⟩,x:=(hb.block T hlt).trans HX.out.x,bl:=HX.out.bl.trans (hb.mono HX.out.bl.size),v1:=HX.out.v1,v2:=HX.out.v2,i3:=fun h=>(by cases h),v4:=HX.out.v4,i5:=fun h=>(by cases h),v6:=fun h=>(by cases h),i6:=fun h=>(by cases h),v7:=fun h=>(by cases h),i7:=fun h=>(by cases h) }⟩
   · obtain rfl:=Option.some.inj ho;have hun:b1=false:=hun;subst hun;refine wpOp_step rfl (fun K hK=> ?_);have HK:=hid hK;clear hK hall ho;go_simp;exact HK.out _ _ ⟨_,true,_,_,_,_,_,_,_,_,_,_,_,_,rfl,rfl,{ m:=HJ.m,x:=HJ.x,bl:=HJ.bl,v1:=fun _=>rfl,v2:=HJ.v2,i3:=HJ.i3,v4:=HJ.v4,i5:=HJ.i5,v6:=HJ.v6,i6:=HJ.i6,v7:=HJ.v7,i7:=HJ.i7 }⟩
   · obtain rfl:=Option.some.inj ho;have hun:b2=false:=hun;subst hun;have hd1:b1=true:=hall ⟨1,Ground.data⟩ (by simp) (by rfl);subst hd1;refine wpOp_step rfl (fun K hK=> ?_);have HK:=hid hK;clear hK hall ho;have hf:=HJ.v1 rfl;subst hf;have HX:=hid HJ;clear HJ;go_simp;refine (fld_any _ W).mono ?_;rintro e W' ⟨rfl,hb⟩;exact HK.out _ _ ⟨_,true,true,_,_,_,_,_,_,_,_,_,_,_,rfl,rfl,{ m:=fun h=>(by obtain ⟨M,L,h1,h2,h3,h4,h5⟩:=HX.out.m h;exact ⟨M,L,h1,h2,h3,map_below h4 hb,h5⟩),x:=(hb.block T (Go.lt_of_block HX.out.x)).trans HX.out.x,bl:=HX.out.bl.trans (hb.mono HX.out.bl.size),v1:=HX.out.v1,v2:=fun _=>rfl,i3:=HX.out.i3,v4:=HX.out.v4,i5:=HX.out.i5,v6:=HX.out.v6,i6:=HX.out.i6,v7:=HX.out.v7,i7:=HX.out.i7 }⟩
   · obtain rfl:=Option.some.inj ho;have hun:b3=false:=hun;subst hun;have hd0:b0=true:=hall ⟨0,Ground.data⟩ (by simp) (by rfl);subst hd0;have hd2:b2=true:=hall ⟨2,Ground.data⟩ (by simp) (by rfl);subst hd2;refine wpOp_step rfl (fun K hK=> ?_);have HK:=hid hK;clear hK hall ho;have hf:=HJ.v2 rfl;subst hf;obtain ⟨M,L,hm,hM,hTM,hD,hL⟩:=HJ.m rfl;subst hm;have HX:=hid HJ;clear HJ;have hlen:L.length<maxLen:=by
       rw [hL.length_eq];cases b5<;>decide
     obtain ⟨W',hu,hD',ht⟩:=map_field hD hlen ⟨#[119,111,114,107,101,114]⟩ (by decide) true 4 2 (ki:=4) (f:=117) rfl rfl (l:=R.fWorker) rfl;go_simp;exact HK.out _ _ ⟨true,_,true,true,_,_,_,_,_,_,_,_,_,_,rfl,rfl,{ m:=fun _=>⟨M,(R.fWorker,(⟨R.fWorker,true,4,2⟩:R.F))::L,rfl,hM,hTM,hD',(hL.cons _).trans (R.ins_right _ (R.ins_one _))⟩,x:=turned_block ht HX.out.x hTM,bl:=turned_below HX.out.bl hM ht,v1:=HX.out.v1,v2:=HX.out.v2,i3:=fun _=>rfl,v4:=HX.out.v4,i5:=HX.out.i5,v6:=HX.out.v6,i6:=HX.out.i6,v7:=HX.out.v7,i7:=HX.out.i7 }⟩
   · obtain rfl:=Option.some.inj ho;have hun:b4=false:=hun;subst hun;refine wpOp_step rfl (fun K hK=> ?_);have HK:=hid hK;clear hK hall ho;have ca:W.cell? ⟨T,0,none⟩=some (.bool false):=rowCell HJ.x 0;have cb:W.cell? ⟨T,1,none⟩=some (.int .u8 6):=rowCell HJ.x 1;have cc:W.cell? ⟨T,2,none⟩=some (.func (.func 115) #[] #[]):=rowCell HJ.x 2;go_simp;exact HK.out _ _ ⟨_,_,_,_,true,_,_,_,_,_,_,_,_,_,rfl,rfl,{ m:=HJ.m,x:=HJ.x,bl:=HJ.bl,v1:=HJ.v1,v2:=HJ.v2,i3:=HJ.i3,v4:=fun _=>rfl,i5:=HJ.i5,v6:=HJ.v6,i6:=HJ.i6,v7:=HJ.v7,i7:=HJ.i7 }⟩
   · obtain rfl:=Option.some.inj ho;have hun:b5=false:=hun;subst hun;have hd0:b0=true:=hall ⟨0,Ground.data⟩ (by simp) (by rfl);subst hd0;have hd4:b4=true:=hall ⟨4,Ground.data⟩ (by simp) (by rfl);subst hd4;refine wpOp_step rfl (fun K hK=> ?_);have HK:=hid hK;clear hK hall ho;have hf:=HJ.v4 rfl;subst hf;obtain ⟨M,L,hm,hM,hTM,hD,hL⟩:=HJ.m rfl;subst hm;have HX:=hid HJ;clear HJ;have hlen:L.length<maxLen:=by
       rw [hL.length_eq];cases b3<;>decide
     obtain ⟨W',hu,hD',ht⟩:=map_field hD hlen ⟨#[118,97,114,115]⟩ (by decide) false 6 5 (ki:=6) (f:=115) rfl rfl (l:=R.fVars) rfl;go_simp;exact HK.out _ _ ⟨true,_,_,_,true,true,_,_,_,_,_,_,_,_,rfl,rfl,{ m:=fun _=>⟨M,(R.fVars,(⟨R.fVars,false,6,5⟩:R.F))::L,rfl,hM,hTM,hD',(hL.cons _).trans (R.ins_left _ (R.ins_one _))⟩,x:=turned_block ht HX.out.x hTM,bl:=turned_below HX.out.bl hM ht,v1:=HX.out.v1,v2:=HX.out.v2,i3:=HX.out.i3,v4:=HX.out.v4,i5:=fun _=>rfl,v6:=HX.out.v6,i6:=HX.out.i6,v7:=HX.out.v7,i7:=HX.out.i7 }⟩
   · obtain rfl:=Option.some.inj ho;have hun:b6=false:=hun;subst hun;have hd0:b0=true:=hall ⟨0,Ground.data⟩ (by simp) (by rfl);subst hd0;refine wpOp_step rfl (fun K hK=> ?_);have HK:=hid hK;clear hK hall ho;go_simp;exact HK.out _ _ ⟨true,_,_,_,_,_,true,_,_,_,_,_,_,_,rfl,rfl,{ m:=HJ.m,x:=HJ.x,bl:=HJ.bl,v1:=HJ.v1,v2:=HJ.v2,i3:=HJ.i3,v4:=HJ.v4,i5:=HJ.i5,v6:=fun _=>rfl,i6:=fun _=>rfl,v7:=HJ.v7,i7:=HJ.i7 }⟩
   · obtain rfl:=Option.some.inj ho;have hun:b7=false:=hun;subst hun;have hd6:b6=true:=hall ⟨6,Ground.data⟩ (by simp) (by rfl);subst hd6;refine wpOp_step rfl (fun K hK=> ?_);have HK:=hid hK;clear hK hall ho;go_simp;exact HK.out _ _ ⟨_,_,_,_,_,_,true,true,_,_,_,_,_,_,rfl,rfl,{ m:=HJ.m,x:=HJ.x,bl:=HJ.bl,v1:=HJ.v1,v2:=HJ.v2,i3:=HJ.i3,v4:=HJ.v4,i5:=HJ.i5,v6:=HJ.v6,i6:=HJ.i6,v7:=fun _=>HJ.v6 rfl,i7:=fun _=>HJ.i6 rfl }⟩
structure FJ8 (w:World) (T:Nat) (b0 b1 b2 b3 b4 b5 b6 b7 b8 b9 b10 b11 b12:Bool) (u48 u49 u50 u51 u52 u53 u54 u55 u2:Value) (W:World):Prop where
 m:b0=true→∃M L,u48= .map (some M)∧w.heap.size≤M∧T≠M∧W.ownsMap Tryz.prog 9 R.fieldR M L.length (R.mapD R.fieldD L)∧L.Perm ((if b10=true then [(R.fTicks,(⟨R.fTicks,false,3,4⟩:R.F))] else [])++(if b8=true then [(R.fVars,(⟨R.fVars,false,6,5⟩:R.F))] else [])++(if b6=true then [(R.fKey,(⟨R.fKey,true,4,1⟩:R.F))] else [])++(if b3=true then [(R.fName,(⟨R.fName,true,4,0⟩:R.F))] else []))
 x:W.heap[T]? =some (.cells #[.bool false,.int .u8 6,(.func (.func 115) #[] #[])] 154 (0,0))
 bl:Below w.heap.size w W
 v1:b1=true→u49= .func (.func 114) #[] #[]
 v2:b2=true→u50= .agg #[.bool true,.int .u8 4,.func (.func 116) #[] #[]]
 i3:b3=true→b0=true
 v4:b4=true→u51= .func (.func 114) #[] #[]
 v5:b5=true→u52= .agg #[.bool true,.int .u8 4,.func (.func 120) #[] #[]]
 i6:b6=true→b0=true
 v7:b7=true→u53= .agg #[.bool false,.int .u8 6,(.func (.func 115) #[] #[])]
 i8:b8=true→b0=true
 v9:b9=true→u54= .agg #[.bool false,.int .u8 3,(.func (.func 119) #[] #[])]
 i10:b10=true→b0=true
 v11:b11=true→u55=u48
 i11:b11=true→b0=true
 v12:b12=true→u2=u48
 i12:b12=true→b0=true
theorem fields_8 (w:World):Calls Tryz.prog 60 #[.int .u8 8] w fun e W=> ∃v,e= .returned v∧MapF W w.heap.size 8 v∧Below w.heap.size w W:=by
 obtain ⟨T,hT⟩:∃T,w.heap.size=T:=⟨_,rfl⟩;obtain ⟨w0,hw0⟩:∃w0,w.alloc (.cells #[.bool false,.int .u8 6,(.func (.func 115) #[] #[])] 154)=w0:=⟨_,rfl⟩;have hv0:w0.heap[T]? =some (.cells #[.bool false,.int .u8 6,(.func (.func 115) #[] #[])] 154 (0,0)):=by rw [←hw0,←hT];exact heap_alloc_new w _
 have HB0:Hid (Below w.heap.size w w0):=by show Below _ _ _;rw [←hw0];exact (Below.refl _ w).alloc (Nat.le_refl _) _
 have HV0:=hid hv0;have HW0:=hid hw0;have HT:=hid hT;clear hw0 hv0 hT;go_enter Tryz.func60,Tryz.ntmps60;go_upto_region 17 with fail;rw [HW0.out,HT.out];clear HW0;have hmm:=@run_makeMap Tryz.prog;refine wp_region_inv (fun listed a W=> ∃b0 b1 b2 b3 b4 b5 b6 b7 b8 b9 b10 b11 b12 u48 u49 u50 u51 u52 u53 u54 u55 u2,listed= #[b0,b1,b2,b3,b4,b5,b6,b7,b8,b9,b10,b11,b12]∧a=⟨#[.int .u8 8,undef,u2,.func (.func 114) #[] #[],.pointer (some ⟨T,0,none⟩),.agg #[.bool false,.int .u8 6,(.func (.func 115) #[] #[])],.int .u8 8,.bool false,.bool false,undef,undef,undef,undef,undef,.bool false,.bool false,undef,undef,undef,.bool false,.bool false,undef,undef,undef,undef,undef,undef,.bool false,.bool false,undef,undef,undef,undef,undef,.bool false,.bool false,undef,undef,undef,undef,.bool false,.bool false,undef,undef,undef,undef,.bool true,.bool true,u48,u49,u50,u51,u52,u53,u54,u55,undef,undef,undef,undef,undef,undef],[]⟩∧FJ8 w T b0 b1 b2 b3 b4 b5 b6 b7 b8 b9 b10 b11 b12 u48 u49 u50 u51 u52 u53 u54 u55 u2 W) (by kernel_rfl) ?_ ?_ ?_
 · exact ⟨false,false,false,false,false,false,false,false,false,false,false,false,false,undef,undef,undef,undef,undef,undef,undef,undef,.map none,rfl,rfl,{ m:=fun h=>(by cases h),x:=HV0.out,bl:=HB0.out.drew,v1:=fun h=>(by cases h),v2:=fun h=>(by cases h),i3:=fun h=>(by cases h),v4:=fun h=>(by cases h),v5:=fun h=>(by cases h),i6:=fun h=>(by cases h),v7:=fun h=>(by cases h),i8:=fun h=>(by cases h),v9:=fun h=>(by cases h),i10:=fun h=>(by cases h),v11:=fun h=>(by cases h),i11:=fun h=>(by cases h),v12:=fun h=>(by cases h),i12:=fun h=>(by cases h) }⟩
 · rintro listed a W ⟨b0,b1,b2,b3,b4,b5,b6,b7,b8,b9,b10,b11,b12,u48,u49,u50,u51,u52,u53,u54,u55,u2,rfl,rfl,HJ⟩ hr;have no:∀j,j ∉ Region.ready Region.Mode.any _ _:=fun j h=>by rw [hr] at h;cases h
   clear hr;obtain rfl:b0=true:=by
     cases b0 with
     | true=>rfl
     | false=>
       refine absurd (mem_ready.2 ⟨rfl,_,rfl,?_⟩) (no 0);intro e he _;simp at he
   obtain rfl:b1=true:=by
     cases b1 with
     | true=>rfl
     | false=>
       refine absurd (mem_ready.2 ⟨rfl,_,rfl,?_⟩) (no 1);intro e he _;simp at he
   obtain rfl:b2=true:=by
     cases b2 with
     | true=>rfl
     | false=>
       refine absurd (mem_ready.2 ⟨rfl,_,rfl,?_⟩) (no 2);intro e he _;simp at he;(repeat (rcases he with he|he; · subst he;rfl))
       subst he;rfl
   obtain rfl:b3=true:=by
     cases b3 with
     | true=>rfl
     | false=>
       refine absurd (mem_ready.2 ⟨rfl,_,rfl,?_⟩) (no 3);intro e he _;simp at he;(repeat (rcases he with he|he; · subst he;rfl))
       subst he;rfl
   obtain rfl:b4=true:=by
     cases b4 with
     | true=>rfl
     | false=>
       refine absurd (mem_ready.2 ⟨rfl,_,rfl,?_⟩) (no 4);intro e he _;simp at he
   obtain rfl:b5=true:=by
     cases b5 with
     | true=>rfl
     | false=>
       refine absurd (mem_ready.2 ⟨rfl,_,rfl,?_⟩) (no 5);intro e he _;simp at he;(repeat (rcases he with he|he; · subst he;rfl))
       subst he;rfl
   obtain rfl:b6=true:=by
     cases b6 with
     | true=>rfl
     | false=>
       refine absurd (mem_ready.2 ⟨rfl,_,rfl,?_⟩) (no 6);intro e he _;simp at he;(repeat (rcases he with he|he; · subst he;rfl))
       subst he;rfl
   obtain rfl:b7=true:=by
     cases b7 with
     | true=>rfl
     | false=>
       refine absurd (mem_ready.2 ⟨rfl,_,rfl,?_⟩) (no 7);intro e he _;simp at he
   obtain rfl:b8=true:=by
     cases b8 with
     | true=>rfl
     | false=>
       refine absurd (mem_ready.2 ⟨rfl,_,rfl,?_⟩) (no 8);intro e he _;simp at he;(repeat (rcases he with he|he; · subst he;rfl))
       subst he;rfl
   obtain rfl:b9=true:=by
     cases b9 with
     | true=>rfl
     | false=>
       refine absurd (mem_ready.2 ⟨rfl,_,rfl,?_⟩) (no 9);intro e he _;simp at he
   obtain rfl:b10=true:=by
     cases b10 with
     | true=>rfl
     | false=>
       refine absurd (mem_ready.2 ⟨rfl,_,rfl,?_⟩) (no 10);intro e he _;simp at he;(repeat (rcases he with he|he; · subst he;rfl))
       subst he;rfl
   obtain rfl:b11=true:=by
     cases b11 with
     | true=>rfl
     | false=>
       refine absurd (mem_ready.2 ⟨rfl,_,rfl,?_⟩) (no 11);intro e he _;simp at he;(repeat (rcases he with he|he; · subst he;rfl))
       subst he;rfl
   obtain rfl:b12=true:=by
     cases b12 with
     | true=>rfl
     | false=>
       refine absurd (mem_ready.2 ⟨rfl,_,rfl,?_⟩) (no 12);intro e he _;simp at he;(repeat (rcases he with he|he; · subst he;rfl))
       subst he;rfl
   obtain ⟨M,L,hm,hM,hTM,hD,hL⟩:=HJ.m rfl;have hu:=HJ.v12 rfl;have hL4:L.Perm (R.fl 8):=hL;have HD:Hid (W.ownsMap Tryz.prog 9 R.fieldR M 4 (R.mapD R.fieldD L)):=hD.mono (by rw [hL4.length_eq];decide);rw [hm] at hu;subst hu;have HBE:=hid HJ.bl;clear hD HJ no hL;go_wp2_with fail;go_ret;exact ⟨_,rfl,⟨M,L,rfl,hM,hL4,HD.out⟩,HBE.out⟩
 · rintro listed a W i ⟨b0,b1,b2,b3,b4,b5,b6,b7,b8,b9,b10,b11,b12,u48,u49,u50,u51,u52,u53,u54,u55,u2,rfl,rfl,HJ⟩ hi;obtain ⟨hun,o,ho,hall⟩:=mem_ready.1 hi;clear hi;have hlt:i<13:=by
     rcases Nat.lt_or_ge i 13 with h|h
     · exact h
     · rw [Array.getElem?_eq_none (by simpa using h)] at ho;cases ho
   obtain rfl|rfl|rfl|rfl|rfl|rfl|rfl|rfl|rfl|rfl|rfl|rfl|rfl:i=0∨i=1∨i=2∨i=3∨i=4∨i=5∨i=6∨i=7∨i=8∨i=9∨i=10∨i=11∨i=12:=by omega
   · obtain rfl:=Option.some.inj ho;have hun:b0=false:=hun;subst hun;refine wpOp_step rfl (fun K hK=> ?_);have HK:=hid hK;clear hK hall ho;have HX:=hid HJ;have e3:b3=false:=by
       cases b3 with
       | false=>rfl
       | true=>exact absurd (HX.out.i3 rfl) (by decide)
     subst e3;have e6:b6=false:=by
       cases b6 with
       | false=>rfl
       | true=>exact absurd (HX.out.i6 rfl) (by decide)
     subst e6;have e8:b8=false:=by
       cases b8 with
       | false=>rfl
       | true=>exact absurd (HX.out.i8 rfl) (by decide)
     subst e8;have e10:b10=false:=by
       cases b10 with
       | false=>rfl
       | true=>exact absurd (HX.out.i10 rfl) (by decide)
     subst e10;have e11:b11=false:=by
       cases b11 with
       | false=>rfl
       | true=>exact absurd (HX.out.i11 rfl) (by decide)
     subst e11;have e12:b12=false:=by
       cases b12 with
       | false=>rfl
       | true=>exact absurd (HX.out.i12 rfl) (by decide)
     subst e12;go_simp;have hb:Below W.heap.size W (W.alloc (.map #[] 0)):=(Below.refl _ W).alloc (Nat.le_refl _) _;have hlt:=Go.lt_of_block HX.out.x;exact HK.out _ _ ⟨true,_,_,_,_,_,_,_,_,_,_,_,_,_,_,_,_,_,_,_,_,_,rfl,rfl,{ m:=fun _=>⟨W.heap.size,[],rfl,HX.out.bl.size,Nat.ne_of_lt hlt,World.ownsMap_made (H:=Unit) W Tryz.prog 9 R.fieldR,List.Perm.refl _⟩,x:=(hb.block T hlt).trans HX.out.x,bl:=HX.out.bl.trans (hb.mono HX.out.bl.size),v1:=HX.out.v1,v2:=HX.out.v2,i3:=fun h=>(by cases h),v4:=HX.out.v4,v5:=HX.out.v5,i6:=fun h=>(by cases h),v7:=HX.out.v7,i8:=fun h=>(by cases h),v9:=HX.out.v9,i10:=fun h=>(by cases h),v11:=fun h=>(by cases h),i11:=fun h=>(by cases h),v12:=fun h=>(by cases h),i12:=fun h=>(by cases h) }⟩
   · obtain rfl:=Option.some.inj ho;have hun:b1=false:=hun;subst hun;refine wpOp_step rfl (fun K hK=> ?_);have HK:=hid hK;clear hK hall ho;go_simp;exact HK.out _ _ ⟨_,true,_,_,_,_,_,_,_,_,_,_,_,_,_,_,_,_,_,_,_,_,rfl,rfl,{ m:=HJ.m,x:=HJ.x,bl:=HJ.bl,v1:=fun _=>rfl,v2:=HJ.v2,i3:=HJ.i3,v4:=HJ.v4,v5:=HJ.v5,i6:=HJ.i6,v7:=HJ.v7,i8:=HJ.i8,v9:=HJ.v9,i10:=HJ.i10,v11:=HJ.v11,i11:=HJ.i11,v12:=HJ.v12,i12:=HJ.i12 }⟩
   · obtain rfl:=Option.some.inj ho;have hun:b2=false:=hun;subst hun;have hd1:b1=true:=hall ⟨1,Ground.data⟩ (by simp) (by rfl);subst hd1;refine wpOp_step rfl (fun K hK=> ?_);have HK:=hid hK;clear hK hall ho;have hf:=HJ.v1 rfl;subst hf;have HX:=hid HJ;clear HJ;go_simp;refine (fld_any _ W).mono ?_;rintro e W' ⟨rfl,hb⟩;exact HK.out _ _ ⟨_,true,true,_,_,_,_,_,_,_,_,_,_,_,_,_,_,_,_,_,_,_,rfl,rfl,{ m:=fun h=>(by obtain ⟨M,L,h1,h2,h3,h4,h5⟩:=HX.out.m h;exact ⟨M,L,h1,h2,h3,map_below h4 hb,h5⟩),x:=(hb.block T (Go.lt_of_block HX.out.x)).trans HX.out.x,bl:=HX.out.bl.trans (hb.mono HX.out.bl.size),v1:=HX.out.v1,v2:=fun _=>rfl,i3:=HX.out.i3,v4:=HX.out.v4,v5:=HX.out.v5,i6:=HX.out.i6,v7:=HX.out.v7,i8:=HX.out.i8,v9:=HX.out.v9,i10:=HX.out.i10,v11:=HX.out.v11,i11:=HX.out.i11,v12:=HX.out.v12,i12:=HX.out.i12 }⟩
   · obtain rfl:=Option.some.inj ho;have hun:b3=false:=hun;subst hun;have hd0:b0=true:=hall ⟨0,Ground.data⟩ (by simp) (by rfl);subst hd0;have hd2:b2=true:=hall ⟨2,Ground.data⟩ (by simp) (by rfl);subst hd2;refine wpOp_step rfl (fun K hK=> ?_);have HK:=hid hK;clear hK hall ho;have hf:=HJ.v2 rfl;subst hf;obtain ⟨M,L,hm,hM,hTM,hD,hL⟩:=HJ.m rfl;subst hm;have HX:=hid HJ;clear HJ;have hlen:L.length<maxLen:=by
       rw [hL.length_eq];cases b6<;>cases b8<;>cases b10<;>decide
     obtain ⟨W',hu,hD',ht⟩:=map_field hD hlen ⟨#[110,97,109,101]⟩ (by decide) true 4 0 (ki:=4) (f:=116) rfl rfl (l:=R.fName) rfl;go_simp;exact HK.out _ _ ⟨true,_,true,true,_,_,_,_,_,_,_,_,_,_,_,_,_,_,_,_,_,_,rfl,rfl,{ m:=fun _=>⟨M,(R.fName,(⟨R.fName,true,4,0⟩:R.F))::L,rfl,hM,hTM,hD',(hL.cons _).trans (R.ins_right _ (R.ins_one _))⟩,x:=turned_block ht HX.out.x hTM,bl:=turned_below HX.out.bl hM ht,v1:=HX.out.v1,v2:=HX.out.v2,i3:=fun _=>rfl,v4:=HX.out.v4,v5:=HX.out.v5,i6:=HX.out.i6,v7:=HX.out.v7,i8:=HX.out.i8,v9:=HX.out.v9,i10:=HX.out.i10,v11:=HX.out.v11,i11:=HX.out.i11,v12:=HX.out.v12,i12:=HX.out.i12 }⟩
   · obtain rfl:=Option.some.inj ho;have hun:b4=false:=hun;subst hun;refine wpOp_step rfl (fun K hK=> ?_);have HK:=hid hK;clear hK hall ho;go_simp;exact HK.out _ _ ⟨_,_,_,_,true,_,_,_,_,_,_,_,_,_,_,_,_,_,_,_,_,_,rfl,rfl,{ m:=HJ.m,x:=HJ.x,bl:=HJ.bl,v1:=HJ.v1,v2:=HJ.v2,i3:=HJ.i3,v4:=fun _=>rfl,v5:=HJ.v5,i6:=HJ.i6,v7:=HJ.v7,i8:=HJ.i8,v9:=HJ.v9,i10:=HJ.i10,v11:=HJ.v11,i11:=HJ.i11,v12:=HJ.v12,i12:=HJ.i12 }⟩
   · obtain rfl:=Option.some.inj ho;have hun:b5=false:=hun;subst hun;have hd4:b4=true:=hall ⟨4,Ground.data⟩ (by simp) (by rfl);subst hd4;refine wpOp_step rfl (fun K hK=> ?_);have HK:=hid hK;clear hK hall ho;have hf:=HJ.v4 rfl;subst hf;have HX:=hid HJ;clear HJ;go_simp;refine (fld_any _ W).mono ?_;rintro e W' ⟨rfl,hb⟩;exact HK.out _ _ ⟨_,_,_,_,true,true,_,_,_,_,_,_,_,_,_,_,_,_,_,_,_,_,rfl,rfl,{ m:=fun h=>(by obtain ⟨M,L,h1,h2,h3,h4,h5⟩:=HX.out.m h;exact ⟨M,L,h1,h2,h3,map_below h4 hb,h5⟩),x:=(hb.block T (Go.lt_of_block HX.out.x)).trans HX.out.x,bl:=HX.out.bl.trans (hb.mono HX.out.bl.size),v1:=HX.out.v1,v2:=HX.out.v2,i3:=HX.out.i3,v4:=HX.out.v4,v5:=fun _=>rfl,i6:=HX.out.i6,v7:=HX.out.v7,i8:=HX.out.i8,v9:=HX.out.v9,i10:=HX.out.i10,v11:=HX.out.v11,i11:=HX.out.i11,v12:=HX.out.v12,i12:=HX.out.i12 }⟩
   · obtain rfl:=Option.some.inj ho;have hun:b6=false:=hun;subst hun;have hd0:b0=true:=hall ⟨0,Ground.data⟩ (by simp) (by rfl);subst hd0;have hd5:b5=true:=hall ⟨5,Ground.data⟩ (by simp) (by rfl);subst hd5;refine wpOp_step rfl (fun K hK=> ?_);have HK:=hid hK;clear hK hall ho;have hf:=HJ.v5 rfl;subst hf;obtain ⟨M,L,hm,hM,hTM,hD,hL⟩:=HJ.m rfl;subst hm;have HX:=hid HJ;clear HJ;have hlen:L.length<maxLen:=by
       rw [hL.length_eq];cases b3<;>cases b8<;>cases b10<;>decide
     obtain ⟨W',hu,hD',ht⟩:=map_field hD hlen ⟨#[107,101,121]⟩ (by decide) true 4 1 (ki:=4) (f:=120) rfl rfl (l:=R.fKey) rfl;go_simp;exact HK.out _ _ ⟨true,_,_,_,_,true,true,_,_,_,_,_,_,_,_,_,_,_,_,_,_,_,rfl,rfl,{ m:=fun _=>⟨M,(R.fKey,(⟨R.fKey,true,4,1⟩:R.F))::L,rfl,hM,hTM,hD',(hL.cons _).trans (R.ins_left _ (R.ins_right _ (R.ins_one _)))⟩,x:=turned_block ht HX.out.x hTM,bl:=turned_below HX.out.bl hM ht,v1:=HX.out.v1,v2:=HX.out.v2,i3:=HX.out.i3,v4:=HX.out.v4,v5:=HX.out.v5,i6:=fun _=>rfl,v7:=HX.out.v7,i8:=HX.out.i8,v9:=HX.out.v9,i10:=HX.out.i10,v11:=HX.out.v11,i11:=HX.out.i11,v12:=HX.out.v12,i12:=HX.out.i12 }⟩
   · obtain rfl:=Option.some.inj ho;have hun:b7=false:=hun;subst hun;refine wpOp_step rfl (fun K hK=> ?_);have HK:=hid hK;clear hK hall ho;have ca:W.cell? ⟨T,0,none⟩=some (.bool false):=rowCell HJ.x 0;have cb:W.cell? ⟨T,1,none⟩=some (.int .u8 6):=rowCell HJ.x 1;have cc:W.cell? ⟨T,2,none⟩=some (.func (.func 115) #[] #[]):=rowCell HJ.x 2;go_simp;exact HK.out _ _ ⟨_,_,_,_,_,_,_,true,_,_,_,_,_,_,_,_,_,_,_,_,_,_,rfl,rfl,{ m:=HJ.m,x:=HJ.x,bl:=HJ.bl,v1:=HJ.v1,v2:=HJ.v2,i3:=HJ.i3,v4:=HJ.v4,v5:=HJ.v5,i6:=HJ.i6,v7:=fun _=>rfl,i8:=HJ.i8,v9:=HJ.v9,i10:=HJ.i10,v11:=HJ.v11,i11:=HJ.i11,v12:=HJ.v12,i12:=HJ.i12 }⟩
   · obtain rfl:=Option.some.inj ho;have hun:b8=false:=hun;subst hun;have hd0:b0=true:=hall ⟨0,Ground.data⟩ (by simp) (by rfl);subst hd0;have hd7:b7=true:=hall ⟨7,Ground.data⟩ (by simp) (by rfl);subst hd7;refine wpOp_step rfl (fun K hK=> ?_);have HK:=hid hK;clear hK hall ho;have hf:=HJ.v7 rfl;subst hf;obtain ⟨M,L,hm,hM,hTM,hD,hL⟩:=HJ.m rfl;subst hm;have HX:=hid HJ;clear HJ;have hlen:L.length<maxLen:=by
       rw [hL.length_eq];cases b3<;>cases b6<;>cases b10<;>decide
     obtain ⟨W',hu,hD',ht⟩:=map_field hD hlen ⟨#[118,97,114,115]⟩ (by decide) false 6 5 (ki:=6) (f:=115) rfl rfl (l:=R.fVars) rfl;go_simp;exact HK.out _ _ ⟨true,_,_,_,_,_,_,true,true,_,_,_,_,_,_,_,_,_,_,_,_,_,rfl,rfl,{ m:=fun _=>⟨M,(R.fVars,(⟨R.fVars,false,6,5⟩:R.F))::L,rfl,hM,hTM,hD',(hL.cons _).trans (R.ins_left _ (R.ins_left _ (R.ins_right _ (R.ins_one _))))⟩,x:=turned_block ht HX.out.x hTM,bl:=turned_below HX.out.bl hM ht,v1:=HX.out.v1,v2:=HX.out.v2,i3:=HX.out.i3,v4:=HX.out.v4,v5:=HX.out.v5,i6:=HX.out.i6,v7:=HX.out.v7,i8:=fun _=>rfl,v9:=HX.out.v9,i10:=HX.out.i10,v11:=HX.out.v11,i11:=HX.out.i11,v12:=HX.out.v12,i12:=HX.out.i12 }⟩
   · obtain rfl:=Option.some.inj ho;have hun:b9=false:=hun;subst hun;refine wpOp_step rfl (fun K hK=> ?_);have HK:=hid hK;clear hK hall ho;go_simp;exact HK.out _ _ ⟨_,_,_,_,_,_,_,_,_,true,_,_,_,_,_,_,_,_,_,_,_,_,rfl,rfl,{ m:=HJ.m,x:=HJ.x,bl:=HJ.bl,v1:=HJ.v1,v2:=HJ.v2,i3:=HJ.i3,v4:=HJ.v4,v5:=HJ.v5,i6:=HJ.i6,v7:=HJ.v7,i8:=HJ.i8,v9:=fun _=>rfl,i10:=HJ.i10,v11:=HJ.v11,i11:=HJ.i11,v12:=HJ.v12,i12:=HJ.i12 }⟩
   · obtain rfl:=Option.some.inj ho;have hun:b10=false:=hun;subst hun;have hd0:b0=true:=hall ⟨0,Ground.data⟩ (by simp) (by rfl);subst hd0;have hd9:b9=true:=hall ⟨9,Ground.data⟩ (by simp) (by rfl);subst hd9;refine wpOp_step rfl (fun K hK=> ?_);have HK:=hid hK;clear hK hall ho;have hf:=HJ.v9 rfl;subst hf;obtain ⟨M,L,hm,hM,hTM,hD,hL⟩:=HJ.m rfl;subst hm;have HX:=hid HJ;clear HJ;have hlen:L.length<maxLen:=by
       rw [hL.length_eq];cases b3<;>cases b6<;>cases b8<;>decide
     obtain ⟨W',hu,hD',ht⟩:=map_field hD hlen ⟨#[116,105,99,107,115]⟩ (by decide) false 3 4 (ki:=3) (f:=119) rfl rfl (l:=R.fTicks) rfl;go_simp;exact HK.out _ _ ⟨true,_,_,_,_,_,_,_,_,true,true,_,_,_,_,_,_,_,_,_,_,_,rfl,rfl,{ m:=fun _=>⟨M,(R.fTicks,(⟨R.fTicks,false,3,4⟩:R.F))::L,rfl,hM,hTM,hD',(hL.cons _).trans (R.ins_left _ (R.ins_left _ (R.ins_left _ (R.ins_one _))))⟩,x:=turned_block ht HX.out.x hTM,bl:=turned_below HX.out.bl hM ht,v1:=HX.out.v1,v2:=HX.out.v2,i3:=HX.out.i3,v4:=HX.out.v4,v5:=HX.out.v5,i6:=HX.out.i6,v7:=HX.out.v7,i8:=HX.out.i8,v9:=HX.out.v9,i10:=fun _=>rfl,v11:=HX.out.v11,i11:=HX.out.i11,v12:=HX.out.v12,i12:=HX.out.i12 }⟩
   · obtain rfl:=Option.some.inj ho;have hun:b11=false:=hun;subst hun;have hd0:b0=true:=hall ⟨0,Ground.data⟩ (by simp) (by rfl);subst hd0;refine wpOp_step rfl (fun K hK=> ?_);have HK:=hid hK;clear hK hall ho;go_simp;exact HK.out _ _ ⟨true,_,_,_,_,_,_,_,_,_,_,true,_,_,_,_,_,_,_,_,_,_,rfl,rfl,{ m:=HJ.m,x:=HJ.x,bl:=HJ.bl,v1:=HJ.v1,v2:=HJ.v2,i3:=HJ.i3,v4:=HJ.v4,v5:=HJ.v5,i6:=HJ.i6,v7:=HJ.v7,i8:=HJ.i8,v9:=HJ.v9,i10:=HJ.i10,v11:=fun _=>rfl,i11:=fun _=>rfl,v12:=HJ.v12,i12:=HJ.i12 }⟩
   · obtain rfl:=Option.some.inj ho;have hun:b12=false:=hun;subst hun;have hd11:b11=true:=hall ⟨11,Ground.data⟩ (by simp) (by rfl);subst hd11;refine wpOp_step rfl (fun K hK=> ?_);have HK:=hid hK;clear hK hall ho;go_simp;exact HK.out _ _ ⟨_,_,_,_,_,_,_,_,_,_,_,true,true,_,_,_,_,_,_,_,_,_,rfl,rfl,{ m:=HJ.m,x:=HJ.x,bl:=HJ.bl,v1:=HJ.v1,v2:=HJ.v2,i3:=HJ.i3,v4:=HJ.v4,v5:=HJ.v5,i6:=HJ.i6,v7:=HJ.v7,i8:=HJ.i8,v9:=HJ.v9,i10:=HJ.i10,v11:=HJ.v11,i11:=HJ.i11,v12:=fun _=>HJ.v11 rfl,i12:=fun _=>HJ.i11 rfl }⟩
theorem fields_any (K:Nat) (h:2≤K∧K≤9) (w:World):Calls Tryz.prog 60 #[.int .u8 K] w fun e W=> ∃v,e= .returned v∧MapF W w.heap.size K v∧Below w.heap.size w W:=by
 obtain rfl|rfl|rfl|rfl|rfl|rfl|rfl|rfl:K=2∨K=3∨K=4∨K=5∨K=6∨K=7∨K=8∨K=9:=by omega
 · exact fields_2 w
 · exact fields_3 w
 · exact fields_4 w
 · exact fields_5 w
 · exact fields_6 w
 · exact fields_7 w
 · exact fields_8 w
 · exact fields_9 w
end Go.Proofs.YtohkomndapngjaaGreatDoor

