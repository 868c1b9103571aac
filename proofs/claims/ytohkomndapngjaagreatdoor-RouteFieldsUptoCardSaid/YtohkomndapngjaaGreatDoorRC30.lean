/- Parse: the value of any text. -/
import Derived.Test.YtohkomndapngjaaGreatDoorRC18
import Derived.Test.YtohkomndapngjaaGreatDoorRC29
import Derived.Laws.Tables
import Derived.Laws.CopyOwn
namespace Go.Proofs.YtohkomndapngjaaGreatDoor
set_option maxRecDepth 100000
set_option maxHeartbeats 16000000
open Go.RowKit
open Go.Lib (hid)
theorem heapD (W:World):W.drew.heap=W.heap:=rfl
theorem pt6_otherD (w:World) (g k:Nat) (c0 c1 c2 c3 c4 c5:Value) (h:k≠g):(pt6 w g c0 c1 c2 c3 c4 c5).drew.heap[k]? =w.heap[k]? :=by
 rw [heapD];exact pt6_other w g k c0 c1 c2 c3 c4 c5 h
theorem pt6_rowD {w:World}{b:Nat}{x0 x1 x2 x3 x4 x5:Value}{t:TypeId}(h:w.heap[b]? =some (.cells #[x0,x1,x2,x3,x4,x5] t (0,0))) (c0 c1 c2 c3 c4 c5:Value):(pt6 w b c0 c1 c2 c3 c4 c5).drew.heap[b]? =some (.cells #[c0,c1,c2,c3,c4,c5] t (0,0)):=by
 rw [heapD];exact pt6_row h c0 c1 c2 c3 c4 c5
theorem pt6_belowD {B:Nat}{a w:World}{b:Nat}(h:Below B a w) (hb:B≤b) (c0 c1 c2 c3 c4 c5:Value):Below B a (pt6 w b c0 c1 c2 c3 c4 c5).drew:=(pt6_below h hb c0 c1 c2 c3 c4 c5).drew
theorem results_triple {P:Program}{fn:Func}{p q r:Tmp}{ty:TypeId}(h:fn.results= #[.cell p ty,.tmp q,.tmp r]) (tmps:Array Value) (w:World) (g:Nat) (t:TypeId) (cs:Array Value) (fr:Nat×Nat) (d:TypeDesc) (v u:Value)
  (hp:tmps.getD p undef= .pointer (some ⟨g,0,none⟩)) (hg:w.heap[g]? =some (.cells cs t fr)) (hq:tmps.getD q undef=v) (hr:tmps.getD r undef=u)
  (hu:P.underlying ty=some d) (hd:(match d with| .struct _| .array _ _=>true|_=>false)=true) (hi:(P.info? ty).map (·.size)=some cs.size):
  (results fn tmps).run P w= .ok (.tuple #[.agg cs,v,u]) w:=by
 have hp':tmps[p]?.getD undef= .pointer (some ⟨g,0,none⟩):=by simpa using hp
 have hq':tmps[q]?.getD undef=v:=by simpa using hq
 have hr':tmps[r]?.getD undef=u:=by simpa using hr
 simp [results,h,hp',hq',hr',asAddr,run_loadVar_row w g t ty cs fr d hg hu hd hi]
def ParseOf (w:World) (x:J.V×Int×Int) (e:Ending) (W:World):Prop:=
 ∃(v:J.V) (cs:List Value),v.loose x.1∧e= .returned (.tuple #[.agg cs.toArray,.int .i64 x.2.1,.int .i64 x.2.2])∧v.Has W (Own W w.heap.size none) cs∧Below w.heap.size w W
theorem parse_zero {w W:World}{x:J.V×Int×Int}(h:x.1=J.V.zero) (hb:Below w.heap.size w W):ParseOf w x (.returned (.tuple #[.agg #[.int .u8 0,.bool false,.int .i64 0,.string ⟨#[]⟩,.slice none 0 0,.slice none 0 0],.int .i64 x.2.1,.int .i64 x.2.2])) W:=
 ⟨J.V.zero,_,by rw [h];exact J.V.loose_refl _,rfl,has_flat _ _ 0 false 0 ⟨#[]⟩,hb⟩
theorem big_parse {s:ByteArray}(h:65536<s.size):J.parse s.data.toList=(J.V.zero,0,3):=by
 unfold J.parse;rw [if_pos (by rw [←Lib.size_eq];exact h)]
theorem parse_err {s:ByteArray}(h:¬ 65536<s.size) {n:Nat}{er:Int}(hx:J.val 16 s.data.toList= .error (n,er)):J.parse s.data.toList=(J.V.zero,((s.size-n:Nat):Int),er):=by
 unfold J.parse;rw [if_neg (by rw [←Lib.size_eq];exact h),hx,←Lib.size_eq]
theorem parse_rest {s:ByteArray}(h:¬ 65536<s.size) {y:J.V}{r:List UInt8}(hx:J.val 16 s.data.toList= .ok (y,r)) {q:Nat}(hq:q<s.size) (hs:J.skip r=s.data.toList.drop q):J.parse s.data.toList=(J.V.zero,(q:Int),4):=by
 unfold J.parse;rw [if_neg (by rw [←Lib.size_eq];exact h),hx];simp only;rw [hs,drop_at hq];simp only;rw [drop_len,←Lib.size_eq,show s.size-(s.size-(q+1)+1)=q by omega]
theorem parse_ok {s:ByteArray}(h:¬ 65536<s.size) {y:J.V}{r:List UInt8}(hx:J.val 16 s.data.toList= .ok (y,r)) (hs:J.skip r= []):J.parse s.data.toList=(y,0,0):=by
 unfold J.parse;rw [if_neg (by rw [←Lib.size_eq];exact h),hx];simp only;rw [hs]
theorem val_rest {s:ByteArray}{y:J.V}{r:List UInt8}(hx:J.val 16 (s.data.toList.drop 0)= .ok (y,r)):r=s.data.toList.drop (s.size-r.length)∧s.size-r.length≤s.size:=by
 obtain ⟨a,ha⟩:=(J.val_fair 16 (s.data.toList.drop 0)).1 _ _ hx;rw [List.drop_zero] at ha;have hl:=congrArg List.length ha;rw [List.length_append,←Lib.size_eq] at hl;refine ⟨?_,Nat.sub_le _ _⟩;rw [show s.size-r.length=a.length by omega,←ha,List.drop_left'];rfl
theorem parse_big {s:ByteArray}(hs:65536<s.size) (w:World):Calls Tryz.prog 19 #[.string s] w (ParseOf w (J.parse s.data.toList)):=by
 rw [big_parse hs];have t0:decide ((65536:Int)<(s.size:Int))=true:=decide_eq_true (by omega);go_enter Tryz.func19,Tryz.ntmps19;go_upto_region 2 with fail;obtain ⟨w1,hw1⟩:∃w1,w.alloc (.cells #[.int .u8 0,.bool false,.int .i64 0,.string ⟨#[]⟩,.slice none 0 0,.slice none 0 0] 26)=w1:=⟨_,rfl⟩;have hv:w1.heap[w.heap.size]? =some (vRow 0 (.slice none 0 0) (.slice none 0 0)):=by rw [←hw1];exact heap_alloc_new w _
 have hb:Below w.heap.size w w1:=by rw [←hw1];exact (Below.refl _ w).alloc (Nat.le_refl _) _
 rw [hw1];have HV:=hid hv;have HB:=hid hb;clear hw1 hb;obtain ⟨v0,v1,v2,v3,v4,v5⟩:=vcells hv;obtain ⟨f0,f1,f2,f3,f4,f5⟩:=vfree hv;clear hv;go_wp2_with fail;exact bodyPost_ret (v:= .tuple #[.agg #[.int .u8 0,.bool false,.int .i64 0,.string ⟨#[]⟩,.slice none 0 0,.slice none 0 0],.int .i64 0,.int .i64 3]) (results_triple rfl _ _ w.heap.size 26 #[.int .u8 0,.bool false,.int .i64 0,.string ⟨#[]⟩,.slice none 0 0,.slice none 0 0] (0,0) _ (.int .i64 0) (.int .i64 3) rfl (pt6_row HV.out _ _ _ _ _ _) rfl rfl Tryz.underlying26 rfl infoJSON) rfl (parse_zero (x:=(J.V.zero,0,3)) rfl (pt6_below HB.out (Nat.le_refl _) _ _ _ _ _ _))
theorem parse_value {w w2 w3 w4 w5:World}{R:Nat}{y v:J.V}{cs:List Value}(hlo:v.loose y) (hh:v.Has w3 (Own w3 w2.heap.size none) cs) (h3:w2.grownBy w3 (some R)) (h4:Below w3.heap.size w3 w4) (h5:w4.grownBy w5 (some R)) (hb2:Below w.heap.size w w2) (hb5:Below w.heap.size w w5) (hR:R<w2.heap.size) (hN:w.heap.size<w2.heap.size) {c0 c1 c2 c3 c4 c5:Value}:
  ParseOf w (y,0,0) (.returned (.tuple #[.agg cs.toArray,.int .i64 0,.int .i64 0])) (pt6 w5 w.heap.size c0 c1 c2 c3 c4 c5):=by
 have hs3:=h3.size;have hs4:=h4.size;have hs5:=h5.size;have hs2:=hb2.size;refine ⟨v,cs,hlo,rfl,?_,pt6_below hb5 (Nat.le_refl _) _ _ _ _ _ _⟩;have hk:∀b,Own w3 w2.heap.size none b→(pt6 w5 w.heap.size c0 c1 c2 c3 c4 c5).heap[b]? =w3.heap[b]? :=fun b hb=>by
  rw [pt6_other _ _ _ _ _ _ _ _ _ (by have:=hb.1;omega),h5.block b (by have:=hb.2.1;omega) (fun e=>by have:=Option.some.inj e;have:=hb.1;omega),h4.block b hb.2.1]
 refine J.V.Has.keep (P:=Own w3 w2.heap.size none) ?_ hk hh;intro b hb;have e:=hk b hb;obtain ⟨h1,h2,h6,cs',T,h7⟩:=hb;exact ⟨by omega,by rw [pt6_size];omega,h6,cs',T,by rw [e];exact h7⟩
theorem parse_small {s:ByteArray}(hs:¬ 65536<s.size) (w:World) (hE:Errs w) (hT:Tabs w):Calls Tryz.prog 19 #[.string s] w (ParseOf w (J.parse s.data.toList)):=by
 have HS0:=hid hs;obtain ⟨RES,hRES⟩:∃x,J.parse s.data.toList=x:=⟨_,rfl⟩;rw [hRES];have t0:decide ((65536:Int)<(s.size:Int))=false:=decide_eq_false (by omega);have hm:s.size≤65536:=by omega
 have HRES:=hid hRES;have HG:=hid (Ground.first hE hT);clear hRES hE hT hs;go_enter Tryz.func19,Tryz.ntmps19;go_upto_region 4 with fail;obtain ⟨w2,hw2⟩:∃w2,(w.alloc (.cells #[.int .u8 0,.bool false,.int .i64 0,.string ⟨#[]⟩,.slice none 0 0,.slice none 0 0] 26)).alloc (.cells #[.string s,.int .i64 0,.int .i64 0,.int .i64 0] 147)=w2:=⟨_,rfl⟩;have hv:w2.heap[w.heap.size]? =some (vRow 0 (.slice none 0 0) (.slice none 0 0)):=by rw [←hw2,Lib.alloc_old _ _ _ (by simp)];exact heap_alloc_new w _
 obtain ⟨R,hR⟩:∃R,w.heap.size+1=R:=⟨_,rfl⟩;have hr2:w2.heap[R]? =some (rdRow s 0 0 0):=by
   have:=heap_alloc_new (w.alloc (.cells #[.int .u8 0,.bool false,.int .i64 0,.string ⟨#[]⟩,.slice none 0 0,.slice none 0 0] 26)) (.cells #[.string s,.int .i64 0,.int .i64 0,.int .i64 0] 147);rw [show (w.alloc (.cells #[.int .u8 0,.bool false,.int .i64 0,.string ⟨#[]⟩,.slice none 0 0,.slice none 0 0] 26)).heap.size=R by rw [←hR];simp] at this;rw [←hw2];exact this
 have hb:Below w.heap.size w w2:=by rw [←hw2];exact ((Below.refl _ w).alloc (Nat.le_refl _) _).alloc (by simp) _
 have HR2:Hid (Rdr w2 R s 0 0 0 w2):=⟨⟨rfl,rfl,rfl,Nat.le_refl _,fun _ _ _=>rfl⟩,hr2,Go.lt_of_block hr2⟩;rw [hw2,hR];have HV2:=hid hv;have HB2:=hid hb;have hRn:R≠w.heap.size:=by omega
 have HRN:=hid hRn;have HRE:=hid hR;have cV:=value_any (G:=w.heap.size) (by omega) (by omega) 16 0 rfl 0 w2 HR2.out (Nat.zero_le _) (HG.out.keep hb);clear hw2 hv hr2 hb hR hRn;go_wp2_with fail;refine cV.mono ?_;intro e w3 hen;clear cV;rcases hen with ⟨y,v,r,cs,hx,hlo,rfl,hh,hr⟩|⟨n,er,q,cs,hx,hq,rfl,hsh,hr⟩
 · have hrst:=val_rest hx;have HX:=hid hx;have HLO:=hid hlo;have HH:=hid hh;have HR3:=hid hr;obtain ⟨k',b',n',s',a1,l1,c1,a2,l2,c2,rfl⟩:=Shape.of hh;obtain ⟨qq,hqe⟩:∃qq,s.size-r.length=qq:=⟨_,rfl⟩;obtain ⟨er0,hee⟩:∃er0:Int,er0=0:=⟨_,rfl⟩;obtain ⟨xx0,hxe⟩:∃xx0:Int,xx0=0:=⟨_,rfl⟩;rw [hqe] at hrst HR3;have hqq:qq≤s.size:=hrst.2;rw [show Rdr w2 R s qq 0 0 w3=Rdr w2 R s qq er0 xx0 w3 by rw [hee,hxe]] at HR3;have HRS:=hid hrst.1;clear hx hlo hh hr hqe hrst;have HV3:Hid (w3.heap[w.heap.size]? =some (vRow 0 (.slice none 0 0) (.slice none 0 0))):=by show _=_;rw [HR3.out.g.block _ (Go.lt_of_block HV2.out) (fun e=>HRN.out (Option.some.inj e).symm)];exact HV2.out
   have HB3:Hid (Below w.heap.size w w3):=⟨HR3.out.g.os.trans HB2.out.os,HR3.out.g.tape.trans HB2.out.tape,HR3.out.g.output.trans HB2.out.output,Nat.le_trans HB2.out.size HR3.out.g.size,fun k hk=>by rw [HR3.out.g.block k (Nat.lt_of_lt_of_le hk HB2.out.size) (fun e=>by have:=Option.some.inj e;have:=HRE.out;omega)];exact HB2.out.block k hk⟩;go_upto_region 5 with fail;obtain ⟨w4,hw4⟩:∃w4,w3.alloc (.cells #[.int .u8 k',.bool b',.int .i64 n',.string s',.slice a1 l1 c1,.slice a2 l2 c2] 26)=w4:=⟨_,rfl⟩;obtain ⟨X,hX⟩:∃X,w3.heap.size=X:=⟨_,rfl⟩;have HX4:Hid (w4.heap[X]? =some (.cells #[.int .u8 k',.bool b',.int .i64 n',.string s',.slice a1 l1 c1,.slice a2 l2 c2] 26 (0,0))):=by show _=_;rw [←hw4,←hX];exact heap_alloc_new w3 _
   have HR4:Hid (Rdr w2 R s qq er0 xx0 w4):=by show Rdr _ _ _ _ _ _ _;rw [←hw4];exact HR3.out.alloc _
   have HB34:Hid (Below w3.heap.size w3 w4):=by show Below _ _ _;rw [←hw4];exact (Below.refl _ w3).alloc (Nat.le_refl _) _
   rw [hw4,hX];have HXE:=hid hX;clear hw4 hX;have cN:=next_any HR4.out.own hqq (by omega);go_wp2_with fail;refine cN.mono ?_;rintro e w5 ⟨rfl,hr5⟩;clear cN;have HR5:=hid (HR4.out.trans hr5);have HG5:=hid hr5.g;obtain ⟨q5,hq5⟩:∃q5,J.nextP s qq=q5:=⟨_,rfl⟩;have HQ5:=hid hq5;rw [hq5] at HR5;clear hr5 hq5;have HV5:Hid (w5.heap[w.heap.size]? =some (vRow 0 (.slice none 0 0) (.slice none 0 0))):=by show _=_;rw [HG5.out.block _ (Nat.lt_of_lt_of_le (Go.lt_of_block HV3.out) HB34.out.size) (fun e=>HRN.out (Option.some.inj e).symm),HB34.out.block _ (Go.lt_of_block HV3.out)];exact HV3.out
   have HX5:Hid (w5.heap[X]? =some (.cells #[.int .u8 k',.bool b',.int .i64 n',.string s',.slice a1 l1 c1,.slice a2 l2 c2] 26 (0,0))):=by show _=_;rw [HG5.out.block _ (Go.lt_of_block HX4.out) (fun e=>by have h1:=Option.some.inj e;have h2:=Go.lt_of_block HR3.out.r;have h3:=HXE.out;omega)];exact HX4.out
   have HB5:Hid (Below w.heap.size w w5):=by
     show Below _ _ _;refine (HB3.out.trans (Below.mono HB34.out HB3.out.size)).trans ⟨HG5.out.os,HG5.out.tape,HG5.out.output,HG5.out.size,fun k hk=>HG5.out.block k (by have:=HB3.out.size;have:=HB34.out.size;omega) (fun e=>by have h1:=Option.some.inj e;have h2:=HRE.out;omega)⟩
   subst hee hxe;have hsk:J.skip r=s.data.toList.drop q5:=by rw [HRS.out,←HQ5.out,J.nextP_drop]
   have HSK:=hid hsk;clear hsk;obtain ⟨d0,d1,d2,d3⟩:=HR5.out.cells;by_cases hlt:q5<s.size
   · have t2:decide ((q5:Int)<(s.size:Int))=true:=decide_eq_true (by omega);go_wp2_with fail;refine (bad_own HR5.out).mono ?_;rintro e w6 ⟨rfl,hr6,hg6⟩;have HR6:=hid hr6;have HG6:=hid hg6;clear hr6 hg6 d0 d1 d2 d3;have HV6:Hid (w6.heap[w.heap.size]? =some (vRow 0 (.slice none 0 0) (.slice none 0 0))):=by show _=_;rw [HG6.out.block _ (Go.lt_of_block HV5.out) (fun e=>HRN.out (Option.some.inj e).symm)];exact HV5.out
     have HB6:Hid (Below w.heap.size w w6):=by
      show Below _ _ _;exact HB5.out.trans ⟨HG6.out.os,HG6.out.tape,HG6.out.output,HG6.out.size,fun k hk=>HG6.out.block k (by have:=HB5.out.size;omega) (fun e=>by have h1:=Option.some.inj e;have h2:=HRE.out;omega)⟩
     obtain ⟨d0,d1,d2,d3⟩:=HR6.out.cells;go_upto_region 9 with fail;obtain ⟨v0,v1,v2,v3,v4,v5⟩:=vcells (k:=0) HV6.out;obtain ⟨f0,f1,f2,f3,f4,f5⟩:=vfree HV6.out;refine wp_region_till (S:=(fun w':World=>w'.heap[R]? =some (rdRow s q5 4 (q5:Int)))) 11 (by kernel_rfl) ?_;have HS:=hid (show ((fun w':World=>w'.heap[R]? =some (rdRow s q5 4 (q5:Int)))) _ from HR6.out.r);refine tillA 0 (fun _=>HS.out) ?_;refine tillA 1 (fun _=>HS.out) ?_;refine tillA 2 (fun _=>HS.out) ?_;refine tillA 3 (fun _=>HS.out) ?_;refine tillA 5 (fun _=>HS.out) ?_;refine tillA 6 (fun _=>HS.out) ?_;refine tillA 7 (fun _=>HS.out) ?_;refine tillL 4 [4,11] (v:= ?v20) HS.out ?hy20 ?_
     case hy20=>
      intro w hSw;have c2:w.cell? ⟨R,2,none⟩=some (.int .i64 4):=by rw [Lib.cell_of_heap hSw];rfl
      have c3:w.cell? ⟨R,3,none⟩=some (.int .i64 q5):=by rw [Lib.cell_of_heap hSw];rfl
      clear hSw;go_simp;try with_reducible rfl
     refine tillL 8 [8,11] (v:= ?v21) HS.out ?hy21 ?_
     case hy21=>
      intro w hSw;have c2:w.cell? ⟨R,2,none⟩=some (.int .i64 4):=by rw [Lib.cell_of_heap hSw];rfl
      have c3:w.cell? ⟨R,3,none⟩=some (.int .i64 q5):=by rw [Lib.cell_of_heap hSw];rfl
      clear hSw;go_simp;try with_reducible rfl
     refine tillD1 9 (fun K hK=> ?step22)
     case step22=>
      go_simp;refine hK.out _ _ (fun _=>((pt6_otherD _ _ _ _ _ _ _ _ _ HRN.out).trans HR6.out.r)) (fun hHeld=> ?_);have HS22:=hid (hHeld (by kernel_rfl));clear hHeld hK K;refine tillA 10 (fun _=>HS22.out) ?_;refine tillD1 11 (fun K hK=> ?step24)
      case step24=>
       go_simp;refine hK.out _ _ (fun hk=>by cases (show true=false from hk)) (fun _=> ?_);clear hK K;refine wpTill_done (by kernel_rfl) ?_ _;go_wp2_with fail;exact bodyPost_ret (v:= .tuple #[.agg #[.int .u8 0,.bool false,.int .i64 0,.string ⟨#[]⟩,.slice none 0 0,.slice none 0 0],.int .i64 q5,.int .i64 4]) (results_triple rfl _ _ w.heap.size 26 #[.int .u8 0,.bool false,.int .i64 0,.string ⟨#[]⟩,.slice none 0 0,.slice none 0 0] (0,0) _ (.int .i64 q5) (.int .i64 4) rfl (pt6_rowD HV6.out _ _ _ _ _ _) rfl rfl Tryz.underlying26 rfl infoJSON) rfl ((by rw [←HRES.out,parse_rest HS0.out HX.out hlt HSK.out];exact parse_zero (x:=(J.V.zero,(q5:Int),4)) rfl (pt6_belowD HB6.out (Nat.le_refl _) _ _ _ _ _ _)))
   · have t2:decide ((q5:Int)<(s.size:Int))=false:=decide_eq_false (by omega);obtain ⟨v0,v1,v2,v3,v4,v5⟩:=vcells (k:=0) HV5.out;obtain ⟨f0,f1,f2,f3,f4,f5⟩:=vfree HV5.out;obtain ⟨x0,x1,x2,x3,x4,x5⟩:=x6_of HX5.out;go_wp2_with fail;exact bodyPost_ret (v:= .tuple #[.agg #[.int .u8 k',.bool b',.int .i64 n',.string s',.slice a1 l1 c1,.slice a2 l2 c2],.int .i64 0,.int .i64 0]) (results_triple rfl _ _ w.heap.size 26 #[.int .u8 k',.bool b',.int .i64 n',.string s',.slice a1 l1 c1,.slice a2 l2 c2] (0,0) _ (.int .i64 0) (.int .i64 0) rfl (pt6_row HV5.out _ _ _ _ _ _) rfl rfl Tryz.underlying26 rfl infoJSON) rfl ((by rw [←HRES.out,parse_ok HS0.out HX.out (by rw [HSK.out];exact drop_end (by omega))];exact parse_value HLO.out HH.out HR3.out.g HB34.out HG5.out HB2.out HB5.out HR3.out.lt (Go.lt_of_block HV2.out)))
 · have HX:=hid hx;have HR3:=hid hr;obtain ⟨k',b',n',s',a1,l1,c1,a2,l2,c2,rfl⟩:=hsh;obtain ⟨qq,hqe⟩:∃qq,q=qq:=⟨_,rfl⟩;obtain ⟨er0,hee⟩:∃er0,er=er0:=⟨_,rfl⟩;obtain ⟨xx0,hxe⟩:∃xx0,((s.size-n:Nat):Int)=xx0:=⟨_,rfl⟩;have hqq:qq≤s.size:=by omega
   have hne:er0≠0:=by rw [←hee];exact ((J.fair_steps (J.val_fair 16 _)).2 n er hx).2
   rw [hqe,hee,hxe] at HR3;have HXX:=hid (show er=er0∧_=xx0 from ⟨hee,hxe⟩);clear hx hr hqe hee hxe hq;have HV3:Hid (w3.heap[w.heap.size]? =some (vRow 0 (.slice none 0 0) (.slice none 0 0))):=by show _=_;rw [HR3.out.g.block _ (Go.lt_of_block HV2.out) (fun e=>HRN.out (Option.some.inj e).symm)];exact HV2.out
   have HB3:Hid (Below w.heap.size w w3):=⟨HR3.out.g.os.trans HB2.out.os,HR3.out.g.tape.trans HB2.out.tape,HR3.out.g.output.trans HB2.out.output,Nat.le_trans HB2.out.size HR3.out.g.size,fun k hk=>by rw [HR3.out.g.block k (Nat.lt_of_lt_of_le hk HB2.out.size) (fun e=>by have:=Option.some.inj e;have:=HRE.out;omega)];exact HB2.out.block k hk⟩;go_upto_region 5 with fail;obtain ⟨w4,hw4⟩:∃w4,w3.alloc (.cells #[.int .u8 k',.bool b',.int .i64 n',.string s',.slice a1 l1 c1,.slice a2 l2 c2] 26)=w4:=⟨_,rfl⟩;obtain ⟨X,hX⟩:∃X,w3.heap.size=X:=⟨_,rfl⟩;have HX4:Hid (w4.heap[X]? =some (.cells #[.int .u8 k',.bool b',.int .i64 n',.string s',.slice a1 l1 c1,.slice a2 l2 c2] 26 (0,0))):=by show _=_;rw [←hw4,←hX];exact heap_alloc_new w3 _
   have HR4:Hid (Rdr w2 R s qq er0 xx0 w4):=by show Rdr _ _ _ _ _ _ _;rw [←hw4];exact HR3.out.alloc _
   have HB34:Hid (Below w3.heap.size w3 w4):=by show Below _ _ _;rw [←hw4];exact (Below.refl _ w3).alloc (Nat.le_refl _) _
   rw [hw4,hX];have HXE:=hid hX;clear hw4 hX;have cN:=next_any HR4.out.own hqq (by omega);go_wp2_with fail;refine cN.mono ?_;rintro e w5 ⟨rfl,hr5⟩;clear cN;have HR5:=hid (HR4.out.trans hr5);have HG5:=hid hr5.g;obtain ⟨q5,hq5⟩:∃q5,J.nextP s qq=q5:=⟨_,rfl⟩;have HQ5:=hid hq5;rw [hq5] at HR5;clear hr5 hq5;have HV5:Hid (w5.heap[w.heap.size]? =some (vRow 0 (.slice none 0 0) (.slice none 0 0))):=by show _=_;rw [HG5.out.block _ (Nat.lt_of_lt_of_le (Go.lt_of_block HV3.out) HB34.out.size) (fun e=>HRN.out (Option.some.inj e).symm),HB34.out.block _ (Go.lt_of_block HV3.out)];exact HV3.out
   have HX5:Hid (w5.heap[X]? =some (.cells #[.int .u8 k',.bool b',.int .i64 n',.string s',.slice a1 l1 c1,.slice a2 l2 c2] 26 (0,0))):=by show _=_;rw [HG5.out.block _ (Go.lt_of_block HX4.out) (fun e=>by have h1:=Option.some.inj e;have h2:=Go.lt_of_block HR3.out.r;have h3:=HXE.out;omega)];exact HX4.out
   have HB5:Hid (Below w.heap.size w w5):=by
     show Below _ _ _;refine (HB3.out.trans (Below.mono HB34.out HB3.out.size)).trans ⟨HG5.out.os,HG5.out.tape,HG5.out.output,HG5.out.size,fun k hk=>HG5.out.block k (by have:=HB3.out.size;have:=HB34.out.size;omega) (fun e=>by have h1:=Option.some.inj e;have h2:=HRE.out;omega)⟩
   have t1:(er0 !=0)=true:=by rw [bne_iff_ne];exact hne
   obtain ⟨d0,d1,d2,d3⟩:=HR5.out.cells;clear hne;go_upto_region 9 with fail;obtain ⟨v0,v1,v2,v3,v4,v5⟩:=vcells (k:=0) HV5.out;obtain ⟨f0,f1,f2,f3,f4,f5⟩:=vfree HV5.out;refine wp_region_till (S:=(fun w':World=>w'.heap[R]? =some (rdRow s q5 er0 xx0))) 11 (by kernel_rfl) ?_;have HS:=hid (show ((fun w':World=>w'.heap[R]? =some (rdRow s q5 er0 xx0))) _ from HR5.out.r);refine tillA 0 (fun _=>HS.out) ?_;refine tillA 1 (fun _=>HS.out) ?_;refine tillA 2 (fun _=>HS.out) ?_;refine tillA 3 (fun _=>HS.out) ?_;refine tillA 5 (fun _=>HS.out) ?_;refine tillA 6 (fun _=>HS.out) ?_;refine tillA 7 (fun _=>HS.out) ?_;refine tillL 4 [4,11] (v:= ?v8) HS.out ?hy8 ?_
   case hy8=>
     intro w hSw;have c2:w.cell? ⟨R,2,none⟩=some (.int .i64 er0):=by rw [Lib.cell_of_heap hSw];rfl
     have c3:w.cell? ⟨R,3,none⟩=some (.int .i64 xx0):=by rw [Lib.cell_of_heap hSw];rfl
     clear hSw;go_simp;try with_reducible rfl
   refine tillL 8 [8,11] (v:= ?v9) HS.out ?hy9 ?_
   case hy9=>
     intro w hSw;have c2:w.cell? ⟨R,2,none⟩=some (.int .i64 er0):=by rw [Lib.cell_of_heap hSw];rfl
     have c3:w.cell? ⟨R,3,none⟩=some (.int .i64 xx0):=by rw [Lib.cell_of_heap hSw];rfl
     clear hSw;go_simp;try with_reducible rfl
   refine tillD1 9 (fun K hK=> ?step10)
   case step10=>
     go_simp;refine hK.out _ _ (fun _=>((pt6_otherD _ _ _ _ _ _ _ _ _ HRN.out).trans HR5.out.r)) (fun hHeld=> ?_);have HS10:=hid (hHeld (by kernel_rfl));clear hHeld hK K;refine tillA 10 (fun _=>HS10.out) ?_;refine tillD1 11 (fun K hK=> ?step12)
     case step12=>
      go_simp;refine hK.out _ _ (fun hk=>by cases (show true=false from hk)) (fun _=> ?_);clear hK K;refine wpTill_done (by kernel_rfl) ?_ _;go_wp2_with fail;exact bodyPost_ret (v:= .tuple #[.agg #[.int .u8 0,.bool false,.int .i64 0,.string ⟨#[]⟩,.slice none 0 0,.slice none 0 0],.int .i64 xx0,.int .i64 er0]) (results_triple rfl _ _ w.heap.size 26 #[.int .u8 0,.bool false,.int .i64 0,.string ⟨#[]⟩,.slice none 0 0,.slice none 0 0] (0,0) _ (.int .i64 xx0) (.int .i64 er0) rfl (pt6_rowD HV5.out _ _ _ _ _ _) rfl rfl Tryz.underlying26 rfl infoJSON) rfl ((by rw [←HRES.out,parse_err HS0.out HX.out,HXX.out.1,HXX.out.2];exact parse_zero (x:=(J.V.zero,xx0,er0)) rfl (pt6_belowD HB5.out (Nat.le_refl _) _ _ _ _ _ _)))
theorem parse_any (s:ByteArray) (w:World) (hE:Errs w) (hT:Tabs w):Calls Tryz.prog 19 #[.string s] w (ParseOf w (J.parse s.data.toList)):=by
 by_cases h:65536<s.size
 · exact parse_big h w
 · exact parse_small h w hE hT
theorem infoAsk:(Tryz.prog.info? 39).map (·.size)=some 16:=by kernel_rfl
structure EnvX (w:World):Prop where
 r:EnvR w
 p:EnvP w
theorem EnvX.under {w w':World}(h:EnvX w) (hb:Below w.heap.size w w'):EnvX w':=⟨h.r.under hb,h.p.under hb⟩
def bodyOf (b:ByteArray):ByteArray:=if b.data.toList= [] then ⟨#[123,125]⟩ else b
def ReadOf (D:Int→Int→Int→Prop) (x:R.Ans) (w:World) (e:Ending) (W:World):Prop:=
 Below w.heap.size w W∧(match x with
  | .no s r=>e= .returned (.tuple #[.agg #[.int .u8 0,.string ⟨#[]⟩,.string ⟨#[]⟩,.slice none 0 0,.slice none 0 0,.slice none 0 0,.string ⟨#[]⟩,.string ⟨#[]⟩,.string ⟨#[]⟩,.int .i64 0,.int .i64 0,.int .i64 0,.slice none 0 0,.int .u8 0,.string ⟨#[]⟩,.int .i64 0],.agg #[.int .i64 s,.string (textOf (J.errV r))],.bool false])
  | .look g nm id=>e= .returned (.tuple #[.agg #[.int .u8 0,.string ⟨#[]⟩,.string ⟨#[]⟩,.slice none 0 0,.slice none 0 0,.slice none 0 0,.string ⟨#[]⟩,.string ⟨#[]⟩,.string ⟨#[]⟩,.int .i64 0,.int .i64 0,.int .i64 0,.slice none 0 0,.int .u8 g,.string nm,.int .i64 id],.agg #[.int .i64 0,.string ⟨#[]⟩],.bool true])
  | .deploy=> ∃q1 q2 r,D q1 q2 r∧e= .returned (.tuple #[.agg #[.int .u8 0,.string ⟨#[]⟩,.string ⟨#[]⟩,.slice none 0 0,.slice none 0 0,.slice none 0 0,.string ⟨#[]⟩,.string ⟨#[]⟩,.string ⟨#[]⟩,.int .i64 0,.int .i64 0,.int .i64 0,.slice none 0 0,.int .u8 0,.string ⟨#[]⟩,.int .i64 0],.agg #[.int .i64 422,.string (textOf (J.pairsV [(J.nError,r),(J.nLine,q1),(J.nColumn,q2)]))],.bool false])
  | .bad q r=>e= .returned (.tuple #[.agg #[.int .u8 0,.string ⟨#[]⟩,.string ⟨#[]⟩,.slice none 0 0,.slice none 0 0,.slice none 0 0,.string ⟨#[]⟩,.string ⟨#[]⟩,.string ⟨#[]⟩,.int .i64 0,.int .i64 0,.int .i64 0,.slice none 0 0,.int .u8 0,.string ⟨#[]⟩,.int .i64 0],.agg #[.int .i64 400,.string (textOf (J.pairsV [(J.nError,r),(J.nAt,q)]))],.bool false])
  | .deed K id d=> ∃pv,e= .returned (.tuple #[.agg #[.int .u8 K,.string ⟨#[]⟩,.string ⟨#[]⟩,.slice none 0 0,.slice none 0 0,.slice none 0 0,.string d.name,.string d.key,.string d.worker,.int .i64 id,.int .i64 d.n,.int .i64 d.ticks,pv,.int .u8 0,.string ⟨#[]⟩,.int .i64 0],.agg #[.int .i64 0,.string ⟨#[]⟩],.bool true])∧W.ownsRow w.heap.size 57 5 pv d.patch.length (R.bindsC d.patch))
structure RB (w:World) (X Z Y:Nat) (m p k b:ByteArray) (W:World):Prop where
 rq:W.heap[X]? =some (.cells #[.string m,.string p,.string k,.string b] 45 (0,0))
 az:W.heap[Z]? =some (.cells #[.int .u8 0,.string ⟨#[]⟩,.string ⟨#[]⟩,.slice none 0 0,.slice none 0 0,.slice none 0 0,.string ⟨#[]⟩,.string ⟨#[]⟩,.string ⟨#[]⟩,.int .i64 0,.int .i64 0,.int .i64 0,.slice none 0 0,.int .u8 0,.string ⟨#[]⟩,.int .i64 0] 39 (0,0))
 rs:W.heap[Y]? =some (.cells #[.int .i64 0,.string ⟨#[]⟩] 41 (0,0))
 bl:Below w.heap.size w W
theorem RB.after {w W W':World}{X Z Y:Nat}{m p k b:ByteArray}(h:RB w X Z Y m p k b W) (hb:Below W.heap.size W W'):RB w X Z Y m p k b W':=
 ⟨(hb.block X (Go.lt_of_block h.rq)).trans h.rq,(hb.block Z (Go.lt_of_block h.az)).trans h.az,(hb.block Y (Go.lt_of_block h.rs)).trans h.rs,h.bl.trans (hb.mono h.bl.size)⟩
theorem RB.put {w W W':World}{X Z Y A:Nat}{m p k b:ByteArray}(h:RB w X Z Y m p k b W) (hg:G2 A none W W') (hA:w.heap.size≤A) (h1:X≠A) (h2:Z≠A) (h3:Y≠A):RB w X Z Y m p k b W':=by
 have e:∀j,j≠A→j<W.heap.size→W'.heap[j]? =W.heap[j]? :=fun j h1 h2=>hg.block j h2 h1 (fun e=>by cases e)
 refine ⟨(e X h1 (Go.lt_of_block h.rq)).trans h.rq,(e Z h2 (Go.lt_of_block h.az)).trans h.az,(e Y h3 (Go.lt_of_block h.rs)).trans h.rs,?_⟩;exact h.bl.grown (row:=some A) ⟨hg.os,hg.tape,hg.output,hg.size,fun j hj hne=>e j (fun h=>hne (by rw [h])) hj⟩ h.bl.size (fun q hq=>by have:=Option.some.inj hq;omega)
namespace R
theorem find_post {path:ByteArray}{f:Found}(h:find path=some f):f.post=0∨f.post=1∨(2≤f.post∧f.post≤9)∨f.post=11:=by
 unfold find at h;split at h
 case isFalse=>cases h
 split at h
 · cases h
 rename_i g hg;split at h
 case isFalse=>cases h
 cases h;have:∀p∈places,p.2.2=0∨p.2.2=1∨(2≤p.2.2∧p.2.2≤9)∨p.2.2=11:=by decide
 exact this _ (lookL_mem hg)
variable {get post:Bool}{path:ByteArray}{y:J.V×Int×Int}{f:Found}
theorem read_none (h:find path=none):read get post path y= .no 404 301:=by unfold read;rw [h]
theorem read_look (h:find path=some f) (h1:get=true) (h2:0<f.get):read get post path y= .look f.get f.name f.id:=by unfold read;rw [h];exact if_pos ⟨h1,h2⟩
theorem read_meth (h:find path=some f) (h1:¬ (get=true∧0<f.get)) (h2:post=false∨f.post=0):read get post path y= .no 405 300:=by unfold read;rw [h];simp only;rw [if_neg h1,if_pos h2]
theorem read_dep (h:find path=some f) (h1:get=false) (h2:post=true) (h3:f.post=1):read get post path y= .deploy:=by
 unfold read;rw [h];simp only;rw [if_neg (by rw [h1];simp),if_neg (by rw [h2,h3];simp),if_pos h3]
theorem read_rest (h:find path=some f) (h1:get=false) (h2:post=true) (h3:f.post≠1) (h4:f.post≠0):read get post path y=if y.2.2≠0 then .bad y.2.1 y.2.2 else (match fill f.post (d0 f.post) y.1 with|none=> .no 400 4|some d=> .deed f.post f.id d):=by
 unfold read;rw [h];simp only;rw [if_neg (by rw [h1];simp),if_neg (by rw [h2];simp [h4]),if_neg h3];rfl
theorem even_loose:∀ {t u:J.T},t.loose u→evenT u→evenT t
 | .nil,.nil,_,_=>trivial
 | .cons k b n s l m r,.cons k' b' n' s' l' m' r',h,hu=>by
   obtain ⟨h1, -, -, -,h5,h6,h7⟩:=h
   refine ⟨fun hk=> ?_,even_loose h7 hu.2⟩
   have h8:=hu.1 (by rw [←h1];exact hk)
   rcases h6 with h6|⟨h6, -⟩
   · rw [h5,J.T.loose_len h6];exact h8
   · omega
 | .nil,.cons ..,h,_=>h.elim
 | .cons ..,.nil,h,_=>h.elim
theorem loose_even {x y:J.V}(h:x.loose y) (hy:even y):even x:=fun hk=>by
 obtain ⟨h1, -, -, -,h5,h6⟩:=h
 obtain ⟨e1,e2,e3⟩:=hy (by rw [←h1];exact hk)
 rcases h6 with h6|⟨h6, -⟩
 · rw [h5,J.T.loose_len h6];exact ⟨e1,e2,even_loose h6 e3⟩
 · omega
end R
theorem row_keep {W W':World}{B:Nat}{E:TypeId}{sz n:Nat}{v:Value}{xs:List Value}(h:W.ownsRow B E sz v n xs) (hk:∀g,v.ownBlock=some g→W'.heap[g]? =W.heap[g]?):W'.ownsRow B E sz v n xs:=by
 refine ⟨h.1,?_⟩;rcases h.2 with h1|⟨g,cap,cur,rfl,h2,h3,h4⟩
 · exact Or.inl h1
 · exact Or.inr ⟨g,cap,cur,rfl,h2,(hk g rfl).trans h3,h4⟩
theorem nil_row {W:World}{B:Nat}{E:TypeId}{sz:Nat}:W.ownsRow B E sz (.slice none 0 0) 0 []:=World.ownsRow_nil _ _ _ _
theorem row_low {W:World}{B B':Nat}{E:TypeId}{sz n:Nat}{v:Value}{xs:List Value}(h:W.ownsRow B E sz v n xs) (hB:B'≤B):W.ownsRow B' E sz v n xs:=by
 refine ⟨h.1,?_⟩;rcases h.2 with h1|⟨g,cap,cur,h1,h2,h3⟩
 · exact Or.inl h1
 · exact Or.inr ⟨g,cap,cur,h1,Nat.le_trans hB h2,h3⟩
def splitR (n:Nat):Code→Option (Code×Code)
 | .seq (.region k o q) b=>if k=n then some (.region k o q,b) else splitR n b
 | .seq a b=>match splitR n a with
   | some c=>some c
   | none=>splitR n b
 | .block _ c=>splitR n c
 | .scope c=>splitR n c
 | _=>none
noncomputable def readReg20:Code:=((Tryz.f7.body.bind (splitR 20)).getD (.skip,.skip)).1
noncomputable def readBehind20:Code:=((Tryz.f7.body.bind (splitR 20)).getD (.skip,.skip)).2
theorem read_tail {w w5:World}{X Z Y A KD:Nat}{m p k b bq:ByteArray}{id n0 pa er:Int}{yv:J.V}{x:R.Ans}{D:Int→Int→Int→Prop}{c0 c1 c4 c5 c6 c7 c8 c10 c11 c12 c14 c15 c16 c17 c18 c19 c20 c21 c22 c23 c24 c25 c26 c27 c28 c29 c30 c31 c32 c33 c34 c35 c36 c37 c38 c39 c40 c41 c42 c43 c44 c45 c46 c47 c48 c49 c50 c51 c52 c53 c54 c55 c56 c57 c58 c59 c60 c61 c62 c63 c64 c65 c66 c67 c68 c69 c70 c71 c72 c73 c74 c75 c76 c77 c78 c79 c80 c81 c82 c83 c84 c85 c86 c87 c88 c89 c90 c91 c92 c93 c94 c95 c96 c97 c98 c99 c100 c101 c102 c103 c104 c105 c106 c107 c108 c109 c110 c111 c112 c113 c114 c115 c116 c117 c118 c119 c120 c121:Value}(hR5:RB w X Z Y m p k b w5) (hA5:w5.heap[A]? =some (.cells #[.int .u8 KD,.string ⟨#[]⟩,.string ⟨#[]⟩,.slice none 0 0,.slice none 0 0,.slice none 0 0,.string ⟨#[]⟩,.string ⟨#[]⟩,.string ⟨#[]⟩,.int .i64 id,.int .i64 n0,.int .i64 0,.slice none 0 0,.int .u8 0,.string ⟨#[]⟩,.int .i64 0] 39 (0,0))) (hAW:w.heap.size≤A∧X≠A∧Z≠A∧Y≠A)
   (hE:EnvX w) (hyp:J.parse bq.data.toList=(yv,pa,er)) (hev:R.even yv) (hns:∀a∈yv.ns,a.size≤1000000000000) (hbad:er≠0→Prints (J.pairsV [(J.nError,er),(J.nAt,pa)]))
   (hrr:x=if er≠0 then .bad pa er else (match R.fill KD (R.d0 KD) yv with|none=> .no 400 4|some d=> .deed KD id d)) (hkk:2≤KD∧KD≤9∨KD=11) (hn0:(R.d0 KD).n=n0) (hzy:Z≠Y) (hzw:w.heap.size≤Z) (hyw:w.heap.size≤Y):
   Code.wp Tryz.prog readReg20 (Exit.then (fun a w'=>Code.wp Tryz.prog readBehind20 (bodyPost Tryz.prog Tryz.f7 (ReadOf D x w)) a w') (bodyPost Tryz.prog Tryz.f7 (ReadOf D x w))) ⟨(c0::c1:: .pointer (some ⟨Z,0,none⟩):: .pointer (some ⟨Y,0,none⟩)::c4::c5::c6::c7::c8:: .pointer (some ⟨A,0,none⟩)::c10::c11::c12:: .string bq::c14::c15::c16::c17::c18::c19::c20::c21::c22::c23::c24::c25::c26::c27::c28::c29::c30::c31::c32::c33::c34::c35::c36::c37::c38::c39::c40::c41::c42::c43::c44::c45::c46::c47::c48::c49::c50::c51::c52::c53::c54::c55::c56::c57::c58::c59::c60::c61::c62::c63::c64::c65::c66::c67::c68::c69::c70::c71::c72::c73::c74::c75::c76::c77::c78::c79::c80::c81::c82::c83::c84::c85::c86::c87::c88::c89::c90::c91::c92::c93::c94::c95::c96::c97::c98::c99::c100::c101::c102::c103::c104::c105::c106::c107::c108::c109::c110::c111::c112::c113::c114::c115::c116::c117::c118::c119::c120::c121:: []).toArray,[]⟩ w5:=by
 suffices hS:∀KK:Act→World→Prop,(∀a w',Code.wp Tryz.prog readBehind20 (bodyPost Tryz.prog Tryz.f7 (ReadOf D x w)) a w'→KK a w')→Code.wp Tryz.prog readReg20 (Exit.then KK (bodyPost Tryz.prog Tryz.f7 (ReadOf D x w))) ⟨(c0::c1:: .pointer (some ⟨Z,0,none⟩):: .pointer (some ⟨Y,0,none⟩)::c4::c5::c6::c7::c8:: .pointer (some ⟨A,0,none⟩)::c10::c11::c12:: .string bq::c14::c15::c16::c17::c18::c19::c20::c21::c22::c23::c24::c25::c26::c27::c28::c29::c30::c31::c32::c33::c34::c35::c36::c37::c38::c39::c40::c41::c42::c43::c44::c45::c46::c47::c48::c49::c50::c51::c52::c53::c54::c55::c56::c57::c58::c59::c60::c61::c62::c63::c64::c65::c66::c67::c68::c69::c70::c71::c72::c73::c74::c75::c76::c77::c78::c79::c80::c81::c82::c83::c84::c85::c86::c87::c88::c89::c90::c91::c92::c93::c94::c95::c96::c97::c98::c99::c100::c101::c102::c103::c104::c105::c106::c107::c108::c109::c110::c111::c112::c113::c114::c115::c116::c117::c118::c119::c120::c121:: []).toArray,[]⟩ w5 from hS _ (fun _ _ h=>h)
 intro KK hKK;conv=>arg 2;whnf
 conv at hKK=>enter [a,w',1,2];whnf
 have HR5:=hid hR5;have HA5:=hid hA5;have HAW:=hid hAW;have HE:=hid hE;have HYP:=hid hyp;have HEV:=hid hev;have HNS:=hid hns;have HBAD:=hid hbad;have HRR:=hid hrr;have HKK:=hid hkk;have HN0:=hid hn0;have HZY:=hid hzy;have HZW:=hid hzw;have HYW:=hid hyw;clear hR5 hA5 hAW hE hyp hev hns hbad hrr hkk hn0 hzy hzw hyw;have cP:=parse_any bq w5 (HE.out.under HR5.out.bl).r.e (HE.out.under HR5.out.bl).p.t;rw [HYP.out] at cP;go_wp2_with fail;refine cP.mono ?_;rintro e w6 ⟨v,cs,hlo,rfl,hh,hb⟩;obtain ⟨lv,nv,rfl,hl,hs⟩:=hh;obtain ⟨la,lc,rfl⟩:=hl.shape;obtain ⟨na,nc,rfl⟩:=hs.shape;dsimp only;have HR6:=hid (HR5.out.after hb);have HA6:=hid ((hb.block A (Go.lt_of_block HA5.out)).trans HA5.out);have HL6:=hid hl;have HS6:=hid hs;have HA56:Hid (A<w5.heap.size):=Go.lt_of_block HA5.out;have HEV6:=hid (R.loose_even hlo HEV.out);have HNS6:Hid (∀a∈v.ns,a.size≤1000000000000):=by show ∀a∈v.ns,_;rw [hlo.2.2.2.2.1];exact HNS.out
 have HFL:=hid (R.fill_loose KD (R.d0 KD) hlo);clear hb cP hlo hl hs;obtain ⟨w7,hw7⟩:∃w7,w6.alloc (.cells #[.int .u8 v.k,.bool v.b,.int .i64 v.n,.string v.s,.slice la v.l.length lc,.slice na v.ns.length nc] 26)=w7:=⟨_,rfl⟩;obtain ⟨V,hV⟩:∃V,w6.heap.size=V:=⟨_,rfl⟩;have hb7:Below w6.heap.size w6 w7:=by rw [←hw7];exact (Below.refl _ w6).alloc (Nat.le_refl _) _
 have HV7:Hid (w7.heap[V]? =some (.cells #[.int .u8 v.k,.bool v.b,.int .i64 v.n,.string v.s,.slice la v.l.length lc,.slice na v.ns.length nc] 26 (0,0))):=by show _=_;rw [←hw7,←hV];exact heap_alloc_new w6 _
 have HR7:=hid (HR6.out.after hb7);have HA7:=hid ((hb7.block A (Go.lt_of_block HA6.out)).trans HA6.out);by_cases he:er=0
 · have g3:(er !=0)=false:=by simp [he]
   go_upto_region 23 with fail;try rw [hw7]
   try rw [hV]
   have hkp:∀j,Own w6 w5.heap.size none j→w7.heap[j]? =w6.heap[j]? :=fun j hj=>hb7.block j hj.2.1
   have cL:=fill_any v (.slice la v.l.length lc) (.slice na v.ns.length nc) w7 (Own w6 w5.heap.size none) A KD id (R.d0 KD) HKK.out (J.T.In.keep (fun _ h=>h) hkp HL6.out) (J.SIn.keep (fun _ h=>h) hkp HS6.out) HEV6.out rfl (fun j hj=>⟨Nat.lt_of_lt_of_le hj.2.1 hb7.size,fun e=>by have:=hj.1;have:=HA56.out;omega⟩) HNS6.out ⟨⟨by rw [HN0.out];exact HA7.out⟩,nil_row,Go.lt_of_block HA7.out⟩;obtain ⟨x0,x1,x2,x3,x4,x5⟩:=x6_of HV7.out;have HFI:Hid (∀z,R.fill KD (R.d0 KD) v=z→x=(match z with|none=> .no 400 4|some d=> .deed KD id d)):=fun z hz=>by
     rw [HRR.out];try dsimp only
     rw [if_neg (by simpa using he),←HFL.out,hz]
   clear hw7 hV hb7 hkp he;go_wp2_with fail;refine cL.mono ?_;rintro e w8 ⟨hg8,hor⟩;have HR8:=hid (HR7.out.put hg8 HAW.out.1 HAW.out.2.1 HAW.out.2.2.1 HAW.out.2.2.2);clear x0 x1 x2 x3 x4 x5 cL;rcases hor with ⟨hno,rfl⟩|⟨d,pv,hsm,rfl,hd8, -⟩
   · have HXV:=hid (HFI.out _ hno);clear hno hg8;go_wp2_with fail;refine (refuse_any 400 4 (prints_err 4 (by decide)) w8 (HE.out.under HR8.out.bl).p).mono ?_;rintro e w9 ⟨rfl,hb⟩;have HR9:=hid (HR8.out.after hb);clear hb;obtain ⟨tx,htx⟩:∃tx,textOf (J.errV 4)=tx:=⟨_,rfl⟩;rw [htx];have HTX:=hid htx;clear htx;have HYR:Hid ((w9.setRow Z #[.int .u8 0,.string ⟨#[]⟩,.string ⟨#[]⟩,.slice none 0 0,.slice none 0 0,.slice none 0 0,.string ⟨#[]⟩,.string ⟨#[]⟩,.string ⟨#[]⟩,.int .i64 0,.int .i64 0,.int .i64 0,.slice none 0 0,.int .u8 0,.string ⟨#[]⟩,.int .i64 0]).heap[Y]? =some (.cells #[.int .i64 0,.string ⟨#[]⟩] 41 (0,0))):=(setRow_other _ _ _ _ HZY.out.symm).trans HR9.out.rs;go_wp2_with (first
       | (refine wpList_store_row rfl 39 (.tmp 2) (.tmp 118) rfl Z #[.int .u8 0,.string ⟨#[]⟩,.string ⟨#[]⟩,.slice none 0 0,.slice none 0 0,.slice none 0 0,.string ⟨#[]⟩,.string ⟨#[]⟩,.string ⟨#[]⟩,.int .i64 0,.int .i64 0,.int .i64 0,.slice none 0 0,.int .u8 0,.string ⟨#[]⟩,.int .i64 0] rfl rfl 39 _ HR9.out.az infoAsk rfl (by kernel_rfl) ?_)
       | (refine wpList_store_row rfl 41 (.tmp 3) (.tmp 119) rfl Y #[.int .i64 400,.string tx] rfl rfl 41 _ HYR.out infoResp rfl (by kernel_rfl) ?_)
       | fail)
     refine bodyPost_ret (v:= .tuple #[.agg #[.int .u8 0,.string ⟨#[]⟩,.string ⟨#[]⟩,.slice none 0 0,.slice none 0 0,.slice none 0 0,.string ⟨#[]⟩,.string ⟨#[]⟩,.string ⟨#[]⟩,.int .i64 0,.int .i64 0,.int .i64 0,.slice none 0 0,.int .u8 0,.string ⟨#[]⟩,.int .i64 0],.agg #[.int .i64 400,.string tx],.bool false]) (results_cct rfl _ _ Z Y 39 41 #[.int .u8 0,.string ⟨#[]⟩,.string ⟨#[]⟩,.slice none 0 0,.slice none 0 0,.slice none 0 0,.string ⟨#[]⟩,.string ⟨#[]⟩,.string ⟨#[]⟩,.int .i64 0,.int .i64 0,.int .i64 0,.slice none 0 0,.int .u8 0,.string ⟨#[]⟩,.int .i64 0] #[.int .i64 400,.string tx] (0,0) (0,0) _ _ _ rfl ((setRow_other _ _ _ _ HZY.out).trans (setRow_heap _ _ _ _ _ _ HR9.out.az)) rfl (setRow_heap _ _ _ _ _ _ HYR.out) rfl Tryz.underlying39 rfl infoAsk Tryz.underlying41 rfl infoResp) rfl ?_;rw [HXV.out];refine ⟨below_setRow (below_setRow HR9.out.bl HZW.out _) HYW.out _,?_⟩;rw [←HTX.out]
   · have HXV:=hid (HFI.out _ hsm);obtain ⟨pb,pc,hpv⟩:∃pb pc,pv= .slice pb d.patch.length pc:=own_shape hd8.own;subst hpv;have HOW:=hid hd8.own;have HFA:=hid hd8.far;have HLT:Hid (Z<w7.heap.size∧Y<w7.heap.size):=⟨Go.lt_of_block HR7.out.az,Go.lt_of_block HR7.out.rs⟩;have hrow:=hd8.sx.h;have a0:w8.cell? ⟨A,0,none⟩=some (.int .u8 KD):=rowCell hrow 0;have a1:w8.cell? ⟨A,1,none⟩=some (.string ⟨#[]⟩):=rowCell hrow 1;have a2:w8.cell? ⟨A,2,none⟩=some (.string ⟨#[]⟩):=rowCell hrow 2;have a3:w8.cell? ⟨A,3,none⟩=some (.slice none 0 0):=rowCell hrow 3;have a4:w8.cell? ⟨A,4,none⟩=some (.slice none 0 0):=rowCell hrow 4;have a5:w8.cell? ⟨A,5,none⟩=some (.slice none 0 0):=rowCell hrow 5;have a6:w8.cell? ⟨A,6,none⟩=some (.string d.name):=rowCell hrow 6;have a7:w8.cell? ⟨A,7,none⟩=some (.string d.key):=rowCell hrow 7;have a8:w8.cell? ⟨A,8,none⟩=some (.string d.worker):=rowCell hrow 8;have a9:w8.cell? ⟨A,9,none⟩=some (.int .i64 id):=rowCell hrow 9;have a10:w8.cell? ⟨A,10,none⟩=some (.int .i64 d.n):=rowCell hrow 10;have a11:w8.cell? ⟨A,11,none⟩=some (.int .i64 d.ticks):=rowCell hrow 11;have a12:w8.cell? ⟨A,12,none⟩=some ((.slice pb d.patch.length pc)):=rowCell hrow 12;have a13:w8.cell? ⟨A,13,none⟩=some (.int .u8 0):=rowCell hrow 13;have a14:w8.cell? ⟨A,14,none⟩=some (.string ⟨#[]⟩):=rowCell hrow 14;have a15:w8.cell? ⟨A,15,none⟩=some (.int .i64 0):=rowCell hrow 15;clear hsm hd8 hrow hg8;have HYR:Hid ((w8.setRow Z #[.int .u8 KD,.string ⟨#[]⟩,.string ⟨#[]⟩,.slice none 0 0,.slice none 0 0,.slice none 0 0,.string d.name,.string d.key,.string d.worker,.int .i64 id,.int .i64 d.n,.int .i64 d.ticks,(.slice pb d.patch.length pc),.int .u8 0,.string ⟨#[]⟩,.int .i64 0]).heap[Y]? =some (.cells #[.int .i64 0,.string ⟨#[]⟩] 41 (0,0))):=(setRow_other _ _ _ _ HZY.out.symm).trans HR8.out.rs;go_wp2_with (first
       | (refine wpList_store_row rfl 39 (.tmp 2) (.tmp 120) rfl Z #[.int .u8 KD,.string ⟨#[]⟩,.string ⟨#[]⟩,.slice none 0 0,.slice none 0 0,.slice none 0 0,.string d.name,.string d.key,.string d.worker,.int .i64 id,.int .i64 d.n,.int .i64 d.ticks,(.slice pb d.patch.length pc),.int .u8 0,.string ⟨#[]⟩,.int .i64 0] rfl rfl 39 _ HR8.out.az infoAsk rfl (by kernel_rfl) ?_)
       | (refine wpList_store_row rfl 41 (.tmp 3) (.tmp 121) rfl Y #[.int .i64 0,.string ⟨#[]⟩] rfl rfl 41 _ HYR.out infoResp rfl (by kernel_rfl) ?_)
       | fail)
     refine bodyPost_ret (v:= .tuple #[.agg #[.int .u8 KD,.string ⟨#[]⟩,.string ⟨#[]⟩,.slice none 0 0,.slice none 0 0,.slice none 0 0,.string d.name,.string d.key,.string d.worker,.int .i64 id,.int .i64 d.n,.int .i64 d.ticks,(.slice pb d.patch.length pc),.int .u8 0,.string ⟨#[]⟩,.int .i64 0],.agg #[.int .i64 0,.string ⟨#[]⟩],.bool true]) (results_cct rfl _ _ Z Y 39 41 #[.int .u8 KD,.string ⟨#[]⟩,.string ⟨#[]⟩,.slice none 0 0,.slice none 0 0,.slice none 0 0,.string d.name,.string d.key,.string d.worker,.int .i64 id,.int .i64 d.n,.int .i64 d.ticks,(.slice pb d.patch.length pc),.int .u8 0,.string ⟨#[]⟩,.int .i64 0] #[.int .i64 0,.string ⟨#[]⟩] (0,0) (0,0) _ _ _ rfl ((setRow_other _ _ _ _ HZY.out).trans (setRow_heap _ _ _ _ _ _ HR8.out.az)) rfl (setRow_heap _ _ _ _ _ _ HYR.out) rfl Tryz.underlying39 rfl infoAsk Tryz.underlying41 rfl infoResp) rfl ?_;rw [HXV.out];refine ⟨below_setRow (below_setRow HR8.out.bl HZW.out _) HYW.out _,?_⟩;refine ⟨.slice pb d.patch.length pc,rfl,row_low (row_keep HOW.out fun q hq=> ?_) HR7.out.bl.size⟩;have h1:=(HFA.out q hq).1;rw [setRow_other _ _ _ _ (by have:=HLT.out;omega),setRow_other _ _ _ _ (by have:=HLT.out;omega)]
 · have g3:(er !=0)=true:=by simpa using he
   have HXV:Hid (x= .bad pa er):=by show x=_;rw [HRR.out];(try dsimp only);rw [if_pos he]
   have HPR:=hid (HBAD.out he);clear he;go_upto_region 22 with fail;try rw [hw7]
   clear hw7 hV hb7;go_wp2_with fail;refine (num_any pa w7).mono ?_;rintro e w8 ⟨rfl,hb⟩;have HR8:=hid (HR7.out.after hb);clear hb;obtain ⟨w9,hw9⟩:∃w9,w8.alloc (.cells #[.string ⟨#[97,116]⟩,.int .u8 3,.bool false,.int .i64 pa,.string ⟨#[]⟩,.slice none 0 0,.slice none 0 0] 83)=w9:=⟨_,rfl⟩;have HR9:Hid (RB w X Z Y m p k b w9):=by show RB _ _ _ _ _ _ _ _ _;rw [←hw9];exact HR8.out.after ((Below.refl _ w8).alloc (Nat.le_refl _) _)
   have HG9:Hid (w9.heap[w8.heap.size]? =some (.cells (pairsC [(J.nAt,pa)]).toArray 83 (0,0))):=by show _=_;rw [←hw9];exact heap_alloc_new w8 _
   have HW9:=hid hw9;clear hw9;go_wp2_with fail;rw [HW9.out];refine (refuse_more 400 er [(J.nAt,pa)] 1 rfl (by decide) (by decide) HPR.out w8.heap.size w9 HG9.out (HE.out.under HR9.out.bl).p).mono ?_;rintro e w10 ⟨rfl,hb⟩;have HR10:=hid (HR9.out.after hb);clear hb HW9;obtain ⟨tx,htx⟩:∃tx,textOf (J.pairsV [(J.nError,er),(J.nAt,pa)])=tx:=⟨_,rfl⟩;rw [htx];have HTX:=hid htx;clear htx;have HYR:Hid ((w10.setRow Z #[.int .u8 0,.string ⟨#[]⟩,.string ⟨#[]⟩,.slice none 0 0,.slice none 0 0,.slice none 0 0,.string ⟨#[]⟩,.string ⟨#[]⟩,.string ⟨#[]⟩,.int .i64 0,.int .i64 0,.int .i64 0,.slice none 0 0,.int .u8 0,.string ⟨#[]⟩,.int .i64 0]).heap[Y]? =some (.cells #[.int .i64 0,.string ⟨#[]⟩] 41 (0,0))):=(setRow_other _ _ _ _ HZY.out.symm).trans HR10.out.rs;go_wp2_with (first
     | (refine wpList_store_row rfl 39 (.tmp 2) (.tmp 107) rfl Z #[.int .u8 0,.string ⟨#[]⟩,.string ⟨#[]⟩,.slice none 0 0,.slice none 0 0,.slice none 0 0,.string ⟨#[]⟩,.string ⟨#[]⟩,.string ⟨#[]⟩,.int .i64 0,.int .i64 0,.int .i64 0,.slice none 0 0,.int .u8 0,.string ⟨#[]⟩,.int .i64 0] rfl rfl 39 _ HR10.out.az infoAsk rfl (by kernel_rfl) ?_)
     | (refine wpList_store_row rfl 41 (.tmp 3) (.tmp 113) rfl Y #[.int .i64 400,.string tx] rfl rfl 41 _ HYR.out infoResp rfl (by kernel_rfl) ?_)
     | fail)
   refine bodyPost_ret (v:= .tuple #[.agg #[.int .u8 0,.string ⟨#[]⟩,.string ⟨#[]⟩,.slice none 0 0,.slice none 0 0,.slice none 0 0,.string ⟨#[]⟩,.string ⟨#[]⟩,.string ⟨#[]⟩,.int .i64 0,.int .i64 0,.int .i64 0,.slice none 0 0,.int .u8 0,.string ⟨#[]⟩,.int .i64 0],.agg #[.int .i64 400,.string tx],.bool false]) (results_cct rfl _ _ Z Y 39 41 #[.int .u8 0,.string ⟨#[]⟩,.string ⟨#[]⟩,.slice none 0 0,.slice none 0 0,.slice none 0 0,.string ⟨#[]⟩,.string ⟨#[]⟩,.string ⟨#[]⟩,.int .i64 0,.int .i64 0,.int .i64 0,.slice none 0 0,.int .u8 0,.string ⟨#[]⟩,.int .i64 0] #[.int .i64 400,.string tx] (0,0) (0,0) _ _ _ rfl ((setRow_other _ _ _ _ HZY.out).trans (setRow_heap _ _ _ _ _ _ HR10.out.az)) rfl (setRow_heap _ _ _ _ _ _ HYR.out) rfl Tryz.underlying39 rfl infoAsk Tryz.underlying41 rfl infoResp) rfl ?_;rw [HXV.out];refine ⟨below_setRow (below_setRow HR10.out.bl HZW.out _) HYW.out _,?_⟩;rw [←HTX.out]
end Go.Proofs.YtohkomndapngjaaGreatDoor

