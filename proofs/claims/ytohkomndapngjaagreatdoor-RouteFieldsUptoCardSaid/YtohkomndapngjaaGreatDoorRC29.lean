/- fill at a cancel (it has no fields), at what is no object; at any. -/
import Derived.Test.YtohkomndapngjaaGreatDoorRC28
import Derived.Laws.IdiomRangeMap
import Derived.Test.YtohkomndapngjaaGreatDoorRC20
import Derived.Test.YtohkomndapngjaaGreatDoorRC7
import Derived.Lib.ItoaLen
namespace Go.Proofs.YtohkomndapngjaaGreatDoor
set_option maxRecDepth 100000
set_option maxHeartbeats 16000000
open Go.RowKit Go.Maps
open Go.Lib (hid)
theorem look_nil (s:ByteArray) (hs:s.size≤1000000000000) (w:World):(Instr.lookup 151 (.map none) (.string s) true).run Tryz.prog w= .ok (.tuple #[.agg #[.bool false,.int .u8 0,.nilFunc],.bool false]) w:=by
 rcases lawS.find w (keyS hs) [] (by simp) with ⟨h1,h2⟩|⟨j,e0,h1,h2,h3⟩
 · simp [Instr.lookup,run_underlying Tryz.underlying151,lawS.check w true (keyS hs),h1,zeroFn w,Result.andThen]
 · simp at h2
theorem fill_cancel (b0:Bool) (n0:Int) (s0:ByteArray) (t:J.T) (ns:List ByteArray) (lv nv:Value) (w:World) (P:Nat→Prop) (A:Nat) (id:Int) (d:R.D) (hl:t.In w P lv) (hs:J.SIn w P ns nv) (hln:ns.length=t.length) (hlt:t.length≤65536)
  (hP:∀b,P b→b<w.heap.size∧b≠A) (hn:∀a∈ns,a.size≤1000000000000) (h:DAt w A w.heap.size 11 id d (.slice none 0 0)):
  Calls Tryz.prog 20 #[.pointer (some ⟨A,0,none⟩),.agg #[.int .u8 6,.bool b0,.int .i64 n0,.string s0,lv,nv]] w (PutOf A w.heap.size 11 id (.slice none 0 0) w (R.fill 11 d ⟨6,b0,n0,s0,t,ns⟩)):=by
 have hres:(t= .nil→R.fill 11 d ⟨6,b0,n0,s0,t,ns⟩=some d)∧(t≠ .nil→R.fill 11 d ⟨6,b0,n0,s0,t,ns⟩=none):=by
  constructor
  · intro ht;subst ht;rfl
  · intro ht;cases t with
    | nil=>exact absurd rfl ht
    | cons=>rfl
 obtain ⟨RES,hR⟩:∃r,R.fill 11 d ⟨6,b0,n0,s0,t,ns⟩=r:=⟨_,rfl⟩;rw [hR] at hres ⊢;have HR:=hid hres;clear hR hres;obtain ⟨la,lc,rfl⟩:=hl.shape;obtain ⟨na,nc,rfl⟩:=hs.shape;obtain ⟨len,hlen⟩:∃len,t.length=len:=⟨_,rfl⟩;rw [hln,hlen] at hs ⊢;rw [hlen] at hlt hl;obtain ⟨X,hX⟩:∃X,w.heap.size=X:=⟨_,rfl⟩;obtain ⟨w0,hw0⟩:∃w0,w.alloc (.cells #[.int .u8 6,.bool b0,.int .i64 n0,.string s0,.slice la len lc,.slice na len nc] 26)=w0:=⟨_,rfl⟩;have hx0:w0.heap[X]? =some (.cells #[.int .u8 6,.bool b0,.int .i64 n0,.string s0,.slice la len lc,.slice na len nc] 26 (0,0)):=by rw [←hw0,←hX];exact heap_alloc_new w _
 have hb0:Below w.heap.size w w0:=by rw [←hw0];exact (Below.refl _ w).alloc (Nat.le_refl _) _
 have cF:=fields_11 w0;have HD00:=hid (h.below hb0);have HSN0:=hid hs;have HX0:=hid hx0;have HB0:=hid hb0;have HPP:=hid hP;have HLN:=hid (show ns.length=len by rw [hln,hlen]);have HXW:=hid hX;have HLL:=hid hlen;have HW0:=hid hw0;have HNS:=hid hn;have a0:w0.cell? ⟨A,0,none⟩=some (.int .u8 11):=rowCell HD00.out.sx.h 0;clear hl hs hln hP hn h hlen hX hw0 hx0 hb0;go_enter Tryz.func20,Tryz.ntmps20;go_upto_region 1 with fail;rw [HW0.out,HXW.out];clear HW0;obtain ⟨x0,x1,x2,x3,x4,x5⟩:=x6_of HX0.out;go_wp2_with fail;refine cF.mono ?_;rintro e w2 ⟨rfl,hb⟩;clear x0 x1 x2 x3 x4 x5 a0 cF;have hx2:=(hb.block X (Go.lt_of_block HX0.out)).trans HX0.out;have HB2:=hid (HB0.out.trans (hb.mono HB0.out.size));have HS2:=hid (HSN0.out.keep (Q:=P) (fun _ h=>h) (fun b hb=>HB2.out.block b (HPP.out b hb).1));have HD2:=hid (HD00.out.below hb);obtain ⟨x0,x1,x2,x3,x4,x5⟩:=x6_of hx2;clear hb hx2;go_wp2_with fail;go_loopw [23] (fun vi wr=>vi= .int .i64 0∧wr=w2) (fun _ _=>0)
 case atStart=>exact ⟨rfl,rfl⟩
 case round=>
  obtain ⟨rfl,hw⟩:=hrel;rw [hw];clear hw;by_cases h0:len=0
  · have e0:decide ((0:Int)<(len:Int))=false:=decide_eq_false (by omega);have e1:decide (0<len)=false:=decide_eq_false (by omega);have ht:t= .nil:=by
      cases t with
      | nil=>rfl
      | cons=>have:=HLL.out;simp only [J.T.length] at this;omega
    have HRS:=hid (HR.out.1 ht);have hrg:=run_range_nilMap (P:=Tryz.prog) w2 151 9 154 Tryz.underlying151;have hnx:∀ty,(Instr.next (.pointer (some ⟨w2.heap.size,0,none⟩)) false ty).run Tryz.prog (w2.alloc (.mapIter none 0 #[] 0))=_:=fun ty=>run_next_nilMap w2 ty 0 0 #[]
    clear ht h0 x0 x1 x2 x3 x4 x5;go_wp2_with fail;refine wp_loop_rounds 1 ?_;rw [rounds_succ];go_wp2_with fail;go_ret;exact ⟨(G2.refl _ _ _).below (HB2.out.alloc HB2.out.size _),Or.inr ⟨d,_,HRS.out,rfl,HD2.out.below ((Below.refl _ w2).alloc (Nat.le_refl _) _),fun k hk=>by cases hk⟩⟩
  · have e0:decide ((0:Int)<(len:Int))=true:=decide_eq_true (by omega);have e1:decide (0<len)=true:=decide_eq_true (by omega);have HNO:=hid (HR.out.2 (fun ht=>by have:=HLL.out;rw [ht] at this;simp only [J.T.length] at this;omega));obtain ⟨nm,hnm⟩:∃nm,ns[0]? =some nm:=⟨_,List.getElem?_eq_getElem (by have:=HLN.out;omega)⟩;obtain ⟨nb,no,hna,hnc,hnj⟩:∃nb no,na=some ⟨nb,no,none⟩∧len≤nc∧w2.cell? ⟨nb,no,none⟩=some (.string nm):=by
      rcases HS2.out with ⟨h1, -⟩|⟨-,nb,no,c,h1, -,h2,h3⟩
      · exact absurd hnm (by rw [h1];simp)
      · cases h1;exact ⟨nb,no,rfl,by rw [←HLN.out];exact h2,h3 0 nm hnm⟩
    subst hna;have hrun:=look_nil nm (HNS.out nm (List.mem_of_getElem? hnm)) w2;have h1l:0<len:=by omega
    clear hnm h0;go_upto_region 8 with fail;obtain ⟨w5,hw5⟩:∃w5,w2.alloc (.cells #[.bool false,.int .u8 0,.nilFunc] 154)=w5:=⟨_,rfl⟩;have HB5:Hid (Below w.heap.size w w5.drew):=by show Below _ _ _;rw [←hw5];exact (HB2.out.alloc HB2.out.size _).drew
    rw [hw5];clear hw5 hrun hnj x0 x1 x2 x3 x4 x5;refine wp_region_till (S:=(fun W:World=>Below w.heap.size w W)) 22 (by kernel_rfl) ?_;have HS:=hid (show ((fun W:World=>Below w.heap.size w W)) _ from HB5.out);refine wpTill_any 0 (oi:= ?oi1) (v:= ?v1) ?ho1 (by kernel_rfl) (by kernel_rfl) (by kernel_rfl) (by kernel_rfl) ?hq1 (Or.inl ⟨?hw1,?hy1⟩) (fun _=>HS.out) ?rest1
    case ho1=>simp only [List.getElem?_toArray,List.getElem?_cons_zero];rfl
    case hw1=>rfl
    case hy1=>intro w;go_simp;try with_reducible rfl
    case hq1=>exact fun _ _ _ h=>h
    try simp only [Act.put,List.setIfInBounds_toArray,List.set_cons_zero,List.set_cons_succ]
    refine wpTill_any 1 (oi:= ?oi2) (v:= ?v2) ?ho2 (by kernel_rfl) (by kernel_rfl) (by kernel_rfl) (by kernel_rfl) ?hq2 (Or.inl ⟨?hw2,?hy2⟩) (fun _=>HS.out) ?rest2
    case ho2=>simp only [List.getElem?_toArray,List.getElem?_cons_succ,List.getElem?_cons_zero];rfl
    case hw2=>rfl
    case hy2=>intro w;go_simp;try with_reducible rfl
    case hq2=>exact fun _ _ _ h=>h
    try simp only [Act.put,List.setIfInBounds_toArray,List.set_cons_zero,List.set_cons_succ]
    refine wpTill_any 2 (oi:= ?oi3) (v:= ?v3) ?ho3 (by kernel_rfl) (by kernel_rfl) (by kernel_rfl) (by kernel_rfl) ?hq3 (Or.inl ⟨?hw3,?hy3⟩) (fun _=>HS.out) ?rest3
    case ho3=>simp only [List.getElem?_toArray,List.getElem?_cons_succ,List.getElem?_cons_zero];rfl
    case hw3=>rfl
    case hy3=>intro w;go_simp;try with_reducible rfl
    case hq3=>exact fun _ _ _ h=>h
    try simp only [Act.put,List.setIfInBounds_toArray,List.set_cons_zero,List.set_cons_succ]
    refine wpTill_any 3 (oi:= ?oi4) (v:=undef) ?ho4 (by kernel_rfl) (by kernel_rfl) (by kernel_rfl) (by kernel_rfl) ?hq4 (Or.inr ⟨?hw4,rfl⟩) (fun _=>HS.out) ?rest4
    case ho4=>simp only [List.getElem?_toArray,List.getElem?_cons_succ,List.getElem?_cons_zero];rfl
    case hw4=>rfl
    case hq4=>exact fun _ _ _ h=>h
    try simp only [Act.put,List.setIfInBounds_toArray,List.set_cons_zero,List.set_cons_succ]
    refine wpTill_any 4 (oi:= ?oi5) (v:=undef) ?ho5 (by kernel_rfl) (by kernel_rfl) (by kernel_rfl) (by kernel_rfl) ?hq5 (Or.inr ⟨?hw5,rfl⟩) (fun _=>HS.out) ?rest5
    case ho5=>simp only [List.getElem?_toArray,List.getElem?_cons_succ,List.getElem?_cons_zero];rfl
    case hw5=>rfl
    case hq5=>exact fun _ _ _ h=>h
    try simp only [Act.put,List.setIfInBounds_toArray,List.set_cons_zero,List.set_cons_succ]
    refine wpTill_any 5 (oi:= ?oi6) (v:=undef) ?ho6 (by kernel_rfl) (by kernel_rfl) (by kernel_rfl) (by kernel_rfl) ?hq6 (Or.inr ⟨?hw6,rfl⟩) (fun _=>HS.out) ?rest6
    case ho6=>simp only [List.getElem?_toArray,List.getElem?_cons_succ,List.getElem?_cons_zero];rfl
    case hw6=>rfl
    case hq6=>exact fun _ _ _ h=>h
    try simp only [Act.put,List.setIfInBounds_toArray,List.set_cons_zero,List.set_cons_succ]
    refine wpTill_any 6 (oi:= ?oi7) (v:=undef) ?ho7 (by kernel_rfl) (by kernel_rfl) (by kernel_rfl) (by kernel_rfl) ?hq7 (Or.inr ⟨?hw7,rfl⟩) (fun _=>HS.out) ?rest7
    case ho7=>simp only [List.getElem?_toArray,List.getElem?_cons_succ,List.getElem?_cons_zero];rfl
    case hw7=>rfl
    case hq7=>exact fun _ _ _ h=>h
    try simp only [Act.put,List.setIfInBounds_toArray,List.set_cons_zero,List.set_cons_succ]
    refine wpTill_any 7 (oi:= ?oi8) (v:=undef) ?ho8 (by kernel_rfl) (by kernel_rfl) (by kernel_rfl) (by kernel_rfl) ?hq8 (Or.inr ⟨?hw8,rfl⟩) (fun _=>HS.out) ?rest8
    case ho8=>simp only [List.getElem?_toArray,List.getElem?_cons_succ,List.getElem?_cons_zero];rfl
    case hw8=>rfl
    case hq8=>exact fun _ _ _ h=>h
    try simp only [Act.put,List.setIfInBounds_toArray,List.set_cons_zero,List.set_cons_succ]
    refine wpTill_any 8 (oi:= ?oi9) (v:=undef) ?ho9 (by kernel_rfl) (by kernel_rfl) (by kernel_rfl) (by kernel_rfl) ?hq9 (Or.inr ⟨?hw9,rfl⟩) (fun _=>HS.out) ?rest9
    case ho9=>simp only [List.getElem?_toArray,List.getElem?_cons_succ,List.getElem?_cons_zero];rfl
    case hw9=>rfl
    case hq9=>exact fun _ _ _ h=>h
    try simp only [Act.put,List.setIfInBounds_toArray,List.set_cons_zero,List.set_cons_succ]
    refine wpTill_any 9 (oi:= ?oi10) (v:=undef) ?ho10 (by kernel_rfl) (by kernel_rfl) (by kernel_rfl) (by kernel_rfl) ?hq10 (Or.inr ⟨?hw10,rfl⟩) (fun _=>HS.out) ?rest10
    case ho10=>simp only [List.getElem?_toArray,List.getElem?_cons_succ,List.getElem?_cons_zero];rfl
    case hw10=>rfl
    case hq10=>exact fun _ _ _ h=>h
    try simp only [Act.put,List.setIfInBounds_toArray,List.set_cons_zero,List.set_cons_succ]
    refine wpTill_any 10 (oi:= ?oi11) (v:=undef) ?ho11 (by kernel_rfl) (by kernel_rfl) (by kernel_rfl) (by kernel_rfl) ?hq11 (Or.inr ⟨?hw11,rfl⟩) (fun _=>HS.out) ?rest11
    case ho11=>simp only [List.getElem?_toArray,List.getElem?_cons_succ,List.getElem?_cons_zero];rfl
    case hw11=>rfl
    case hq11=>exact fun _ _ _ h=>h
    try simp only [Act.put,List.setIfInBounds_toArray,List.set_cons_zero,List.set_cons_succ]
    refine wpTill_any 11 (oi:= ?oi12) (v:=undef) ?ho12 (by kernel_rfl) (by kernel_rfl) (by kernel_rfl) (by kernel_rfl) ?hq12 (Or.inr ⟨?hw12,rfl⟩) (fun _=>HS.out) ?rest12
    case ho12=>simp only [List.getElem?_toArray,List.getElem?_cons_succ,List.getElem?_cons_zero];rfl
    case hw12=>rfl
    case hq12=>exact fun _ _ _ h=>h
    try simp only [Act.put,List.setIfInBounds_toArray,List.set_cons_zero,List.set_cons_succ]
    refine wpTill_any 12 (oi:= ?oi13) (v:= ?v13) ?ho13 (by kernel_rfl) (by kernel_rfl) (by kernel_rfl) (by kernel_rfl) ?hq13 (Or.inl ⟨?hw13,?hy13⟩) (fun _=>HS.out) ?rest13
    case ho13=>simp only [List.getElem?_toArray,List.getElem?_cons_succ,List.getElem?_cons_zero];rfl
    case hw13=>rfl
    case hy13=>intro w;go_simp;try with_reducible rfl
    case hq13=>exact fun _ _ _ h=>h
    try simp only [Act.put,List.setIfInBounds_toArray,List.set_cons_zero,List.set_cons_succ]
    refine wpTill_any 13 (oi:= ?oi14) (v:= ?v14) ?ho14 (by kernel_rfl) (by kernel_rfl) (by kernel_rfl) (by kernel_rfl) ?hq14 (Or.inl ⟨?hw14,?hy14⟩) (fun _=>HS.out) ?rest14
    case ho14=>simp only [List.getElem?_toArray,List.getElem?_cons_succ,List.getElem?_cons_zero];rfl
    case hw14=>rfl
    case hy14=>intro w;go_simp;try with_reducible rfl
    case hq14=>exact fun _ _ _ h=>h
    try simp only [Act.put,List.setIfInBounds_toArray,List.set_cons_zero,List.set_cons_succ]
    refine wpTill_any 14 (oi:= ?oi15) (v:=undef) ?ho15 (by kernel_rfl) (by kernel_rfl) (by kernel_rfl) (by kernel_rfl) ?hq15 (Or.inr ⟨?hw15,rfl⟩) (fun _=>HS.out) ?rest15
    case ho15=>simp only [List.getElem?_toArray,List.getElem?_cons_succ,List.getElem?_cons_zero];rfl
    case hw15=>rfl
    case hq15=>exact fun _ _ _ h=>h
    try simp only [Act.put,List.setIfInBounds_toArray,List.set_cons_zero,List.set_cons_succ]
    refine wpTill_any 15 (oi:= ?oi16) (v:=undef) ?ho16 (by kernel_rfl) (by kernel_rfl) (by kernel_rfl) (by kernel_rfl) ?hq16 (Or.inr ⟨?hw16,rfl⟩) (fun _=>HS.out) ?rest16
    case ho16=>simp only [List.getElem?_toArray,List.getElem?_cons_succ,List.getElem?_cons_zero];rfl
    case hw16=>rfl
    case hq16=>exact fun _ _ _ h=>h
    try simp only [Act.put,List.setIfInBounds_toArray,List.set_cons_zero,List.set_cons_succ]
    refine wpTill_any 16 (oi:= ?oi17) (v:=undef) ?ho17 (by kernel_rfl) (by kernel_rfl) (by kernel_rfl) (by kernel_rfl) ?hq17 (Or.inr ⟨?hw17,rfl⟩) (fun _=>HS.out) ?rest17
    case ho17=>simp only [List.getElem?_toArray,List.getElem?_cons_succ,List.getElem?_cons_zero];rfl
    case hw17=>rfl
    case hq17=>exact fun _ _ _ h=>h
    try simp only [Act.put,List.setIfInBounds_toArray,List.set_cons_zero,List.set_cons_succ]
    refine wpTill_any 17 (oi:= ?oi18) (v:=undef) ?ho18 (by kernel_rfl) (by kernel_rfl) (by kernel_rfl) (by kernel_rfl) ?hq18 (Or.inr ⟨?hw18,rfl⟩) (fun _=>HS.out) ?rest18
    case ho18=>simp only [List.getElem?_toArray,List.getElem?_cons_succ,List.getElem?_cons_zero];rfl
    case hw18=>rfl
    case hq18=>exact fun _ _ _ h=>h
    try simp only [Act.put,List.setIfInBounds_toArray,List.set_cons_zero,List.set_cons_succ]
    refine wpTill_any 18 (oi:= ?oi19) (v:=undef) ?ho19 (by kernel_rfl) (by kernel_rfl) (by kernel_rfl) (by kernel_rfl) ?hq19 (Or.inr ⟨?hw19,rfl⟩) (fun _=>HS.out) ?rest19
    case ho19=>simp only [List.getElem?_toArray,List.getElem?_cons_succ,List.getElem?_cons_zero];rfl
    case hw19=>rfl
    case hq19=>exact fun _ _ _ h=>h
    try simp only [Act.put,List.setIfInBounds_toArray,List.set_cons_zero,List.set_cons_succ]
    refine wpTill_any 19 (oi:= ?oi20) (v:=undef) ?ho20 (by kernel_rfl) (by kernel_rfl) (by kernel_rfl) (by kernel_rfl) ?hq20 (Or.inr ⟨?hw20,rfl⟩) (fun _=>HS.out) ?rest20
    case ho20=>simp only [List.getElem?_toArray,List.getElem?_cons_succ,List.getElem?_cons_zero];rfl
    case hw20=>rfl
    case hq20=>exact fun _ _ _ h=>h
    try simp only [Act.put,List.setIfInBounds_toArray,List.set_cons_zero,List.set_cons_succ]
    refine wpTill_any 20 (oi:= ?oi21) (v:=undef) ?ho21 (by kernel_rfl) (by kernel_rfl) (by kernel_rfl) (by kernel_rfl) ?hq21 (Or.inr ⟨?hw21,rfl⟩) (fun _=>HS.out) ?rest21
    case ho21=>simp only [List.getElem?_toArray,List.getElem?_cons_succ,List.getElem?_cons_zero];rfl
    case hw21=>rfl
    case hq21=>exact fun _ _ _ h=>h
    try simp only [Act.put,List.setIfInBounds_toArray,List.set_cons_zero,List.set_cons_succ]
    refine wpTill_any 21 (oi:= ?oi22) (v:=undef) ?ho22 (by kernel_rfl) (by kernel_rfl) (by kernel_rfl) (by kernel_rfl) ?hq22 (Or.inr ⟨?hw22,rfl⟩) (fun _=>HS.out) ?rest22
    case ho22=>simp only [List.getElem?_toArray,List.getElem?_cons_succ,List.getElem?_cons_zero];rfl
    case hw22=>rfl
    case hq22=>exact fun _ _ _ h=>h
    try simp only [Act.put,List.setIfInBounds_toArray,List.set_cons_zero,List.set_cons_succ]
    refine wpTill_ready (rs:= [22]) (by kernel_rfl) (by decide) ?_;refine AllTill.consH (o:= ?oi23) ?ho23 (fun K hK=> ?step23) ?more23
    case ho23=>simp only [List.getElem?_toArray,List.getElem?_cons_succ,List.getElem?_cons_zero];rfl
    case step23=>
      rw [if_neg (fun h=>by cases (show false=true from h))];refine hK.out _ _ (fun hk=>by cases (show true=false from hk)) (fun _=> ?_);clear hK K;try simp only [Act.put,List.setIfInBounds_toArray,List.set_cons_zero,List.set_cons_succ]
      refine wpTill_any 23 (oi:= ?oi24) (v:=undef) ?ho24 (by kernel_rfl) (by kernel_rfl) (by kernel_rfl) (by kernel_rfl) ?hq24 (Or.inr ⟨?hw24,rfl⟩) (fun hk=>by cases (show true=false from hk)) ?rest24
      case ho24=>simp only [List.getElem?_toArray,List.getElem?_cons_succ,List.getElem?_cons_zero];rfl
      case hw24=>rfl
      case hq24=>exact fun _ _ _ h=>h
      try simp only [Act.put,List.setIfInBounds_toArray,List.set_cons_zero,List.set_cons_succ]
      refine wpTill_any 24 (oi:= ?oi25) (v:= ?v25) ?ho25 (by kernel_rfl) (by kernel_rfl) (by kernel_rfl) (by kernel_rfl) ?hq25 (Or.inl ⟨?hw25,?hy25⟩) (fun hk=>by cases (show true=false from hk)) ?rest25
      case ho25=>simp only [List.getElem?_toArray,List.getElem?_cons_succ,List.getElem?_cons_zero];rfl
      case hw25=>rfl
      case hy25=>intro w;go_simp;try with_reducible rfl
      case hq25=>exact fun _ _ _ h=>h
      try simp only [Act.put,List.setIfInBounds_toArray,List.set_cons_zero,List.set_cons_succ]
      refine wpTill_done (by kernel_rfl) ?_ _;go_wp2_with fail;go_ret;exact ⟨(G2.refl _ _ _).below HB5.out,Or.inl ⟨HNO.out,rfl⟩⟩
    case more23=>
      exact AllTill.nil
theorem fill_no_obj (k0:Nat) (hk:k0≠6) (b0:Bool) (n0:Int) (s0:ByteArray) (t:J.T) (ns:List ByteArray) (lv nv:Value) (w:World) (P:Nat→Prop) (A K:Nat) (id:Int) (d:R.D) (hl:t.In w P lv) (hs:J.SIn w P ns nv):
  Calls Tryz.prog 20 #[.pointer (some ⟨A,0,none⟩),.agg #[.int .u8 k0,.bool b0,.int .i64 n0,.string s0,lv,nv]] w (PutOf A w.heap.size K id (.slice none 0 0) w (R.fill K d ⟨k0,b0,n0,s0,t,ns⟩)):=by
 have hres:R.fill K d ⟨k0,b0,n0,s0,t,ns⟩=none:=by unfold R.fill;rw [if_neg hk]
 rw [hres];obtain ⟨la,lc,rfl⟩:=hl.shape;obtain ⟨na,nc,rfl⟩:=hs.shape;obtain ⟨X,hX⟩:∃X,w.heap.size=X:=⟨_,rfl⟩;obtain ⟨w0,hw0⟩:∃w0,w.alloc (.cells #[.int .u8 k0,.bool b0,.int .i64 n0,.string s0,.slice la t.length lc,.slice na ns.length nc] 26)=w0:=⟨_,rfl⟩;have hx0:w0.heap[X]? =some (.cells #[.int .u8 k0,.bool b0,.int .i64 n0,.string s0,.slice la t.length lc,.slice na ns.length nc] 26 (0,0)):=by rw [←hw0,←hX];exact heap_alloc_new w _
 have HB0:Hid (Below w.heap.size w w0):=by show Below _ _ _;rw [←hw0];exact (Below.refl _ w).alloc (Nat.le_refl _) _
 obtain ⟨k,hkk⟩:∃k:Int,(k0:Int)=k:=⟨_,rfl⟩;have q0:(k !=6)=true:=by rw [←hkk];simp;omega
 have q1:(k==6)=false:=by rw [←hkk];simp;omega
 rw [hkk] at hx0 hw0 ⊢;have HX0:=hid hx0;have HXW:=hid hX;have HW0:=hid hw0;clear hl hs hX hw0 hx0 hres hkk hk;go_enter Tryz.func20,Tryz.ntmps20;go_upto_region 1 with fail;rw [HW0.out,HXW.out];clear HW0;obtain ⟨x0,x1,x2,x3,x4,x5⟩:=x6_of HX0.out;go_wp2_with fail;go_ret;exact ⟨(G2.refl _ _ _).below HB0.out,Or.inl ⟨rfl,rfl⟩⟩
theorem fill_any (x:J.V) (lv nv:Value) (w:World) (P:Nat→Prop) (A K:Nat) (id:Int) (d:R.D) (hK:2≤K∧K≤9∨K=11) (hl:x.l.In w P lv) (hs:J.SIn w P x.ns nv) (hev:R.even x)
   (hd:d.patch= []) (hP:∀b,P b→b<w.heap.size∧b≠A) (hn:∀a∈x.ns,a.size≤1000000000000) (h:DAt w A w.heap.size K id d (.slice none 0 0)):
   Calls Tryz.prog 20 #[.pointer (some ⟨A,0,none⟩),.agg #[.int .u8 x.k,.bool x.b,.int .i64 x.n,.string x.s,lv,nv]] w (PutOf A w.heap.size K id (.slice none 0 0) w (R.fill K d x)):=by
 obtain ⟨k,b,n,s,t,ns⟩:=x;by_cases hk:k=6
 · subst hk;obtain ⟨h1,h2,h3⟩:=hev rfl;rcases hK with hK|rfl
   · exact fill_obj b n s t ns lv nv w P A K id d hK hl hs h1 h2 h3 hd hP hn h
   · exact fill_cancel b n s t ns lv nv w P A id d hl hs h1 h2 hP hn h
 · exact fill_no_obj k hk b n s t ns lv nv w P A K id d hl hs
open Go.RowKit
def pairsC:List (ByteArray×Int)→List Value
 | []=> []
 | p::r=>pairC p.1 p.2++pairsC r
theorem pairsC_length:∀ps,(pairsC ps).length=ps.length*7
 | []=>rfl
 | p::r=>by
   show (pairC p.1 p.2++pairsC r).length=_
   rw [List.length_append,pairsC_length r,List.length_cons]
   show 7+r.length*7=_
   omega
namespace J
def pairsT:List (ByteArray×Int)→T
 | []=> .nil
 | p::r=> .cons 3 false p.2 ⟨#[]⟩ .nil [] (pairsT r)
theorem pairsT_length:∀ps,(pairsT ps).length=ps.length
 | []=>rfl
 | p::r=>by simp only [pairsT,T.length,pairsT_length r,List.length_cons]
def pairsV (ps:List (ByteArray×Int)):V:=⟨6,false,0,⟨#[]⟩,pairsT ps,ps.map Prod.fst⟩
end J
theorem pairs_at {W:World}{P:Nat→Prop}{g:Nat}(hg:P g):∀(ps:List (ByteArray×Int)) (o:Nat),(∀j u,(pairsC ps)[j]? =some u→W.cell? ⟨g,o+j,none⟩=some u)→J.PAt W P (J.pairsT ps) (ps.map Prod.fst) g o
 | [],_,_=>trivial
 | p::r,o,h=>by
   have hc:∀j u,(pairC p.1 p.2)[j]? =some u→W.cell? ⟨g,o+j,none⟩=some u:=fun j u hj=>h j u (by
    show (pairC p.1 p.2++pairsC r)[j]? =_
    rw [List.getElem?_append_left (by rcases Nat.lt_or_ge j (pairC p.1 p.2).length with h|h;exact h;rw [List.getElem?_eq_none h] at hj;cases hj)];exact hj)
   refine ⟨hg,hc 0 _ rfl,hc 1 _ rfl,hc 2 _ rfl,hc 3 _ rfl,hc 4 _ rfl,⟨_,hc 5 _ rfl,nil_in.1⟩,⟨_,hc 6 _ rfl,nil_in.2⟩,pairs_at hg r (o+7) fun j u hj=> ?_⟩
   have:=h (7+j) u (by
    show (pairC p.1 p.2++pairsC r)[7+j]? =_
    rw [List.getElem?_append_right (by show 7≤7+j;omega)]
    show (pairsC r)[7+j-7]? =_
    rw [Nat.add_sub_cancel_left];exact hj)
   rw [show o+7+j=o+(7+j) by omega];exact this
theorem pairs_in {W:World}{B n:Nat}{v:Value}{ps:List (ByteArray×Int)}(h:W.ownsRow B 83 7 v n (pairsC ps)) (hn:n=ps.length) (h0:n≠0):∃a c,v= .slice a n c∧J.PIn W (fun b=>b<W.heap.size) (J.pairsT ps) (ps.map Prod.fst) v:=by
 obtain ⟨-,⟨-,h⟩|⟨g,cap,cur,rfl, -,hg,hc, -, -,ht⟩⟩:=h
 · exact absurd h h0
 refine ⟨_,_,rfl,?_⟩;subst hn;refine ⟨_,_,by rw [J.pairsT_length],by rw [List.length_map,J.pairsT_length],fun _=>⟨g,0,rfl,by rw [J.pairsT_length];exact hc,pairs_at (P:=fun b=>b<W.heap.size) (Go.lt_of_block hg) ps 0 fun j u hj=> ?_⟩⟩;rw [Nat.zero_add,Lib.cell_of_heap hg];rw [←ht] at hj;rw [List.getElem?_take] at hj;split at hj
 · rw [←Array.getElem?_toList];exact hj
 · cases hj
theorem infoPair2:(Tryz.prog.info? 83).map (fun i=>(i.zero,i.size,i.bytes))=some (some (.agg #[.string ⟨#[]⟩,.int .u8 0,.bool false,.int .i64 0,.string ⟨#[]⟩,.slice none 0 0,.slice none 0 0]),7,96):=by kernel_rfl
theorem pairsC_one:∀(ps:List (ByteArray×Int)),∀u∈pairsC ps,u.oneCell'=true
 | [],_,h=>by cases h
 | p::r,u,h=>by
   rcases List.mem_append.1 (show u∈pairC p.1 p.2++pairsC r from h) with h|h
   · simp only [pairC,List.mem_cons,List.not_mem_nil,or_false] at h
     rcases h with rfl|rfl|rfl|rfl|rfl|rfl|rfl<;>rfl
   · exact pairsC_one r u h
theorem refuse_more (st er:Int) (ps:List (ByteArray×Int)) (m:Nat) (hm:ps.length=m) (h1:1≤m) (h9:m≤9) (hx:Prints (J.pairsV ((J.nError,er)::ps))) (G:Nat) (w:World) (hg:w.heap[G]? =some (.cells (pairsC ps).toArray 83 (0,0))) (hE:EnvP w):
  Calls Tryz.prog 16 #[.int .i64 st,.int .i64 er,.slice (some ⟨G,0,none⟩) m m] w fun e W=>e= .returned (.agg #[.int .i64 st,.string (textOf (J.pairsV ((J.nError,er)::ps)))])∧Below w.heap.size w W:=by
 obtain ⟨w0,hw0⟩:∃w0,w.alloc (.cells #[.int .i64 0,.string ⟨#[]⟩] 41)=w0:=⟨_,rfl⟩;obtain ⟨X,hX⟩:∃X,w.heap.size=X:=⟨_,rfl⟩;have HV0:Hid (w0.heap[X]? =some (.cells #[.int .i64 0,.string ⟨#[]⟩] 41 (0,0))):=by show _=_;rw [←hw0,←hX];exact heap_alloc_new w _
 have hb0:Below w.heap.size w w0:=by rw [←hw0];exact (Below.refl _ w).alloc (Nat.le_refl _) _
 have HG0:=hid ((hb0.block G (Go.lt_of_block hg)).trans hg);have HB0:=hid hb0;have HW0:=hid hw0;have HX:=hid hX;have HE:=hid hE;have HPR:=hid hx;have HM:=hid hm;have cN:=num_any er w0;clear hw0 hX hb0 hE hx hg hm;go_enter Tryz.func16,Tryz.ntmps16;go_upto_region 1 with fail;rw [HW0.out,HX.out];go_wp2_with fail;refine cN.mono ?_;rintro e w1 ⟨rfl,hb⟩;have HV1:=hid ((hb.block X (Go.lt_of_block HV0.out)).trans HV0.out);have HG1:=hid ((hb.block G (Go.lt_of_block HG0.out)).trans HG0.out);have HB1:=hid (HB0.out.trans (hb.mono HB0.out.size));obtain ⟨w2,hw2⟩:∃w2,w1.alloc (.cells #[.string ⟨#[101,114,114,111,114]⟩,.int .u8 3,.bool false,.int .i64 er,.string ⟨#[]⟩,.slice none 0 0,.slice none 0 0] 83)=w2:=⟨_,rfl⟩;obtain ⟨Z,hZ⟩:∃Z,w1.heap.size=Z:=⟨_,rfl⟩;have hb2:Below w1.heap.size w1 w2:=by rw [←hw2];exact (Below.refl _ w1).alloc (Nat.le_refl _) _
 have hr2:w2.heap[Z]? =some (.cells (pairC J.nError er).toArray 83 (0,0)):=by rw [←hw2,←hZ];exact heap_alloc_new w1 _
 have hG2:=(hb2.block G (Go.lt_of_block HG1.out)).trans HG1.out;have HV2:=hid ((hb2.block X (Go.lt_of_block HV1.out)).trans HV1.out);have HB2:=hid (HB1.out.trans (hb2.mono HB1.out.size));have hXZ:X<Z:=by have:=Go.lt_of_block HV1.out;omega
 have hown:w2.ownsRow Z 83 7 (.slice (some ⟨Z,0,none⟩) 1 1) 1 (pairC J.nError er):=⟨rfl,Or.inr ⟨Z,1,_,rfl,Nat.le_refl _,hr2,Nat.le_refl _,by unfold maxLen;omega,rfl,rfl⟩⟩;obtain ⟨i0,hi,hz0,hz1,hz2⟩:=info_parts infoPair2;have hnews:∀j u,(pairsC ps)[j]? =some u→w2.cell? ((⟨G,0,none⟩:Addr).add j)=some u:=fun j u hj=>by
  rw [Addr.add_lit,Nat.zero_add,Lib.cell_of_heap hG2];simpa using hj
 have hlen:(pairsC ps).length=m*7:=by rw [pairsC_length,HM.out]
 have hsz2:=Go.lt_of_block hr2;have hz2':Z≤w2.heap.size:=by omega
 have h63:1+m≤maxLen:=by unfold maxLen;omega
 have hby:(1+m)*96≤140737488355328:=by omega
 clear hb cN HW0 hb2 hr2 hG2;go_wp2_with (at_builtin;refine wpList_append_own _ rfl _ _ 136 rfl Z 83 i0 _ 7 96 Tryz.underlying136 hi hz0 hz1 hz2 rfl (by decide) (.slice (some ⟨Z,0,none⟩) 1 1) 1 (pairC J.nError er) rfl hown ⟨G,0,none⟩ m m (pairsC ps) rfl hlen hnews (pairsC_one ps) h63 hby hz2' ?_;rintro v' w3 hrow hgr -;(have hb3:Below Z w2 w3:=(Below.refl _ w2).grown hgr hz2' (fun q hq=>by have:=Option.some.inj hq;simp at this;omega));(obtain ⟨pa,pc,rfl,hP⟩:=pairs_in (ps:=(J.nError,er)::ps) hrow (by rw [List.length_cons,HM.out];omega) (by omega));(have HB3:=hid (HB2.out.trans (hb3.mono (by have:=HX.out;omega))));(have HV3:=hid ((hb3.block X hXZ).trans HV2.out));(have cA:=answer_any st (t:=J.pairsT ((J.nError,er)::ps)) (names:=((J.nError,er)::ps).map Prod.fst) HPR.out hP (fun _ h=>h) (HE.out.under HB3.out));clear hrow hgr hb3 hP);refine cA.mono ?_;rintro e w4 ⟨rfl,hb⟩;have hv:=(hb.block X (Go.lt_of_block HV3.out)).trans HV3.out;have HV4:=hid hv;have HB4:=hid (HB3.out.trans (hb.mono HB3.out.size));have x0:w4.cell? ⟨X,0,none⟩=some (.int .i64 0):=rowCell hv 0;have x1:w4.cell? ⟨X,1,none⟩=some (.string ⟨#[]⟩):=rowCell hv 1;have y0:=rowFree hv 0;have y1:=rowFree hv 1;clear hb cA hv hw2 hZ;go_wp2_with fail;exact bodyPost_ret (v:= .agg #[.int .i64 st,.string (textOf (J.pairsV ((J.nError,er)::ps)))]) (results_cell_row rfl _ _ X 41 _ (0,0) _ rfl (set_pair HV4.out) Tryz.underlying41 rfl infoResp) rfl ⟨rfl,(HB4.out.setCell (p:=⟨X,0,none⟩) (Nat.le_of_eq HX.out) _).setCell (p:=⟨X,1,none⟩) (Nat.le_of_eq HX.out) _⟩
open Go.Lib (hid itoa validD)
namespace J
def nLine:ByteArray:=⟨#[108,105,110,101]⟩
def nColumn:ByteArray:=⟨#[99,111,108,117,109,110]⟩
def nAt:ByteArray:=⟨#[97,116]⟩
theorem pairs_deep:∀ps,deepT (pairsT ps)=0
 | []=>rfl
 | p::r=>by
   show max (if (3:Nat)=5∨(3:Nat)=6 then deepT .nil+1 else 0) (deepT (pairsT r))=0
   rw [pairs_deep r];rfl
theorem pairs_mayT:∀ps,mayT (pairsT ps)=true
 | []=>rfl
 | p::r=>by
   show ((flat 3 false p.2 ⟨#[]⟩ 0 []&&mayT .nil)&&mayT (pairsT r))=true;rw [pairs_mayT r];have:flat 3 false p.2 ⟨#[]⟩ 0 []=true:=by
    unfold flat plainOk listOk;have h1:validD (⟨#[]⟩:ByteArray).data.toList=true:=rfl;rw [h1];simp;rfl
   rw [this];rfl
theorem pairs_small:∀ps,(pairsT ps).small
 | []=>trivial
 | p::r=>⟨⟨by decide,by decide,trivial⟩,pairs_small r⟩
theorem pairs_brief:∀ps,(pairsT ps).brief
 | []=>trivial
 | p::r=>⟨⟨by decide,(fun x h=>by cases h),trivial⟩,pairs_brief r⟩
theorem pairs_num:∀ps:List (ByteArray×Int),(∀p∈ps, -9223372036854775808≤p.2∧p.2≤9223372036854775807)→(pairsT ps).num
 | [],_=>trivial
 | p::r,h=>⟨h p (by simp),trivial,pairs_num r fun q hq=>h q (by simp [hq])⟩
theorem pairs_show (n:Nat):∀(ps:List (ByteArray×Int)) (first:Bool),(∀p∈ps, -9223372036854775808≤p.2∧p.2≤9223372036854775807)→(∀p∈ps,(quoteL p.1.data.toList).length≤n)→(showT true first (pairsT ps) (ps.map Prod.fst)).length≤ps.length*(n+23)
 | [],_,_,_=>by simp [pairsT,showT]
 | p::r,first,h,h2=>by
   have ih:=pairs_show n r false (fun q hq=>h q (by simp [hq])) (fun q hq=>h2 q (by simp [hq]));have h3:=Lib.itoa_length_le p.2 (h p (by simp)).1 (h p (by simp)).2;have h4:=h2 p (by simp);have e:showT true first (pairsT (p::r)) ((p::r).map Prod.fst)=(if first then [] else [44])++((quoteL p.1.data.toList++ [58])++(itoa p.2++showT true false (pairsT r) (r.map Prod.fst))):=rfl
   rw [e];simp only [List.length_append,List.length_cons,List.length_nil];have:(if first=true then ([]:List UInt8) else [44]).length≤1:=by split<;>simp
   rw [Nat.succ_mul];omega
end J
theorem prints_pairs (ps:List (ByteArray×Int)) (hl:ps.length≤9) (hb:∀p∈ps, -9223372036854775808≤p.2∧p.2≤9223372036854775807) (hn:J.namesOk [] (ps.map Prod.fst)=true) (hq:∀p∈ps,p.1.size≤1000∧(J.quoteL p.1.data.toList).length≤1000):Prints (J.pairsV ps):=by
 have hs:(J.pairsV ps).show=123::(J.showT true true (J.pairsT ps) (ps.map Prod.fst)++ [125]):=rfl;have hlen:(J.pairsV ps).show.length≤10000:=by
   rw [hs];have:=J.pairs_show 1000 ps true hb (fun p hp=>(hq p hp).2);simp only [List.length_cons,List.length_append,List.length_nil];omega
 have hm:(J.pairsV ps).may=true:=by
   show (J.flat 6 false 0 ⟨#[]⟩ (J.pairsT ps).length (ps.map Prod.fst)&&J.mayT (J.pairsT ps))=true;rw [J.pairs_mayT];unfold J.flat J.plainOk J.listOk;rw [hn,J.pairsT_length,List.length_map];have h1:validD (⟨#[]⟩:ByteArray).data.toList=true:=rfl;rw [h1];simp
 have hd:(J.pairsV ps).deep=1:=by
   show J.deepT (J.pairsT ps)+1=1;rw [J.pairs_deep]
 refine ⟨⟨?_,?_,J.pairs_small ps⟩,⟨(show (0:Nat)≤_ from Nat.zero_le _),?_,J.pairs_brief ps⟩,by rw [hd];decide,⟨⟨(show (-9223372036854775808:Int)≤0 by decide),(show (0:Int)≤9223372036854775807 by decide)⟩,J.pairs_num ps hb⟩,by omega,?_⟩
 · show (J.pairsT ps).length≤_;rw [J.pairsT_length];omega
 · show (ps.map Prod.fst).length≤_;rw [List.length_map];omega
 · intro y hy;obtain ⟨p,hp,rfl⟩:=List.mem_map.1 hy;exact Nat.le_trans (hq p hp).1 (by decide)
 · have hc:J.check (J.pairsV ps)=0:=by unfold J.check;rw [if_pos hm,hd];rfl
   unfold J.V.print;rw [if_pos hc,if_neg (by omega)]
theorem errV_pairs (e:Int):J.errV e=J.pairsV [(J.nError,e)]:=rfl
theorem names_few:(J.nError.size≤1000∧(J.quoteL J.nError.data.toList).length≤1000)∧(J.nLine.size≤1000∧(J.quoteL J.nLine.data.toList).length≤1000)∧(J.nColumn.size≤1000∧(J.quoteL J.nColumn.data.toList).length≤1000)∧(J.nAt.size≤1000∧(J.quoteL J.nAt.data.toList).length≤1000):=by decide
theorem prints_err (e:Int) (h: -9223372036854775808≤e∧e≤9223372036854775807):Prints (J.errV e):=by
 rw [errV_pairs];refine prints_pairs _ (Nat.le_of_ble_eq_true rfl) ?_ (by kernel_rfl) ?_
 · intro x hx;simp only [List.mem_cons,List.not_mem_nil,or_false] at hx;subst hx;exact h
 · intro x hx;simp only [List.mem_cons,List.not_mem_nil,or_false] at hx;subst hx;exact names_few.1
theorem prints_place (e p q:Int) (h: -9223372036854775808≤e∧e≤9223372036854775807) (hp: -9223372036854775808≤p∧p≤9223372036854775807) (hq: -9223372036854775808≤q∧q≤9223372036854775807):Prints (J.pairsV [(J.nError,e),(J.nLine,p),(J.nColumn,q)]):=by
 refine prints_pairs _ (Nat.le_of_ble_eq_true rfl) ?_ (by kernel_rfl) ?_
 · intro x hx;simp only [List.mem_cons,List.not_mem_nil,or_false] at hx;rcases hx with rfl|rfl|rfl<;>assumption
 · intro x hx;simp only [List.mem_cons,List.not_mem_nil,or_false] at hx;rcases hx with rfl|rfl|rfl
   · exact names_few.1
   · exact names_few.2.1
   · exact names_few.2.2.1
end Go.Proofs.YtohkomndapngjaaGreatDoor

