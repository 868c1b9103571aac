/- model.Read at a text that begins with a brace. -/
import Derived.Test.YtohkomndapngjaaGreatDoorRC21
import Derived.Test.YtohkomndapngjaaGreatDoorRC22
import Derived.Test.YtohkomndapngjaaGreatDoorRC1
import Derived.Test.YtohkomndapngjaaGreatDoorRC6
import Derived.Test.YtohkomndapngjaaGreatDoorRC3
import Derived.Test.YtohkomndapngjaaGreatDoorRC19
import Derived.Laws.EntriesVeiled
namespace Go.Proofs.YtohkomndapngjaaGreatDoor
set_option maxRecDepth 100000
set_option maxHeartbeats 16000000
open Go.RowKit
open Go.Lib (hid)
theorem infoModel:(Tryz.prog.info? 35).map (·.size)=some 5:=by kernel_rfl
theorem infoPos2:(Tryz.prog.info? 78).map (·.size)=some 2:=by kernel_rfl
theorem results_cct {P:Program}{fn:Func}{p q r:Tmp}{ty tz:TypeId}(h:fn.results= #[.cell p ty,.cell q tz,.tmp r]) (tmps:Array Value) (w:World) (g k:Nat) (t u:TypeId) (cs ds:Array Value) (fr fs:Nat×Nat) (d f:TypeDesc) (v:Value)
  (hp:tmps.getD p undef= .pointer (some ⟨g,0,none⟩)) (hg:w.heap[g]? =some (.cells cs t fr)) (hq:tmps.getD q undef= .pointer (some ⟨k,0,none⟩)) (hk:w.heap[k]? =some (.cells ds u fs)) (hr:tmps.getD r undef=v)
  (hu:P.underlying ty=some d) (hd:(match d with| .struct _| .array _ _=>true|_=>false)=true) (hi:(P.info? ty).map (·.size)=some cs.size)
  (ku:P.underlying tz=some f) (kd:(match f with| .struct _| .array _ _=>true|_=>false)=true) (ki:(P.info? tz).map (·.size)=some ds.size):
  (results fn tmps).run P w= .ok (.tuple #[.agg cs,.agg ds,v]) w:=by
 have hp':tmps[p]?.getD undef= .pointer (some ⟨g,0,none⟩):=by simpa using hp
 have hq':tmps[q]?.getD undef= .pointer (some ⟨k,0,none⟩):=by simpa using hq
 have hr':tmps[r]?.getD undef=v:=by simpa using hr
 simp [results,h,hp',hq',hr',asAddr,run_loadVar_row w g t ty cs fr d hg hu hd hi,run_loadVar_row w k u tz ds fs f hk ku kd ki,Result.andThen]
structure EnvK (w:World):Prop where
 e:K.Errs w
 t:K.Tabs w
theorem EnvK.under {w w':World}(h:EnvK w) (hb:Below w.heap.size w w'):EnvK w':=⟨K.Errs.keep h.e hb,h.t.under hb⟩
def model0:Array Value:=#[.string ⟨#[]⟩,.string ⟨#[]⟩,.slice none 0 0,.slice none 0 0,.slice none 0 0]
abbrev st5 (w:World) (g:Nat) (c0 c1 c2 c3 c4:Value):World:=((((w.setCell ⟨g,0,none⟩ c0).setCell ⟨g,1,none⟩ c1).setCell ⟨g,2,none⟩ c2).setCell ⟨g,3,none⟩ c3).setCell ⟨g,4,none⟩ c4
theorem st5_row {w:World}{g:Nat}{x0 x1 x2 x3 x4 c0 c1 c2 c3 c4:Value}{T:TypeId}(h:w.heap[g]? =some (.cells #[x0,x1,x2,x3,x4] T (0,0))):(st5 w g c0 c1 c2 c3 c4).heap[g]? =some (.cells #[c0,c1,c2,c3,c4] T (0,0)):=row_set (row_set (row_set (row_set (row_set h 0 c0) 1 c1) 2 c2) 3 c3) 4 c4
theorem st5_other {w:World}{g k:Nat}(c0 c1 c2 c3 c4:Value) (h:k≠g):(st5 w g c0 c1 c2 c3 c4).heap[k]? =w.heap[k]? :=by
 unfold st5;rw [heap_setCell_other _ _ _ _ h,heap_setCell_other _ _ _ _ h,heap_setCell_other _ _ _ _ h,heap_setCell_other _ _ _ _ h,heap_setCell_other _ _ _ _ h]
theorem st5_below {B:Nat}{a w:World}{g:Nat}(h:Below B a w) (hg:B≤g) (c0 c1 c2 c3 c4:Value):Below B a (st5 w g c0 c1 c2 c3 c4):=
 ((((h.setCell (p:=⟨g,0,none⟩) hg c0).setCell (p:=⟨g,1,none⟩) hg c1).setCell (p:=⟨g,2,none⟩) hg c2).setCell (p:=⟨g,3,none⟩) hg c3).setCell (p:=⟨g,4,none⟩) hg c4
theorem mread_err (s:ByteArray) (er:Int) (her:er≠0) (D:Int→Int→Prop) (w:World) (hP:∀w',Below w.heap.size w w'→Calls Tryz.prog 54 #[.string s] w' fun e W=> ∃p q:Int,D p q∧e= .returned (.tuple #[.agg K.zero7,.agg #[.int .i64 p,.int .i64 q],.int .i64 er])∧Below w'.heap.size w' W):
  Calls Tryz.prog 17 #[.string s] w fun e W=> ∃p q:Int,D p q∧e= .returned (.tuple #[.agg model0,.agg #[.int .i64 p,.int .i64 q],.int .i64 er])∧Below w.heap.size w W:=by
 obtain ⟨M,hM⟩:∃M,w.heap.size=M:=⟨_,rfl⟩;obtain ⟨w1,hw1⟩:∃w1,(w.alloc (.cells #[.string ⟨#[]⟩,.string ⟨#[]⟩,.slice none 0 0,.slice none 0 0,.slice none 0 0] 35)).alloc (.cells #[.int .i64 0,.int .i64 0] 78)=w1:=⟨_,rfl⟩;have hb1:Below w.heap.size w w1:=by rw [←hw1];exact ((Below.refl _ w).alloc (Nat.le_refl _) _).alloc (by simp) _
 have hm1:w1.heap[M]? =some (.cells model0 35 (0,0)):=by rw [←hw1,←hM,Lib.alloc_old _ _ _ (by simp)];exact heap_alloc_new w _
 have hq1:w1.heap[M+1]? =some (.cells #[.int .i64 0,.int .i64 0] 78 (0,0)):=by
  have:=heap_alloc_new (w.alloc (.cells #[.string ⟨#[]⟩,.string ⟨#[]⟩,.slice none 0 0,.slice none 0 0,.slice none 0 0] 35)) (.cells #[.int .i64 0,.int .i64 0] 78);rw [show (w.alloc (.cells #[.string ⟨#[]⟩,.string ⟨#[]⟩,.slice none 0 0,.slice none 0 0,.slice none 0 0] 35)).heap.size=M+1 by rw [←hM];simp,hw1] at this;exact this
 have cP:=hP w1 hb1;have HM1:=hid hm1;have HQ1:=hid hq1;have HB1:=hid hb1;have HW1:=hid hw1;have HM:=hid hM;have t0:(er==0)=false:=beq_eq_false_iff_ne.2 her;clear hw1 hb1 hm1 hq1 hP hM her;go_enter Tryz.func17,Tryz.ntmps17;go_upto_region 1 with fail;rw [HW1.out,HM.out];clear HW1;go_wp2_with fail;refine cP.mono ?_;rintro e w2 ⟨pl,pc,hpd,rfl,hb⟩;have HPL:=hid hpd;have HM2:=hid ((hb.block M (Go.lt_of_block HM1.out)).trans HM1.out);have HQ2:=hid ((hb.block (M+1) (Go.lt_of_block HQ1.out)).trans HQ1.out);have HB2:=hid (HB1.out.trans (hb.mono HB1.out.size));unfold K.zero7;clear hb cP hpd;obtain ⟨D,hD⟩:∃D,w2.heap.size=D:=⟨_,rfl⟩;obtain ⟨w3,hw3⟩:∃w3,(w2.alloc (.cells #[.string ⟨#[]⟩,.string ⟨#[]⟩,.slice none 0 0,.slice none 0 0,.string ⟨#[]⟩,.int .i64 0,.int .i64 0] 140)).alloc (.cells #[.int .i64 pl,.int .i64 pc] 78)=w3:=⟨_,rfl⟩;have hb3:Below w2.heap.size w2 w3:=by rw [←hw3];exact ((Below.refl _ w2).alloc (Nat.le_refl _) _).alloc (by simp) _
 have hd3:w3.heap[D+1]? =some (.cells #[.int .i64 pl,.int .i64 pc] 78 (0,0)):=by
  have:=heap_alloc_new (w2.alloc (.cells #[.string ⟨#[]⟩,.string ⟨#[]⟩,.slice none 0 0,.slice none 0 0,.string ⟨#[]⟩,.int .i64 0,.int .i64 0] 140)) (.cells #[.int .i64 pl,.int .i64 pc] 78);rw [show (w2.alloc (.cells #[.string ⟨#[]⟩,.string ⟨#[]⟩,.slice none 0 0,.slice none 0 0,.string ⟨#[]⟩,.int .i64 0,.int .i64 0] 140)).heap.size=D+1 by rw [←hD];simp,hw3] at this;exact this
 have hm3:=(hb3.block M (Go.lt_of_block HM2.out)).trans HM2.out;have hq3:=(hb3.block (M+1) (Go.lt_of_block HQ2.out)).trans HQ2.out;have HW3:=hid hw3;have HDD:=hid hD;have HDM:Hid (M+1<D):=by have:=Go.lt_of_block HQ2.out;show _<_;omega
 have HB3:=hid (HB2.out.trans (hb3.mono HB2.out.size));clear hb3 hw3 hD;go_upto_region 3 with fail;rw [HW3.out,HDD.out];clear HW3;obtain ⟨y0,hy⟩:∃y,w3.drew=y:=⟨_,rfl⟩;have hy0:y0.heap=w3.heap:=by rw [←hy];rfl
 rw [←hy0] at hm3 hq3 hd3;have HBY:Hid (Below w.heap.size w y0):=by show Below _ _ _;rw [←hy];exact HB3.out.drew
 have HMY:=hid hm3;have HQY:=hid hq3;have m0:y0.cell? ⟨M,0,none⟩=some (.string ⟨#[]⟩):=rowCell hm3 0;have m1:y0.cell? ⟨M,1,none⟩=some (.string ⟨#[]⟩):=rowCell hm3 1;have m2:y0.cell? ⟨M,2,none⟩=some (.slice none 0 0):=rowCell hm3 2;have m3:y0.cell? ⟨M,3,none⟩=some (.slice none 0 0):=rowCell hm3 3;have m4:y0.cell? ⟨M,4,none⟩=some (.slice none 0 0):=rowCell hm3 4;have q0:y0.cell? ⟨M+1,0,none⟩=some (.int .i64 0):=rowCell hq3 0;have q1:y0.cell? ⟨M+1,1,none⟩=some (.int .i64 0):=rowCell hq3 1;have d0:y0.cell? ⟨D+1,0,none⟩=some (.int .i64 pl):=rowCell hd3 0;have d1:y0.cell? ⟨D+1,1,none⟩=some (.int .i64 pc):=rowCell hd3 1;have f0:=rowFree hm3 0;have f1:=rowFree hm3 1;have f2:=rowFree hm3 2;have f3:=rowFree hm3 3;have f4:=rowFree hm3 4;have g0:=rowFree hq3 0;have g1:=rowFree hq3 1;have n1:M+1≠M:=by omega
 have n2:M≠M+1:=by omega
 have n3:D+1≠M:=by have:=HDM.out;omega
 have n4:D+1≠M+1:=by have:=HDM.out;omega
 clear hm3 hq3 hd3 hy0 HB3;go_region_with (fail)
 all_goals go_wp2_with fail
 all_goals
  refine bodyPost_ret (v:= .tuple #[.agg model0,.agg #[.int .i64 pl,.int .i64 pc],.int .i64 er]) (results_cct rfl _ _ M (M+1) 35 78 model0 #[.int .i64 pl,.int .i64 pc] (0,0) (0,0) _ _ _ rfl (box_far (box_far (st5_row HMY.out) n2) n2) rfl (set_pair ((st5_other _ _ _ _ _ n1).trans HQY.out)) rfl Tryz.underlying35 rfl infoModel Tryz.underlying78 rfl infoPos2) rfl ?_;exact ⟨pl,pc,HPL.out,rfl,((st5_below HBY.out (Nat.le_of_eq HM.out) _ _ _ _ _).setCell (p:=⟨M+1,0,none⟩) (by have:=HM.out;show _≤M+1;omega) _).setCell (p:=⟨M+1,1,none⟩) (by have:=HM.out;show _≤M+1;omega) _⟩
theorem pos_small {s:ByteArray}(hs:s.size≤65536) (p:Nat):(0≤((K.X.lineOf s.data.toList p:Nat):Int)∧((K.X.lineOf s.data.toList p:Nat):Int)≤1000000)∧(0≤((K.X.colOf s.data.toList p:Nat):Int)∧((K.X.colOf s.data.toList p:Nat):Int)≤1000000):=by
 have h1:K.X.lineOf s.data.toList p≤65537:=by
  unfold K.X.lineOf;have h1:=List.count_le_length (a:=(10:UInt8)) (l:=s.data.toList.take p);have h2:=List.length_take_le' p s.data.toList;have h3:s.data.toList.length=s.size:=(Lib.size_eq s).symm;omega
 have h2:K.X.colOf s.data.toList p≤65537:=by
  unfold K.X.colOf;have h1:=(List.takeWhile_prefix (fun c:UInt8=>c !=10) (l:=(s.data.toList.take p).reverse)).length_le;rw [List.length_reverse] at h1;have h2:=List.length_take_le' p s.data.toList;have h3:s.data.toList.length=s.size:=(Lib.size_eq s).symm;omega
 exact ⟨⟨Int.natCast_nonneg _,by omega⟩,⟨Int.natCast_nonneg _,by omega⟩⟩
theorem mread_brace (s:ByteArray) (hs:s.size≤65536) (w:World) (hE:EnvK w) (t u:List UInt8) (c:UInt8) (hu:s.data.toList=c::u) (hc:c≠60) (hk:K.X.skip s.data.toList=123::t):
  Calls Tryz.prog 17 #[.string s] w fun e W=> ∃p q:Int,((0≤p∧p≤1000000)∧(0≤q∧q≤1000000))∧e= .returned (.tuple #[.agg model0,.agg #[.int .i64 p,.int .i64 q],.int .i64 81])∧Below w.heap.size w W:=
 mread_err s 81 (by decide) (fun p q=>(0≤p∧p≤1000000)∧(0≤q∧q≤1000000)) w (fun w' hb=>(K.parse_brace s hs w' (hE.under hb).e (hE.under hb).t t u c hu hc hk).mono (fun _ _ ⟨p,h1,h2⟩=>⟨_,_,pos_small hs p,h1,h2⟩))
namespace R
open J (T V)
structure B where
 nm:ByteArray
 k:Nat
 b:Bool
 n:Int
 s:ByteArray
structure D where
 name:ByteArray
 key:ByteArray
 worker:ByteArray
 n:Int
 ticks:Int
 patch:List B
structure F where
 nm:List UInt8
 must:Bool
 kind:Nat
 slot:Nat
deriving DecidableEq
def fModel:List UInt8:= [109,111,100,101,108]
def fVars:List UInt8:= [118,97,114,115]
def fWorker:List UInt8:= [119,111,114,107,101,114]
def fMax:List UInt8:= [109,97,120]
def fTicks:List UInt8:= [116,105,99,107,115]
def fTries:List UInt8:= [116,114,105,101,115]
def fName:List UInt8:= [110,97,109,101]
def fKey:List UInt8:= [107,101,121]
def table (K:Nat):List F:=
 if K=2 then [⟨fModel,true,4,0⟩,⟨fVars,false,6,5⟩]
 else if K=3 then [⟨fVars,false,6,5⟩]
 else if K=4 then [⟨fWorker,true,4,2⟩,⟨fMax,true,3,3⟩,⟨fTicks,true,3,4⟩]
 else if K=5 then [⟨fWorker,true,4,2⟩,⟨fVars,false,6,5⟩]
 else if K=6 then [⟨fWorker,true,4,2⟩]
 else if K=7 then [⟨fTries,false,3,3⟩,⟨fVars,false,6,5⟩]
 else if K=8 then [⟨fName,true,4,0⟩,⟨fKey,true,4,1⟩,⟨fVars,false,6,5⟩,⟨fTicks,false,3,4⟩]
 else if K=9 then [⟨fName,true,4,0⟩]
 else []
def bind (nm:ByteArray) (k:Nat) (b:Bool) (n:Int) (s:ByteArray):Option B:=
 if k=3 then some ⟨nm,1,false,n,⟨#[]⟩⟩ else if k=2 then some ⟨nm,2,b,0,⟨#[]⟩⟩ else if k=4 then some ⟨nm,3,false,0,s⟩ else none
def vars (acc:List B):T→List ByteArray→Option (List B)
 | .nil,_=>some acc
 | .cons k b n s _ _ r,ns=>match bind (ns.headD ⟨#[]⟩) k b n s with
   | none=>none
   | some x=>vars (acc++ [x]) r (ns.drop 1)
def put (i:Nat) (d:D) (x:V):Option D:=
 if i=0 then some { d with name:=x.s } else if i=1 then some { d with key:=x.s } else if i=2 then some { d with worker:=x.s }
 else if i=3 then some { d with n:=x.n } else if i=4 then some { d with ticks:=x.n }
 else match vars d.patch x.l x.ns with
  | none=>none
  | some p=>some { d with patch:=p }
def look (K:Nat) (nm:ByteArray):Option F:=(table K).find? fun f=>decide (f.nm=nm.data.toList)
def step (K:Nat) (d:D) (nm:ByteArray) (x:V):Option D:=
 match look K nm with
 | none=>none
 | some f=>if f.kind=x.k then put f.slot d x else none
def go (K:Nat) (d:D):T→List ByteArray→Option D
 | .nil,_=>some d
 | .cons k b n s l ns r,names=>match step K d (names.headD ⟨#[]⟩) ⟨k,b,n,s,l,ns⟩ with
   | none=>none
   | some d'=>go K d' r (names.drop 1)
def musts (K:Nat) (ns:List ByteArray):Bool:=(table K).all fun f=> !f.must||ns.any fun x=>decide (x.data.toList=f.nm)
def fill (K:Nat) (d:D) (x:V):Option D:=
 if x.k=6 then (match go K d x.l x.ns with|none=>none|some d'=>if musts K x.ns then some d' else none) else none
/-! ### what stands in lists -/
theorem vars_loose:∀ {t u:T}(acc:List B) (ns:List ByteArray),t.loose u→vars acc t ns=vars acc u ns
 | .nil,.nil,_,_,_=>rfl
 | .cons k b n s l m r,.cons k' b' n' s' l' m' r',acc,ns,⟨h1,h2,h3,h4,_,_,h⟩=>by
   subst h1 h2 h3 h4
   unfold vars
   cases bind (ns.headD ⟨#[]⟩) k b n s with
   | none=>rfl
   | some x=>exact vars_loose (acc++ [x]) (ns.drop 1) h
 | .nil,.cons ..,_,_,h=>h.elim
 | .cons ..,.nil,_,_,h=>h.elim
theorem kind_to (K:Nat):∀f∈table K,f.slot=5∧f.kind=6∨f.slot<5:=by
 unfold table;by_cases h2:K=2
 · rw [if_pos h2];decide
 rw [if_neg h2];by_cases h3:K=3
 · rw [if_pos h3];decide
 rw [if_neg h3];by_cases h4:K=4
 · rw [if_pos h4];decide
 rw [if_neg h4];by_cases h5:K=5
 · rw [if_pos h5];decide
 rw [if_neg h5];by_cases h6:K=6
 · rw [if_pos h6];decide
 rw [if_neg h6];by_cases h7:K=7
 · rw [if_pos h7];decide
 rw [if_neg h7];by_cases h8:K=8
 · rw [if_pos h8];decide
 rw [if_neg h8];by_cases h9:K=9
 · rw [if_pos h9];decide
 rw [if_neg h9];decide
theorem step_loose (K:Nat) (d:D) (nm:ByteArray) {x y:V}(h:x.loose y):step K d nm x=step K d nm y:=by
 obtain ⟨h1, -,h3,h4,h5,h6⟩:=h;unfold step;cases hf:look K nm with
 | none=>rfl
 | some f=>
   simp only;rw [h1];by_cases hk:f.kind=y.k
   · rw [if_pos hk,if_pos hk];unfold put;rw [h3,h4,h5];rcases kind_to K f (List.mem_of_find?_eq_some hf) with ⟨-,h⟩|h
     · rcases h6 with h6|⟨h6, -⟩
       · rw [vars_loose d.patch y.ns h6]
       · omega
     · have:f.slot=0∨f.slot=1∨f.slot=2∨f.slot=3∨f.slot=4:=by omega
       rcases this with h|h|h|h|h<;>rw [h]<;>rfl
   · rw [if_neg hk,if_neg hk]
theorem go_loose (K:Nat):∀ {t u:T}(d:D) (names:List ByteArray),t.loose u→go K d t names=go K d u names
 | .nil,.nil,_,_,_=>rfl
 | .cons k b n s l m r,.cons k' b' n' s' l' m' r',d,names,⟨h1,h2,h3,h4,h5,h6,h⟩=>by
   unfold go
   rw [step_loose K d (names.headD ⟨#[]⟩) (x:=⟨k,b,n,s,l,m⟩) (y:=⟨k',b',n',s',l',m'⟩) ⟨h1,h2,h3,h4,h5,h6⟩]
   cases step K d (names.headD ⟨#[]⟩) ⟨k',b',n',s',l',m'⟩ with
   | none=>rfl
   | some d'=>exact go_loose K d' (names.drop 1) h
 | .nil,.cons ..,_,_,h=>h.elim
 | .cons ..,.nil,_,_,h=>h.elim
theorem fill_loose (K:Nat) (d:D) {x y:V}(h:x.loose y):fill K d x=fill K d y:=by
 unfold fill;rw [h.1,h.2.2.2.2.1];by_cases hk:y.k=6
 · rw [if_pos hk,if_pos hk];rcases h.2.2.2.2.2 with h6|⟨h6, -⟩
   · rw [go_loose K d y.ns h6]
   · have:=h.1;omega
 · rw [if_neg hk,if_neg hk]
/-! ### the order -/
theorem to_inj (K:Nat):∀f∈table K,∀g∈table K,f.slot=g.slot→f.nm=g.nm:=by
 unfold table;by_cases h2:K=2
 · rw [if_pos h2];decide
 rw [if_neg h2];by_cases h3:K=3
 · rw [if_pos h3];decide
 rw [if_neg h3];by_cases h4:K=4
 · rw [if_pos h4];decide
 rw [if_neg h4];by_cases h5:K=5
 · rw [if_pos h5];decide
 rw [if_neg h5];by_cases h6:K=6
 · rw [if_pos h6];decide
 rw [if_neg h6];by_cases h7:K=7
 · rw [if_pos h7];decide
 rw [if_neg h7];by_cases h8:K=8
 · rw [if_pos h8];decide
 rw [if_neg h8];by_cases h9:K=9
 · rw [if_pos h9];decide
 rw [if_neg h9];decide
theorem put_swap {i j:Nat}(hi:i≤5) (hj:j≤5) (h:i≠j) (d:D) (x y:V):((put i d x).bind fun d=>put j d y)=((put j d y).bind fun d=>put i d x):=by
 have h1:i=0∨i=1∨i=2∨i=3∨i=4∨i=5:=by omega
 have h2:j=0∨j=1∨j=2∨j=3∨j=4∨j=5:=by omega
 have e5:∀d x,put 5 d x=(vars d.patch x.l x.ns).map fun p=> { d with patch:=p }:=fun d x=>by
  show (match vars d.patch x.l x.ns with|none=>none|some p=>some { d with patch:=p }:Option D)=_;cases vars d.patch x.l x.ns<;>rfl
 rcases h1 with rfl|rfl|rfl|rfl|rfl|rfl<;>rcases h2 with rfl|rfl|rfl|rfl|rfl|rfl<;>first
  | exact absurd rfl h
  | rfl
  | (rw [e5];show Option.bind _ _=put 5 _ x;rw [e5];show Option.bind (Option.map _ (vars d.patch x.l x.ns)) _=Option.map _ (vars d.patch x.l x.ns);cases vars d.patch x.l x.ns<;>rfl)
  | (rw [e5 d y];show put 5 _ y=Option.bind _ _;rw [e5];show Option.map _ (vars d.patch y.l y.ns)=Option.bind (Option.map _ (vars d.patch y.l y.ns)) _;cases vars d.patch y.l y.ns<;>rfl)
theorem look_mem {K:Nat}{nm:ByteArray}{f:F}(h:look K nm=some f):f∈table K∧f.nm=nm.data.toList:=
 ⟨List.mem_of_find?_eq_some h,of_decide_eq_true (List.find?_some (p:=fun f:F=>decide (f.nm=nm.data.toList)) h)⟩
theorem step_swap (K:Nat) {a b:ByteArray}(h:a.data.toList≠b.data.toList) (d:D) (x y:V):((step K d a x).bind fun d=>step K d b y)=((step K d b y).bind fun d=>step K d a x):=by
 unfold step;cases ha:look K a with
 | none=>
   simp only;cases look K b with
   | none=>rfl
   | some g=>
     simp only;split
     · cases put g.slot d y<;>rfl
     · rfl
 | some f=>
   cases hb:look K b with
   | none=>
     simp only;split
     · cases put f.slot d x<;>rfl
     · rfl
   | some g=>
     simp only;obtain ⟨f1,f2⟩:=look_mem ha;obtain ⟨g1,g2⟩:=look_mem hb;have hne:f.slot≠g.slot:=fun e=>h (by rw [←f2,←g2];exact to_inj K f f1 g g1 e)
     have hf:f.slot≤5:=by rcases kind_to K f f1 with h|h<;>omega
     have hg:g.slot≤5:=by rcases kind_to K g g1 with h|h<;>omega
     by_cases h1:f.kind=x.k
     · by_cases h2:g.kind=y.k
       · simp only [h1,h2,if_true];exact put_swap hf hg hne d x y
       · simp only [h1,h2,if_true,if_false];cases put f.slot d x<;>rfl
     · by_cases h2:g.kind=y.k
       · simp only [h1,h2,if_true,if_false];cases put g.slot d y<;>rfl
       · simp only [h1,h2,if_false]
def pairs:T→List ByteArray→List (ByteArray×V)
 | .nil,_=> []
 | .cons k b n s l ns r,names=>(names.headD ⟨#[]⟩,⟨k,b,n,s,l,ns⟩)::pairs r (names.drop 1)
def run (K:Nat):D→List (ByteArray×V)→Option D
 | d,[]=>some d
 | d,p::r=>(step K d p.1 p.2).bind fun d=>run K d r
theorem go_run (K:Nat):∀(t:T) (d:D) (names:List ByteArray),go K d t names=run K d (pairs t names)
 | .nil,_,_=>rfl
 | .cons k b n s l ns r,d,names=>by
   unfold go pairs run
   simp only
   cases step K d (names.headD ⟨#[]⟩) ⟨k,b,n,s,l,ns⟩ with
   | none=>rfl
   | some d'=>exact go_run K r d' (names.drop 1)
theorem run_snoc (K:Nat) (p:ByteArray×V):∀(l:List (ByteArray×V)) (d:D),(∀q∈l,q.1.data.toList≠p.1.data.toList)→run K d (l++ [p])=run K d (p::l)
 | [],_,_=>rfl
 | q::l,d,h=>by
   have ih:=fun d=>run_snoc K p l d fun q hq=>h q (by simp [hq])
   show (step K d q.1 q.2).bind (fun d=>run K d (l++ [p]))=(step K d p.1 p.2).bind fun d=>(step K d q.1 q.2).bind fun d=>run K d l
   have e:(fun d=>run K d (l++ [p]))=fun d=>(step K d p.1 p.2).bind fun d=>run K d l:=funext fun d=>ih d
   rw [e,←Option.bind_assoc,←Option.bind_assoc,step_swap K (h q (by simp)) d q.2 p.2]
theorem run_turn (K:Nat):∀(a b:List (ByteArray×V)) (d:D),(a++b).Pairwise (fun p q=>p.1.data.toList≠q.1.data.toList)→run K d (a++b)=run K d (b++a)
 | [],b,d,_=>by rw [List.nil_append,List.append_nil]
 | p::a,b,d,h=>by
   rw [List.cons_append,List.pairwise_cons] at h
   rw [List.cons_append,←run_snoc K p (a++b) d (fun q hq=>(h.1 q hq).symm),List.append_assoc]
   rw [run_turn K a (b++ [p]) d ?_,List.append_assoc]
   · rfl
   · rw [←List.append_assoc,List.pairwise_append]
     exact ⟨h.2,List.pairwise_singleton _ _,fun q hq r hr=>by rw [List.mem_singleton.1 hr];exact (h.1 q hq).symm⟩
theorem pairs_app:∀(a b:T) (na nb:List ByteArray),na.length=a.length→pairs (a.app b) (na++nb)=pairs a na++pairs b nb
 | .nil,b,na,nb,h=>by rw [List.length_eq_zero_iff.1 h];rfl
 | .cons k bb n s l ns r,b,[],nb,h=>by simp [T.length] at h
 | .cons k bb n s l ns r,b,x::na,nb,h=>by
   have ih:=pairs_app r b na nb (by simpa [T.length] using h)
   show _::pairs (r.app b) (na++nb)=_
   rw [ih];rfl
theorem pairs_names:∀(t:T) (ns:List ByteArray),ns.length=t.length→(pairs t ns).map Prod.fst=ns
 | .nil,ns,h=>by rw [List.length_eq_zero_iff.1 h];rfl
 | .cons k b n s l m r,[],h=>by simp [T.length] at h
 | .cons k b n s l m r,x::ns,h=>by
   show x::(pairs r ns).map Prod.fst=_
   rw [pairs_names r ns (by simpa [T.length] using h)]
def unlike (ns:List ByteArray):Prop:=ns.Pairwise fun a b=>a.data.toList≠b.data.toList
theorem fill_turn (K:Nat) (d:D) (k:Nat) (b:Bool) (n:Int) (s:ByteArray) (t u:T) (nt nu:List ByteArray) (h1:nt.length=t.length) (h2:nu.length=u.length) (h:unlike (nt++nu)):
  fill K d ⟨k,b,n,s,t.app u,nt++nu⟩=fill K d ⟨k,b,n,s,u.app t,nu++nt⟩:=by
 have hp:(pairs t nt++pairs u nu).Pairwise (fun p q=>p.1.data.toList≠q.1.data.toList):=by
  have:=h;unfold unlike at this;rw [←pairs_names t nt h1,←pairs_names u nu h2,←List.map_append,List.pairwise_map] at this;exact this
 unfold fill;simp only;rw [go_run,go_run,pairs_app t u nt nu h1,pairs_app u t nu nt h2,run_turn K _ _ d hp];have hm:musts K (nt++nu)=musts K (nu++nt):=by
  unfold musts;congr 1
  funext f
  rw [List.any_append,List.any_append,Bool.or_comm (nt.any _)]
 rw [hm]
theorem lookL_of {β : Type} : ∀ {l : List (List UInt8 × β)} {p : List UInt8} {v : β}, (l.map Prod.fst).Nodup → (p, v) ∈ l → lookL l p = some v
  | (a, u) :: r, p, v, hn, h => by
    rw [List.map_cons, List.nodup_cons] at hn
    unfold lookL
    rcases List.mem_cons.1 h with h | h
    · cases h; rw [if_pos rfl]
    · by_cases e : a = p
      · subst e
        exact absurd (List.mem_map_of_mem (f := Prod.fst) h) hn.1
      · rw [if_neg e]; exact lookL_of hn.2 h
theorem lookL_perm {β:Type}{l m:List (List UInt8×β)}(h:l.Perm m) (hn:(m.map Prod.fst).Nodup) (p:List UInt8):lookL l p=lookL m p:=by
 have hl:(l.map Prod.fst).Nodup:=(h.map Prod.fst).nodup_iff.2 hn;cases hm:lookL m p with
 | some v=>exact lookL_of hl (h.mem_iff.2 (lookL_mem hm))
 | none=>
   cases hq:lookL l p with
   | none=>rfl
   | some v=>
     have:=lookL_of hn (h.mem_iff.1 (lookL_mem hq));rw [hm] at this;cases this
def fl (K:Nat):List (List UInt8×F):=(table K).reverse.map fun f=>(f.nm,f)
theorem table_nodup (K:Nat):((table K).map fun f=>f.nm).Nodup:=by
 unfold table;by_cases h2:K=2
 · rw [if_pos h2];decide
 rw [if_neg h2];by_cases h3:K=3
 · rw [if_pos h3];decide
 rw [if_neg h3];by_cases h4:K=4
 · rw [if_pos h4];decide
 rw [if_neg h4];by_cases h5:K=5
 · rw [if_pos h5];decide
 rw [if_neg h5];by_cases h6:K=6
 · rw [if_pos h6];decide
 rw [if_neg h6];by_cases h7:K=7
 · rw [if_pos h7];decide
 rw [if_neg h7];by_cases h8:K=8
 · rw [if_pos h8];decide
 rw [if_neg h8];by_cases h9:K=9
 · rw [if_pos h9];decide
 rw [if_neg h9];decide
theorem fl_nodup (K:Nat):((fl K).map Prod.fst).Nodup:=by
 unfold fl;rw [List.map_map];have:(Prod.fst ∘ fun f:F=>(f.nm,f))=fun f=>f.nm:=rfl
 rw [this,List.map_reverse];exact (List.reverse_perm _).nodup_iff.2 (table_nodup K)
theorem look_fl (K:Nat) (nm:ByteArray) {l:List (List UInt8×F)}(h:l.Perm (fl K)):lookL l nm.data.toList=look K nm:=by
 rw [lookL_perm h (fl_nodup K)];cases hk:look K nm with
 | some f=>
   obtain ⟨h1,h2⟩:=look_mem hk;refine lookL_of (fl_nodup K) ?_;unfold fl;rw [←h2];exact List.mem_map.2 ⟨f,List.mem_reverse.2 h1,rfl⟩
 | none=>
   cases hq:lookL (fl K) nm.data.toList with
   | none=>rfl
   | some f=>
     have hm:=lookL_mem hq;unfold fl at hm;obtain ⟨g,hg,e⟩:=List.mem_map.1 hm;simp only [Prod.mk.injEq] at e;unfold look at hk;have:=List.find?_eq_none.1 hk g (List.mem_reverse.1 hg);exact absurd e.1 (by simpa using this)
end R
open Go.RowKit Go.Maps
namespace R
def fnOf (i:Nat):Nat:=if i=0 then 116 else if i=1 then 120 else if i=2 then 117 else if i=3 then 118 else if i=4 then 119 else 115
def fieldD (f:F):DataW Unit:= .agg [.lit (.bool f.must),.lit (.int .u8 f.kind),.lit (.int .i64 (fnOf f.slot))]
def fieldR (v:Value):Option (DataW Unit×List MemPlace):=
 match v with
 | .agg cs=>match cs.toList with
   | [.bool m,.int .u8 k,.func (.func f) a b]=>if a= #[]∧b= #[] then some (.agg [.lit (.bool m),.lit (.int .u8 k),.lit (.int .i64 f)],[]) else none
   | _=>none
 | _=>none
theorem fieldR_inv {v:Value}{d:DataW Unit}{p:List MemPlace}(h:fieldR v=some (d,p)):∃m k f,v= .agg #[.bool m,.int .u8 k,.func (.func f) #[] #[]]∧d= .agg [.lit (.bool m),.lit (.int .u8 k),.lit (.int .i64 f)]:=by
 unfold fieldR at h;split at h
 · rename_i cs;split at h
   · rename_i m k f a b e;split at h
     · rename_i hab;obtain ⟨rfl,rfl⟩:=hab;cases h;exact ⟨m,k,f,by rw [←e],rfl⟩
     · cases h
   · cases h
 · cases h
end R
theorem zeroFn (w:World):(zeroValue 154).run Tryz.prog w= .ok (.agg #[.bool false,.int .u8 0,.nilFunc]) w:=by kernel_rfl
theorem infoField:(Tryz.prog.info? 154).map (·.size)=some 3:=by kernel_rfl
theorem map_field {b n:Nat}{D:DataW Unit}{w:World}(h:w.ownsMap Tryz.prog 9 R.fieldR b n D) (hn:n<maxLen) (s:ByteArray) (hs:s.size≤1000000000000) (m:Bool) (k i:Nat) {ki:Int}{f:Nat}(hk:ki=k) (hf:f=R.fnOf i) {l:List UInt8}(hl:s.data.toList=l):
  ∃w',(Instr.mapUpdate 151 (.map (some b)) (.string s) (.agg #[.bool m,.int .u8 ki,.func (.func f) #[] #[]])).run Tryz.prog w= .ok () w'∧w'.ownsMap Tryz.prog 9 R.fieldR b (n+1) (D.put (.string l) (R.fieldD ⟨l,m,k,i⟩))∧w.mapTurned w' b:=by
 subst hk hf hl;exact h.store lawS Tryz.underlying151 hn (keyS hs) rfl
theorem fld_any (f:Nat) (w:World):Calls Tryz.prog 114 #[.func (.func f) #[] #[]] w fun e W=>e= .returned (.agg #[.bool true,.int .u8 4,.func (.func f) #[] #[]])∧Below w.heap.size w W:=by
 go_enter Tryz.func114,Tryz.ntmps114;go_wp2;exact bodyPost_ret (v:= .agg #[.bool true,.int .u8 4,.func (.func f) #[] #[]]) (results_cell_row rfl _ _ w.heap.size 154 _ (0,0) _ rfl (heap_alloc_new w _) Tryz.underlying154 rfl infoField) rfl ⟨rfl,(Below.refl _ w).alloc (Nat.le_refl _) _⟩
def MapF (W:World) (B K:Nat) (v:Value):Prop:= ∃M L,v= .map (some M)∧B≤M∧L.Perm (R.fl K)∧W.ownsMap Tryz.prog 9 R.fieldR M 4 (R.mapD R.fieldD L)
theorem turned_below {w W W':World}{M:Nat}(h:Below w.heap.size w W) (hM:w.heap.size≤M) (t:W.mapTurned W' M):Below w.heap.size w W':=h.grown t.grown h.size (fun q hq=>by have:=Option.some.inj hq;omega)
theorem turned_block {W W':World}{M X:Nat}{o:Obj}(t:W.mapTurned W' M) (h:W.heap[X]? =some o) (hx:X≠M):W'.heap[X]? =some o:=by
 rw [t.grown.block X (Go.lt_of_block h) (fun e=>hx (Option.some.inj e))];exact h
theorem fields_3 (w:World):Calls Tryz.prog 60 #[.int .u8 3] w fun e W=> ∃v,e= .returned v∧MapF W w.heap.size 3 v∧Below w.heap.size w W:=by
 obtain ⟨T,hT⟩:∃T,w.heap.size=T:=⟨_,rfl⟩;obtain ⟨w0,hw0⟩:∃w0,w.alloc (.cells #[.bool false,.int .u8 6,(.func (.func 115) #[] #[])] 154)=w0:=⟨_,rfl⟩;have hv0:w0.heap[T]? =some (.cells #[.bool false,.int .u8 6,(.func (.func 115) #[] #[])] 154 (0,0)):=by rw [←hw0,←hT];exact heap_alloc_new w _
 have HB0:Hid (Below w.heap.size w w0):=by show Below _ _ _;rw [←hw0];exact (Below.refl _ w).alloc (Nat.le_refl _) _
 have HV0:=hid hv0;have HW0:=hid hw0;have HT:=hid hT;clear hw0 hv0 hT;go_enter Tryz.func60,Tryz.ntmps60;go_upto_region 7 with fail;rw [HW0.out,HT.out];clear HW0;have hmm:=@run_makeMap Tryz.prog;obtain ⟨M,hM⟩:∃M,w0.heap.size=M:=⟨_,rfl⟩;have m0:=World.ownsMap_made (H:=Unit) w0 Tryz.prog 9 R.fieldR;obtain ⟨wm,hwm⟩:∃wm,w0.alloc (.map #[] 0)=wm:=⟨_,rfl⟩;have hbm:Below w0.heap.size w0 wm:=by rw [←hwm];exact (Below.refl _ w0).alloc (Nat.le_refl _) _
 rw [hwm,hM] at m0;have HTM:Hid (T<M):=by have:=Go.lt_of_block HV0.out;show _<_;omega
 have hvm:=(hbm.block T (Go.lt_of_block HV0.out)).trans HV0.out;have hbm:=HB0.out.trans (hbm.mono HB0.out.size);have HWM:=hid hwm;have HMM:=hid hM;have HGM:Hid (w.heap.size≤M):=by have:=HTM.out;have:=HT.out;show _≤_;omega
 have ca_wm:wm.cell? ⟨T,0,none⟩=some (.bool false):=rowCell hvm 0;have cb_wm:wm.cell? ⟨T,1,none⟩=some (.int .u8 6):=rowCell hvm 1;have cc_wm:wm.cell? ⟨T,2,none⟩=some (.func (.func 115) #[] #[]):=rowCell hvm 2;obtain ⟨w1x,u1,m1,t1⟩:=map_field m0 (by unfold maxLen;omega) ⟨#[118,97,114,115]⟩ (by decide) false 6 5 (ki:=6) (f:=115) rfl rfl (l:=R.fVars) rfl;have hv1:=turned_block t1 hvm (by have:=HTM.out;omega);have hb1:=turned_below hbm HGM.out t1;have HD:Hid (w1x.ownsMap Tryz.prog 9 R.fieldR M 4 (R.mapD R.fieldD (R.fl 3))):=m1.mono (by decide);have HBE:=hid hb1;have hM:=HMM.out;clear m0 m1 t1 hv1 hb1 hvm hbm HMM;have hwm:=HWM.out;clear HWM;go_wp2_with fail;go_ret;exact ⟨_,rfl,⟨M,_,rfl,HGM.out,List.Perm.refl _,HD.out⟩,HBE.out⟩
theorem fields_4 (w:World):Calls Tryz.prog 60 #[.int .u8 4] w fun e W=> ∃v,e= .returned v∧MapF W w.heap.size 4 v∧Below w.heap.size w W:=by
 obtain ⟨T,hT⟩:∃T,w.heap.size=T:=⟨_,rfl⟩;obtain ⟨w0,hw0⟩:∃w0,w.alloc (.cells #[.bool false,.int .u8 6,(.func (.func 115) #[] #[])] 154)=w0:=⟨_,rfl⟩;have hv0:w0.heap[T]? =some (.cells #[.bool false,.int .u8 6,(.func (.func 115) #[] #[])] 154 (0,0)):=by rw [←hw0,←hT];exact heap_alloc_new w _
 have HB0:Hid (Below w.heap.size w w0):=by show Below _ _ _;rw [←hw0];exact (Below.refl _ w).alloc (Nat.le_refl _) _
 have HV0:=hid hv0;have HW0:=hid hw0;have HT:=hid hT;clear hw0 hv0 hT;go_enter Tryz.func60,Tryz.ntmps60;go_upto_region 9 with fail;rw [HW0.out,HT.out];clear HW0;have hmm:=@run_makeMap Tryz.prog;obtain ⟨M,hM⟩:∃M,w0.heap.size=M:=⟨_,rfl⟩;have m0:=World.ownsMap_made (H:=Unit) w0 Tryz.prog 9 R.fieldR;obtain ⟨wm,hwm⟩:∃wm,w0.alloc (.map #[] 0)=wm:=⟨_,rfl⟩;have hbm:Below w0.heap.size w0 wm:=by rw [←hwm];exact (Below.refl _ w0).alloc (Nat.le_refl _) _
 rw [hwm,hM] at m0;have HTM:Hid (T<M):=by have:=Go.lt_of_block HV0.out;show _<_;omega
 have hvm:=(hbm.block T (Go.lt_of_block HV0.out)).trans HV0.out;have hbm:=HB0.out.trans (hbm.mono HB0.out.size);have HWM:=hid hwm;have HMM:=hid hM;have HGM:Hid (w.heap.size≤M):=by have:=HTM.out;have:=HT.out;show _≤_;omega
 have hwm:=HWM.out;have cF:=fld_any 117 wm;clear HWM;go_wp2_with fail;refine cF.mono ?_;rintro e wc ⟨rfl,hb⟩;have m0:=map_below m0 hb;have hvm:=(hb.block T (Go.lt_of_block hvm)).trans hvm;have hbm:=hbm.trans (hb.mono hbm.size);clear hb cF;obtain ⟨w1x,u1,m1,t1⟩:=map_field m0 (by unfold maxLen;omega) ⟨#[119,111,114,107,101,114]⟩ (by decide) true 4 2 (ki:=4) (f:=117) rfl rfl (l:=R.fWorker) rfl;have hv1:=turned_block t1 hvm (by have:=HTM.out;omega);have hb1:=turned_below hbm HGM.out t1;obtain ⟨w2x,u2,m2,t2⟩:=map_field m1 (by unfold maxLen;omega) ⟨#[109,97,120]⟩ (by decide) true 3 3 (ki:=3) (f:=118) rfl rfl (l:=R.fMax) rfl;have hv2:=turned_block t2 hv1 (by have:=HTM.out;omega);have hb2:=turned_below hb1 HGM.out t2;obtain ⟨w3x,u3,m3,t3⟩:=map_field m2 (by unfold maxLen;omega) ⟨#[116,105,99,107,115]⟩ (by decide) true 3 4 (ki:=3) (f:=119) rfl rfl (l:=R.fTicks) rfl;have hv3:=turned_block t3 hv2 (by have:=HTM.out;omega);have hb3:=turned_below hb2 HGM.out t3;have HD:Hid (w3x.ownsMap Tryz.prog 9 R.fieldR M 4 (R.mapD R.fieldD (R.fl 4))):=m3.mono (by decide);have HBE:=hid hb3;have hM:=HMM.out;clear m0 m1 m2 m3 t1 hv1 hb1 t2 hv2 hb2 t3 hv3 hb3 hvm hbm HMM;go_wp2_with fail;go_ret;exact ⟨_,rfl,⟨M,_,rfl,HGM.out,List.Perm.refl _,HD.out⟩,HBE.out⟩
theorem fields_6 (w:World):Calls Tryz.prog 60 #[.int .u8 6] w fun e W=> ∃v,e= .returned v∧MapF W w.heap.size 6 v∧Below w.heap.size w W:=by
 obtain ⟨T,hT⟩:∃T,w.heap.size=T:=⟨_,rfl⟩;obtain ⟨w0,hw0⟩:∃w0,w.alloc (.cells #[.bool false,.int .u8 6,(.func (.func 115) #[] #[])] 154)=w0:=⟨_,rfl⟩;have hv0:w0.heap[T]? =some (.cells #[.bool false,.int .u8 6,(.func (.func 115) #[] #[])] 154 (0,0)):=by rw [←hw0,←hT];exact heap_alloc_new w _
 have HB0:Hid (Below w.heap.size w w0):=by show Below _ _ _;rw [←hw0];exact (Below.refl _ w).alloc (Nat.le_refl _) _
 have HV0:=hid hv0;have HW0:=hid hw0;have HT:=hid hT;clear hw0 hv0 hT;go_enter Tryz.func60,Tryz.ntmps60;go_upto_region 13 with fail;rw [HW0.out,HT.out];clear HW0;have hmm:=@run_makeMap Tryz.prog;obtain ⟨M,hM⟩:∃M,w0.heap.size=M:=⟨_,rfl⟩;have m0:=World.ownsMap_made (H:=Unit) w0 Tryz.prog 9 R.fieldR;obtain ⟨wm,hwm⟩:∃wm,w0.alloc (.map #[] 0)=wm:=⟨_,rfl⟩;have hbm:Below w0.heap.size w0 wm:=by rw [←hwm];exact (Below.refl _ w0).alloc (Nat.le_refl _) _
 rw [hwm,hM] at m0;have HTM:Hid (T<M):=by have:=Go.lt_of_block HV0.out;show _<_;omega
 have hvm:=(hbm.block T (Go.lt_of_block HV0.out)).trans HV0.out;have hbm:=HB0.out.trans (hbm.mono HB0.out.size);have HWM:=hid hwm;have HMM:=hid hM;have HGM:Hid (w.heap.size≤M):=by have:=HTM.out;have:=HT.out;show _≤_;omega
 have hwm:=HWM.out;have cF:=fld_any 117 wm;clear HWM;go_wp2_with fail;refine cF.mono ?_;rintro e wc ⟨rfl,hb⟩;have m0:=map_below m0 hb;have hvm:=(hb.block T (Go.lt_of_block hvm)).trans hvm;have hbm:=hbm.trans (hb.mono hbm.size);clear hb cF;obtain ⟨w1x,u1,m1,t1⟩:=map_field m0 (by unfold maxLen;omega) ⟨#[119,111,114,107,101,114]⟩ (by decide) true 4 2 (ki:=4) (f:=117) rfl rfl (l:=R.fWorker) rfl;have hv1:=turned_block t1 hvm (by have:=HTM.out;omega);have hb1:=turned_below hbm HGM.out t1;have HD:Hid (w1x.ownsMap Tryz.prog 9 R.fieldR M 4 (R.mapD R.fieldD (R.fl 6))):=m1.mono (by decide);have HBE:=hid hb1;have hM:=HMM.out;clear m0 m1 t1 hv1 hb1 hvm hbm HMM;go_wp2_with fail;go_ret;exact ⟨_,rfl,⟨M,_,rfl,HGM.out,List.Perm.refl _,HD.out⟩,HBE.out⟩
theorem fields_7 (w:World):Calls Tryz.prog 60 #[.int .u8 7] w fun e W=> ∃v,e= .returned v∧MapF W w.heap.size 7 v∧Below w.heap.size w W:=by
 obtain ⟨T,hT⟩:∃T,w.heap.size=T:=⟨_,rfl⟩;obtain ⟨w0,hw0⟩:∃w0,w.alloc (.cells #[.bool false,.int .u8 6,(.func (.func 115) #[] #[])] 154)=w0:=⟨_,rfl⟩;have hv0:w0.heap[T]? =some (.cells #[.bool false,.int .u8 6,(.func (.func 115) #[] #[])] 154 (0,0)):=by rw [←hw0,←hT];exact heap_alloc_new w _
 have HB0:Hid (Below w.heap.size w w0):=by show Below _ _ _;rw [←hw0];exact (Below.refl _ w).alloc (Nat.le_refl _) _
 have HV0:=hid hv0;have HW0:=hid hw0;have HT:=hid hT;clear hw0 hv0 hT;go_enter Tryz.func60,Tryz.ntmps60;go_upto_region 15 with fail;rw [HW0.out,HT.out];clear HW0;have hmm:=@run_makeMap Tryz.prog;obtain ⟨M,hM⟩:∃M,w0.heap.size=M:=⟨_,rfl⟩;have m0:=World.ownsMap_made (H:=Unit) w0 Tryz.prog 9 R.fieldR;obtain ⟨wm,hwm⟩:∃wm,w0.alloc (.map #[] 0)=wm:=⟨_,rfl⟩;have hbm:Below w0.heap.size w0 wm:=by rw [←hwm];exact (Below.refl _ w0).alloc (Nat.le_refl _) _
 rw [hwm,hM] at m0;have HTM:Hid (T<M):=by have:=Go.lt_of_block HV0.out;show _<_;omega
 have hvm:=(hbm.block T (Go.lt_of_block HV0.out)).trans HV0.out;have hbm:=HB0.out.trans (hbm.mono HB0.out.size);have HWM:=hid hwm;have HMM:=hid hM;have HGM:Hid (w.heap.size≤M):=by have:=HTM.out;have:=HT.out;show _≤_;omega
 obtain ⟨w1x,u1,m1,t1⟩:=map_field m0 (by unfold maxLen;omega) ⟨#[116,114,105,101,115]⟩ (by decide) false 3 3 (ki:=3) (f:=118) rfl rfl (l:=R.fTries) rfl;have hv1:=turned_block t1 hvm (by have:=HTM.out;omega);have hb1:=turned_below hbm HGM.out t1;have ca_w1x:w1x.cell? ⟨T,0,none⟩=some (.bool false):=rowCell hv1 0;have cb_w1x:w1x.cell? ⟨T,1,none⟩=some (.int .u8 6):=rowCell hv1 1;have cc_w1x:w1x.cell? ⟨T,2,none⟩=some (.func (.func 115) #[] #[]):=rowCell hv1 2;obtain ⟨w2x,u2,m2,t2⟩:=map_field m1 (by unfold maxLen;omega) ⟨#[118,97,114,115]⟩ (by decide) false 6 5 (ki:=6) (f:=115) rfl rfl (l:=R.fVars) rfl;have hv2:=turned_block t2 hv1 (by have:=HTM.out;omega);have hb2:=turned_below hb1 HGM.out t2;have HD:Hid (w2x.ownsMap Tryz.prog 9 R.fieldR M 4 (R.mapD R.fieldD (R.fl 7))):=m2.mono (by decide);have HBE:=hid hb2;have hM:=HMM.out;clear m0 m1 m2 t1 hv1 hb1 t2 hv2 hb2 hvm hbm HMM;have hwm:=HWM.out;clear HWM;go_wp2_with fail;go_ret;exact ⟨_,rfl,⟨M,_,rfl,HGM.out,List.Perm.refl _,HD.out⟩,HBE.out⟩
theorem fields_9 (w:World):Calls Tryz.prog 60 #[.int .u8 9] w fun e W=> ∃v,e= .returned v∧MapF W w.heap.size 9 v∧Below w.heap.size w W:=by
 obtain ⟨T,hT⟩:∃T,w.heap.size=T:=⟨_,rfl⟩;obtain ⟨w0,hw0⟩:∃w0,w.alloc (.cells #[.bool false,.int .u8 6,(.func (.func 115) #[] #[])] 154)=w0:=⟨_,rfl⟩;have hv0:w0.heap[T]? =some (.cells #[.bool false,.int .u8 6,(.func (.func 115) #[] #[])] 154 (0,0)):=by rw [←hw0,←hT];exact heap_alloc_new w _
 have HB0:Hid (Below w.heap.size w w0):=by show Below _ _ _;rw [←hw0];exact (Below.refl _ w).alloc (Nat.le_refl _) _
 have HV0:=hid hv0;have HW0:=hid hw0;have HT:=hid hT;clear hw0 hv0 hT;go_enter Tryz.func60,Tryz.ntmps60;go_upto_region 19 with fail;rw [HW0.out,HT.out];clear HW0;have hmm:=@run_makeMap Tryz.prog;obtain ⟨M,hM⟩:∃M,w0.heap.size=M:=⟨_,rfl⟩;have m0:=World.ownsMap_made (H:=Unit) w0 Tryz.prog 9 R.fieldR;obtain ⟨wm,hwm⟩:∃wm,w0.alloc (.map #[] 0)=wm:=⟨_,rfl⟩;have hbm:Below w0.heap.size w0 wm:=by rw [←hwm];exact (Below.refl _ w0).alloc (Nat.le_refl _) _
 rw [hwm,hM] at m0;have HTM:Hid (T<M):=by have:=Go.lt_of_block HV0.out;show _<_;omega
 have hvm:=(hbm.block T (Go.lt_of_block HV0.out)).trans HV0.out;have hbm:=HB0.out.trans (hbm.mono HB0.out.size);have HWM:=hid hwm;have HMM:=hid hM;have HGM:Hid (w.heap.size≤M):=by have:=HTM.out;have:=HT.out;show _≤_;omega
 have hwm:=HWM.out;have cF:=fld_any 116 wm;clear HWM;go_wp2_with fail;refine cF.mono ?_;rintro e wc ⟨rfl,hb⟩;have m0:=map_below m0 hb;have hvm:=(hb.block T (Go.lt_of_block hvm)).trans hvm;have hbm:=hbm.trans (hb.mono hbm.size);clear hb cF;obtain ⟨w1x,u1,m1,t1⟩:=map_field m0 (by unfold maxLen;omega) ⟨#[110,97,109,101]⟩ (by decide) true 4 0 (ki:=4) (f:=116) rfl rfl (l:=R.fName) rfl;have hv1:=turned_block t1 hvm (by have:=HTM.out;omega);have hb1:=turned_below hbm HGM.out t1;have HD:Hid (w1x.ownsMap Tryz.prog 9 R.fieldR M 4 (R.mapD R.fieldD (R.fl 9))):=m1.mono (by decide);have HBE:=hid hb1;have hM:=HMM.out;clear m0 m1 t1 hv1 hb1 hvm hbm HMM;go_wp2_with fail;go_ret;exact ⟨_,rfl,⟨M,_,rfl,HGM.out,List.Perm.refl _,HD.out⟩,HBE.out⟩
theorem fields_11 (w:World):Calls Tryz.prog 60 #[.int .u8 11] w fun e W=>e= .returned (.map none)∧Below w.heap.size w W:=by
 have HB:Hid (Below w.heap.size w (w.alloc (.cells #[.bool false,.int .u8 6,(.func (.func 115) #[] #[])] 154))):=by show Below _ _ _;exact (Below.refl _ w).alloc (Nat.le_refl _) _
 go_enter Tryz.func60,Tryz.ntmps60;go_wp2_with fail;go_ret;exact ⟨rfl,HB.out⟩
end Go.Proofs.YtohkomndapngjaaGreatDoor

