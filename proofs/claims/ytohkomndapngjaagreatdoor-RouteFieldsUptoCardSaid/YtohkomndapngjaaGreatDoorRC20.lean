/- The walk of the table of bytes that may stand in a name. -/
import Derived.Test.YtohkomndapngjaaGreatDoorProg
import Derived.Test.YtohkomndapngjaaGreatDoorRC1
import Derived.Test.YtohkomndapngjaaGreatDoorRC19
import Derived.WalkKit
import Derived.BigGuardPart
import Derived.Lib.Hide
import Derived.Deep.WholeRow
import Derived.Deep.CutRange
import Derived.Test.YtohkomndapngjaaGreatDoorRC3
import Derived.Test.YtohkomndapngjaaGreatDoorShelfJ
import Derived.Deep.DeepCutAuto
import Derived.Test.YtohkomndapngjaaGreatDoorRC17
import Derived.Test.YtohkomndapngjaaGreatDoorRC4
namespace Go.Proofs.YtohkomndapngjaaGreatDoor
set_option maxRecDepth 100000
set_option maxHeartbeats 16000000
open Go.RowKit Go.Lib
namespace W
def rowOf (f:Nat→Int):Array Value:=((List.range 256).map fun j=>Value.int .u8 (f j)).toArray
theorem rowOf_size (f:Nat→Int):(rowOf f).size=256:=by simp [rowOf]
theorem rowOf_get (f:Nat→Int) (j:Nat) (h:j<256):(rowOf f)[j]? =some (.int .u8 (f j)):=by simp [rowOf,h]
theorem rowOf_set (f:Nat→Int) (i:Nat) (v:Int):(rowOf f).setIfInBounds i (.int .u8 v)=rowOf (fun j=>if j=i then v else f j):=by
 apply Array.ext_getElem?;intro j;rw [Array.getElem?_setIfInBounds];by_cases hj:j<256
 · rw [rowOf_get f j hj,rowOf_get _ j hj,rowOf_size];by_cases h:i=j
   · subst h;simp [hj]
   · rw [if_neg h,if_neg (fun e=>h e.symm)]
 · have h1:(rowOf f)[j]? =none:=by rw [Array.getElem?_eq_none];rw [rowOf_size];omega
   have h2:(rowOf fun j=>if j=i then v else f j)[j]? =none:=by rw [Array.getElem?_eq_none];rw [rowOf_size];omega
   rw [h1,h2,rowOf_size];split
   · simp;omega
   · rfl
theorem rowOf_congr {f g:Nat→Int}(h:∀j,j<256→f j=g j):rowOf f=rowOf g:=by
 apply Array.ext_getElem?;intro j;by_cases hj:j<256
 · rw [rowOf_get f j hj,rowOf_get g j hj,h j hj]
 · rw [Array.getElem?_eq_none (by rw [rowOf_size];omega),Array.getElem?_eq_none (by rw [rowOf_size];omega)]
theorem rowOf_one (f:Nat→Int):(rowOf f).all (·.oneCell')=true:=by
 rw [Array.all_eq_true_iff_forall_mem];intro x hx;simp [rowOf] at hx;obtain ⟨a,_,rfl⟩:=hx;rfl
def tabAt (k m j:Nat):Int:=if (97≤j∧j<97+k)∨(65≤j∧j<65+k) then 2 else if 48≤j∧j<48+m then 1 else 0
def tab (j:Nat):Int:=if letter j then 2 else if other j then 1 else 0
def rowAt (k m:Nat):Array Value:=rowOf (tabAt k m)
def rowTab:Array Value:=rowOf tab
theorem rowAt_letters (k:Nat) (h:k<26):((rowAt k 0).setIfInBounds (97+k) (.int .u8 2)).setIfInBounds (65+k) (.int .u8 2)=rowAt (k+1) 0:=by
 unfold rowAt;rw [rowOf_set,rowOf_set];apply rowOf_congr;intro j hj;unfold tabAt;repeat' split
 all_goals omega
theorem rowAt_digit (m:Nat) (h:m<10):(rowAt 26 m).setIfInBounds (48+m) (.int .u8 1)=rowAt 26 (m+1):=by
 unfold rowAt;rw [rowOf_set];apply rowOf_congr;intro j hj;unfold tabAt;repeat' split
 all_goals omega
theorem rowAt_end:(((rowAt 26 10).setIfInBounds 45 (.int .u8 1)).setIfInBounds 95 (.int .u8 1)).setIfInBounds 46 (.int .u8 1)=rowTab:=by
 unfold rowAt rowTab;rw [rowOf_set,rowOf_set,rowOf_set];apply rowOf_congr;intro j hj;simp only [tabAt,tab,letter,other,Bool.or_eq_true,decide_eq_true_eq];repeat' split
 all_goals omega
theorem rowAt_size (k m:Nat):(rowAt k m).size=256:=rowOf_size _
theorem rowTab_size:rowTab.size=256:=rowOf_size _
theorem rowTab_one:rowTab.all (·.oneCell')=true:=rowOf_one _
theorem rowTab_get (j:Nat) (h:j<256):rowTab[j]? =some (.int .u8 (tab j)):=rowOf_get _ j h
theorem rowAt_get (k m j:Nat) (h:j<256):(rowAt k m)[j]? =some (.int .u8 (tabAt k m j)):=rowOf_get _ j h
end W
theorem zero44:Tryz.zeroCells181=W.rowAt 0 0:=by kernel_rfl
theorem info44:(Tryz.prog.info? 181).map (·.size)=some 256:=by kernel_rfl
theorem table_any (w:World):
  Calls Tryz.prog 92 #[] w fun e w'=>e= .returned (.agg W.rowTab)∧w'=w.alloc (.cells W.rowTab 181):=by
 go_enter Tryz.func92,Tryz.ntmps92;go_wp2;rw [zero44];go_loopw [3] (fun i wr=> ∃k:Nat,k≤26∧i= .int .i64 k∧wr=w.alloc (.cells (W.rowAt k 0) 181)) (fun i _=>26-(Go.RowKit.intOf i).toNat)
 case atStart=>exact ⟨0,by omega,rfl,rfl⟩
 case round=>
  obtain ⟨k,hk,rfl,rfl⟩:=hrel;by_cases hlt:k<26
  · have g1:=W.rowAt_get k 0 (97+k) (by omega);have g2:=W.rowAt_get k 0 (65+k) (by omega);have hs:=Lib.hid (W.rowAt_letters k hlt);go_wp2;go_roundw
    case rel=>exact ⟨k+1,by omega,by go_num,by rw [←hs.out]⟩
    case measure=>simp [Go.RowKit.intOf];omega
  · obtain rfl:k=26:=by omega
    go_wp2;go_loopw [13] (fun i wr=> ∃k:Nat,k≤10∧i= .int .i64 k∧wr=w.alloc (.cells (W.rowAt 26 k) 181)) (fun i _=>10-(Go.RowKit.intOf i).toNat)
    case atStart=>exact ⟨0,by omega,rfl,rfl⟩
    case round=>
     obtain ⟨k,hk,rfl,rfl⟩:=hrel;by_cases hlt:k<10
     · have g1:=W.rowAt_get 26 k (48+k) (by omega);have hs:=Lib.hid (W.rowAt_digit k hlt);go_wp2;go_roundw
       case rel=>exact ⟨k+1,by omega,by go_num,by rw [←hs.out]⟩
       case measure=>simp [Go.RowKit.intOf];omega
     · obtain rfl:k=10:=by omega
       have g1:=W.rowAt_get 26 10 45 (by omega);have g2:=W.rowAt_get 26 10 46 (by omega);have g3:=W.rowAt_get 26 10 95 (by omega);have hs:=Lib.hid W.rowAt_end;go_upto_region 12 with fail;rw [hs.out];apply wp_region_lit;refine wpList_load_row rfl 181 (.tmp 0) rfl w.heap.size rfl 181 W.rowTab (0,0) (.array 256 5) (heap_alloc_last w _) Tryz.underlying181 rfl (by rw [W.rowTab_size];exact info44) ?_;refine wpList_store_row rfl 181 (.tmp 0) (.tmp 23) rfl w.heap.size W.rowTab rfl rfl 181 W.rowTab (heap_alloc_last w _) (by rw [W.rowTab_size];exact info44) rfl W.rowTab_one ?_;rw [World.setRow_alloc_new];go_wp2;exact bodyPost_ret (v:= .agg W.rowTab) (results_cell_row rfl _ _ w.heap.size 181 W.rowTab (0,0) (.array 256 5) rfl (heap_alloc_last w _) Tryz.underlying181 rfl (by rw [W.rowTab_size];exact info44)) rfl ⟨rfl,rfl⟩
namespace W
theorem tab_zero (n:Nat) (h:(letter n||other n)=true):(tab n==0)=false:=by
 unfold tab;cases h1:letter n<;>cases h2:other n<;>simp_all
theorem tab_some (n:Nat) (h:(letter n||other n)=false):(tab n==0)=true:=by
 unfold tab;cases h1:letter n<;>cases h2:other n<;>simp_all
theorem tab_two (n:Nat):(tab n==2)=letter n:=by
 unfold tab;cases h1:letter n<;>cases h2:other n<;>simp_all
end W
theorem name_any (s:ByteArray) (w:World) (hs:s.size≤9223372036854775807):
   Calls Tryz.prog 50 #[.string s] w fun e w'=>e= .returned (.bool (W.nameB s.data.toList))∧Below w.heap.size w w':=by
 by_cases h:1≤s.size∧s.size≤32
 · rw [W.nameB_of s h];obtain ⟨h1,h2⟩:=h;have hl0:((s.size:Int)==0)=false:=beq_eq_false_iff_ne.2 (by omega);have hl1:¬ ((32:Int)<(s.size:Int)):=by omega
   have hsz:W.rowTab.size=256:=W.rowTab_size;have hst:(storeCells ⟨w.heap.size+1,0,none⟩ W.rowTab.toList 0).run Tryz.prog ((w.alloc (.cells W.rowTab 181)).alloc (.cells Tryz.zeroCells181 181))= .ok () ((w.alloc (.cells W.rowTab 181)).alloc (.cells W.rowTab 181)):=by
     have:=run_storeCells_new (P:=Tryz.prog) (w.alloc (.cells W.rowTab 181)) 181 Tryz.zeroCells181 W.rowTab (by rw [W.rowTab_size];exact info44) (by rw [zero44,W.rowAt_size,W.rowTab_size]) W.rowTab_one;simpa using this
   go_enter Tryz.func50,Tryz.ntmps50;go_wp2_with (go_at_call 92;refine (table_any _).mono ?_;rintro e w' ⟨rfl,rfl⟩);go_loop [16] (fun i=> ∃k:Nat,k≤s.size∧i= .int .i64 k∧W.okAll s.data.toList=W.okAll (s.data.toList.drop k)) (fun i=>s.size-(Go.RowKit.intOf i).toNat)
   case atStart=>exact ⟨0,by omega,rfl,rfl⟩
   case round=>
     clear hst hsz;obtain ⟨k,hk,rfl,hrl⟩:=hrel;have hR:=Lib.hid hrl;clear hrl;by_cases hlt:k<s.size
     · have hb:s[k].toNat<256:=s[k].toNat_lt;have g1:=W.rowTab_get s[k].toNat hb;cases hc:(W.letter s[k].toNat||W.other s[k].toNat)
       · have hF:=Lib.hid (show W.standsAll 0 s.data.toList=false by
          rw [W.stands_first s h1,hR.out,W.ok_round s k hlt,hc];simp)
         have ht:=W.tab_some _ hc;clear hc;go_wp2;go_ret;exact ⟨ret_bool hF.out.symm,((Below.refl _ _).alloc (Nat.le_refl _) _).alloc (by simp) _⟩
       · have hF:=Lib.hid (show W.okAll s.data.toList=W.okAll (s.data.toList.drop (k+1)) by
          rw [hR.out,W.ok_round s k hlt,hc];simp)
         have ht:=W.tab_zero _ hc;clear hc;go_wp2;go_round
         case rel=>exact ⟨_,by omega,by go_num,hF.out⟩
         case measure=>simp [Go.RowKit.intOf];omega
     · obtain rfl:k=s.size:=by omega
       have h00:0<s.size:=h1;have hb:s[0].toNat<256:=s[0].toNat_lt;have g1:=W.rowTab_get s[0].toNat hb;have hF:=Lib.hid (show W.standsAll 0 s.data.toList=(W.tab s[0].toNat==2) by
          rw [W.stands_first s h1,hR.out,W.ok_end s,W.tab_two];simp)
       go_wp2;go_ret;exact ⟨ret_bool hF.out.symm,((Below.refl _ _).alloc (Nat.le_refl _) _).alloc (by simp) _⟩
 · rw [W.nameB_len s h];by_cases h0:s.size=0
   · have hl0:((s.size:Int)==0)=true:=beq_iff_eq.2 (by omega);go_enter Tryz.func50,Tryz.ntmps50;go_wp2_with fail;go_ret;exact ⟨rfl,Below.refl _ _⟩
   · have hl0:((s.size:Int)==0)=false:=beq_eq_false_iff_ne.2 (by omega);have hl1:(32:Int)<(s.size:Int):=by omega
     go_enter Tryz.func50,Tryz.ntmps50;go_wp2_with fail;go_ret;exact ⟨rfl,Below.refl _ _⟩
end Go.Proofs.YtohkomndapngjaaGreatDoor
namespace Go.Proofs.YtohkomndapngjaaGreatDoor
set_option maxRecDepth 100000
set_option maxHeartbeats 16000000
open Go.RowKit Go.Maps
open Go.Lib (hid)
structure EnvR (w:World):Prop where
 e:Errs w
 p:Y.Pows w
 z:2<w.heap.size
 m:∃m,w.cell? ⟨3,0,none⟩=some (.int .i64 m)
theorem EnvR.under {w w':World}(h:EnvR w) (hb:Below w.heap.size w w'):EnvR w':=by
 obtain ⟨m,hm⟩:=h.m;refine ⟨Errs.keep h.e hb,Y.Pows.below h.p hb h.z,Nat.lt_of_lt_of_le h.z hb.size,m,?_⟩;rw [World.cell?_of_block (w:=w) (hb.block _ (World.block_lt_of_cell? _ _ hm))];exact hm
def FindOf (x:Option R.Found) (w:World) (e:Ending) (W:World):Prop:=
 e= .returned (match x with
  | none=> .tuple #[.agg #[.int .u8 0,.int .u8 0],.int .i64 0,.string ⟨#[]⟩,.bool false]
  | some f=> .tuple #[.agg #[.int .u8 f.get,.int .u8 f.post],.int .i64 f.id,.string f.name,.bool true])∧Below w.heap.size w W
structure Wd (w:World) (B:Nat) (ws:List ByteArray) (W:World):Prop where
 v:W.heap[B]? =some (.cells (ws.map Value.string).toArray 9 (0,0))
 b:Below w.heap.size w W
 n:w.heap.size≤B
theorem Wd.cell {w W:World}{B:Nat}{ws:List ByteArray}(h:Wd w B ws W) {j:Nat}{x:ByteArray}(hx:ws[j]? =some x):W.cell? ⟨B,j,none⟩=some (.string x):=by
 rw [Lib.cell_of_heap h.v];simp [hx]
theorem Wd.under {w W W':World}{B:Nat}{ws:List ByteArray}(h:Wd w B ws W) (hb:Below W.heap.size W W'):Wd w B ws W':=
 ⟨(hb.block B (Go.lt_of_block h.v)).trans h.v,h.b.trans (hb.mono h.b.size),h.n⟩
theorem Wd.put {w W:World}{B:Nat}{a b x:ByteArray}{r:List ByteArray}(h:Wd w B (a::b::r) W):Wd w B (a::x::r) (W.setCell ⟨B,1,none⟩ (.string x)):=by
 refine ⟨?_,h.b.setCell (p:=⟨B,1,none⟩) h.n _,h.n⟩;rw [row_set h.v 1 (.string x)];rfl
theorem box_far {W:World}{P B i:Nat}{o:Obj}{v:Value}(h:W.heap[P]? =some o) (hn:P≠B):(W.setCell ⟨B,i,none⟩ v).heap[P]? =some o:=by
 rw [heap_setCell_other W ⟨B,i,none⟩ P v hn];exact h
theorem set_pair {W:World}{P:Nat}{x y a b:Value}{T:TypeId}(h:W.heap[P]? =some (.cells #[x,y] T (0,0))):((W.setCell ⟨P,0,none⟩ a).setCell ⟨P,1,none⟩ b).heap[P]? =some (.cells #[a,b] T (0,0)):=by
 have h1:=row_set h 0 a;have h2:=row_set h1 1 b;exact h2
theorem results_quad {P:Program}{fn:Func}{p q r o:Tmp}{ty:TypeId}(h:fn.results= #[.cell p ty,.tmp q,.tmp r,.tmp o]) (tmps:Array Value) (w:World) (g:Nat) (t:TypeId) (cs:Array Value) (fr:Nat×Nat) (d:TypeDesc) (v u x:Value)
  (hp:tmps.getD p undef= .pointer (some ⟨g,0,none⟩)) (hg:w.heap[g]? =some (.cells cs t fr)) (hq:tmps.getD q undef=v) (hr:tmps.getD r undef=u) (ho:tmps.getD o undef=x)
  (hu:P.underlying ty=some d) (hd:(match d with| .struct _| .array _ _=>true|_=>false)=true) (hi:(P.info? ty).map (·.size)=some cs.size):
  (results fn tmps).run P w= .ok (.tuple #[.agg cs,v,u,x]) w:=by
 have hp':tmps[p]?.getD undef= .pointer (some ⟨g,0,none⟩):=by simpa using hp
 have hq':tmps[q]?.getD undef=v:=by simpa using hq
 have hr':tmps[r]?.getD undef=u:=by simpa using hr
 have ho':tmps[o]?.getD undef=x:=by simpa using ho
 simp [results,h,hp',hq',hr',ho',asAddr,run_loadVar_row w g t ty cs fr d hg hu hd hi]
theorem infoPlace:(Tryz.prog.info? 73).map (·.size)=some 2:=by kernel_rfl
theorem find_none {w W:World}{P:Nat}{tmps:Array Value}{RES:Option R.Found}(h2:tmps.getD 2 undef= .pointer (some ⟨P,0,none⟩)) (h3:tmps.getD 3 undef= .int .i64 0) (h4:tmps.getD 4 undef= .string ⟨#[]⟩) (h5:tmps.getD 5 undef= .bool false)
   (hP:W.heap[P]? =some (.cells #[.int .u8 0,.int .u8 0] 73 (0,0))) (hb:Below w.heap.size w W) (hR:none=RES):
   bodyPost Tryz.prog Tryz.f15 (FindOf RES w) .ret ⟨tmps,[]⟩ W:=by
 refine bodyPost_ret (v:= .tuple #[.agg #[.int .u8 0,.int .u8 0],.int .i64 0,.string ⟨#[]⟩,.bool false]) ?_ rfl ?_
 · exact results_quad rfl tmps W P 73 #[.int .u8 0,.int .u8 0] (0,0) _ _ _ _ h2 hP h3 h4 h5 Tryz.underlying73 rfl infoPlace
 subst hR;exact ⟨rfl,hb⟩
theorem find_some {w W:World}{P:Nat}{tmps:Array Value}{RES:Option R.Found}{f:R.Found}(h2:tmps.getD 2 undef= .pointer (some ⟨P,0,none⟩)) (h3:tmps.getD 3 undef= .int .i64 f.id) (h4:tmps.getD 4 undef= .string f.name) (h5:tmps.getD 5 undef= .bool true)
   (hP:W.heap[P]? =some (.cells #[.int .u8 f.get,.int .u8 f.post] 73 (0,0))) (hb:Below w.heap.size w W) (hR:some f=RES):
   bodyPost Tryz.prog Tryz.f15 (FindOf RES w) .ret ⟨tmps,[]⟩ W:=by
 refine bodyPost_ret (v:= .tuple #[.agg #[.int .u8 f.get,.int .u8 f.post],.int .i64 f.id,.string f.name,.bool true]) ?_ rfl ?_
 · exact results_quad rfl tmps W P 73 #[.int .u8 f.get,.int .u8 f.post] (0,0) _ _ _ _ h2 hP h3 h4 h5 Tryz.underlying73 rfl infoPlace
 subst hR;exact ⟨rfl,hb⟩
namespace R
theorem split_small:∀(k:Nat) (s:ByteArray),∀x∈Lib.splitB slash 0 k s,x.size≤s.size
 | 0,s,x,h=>by rw [Lib.splitB_zero] at h;rw [List.mem_singleton.1 h];exact Nat.le_refl _
 | k+1,s,x,h=>by
   unfold Lib.splitB at h
   split at h
   · rw [List.mem_singleton.1 h];exact Nat.le_refl _
   · rcases List.mem_cons.1 h with rfl|h
     · simp only [ByteArray.size_extract];omega
     · have:=split_small k _ x h
       simp only [ByteArray.size_extract] at this
       omega
theorem lens_le (n:Nat):∀(xs:List (List UInt8)),(∀x∈xs,x.length≤n)→Lib.lens xs≤n*xs.length
 | [],_=>by simp [Lib.lens]
 | x::xs,h=>by
   have ih:=lens_le n xs (fun y hy=>h y (by simp [hy]))
   have hx:=h x (by simp)
   simp only [Lib.lens,List.map_cons,List.sum_cons,List.length_cons] at ih ⊢
   rw [Nat.mul_succ];omega
theorem join_small (n:Nat) (ws:List ByteArray) (h:∀x∈ws,x.size≤n):(joined ws).length≤(n+1)*ws.length:=by
 unfold joined;cases ws with
 | nil=>simp [Lib.join_nil]
 | cons a r=>
   rw [List.map_cons,Lib.join_cons,List.length_append,Lib.joinTail_length];have h1:=lens_le n (r.map (·.data.toList)) (by
    intro x hx;obtain ⟨y,hy,rfl⟩:=List.mem_map.1 hx;exact h y (by simp [hy]))
   have h2:a.data.toList.length≤n:=h a (by simp);simp only [List.length_map,List.length_cons,List.length_nil] at h1 ⊢;have e:(n+1)*(r.length+1)=n*r.length+r.length+(n+1):=by rw [Nat.mul_succ,Nat.add_mul,Nat.one_mul]
   omega
theorem turned_len (ws:List ByteArray):(turned ws).1.length=ws.length:=by
 unfold turned;split
 · split
   · split<;>rfl
   · split<;>rfl
 · rfl
theorem turned_small (n:Nat) (hn:1≤n) (ws:List ByteArray) (h:∀x∈ws,x.size≤n):∀x∈(turned ws).1,x.size≤n:=by
 unfold turned;split
 · rename_i a b r;have hM:∀t:ByteArray,t.size=1→∀x∈a::t::r,x.size≤n:=fun t ht x hx=>by
     simp only [List.mem_cons] at hx;rcases hx with rfl|rfl|hx
     · exact h _ (by simp)
     · omega
     · exact h _ (by simp [hx])
   split
   · split
     · exact hM tM rfl
     · exact hM tN rfl
   · split
     · exact hM tM rfl
     · exact h
 · exact h
end R
theorem find_any (path:ByteArray) (hp:path.size≤100000) (w:World) (hE:EnvR w):
   Calls Tryz.prog 15 #[.string path] w (FindOf (R.find path) w):=by
 have HE:=hid hE;obtain ⟨p0,hp0⟩:∃b,Lib.hasPrefix path.data.toList [47]=b:=⟨_,rfl⟩;obtain ⟨RES,hR⟩:∃r,R.find path=r:=⟨_,rfl⟩;obtain ⟨w0,hw0⟩:∃w0,w.alloc (.cells #[.int .u8 0,.int .u8 0] 73)=w0:=⟨_,rfl⟩;obtain ⟨P,hP⟩:∃P,w.heap.size=P:=⟨_,rfl⟩;have HP0:Hid (w0.heap[P]? =some (.cells #[.int .u8 0,.int .u8 0] 73 (0,0))):=by show _=_;rw [←hw0,←hP];exact heap_alloc_new w _
 have HB0:Hid (Below w.heap.size w w0):=by show Below _ _ _;rw [←hw0];exact (Below.refl _ w).alloc (Nat.le_refl _) _
 have HE0:=hid (HE.out.under HB0.out);have HW0:=hid hw0;have HPP:=hid hP;have cC:=Tryz.strings_CutPrefix path ⟨#[47]⟩ w0;rw [show (⟨#[47]⟩:ByteArray).data.toList= [47] from rfl,hp0] at cC;have HR:Hid ((if p0=true then
   match R.lookL R.places (R.joined (R.turned (R.words (R.cut path))).1) with
   | none=>none
   | some g=>if (R.turned (R.words (R.cut path))).2.2.2=true then some ⟨g.1,g.2,(R.turned (R.words (R.cut path))).2.1,(R.turned (R.words (R.cut path))).2.2.1⟩ else none
   else none:Option R.Found)=RES):=by show _=_;rw [←hR,R.find,hp0];rfl
 rw [hR];have hcs:(R.cut path).size≤100000:=by
   have e1:(R.cut path).size=(Lib.trimPrefix path.data.toList [47]).length:=rfl;have e2:path.data.toList.length=path.size:=rfl;rw [e1];unfold Lib.trimPrefix;split
   · rw [List.length_drop];omega
   · omega
 obtain ⟨s,hs⟩:∃s,R.cut path=s:=⟨_,rfl⟩;rw [show (⟨(Lib.trimPrefix path.data.toList [47]).toArray⟩:ByteArray)=s from hs] at cC;rw [hs] at HR hcs;clear hE hp0 hR hs hw0 hP;go_enter Tryz.func15,Tryz.ntmps15;go_upto_region 1 with fail;rw [HW0.out,HPP.out];go_wp2_with fail;refine cC.mono ?_;rintro e w1 ⟨rfl,hw⟩;obtain rfl:w0=w1:=hw.symm;clear hw cC HW0;cases p0 with
 | false=>
   have HR:Hid (none=RES):=HR;have x0:w0.cell? ⟨P,0,none⟩=some (.int .u8 0):=rowCell HP0.out 0;have x1:w0.cell? ⟨P,1,none⟩=some (.int .u8 0):=rowCell HP0.out 1;have y0:=rowFree HP0.out 0;have y1:=rowFree HP0.out 1;go_wp2_with fail;exact find_none rfl rfl rfl rfl (set_pair HP0.out) ((HB0.out.setCell (p:=⟨P,0,none⟩) (Nat.le_of_eq HPP.out) _).setCell (p:=⟨P,1,none⟩) (Nat.le_of_eq HPP.out) _) HR.out
 | true=>
   obtain ⟨m,hm⟩:=(HE0.out).m;have cS:=Tryz.strings_Split s ⟨#[47]⟩ m w0 (by omega) hm (by decide);obtain ⟨ws,hws⟩:∃ws,R.words s=ws:=⟨_,rfl⟩;have hL:=Lib.splitB_all R.slash (by decide) 0 (Lib.countB s R.slash) s rfl;have hsm:=R.split_small (Lib.countB s R.slash) s;have hcl:=Lib.countB_le R.slash (by decide) s.size s (Nat.le_refl _);rw [show Lib.splitB R.slash 0 (Lib.countB s R.slash) s=ws from hws] at hL hsm;rw [show Lib.splitB ⟨#[47]⟩ 0 (Lib.countB s ⟨#[47]⟩) s=ws from hws,show Lib.countB s ⟨#[47]⟩+1=ws.length from hL.symm] at cS;obtain ⟨L,hLL⟩:∃L,ws.length=L:=⟨_,rfl⟩;rw [hLL] at cS;have hLs:L≤100001:=by omega
   obtain ⟨B,hB⟩:∃B,w0.heap.size=B:=⟨_,rfl⟩;rw [hB] at cS;rw [hws] at HR;obtain ⟨w2,hw2⟩:∃w2,w0.alloc (.cells (ws.map Value.string).toArray 9)=w2:=⟨_,rfl⟩;have HD2:Hid (Wd w B ws w2):=by
     show Wd _ _ _ _;refine ⟨?_,?_,?_⟩
     · rw [←hw2,←hB];exact heap_alloc_new w0 _
     · rw [←hw2];exact HB0.out.alloc HB0.out.size _
     · rw [←hB];exact HB0.out.size
   have HP2:Hid (w2.heap[P]? =some (.cells #[.int .u8 0,.int .u8 0] 73 (0,0))):=by
     show _=_;rw [←hw2,Lib.alloc_old _ _ _ (by have:=Go.lt_of_block HP0.out;omega)];exact HP0.out
   have hE2:EnvR w2:=by rw [←hw2];exact HE0.out.under ((Below.refl _ w0).alloc (Nat.le_refl _) _)
   have HSM:=hid hsm;have HLL:=hid hLL;have HE2:=hid (hE2:EnvR w2);rw [hw2] at cS;clear hm hws hL hsm hcl hB hw2 hLL hE2;go_wp2_with fail;refine cS.mono ?_;rintro e w3 ⟨rfl,hw⟩;obtain rfl:w2=w3:=hw.symm;clear cS hw;go_upto_region 5 with fail;go_cut [33] (fun s33 wc=>s33= .bool (R.inner ws)∧wc=w2)
   case first=>
     have hL0:=HLL.out;match ws,hL0 with
     | [],h=>
       have h:0=L:=h;subst h;go_wp2_with fail;go_meet;exact ⟨rfl,rfl⟩
     | [a],h=>
       have h:1=L:=h;subst h;go_wp2_with fail;go_meet;exact ⟨rfl,rfl⟩
     | [a,b],h=>
       have h:2=L:=h;subst h;have z1:=HD2.out.cell (j:=1) (x:=b) rfl;by_cases hb:b.data.toList=R.tFetch
       · have hq:(b.toList== [102,101,116,99,104])=true:=by rw [Lib.toList_data,hb];rfl
         have hi:R.inner [a,b]=false:=by simp [R.inner,hb]
         go_wp2_with fail;go_meet;exact ⟨by rw [hi],rfl⟩
       · have hq:(b.toList== [102,101,116,99,104])=false:=by rw [Lib.toList_data];exact beq_eq_false_iff_ne.2 hb
         have hi:R.inner [a,b]=true:=by simp [R.inner,hb]
         go_wp2_with fail;go_meet;exact ⟨by rw [hi],rfl⟩
     | a::b::c::r,h=>
       have h:r.length+3=L:=h;have z1:=HD2.out.cell (j:=1) (x:=b) rfl;have g1:(1:Int)<(L:Int):=by omega
       have g2:(2:Int)<(L:Int):=by omega
       have hi:R.inner (a::b::c::r)=true:=by simp [R.inner]
       by_cases hb:b.data.toList=R.tFetch
       · have hq:(b.toList== [102,101,116,99,104])=true:=by rw [Lib.toList_data,hb];rfl
         go_wp2_with fail;go_meet;exact ⟨by rw [hi],rfl⟩
       · have hq:(b.toList== [102,101,116,99,104])=false:=by rw [Lib.toList_data];exact beq_eq_false_iff_ne.2 hb
         go_wp2_with fail;go_meet;exact ⟨by rw [hi],rfl⟩
   case rest=>
     obtain ⟨rfl,hwc⟩:=hcut;obtain rfl:w2=wc:=hwc.symm;go_upto_if 33 with fail;go_cut [3,4,5] (fun s3 s4 s5 wc=> ∃id nm ok ws',s3= .int .i64 id∧s4= .string nm∧s5= .bool ok∧Hid (R.turned ws=(ws',id,nm,ok)∧Wd w B ws' wc∧wc.heap[P]? =some (.cells #[.int .u8 0,.int .u8 0] 73 (0,0))))
     case first=>
       cases hin:R.inner ws with
       | true=>
         obtain ⟨a,b,r,rfl⟩:∃a b r,ws=a::b::r:=by
           match ws,hin with
           | a::b::r,_=>exact ⟨a,b,r,rfl⟩
         have hbr:b.data.toList≠R.tFetch∨r≠ []:=of_decide_eq_true hin;have hLr:r.length+2=L:=HLL.out;have g0:(0:Int)<(L:Int):=by omega
         have g1:(1:Int)<(L:Int):=by omega
         have k0:0<L:=by omega
         have k1:1<L:=by omega
         have z0:=HD2.out.cell (j:=0) (x:=a) rfl;have z1:=HD2.out.cell (j:=1) (x:=b) rfl;have hbs:=HSM.out b (by simp);have hPB:P≠B:=fun e=>by have:=HD2.out.v;have h2:=HP2.out;rw [e,this] at h2;simp at h2
         by_cases ha:a.data.toList=R.tModels
         · have hq:(a.toList== [109,111,100,101,108,115])=true:=by rw [Lib.toList_data,ha];rfl
           have ht:R.turned (a::b::r)=(a::R.tM::r,0,b,W.nameB b.data.toList):=by
             show (if _ then _ else _)=_;rw [if_pos hbr,if_pos ha]
           go_upto_region 7 with fail;generalize hdr:World.drew w2=y0;have HY:Hid (Wd w B (a::b::r) y0):=by show Wd _ _ _ _;rw [←hdr];exact HD2.out.under (Below.refl _ w2).drew
           have HPY:Hid (y0.heap[P]? =some (.cells #[.int .u8 0,.int .u8 0] 73 (0,0))):=by show _=_;rw [←hdr];exact HP2.out
           have z1:=HY.out.cell (j:=1) (x:=b) rfl;have cN:=name_any b y0 (by omega);go_region_with (go_at_call 50;refine cN.mono ?_;rintro e w4 ⟨rfl,hb⟩;(have HY4:=hid (HY.out.under hb));(have HP4:=hid ((hb.block P (Go.lt_of_block HPY.out)).trans HPY.out));(have z4:=HY4.out.cell (j:=1) (x:=b) rfl);(have f4:=rowFree HY4.out.v 1);clear hb)
           all_goals (go_wp2_with fail;go_meet;exact ⟨0,b,_,_,rfl,rfl,rfl,ht,HY4.out.put,box_far HP4.out hPB⟩)
         · have hq:(a.toList== [109,111,100,101,108,115])=false:=by rw [Lib.toList_data];exact beq_eq_false_iff_ne.2 ha
           have cW:=Y.parse_any b w2 (by omega) HE2.out.e HE2.out.p HE2.out.z;have ht:R.turned (a::b::r)=(a::R.tN::r,(W.parseW b.data.toList).1,⟨#[]⟩,(W.parseW b.data.toList).2&&decide (1≤(W.parseW b.data.toList).1∧(W.parseW b.data.toList).1≤2147483647)):=by
             show (if _ then _ else _)=_;rw [if_pos hbr,if_neg ha]
           obtain ⟨n,hn⟩:∃n,(W.parseW b.data.toList).1=n:=⟨_,rfl⟩;obtain ⟨q,hq2⟩:∃n,(W.parseW b.data.toList).2=n:=⟨_,rfl⟩;rw [hn,hq2] at ht cW;clear hn hq2;go_wp2_with fail;refine cW.mono ?_;rintro e w4 ⟨rfl,hb⟩;have HY4:=hid (HD2.out.under hb);have HP4:=hid ((hb.block P (Go.lt_of_block HP2.out)).trans HP2.out);have z4:=HY4.out.cell (j:=1) (x:=b) rfl;have f4:=rowFree HY4.out.v 1;clear hb cW z0 z1;have HT:=hid ht;clear ht;cases q with
           | false=>
             go_wp2_with fail;go_meet;exact ⟨n,_,_,_,rfl,rfl,rfl,HT.out,HY4.out.put,box_far HP4.out hPB⟩
           | true=>
             by_cases h1:1≤n
             · by_cases h2:n≤2147483647
               · have e2:decide (1≤n∧n≤2147483647)=true:=decide_eq_true ⟨h1,h2⟩;go_wp2_with fail;go_meet;exact ⟨n,_,true,_,rfl,rfl,rfl,by rw [HT.out,e2];rfl,HY4.out.put,box_far HP4.out hPB⟩
               · have e2:decide (1≤n∧n≤2147483647)=false:=decide_eq_false (fun h=>h2 h.2);go_wp2_with fail;go_meet;exact ⟨n,_,false,_,rfl,rfl,by rw [decide_eq_false (show ¬ n≤2147483647 by omega)],by rw [HT.out,e2];rfl,HY4.out.put,box_far HP4.out hPB⟩
             · have e2:decide (1≤n∧n≤2147483647)=false:=decide_eq_false (fun h=>h1 h.1);go_wp2_with fail;go_meet;exact ⟨n,_,false,_,rfl,rfl,rfl,by rw [HT.out,e2];rfl,HY4.out.put,box_far HP4.out hPB⟩
       | false=>
         have hL0:=HLL.out;match ws,hL0,hin with
         | [],h,_=>
           have h:0=L:=h;subst h;go_wp2_with fail;go_meet;exact ⟨0,_,true,_,rfl,rfl,rfl,rfl,HD2.out,HP2.out⟩
         | [a],h,_=>
           have h:1=L:=h;subst h;go_wp2_with fail;go_meet;exact ⟨0,_,true,_,rfl,rfl,rfl,rfl,HD2.out,HP2.out⟩
         | a::b::r,h,hin=>
           have hbr:¬ (b.data.toList≠R.tFetch∨r≠ []):=of_decide_eq_false hin;have hLr:r.length+2=L:=h;have g0:(0:Int)<(L:Int):=by omega
           have g1:(1:Int)<(L:Int):=by omega
           have k0:0<L:=by omega
           have k1:1<L:=by omega
           have z0:=HD2.out.cell (j:=0) (x:=a) rfl;have z1:=HD2.out.cell (j:=1) (x:=b) rfl;have f1:=rowFree HD2.out.v 1;have hPB:P≠B:=fun e=>by have:=HD2.out.v;have h2:=HP2.out;rw [e,this] at h2;simp at h2
           by_cases ha:a.data.toList=R.tModels
           · have hq:(a.toList== [109,111,100,101,108,115])=true:=by rw [Lib.toList_data,ha];rfl
             have HT:Hid (R.turned (a::b::r)=(a::R.tM::r,0,b,true)):=by
               show (if _ then _ else _)=_;rw [if_neg hbr,if_pos ha]
             clear hbr ha hin;go_wp2_with fail;go_meet;exact ⟨0,_,true,_,rfl,rfl,rfl,HT.out,HD2.out.put,box_far HP2.out hPB⟩
           · have hq:(a.toList== [109,111,100,101,108,115])=false:=by rw [Lib.toList_data];exact beq_eq_false_iff_ne.2 ha
             have HT:Hid (R.turned (a::b::r)=(a::b::r,0,⟨#[]⟩,true)):=by
               show (if _ then _ else _)=_;rw [if_neg hbr,if_neg ha]
             clear hbr ha hin;go_wp2_with fail;go_meet;exact ⟨0,_,true,_,rfl,rfl,rfl,HT.out,HD2.out,HP2.out⟩
     case rest=>
       obtain ⟨id,nm,ok,ws',rfl,rfl,rfl,hC⟩:=hcut;obtain ⟨hT,HD,HPw⟩:=hC.out;have HDW:=hid HD;have HPW:=hid HPw;have hl':ws'.length=L:=by have:=R.turned_len ws;rw [hT] at this;rw [this];exact HLL.out
       have hsm':∀x∈ws',x.size≤100001:=by
         have:=R.turned_small 100001 (by omega) ws (fun x hx=>Nat.le_trans (HSM.out x hx) (by omega));rw [hT] at this;exact this
       have hj:(R.joined ws').length≤100002*100001:=Nat.le_trans (R.join_small 100001 ws' hsm') (Nat.mul_le_mul_left _ (by omega));have cP:=places_any wc;have HT:=hid hT;have HJ:=hid hj;have HL':=hid hl';clear hT HD HPw hl' hsm' hj hC HD2 HP2;go_wp2_with fail;refine cP.mono ?_;rintro e w4 ⟨rfl,hM,hb⟩;have HD4:=hid (HDW.out.under hb);have HP4:=hid ((hb.block P (Go.lt_of_block HPW.out)).trans HPW.out);have HM:=hid hM;have cJ:=Tryz.strings_Join B 0 L ws' ⟨#[47]⟩ w4 (fun j x hx=>by rw [Nat.zero_add];exact HD4.out.cell hx) (Go.lt_of_block HD4.out.v) (by have:=HL'.out;omega) (by have:=HL'.out;omega) (by have:=HJ.out;unfold R.joined at this;exact Nat.le_trans this (by decide));rw [HL'.out] at cJ;obtain ⟨M,hMM⟩:∃M,wc.heap.size=M:=⟨_,rfl⟩;rw [hMM] at HM ⊢;clear hb cP hM hMM;go_wp2_with fail;refine cJ.mono ?_;rintro e w5 ⟨rfl,hb⟩;have HD5:=hid (HD4.out.under hb);have HP5:=hid ((hb.block P (Go.lt_of_block HP4.out)).trans HP4.out);have hM5:=map_below HM.out hb;obtain ⟨v,ps,hlk,hv⟩:=hM5.look_ok lawS Tryz.underlying133 (zeroPlace w5) (rfl:R.placeR (.agg #[.int .u8 0,.int .u8 0])=some (R.placeD (0,0),[])) (keyS (s:=⟨(Lib.join (ws'.map (·.data.toList)) [47]).toArray⟩) (by have:=HJ.out;unfold R.joined at this;exact Nat.le_trans this (by decide)));rw [R.mapD_has] at hlk;rw [R.mapD_at] at hv;have HRR:Hid ((match R.lookL R.places (Lib.join (ws'.map (·.data.toList)) [47]) with
         | none=>none
         | some g=>if ok=true then some ⟨g.1,g.2,id,nm⟩ else none:Option R.Found)=RES):=by
         have h:=HR.out;rw [if_pos trivial,HT.out] at h;exact h
       obtain ⟨key,hkey⟩:∃k,Lib.join (ws'.map (·.data.toList)) [47]=k:=⟨_,rfl⟩;have hk2:(⟨(Lib.join (ws'.map (·.data.toList)) (⟨#[47]⟩:ByteArray).data.toList).toArray⟩:ByteArray)=⟨key.toArray⟩:=by rw [←hkey]
       rw [hk2];rw [hkey] at HRR hlk hv;clear hb cJ hM5 hkey hk2 HR;obtain ⟨g,hg⟩:∃g,R.lookL R.places key=g:=⟨_,rfl⟩;have hg2:R.lookL R.places (⟨key.toArray⟩:ByteArray).data.toList=g:=hg;have x0:w5.cell? ⟨P,0,none⟩=some (.int .u8 0):=rowCell HP5.out 0;have x1:w5.cell? ⟨P,1,none⟩=some (.int .u8 0):=rowCell HP5.out 1;have y0:=rowFree HP5.out 0;have y1:=rowFree HP5.out 1;rw [hg] at HRR;rw [hg2] at hlk hv;have hPn:w.heap.size≤P:=Nat.le_of_eq HPP.out;cases g with
       | none=>
         obtain ⟨va,vb,rfl,hd⟩:=R.placeR_inv hv;have hs:(none:Option (Nat×Nat)).isSome=false:=rfl;rw [hs] at hlk;have HRN:Hid (none=RES):=HRR;clear hv hd hg hg2 hs;cases ok with
         | false=>
           go_wp2_with fail;exact find_none rfl rfl rfl rfl (set_pair (set_pair HP5.out)) ((((HD5.out.b.setCell (p:=⟨P,0,none⟩) hPn _).setCell (p:=⟨P,1,none⟩) hPn _).setCell (p:=⟨P,0,none⟩) hPn _).setCell (p:=⟨P,1,none⟩) hPn _) HRN.out
         | true=>
           go_wp2_with fail;exact find_none rfl rfl rfl rfl (set_pair (set_pair HP5.out)) ((((HD5.out.b.setCell (p:=⟨P,0,none⟩) hPn _).setCell (p:=⟨P,1,none⟩) hPn _).setCell (p:=⟨P,0,none⟩) hPn _).setCell (p:=⟨P,1,none⟩) hPn _) HRN.out
       | some g=>
         obtain ⟨va,vb,rfl,hd⟩:=R.placeR_inv hv;simp only [R.placeD,DataW.agg.injEq,List.cons.injEq,DataW.lit.injEq,Lit.int.injEq,true_and,and_true] at hd;obtain ⟨rfl,rfl⟩:=hd;have hs:(some g).isSome=true:=rfl;rw [hs] at hlk;clear hv hg hg2 hs;cases ok with
         | false=>
           have HRN:Hid (none=RES):=HRR;go_wp2_with fail;exact find_none rfl rfl rfl rfl (set_pair (set_pair HP5.out)) ((((HD5.out.b.setCell (p:=⟨P,0,none⟩) hPn _).setCell (p:=⟨P,1,none⟩) hPn _).setCell (p:=⟨P,0,none⟩) hPn _).setCell (p:=⟨P,1,none⟩) hPn _) HRN.out
         | true=>
           have HRN:Hid (some ⟨g.1,g.2,id,nm⟩=RES):=HRR;go_wp2_with fail;exact find_some (f:=⟨g.1,g.2,id,nm⟩) rfl rfl rfl rfl (set_pair (set_pair HP5.out)) ((((HD5.out.b.setCell (p:=⟨P,0,none⟩) hPn _).setCell (p:=⟨P,1,none⟩) hPn _).setCell (p:=⟨P,0,none⟩) hPn _).setCell (p:=⟨P,1,none⟩) hPn _) HRN.out
open Go.RowKit
theorem infoResp:(Tryz.prog.info? 41).map (·.size)=some 2:=by kernel_rfl
theorem J.PIn.keep {P Q:Nat→Prop}{w w':World}(hP:∀b,P b→Q b) (h:∀b,P b→w'.heap[b]? =w.heap[b]?) {t:J.T}{xs:List ByteArray}{v:Value}(hv:J.PIn w P t xs v):J.PIn w' Q t xs v:=by
 obtain ⟨a,c,h1,h2,h3⟩:=hv;refine ⟨a,c,h1,h2,fun hn=> ?_⟩;obtain ⟨g,o,e1,e2,e3⟩:=h3 hn;exact ⟨g,o,e1,e2,J.PAt.keep hP h t xs g o e3⟩
theorem num_any (n:Int) (w:World):Calls Tryz.prog 18 #[.int .i64 n] w fun e w'=>e= .returned (.agg #[.int .u8 3,.bool false,.int .i64 n,.string ⟨#[]⟩,.slice none 0 0,.slice none 0 0])∧Below w.heap.size w w':=by
 obtain ⟨w0,hw0⟩:∃w0,w.alloc (.cells #[.int .u8 0,.bool false,.int .i64 0,.string ⟨#[]⟩,.slice none 0 0,.slice none 0 0] 26)=w0:=⟨_,rfl⟩;obtain ⟨X,hX⟩:∃X,w.heap.size=X:=⟨_,rfl⟩;have HV0:Hid (w0.heap[X]? =some (.cells #[.int .u8 0,.bool false,.int .i64 0,.string ⟨#[]⟩,.slice none 0 0,.slice none 0 0] 26 (0,0))):=by show _=_;rw [←hw0,←hX];exact heap_alloc_new w _
 have HB0:Hid (Below w.heap.size w w0):=by show Below _ _ _;rw [←hw0];exact (Below.refl _ w).alloc (Nat.le_refl _) _
 have HW0:=hid hw0;have HX:=hid hX;have cI:=int_any n w0;clear hw0 hX;go_enter Tryz.func18,Tryz.ntmps18;go_upto_region 1 with fail;rw [HW0.out,HX.out];go_wp2_with fail;refine cI.mono ?_;rintro e w1 ⟨rfl,hb⟩;have hv:=(hb.block X (Go.lt_of_block HV0.out)).trans HV0.out;have HV:=hid hv;have HB:=hid (HB0.out.trans (hb.mono HB0.out.size));obtain ⟨x0,x1,x2,x3,x4,x5⟩:=x6_of hv;obtain ⟨f0,f1,f2,f3,f4,f5⟩:=vfree hv;clear hv hb cI HW0;go_wp2_with fail;exact bodyPost_ret (v:= .agg #[.int .u8 3,.bool false,.int .i64 n,.string ⟨#[]⟩,.slice none 0 0,.slice none 0 0]) (results_cell_row rfl _ _ X 26 _ (0,0) _ rfl (pt6_row HV.out _ _ _ _ _ _) Tryz.underlying26 rfl infoJSON) rfl ⟨rfl,pt6_below HB.out (Nat.le_of_eq HX.out) _ _ _ _ _ _⟩
structure Prints (x:J.V):Prop where
 s:x.small
 b:x.brief
 d:x.deep≤1000000000
 n:x.num
 l:6*x.show.length+2≤10000000000000
 e:x.print.2=0
structure EnvP (w:World):Prop where
 t:Tabs w
 z:Tz w
 p:Pw w
theorem EnvP.under {w w':World}(h:EnvP w) (hb:Below w.heap.size w w'):EnvP w':=⟨h.t.under hb,h.z.keep hb,Lib.tabBelow_of_tabIs h.p w' hb⟩
def textOf (x:J.V):ByteArray:=⟨x.print.1.toArray⟩
theorem answer_any (st:Int) {t:J.T}{names:List ByteArray}(hx:Prints ⟨6,false,0,⟨#[]⟩,t,names⟩) {w:World}{P:Nat→Prop}{pv:Value}(hp:J.PIn w P t names pv) (hPP:∀b,P b→b<w.heap.size) (hE:EnvP w):
  Calls Tryz.prog 23 #[.int .i64 st,pv] w fun e W=>e= .returned (.agg #[.int .i64 st,.string (textOf ⟨6,false,0,⟨#[]⟩,t,names⟩)])∧Below w.heap.size w W:=by
 obtain ⟨w0,hw0⟩:∃w0,w.alloc (.cells #[.int .i64 0,.string ⟨#[]⟩] 41)=w0:=⟨_,rfl⟩;obtain ⟨X,hX⟩:∃X,w.heap.size=X:=⟨_,rfl⟩;have HV0:Hid (w0.heap[X]? =some (.cells #[.int .i64 0,.string ⟨#[]⟩] 41 (0,0))):=by show _=_;rw [←hw0,←hX];exact heap_alloc_new w _
 have hb0:Below w.heap.size w w0:=by rw [←hw0];exact (Below.refl _ w).alloc (Nat.le_refl _) _
 have HB0:=hid hb0;have HW0:=hid hw0;have HX:=hid hX;have HE:=hid hE;have HPR:=hid hx;have cO:=obj_any (t:=t) (names:=names) hx.s.1 hx.s.2.2 (w:=w0) (P:=P) (J.PIn.keep (fun _ h=>h) (fun b h=>hb0.block b (hPP b h)) hp) (fun b h=>Nat.lt_of_lt_of_le (hPP b h) hb0.size);obtain ⟨pa,pc,rfl, -, -⟩:=hp;clear hw0 hX hb0 hE hPP hx;go_enter Tryz.func23,Tryz.ntmps23;go_upto_region 1 with fail;rw [HW0.out,HX.out];go_wp2_with fail;refine cO.mono ?_;rintro e w1 ⟨cs,rfl,hh,hb⟩;have HV1:=hid ((hb.block X (Go.lt_of_block HV0.out)).trans HV0.out);have HB1:=hid (HB0.out.trans (hb.mono HB0.out.size));have hE1:=HE.out.under HB1.out;have hh:=J.V.Has.keep (Q:=fun b=>b<w1.heap.size) (fun _ hb=>hb.2.1) (fun _ _=>rfl) hh;have cP:=print_any _ HPR.out.s HPR.out.b HPR.out.d HPR.out.n HPR.out.l w1 _ _ hE1.t hE1.z hE1.p hh (fun _ h=>h);obtain ⟨k2,b2,n2,s2,a1,l2,c1,a2,m2,c2,rfl⟩:=Shape.of hh;unfold PrintOf at cP;rw [HPR.out.e] at cP;clear hb cO hh hE1 HW0;go_wp2_with fail;refine cP.mono ?_;rintro e w2 ⟨rfl,hb⟩;have hv:=(hb.block X (Go.lt_of_block HV1.out)).trans HV1.out;have HV2:=hid hv;have HB2:=hid (HB1.out.trans (hb.mono HB1.out.size));have x0:w2.cell? ⟨X,0,none⟩=some (.int .i64 0):=rowCell hv 0;have x1:w2.cell? ⟨X,1,none⟩=some (.string ⟨#[]⟩):=rowCell hv 1;have y0:=rowFree hv 0;have y1:=rowFree hv 1;clear hb cP hv;go_wp2_with fail;exact bodyPost_ret (v:= .agg #[.int .i64 st,.string (textOf ⟨6,false,0,⟨#[]⟩,t,names⟩)]) (results_cell_row rfl _ _ X 41 _ (0,0) _ rfl (set_pair HV2.out) Tryz.underlying41 rfl infoResp) rfl ⟨rfl,(HB2.out.setCell (p:=⟨X,0,none⟩) (Nat.le_of_eq HX.out) _).setCell (p:=⟨X,1,none⟩) (Nat.le_of_eq HX.out) _⟩
namespace J
def nError:ByteArray:=⟨#[101,114,114,111,114]⟩
def errT (e:Int) (r:T):T:= .cons 3 false e ⟨#[]⟩ .nil [] r
def errV (e:Int):V:=⟨6,false,0,⟨#[]⟩,errT e .nil,[nError]⟩
end J
theorem nil_in {W:World}{P:Nat→Prop}:J.T.In W P .nil (.slice none 0 0)∧J.SIn W P [] (.slice none 0 0):=⟨Or.inl ⟨rfl,none,0,rfl,fun _=>rfl⟩,Or.inl ⟨rfl,none,0,rfl,fun _=>rfl⟩⟩
def pairC (nm:ByteArray) (n:Int):List Value:= [.string nm,.int .u8 3,.bool false,.int .i64 n,.string ⟨#[]⟩,.slice none 0 0,.slice none 0 0]
theorem err_in {W:World}{X:Nat}{e:Int}(h:W.heap[X]? =some (.cells (pairC J.nError e).toArray 83 (0,0))):J.PIn W (fun b=>b<W.heap.size) (J.errT e .nil) [J.nError] (.slice (some ⟨X,0,none⟩) 1 1):=by
 have hc:∀i u,((pairC J.nError e).toArray:Array Value)[i]? =some u→W.cell? ⟨X,i,none⟩=some u:=fun i u hu=>by rw [Lib.cell_of_heap h];exact hu
 exact ⟨_,_,rfl,rfl,fun _=>⟨X,0,rfl,Nat.le_refl 1,Go.lt_of_block h,hc 0 _ rfl,hc 1 _ rfl,hc 2 _ rfl,hc 3 _ rfl,hc 4 _ rfl,⟨_,hc 5 _ rfl,nil_in.1⟩,⟨_,hc 6 _ rfl,nil_in.2⟩,trivial⟩⟩
theorem refuse_any (st er:Int) (hx:Prints (J.errV er)) (w:World) (hE:EnvP w):
  Calls Tryz.prog 16 #[.int .i64 st,.int .i64 er,.slice none 0 0] w fun e W=>e= .returned (.agg #[.int .i64 st,.string (textOf (J.errV er))])∧Below w.heap.size w W:=by
 obtain ⟨w0,hw0⟩:∃w0,w.alloc (.cells #[.int .i64 0,.string ⟨#[]⟩] 41)=w0:=⟨_,rfl⟩;obtain ⟨X,hX⟩:∃X,w.heap.size=X:=⟨_,rfl⟩;have HV0:Hid (w0.heap[X]? =some (.cells #[.int .i64 0,.string ⟨#[]⟩] 41 (0,0))):=by show _=_;rw [←hw0,←hX];exact heap_alloc_new w _
 have hb0:Below w.heap.size w w0:=by rw [←hw0];exact (Below.refl _ w).alloc (Nat.le_refl _) _
 have HB0:=hid hb0;have HW0:=hid hw0;have HX:=hid hX;have HE:=hid hE;have HPR:=hid hx;have cN:=num_any er w0;clear hw0 hX hb0 hE hx;go_enter Tryz.func16,Tryz.ntmps16;go_upto_region 1 with fail;rw [HW0.out,HX.out];go_wp2_with fail;refine cN.mono ?_;rintro e w1 ⟨rfl,hb⟩;have HV1:=hid ((hb.block X (Go.lt_of_block HV0.out)).trans HV0.out);have HB1:=hid (HB0.out.trans (hb.mono HB0.out.size));obtain ⟨w2,hw2⟩:∃w2,w1.alloc (.cells #[.string ⟨#[101,114,114,111,114]⟩,.int .u8 3,.bool false,.int .i64 er,.string ⟨#[]⟩,.slice none 0 0,.slice none 0 0] 83)=w2:=⟨_,rfl⟩;have hb2:Below w1.heap.size w1 w2:=by rw [←hw2];exact (Below.refl _ w1).alloc (Nat.le_refl _) _
 have hr2:w2.heap[w1.heap.size]? =some (.cells (pairC J.nError er).toArray 83 (0,0)):=by rw [←hw2];exact heap_alloc_new w1 _
 have HV2:=hid ((hb2.block X (Go.lt_of_block HV1.out)).trans HV1.out);have HB2:=hid (HB1.out.trans (hb2.mono HB1.out.size));have cA:=answer_any st HPR.out (err_in hr2) (fun _ h=>h) (HE.out.under HB2.out);have HW2:=hid hw2;clear hb cN HW0 hw2 hb2 hr2;go_wp2_with fail;rw [HW2.out];refine cA.mono ?_;rintro e w3 ⟨rfl,hb⟩;have hv:=(hb.block X (Go.lt_of_block HV2.out)).trans HV2.out;have HV3:=hid hv;have HB3:=hid (HB2.out.trans (hb.mono HB2.out.size));have x0:w3.cell? ⟨X,0,none⟩=some (.int .i64 0):=rowCell hv 0;have x1:w3.cell? ⟨X,1,none⟩=some (.string ⟨#[]⟩):=rowCell hv 1;have y0:=rowFree hv 0;have y1:=rowFree hv 1;clear hb cA hv HW2;go_wp2_with fail;exact bodyPost_ret (v:= .agg #[.int .i64 st,.string (textOf (J.errV er))]) (results_cell_row rfl _ _ X 41 _ (0,0) _ rfl (set_pair HV3.out) Tryz.underlying41 rfl infoResp) rfl ⟨rfl,(HB3.out.setCell (p:=⟨X,0,none⟩) (Nat.le_of_eq HX.out) _).setCell (p:=⟨X,1,none⟩) (Nat.le_of_eq HX.out) _⟩
end Go.Proofs.YtohkomndapngjaaGreatDoor

