/- JSON values and texts handed in: opened, with their weight. -/
import Derived.Test.YtohkomndapngjaaGreatDoorRows
import Derived.Test.YtohkomndapngjaaGreatDoorRC13
import Derived.Deep.Slices
import Derived.Deep.Fields
import Derived.Lib.SmallJoins
import Derived.Carry
import Derived.Test.YtohkomndapngjaaGreatDoorRC36
import Derived.Lib.ItoaLen
import Derived.JoinedCond
import Derived.ProofKit
namespace Go.Proofs.YtohkomndapngjaaGreatDoor
set_option maxRecDepth 100000
set_option maxHeartbeats 16000000
open Go.Joins Go.ChangeShapes Go.WideShapes Go.RowKit Go.Deep
section
variable {H:Type}{enc:TypeId×Value→H}{P:Program}{w:World}{base:Nat}{sp:Nat→Bool}{held:Bool}
theorem trod_struct6 {t:TypeId}{f0 f1 f2 f3 f4 f5:Field}{fuel:Nat}{cs:List Value}{x:DataW H×List MemPlace}(ht:P.underlying t=some (.struct #[f0,f1,f2,f3,f4,f5])) (h:DataW.trod enc P w base sp held fuel t cs=some x):
   ∃y0 y1 y2 y3 y4 y5 n,x.1= .agg [y0.1,y1.1,y2.1,y3.1,y4.1,y5.1]∧cs.length=P.cellsOf t∧DataW.trod enc P w base sp held n f0.type ((cs.drop f0.offset).take (P.cellsOf f0.type))=some y0∧
    DataW.trod enc P w base sp held n f1.type ((cs.drop f1.offset).take (P.cellsOf f1.type))=some y1∧DataW.trod enc P w base sp held n f2.type ((cs.drop f2.offset).take (P.cellsOf f2.type))=some y2∧
    DataW.trod enc P w base sp held n f3.type ((cs.drop f3.offset).take (P.cellsOf f3.type))=some y3∧DataW.trod enc P w base sp held n f4.type ((cs.drop f4.offset).take (P.cellsOf f4.type))=some y4∧
    DataW.trod enc P w base sp held n f5.type ((cs.drop f5.offset).take (P.cellsOf f5.type))=some y5:=by
 obtain ⟨xs,n,hn,rfl,hl,hlen,hf⟩:=DataW.trod_struct ht h;match xs,hlen with
 | [y0,y1,y2,y3,y4,y5],_=>exact ⟨y0,y1,y2,y3,y4,y5,n,rfl,hl,by simpa using hf 0 f0 rfl,by simpa using hf 1 f1 rfl,by simpa using hf 2 f2 rfl,by simpa using hf 3 f3 rfl,by simpa using hf 4 f4 rfl,by simpa using hf 5 f5 rfl⟩
end
namespace J
def nsW:List ByteArray→Nat
 | []=>0
 | a::r=>a.size+1+nsW r
def T.wt:T→Nat
 | .nil=>0
 | .cons _ _ _ s l ns r=>s.size+l.wt+nsW ns+1+r.wt
end J
def sumF {H:Type}(D:Nat→DataW H):Nat→Nat→Nat
 | _,0=>0
 | i,c+1=>Rows.uptoBulk (D i)+sumF D (i+1) c
theorem sumF_all {H:Type}(D:Nat→DataW H):∀(c i:Nat),Rows.uptoBulkAll ((List.range' i c).map D)=sumF D i c
 | 0,_=>rfl
 | c+1,i=>by
   rw [List.range'_succ,List.map_cons]
   show Rows.uptoBulk (D i)+Rows.uptoBulkAll _=_
   rw [sumF_all D c (i+1)];rfl
theorem laidOut:laidOutB Tryz.prog=true:=by kernel_rfl
theorem cellsJSON:Tryz.prog.cellsOf 26=6:=by kernel_rfl
theorem cellsStr:Tryz.prog.cellsOf 9=1:=by kernel_rfl
section
variable {H:Type}{enc:TypeId×Value→H}{w:World}{base:Nat}{sp:Nat→Bool}{held:Bool}
theorem addr_add (g o j:Nat):(⟨g,o,none⟩:Addr).add j=⟨g,o+j,none⟩:=by cases j<;>simp [Addr.add]
theorem trod_texts {fuel:Nat}{cs:List Value}{y:DataW H×List MemPlace}(h:DataW.trod enc Tryz.prog w base sp held fuel 23 cs=some y):
   ∃(ns:List ByteArray) (v:Value),cs= [v]∧J.SIn w (fun b=>b<w.heap.size) ns v∧ns.length≤9223372036854775807∧J.nsW ns≤Rows.uptoBulk y.1:=by
 rcases open_slice Tryz.underlying23 h with ⟨rfl,rfl⟩|⟨a,len,cap,m,n',D,Pl,rfl,hb,hl,hm,hmm,hy,hi⟩
 · exact ⟨[],_,rfl,Or.inl ⟨rfl,none,0,rfl,fun _=>rfl⟩,by simp,Nat.zero_le _⟩
 · have hml:len≤9223372036854775807:=by have:maxLen=9223372036854775807:=rfl;omega
   have hlm:len≤m:=by rw [hmm];split<;>omega
   have build:∀(c i:Nat),i+c=len→∃l:List ByteArray,l.length=c∧(∀j x,l[j]? =some x→w.cell? (a.add (i+j))=some (.string x))∧J.nsW l≤sumF D i c:=by
     intro c;induction c with
     | zero=>intro i _;exact ⟨[],rfl,fun j x h=>by simp at h,Nat.le_refl _⟩
     | succ c ihc=>
       intro i hic;obtain ⟨cs',hc,ht⟩:=hi i (by omega);rw [cellsStr,Nat.mul_one] at hc;obtain ⟨_,hlen,hat⟩:=World.cells?_some hc;obtain ⟨s,rfl,hx,_⟩:=DataW.trod_string Tryz.underlying9 ht;have h0:=hat 0 (by omega);have hD:D i= .lit (.string s.data.toList):=congrArg Prod.fst hx;obtain ⟨r,g1,g2,g3⟩:=ihc (i+1) (by omega);refine ⟨s::r,by simp [g1],fun j x hj=> ?_,?_⟩
       · cases j with
         | zero=>cases hj;simpa [Addr.add] using h0
         | succ j=>rw [show i+(j+1)=i+1+j by omega];exact g2 j x hj
       · show s.size+1+J.nsW r≤Rows.uptoBulk (D i)+sumF D (i+1) c;rw [hD];have e:s.data.toList.length=s.size:=Array.length_toList;show _≤(s.data.toList.length+1)+_;omega
   obtain ⟨ns,g1,g2,g3⟩:=build len 0 (by omega);have hw:J.nsW ns≤Rows.uptoBulk y.1:=by
     rw [hy];show _≤Rows.uptoBulkAll ((List.range len).map D)+_+1;rw [List.range_eq_range',sumF_all D len 0];omega
   subst g1;refine ⟨ns,_,rfl,?_,by omega,hw⟩;rcases Nat.eq_zero_or_pos ns.length with h0|h0
   · rw [h0];exact Or.inl ⟨List.eq_nil_of_length_eq_zero h0,_,cap,rfl,fun h=>by cases h⟩
   · obtain ⟨g,o,spot⟩:=a;have hc0:=g2 0 _ (List.getElem?_eq_getElem h0);have hspot:spot=none:=by simpa [Addr.add] using World.cell?_spot hc0
     subst hspot;refine Or.inr ⟨h0,g,o,cap,rfl,Lib.lt_of_cell hc0,hl,fun j x hj=> ?_⟩;have:=g2 j x hj;rw [Nat.zero_add,addr_add] at this;exact this
theorem list_six {α:Type}{l:List α}(h:l.length=6):∃c0 c1 c2 c3 c4 c5,l= [c0,c1,c2,c3,c4,c5]:=by
 match l,h with
 | [c0,c1,c2,c3,c4,c5],_=>exact ⟨_,_,_,_,_,_,rfl⟩
theorem trod_vals:∀(N fuel:Nat) (cs:List Value) (y:DataW H×List MemPlace),DataW.trod enc Tryz.prog w base sp held fuel 22 cs=some y→Rows.uptoBulk y.1<N→
   ∃(t:J.T) (v:Value),cs= [v]∧t.In w (fun b=>b<w.heap.size) v∧t.num∧t.length≤9223372036854775807∧t.wt≤Rows.uptoBulk y.1:=by
 intro N;induction N with
 | zero=>intro fuel cs y _ h;omega
 | succ N ih=>
   intro fuel cs y h hN;rcases open_slice Tryz.underlying22 h with ⟨rfl,rfl⟩|⟨a,len,cap,m,n',D,Pl,rfl,hb,hl,hm,hmm,hy,hi⟩
   · exact ⟨.nil,_,rfl,Or.inl ⟨rfl,none,0,rfl,fun _=>rfl⟩,trivial,by simp [J.T.length],Nat.zero_le _⟩
   · have hml:len≤9223372036854775807:=by have:maxLen=9223372036854775807:=rfl;omega
     have hlm:len≤m:=by rw [hmm];split<;>omega
     have hbk:Rows.uptoBulk y.1=sumF D 0 len+Rows.uptoBulkAll ((List.range (m-len)).map fun j=>D (len+j))+1:=by
       rw [hy];show Rows.uptoBulkAll ((List.range len).map D)+_+1=_;rw [List.range_eq_range',sumF_all D len 0]
     rcases Nat.eq_zero_or_pos len with rfl|h0
     · exact ⟨.nil,_,rfl,Or.inl ⟨rfl,_,cap,rfl,fun h=>by cases h⟩,trivial,by simp [J.T.length],Nat.zero_le _⟩
     obtain ⟨g,o,spot⟩:=a;have hspot:spot=none:=by
       obtain ⟨cs',hc,ht⟩:=hi 0 (by omega);rw [cellsJSON] at hc;obtain ⟨_,hlen,hat⟩:=World.cells?_some hc;obtain ⟨c0,c1,c2,c3,c4,c5,rfl⟩:=list_six hlen;have hat0:w.cell? (((⟨g,o,spot⟩:Addr).add (0*6)).add 0)=some c0:=hat 0 (by omega);rw [Nat.zero_mul] at hat0;have:=World.cell?_spot hat0;simpa [Addr.add] using this
     subst hspot;have build:∀(c i:Nat),i+c=len→sumF D i c≤N→∃l:J.T,l.length=c∧l.At w (fun b=>b<w.heap.size) g (o+i*6)∧l.num∧l.wt≤sumF D i c:=by
       intro c;induction c with
       | zero=>intro i _ _;exact ⟨.nil,rfl,trivial,trivial,Nat.le_refl _⟩
       | succ c ihc=>
         intro i hic hsm;obtain ⟨cs',hc,ht⟩:=hi i (by omega);rw [cellsJSON] at hc;obtain ⟨_,hlen,hat⟩:=World.cells?_some hc;obtain ⟨y0,y1,y2,y3,y4,y5,n2,hD,_,t0,t1,t2,t3,t4,t5⟩:=trod_struct6 Tryz.underlying26 ht;have hD:D i= .agg [y0.1,y1.1,y2.1,y3.1,y4.1,y5.1]:=hD;have hs:sumF D i (c+1)=Rows.uptoBulk (D i)+sumF D (i+1) c:=rfl;rw [hD] at hs;simp only [Rows.uptoBulk,Rows.uptoBulkAll] at hs;obtain ⟨c0,c1,c2,c3,c4,c5,rfl⟩:=list_six hlen;obtain ⟨k,e0,_,wk⟩:=DataW.trod_int Tryz.underlying5 t0;obtain ⟨b,e1,_⟩:=DataW.trod_bool Tryz.underlying4 t1;obtain ⟨q,e2,_,wq⟩:=DataW.trod_int Tryz.underlying2 t2;obtain ⟨s,e3,hd3,_⟩:=DataW.trod_string Tryz.underlying9 t3;obtain ⟨tt,lv,e4,hl4,hn4,_,hw4⟩:=ih n2 _ _ t4 (by omega);obtain ⟨ns,nv,e5,hn5,_,hw5⟩:=trod_texts t5;have k0:=bounds_u8 wk;have q0:=bounds_i64 wq;have E: [c0,c1,c2,c3,c4,c5]= [.int .u8 ((k.toNat:Nat):Int),.bool b,.int .i64 q,.string s,lv,nv]:=by
           have k1:Tryz.prog.cellsOf 5=1:=by kernel_rfl
           have k2:Tryz.prog.cellsOf 4=1:=by kernel_rfl
           have k3:Tryz.prog.cellsOf 2=1:=by kernel_rfl
           have k4:Tryz.prog.cellsOf 22=1:=by kernel_rfl
           have k5:Tryz.prog.cellsOf 23=1:=by kernel_rfl
           simp only [k1,k2,k3,k4,k5,cellsStr,List.drop_zero,List.drop_succ_cons,List.take_succ_cons,List.take_zero,List.cons.injEq,and_true] at e0 e1 e2 e3 e4 e5;subst e0 e1 e2 e3 e4 e5;rw [Int.toNat_of_nonneg k0.1]
         obtain ⟨r,g1,g2,g3,g4⟩:=ihc (i+1) (by omega) (by omega);have hcell:∀j u,[Value.int .u8 ((k.toNat:Nat):Int),.bool b,.int .i64 q,.string s,lv,nv][j]? =some u→w.cell? ⟨g,o+i*6+j,none⟩=some u:=fun j u hj=>by
           rw [←E] at hj;have hj6:j<6:=(List.getElem?_eq_some_iff.1 hj).1;have:=hat j hj6;rw [addr_add,addr_add] at this;rw [this];exact hj
         have hc0:=hcell 0 _ rfl;have hg:g<w.heap.size:=Lib.lt_of_cell hc0;refine ⟨.cons k.toNat b q s tt ns r,by simp only [J.T.length,g1],⟨hg,hc0,hcell 1 _ rfl,hcell 2 _ rfl,hcell 3 _ rfl,⟨lv,hcell 4 _ rfl,?_⟩,⟨nv,hcell 5 _ rfl,hn5⟩,by rw [show o+i*6+6=o+(i+1)*6 by omega];exact g2⟩,⟨q0,hn4,g3⟩,?_⟩
         · exact hl4
         · show s.size+tt.wt+J.nsW ns+1+r.wt≤_;have e:s.data.toList.length=s.size:=Array.length_toList;have h3:Rows.uptoBulk y3.1=s.data.toList.length+1:=by rw [hd3];rfl
           omega
     obtain ⟨l,g1,g2,g3,g4⟩:=build len 0 (by omega) (by omega);rw [Nat.zero_mul,Nat.add_zero] at g2;exact ⟨l,_,rfl,Or.inr ⟨g,o,cap,by rw [g1],by omega,by omega,g2⟩,g3,by omega,by omega⟩
theorem open_jsons {r:Reach}{b0:Nat}{v:Value}{d:DataW H}{p:List MemPlace}(hv:Value.okWide Tryz.prog w r b0 22 v) (h:DataW.Trod enc Tryz.prog w base sp held 22 v d p):
  ∃t:J.T,t.In w (fun b=>b<w.heap.size) v∧t.num∧t.length≤9223372036854775807∧t.wt≤Rows.uptoBulk d:=by
 obtain ⟨xa,n,c,rfl⟩:=okWide_slice Tryz.underlying22 hv;obtain ⟨fuel,hf⟩:=h;obtain ⟨t,v,e,h1,h2,h3,h4⟩:=trod_vals _ fuel _ _ hf (Nat.lt_succ_self _);simp only [Value.cells,List.cons.injEq,and_true] at e;subst e;exact ⟨t,h1,h2,h3,h4⟩
theorem open_texts {r:Reach}{b0:Nat}{v:Value}{d:DataW H}{p:List MemPlace}(hv:Value.okWide Tryz.prog w r b0 23 v) (h:DataW.Trod enc Tryz.prog w base sp held 23 v d p):
  ∃ns:List ByteArray,J.SIn w (fun b=>b<w.heap.size) ns v∧ns.length≤9223372036854775807∧J.nsW ns≤Rows.uptoBulk d:=by
 obtain ⟨xa,n,c,rfl⟩:=okWide_slice Tryz.underlying23 hv;obtain ⟨fuel,hf⟩:=h;obtain ⟨ns,v,e,h1,h2,h3⟩:=trod_texts hf;simp only [Value.cells,List.cons.injEq,and_true] at e;subst e;exact ⟨ns,h1,h2,h3⟩
end
open Go.RowKit
namespace J
theorem nsW_len:∀ns:List ByteArray,ns.length≤nsW ns
 | []=>Nat.le_refl _
 | a::r=>by have:=nsW_len r;simp only [List.length_cons,nsW];omega
theorem nsW_mem:∀ {ns:List ByteArray}{a:ByteArray},a∈ns→a.size≤nsW ns
 | b::r,a,h=>by
   rcases List.mem_cons.1 h with rfl|h
   · simp only [nsW];omega
   · have:=nsW_mem h;simp only [nsW];omega
theorem T.len_wt:∀t:T,t.length≤t.wt
 | .nil=>Nat.le_refl _
 | .cons _ _ _ _ _ _ r=>by have:=T.len_wt r;simp only [T.length,T.wt];omega
theorem T.wt_small:∀t:T,t.wt≤1048576→t.small
 | .nil,_=>trivial
 | .cons _ _ _ _ l ns r,h=>by
   simp only [T.wt] at h
   have h1:=T.len_wt l
   have h2:=nsW_len ns
   exact ⟨⟨by omega,by omega,T.wt_small l (by omega)⟩,T.wt_small r (by omega)⟩
theorem T.wt_brief:∀t:T,t.wt≤1048576→t.brief
 | .nil,_=>trivial
 | .cons _ _ _ _ l ns r,h=>by
   simp only [T.wt] at h
   exact ⟨⟨by omega,fun x hx=>by have:=nsW_mem hx;omega,T.wt_brief l (by omega)⟩,T.wt_brief r (by omega)⟩
theorem T.wt_deep:∀t:T,deepT t≤t.wt
 | .nil=>Nat.le_refl _
 | .cons k _ _ _ l _ r=>by
   have h1:=T.wt_deep l;have h2:=T.wt_deep r;show max (if k=5∨k=6 then deepT l+1 else 0) (deepT r)≤_;simp only [T.wt];have:(if k=5∨k=6 then deepT l+1 else 0)≤deepT l+1:=by split<;>omega
   omega
theorem byteJ_lenF (c:UInt8):(byteJ c).length≤6:=by
 unfold byteJ;repeat' split
 all_goals simp
theorem quoteIn_lenF:∀l:List UInt8,(quoteIn l).length≤6*l.length
 | []=>Nat.le_refl _
 | c::r=>by
   have h1:=byteJ_lenF c;have h2:=quoteIn_lenF r;show (byteJ c++quoteIn r).length≤_;rw [List.length_append,List.length_cons];omega
theorem quoteL_len (s:ByteArray):(quoteL s.data.toList).length≤6*s.size+2:=by
 have h1:=quoteIn_lenF s.data.toList;have h2:s.data.toList.length=s.size:=(Lib.size_eq s).symm;unfold quoteL;simp only [List.length_cons,List.length_append,List.length_nil];omega
theorem head_W:∀ns:List ByteArray,(ns.headD ⟨#[]⟩).size+nsW (ns.drop 1)≤nsW ns
 | []=>Nat.le_refl _
 | a::r=>by show a.size+nsW r≤a.size+1+nsW r;omega
theorem T.wt_show : ∀ (t : T) (obj first : Bool) (names : List ByteArray), t.num → (showT obj first t names).length ≤ 40 * t.wt + 10 * nsW names
  | .nil, _, _, _, _ => Nat.zero_le _
  | .cons k b n s l m r, obj, first, names, ⟨hn, hl, hr⟩ => by
    have h1 := T.wt_show l (k == 6) true m hl
    have h2 := T.wt_show r obj false (names.drop 1) hr
    have h3 := quoteL_len s
    have h4 := quoteL_len (names.headD ⟨#[]⟩)
    have h5 := Lib.itoa_length_le n hn.1 hn.2
    have h6 := head_W names
    have e : showT obj first (.cons k b n s l m r) names = (if first then [] else [44]) ++ ((if obj then quoteL (names.headD ⟨#[]⟩).data.toList ++ [58] else []) ++
      ((if k = 1 then [110, 117, 108, 108] else if k = 2 then (if b then [116, 114, 117, 101] else [102, 97, 108, 115, 101]) else if k = 3 then Lib.itoa n else if k = 4 then quoteL s.data.toList
        else (if k = 6 then 123 else 91) :: (showT (k == 6) true l m ++ [if k = 6 then 125 else 93])) ++ showT obj false r (names.drop 1))) := rfl
    have hv : (if k = 1 then [110, 117, 108, 108] else if k = 2 then (if b then [116, 114, 117, 101] else [102, 97, 108, 115, 101]) else if k = 3 then Lib.itoa n else if k = 4 then quoteL s.data.toList
        else (if k = 6 then 123 else 91) :: (showT (k == 6) true l m ++ [if k = 6 then 125 else 93]) : List UInt8).length ≤ 21 + (6 * s.size + 2) + ((showT (k == 6) true l m).length + 2) := by
      split
      · simp; omega
      split
      · split <;> simp <;> omega
      split
      · omega
      split
      · omega
      · simp only [List.length_cons, List.length_append, List.length_nil]; omega
    rw [e]
    simp only [List.length_append]
    have hf : (if first = true then ([] : List UInt8) else [44]).length ≤ 1 := by split <;> simp
    have ho : (if obj = true then quoteL (names.headD ⟨#[]⟩).data.toList ++ [58] else []).length ≤ 6 * (names.headD ⟨#[]⟩).size + 3 := by
      split
      · simp only [List.length_append, List.length_cons, List.length_nil]; omega
      · simp
    simp only [T.wt]
    omega
theorem T.wt_app:∀a b:T,(a.app b).wt=a.wt+b.wt
 | .nil,b=>by show b.wt=0+b.wt;omega
 | .cons _ _ _ _ _ _ r,b=>by
   have:=T.wt_app r b
   show _+(r.app b).wt=(_+r.wt)+b.wt
   omega
theorem T.At.front {w:World}{P:Nat→Prop}:∀(a b:T) (g o:Nat),(a.app b).At w P g o→a.At w P g o
 | .nil,_,_,_,_=>trivial
 | .cons _ _ _ _ _ _ r,b,g,o,⟨h,h0,h1,h2,h3,h4,h5,hr⟩=>⟨h,h0,h1,h2,h3,h4,h5,T.At.front r b g (o+6) hr⟩
theorem T.In.front {w:World}{P:Nat→Prop}{a b:T}{la:Option Addr}{len c:Nat}(h:(a.app b).In w P (.slice la len c)):a.In w P (.slice la a.length c):=by
 rcases h with ⟨h,la',c',h1,h2⟩|⟨g,o,c',h1,h2,h3,h4⟩
 · cases a with
   | nil=>
     simp only [Value.slice.injEq] at h1;obtain ⟨rfl,_,rfl⟩:=h1;exact Or.inl ⟨rfl,_,_,rfl,h2⟩
   | cons=>cases h
 · simp only [Value.slice.injEq] at h1;obtain ⟨rfl,_,rfl⟩:=h1;rw [T.app_length] at h2;by_cases h0:a.length=0
   · cases a with
     | nil=>exact Or.inl ⟨rfl,_,_,rfl,fun e=>by cases e⟩
     | cons=>simp [T.length] at h0
   · exact Or.inr ⟨g,o,_,rfl,by omega,by omega,T.At.front a b g o h4⟩
end J
theorem fits_of {t:J.T}{ns:List ByteArray}(h1:t.wt≤1048576) (h2:J.nsW ns≤1048576) (hn:t.num):Fits ⟨6,false,0,⟨#[]⟩,t,ns⟩:=by
 have l1:=J.T.len_wt t;have l2:=J.nsW_len ns;have l3:=J.T.wt_deep t;have l4:=J.T.wt_show t true true ns hn;refine ⟨⟨(show t.length≤_ by omega),(show ns.length≤_ by omega),J.T.wt_small t h1⟩,⟨(show (0:Nat)≤_ from Nat.zero_le _),fun y hy=>by have h9:y.size≤J.nsW ns:=J.nsW_mem hy;omega,J.T.wt_brief t h1⟩,(show J.deepT t+1≤1000000000 by omega),⟨⟨(show (-9223372036854775808:Int)≤0 by decide),(show (0:Int)≤9223372036854775807 by decide)⟩,hn⟩,?_⟩;have e:(⟨6,false,0,⟨#[]⟩,t,ns⟩:J.V).show=123::(J.showT true true t ns++ [125]):=rfl;rw [e];simp only [List.length_cons,List.length_append,List.length_nil];omega
theorem fields_law (path:ByteArray) (t:J.T) (lv:Value) (ns:List ByteArray) (nv:Value) (by_:Int) (w:World) (hz:path.size≤140737488351232) (hl:t.In w (fun b=>b<w.heap.size) lv) (hnum:t.num) (hlen:t.length≤9223372036854775807) (hs:J.SIn w (fun b=>b<w.heap.size) ns nv) (hsl:ns.length≤9223372036854775807)
   (hby: -9223372036854775808≤by_∧by_≤9223372036854775807) (hw1:t.wt≤1048576) (hw2:J.nsW ns≤1048576) (hE:EnvY w):
   Calls Tryz.prog 3 #[.string path,lv,nv,.int .i64 by_] w fun e W=>e= .returned (.bool true)∧Below w.heap.size w W:=by
 obtain ⟨la,lc,rfl⟩:=hl.shape;obtain ⟨na,nc,rfl⟩:=hs.shape;by_cases h:30<ns.length∨t.length<ns.length∨2000<path.size
 · exact fields_out path t.length lc ns.length nc la na by_ w hE hsl (by omega) h
 · obtain ⟨a,b,rfl,ha⟩:=J.T.split t ns.length (by omega);have hw:=J.T.wt_app a b;have hf:=hl.front;rw [ha] at hf;have hll:(a.app b).length≤lc:=by
    rcases hl with ⟨h1, -⟩|⟨g,o,c,h1,h2, -⟩
    · rw [h1];exact Nat.zero_le _
    · simp only [Value.slice.injEq] at h1;obtain ⟨-, -,rfl⟩:=h1;exact h2
   exact fields_in path a ns (a.app b).length lc nc la na by_ w hE hf hs ha hll (by omega) (by omega) (by omega) (fits_of (by omega) hw2 (J.T.num_app a b hnum).1) (fun x hx=>by have:=J.nsW_mem hx;omega) hby
open Go.RowKit Go.ChangeShapes Go.WideShapes Go.ChangeAt
theorem and2 {a b:Bool}(h:a=true) (g:b=true):(a&&b)=true:=by rw [h,g];rfl
section
variable {P:Program}{f:FuncId}{fn:Func}{s:ChangeSpec}{c:OpenClaim}
theorem joined_of (h0:(c.wf (OpenSpec.ofChange s))=true) (h1:(laidOutB P)=true) (h2:(mapsRowed P)=true) (h3:(fn.params.all (P.readableRec ·))=true) (h4:(namedTie P c.named s.vars)=true) (h5:((c.stops== []))=true) (h6:((P.stops== []))=true) (h7:((c.knobs== []))=true) (h8:((P.stopKnobs== []))=true) (h9:((c.inPlace==P.inPlace f))=true) (h10:((c.unfollowed==P.unfollowed f))=true) (h11:((c.recurses==P.recurses f))=true) (h12:((c.named==P.varsNamed f))=true) (h13:((c.maps==(fn.params.toList++s.plain.varTypes P).any (P.mapsRec ·)))=true) (h14:((c.ifaces==(fn.params.toList++s.plain.varTypes P).any (P.ifacesRec ·)))=true) (h15:((c.mapsOut==P.mapsAmong fn.resultTypes.toList))=true) (h16:((c.loops==(fn.params.toList++s.plain.varTypes P).any (P.loopsFrom ·)))=true) (h17:((c.wideKeys==(fn.params.toList++s.plain.varTypes P++fn.resultTypes.toList).any (P.wideKeysFrom ·)))=true) (h18:(s.vars.all (P.varReadable ·))=true) (h19:(fn.resultTypes.all (fun t=>P.readableRec t&&decide (t<P.types.size)))=true) (h20:((c.ifacesOut==fn.resultTypes.toList.any (P.ifacesRec ·)))=true) (h21:((c.loopsOut==fn.resultTypes.toList.any (P.loopsFrom ·)))=true) (h22:((c.plainKeys==P.plainKeys))=true) (h23:(c.shortTexts.isNone)=true) (h24:(P.stopsHeard)=true) (h25:(P.mayEnter)=true) (h26:((c.lifted==P.liftsFinal))=true) (h27:((P.make==some c.make))=true) (h28:((c.kinds==(if c.domain.isEmpty then [] else fn.params.toList.map fun t=>match P.underlying t with|some (.int k)=>some k|_=>none)))=true) (h29:((c.pinned==c.pinnedBy))=true) (h30:((c.veiled==(fn.params.toList++s.plain.varTypes P++fn.resultTypes.toList).any (P.veiledRec ·)))=true) (h31:(c.veiledFits P fn.params.toList (fn.params.toList++s.plain.varTypes P++fn.resultTypes.toList))=true):joinedFacts P f fn s c=true:=by
 unfold joinedFacts;exact and2 (and2 (and2 (and2 (and2 (and2 (and2 (and2 (and2 (and2 (and2 (and2 (and2 (and2 (and2 (and2 (and2 (and2 (and2 (and2 (and2 (and2 (and2 (and2 (and2 (and2 (and2 (and2 (and2 (and2 (and2 (h0) h1) h2) h3) h4) h5) h6) h7) h8) h9) h10) h11) h12) h13) h14) h15) h16) h17) h18) h19) h20) h21) h22) h23) h24) h25) h26) h27) h28) h29) h30) h31
end
theorem routeFieldsUpto_j0:(Rows.routeFieldsUptoRow.wf (OpenSpec.ofChange (Rows.OpenSpec.upto Rows.routeFieldsSpec).bare))=true:=by kernel_rfl
theorem routeFieldsUpto_j1:(laidOutB Tryz.pinned.checked.prog)=true:=by kernel_rfl
theorem routeFieldsUpto_j2:(mapsRowed Tryz.pinned.checked.prog)=true:=by kernel_rfl
theorem routeFieldsUpto_j3:(Tryz.f3.params.all (Tryz.pinned.checked.prog.readableRec ·))=true:=by kernel_rfl
theorem routeFieldsUpto_j4:(namedTie Tryz.pinned.checked.prog Rows.routeFieldsUptoRow.named (Rows.OpenSpec.upto Rows.routeFieldsSpec).bare.vars)=true:=by kernel_rfl
theorem routeFieldsUpto_j5:((Rows.routeFieldsUptoRow.stops== []))=true:=by kernel_rfl
theorem routeFieldsUpto_j6:((Tryz.pinned.checked.prog.stops== []))=true:=by kernel_rfl
theorem routeFieldsUpto_j7:((Rows.routeFieldsUptoRow.knobs== []))=true:=by kernel_rfl
theorem routeFieldsUpto_j8:((Tryz.pinned.checked.prog.stopKnobs== []))=true:=by kernel_rfl
theorem routeFieldsUpto_j9:((Rows.routeFieldsUptoRow.inPlace==Tryz.pinned.checked.prog.inPlace 3))=true:=by kernel_rfl
theorem routeFieldsUpto_j10:((Rows.routeFieldsUptoRow.unfollowed==Tryz.pinned.checked.prog.unfollowed 3))=true:=by kernel_rfl
theorem routeFieldsUpto_j11:((Rows.routeFieldsUptoRow.recurses==Tryz.pinned.checked.prog.recurses 3))=true:=by kernel_rfl
theorem routeFieldsUpto_j12:((Rows.routeFieldsUptoRow.named==Tryz.pinned.checked.prog.varsNamed 3))=true:=by kernel_rfl
theorem routeFieldsUpto_j13:((Rows.routeFieldsUptoRow.maps==(Tryz.f3.params.toList++(Rows.OpenSpec.upto Rows.routeFieldsSpec).bare.plain.varTypes Tryz.pinned.checked.prog).any (Tryz.pinned.checked.prog.mapsRec ·)))=true:=by kernel_rfl
theorem routeFieldsUpto_j14:((Rows.routeFieldsUptoRow.ifaces==(Tryz.f3.params.toList++(Rows.OpenSpec.upto Rows.routeFieldsSpec).bare.plain.varTypes Tryz.pinned.checked.prog).any (Tryz.pinned.checked.prog.ifacesRec ·)))=true:=by kernel_rfl
theorem routeFieldsUpto_j15:((Rows.routeFieldsUptoRow.mapsOut==Tryz.pinned.checked.prog.mapsAmong Tryz.f3.resultTypes.toList))=true:=by kernel_rfl
theorem routeFieldsUpto_j16:((Rows.routeFieldsUptoRow.loops==(Tryz.f3.params.toList++(Rows.OpenSpec.upto Rows.routeFieldsSpec).bare.plain.varTypes Tryz.pinned.checked.prog).any (Tryz.pinned.checked.prog.loopsFrom ·)))=true:=by kernel_rfl
theorem routeFieldsUpto_j17:((Rows.routeFieldsUptoRow.wideKeys==(Tryz.f3.params.toList++(Rows.OpenSpec.upto Rows.routeFieldsSpec).bare.plain.varTypes Tryz.pinned.checked.prog++Tryz.f3.resultTypes.toList).any (Tryz.pinned.checked.prog.wideKeysFrom ·)))=true:=by kernel_rfl
theorem routeFieldsUpto_j18:((Rows.OpenSpec.upto Rows.routeFieldsSpec).bare.vars.all (Tryz.pinned.checked.prog.varReadable ·))=true:=by kernel_rfl
theorem routeFieldsUpto_j19:(Tryz.f3.resultTypes.all (fun t=>Tryz.pinned.checked.prog.readableRec t&&decide (t<Tryz.pinned.checked.prog.types.size)))=true:=by kernel_rfl
theorem routeFieldsUpto_j20:((Rows.routeFieldsUptoRow.ifacesOut==Tryz.f3.resultTypes.toList.any (Tryz.pinned.checked.prog.ifacesRec ·)))=true:=by kernel_rfl
theorem routeFieldsUpto_j21:((Rows.routeFieldsUptoRow.loopsOut==Tryz.f3.resultTypes.toList.any (Tryz.pinned.checked.prog.loopsFrom ·)))=true:=by kernel_rfl
theorem routeFieldsUpto_j22:((Rows.routeFieldsUptoRow.plainKeys==Tryz.pinned.checked.prog.plainKeys))=true:=by kernel_rfl
theorem routeFieldsUpto_j23:(Rows.routeFieldsUptoRow.shortTexts.isNone)=true:=by kernel_rfl
theorem routeFieldsUpto_j24:(Tryz.pinned.checked.prog.stopsHeard)=true:=by kernel_rfl
theorem routeFieldsUpto_j25:(Tryz.pinned.checked.prog.mayEnter)=true:=by kernel_rfl
theorem routeFieldsUpto_j26:((Rows.routeFieldsUptoRow.lifted==Tryz.pinned.checked.prog.liftsFinal))=true:=by kernel_rfl
theorem routeFieldsUpto_j27:((Tryz.pinned.checked.prog.make==some Rows.routeFieldsUptoRow.make))=true:=by kernel_rfl
theorem routeFieldsUpto_j28:((Rows.routeFieldsUptoRow.kinds==(if Rows.routeFieldsUptoRow.domain.isEmpty then [] else Tryz.f3.params.toList.map fun t=>match Tryz.pinned.checked.prog.underlying t with|some (.int k)=>some k|_=>none)))=true:=by kernel_rfl
theorem routeFieldsUpto_j29:((Rows.routeFieldsUptoRow.pinned==Rows.routeFieldsUptoRow.pinnedBy))=true:=by kernel_rfl
theorem routeFieldsUpto_j30:((Rows.routeFieldsUptoRow.veiled==(Tryz.f3.params.toList++(Rows.OpenSpec.upto Rows.routeFieldsSpec).bare.plain.varTypes Tryz.pinned.checked.prog++Tryz.f3.resultTypes.toList).any (Tryz.pinned.checked.prog.veiledRec ·)))=true:=by kernel_rfl
theorem routeFieldsUpto_j31:(Rows.routeFieldsUptoRow.veiledFits Tryz.pinned.checked.prog Tryz.f3.params.toList (Tryz.f3.params.toList++(Rows.OpenSpec.upto Rows.routeFieldsSpec).bare.plain.varTypes Tryz.pinned.checked.prog++Tryz.f3.resultTypes.toList))=true:=by kernel_rfl
theorem routeFieldsUpto_joined:joinedFacts Tryz.pinned.checked.prog 3 Tryz.f3 (Rows.OpenSpec.upto Rows.routeFieldsSpec).bare Rows.routeFieldsUptoRow=true:=joined_of routeFieldsUpto_j0 routeFieldsUpto_j1 routeFieldsUpto_j2 routeFieldsUpto_j3 routeFieldsUpto_j4 routeFieldsUpto_j5 routeFieldsUpto_j6 routeFieldsUpto_j7 routeFieldsUpto_j8 routeFieldsUpto_j9 routeFieldsUpto_j10 routeFieldsUpto_j11 routeFieldsUpto_j12 routeFieldsUpto_j13 routeFieldsUpto_j14 routeFieldsUpto_j15 routeFieldsUpto_j16 routeFieldsUpto_j17 routeFieldsUpto_j18 routeFieldsUpto_j19 routeFieldsUpto_j20 routeFieldsUpto_j21 routeFieldsUpto_j22 routeFieldsUpto_j23 routeFieldsUpto_j24 routeFieldsUpto_j25 routeFieldsUpto_j26 routeFieldsUpto_j27 routeFieldsUpto_j28 routeFieldsUpto_j29 routeFieldsUpto_j30 routeFieldsUpto_j31
end Go.Proofs.YtohkomndapngjaaGreatDoor

