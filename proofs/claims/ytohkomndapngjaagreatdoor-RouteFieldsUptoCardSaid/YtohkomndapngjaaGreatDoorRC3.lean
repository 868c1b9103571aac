/- Plain: what the outright laws of words say. No program in sight. Written by hand for this claim. -/
import Derived.Test.YtohkomndapngjaaGreatDoorRC2
import Derived.Test.YtohkomndapngjaaGreatDoorRC1
import Derived.Lib.MapLaws
import Derived.Lib.TrimUEq
import Derived.Lib.OthersKept
import Derived.Laws.Concat
import Derived.Deep.AppendLies
import Derived.Lib.Hide
import Derived.WalkSmall
import Derived.ProofKit
import Derived.Test.YtohkomndapngjaaGreatDoorShelfN
namespace Go.Proofs.YtohkomndapngjaaGreatDoor
set_option maxRecDepth 100000
set_option maxHeartbeats 16000000
namespace W
open Go.Lib (itoa decodeL validD)
theorem head_good (l:List UInt8) (hl:0<l.length) (c k:Int) (h:headD l=(c,k,true)):charOk c=true∧charL c=l.take k.toNat∧k=refW (l.getD 0 0).toNat∧1≤k∧k≤4∧k≤l.length:=by
 have hk:1≤k∧k≤4∧k≤l.length:=by
   rcases head_cases l hl with ⟨h1,_⟩|⟨c',k',h1,a,b,d,_⟩
   · rw [h1] at h;cases h
   · rw [h1] at h;cases h;omega
 have hr:=refD_head l hl;rw [h] at hr;unfold refD at hr;simp only at hr;split at hr
 · cases hr
 · split at hr
   · rename_i h1 h2;simp only [Bool.and_eq_true,decide_eq_true_eq] at h2;simp only [Prod.mk.injEq,and_true] at hr;obtain ⟨rfl,rfl⟩:=hr;exact ⟨h2.1,by rw [Int.toNat_natCast];exact h2.2,rfl,hk⟩
   · cases hr
theorem getD_append (a r:List UInt8) (i:Nat) (h:i<a.length):(a++r).getD i 0=a.getD i 0:=by
 rw [List.getD_eq_getElem?_getD,List.getD_eq_getElem?_getD,List.getElem?_append_left h]
theorem refC_append (a r:List UInt8):∀k,k<a.length→refC (a++r) k=refC a k
 | 0,h=>by unfold refC;rw [getD_append a r 0 h]
 | k+1,h=>by unfold refC;rw [getD_append a r (k+1) h,refC_append a r k (by omega)]
theorem refW_pos (b:Nat):1≤refW b:=by
 unfold refW;by_cases a4:240≤b
 · rw [if_pos a4];omega
 · rw [if_neg a4];by_cases a3:224≤b
   · rw [if_pos a3];omega
   · rw [if_neg a3];by_cases a2:192≤b
     · rw [if_pos a2];omega
     · rw [if_neg a2];omega
theorem refD_append (a r:List UInt8) (ha:0<a.length) (h:refW (a.getD 0 0).toNat≤a.length):refD (a++r)=refD a:=by
 have hw:=refW_pos (a.getD 0 0).toNat;unfold refD;rw [getD_append a r 0 ha];simp only;rw [if_neg (show ¬ (a++r).length<refW (a.getD 0 0).toNat by rw [List.length_append];omega),if_neg (show ¬ a.length<refW (a.getD 0 0).toNat by omega),refC_append a r _ (by omega),List.take_append_of_le_length h]
theorem head_append (a r:List UInt8) (ha:0<a.length) (h:refW (a.getD 0 0).toNat≤a.length):headD (a++r)=headD a:=by
 rw [←refD_head (a++r) (by rw [List.length_append];omega),←refD_head a ha,refD_append a r ha h]
end W
namespace J
open Go.Lib (validD itoa)
def namesOk:List ByteArray→List ByteArray→Bool
 | _,[]=>true
 | seen,x::r=> !(seen.any fun y=>decide (y.data.toList=x.data.toList))&&(validD x.data.toList&&namesOk (x::seen) r)
def plainOk (k:Nat) (b:Bool) (n:Int) (s:ByteArray):Bool:=decide (1≤k∧k≤6)&&((!b||k==2)&&((n==0||k==3)&&(s.data.toList.isEmpty||k==4)))
def listOk (k len nn:Nat):Bool:=(k==5||k==6||len==0)&&((k==6||nn==0)&&(k !=6||nn==len))
def flat (k:Nat) (b:Bool) (n:Int) (s:ByteArray) (len:Nat) (ns:List ByteArray):Bool:=plainOk k b n s&&(listOk k len ns.length&&(validD s.data.toList&&namesOk [] ns))
def mayT:T→Bool
 | .nil=>true
 | .cons k b n s l ns r=>(flat k b n s l.length ns&&mayT l)&&mayT r
def V.may (x:V):Bool:=flat x.k x.b x.n x.s x.l.length x.ns&&mayT x.l
def deepT:T→Nat
 | .nil=>0
 | .cons k _ _ _ l _ r=>max (if k=5∨k=6 then deepT l+1 else 0) (deepT r)
def V.deep (x:V):Nat:=if x.k=5∨x.k=6 then deepT x.l+1 else 0
def check (x:V):Int:=if x.may then (if 16<x.deep then 84 else 0) else 1
def byteJ (c:UInt8):List UInt8:=
 if c=34 then [92,34] else if c=92 then [92,92] else if c=8 then [92,98] else if c=12 then [92,102] else if c=10 then [92,110] else if c=13 then [92,114] else if c=9 then [92,116]
 else if c.toNat<16 then [92,117,48,48,48,W.hexD c.toNat] else if c.toNat<32 then [92,117,48,48,49,W.hexD (c.toNat-16)] else [c]
def quoteIn:List UInt8→List UInt8
 | []=> []
 | c::r=>byteJ c++quoteIn r
def quoteL (l:List UInt8):List UInt8:=34::(quoteIn l++ [34])
theorem quoteIn_append:∀(a b:List UInt8),quoteIn (a++b)=quoteIn a++quoteIn b
 | [],b=>rfl
 | c::a,b=>by simp only [List.cons_append,quoteIn,quoteIn_append a b,List.append_assoc]
def showT (obj : Bool) (first : Bool) : T → List ByteArray → List UInt8
  | .nil, _ => []
  | .cons k b n s l ns r, names => (if first then [] else [44]) ++ ((if obj then quoteL (names.headD ⟨#[]⟩).data.toList ++ [58] else []) ++
      ((if k = 1 then [110, 117, 108, 108] else if k = 2 then (if b then [116, 114, 117, 101] else [102, 97, 108, 115, 101]) else if k = 3 then itoa n else if k = 4 then quoteL s.data.toList
        else (if k = 6 then 123 else 91) :: (showT (k == 6) true l ns ++ [if k = 6 then 125 else 93])) ++ showT obj false r (names.drop 1)))
def V.show (x:V):List UInt8:=if x.k=1 then [110,117,108,108] else if x.k=2 then (if x.b then [116,114,117,101] else [102,97,108,115,101]) else if x.k=3 then itoa x.n else if x.k=4 then quoteL x.s.data.toList
 else (if x.k=6 then 123 else 91)::(showT (x.k==6) true x.l x.ns++ [if x.k=6 then 125 else 93])
def V.print (x:V):List UInt8×Int:=if check x=0 then (if 65536<x.show.length then ([],3) else (x.show,0)) else ([],check x)
end J
open Go.RowKit
open Go.Lib (hid validD decodeL)
namespace J
theorem charB_high (n:Nat) (h:128≤n):∀x∈W.charB n,128≤x:=by
 unfold W.charB;rw [if_neg (by omega)];repeat' split
 all_goals simp
 all_goals omega
theorem valid_step {l:List UInt8}(hne:0<l.length) (hv:validD l=true):∃c k:Nat,decodeL l=(c,k)∧c≤1114111∧W.charOk (c:Int)=true∧W.charL (c:Int)=l.take k∧1≤k∧k≤4∧k≤l.length∧validD (l.drop k)=true:=by
 have hl:l≠ []:=fun e=>by rw [e] at hne;simp at hne
 have hs:=Lib.validD_step l hl;rw [hv] at hs;by_cases h:(decodeL l).1=65533∧(decodeL l).2=1
 · rw [if_pos h] at hs;cases hs
 · rw [if_neg h] at hs;have hd:W.headD l=(((decodeL l).1:Int),((decodeL l).2:Int),true):=by unfold W.headD;rw [if_neg h]
   obtain ⟨h1,h2,_,h4,h5,h6⟩:=W.head_good l hne _ _ hd;rw [Int.toNat_natCast] at h2;exact ⟨(decodeL l).1,(decodeL l).2,rfl,Lib.decodeL_rune l,h1,h2,by omega,by omega,by omega,hs.symm⟩
theorem byteJ_high {b:UInt8}(h:128≤b.toNat):byteJ b= [b]:=by
 have hne:∀k:UInt8,k.toNat<128→b≠k:=fun k hk e=>by rw [e] at h;omega
 unfold byteJ;rw [if_neg (hne 34 (by decide)),if_neg (hne 92 (by decide)),if_neg (hne 8 (by decide)),if_neg (hne 12 (by decide)),if_neg (hne 10 (by decide)),if_neg (hne 13 (by decide)),if_neg (hne 9 (by decide)),if_neg (by omega),if_neg (by omega)]
theorem quoteIn_high:∀(l:List UInt8),(∀b∈l,128≤b.toNat)→quoteIn l=l
 | [],_=>rfl
 | b::r,h=>by rw [quoteIn,byteJ_high (h b (by simp)),quoteIn_high r (fun x hx=>h x (by simp [hx]))];rfl
theorem high_char {l:List UInt8}{a:UInt8}{r:List UInt8}(hl:l=a::r) (ha:128≤a.toNat) {c k:Nat}(hc:c≤1114111) (hk:1≤k) (h1:W.charOk (c:Int)=true) (h2:W.charL (c:Int)=l.take k):128≤c∧quoteIn (l.take k)=l.take k:=by
 have h3:W.charB c=(l.take k).map UInt8.toNat:=by
  rw [←h2];unfold W.charL;rw [if_pos h1,Int.toNat_natCast];exact (W.charN_toNat c hc).symm
 have h128:128≤c:=by
  apply Nat.le_of_not_lt;intro hlt;have:W.charB c= [c]:=by unfold W.charB;rw [if_pos (by omega)]
  rw [this,hl] at h3;obtain ⟨k',rfl⟩:∃k',k=k'+1:=⟨k-1,by omega⟩;simp only [List.take_succ_cons,List.map_cons,List.cons.injEq] at h3;omega
 refine ⟨h128,quoteIn_high _ (fun b hb=> ?_)⟩;have:=charB_high c h128 b.toNat (by rw [h3];exact List.mem_map_of_mem hb);exact this
theorem byteJ_plain {b:UInt8}(h:32≤b.toNat) (h1:b≠34) (h2:b≠92):byteJ b= [b]:=by
 have hne:∀k:UInt8,k.toNat<32→b≠k:=fun k hk e=>by rw [e] at h;omega
 unfold byteJ;rw [if_neg h1,if_neg h2,if_neg (hne 8 (by decide)),if_neg (hne 12 (by decide)),if_neg (hne 10 (by decide)),if_neg (hne 13 (by decide)),if_neg (hne 9 (by decide)),if_neg (by omega),if_neg (by omega)]
def signs:List UInt8:= [34,92,8,12,10,13,9]
theorem sign_not {b:UInt8}(h:¬ b∈signs):Lib.indexByte signs b= -1∧(b.toNat<16→byteJ b= [92,117,48,48,48,W.hexD b.toNat])∧(16≤b.toNat→b.toNat<32→byteJ b= [92,117,48,48,49,W.hexD (b.toNat-16)]):=by
 have hall:∀n:Fin 256,¬ UInt8.ofNat n.val∈signs→Lib.indexByte signs (UInt8.ofNat n.val)= -1∧((UInt8.ofNat n.val).toNat<16→byteJ (UInt8.ofNat n.val)= [92,117,48,48,48,W.hexD (UInt8.ofNat n.val).toNat])∧(16≤(UInt8.ofNat n.val).toNat→(UInt8.ofNat n.val).toNat<32→byteJ (UInt8.ofNat n.val)= [92,117,48,48,49,W.hexD ((UInt8.ofNat n.val).toNat-16)]):=by decide+kernel
 have:=hall ⟨b.toNat,b.toNat_lt⟩;simp only [UInt8.ofNat_toNat] at this;exact this h
theorem quoteIn_take {l:List UInt8}{p k:Nat}:quoteIn (l.take (p+k))=quoteIn (l.take p)++quoteIn ((l.drop p).take k):=by
 rw [List.take_add,quoteIn_append]
theorem byteJ_len (b:UInt8):(byteJ b).length≤6:=by
 unfold byteJ;repeat' split
 all_goals simp
theorem quoteIn_len:∀(l:List UInt8),(quoteIn l).length≤6*l.length
 | []=>Nat.le_refl _
 | b::r=>by
   have h1:=byteJ_len b;have h2:=quoteIn_len r;rw [quoteIn,List.length_append,List.length_cons];omega
end J
theorem kept_after {b:Nat}{w w':World}(h:Below w.heap.size w w'):Kept b w w':=fun v _o hv _ _=>(h.block v (Go.lt_of_block hv)).trans hv
theorem asc7:Asc ⟨#[34,92,8,12,10,13,9]⟩:=by
 intro j b h;have:∀x∈([34,92,8,12,10,13,9]:List UInt8),x.toNat<128:=by decide
 exact this b (List.mem_of_getElem? h)
theorem quote_any {B bb:Nat}{l:List UInt8}{s:ByteArray}{w:World}(h:Holds B bb l w) (hv:validD s.data.toList=true) (hTZ:∀W,Below B w W→Tz W) (hlen:l.length+6*s.size+2≤10000000000000):
  Calls Tryz.prog 46 #[.pointer (some ⟨bb,0,none⟩),.string s] w fun e w'=>e= .returned (.tuple #[])∧Holds B bb (l++J.quoteL s.data.toList) w'∧Below B w w'∧Kept bb w w':=by
 have hBw:=h.bw;have hbb:=h.lt;have HTZ:=hid hTZ;have HV:=hid hv;have cB:=writeByte_any B bb l 34 w h (by omega) hBw;clear hTZ hv h;go_enter Tryz.func46,Tryz.ntmps46;go_wp2_with fail;refine cB.mono ?_;rintro e w1 ⟨rfl,h1,h2,h3⟩;clear cB;obtain ⟨X,hX⟩:∃X,w1.heap.size=X:=⟨_,rfl⟩;have hs1:=h2.size;have HXB:Hid (B≤X∧bb<X∧w.heap.size≤X):=by show _∧_;have:=h1.lt;omega
 have HBW:=hid (h2.size);have HN1:Hid (Holds B bb (l++34::J.quoteIn (s.data.toList.take 0)) (w1.iter s 0)):=by
  show Holds _ _ _ _;rw [List.take_zero,show J.quoteIn []= [] from rfl];exact Lib.IsBuilderF.alloc h1 _
 have HN2:Hid ((w1.iter s 0).heap[X]? =some (.stringIter s 0)):=by show _=_;rw [←hX];exact World.iter_heap w1 s 0
 have HN3:Hid (Below B w (w1.iter s 0)):=h2.alloc (by omega) _;have HN4:Hid (Kept bb w (w1.iter s 0)):=Lib.OthersKept.trans h3 (kept_after (Below.iter w1 s 0));have HX:=hid hX;clear h1 h2 h3 hX hs1;go_wp2_with fail;rw [HX.out];clear HX;go_loopw [] (fun wr=> ∃(pos:Nat),pos≤s.size∧Hid (Holds B bb (l++34::J.quoteIn (s.data.toList.take pos)) wr∧wr.heap[X]? =some (.stringIter s pos)∧(Below B w wr∧Kept bb w wr)∧validD (s.data.toList.drop pos)=true)) (fun wr=>s.size-wr.iterPos X)
 case atStart=>exact ⟨0,Nat.zero_le _,hid ⟨HN1.out,HN2.out,⟨HN3.out,HN4.out⟩,HV.out⟩⟩
 case round=>
  obtain ⟨pos,hpos,HI⟩:=hrel;clear HN1 HN2 HN3 HN4;by_cases hp:pos<s.size
  · have hdl:=Lib.decodeL_drop s pos;have hlen:0<(s.data.toList.drop pos).length:=by rw [drop_len];omega
    obtain ⟨c,k,hck,hc1,hok,htk,hk1,hk4,hkl,hvd⟩:=J.valid_step hlen HI.out.2.2.2;rw [hck] at hdl;rw [drop_len] at hkl;have hnx:∀ty,(Instr.next (.pointer (some ⟨X,0,none⟩)) true ty).run Tryz.prog wr=_:=fun ty=>Lib.run_next_any_at wr X s pos ty HI.out.2.1 hp
    rw [←hdl] at hnx;simp only at hnx;have HO2:=hid (HI.out.1.iterAt HI.out.2.1 (pos+k));have HT2:=hid (Lib.iterAt_heap wr X s pos (pos+k) HI.out.2.1);have HB2:=hid (Lib.below_iterAt HI.out.2.2.1.1 (k:=X) (by have:=HXB.out;omega) s (pos+k));have HK2:Hid (Kept bb w (wr.iterAt X s (pos+k))):=by
      refine fun v o hv hb hT=> ?_
      rw [Lib.iterAt_other wr X v s (pos+k) (by have:=Go.lt_of_block hv;have:=HXB.out;omega)];exact HI.out.2.2.1.2 v o hv hb hT
    have hBr:B≤(wr.iterAt X s (pos+k)).heap.size:=by rw [Lib.iterAt_size];have:=HI.out.2.2.1.1.size;omega
    have HZ2:Hid (∀W,Below B (wr.iterAt X s (pos+k)) W→Tz W):=fun W hW=>HTZ.out W (HB2.out.trans hW)
    have HL2:Hid ((l++34::J.quoteIn (s.data.toList.take pos)).length+6≤100000000000000):=by
      show _≤_;have:=J.quoteIn_len (s.data.toList.take pos);rw [List.length_take,←Lib.size_eq] at this;rw [List.length_append,List.length_cons];omega
    have HQ:Hid (J.quoteIn (s.data.toList.take (pos+k))=J.quoteIn (s.data.toList.take pos)++J.quoteIn ((s.data.toList.drop pos).take k)):=J.quoteIn_take;have HVD:Hid (validD (s.data.toList.drop (pos+k))=true):=by show _=_;rw [←List.drop_drop];exact hvd
    have hX':X≠bb:=by have:=HXB.out;omega
    obtain ⟨w2,hw2⟩:∃w2,wr.iterAt X s (pos+k)=w2:=⟨_,rfl⟩;rw [hw2] at hnx HO2 HT2 HB2 HK2 hBr HZ2;obtain ⟨acc,hacc⟩:∃acc,l++34::J.quoteIn (s.data.toList.take pos)=acc:=⟨_,rfl⟩;have HACC:=hid hacc;rw [hacc] at HO2 HL2;have hdc:s.data.toList.drop pos=s[pos]::s.data.toList.drop (pos+1):=drop_at hp;obtain ⟨a,ha⟩:∃a,s[pos]=a:=⟨_,rfl⟩;rw [ha] at hdc;have HDC:=hid hdc;have hpk:pos+k≤s.size:=by omega
    have hpk1:pos<pos+k:=by omega
    have HTK:=hid htk;clear hdl hlen hvd hw2 hacc hdc ha htk hkl;have hHL:=HL2.out;by_cases ha:a.toNat<128
    · have hd:=Lib.decodeL_ascii a (s.data.toList.drop (pos+1)) ha;rw [←HDC.out,hck] at hd;obtain ⟨rfl,rfl⟩:c=a.toNat∧k=1:=by simpa using hd
      clear hd hck;have HQ1:Hid (J.quoteIn (s.data.toList.take (pos+1))=J.quoteIn (s.data.toList.take pos)++J.byteJ a):=by
        show _=_;rw [HQ.out,HDC.out];simp [J.quoteIn]
      have cI:=Tryz.strings_IndexRune_ascii ⟨#[34,92,8,12,10,13,9]⟩ (a.toNat:Int) w2 (by omega) (by omega);rw [Int.toNat_natCast,show a.toNat.toUInt8=a from UInt8.ofNat_toNat] at cI;have ha0:(0:Int)≤(a.toNat:Int):=by omega
      by_cases hs:a∈J.signs
      · simp only [J.signs,List.mem_cons,List.not_mem_nil,or_false] at hs;rcases hs with rfl|rfl|rfl|rfl|rfl|rfl|rfl
        · have hi:Lib.indexByte (⟨#[34,92,8,12,10,13,9]⟩:ByteArray).data.toList 34=0:=by decide
          rw [hi] at cI;have hcat:∀X:World,(Op.stringOp .add (⟨#[92]⟩:ByteArray) ⟨#[34]⟩).run Tryz.prog X= .ok (.string ⟨#[92,34]⟩) X:=fun X=>run_string_add_lists (P:=Tryz.prog) X [92] [34] (by simp) (by simp)
          have hcut:(⟨#[34,92,98,102,110,114,116]⟩:ByteArray).extract 0 1=⟨#[34]⟩:=by decide
          clear hi;go_wp2_with fail;refine cI.mono ?_;rintro e w3 ⟨rfl,hw⟩;rw [hw];clear hw cI;go_wp2_with fail;refine (writeString_any B bb acc ⟨#[92,34]⟩ w2 HO2.out (by have:=HL2.out;show _+2≤_;omega) hBr).mono ?_;rintro e w3 ⟨rfl,h1,h2,h3⟩;have HO4:=hid h1;have HT4:=hid (h3.iter HT2.out hX');have HB4:=hid (HB2.out.trans h2);have HK4:Hid (Kept bb w w3):=Lib.OthersKept.trans HK2.out h3;clear h1 h2 h3;go_wp2_with fail;go_roundw
          case rel=>
            refine ⟨pos+1,hpk,hid ⟨?_,HT4.out,⟨HB4.out,HK4.out⟩,HVD.out⟩⟩;rw [HQ1.out,show J.byteJ 34= [92,34] from rfl,←List.cons_append,←List.append_assoc,HACC.out];exact HO4.out
          case measure=>
            simp only [World.iterPos,HT4.out,HI.out.2.1];omega
        · have hi:Lib.indexByte (⟨#[34,92,8,12,10,13,9]⟩:ByteArray).data.toList 92=1:=by decide
          rw [hi] at cI;have hcat:∀X:World,(Op.stringOp .add (⟨#[92]⟩:ByteArray) ⟨#[92]⟩).run Tryz.prog X= .ok (.string ⟨#[92,92]⟩) X:=fun X=>run_string_add_lists (P:=Tryz.prog) X [92] [92] (by simp) (by simp)
          have hcut:(⟨#[34,92,98,102,110,114,116]⟩:ByteArray).extract 1 2=⟨#[92]⟩:=by decide
          clear hi;go_wp2_with fail;refine cI.mono ?_;rintro e w3 ⟨rfl,hw⟩;rw [hw];clear hw cI;go_wp2_with fail;refine (writeString_any B bb acc ⟨#[92,92]⟩ w2 HO2.out (by have:=HL2.out;show _+2≤_;omega) hBr).mono ?_;rintro e w3 ⟨rfl,h1,h2,h3⟩;have HO4:=hid h1;have HT4:=hid (h3.iter HT2.out hX');have HB4:=hid (HB2.out.trans h2);have HK4:Hid (Kept bb w w3):=Lib.OthersKept.trans HK2.out h3;clear h1 h2 h3;go_wp2_with fail;go_roundw
          case rel=>
            refine ⟨pos+1,hpk,hid ⟨?_,HT4.out,⟨HB4.out,HK4.out⟩,HVD.out⟩⟩;rw [HQ1.out,show J.byteJ 92= [92,92] from rfl,←List.cons_append,←List.append_assoc,HACC.out];exact HO4.out
          case measure=>
            simp only [World.iterPos,HT4.out,HI.out.2.1];omega
        · have hi:Lib.indexByte (⟨#[34,92,8,12,10,13,9]⟩:ByteArray).data.toList 8=2:=by decide
          rw [hi] at cI;have hcat:∀X:World,(Op.stringOp .add (⟨#[92]⟩:ByteArray) ⟨#[98]⟩).run Tryz.prog X= .ok (.string ⟨#[92,98]⟩) X:=fun X=>run_string_add_lists (P:=Tryz.prog) X [92] [98] (by simp) (by simp)
          have hcut:(⟨#[34,92,98,102,110,114,116]⟩:ByteArray).extract 2 3=⟨#[98]⟩:=by decide
          clear hi;go_wp2_with fail;refine cI.mono ?_;rintro e w3 ⟨rfl,hw⟩;rw [hw];clear hw cI;go_wp2_with fail;refine (writeString_any B bb acc ⟨#[92,98]⟩ w2 HO2.out (by have:=HL2.out;show _+2≤_;omega) hBr).mono ?_;rintro e w3 ⟨rfl,h1,h2,h3⟩;have HO4:=hid h1;have HT4:=hid (h3.iter HT2.out hX');have HB4:=hid (HB2.out.trans h2);have HK4:Hid (Kept bb w w3):=Lib.OthersKept.trans HK2.out h3;clear h1 h2 h3;go_wp2_with fail;go_roundw
          case rel=>
            refine ⟨pos+1,hpk,hid ⟨?_,HT4.out,⟨HB4.out,HK4.out⟩,HVD.out⟩⟩;rw [HQ1.out,show J.byteJ 8= [92,98] from rfl,←List.cons_append,←List.append_assoc,HACC.out];exact HO4.out
          case measure=>
            simp only [World.iterPos,HT4.out,HI.out.2.1];omega
        · have hi:Lib.indexByte (⟨#[34,92,8,12,10,13,9]⟩:ByteArray).data.toList 12=3:=by decide
          rw [hi] at cI;have hcat:∀X:World,(Op.stringOp .add (⟨#[92]⟩:ByteArray) ⟨#[102]⟩).run Tryz.prog X= .ok (.string ⟨#[92,102]⟩) X:=fun X=>run_string_add_lists (P:=Tryz.prog) X [92] [102] (by simp) (by simp)
          have hcut:(⟨#[34,92,98,102,110,114,116]⟩:ByteArray).extract 3 4=⟨#[102]⟩:=by decide
          clear hi;go_wp2_with fail;refine cI.mono ?_;rintro e w3 ⟨rfl,hw⟩;rw [hw];clear hw cI;go_wp2_with fail;refine (writeString_any B bb acc ⟨#[92,102]⟩ w2 HO2.out (by have:=HL2.out;show _+2≤_;omega) hBr).mono ?_;rintro e w3 ⟨rfl,h1,h2,h3⟩;have HO4:=hid h1;have HT4:=hid (h3.iter HT2.out hX');have HB4:=hid (HB2.out.trans h2);have HK4:Hid (Kept bb w w3):=Lib.OthersKept.trans HK2.out h3;clear h1 h2 h3;go_wp2_with fail;go_roundw
          case rel=>
            refine ⟨pos+1,hpk,hid ⟨?_,HT4.out,⟨HB4.out,HK4.out⟩,HVD.out⟩⟩;rw [HQ1.out,show J.byteJ 12= [92,102] from rfl,←List.cons_append,←List.append_assoc,HACC.out];exact HO4.out
          case measure=>
            simp only [World.iterPos,HT4.out,HI.out.2.1];omega
        · have hi:Lib.indexByte (⟨#[34,92,8,12,10,13,9]⟩:ByteArray).data.toList 10=4:=by decide
          rw [hi] at cI;have hcat:∀X:World,(Op.stringOp .add (⟨#[92]⟩:ByteArray) ⟨#[110]⟩).run Tryz.prog X= .ok (.string ⟨#[92,110]⟩) X:=fun X=>run_string_add_lists (P:=Tryz.prog) X [92] [110] (by simp) (by simp)
          have hcut:(⟨#[34,92,98,102,110,114,116]⟩:ByteArray).extract 4 5=⟨#[110]⟩:=by decide
          clear hi;go_wp2_with fail;refine cI.mono ?_;rintro e w3 ⟨rfl,hw⟩;rw [hw];clear hw cI;go_wp2_with fail;refine (writeString_any B bb acc ⟨#[92,110]⟩ w2 HO2.out (by have:=HL2.out;show _+2≤_;omega) hBr).mono ?_;rintro e w3 ⟨rfl,h1,h2,h3⟩;have HO4:=hid h1;have HT4:=hid (h3.iter HT2.out hX');have HB4:=hid (HB2.out.trans h2);have HK4:Hid (Kept bb w w3):=Lib.OthersKept.trans HK2.out h3;clear h1 h2 h3;go_wp2_with fail;go_roundw
          case rel=>
            refine ⟨pos+1,hpk,hid ⟨?_,HT4.out,⟨HB4.out,HK4.out⟩,HVD.out⟩⟩;rw [HQ1.out,show J.byteJ 10= [92,110] from rfl,←List.cons_append,←List.append_assoc,HACC.out];exact HO4.out
          case measure=>
            simp only [World.iterPos,HT4.out,HI.out.2.1];omega
        · have hi:Lib.indexByte (⟨#[34,92,8,12,10,13,9]⟩:ByteArray).data.toList 13=5:=by decide
          rw [hi] at cI;have hcat:∀X:World,(Op.stringOp .add (⟨#[92]⟩:ByteArray) ⟨#[114]⟩).run Tryz.prog X= .ok (.string ⟨#[92,114]⟩) X:=fun X=>run_string_add_lists (P:=Tryz.prog) X [92] [114] (by simp) (by simp)
          have hcut:(⟨#[34,92,98,102,110,114,116]⟩:ByteArray).extract 5 6=⟨#[114]⟩:=by decide
          clear hi;go_wp2_with fail;refine cI.mono ?_;rintro e w3 ⟨rfl,hw⟩;rw [hw];clear hw cI;go_wp2_with fail;refine (writeString_any B bb acc ⟨#[92,114]⟩ w2 HO2.out (by have:=HL2.out;show _+2≤_;omega) hBr).mono ?_;rintro e w3 ⟨rfl,h1,h2,h3⟩;have HO4:=hid h1;have HT4:=hid (h3.iter HT2.out hX');have HB4:=hid (HB2.out.trans h2);have HK4:Hid (Kept bb w w3):=Lib.OthersKept.trans HK2.out h3;clear h1 h2 h3;go_wp2_with fail;go_roundw
          case rel=>
            refine ⟨pos+1,hpk,hid ⟨?_,HT4.out,⟨HB4.out,HK4.out⟩,HVD.out⟩⟩;rw [HQ1.out,show J.byteJ 13= [92,114] from rfl,←List.cons_append,←List.append_assoc,HACC.out];exact HO4.out
          case measure=>
            simp only [World.iterPos,HT4.out,HI.out.2.1];omega
        · have hi:Lib.indexByte (⟨#[34,92,8,12,10,13,9]⟩:ByteArray).data.toList 9=6:=by decide
          rw [hi] at cI;have hcat:∀X:World,(Op.stringOp .add (⟨#[92]⟩:ByteArray) ⟨#[116]⟩).run Tryz.prog X= .ok (.string ⟨#[92,116]⟩) X:=fun X=>run_string_add_lists (P:=Tryz.prog) X [92] [116] (by simp) (by simp)
          have hcut:(⟨#[34,92,98,102,110,114,116]⟩:ByteArray).extract 6 7=⟨#[116]⟩:=by decide
          clear hi;go_wp2_with fail;refine cI.mono ?_;rintro e w3 ⟨rfl,hw⟩;rw [hw];clear hw cI;go_wp2_with fail;refine (writeString_any B bb acc ⟨#[92,116]⟩ w2 HO2.out (by have:=HL2.out;show _+2≤_;omega) hBr).mono ?_;rintro e w3 ⟨rfl,h1,h2,h3⟩;have HO4:=hid h1;have HT4:=hid (h3.iter HT2.out hX');have HB4:=hid (HB2.out.trans h2);have HK4:Hid (Kept bb w w3):=Lib.OthersKept.trans HK2.out h3;clear h1 h2 h3;go_wp2_with fail;go_roundw
          case rel=>
            refine ⟨pos+1,hpk,hid ⟨?_,HT4.out,⟨HB4.out,HK4.out⟩,HVD.out⟩⟩;rw [HQ1.out,show J.byteJ 9= [92,116] from rfl,←List.cons_append,←List.append_assoc,HACC.out];exact HO4.out
          case measure=>
            simp only [World.iterPos,HT4.out,HI.out.2.1];omega
      · obtain ⟨hi,hl16,hl32⟩:=J.sign_not hs;rw [show (⟨#[34,92,8,12,10,13,9]⟩:ByteArray).data.toList=J.signs from rfl,hi] at cI;by_cases h32:32≤a.toNat
        · have t1:decide ((a.toNat:Int)<16)=false:=decide_eq_false (by omega);have t2:decide ((a.toNat:Int)<32)=false:=decide_eq_false (by omega);have t1':decide (a.toNat<16)=false:=decide_eq_false (by omega);have t2':decide (a.toNat<32)=false:=decide_eq_false (by omega);have hbj:J.byteJ a= [a]:=J.byteJ_plain h32 (fun e=>hs (by rw [e];decide)) (fun e=>hs (by rw [e];decide));have hcl:W.charL (a.toNat:Int)= [a]:=by rw [HTK.out,HDC.out];rfl
          have cW:=writeRune_any B bb acc (a.toNat:Int) hok w2 HO2.out (by omega) hBr;rw [hcl] at cW;have HBJ:=hid hbj;clear hi hl16 hl32 hs hbj hcl;go_wp2_with fail;refine cI.mono ?_;rintro e w3 ⟨rfl,hw⟩;rw [hw];clear hw cI;go_wp2_with fail;refine cW.mono ?_;rintro e w3 ⟨⟨nn,rfl⟩,h1,h2,h3⟩;have HO4:=hid h1;have HT4:=hid (h3.iter HT2.out hX');have HB4:=hid (HB2.out.trans h2);have HK4:Hid (Kept bb w w3):=Lib.OthersKept.trans HK2.out h3;clear h1 h2 h3;go_wp2_with fail;go_roundw
          case rel=>
            refine ⟨pos+1,hpk,hid ⟨?_,HT4.out,⟨HB4.out,HK4.out⟩,HVD.out⟩⟩;rw [HQ1.out,HBJ.out,←List.cons_append,←List.append_assoc,HACC.out];exact HO4.out
          case measure=>
            simp only [World.iterPos,HT4.out,HI.out.2.1];omega
        · by_cases h16:a.toNat<16
          · have t1:decide ((a.toNat:Int)<16)=true:=decide_eq_true (by omega);have t1':decide (a.toNat<16)=true:=decide_eq_true (by omega);have hbj:=hl16 h16;have cF:=fmtHex_lo a.toNat h16 w2 (HZ2.out w2 (Below.refl _ _));obtain ⟨hx,hhx⟩:∃hx,W.hexD a.toNat=hx:=⟨_,rfl⟩;rw [hhx] at cF hbj;have hcat:∀X:World,(Op.stringOp .add (⟨#[92,117,48,48,48]⟩:ByteArray) ⟨#[hx]⟩).run Tryz.prog X= .ok (.string ⟨#[92,117,48,48,48,hx]⟩) X:=fun X=>run_string_add_lists (P:=Tryz.prog) X [92,117,48,48,48] [hx] (by simp) (by simp)
            have HBJ:=hid hbj;clear hi hl16 hl32 hs hbj hhx;go_wp2_with fail;refine cI.mono ?_;rintro e w3 ⟨rfl,hw⟩;rw [hw];clear hw cI;go_wp2_with fail;refine cF.mono ?_;rintro e w2' ⟨rfl,hf⟩;have HO3:=hid (Holds.after HO2.out hf);have HT3:=hid ((hf.block X (Go.lt_of_block HT2.out)).trans HT2.out);have hBr3:B≤w2'.heap.size:=Nat.le_trans hBr hf.size;have HB3:=hid (HB2.out.trans (hf.mono hBr));have HK3:Hid (Kept bb w w2'):=Lib.OthersKept.trans HK2.out (kept_after hf);clear hf;go_wp2_with fail;refine (writeString_any B bb acc ⟨#[92,117,48,48,48,hx]⟩ w2' HO3.out (by have:=HL2.out;show _+6≤_;omega) hBr3).mono ?_;rintro e w3 ⟨rfl,h1,h2,h3⟩;have HO4:=hid h1;have HT4:=hid (h3.iter HT3.out hX');have HB4:=hid (HB3.out.trans h2);have HK4:Hid (Kept bb w w3):=Lib.OthersKept.trans HK3.out h3;clear h1 h2 h3;go_wp2_with fail;go_roundw
            case rel=>
             refine ⟨pos+1,hpk,hid ⟨?_,HT4.out,⟨HB4.out,HK4.out⟩,HVD.out⟩⟩;rw [HQ1.out,HBJ.out,←List.cons_append,←List.append_assoc,HACC.out];exact HO4.out
            case measure=>
             simp only [World.iterPos,HT4.out,HI.out.2.1];omega
          · have t1:decide ((a.toNat:Int)<16)=false:=decide_eq_false (by omega);have t2:decide ((a.toNat:Int)<32)=true:=decide_eq_true (by omega);have t1':decide (a.toNat<16)=false:=decide_eq_false (by omega);have t2':decide (a.toNat<32)=true:=decide_eq_true (by omega);have hbj:=hl32 (by omega) (by omega);have cF:=fmtHex_hi a.toNat (a.toNat-16) (by omega) (by omega) w2 (HZ2.out w2 (Below.refl _ _));obtain ⟨hx,hhx⟩:∃hx,W.hexD (a.toNat-16)=hx:=⟨_,rfl⟩;rw [hhx] at cF hbj;have hcat:∀X:World,(Op.stringOp .add (⟨#[92,117,48,48]⟩:ByteArray) ⟨#[49,hx]⟩).run Tryz.prog X= .ok (.string ⟨#[92,117,48,48,49,hx]⟩) X:=fun X=>run_string_add_lists (P:=Tryz.prog) X [92,117,48,48] [49,hx] (by simp) (by simp)
            have HBJ:=hid hbj;clear hi hl16 hl32 hs hbj hhx;go_wp2_with fail;refine cI.mono ?_;rintro e w3 ⟨rfl,hw⟩;rw [hw];clear hw cI;go_wp2_with fail;refine cF.mono ?_;rintro e w2' ⟨rfl,hf⟩;have HO3:=hid (Holds.after HO2.out hf);have HT3:=hid ((hf.block X (Go.lt_of_block HT2.out)).trans HT2.out);have hBr3:B≤w2'.heap.size:=Nat.le_trans hBr hf.size;have HB3:=hid (HB2.out.trans (hf.mono hBr));have HK3:Hid (Kept bb w w2'):=Lib.OthersKept.trans HK2.out (kept_after hf);clear hf;go_wp2_with fail;refine (writeString_any B bb acc ⟨#[92,117,48,48,49,hx]⟩ w2' HO3.out (by have:=HL2.out;show _+6≤_;omega) hBr3).mono ?_;rintro e w3 ⟨rfl,h1,h2,h3⟩;have HO4:=hid h1;have HT4:=hid (h3.iter HT3.out hX');have HB4:=hid (HB3.out.trans h2);have HK4:Hid (Kept bb w w3):=Lib.OthersKept.trans HK3.out h3;clear h1 h2 h3;go_wp2_with fail;go_roundw
            case rel=>
             refine ⟨pos+1,hpk,hid ⟨?_,HT4.out,⟨HB4.out,HK4.out⟩,HVD.out⟩⟩;rw [HQ1.out,HBJ.out,←List.cons_append,←List.append_assoc,HACC.out];exact HO4.out
            case measure=>
             simp only [World.iterPos,HT4.out,HI.out.2.1];omega
    · obtain ⟨hc128,hqh⟩:=J.high_char HDC.out (by omega) hc1 hk1 hok HTK.out;have t1:decide ((c:Int)<16)=false:=decide_eq_false (by omega);have t2:decide ((c:Int)<32)=false:=decide_eq_false (by omega);have t1':decide (c<16)=false:=decide_eq_false (by omega);have t2':decide (c<32)=false:=decide_eq_false (by omega);have cI:=indexRune_high ⟨#[34,92,8,12,10,13,9]⟩ asc7 (by decide) (c:Int) (by omega) (by omega) w2;have HQH:=hid hqh;have hkt:(W.charL (c:Int)).length≤4:=by rw [HTK.out,List.length_take];omega
      have HOK:=hid hok;have HKT:=hid hkt;have hc0:(0:Int)≤(c:Int):=by omega
      clear hqh hck hok hkt;go_wp2_with fail;refine cI.mono ?_;rintro e w2' ⟨rfl,hf⟩;have HO3:=hid (Holds.after HO2.out hf);have HT3:=hid ((hf.block X (Go.lt_of_block HT2.out)).trans HT2.out);have hBr3:B≤w2'.heap.size:=Nat.le_trans hBr hf.size;have HB3:=hid (HB2.out.trans (hf.mono hBr));have HK3:Hid (Kept bb w w2'):=Lib.OthersKept.trans HK2.out (kept_after hf);clear hf;clear cI;go_wp2_with fail;refine (writeRune_any B bb acc (c:Int) HOK.out w2' HO3.out (by omega) hBr3).mono ?_;rintro e w3 ⟨⟨nn,rfl⟩,h1,h2,h3⟩;have HO4:=hid h1;have HT4:=hid (h3.iter HT3.out hX');have HB4:=hid (HB3.out.trans h2);have HK4:Hid (Kept bb w w3):=Lib.OthersKept.trans HK3.out h3;clear h1 h2 h3;go_wp2_with fail;go_roundw
      case rel=>
        refine ⟨pos+k,hpk,hid ⟨?_,HT4.out,⟨HB4.out,HK4.out⟩,HVD.out⟩⟩;rw [HQ.out,HQH.out,←HTK.out,←List.cons_append,←List.append_assoc,HACC.out];exact HO4.out
      case measure=>
        simp only [World.iterPos,HT4.out,HI.out.2.1];omega
  · have hnx:∀ty,(Instr.next (.pointer (some ⟨X,0,none⟩)) true ty).run Tryz.prog wr=_:=fun ty=>Lib.run_next_end_at wr X s pos ty HI.out.2.1 hp
    have hpe:s.data.toList.take pos=s.data.toList:=List.take_of_length_le (by rw [←Lib.size_eq];omega);have hql:=J.quoteIn_len s.data.toList;rw [←Lib.size_eq] at hql;have hO:=HI.out.1;rw [hpe] at hO;have cB:=writeByte_any B bb _ 34 wr hO (by rw [List.length_append,List.length_cons];omega) (by have:=HI.out.2.2.1.1.size;omega);clear hpe hql hO;go_wp2_with fail;refine cB.mono ?_;rintro e w3 ⟨rfl,h1,h2,h3⟩;have HF:Hid (Holds B bb (l++J.quoteL s.data.toList) w3∧Below B w w3∧Kept bb w w3):=⟨by unfold J.quoteL;rw [←List.cons_append,←List.append_assoc];exact h1,HI.out.2.2.1.1.trans h2,Lib.OthersKept.trans HI.out.2.2.1.2 h3⟩;clear h1 h2 h3 cB;go_wp2_with fail;go_end0;exact ⟨rfl,HF.out⟩
open Go.Lib (hid)
namespace J
def SIn (w:World) (P:Nat→Prop) (ns:List ByteArray) (v:Value):Prop:=
 (ns= []∧∃a c,v= .slice a 0 c∧(a=none→c=0))∨(0<ns.length∧∃b o c,v= .slice (some ⟨b,o,none⟩) ns.length c∧P b∧ns.length≤c∧∀j x,ns[j]? =some x→w.cell? ⟨b,o+j,none⟩=some (.string x))
theorem SIn.keep {P Q:Nat→Prop}{w w':World}(hP:∀b,P b→Q b) (h:∀b,P b→w'.heap[b]? =w.heap[b]?) {ns:List ByteArray}{v:Value}(hv:SIn w P ns v):SIn w' Q ns v:=by
 rcases hv with hv|⟨h0,b,o,c,hv,hb,hc,ha⟩
 · exact Or.inl hv
 · exact Or.inr ⟨h0,b,o,c,hv,hP b hb,hc,fun j x hj=>by rw [World.cell?_of_block (w:=w) (h b hb)];exact ha j x hj⟩
theorem SIn.mono {P Q:Nat→Prop}{w:World}(hP:∀b,P b→Q b) {ns:List ByteArray}{v:Value}(hv:SIn w P ns v):SIn w Q ns v:=hv.keep hP fun _ _=>rfl
theorem SIn.shape {P:Nat→Prop}{w:World}{ns:List ByteArray}{v:Value}(h:SIn w P ns v):∃a c,v= .slice a ns.length c:=by
 rcases h with ⟨rfl,a,c,h,_⟩|⟨_,b,o,c,h,_⟩
 · exact ⟨a,c,h⟩
 · exact ⟨_,c,h⟩
def T.At (w:World) (P:Nat→Prop):T→Nat→Nat→Prop
 | .nil,_,_=>True
 | .cons k b n s l ns r,g,o=>P g∧w.cell? ⟨g,o,none⟩=some (.int .u8 k)∧w.cell? ⟨g,o+1,none⟩=some (.bool b)∧w.cell? ⟨g,o+2,none⟩=some (.int .i64 n)∧w.cell? ⟨g,o+3,none⟩=some (.string s)∧
    (∃v,w.cell? ⟨g,o+4,none⟩=some v∧((l= .nil∧∃a c,v= .slice a 0 c∧(a=none→c=0))∨∃g' o' c,v= .slice (some ⟨g',o',none⟩) l.length c∧l.length≤c∧0<l.length∧l.At w P g' o'))∧
    (∃v,w.cell? ⟨g,o+5,none⟩=some v∧SIn w P ns v)∧r.At w P g (o+6)
def T.In (w:World) (P:Nat→Prop) (t:T) (v:Value):Prop:=
 (t= .nil∧∃a c,v= .slice a 0 c∧(a=none→c=0))∨∃g o c,v= .slice (some ⟨g,o,none⟩) t.length c∧t.length≤c∧0<t.length∧t.At w P g o
theorem T.At.keep {P Q:Nat→Prop}{w w':World}(hP:∀b,P b→Q b) (h:∀b,P b→w'.heap[b]? =w.heap[b]?):∀(t:T) (g o:Nat),t.At w P g o→t.At w' Q g o
 | .nil,_,_,_=>trivial
 | .cons k b n s l ns r,g,o,⟨hg,h0,h1,h2,h3,⟨v,h4,hv⟩,⟨u,h5,hu⟩,hr⟩=>by
   have hc:∀i,w'.cell? ⟨g,i,none⟩=w.cell? ⟨g,i,none⟩:=fun i=>World.cell?_of_block (w:=w) (h g hg)
   refine ⟨hP g hg,?_,?_,?_,?_,⟨v,?_,?_⟩,⟨u,?_,hu.keep hP h⟩,T.At.keep hP h r g (o+6) hr⟩
   · rw [hc];exact h0
   · rw [hc];exact h1
   · rw [hc];exact h2
   · rw [hc];exact h3
   · rw [hc];exact h4
   · rcases hv with hv|⟨g',o',c,hv,hl,hp,ha⟩
     · exact Or.inl hv
     · exact Or.inr ⟨g',o',c,hv,hl,hp,T.At.keep hP h l g' o' ha⟩
   · rw [hc];exact h5
theorem T.In.keep {P Q:Nat→Prop}{w w':World}(hP:∀b,P b→Q b) (h:∀b,P b→w'.heap[b]? =w.heap[b]?) {t:T}{v:Value}(hv:t.In w P v):t.In w' Q v:=by
 rcases hv with hv|⟨g,o,c,hv,hl,hp,ha⟩
 · exact Or.inl hv
 · exact Or.inr ⟨g,o,c,hv,hl,hp,T.At.keep hP h t g o ha⟩
theorem T.In.shape {P:Nat→Prop}{w:World}{t:T}{v:Value}(h:t.In w P v):∃a c,v= .slice a t.length c:=by
 rcases h with ⟨rfl,a,c,h,_⟩|⟨g,o,c,h,_⟩
 · exact ⟨a,c,h⟩
 · exact ⟨_,c,h⟩
def V.Has (w:World) (P:Nat→Prop) (x:V) (cs:List Value):Prop:= ∃lv nv,cs= [.int .u8 x.k,.bool x.b,.int .i64 x.n,.string x.s,lv,nv]∧x.l.In w P lv∧SIn w P x.ns nv
theorem V.Has.keep {P Q:Nat→Prop}{w w':World}(hP:∀b,P b→Q b) (h:∀b,P b→w'.heap[b]? =w.heap[b]?) {x:V}{cs:List Value}(hv:x.Has w P cs):x.Has w' Q cs:=by
 obtain ⟨lv,nv,h1,h2,h3⟩:=hv;exact ⟨lv,nv,h1,h2.keep hP h,h3.keep hP h⟩
def T.Cells (w:World) (P:Nat→Prop):T→List Value→Prop
 | .nil,cs=>cs= []
 | .cons k b n s l ns r,cs=> ∃lv nv cs',cs= .int .u8 k:: .bool b:: .int .i64 n:: .string s::lv::nv::cs'∧l.In w P lv∧SIn w P ns nv∧r.Cells w P cs'
theorem T.Cells.keep {P Q:Nat→Prop}{w w':World}(hP:∀b,P b→Q b) (h:∀b,P b→w'.heap[b]? =w.heap[b]?):∀(t:T) (cs:List Value),t.Cells w P cs→t.Cells w' Q cs
 | .nil,_,hc=>hc
 | .cons _ _ _ _ _ _ r,_,⟨lv,nv,cs',he,hl,hn,hr⟩=>⟨lv,nv,cs',he,hl.keep hP h,hn.keep hP h,T.Cells.keep hP h r cs' hr⟩
theorem T.Cells.app {P:Nat→Prop}{w:World}:∀(a b:T) (cs ds:List Value),a.Cells w P cs→b.Cells w P ds→(a.app b).Cells w P (cs++ds)
 | .nil,b,cs,ds,hc,hd=>by
   rw [show cs= [] from hc]
   exact hd
 | .cons _ _ _ _ _ _ r,b,_,ds,⟨lv,nv,cs',he,hl,hn,hr⟩,hd=>⟨lv,nv,cs'++ds,by rw [he];rfl,hl,hn,T.Cells.app r b cs' ds hr hd⟩
theorem T.Cells.one {P:Nat→Prop}{w:World}{x:V}{cs:List Value}(h:x.Has w P cs):x.one.Cells w P cs:=by
 obtain ⟨lv,nv,rfl,h2,h3⟩:=h;exact ⟨lv,nv,[],rfl,h2,h3,rfl⟩
theorem T.Cells.at {P:Nat→Prop}{w:World}{g:Nat}(hg:P g):∀(t:T) (cs:List Value) (o:Nat),t.Cells w P cs→(∀j u,cs[j]? =some u→w.cell? ⟨g,o+j,none⟩=some u)→t.At w P g o
 | .nil,_,_,_,_=>trivial
 | .cons k b n s l ns r,cs,o,⟨lv,nv,cs',he,hl,hn,hr⟩,hc=>by
   subst he
   refine ⟨hg,hc 0 _ rfl,hc 1 _ rfl,hc 2 _ rfl,hc 3 _ rfl,⟨lv,hc 4 _ rfl,?_⟩,⟨nv,hc 5 _ rfl,hn⟩,T.Cells.at hg r cs' (o+6) hr (fun j u hj=> ?_)⟩
   · rcases hl with hl|⟨g',o',c,hv,h1,h2,h3⟩
     · exact Or.inl hl
     · exact Or.inr ⟨g',o',c,hv,h1,h2,h3⟩
   · have:=hc (j+6) u (by simpa using hj)
     rw [show o+6+j=o+(j+6) by omega]
     exact this
end J
def Own (w:World) (B:Nat) (g0:Option Nat) (b:Nat):Prop:=B≤b∧b<w.heap.size∧g0≠some b∧∃cs T,w.heap[b]? =some (.cells cs T (0,0))
def JOwn (E:TypeId) (B:Nat) (t:J.T) (v:Value) (w:World):Prop:=
 ∃cs,w.ownsRow B E 6 v t.length cs∧t.Cells w (Own w B v.ownBlock) cs
theorem JOwn.nil (E:TypeId) (B:Nat) (w:World):JOwn E B .nil (.slice none 0 0) w:=⟨[],World.ownsRow_nil _ _ _ _,rfl⟩
theorem JOwn.is {E:TypeId}{B:Nat}{t:J.T}{v:Value}{w:World}(h:JOwn E B t v w):t.In w (Own w B none) v:=by
 obtain ⟨cs,h1,h2⟩:=h;have hlt:=World.ownsRow.lt h1;have hc:=fun g (hg:v.ownBlock=some g)=>World.ownsRow.cells h1 hg
 rcases h1.2 with ⟨rfl,h0⟩|⟨g,cap,cur,rfl,_,hgr,hcap,_⟩
 · refine Or.inl ⟨?_,none,0,rfl,fun _=>rfl⟩;cases t with
   | nil=>rfl
   | cons=>simp [J.T.length] at h0
 · rcases Nat.eq_zero_or_pos t.length with h0|h0
   · refine Or.inl ⟨?_,_,cap,by rw [h0],fun h=>by cases h⟩;cases t with
     | nil=>rfl
     | cons=>simp [J.T.length] at h0
   · refine Or.inr ⟨g,0,cap,rfl,hcap,h0,?_⟩;refine J.T.Cells.at (P:=Own w B none) ⟨(hlt g rfl).1,(hlt g rfl).2,(fun e=>by cases e),_,_,hgr⟩ t cs 0 (J.T.Cells.keep (fun b hb=>⟨hb.1,hb.2.1,(fun e=>by cases e),hb.2.2.2⟩) (fun _ _=>rfl) t cs h2) (fun j u hj=> ?_);have:=hc g rfl j u hj;have e:(⟨g,0,none⟩:Addr).add j=⟨g,j,none⟩:=by cases j<;>simp [Addr.add]
     rw [e] at this;rw [Nat.zero_add];exact this
def Errs (w:World):Prop:=(∃tp p,w.var? Tryz.prog "strconv.ErrSyntax" =some #[.iface tp p])∧(∃tp p,w.var? Tryz.prog "strconv.ErrRange" =some #[.iface tp p])
theorem parseInt_any (s:ByteArray) (w:World) (hs:s.size≤281474976710656) (hE:Errs w):
   (∃v,W.libP s.data.toList=some v∧W.Fits v∧Calls Tryz.prog 93 #[.string s,.int .i64 10,.int .i64 64] w fun e w'=>e= .returned (.tuple #[.int .i64 v,.nilIface])∧Below w.heap.size w w')
   ∨(W.libP s.data.toList=none∧Calls Tryz.prog 93 #[.string s,.int .i64 10,.int .i64 64] w fun e w'=> ∃(x:Int) (N:Nat),e= .returned (.tuple #[.int .i64 x,.iface 343 (.pointer (some ⟨N,0,none⟩))])∧Below w.heap.size w w'):=by
 obtain ⟨⟨t1,p1,h1⟩,⟨t2,p2,h2⟩⟩:=hE;rcases h:Lib.parseIntB 64 s.data.toList with v|_|_
 · left;have hl:W.libP s.data.toList=some v:=by unfold W.libP;rw [h]
   refine ⟨v,hl,W.lib_fits _ _ hl,?_⟩;refine (Tryz.strconv_ParseInt_10_at64_ok s (by omega) v h w).mono ?_;rintro e w' ⟨rfl,hw⟩;refine ⟨rfl,?_⟩;rcases hw with rfl|⟨t,rfl⟩
   · exact Below.refl _ _
   · exact Lib.bytesWorld_below _ _ _
 · right;refine ⟨by unfold W.libP;rw [h],?_⟩;refine (Any.strconv_ParseInt_10_at64_syntax_var Tryz.laysC174 s hs h t1 p1 w h1).mono ?_;rintro e w' ⟨N,rfl,_,_,hb⟩;exact ⟨0,N,rfl,hb⟩
 · right;refine ⟨by unfold W.libP;rw [h],?_⟩;refine (Any.strconv_ParseInt_10_at64_range_var Tryz.laysC174 s hs h t2 p2 w h2).mono ?_;rintro e w' ⟨N,rfl,_,_,hb⟩;exact ⟨_,N,rfl,hb⟩
theorem Errs.keep {w w':World}(h:Errs w) (hb:Below w.heap.size w w'):Errs w':=by
 obtain ⟨⟨t1,p1,h1⟩,⟨t2,p2,h2⟩⟩:=h;have c1:w.cell? ⟨4,0,none⟩=some (.iface t1 p1):=by
  have h0:=World.var?_cell (show Tryz.prog.globalNamed "strconv.ErrSyntax" =some 4 by kernel_rfl) h1 0;simpa using h0
 have c2:w.cell? ⟨5,0,none⟩=some (.iface t2 p2):=by
  have h0:=World.var?_cell (show Tryz.prog.globalNamed "strconv.ErrRange" =some 5 by kernel_rfl) h2 0;simpa using h0
 exact ⟨⟨t1,p1,var?_below hb (show Tryz.prog.globalNamed "strconv.ErrSyntax" =some 4 by kernel_rfl) (Lib.lt_of_cell c1) h1⟩,
  ⟨t2,p2,var?_below hb (show Tryz.prog.globalNamed "strconv.ErrRange" =some 5 by kernel_rfl) (Lib.lt_of_cell c2) h2⟩⟩
theorem parseInt_some {s:ByteArray}{v:Int}(h:W.libP s.data.toList=some v) (hs:s.size≤281474976710656) {w:World}(hE:Errs w):
   Calls Tryz.prog 93 #[.string s,.int .i64 10,.int .i64 64] w fun e w'=>e= .returned (.tuple #[.int .i64 v,.nilIface])∧Below w.heap.size w w':=by
 rcases parseInt_any s w hs hE with ⟨u,hu,_,hc⟩|⟨hu,_⟩
 · rw [h] at hu;cases hu;exact hc
 · rw [h] at hu;cases hu
theorem parseInt_none {s:ByteArray}(h:W.libP s.data.toList=none) (hs:s.size≤281474976710656) {w:World}(hE:Errs w):
   Calls Tryz.prog 93 #[.string s,.int .i64 10,.int .i64 64] w fun e w'=> ∃(x:Int) (N:Nat),e= .returned (.tuple #[.int .i64 x,.iface 343 (.pointer (some ⟨N,0,none⟩))])∧Below w.heap.size w w':=by
 rcases parseInt_any s w hs hE with ⟨u,hu,_,hc⟩|⟨_,hc⟩
 · rw [h] at hu;cases hu
 · exact hc
end Go.Proofs.YtohkomndapngjaaGreatDoor

