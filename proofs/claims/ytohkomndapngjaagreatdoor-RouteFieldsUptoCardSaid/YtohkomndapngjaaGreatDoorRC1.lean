/- Plain: what a name is, over the bytes of a text. No program in sight. Written by hand for this claim. -/
import Derived.Lib.ValidLaws
import Derived.Lib.TrimU
import Derived.Lib.DecodeNEq
import Derived.RowKit
import Derived.WalkKit
import Derived.Deep.WholeRow
import Derived.Below
import Derived.OneCell
import Derived.Test.YtohkomndapngjaaGreatDoorShelf
import Derived.BigRegion
import Derived.BigQuiet
import Derived.Deep.RegionWith
import Derived.Deep.DrawnRows
import Derived.RegionTactic
import Derived.Maps.AppendAt
import Derived.Lib.IndexBytes
import Derived.Deep.QuietTactic
import Derived.WalkSmall
namespace Go.Proofs.YtohkomndapngjaaGreatDoor
set_option maxRecDepth 100000
set_option maxHeartbeats 16000000
namespace W
def letter (n:Nat):Bool:=decide (97≤n∧n≤122)||decide (65≤n∧n≤90)
def other (n:Nat):Bool:=decide (48≤n∧n≤57)||decide (n=45)||decide (n=95)||decide (n=46)
def stands (i n:Nat):Bool:=letter n||(other n&&decide (i≠0))
def standsAll:Nat→List UInt8→Bool
 | _,[]=>true
 | i,c::r=>stands i c.toNat&&standsAll (i+1) r
def nameB (l:List UInt8):Bool:=decide (1≤l.length∧l.length≤32)&&standsAll 0 l
theorem drop_cons (s:ByteArray) (k:Nat) (h:k<s.size):s.data.toList.drop k=s[k]::s.data.toList.drop (k+1):=by
 rw [List.drop_eq_getElem_cons (by simpa using h)];rfl
theorem nameB_len (s:ByteArray) (h:¬ (1≤s.size∧s.size≤32)):nameB s.data.toList=false:=by
 unfold nameB;rw [decide_eq_false (by simpa using h)];rfl
theorem nameB_of (s:ByteArray) (h:1≤s.size∧s.size≤32):nameB s.data.toList=standsAll 0 s.data.toList:=by
 unfold nameB;rw [decide_eq_true (by simpa using h)];simp
def okAll:List UInt8→Bool
 | []=>true
 | c::r=>(letter c.toNat||other c.toNat)&&okAll r
theorem okAll_of:∀(l:List UInt8) (i:Nat),0<i→standsAll i l=okAll l
 | [],_,_=>rfl
 | c::l,i,h=>by
   have hi:i≠0:=by omega
   simp only [standsAll,okAll,okAll_of l (i+1) (by omega),stands,hi,ne_eq,not_false_eq_true,decide_true,Bool.and_true]
theorem stands_first (s:ByteArray) (h:0<s.size):standsAll 0 s.data.toList=(letter s[0].toNat&&okAll s.data.toList):=by
 have e:s.data.toList=s[0]::s.data.toList.drop 1:=by have:=drop_cons s 0 h;simpa using this
 rw [e];simp only [standsAll,okAll,okAll_of _ 1 (by omega),stands,ne_eq,not_true_eq_false,decide_false,Bool.and_false,Bool.or_false];cases letter s[0].toNat<;>simp
theorem ok_round (s:ByteArray) (k:Nat) (h:k<s.size):okAll (s.data.toList.drop k)=((letter s[k].toNat||other s[k].toNat)&&okAll (s.data.toList.drop (k+1))):=by
 rw [drop_cons s k h];rfl
theorem ok_end (s:ByteArray):okAll (s.data.toList.drop s.size)=true:=by
 rw [List.drop_of_length_le (by simp)];rfl
open Go.Lib
def charOk (c:Int):Bool:=decide (0≤c∧c≤55295)||decide (57344≤c∧c≤1114111)
def charB (n:Nat):List Nat:=
 if n≤127 then [n]
 else if n≤2047 then [192+n / 64,128+n % 64]
 else if n≤65535 then [224+n / 4096,128+n / 64 % 64,128+n % 64]
 else [240+n / 262144,128+n / 4096 % 64,128+n / 64 % 64,128+n % 64]
def charN (n:Nat):List UInt8:=(charB n).map UInt8.ofNat
def charL (c:Int):List UInt8:=if charOk c then charN c.toNat else []
theorem charB_lt (n:Nat) (h:n≤1114111):∀x∈charB n,x<256:=by
 unfold charB;repeat' split
 all_goals simp
 all_goals omega
theorem charN_toNat (n:Nat) (h:n≤1114111):(charN n).map UInt8.toNat=charB n:=by
 unfold charN;rw [List.map_map];conv=>rhs;rw [←List.map_id (charB n)]
 apply List.map_congr_left;intro x hx;have:=charB_lt n h x hx;simp;omega
theorem toNat_inj:∀(l r:List UInt8),l.map UInt8.toNat=r.map UInt8.toNat→l=r
 | [],[],_=>rfl
 | [],_::_,h=>by simp at h
 | _::_,[],h=>by simp at h
 | a::l,b::r,h=>by
   simp only [List.map_cons,List.cons.injEq] at h
   rw [UInt8.toNat_inj.1 h.1,toNat_inj l r h.2]
theorem charN_eq (n:Nat) (h:n≤1114111) (l:List UInt8):charN n=l↔charB n=l.map UInt8.toNat:=
 ⟨fun e=>by rw [←e,charN_toNat n h],fun e=>toNat_inj _ _ (by rw [charN_toNat n h,e])⟩
theorem charN_encode (n:Nat) (h:charOk n=true):(Utf8.encode (n:Int)).data.toList=charN n:=by
 simp only [charOk,Bool.or_eq_true,decide_eq_true_eq] at h;have hv:Utf8.valid (n:Int)=true:=by simp [Utf8.valid];omega
 unfold Utf8.encode charN charB;simp only [hv,ite_true,Int.toNat_natCast];by_cases h1:n≤127
 · rw [if_pos (by omega),if_pos h1];rfl
 · rw [if_neg (by omega),if_neg h1];by_cases h2:n≤2047
   · rw [if_pos (by omega),if_pos h2];rfl
   · rw [if_neg (by omega),if_neg h2];by_cases h3:n≤65535
     · rw [if_pos (by omega),if_pos h3];rfl
     · rw [if_neg (by omega),if_neg h3];rfl
def headD (l:List UInt8):Int×Int×Bool:=
 if (decodeL l).1=65533∧(decodeL l).2=1 then (0,0,false) else ((decodeL l).1,(decodeL l).2,true)
def refW (b:Nat):Nat:=if 240≤b then 4 else if 224≤b then 3 else if 192≤b then 2 else 1
def refV (b:Nat):Int:=if 240≤b then (b:Int)-240 else if 224≤b then (b:Int)-224 else if 192≤b then (b:Int)-192 else b
def refC (l:List UInt8):Nat→Int
 | 0=>refV (l.getD 0 0).toNat
 | k+1=>refC l k*64+((l.getD (k+1) 0).toNat:Int)-128
def refD (l:List UInt8):Int×Int×Bool:=
 let n:=refW (l.getD 0 0).toNat
 if l.length<n then (0,0,false)
 else if charOk (refC l (n-1))&&decide (charL (refC l (n-1))=l.take n) then (refC l (n-1),n,true) else (0,0,false)
theorem decodeL_N (l:List UInt8):decodeL l=decodeN l.length (l.getD 0 0).toNat (l.getD 1 0).toNat (l.getD 2 0).toNat (l.getD 3 0).toNat:=by
 have hg:∀i,((⟨l.toArray⟩:ByteArray).get! i)=l.getD i 0:=by
  intro i;show l.toArray[i]! =_;by_cases h:i<l.length
  · simp [h]
  · simp [h];rfl
 unfold decodeL;rw [decode_at];simp only [hg,Nat.zero_add,Nat.sub_zero];congr 1
theorem take_getD:∀(l:List UInt8) (n:Nat),n≤l.length→l.take n=(List.range n).map fun i=>l.getD i 0:=by
 intro l n h;apply List.ext_getElem?;intro i;by_cases hi:i<n
 · rw [List.getElem?_take_of_lt hi];simp [hi,show i<l.length by omega]
 · rw [List.getElem?_eq_none (by simp;omega),List.getElem?_eq_none (by simp;omega)]
theorem charL_eq (c:Int) (l:List UInt8) (h:charOk c=true):charL c=l↔charB c.toNat=l.map UInt8.toNat:=by
 unfold charL;rw [if_pos h];refine charN_eq _ ?_ l;simp only [charOk,Bool.or_eq_true,decide_eq_true_eq] at h;omega
theorem two_iff (b0 b1:Nat) (c:Int) (h0:192≤b0∧b0<224) (h1:b1<256) (hc:c=((b0:Int)-192)*64+(b1:Int)-128):
   (charOk c=true∧charB c.toNat= [b0,b1])↔(b1 / 64=2∧128≤b0 % 32*64+b1 % 64∧c=((b0 % 32*64+b1 % 64:Nat):Int)):=by
 simp only [charOk,Bool.or_eq_true,decide_eq_true_eq,charB];by_cases a1:c.toNat≤127
 · simp [a1];omega
 · by_cases a2:c.toNat≤2047
   · simp [a1,a2];omega
   · by_cases a3:c.toNat≤65535
     · simp [a1,a2,a3];omega
     · simp [a1,a2,a3];omega
theorem three_iff (b0 b1 b2:Nat) (c:Int) (_h0:224≤b0∧b0<240) (h1:b1<256) (h2:b2<256) (hc:c=(((b0:Int)-224)*64+(b1:Int)-128)*64+(b2:Int)-128):
   (charOk c=true∧charB c.toNat= [b0,b1,b2])↔(b1 / 64=2∧b2 / 64=2∧2048≤b0 % 16*4096+b1 % 64*64+b2 % 64∧(b0 % 16*4096+b1 % 64*64+b2 % 64<55296∨(57344≤b0 % 16*4096+b1 % 64*64+b2 % 64∧b0 % 16*4096+b1 % 64*64+b2 % 64≤1114111))∧c=((b0 % 16*4096+b1 % 64*64+b2 % 64:Nat):Int)):=by
 simp only [charOk,Bool.or_eq_true,decide_eq_true_eq,charB];by_cases a1:c.toNat≤127
 · simp [a1];omega
 · by_cases a2:c.toNat≤2047
   · simp [a1,a2];omega
   · by_cases a3:c.toNat≤65535
     · simp [a1,a2,a3];omega
     · simp [a1,a2,a3];omega
theorem four_iff (b0 b1 b2 b3:Nat) (c:Int) (h0:240≤b0∧b0<256) (h1:b1<256) (h2:b2<256) (h3:b3<256) (hc:c=((((b0:Int)-240)*64+(b1:Int)-128)*64+(b2:Int)-128)*64+(b3:Int)-128):
   (charOk c=true∧charB c.toNat= [b0,b1,b2,b3])↔(b0 / 8=30∧b1 / 64=2∧b2 / 64=2∧b3 / 64=2∧65536≤b0 % 8*262144+b1 % 64*4096+b2 % 64*64+b3 % 64∧b0 % 8*262144+b1 % 64*4096+b2 % 64*64+b3 % 64≤1114111∧c=((b0 % 8*262144+b1 % 64*4096+b2 % 64*64+b3 % 64:Nat):Int)):=by
 simp only [charOk,Bool.or_eq_true,decide_eq_true_eq,charB];by_cases a1:c.toNat≤127
 · simp [a1];omega
 · by_cases a2:c.toNat≤2047
   · simp [a1,a2];omega
   · by_cases a3:c.toNat≤65535
     · simp [a1,a2,a3];omega
     · simp [a1,a2,a3];omega
theorem one_iff (b0:Nat) (c:Int) (h0:b0<192) (hc:c=(b0:Int)):(charOk c=true∧charB c.toNat= [b0])↔b0<128:=by
 subst hc;simp only [charOk,Bool.or_eq_true,decide_eq_true_eq,charB,Int.toNat_natCast];by_cases a1:b0≤127
 · simp [a1];omega
 · simp [a1,show b0≤2047 by omega];omega
theorem test_iff (c:Int) (l:List UInt8):(charOk c&&decide (charL c=l))=true↔(charOk c=true∧charB c.toNat=l.map UInt8.toNat):=by
 rw [Bool.and_eq_true,decide_eq_true_eq];constructor
 · rintro ⟨a,b⟩;exact ⟨a,(charL_eq c l a).1 b⟩
 · rintro ⟨a,b⟩;exact ⟨a,(charL_eq c l a).2 b⟩
theorem refD_head (l:List UInt8) (hl:0<l.length):refD l=headD l:=by
 have hb:∀j,(l.getD j 0).toNat<256:=fun j=>UInt8.toNat_lt _
 have h0:=hb 0;have h1:=hb 1;have h2:=hb 2;have h3:=hb 3;have T1:1≤l.length→(l.take 1).map UInt8.toNat= [(l.getD 0 0).toNat]:=fun h=>by rw [take_getD l 1 h];rfl
 have T2:2≤l.length→(l.take 2).map UInt8.toNat= [(l.getD 0 0).toNat,(l.getD 1 0).toNat]:=fun h=>by rw [take_getD l 2 h];rfl
 have T3:3≤l.length→(l.take 3).map UInt8.toNat= [(l.getD 0 0).toNat,(l.getD 1 0).toNat,(l.getD 2 0).toNat]:=fun h=>by rw [take_getD l 3 h];rfl
 have T4:4≤l.length→(l.take 4).map UInt8.toNat= [(l.getD 0 0).toNat,(l.getD 1 0).toNat,(l.getD 2 0).toNat,(l.getD 3 0).toNat]:=fun h=>by rw [take_getD l 4 h];rfl
 have C0:refC l 0=refV (l.getD 0 0).toNat:=rfl;have C1:refC l 1=refV (l.getD 0 0).toNat*64+((l.getD 1 0).toNat:Int)-128:=rfl;have C2:refC l 2=(refV (l.getD 0 0).toNat*64+((l.getD 1 0).toNat:Int)-128)*64+((l.getD 2 0).toNat:Int)-128:=rfl;have C3:refC l 3=((refV (l.getD 0 0).toNat*64+((l.getD 1 0).toNat:Int)-128)*64+((l.getD 2 0).toNat:Int)-128)*64+((l.getD 3 0).toNat:Int)-128:=rfl;have I:∀n,(charOk (refC l (n-1))&&decide (charL (refC l (n-1))=l.take n))=true↔(charOk (refC l (n-1))=true∧charB (refC l (n-1)).toNat=(l.take n).map UInt8.toNat):=fun n=>test_iff _ _
 unfold headD refD;rw [decodeL_N];generalize (l.getD 0 0).toNat=b0 at*;generalize (l.getD 1 0).toNat=b1 at*;generalize (l.getD 2 0).toNat=b2 at*;generalize (l.getD 3 0).toNat=b3 at*;have bad:decodeN l.length b0 b1 b2 b3=(65533,1)→(if (decodeN l.length b0 b1 b2 b3).1=65533∧(decodeN l.length b0 b1 b2 b3).2=1 then ((0:Int),(0:Int),false) else (((decodeN l.length b0 b1 b2 b3).1:Int),((decodeN l.length b0 b1 b2 b3).2:Int),true))=(0,0,false):=fun e=>by rw [e];simp
 have good:∀c n:Nat,decodeN l.length b0 b1 b2 b3=(c,n)→¬ (c=65533∧n=1)→(if (decodeN l.length b0 b1 b2 b3).1=65533∧(decodeN l.length b0 b1 b2 b3).2=1 then ((0:Int),(0:Int),false) else (((decodeN l.length b0 b1 b2 b3).1:Int),((decodeN l.length b0 b1 b2 b3).2:Int),true))=((c:Int),(n:Int),true):=fun c n e h=>by rw [e];exact if_neg h
 have e4:=I 4;have e3:=I 3;have e2:=I 2;have e1:=I 1;clear I;by_cases k4:240≤b0
 · have hw:refW b0=4:=by unfold refW;rw [if_pos k4]
   have hv:refV b0=(b0:Int)-240:=by unfold refV;rw [if_pos k4]
   simp only [hw];by_cases hN:l.length<4
   · rw [if_pos hN];exact (bad (by unfold decodeN;rw [if_neg (by omega),if_neg (by omega),if_neg (by omega),if_neg (by omega)])).symm
   · rw [if_neg hN];rw [T4 (by omega)] at e4;have F:=e4.trans (four_iff b0 b1 b2 b3 _ ⟨k4,h0⟩ h1 h2 h3 (by show refC l 3=_;rw [C3,hv]));by_cases hT:(charOk (refC l (4-1))&&decide (charL (refC l (4-1))=l.take 4))=true
     · rw [if_pos hT];obtain ⟨f1,f2,f3,f4,f5,f6,f7⟩:=F.1 hT;rw [good _ 4 (by unfold decodeN;rw [if_neg (by omega),if_neg (by omega),if_neg (by omega),if_pos (by omega),if_pos (by omega)]) (by omega),f7]
     · rw [if_neg hT];refine (bad ?_).symm;unfold decodeN;rw [if_neg (by omega),if_neg (by omega),if_neg (by omega)];by_cases hc:b0 / 8=30∧(1<l.length∧b1 / 64=2)∧(2<l.length∧b2 / 64=2)∧(3<l.length∧b3 / 64=2)
       · rw [if_pos hc];exact if_neg (fun hq=>hT (F.2 ⟨hc.1,hc.2.1.2,hc.2.2.1.2,hc.2.2.2.2,by omega,by omega,by show refC l 3=_;rw [C3,hv];omega⟩))
       · exact if_neg hc
 · by_cases k3:224≤b0
   · have hw:refW b0=3:=by unfold refW;rw [if_neg k4,if_pos k3]
     have hv:refV b0=(b0:Int)-224:=by unfold refV;rw [if_neg k4,if_pos k3]
     simp only [hw];by_cases hN:l.length<3
     · rw [if_pos hN];exact (bad (by unfold decodeN;rw [if_neg (by omega),if_neg (by omega),if_neg (by omega),if_neg (by omega)])).symm
     · rw [if_neg hN];rw [T3 (by omega)] at e3;have F:=e3.trans (three_iff b0 b1 b2 _ ⟨k3,by omega⟩ h1 h2 (by show refC l 2=_;rw [C2,hv]));by_cases hT:(charOk (refC l (3-1))&&decide (charL (refC l (3-1))=l.take 3))=true
       · rw [if_pos hT];obtain ⟨f2,f3,f4,f5,f7⟩:=F.1 hT;rw [good _ 3 (by unfold decodeN;rw [if_neg (by omega),if_neg (by omega),if_pos (by omega),if_pos ⟨f4,f5⟩]) (by omega),f7]
       · rw [if_neg hT];refine (bad ?_).symm;unfold decodeN;rw [if_neg (by omega),if_neg (by omega)];by_cases hc:b0 / 16=14∧(1<l.length∧b1 / 64=2)∧(2<l.length∧b2 / 64=2)
         · rw [if_pos hc];exact if_neg (fun hq=>hT (F.2 ⟨hc.2.1.2,hc.2.2.2,hq.1,hq.2,by show refC l 2=_;rw [C2,hv];omega⟩))
         · rw [if_neg hc];exact if_neg (by omega)
   · by_cases k2:192≤b0
     · have hw:refW b0=2:=by unfold refW;rw [if_neg k4,if_neg k3,if_pos k2]
       have hv:refV b0=(b0:Int)-192:=by unfold refV;rw [if_neg k4,if_neg k3,if_pos k2]
       simp only [hw];by_cases hN:l.length<2
       · rw [if_pos hN];exact (bad (by unfold decodeN;rw [if_neg (by omega),if_neg (by omega),if_neg (by omega),if_neg (by omega)])).symm
       · rw [if_neg hN];rw [T2 (by omega)] at e2;have F:=e2.trans (two_iff b0 b1 _ ⟨k2,by omega⟩ h1 (by show refC l 1=_;rw [C1,hv]));by_cases hT:(charOk (refC l (2-1))&&decide (charL (refC l (2-1))=l.take 2))=true
         · rw [if_pos hT];obtain ⟨f2,f4,f7⟩:=F.1 hT;rw [good _ 2 (by unfold decodeN;rw [if_neg (by omega),if_pos (by omega),if_pos (by omega)]) (by omega),f7]
         · rw [if_neg hT];refine (bad ?_).symm;unfold decodeN;rw [if_neg (by omega)];by_cases hc:b0 / 32=6∧(1<l.length∧b1 / 64=2)
           · rw [if_pos hc];exact if_neg (fun hq=>hT (F.2 ⟨hc.2.2,by omega,by show refC l 1=_;rw [C1,hv];omega⟩))
           · rw [if_neg hc,if_neg (by omega)];exact if_neg (by omega)
     · have hw:refW b0=1:=by unfold refW;rw [if_neg k4,if_neg k3,if_neg k2]
       have hv:refV b0=(b0:Int):=by unfold refV;rw [if_neg k4,if_neg k3,if_neg k2]
       simp only [hw];rw [if_neg (show ¬ l.length<1 by omega)];rw [T1 (by omega)] at e1;have F:=e1.trans (one_iff b0 _ (by omega) (by show refC l 0=_;rw [C0,hv]));by_cases hT:(charOk (refC l (1-1))&&decide (charL (refC l (1-1))=l.take 1))=true
       · rw [if_pos hT];have f:=F.1 hT;rw [good b0 1 (by unfold decodeN;rw [if_pos f]) (by omega),show refC l (1-1)=(b0:Int) by show refC l 0=_;rw [C0,hv]]
       · rw [if_neg hT];refine (bad ?_).symm;have G:=fun r=>hT (F.2 r)
         unfold decodeN;rw [if_neg G,if_neg (by omega),if_neg (by omega)];exact if_neg (by omega)
end W
namespace J
inductive T where
 | nil
 | cons (k:Nat) (b:Bool) (n:Int) (s:ByteArray) (l:T) (ns:List ByteArray) (r:T)
structure V where
 k:Nat
 b:Bool
 n:Int
 s:ByteArray
 l:T
 ns:List ByteArray
def T.length:T→Nat
 | .nil=>0
 | .cons _ _ _ _ _ _ r=>r.length+1
def T.app:T→T→T
 | .nil,m=>m
 | .cons k b n s l ns r,m=> .cons k b n s l ns (r.app m)
def V.one (v:V):T:= .cons v.k v.b v.n v.s v.l v.ns .nil
def T.snoc (t:T) (v:V):T:=t.app v.one
theorem T.app_length:∀(a b:T),(a.app b).length=a.length+b.length
 | .nil,b=>by simp [T.app,T.length]
 | .cons _ _ _ _ _ _ r,b=>by simp only [T.app,T.length,T.app_length r b];omega
theorem T.app_nil:∀(a:T),a.app .nil=a
 | .nil=>rfl
 | .cons _ _ _ _ _ _ r=>by simp only [T.app,T.app_nil r]
theorem T.app_assoc:∀(a b c:T),(a.app b).app c=a.app (b.app c)
 | .nil,_,_=>rfl
 | .cons _ _ _ _ _ _ r,b,c=>by simp only [T.app,T.app_assoc r b c]
def V.zero:V:=⟨0,false,0,⟨#[]⟩,.nil,[]⟩
abbrev Res (α:Type):=Except (Nat×Int) (α×List UInt8)
def on {α β:Type}(f:α→β):Res α→Res β
 | .ok (a,r)=> .ok (f a,r)
 | .error e=> .error e
def blank (c:UInt8):Bool:=c==32||c==9||c==10||c==13
def skip:List UInt8→List UInt8
 | []=> []
 | c::r=>if blank c then skip r else c::r
theorem skip_length:∀(l:List UInt8),(skip l).length≤l.length
 | []=>Nat.le_refl _
 | c::r=>by
   unfold skip
   split
   · have:=skip_length r;simp;omega
   · exact Nat.le_refl _
theorem skip_suffix:∀(l:List UInt8),∃k,k≤l.length∧skip l=l.drop k
 | []=>⟨0,Nat.le_refl _,rfl⟩
 | c::r=>by
   unfold skip
   split
   · obtain ⟨k,h1,h2⟩:=skip_suffix r
     exact ⟨k+1,by simp;omega,h2⟩
   · exact ⟨0,Nat.zero_le _,rfl⟩
def word:List UInt8→List UInt8→Res Unit
 | [],l=> .ok ((),l)
 | _::_,[]=> .error (0,4)
 | c::w,d::l=>if d=c then word w l else .error (l.length+1,4)
def dig (c:UInt8):Bool:=decide (48≤c.toNat∧c.toNat≤57)
def numV (ds:List UInt8):Nat:=ds.foldl (fun a c=>10*a+(c.toNat-48)) 0
def num (l:List UInt8):Res Int:=
 let neg:=l.head? ==some 45
 let l1:=if neg then l.drop 1 else l
 let ds:=l1.takeWhile dig
 let rest:=l1.dropWhile dig
 match ds with
 | []=> .error (l1.length,4)
 | d::more=>
   if d=48∧more≠ [] then .error (l1.length-1,4)
   else if neg=true∧d=48 then .error (l1.length,4)
   else if neg=true then (if numV ds≤9223372036854775808 then .ok (-(numV ds:Nat),rest) else .error (l.length,91))
   else if numV ds≤9223372036854775807 then .ok ((numV ds:Nat),rest) else .error (l.length,91)
def hexV (c:UInt8):Option Nat:=
 if 48≤c.toNat∧c.toNat≤57 then some (c.toNat-48)
 else if 97≤c.toNat∧c.toNat≤102 then some (c.toNat-87)
 else if 65≤c.toNat∧c.toNat≤70 then some (c.toNat-55) else none
def four:List UInt8→Option Nat
 | a::b::c::d::_=>match hexV a,hexV b,hexV c,hexV d with
   | some x,some y,some z,some u=>some (((x*16+y)*16+z)*16+u)
   | _,_,_,_=>none
 | _=>none
def sign (c:UInt8):Option UInt8:=
 if c=34 then some 34 else if c=92 then some 92 else if c=47 then some 47 else if c=98 then some 8 else if c=102 then some 12 else if c=110 then some 10 else if c=114 then some 13 else if c=116 then some 9 else none
def unit (r:List UInt8):Option (Int×List UInt8):=
 match four r with
 | none=>none
 | some v=>
   if 55296≤v∧v≤56319 then
    match r.drop 4 with
    | 92::117::r2=>match four r2 with
      | some lo=>if 56320≤lo∧lo≤57343 then some (65536+((v:Int)-55296)*1024+(lo:Int)-56320,r2.drop 4) else none
      | none=>none
    | _=>none
   else some ((v:Int),r.drop 4)
def esc (l:List UInt8):Res (List UInt8):=
 match l.drop 1 with
 | []=> .error (l.length,4)
 | c::r=>match sign c with
   | some d=> .ok ([d],r)
   | none=>
     if c=117 then
      match unit r with
      | some (v,rest)=>if W.charOk v then .ok (W.charL v,rest) else .error (l.length,4)
      | none=> .error (l.length,4)
     else .error (l.length,4)
def str:Nat→List UInt8→Res (List UInt8)
 | 0,l=> .error (l.length,4)
 | _+1,[]=> .error (0,4)
 | f+1,c::r=>
   if c=34 then .ok ([],r)
   else if c=92 then
    match esc (c::r) with
    | .error e=> .error e
    | .ok (u,r1)=>match str f r1 with
      | .error e=> .error e
      | .ok (t,r2)=> .ok (u++t,r2)
   else if c.toNat<32 then .error (r.length+1,4)
   else if (W.headD (c::r)).2.2 then
    match str f ((c::r).drop (W.headD (c::r)).2.1.toNat) with
    | .error e=> .error e
    | .ok (t,r2)=> .ok ((c::r).take (W.headD (c::r)).2.1.toNat++t,r2)
   else .error (r.length+1,4)
def text (l:List UInt8):Res (List UInt8):=
 match l with
 | 34::r=>str (r.length+1) r
 | _=> .error (l.length,4)
def name (ns:List ByteArray) (l:List UInt8):Res ByteArray:=
 match text l with
 | .error e=> .error e
 | .ok (t,l2)=>
   if t∈ns.map (fun x=>x.data.toList) then .error (l.length,6)
   else match skip l2 with
    | 58::l3=> .ok (⟨t.toArray⟩,l3)
    | l3=> .error (l3.length,4)
def elems (val:List UInt8→Res V) (obj:Bool):Nat→T→List ByteArray→List UInt8→Res (T×List ByteArray)
 | 0,_,_,l=> .error (l.length,4)
 | f+1,t,ns,l=>
   match (if obj then (match name ns (skip l) with| .error e=> .error e| .ok (x,r)=> .ok (ns++ [x],r)) else .ok (ns,skip l):Res (List ByteArray)) with
   | .error e=> .error e
   | .ok (ns',l4)=>match val l4 with
     | .error e=> .error e
     | .ok (v,l5)=>match skip l5 with
       | []=> .error (0,4)
       | c::l6=>
         if c=(if obj then 125 else 93) then .ok ((t.snoc v,ns'),l6)
         else if c=44 then elems val obj f (t.snoc v) ns' l6
         else .error (l6.length+1,4)
def inside (val:List UInt8→Res V) (obj:Bool) (l:List UInt8):Res V:=
 match skip (l.drop 1) with
 | []=>on (fun p=>⟨if obj then 6 else 5,false,0,⟨#[]⟩,p.1,p.2⟩) (elems val obj (l.length+1) .nil [] [])
 | c::r=>
   if c=(if obj then 125 else 93) then .ok (⟨if obj then 6 else 5,false,0,⟨#[]⟩,.nil,[]⟩,r)
   else on (fun p=>⟨if obj then 6 else 5,false,0,⟨#[]⟩,p.1,p.2⟩) (elems val obj (l.length+1) .nil [] (c::r))
def val:Nat→List UInt8→Res V
 | d,l=>
   match skip l with
   | []=> .error (0,4)
   | c::r=>
     if c=110 then on (fun _=>⟨1,false,0,⟨#[]⟩,.nil,[]⟩) (word [110,117,108,108] (c::r))
     else if c=116 then on (fun _=>⟨2,true,0,⟨#[]⟩,.nil,[]⟩) (word [116,114,117,101] (c::r))
     else if c=102 then on (fun _=>⟨2,false,0,⟨#[]⟩,.nil,[]⟩) (word [102,97,108,115,101] (c::r))
     else if c=45∨dig c=true then on (fun n=>⟨3,false,n,⟨#[]⟩,.nil,[]⟩) (num (c::r))
     else if c=34 then on (fun t=>⟨4,false,0,⟨t.toArray⟩,.nil,[]⟩) (text (c::r))
     else if c=91∨c=123 then
      match d with
      | 0=> .error (r.length+1,84)
      | d+1=>inside (val d) (c==123) (c::r)
     else .error (r.length+1,4)
def parse (s:List UInt8):V×Int×Int:=
 if 65536<s.length then (V.zero,0,3)
 else match val 16 s with
  | .error (n,e)=>(V.zero,((s.length-n:Nat):Int),e)
  | .ok (v,r)=>match skip r with
    | []=>(v,0,0)
    | _::r=>(V.zero,((s.length-(r.length+1):Nat):Int),4)
def Fair {α:Type}(l:List UInt8) (x:Res α):Prop:=(∀a r,x= .ok (a,r)→r <:+l)∧(∀n e,x= .error (n,e)→n≤l.length∧(e=4∨e=6∨e=84∨e=91))
theorem Fair.ok {α:Type}{l r:List UInt8}{a:α}(h:r <:+l):Fair l (.ok (a,r):Res α):=⟨(fun _ _ e=>by cases e;exact h),(fun _ _ e=>by cases e)⟩
theorem Fair.err {α:Type}{l:List UInt8}{n:Nat}{e:Int}(h:n≤l.length) (he:e=4∨e=6∨e=84∨e=91):Fair l (.error (n,e):Res α):=⟨(fun _ _ e=>by cases e),(fun _ _ e=>by cases e;exact ⟨h,he⟩)⟩
theorem Fair.suf {α:Type}{l m:List UInt8}{x:Res α}(h:Fair m x) (g:m <:+l):Fair l x:=
 ⟨fun a r e=>(h.1 a r e).trans g,fun n e h'=>⟨Nat.le_trans (h.2 n e h').1 g.length_le,(h.2 n e h').2⟩⟩
theorem Fair.map {α β:Type}{l:List UInt8}{x:Res α}(f:α→β) (h:Fair l x):Fair l (on f x):=by
 cases x with
 | error p=>exact Fair.err (h.2 p.1 p.2 rfl).1 (h.2 p.1 p.2 rfl).2
 | ok p=>exact Fair.ok (h.1 p.1 p.2 rfl)
theorem skip_suf:∀(l:List UInt8),skip l <:+l
 | []=>List.suffix_refl _
 | c::r=>by
   unfold skip
   split
   · exact (skip_suf r).trans (List.suffix_cons c r)
   · exact List.suffix_refl _
theorem skip_skip:∀(l:List UInt8),skip (skip l)=skip l
 | []=>rfl
 | c::r=>by
   by_cases h:blank c=true
   · have e:skip (c::r)=skip r:=by rw [skip,if_pos h]
     rw [e];exact skip_skip r
   · have e:skip (c::r)=c::r:=by rw [skip,if_neg h]
     rw [e,e]
theorem word_fair:∀(w l:List UInt8),Fair l (word w l)
 | [],l=>Fair.ok (List.suffix_refl _)
 | _::_,[]=>Fair.err (Nat.le_refl _) (Or.inl rfl)
 | c::w,d::l=>by
   unfold word
   split
   · exact (word_fair w l).suf (List.suffix_cons d l)
   · exact Fair.err (by simp) (Or.inl rfl)
theorem drop_suf (l:List UInt8) (k:Nat):l.drop k <:+l:=List.drop_suffix k l
theorem num_fair (l:List UInt8):Fair l (num l):=by
 unfold num;have h1:(if (l.head? ==some 45)=true then l.drop 1 else l) <:+l:=by
   split
   · exact drop_suf l 1
   · exact List.suffix_refl _
 generalize (l.head? ==some 45)=neg at*;simp only;generalize (if neg=true then l.drop 1 else l)=l1 at*;have h2:l1.dropWhile dig <:+l:=(List.dropWhile_suffix dig).trans h1;have h3:=h1.length_le;cases l1.takeWhile dig with
 | nil=>exact Fair.err h3 (Or.inl rfl)
 | cons d more=>
   simp only;split
   · exact Fair.err (by omega) (Or.inl rfl)
   · split
     · exact Fair.err h3 (Or.inl rfl)
     · split
       · split
         · exact Fair.ok h2
         · exact Fair.err (Nat.le_refl _) (Or.inr (Or.inr (Or.inr rfl)))
       · split
         · exact Fair.ok h2
         · exact Fair.err (Nat.le_refl _) (Or.inr (Or.inr (Or.inr rfl)))
theorem unit_suf {r rest:List UInt8}{v:Int}(h:unit r=some (v,rest)):rest <:+r:=by
 unfold unit at h;split at h
 · cases h
 · split at h
   · split at h
     · rename_i r2 e;split at h
       · split at h
         · simp only [Option.some.injEq,Prod.mk.injEq] at h;rw [←h.2];have h1:92::117::r2 <:+r:=by rw [←e];exact drop_suf r 4
           have h2:r2 <:+92::117::r2:=⟨[92,117],rfl⟩;exact (drop_suf r2 4).trans (h2.trans h1)
         · cases h
       · cases h
     · cases h
   · simp only [Option.some.injEq,Prod.mk.injEq] at h;rw [←h.2];exact drop_suf r 4
theorem esc_fair (l:List UInt8):Fair l (esc l):=by
 unfold esc;split
 · exact Fair.err (Nat.le_refl _) (Or.inl rfl)
 · rename_i c r e;have h1:c::r <:+l:=by rw [←e];exact drop_suf l 1
   have h2:r <:+l:=(List.suffix_cons c r).trans h1;split
   · exact Fair.ok h2
   · split
     · split
       · rename_i v rest hu;split
         · exact Fair.ok ((unit_suf hu).trans h2)
         · exact Fair.err (Nat.le_refl _) (Or.inl rfl)
       · exact Fair.err (Nat.le_refl _) (Or.inl rfl)
     · exact Fair.err (Nat.le_refl _) (Or.inl rfl)
theorem str_fair:∀(f:Nat) (l:List UInt8),Fair l (str f l)
 | 0,l=>Fair.err (Nat.le_refl _) (Or.inl rfl)
 | f+1,[]=>Fair.err (Nat.le_refl _) (Or.inl rfl)
 | f+1,c::r=>by
   unfold str
   split
   · exact Fair.ok (List.suffix_cons c r)
   · split
     · have he:=esc_fair (c::r)
       cases hx:esc (c::r) with
       | error p=>rw [hx] at he;exact Fair.err (he.2 p.1 p.2 rfl).1 (he.2 p.1 p.2 rfl).2
       | ok p=>
         rw [hx] at he
         have h1:=he.1 p.1 p.2 rfl
         have ih:=(str_fair f p.2).suf h1
         simp only
         cases hy:str f p.2 with
         | error q=>rw [hy] at ih;exact Fair.err (ih.2 q.1 q.2 rfl).1 (ih.2 q.1 q.2 rfl).2
         | ok q=>rw [hy] at ih;exact Fair.ok (ih.1 q.1 q.2 rfl)
     · split
       · exact Fair.err (by simp) (Or.inl rfl)
       · split
         · have ih:=(str_fair f ((c::r).drop (W.headD (c::r)).2.1.toNat)).suf (drop_suf _ _)
           cases hy:str f ((c::r).drop (W.headD (c::r)).2.1.toNat) with
           | error q=>rw [hy] at ih;exact Fair.err (ih.2 q.1 q.2 rfl).1 (ih.2 q.1 q.2 rfl).2
           | ok q=>rw [hy] at ih;exact Fair.ok (ih.1 q.1 q.2 rfl)
         · exact Fair.err (by simp) (Or.inl rfl)
theorem text_fair (l:List UInt8):Fair l (text l):=by
 unfold text;split
 · exact (str_fair _ _).suf (List.suffix_cons _ _)
 · exact Fair.err (Nat.le_refl _) (Or.inl rfl)
theorem name_fair (ns:List ByteArray) (l:List UInt8):Fair l (name ns l):=by
 unfold name;have h:=text_fair l;cases hx:text l with
 | error p=>rw [hx] at h;exact Fair.err (h.2 p.1 p.2 rfl).1 (h.2 p.1 p.2 rfl).2
 | ok p=>
   rw [hx] at h;have h1:=h.1 p.1 p.2 rfl;simp only;split
   · exact Fair.err (Nat.le_refl _) (Or.inr (Or.inl rfl))
   · have h2:=(skip_suf p.2).trans h1;split
     · rename_i l3 e;rw [e] at h2;exact Fair.ok ((List.suffix_cons _ l3).trans h2)
     · exact Fair.err h2.length_le (Or.inl rfl)
theorem elems_fair {V:List UInt8→Res V}(hV:∀l,Fair l (V l)) (obj:Bool):∀(f:Nat) (t:T) (ns:List ByteArray) (l:List UInt8),Fair l (elems V obj f t ns l)
 | 0,_,_,l=>Fair.err (Nat.le_refl _) (Or.inl rfl)
 | f+1,t,ns,l=>by
   unfold elems;have h0:Fair l (if obj then (match name ns (skip l) with| .error e=> .error e| .ok (x,r)=> .ok (ns++ [x],r)) else .ok (ns,skip l):Res (List ByteArray)):=by
     split
     · have h:=(name_fair ns (skip l)).suf (skip_suf l);cases hx:name ns (skip l) with
       | error p=>rw [hx] at h;exact Fair.err (h.2 p.1 p.2 rfl).1 (h.2 p.1 p.2 rfl).2
       | ok p=>rw [hx] at h;exact Fair.ok (h.1 p.1 p.2 rfl)
     · exact Fair.ok (skip_suf l)
   generalize (if obj then (match name ns (skip l) with| .error e=> .error e| .ok (x,r)=> .ok (ns++ [x],r)) else .ok (ns,skip l):Res (List ByteArray))=X at h0;cases X with
   | error p=>exact Fair.err (h0.2 p.1 p.2 rfl).1 (h0.2 p.1 p.2 rfl).2
   | ok p=>
     have h1:=h0.1 p.1 p.2 rfl;simp only;have h2:=(hV p.2).suf h1;cases hy:V p.2 with
     | error q=>rw [hy] at h2;exact Fair.err (h2.2 q.1 q.2 rfl).1 (h2.2 q.1 q.2 rfl).2
     | ok q=>
       rw [hy] at h2;have h3:=(skip_suf q.2).trans (h2.1 q.1 q.2 rfl);simp only;split
       · exact Fair.err (Nat.zero_le _) (Or.inl rfl)
       · rename_i c l6 e;rw [e] at h3;generalize (if obj=true then (125:UInt8) else 93)=en;have h4:l6 <:+l:=(List.suffix_cons c l6).trans h3;split
         · exact Fair.ok h4
         · split
           · exact (elems_fair hV obj f _ _ l6).suf h4
           · exact Fair.err (by have:=h3.length_le;simpa using this) (Or.inl rfl)
theorem inside_fair {V:List UInt8→Res V}(hV:∀l,Fair l (V l)) (obj:Bool) (l:List UInt8):Fair l (inside V obj l):=by
 unfold inside;have h1:skip (l.drop 1) <:+l:=(skip_suf _).trans (drop_suf l 1);split
 · rename_i e;rw [e] at h1;exact ((elems_fair hV obj _ _ _ _).suf h1).map _
 · rename_i c r e;rw [e] at h1;generalize (if obj=true then (125:UInt8) else 93)=en;split
   · exact Fair.ok ((List.suffix_cons c r).trans h1)
   · exact ((elems_fair hV obj _ _ _ _).suf h1).map _
theorem val_fair:∀(d:Nat) (l:List UInt8),Fair l (val d l):=by
 intro d;induction d with
 | zero=>
   intro l;unfold val;have h1:=skip_suf l;split
   · exact Fair.err (Nat.zero_le _) (Or.inl rfl)
   · rename_i c r e;rw [e] at h1;have hl:=h1.length_le;simp only [List.length_cons] at hl;split
     · exact ((word_fair _ _).suf h1).map _
     · split
       · exact ((word_fair _ _).suf h1).map _
       · split
         · exact ((word_fair _ _).suf h1).map _
         · split
           · exact ((num_fair _).suf h1).map _
           · split
             · exact ((text_fair _).suf h1).map _
             · split
               · exact Fair.err hl (Or.inr (Or.inr (Or.inl rfl)))
               · exact Fair.err hl (Or.inl rfl)
 | succ d ih=>
   intro l;unfold val;have h1:=skip_suf l;split
   · exact Fair.err (Nat.zero_le _) (Or.inl rfl)
   · rename_i c r e;rw [e] at h1;have hl:=h1.length_le;simp only [List.length_cons] at hl;split
     · exact ((word_fair _ _).suf h1).map _
     · split
       · exact ((word_fair _ _).suf h1).map _
       · split
         · exact ((word_fair _ _).suf h1).map _
         · split
           · exact ((num_fair _).suf h1).map _
           · split
             · exact ((text_fair _).suf h1).map _
             · split
               · exact (inside_fair ih _ _).suf h1
               · exact Fair.err hl (Or.inl rfl)
end J
open Go.RowKit
theorem results_pair {P:Program}{fn:Func}{p q:Tmp}{ty:TypeId}(h:fn.results= #[.cell p ty,.tmp q]) (tmps:Array Value) (w:World) (g:Nat) (t:TypeId) (cs:Array Value) (fr:Nat×Nat) (d:TypeDesc) (v:Value)
  (hp:tmps.getD p undef= .pointer (some ⟨g,0,none⟩)) (hg:w.heap[g]? =some (.cells cs t fr)) (hq:tmps.getD q undef=v)
  (hu:P.underlying ty=some d) (hd:(match d with| .struct _| .array _ _=>true|_=>false)=true) (hi:(P.info? ty).map (·.size)=some cs.size):
  (results fn tmps).run P w= .ok (.tuple #[.agg cs,v]) w:=by
 have hp':tmps[p]?.getD undef= .pointer (some ⟨g,0,none⟩):=by simpa using hp
 have hq':tmps[q]?.getD undef=v:=by simpa using hq
 simp [results,h,hp',hq',asAddr,run_loadVar_row w g t ty cs fr d hg hu hd hi]
theorem rowCell {w:World}{b:Nat}{cs:Array Value}{t:TypeId}(h:w.heap[b]? =some (.cells cs t (0,0))) (i:Nat):w.cell? ⟨b,i,none⟩=cs[i]? :=by rw [cell_of_row _ _ _ _ _ _ h]
theorem rowFree {w:World}{b:Nat}{cs:Array Value}{t:TypeId}(h:w.heap[b]? =some (.cells cs t (0,0))) (i:Nat):w.frozen? ⟨b,i,none⟩=false:=by simp [World.frozen?,h]
theorem row4 {w:World}{b:Nat}{x y z u:Value}{t:TypeId}(h:w.heap[b]? =some (.cells #[x,y,z,u] t (0,0))):
 w.cell? ⟨b,0,none⟩=some x∧w.cell? ⟨b,1,none⟩=some y∧w.cell? ⟨b,2,none⟩=some z∧w.cell? ⟨b,3,none⟩=some u:=⟨rowCell h 0,rowCell h 1,rowCell h 2,rowCell h 3⟩
theorem free4 {w:World}{b:Nat}{cs:Array Value}{t:TypeId}(h:w.heap[b]? =some (.cells cs t (0,0))):
 w.frozen? ⟨b,0,none⟩=false∧w.frozen? ⟨b,1,none⟩=false∧w.frozen? ⟨b,2,none⟩=false∧w.frozen? ⟨b,3,none⟩=false:=⟨rowFree h 0,rowFree h 1,rowFree h 2,rowFree h 3⟩
theorem row_set {w:World}{b:Nat}{cs:Array Value}{t:TypeId}(h:w.heap[b]? =some (.cells cs t (0,0))) (i:Nat) (v:Value):(w.setCell ⟨b,i,none⟩ v).heap[b]? =some (.cells (cs.setIfInBounds i v) t (0,0)):=by
 have hlt:=Go.lt_of_block h;have h':w.heap[b]= .cells cs t (0,0):=by simpa [Array.getElem?_eq_getElem hlt] using h
 show (w.heap.modify b _)[b]? =_;rw [Array.getElem?_eq_getElem (by simpa using hlt),Array.getElem_modify_self,h'];rfl
open Go.Lib (hid)
def rdRow (s:ByteArray) (p:Nat) (e x:Int):Obj:= .cells #[.string s,.int .i64 p,.int .i64 e,.int .i64 x] 147 (0,0)
def errE (e er:Int):Int:=if e=0 then er else e
def errX (e x at_:Int):Int:=if e=0 then at_ else x
structure Rdr (w:World) (R:Nat) (s:ByteArray) (p:Nat) (e x:Int) (W:World):Prop where
 g:w.grownBy W (some R)
 r:W.heap[R]? =some (rdRow s p e x)
 lt:R<w.heap.size
theorem Rdr.below {w W W':World}{R p:Nat}{s:ByteArray}{e x:Int}(h:Rdr w R s p e x W) (b:Below W.heap.size W W'):Rdr w R s p e x W':=
 ⟨h.g.trans ⟨b.os,b.tape,b.output,b.size,fun k hk _=>b.block k hk⟩,by rw [b.block _ (Go.lt_of_block h.r)];exact h.r,h.lt⟩
theorem Rdr.drew {w W:World}{R p:Nat}{s:ByteArray}{e x:Int}(h:Rdr w R s p e x W):Rdr w R s p e x W.drew:=h.below (Below.refl _ W).drew
theorem Rdr.alloc {w W:World}{R p:Nat}{s:ByteArray}{e x:Int}(h:Rdr w R s p e x W) (o:Obj):Rdr w R s p e x (W.alloc o):=h.below ((Below.refl _ W).alloc (Nat.le_refl _) o)
theorem grownBy_set (w:World) (b i:Nat) (v:Value):w.grownBy (w.setCell ⟨b,i,none⟩ v) (some b):=by
 refine ⟨rfl,rfl,rfl,by simp [World.setCell],fun k _ hne=> ?_⟩;have hkb:b≠k:=fun e=>hne (by rw [e])
 show (w.heap.modify b _)[k]? =_;rw [Array.getElem?_modify];simp [hkb]
theorem Rdr.set1 {w W:World}{R p:Nat}{s:ByteArray}{e x:Int}(h:Rdr w R s p e x W) (q:Nat):Rdr w R s q e x (W.setCell ⟨R,1,none⟩ (.int .i64 q)):=
 ⟨h.g.trans (grownBy_set _ _ _ _),row_set h.r 1 _,h.lt⟩
theorem Rdr.set23 {w W:World}{R p:Nat}{s:ByteArray}{e x:Int}(h:Rdr w R s p e x W) (e' x':Int):Rdr w R s p e' x' ((W.setCell ⟨R,2,none⟩ (.int .i64 e')).setCell ⟨R,3,none⟩ (.int .i64 x')):=
 ⟨(h.g.trans (grownBy_set _ _ _ _)).trans (grownBy_set _ _ _ _),row_set (row_set h.r 2 _) 3 _,h.lt⟩
theorem Rdr.cells {w W:World}{R p:Nat}{s:ByteArray}{e x:Int}(h:Rdr w R s p e x W):W.cell? ⟨R,0,none⟩=some (.string s)∧W.cell? ⟨R,1,none⟩=some (.int .i64 p)∧W.cell? ⟨R,2,none⟩=some (.int .i64 e)∧W.cell? ⟨R,3,none⟩=some (.int .i64 x):=row4 h.r
theorem Rdr.free {w W:World}{R p:Nat}{s:ByteArray}{e x:Int}(h:Rdr w R s p e x W):W.frozen? ⟨R,0,none⟩=false∧W.frozen? ⟨R,1,none⟩=false∧W.frozen? ⟨R,2,none⟩=false∧W.frozen? ⟨R,3,none⟩=false:=free4 h.r
theorem fail_any {w:World}{R p:Nat}{s:ByteArray}{e x:Int}(er at_:Int) {W:World}(h:Rdr w R s p e x W):
   Calls Tryz.prog 113 #[.pointer (some ⟨R,0,none⟩),.int .i64 er,.int .i64 at_] W fun en W'=>en= .returned (.bool false)∧Rdr w R s p (errE e er) (errX e x at_) W':=by
 have HR:=hid h;obtain ⟨c0,c1,c2,c3⟩:=h.cells;obtain ⟨f0,f1,f2,f3⟩:=h.free;clear h;by_cases e0:e=0
 · subst e0;rw [show errE 0 er=er from rfl,show errX 0 x at_=at_ from rfl];go_enter Tryz.func113,Tryz.ntmps113;go_wp2_with fail;go_ret;exact ⟨rfl,HR.out.set23 er at_⟩
 · rw [show errE e er=e from if_neg e0,show errX e x at_=x from if_neg e0];have t0:(e==0)=false:=beq_eq_false_iff_ne.2 e0;clear e0;go_enter Tryz.func113,Tryz.ntmps113;go_wp2_with fail;go_ret;exact ⟨rfl,HR.out⟩
theorem bad_any {w:World}{R p:Nat}{s:ByteArray}{e x:Int}{W:World}(h:Rdr w R s p e x W):
  Calls Tryz.prog 59 #[.pointer (some ⟨R,0,none⟩)] W fun en W'=>en= .returned (.bool false)∧Rdr w R s p (errE e 4) (errX e x p) W':=by
 have HR:=hid h;have HF:=hid (fail_any 4 (p:Int) h);obtain ⟨c0,c1,c2,c3⟩:=h.cells;clear h;go_enter Tryz.func59,Tryz.ntmps59;go_wp2_with fail;refine HF.out.mono ?_;rintro en W' ⟨rfl,hr⟩;have H1:=hid hr;clear hr;go_wp2_with fail;go_ret;exact ⟨rfl,H1.out⟩
namespace J
theorem skip_drop:∀(l:List UInt8),skip l=l.dropWhile blank
 | []=>rfl
 | c::r=>by
   unfold skip
   rw [List.dropWhile_cons,skip_drop r]
theorem trim_skip (l:List UInt8):Lib.trimLeftS l [32,9,13,10]=skip l:=by
 rw [skip_drop,Lib.trimLeftS];congr 1
 funext c
 rw [Bool.eq_iff_iff];simp only [blank,List.contains_cons,List.contains_nil,Bool.or_eq_true,beq_iff_eq,Bool.or_false,or_assoc];constructor
 · rintro (h|h|h|h)<;>simp [h]
 · rintro (h|h|h|h)<;>simp [h]
def nextP (s:ByteArray) (p:Nat):Nat:=s.size-(skip (s.data.toList.drop p)).length
def nextB (s:ByteArray) (p:Nat):Nat:=((skip (s.data.toList.drop p)).headD 0).toNat
theorem nextP_drop (s:ByteArray) (p:Nat):s.data.toList.drop (nextP s p)=skip (s.data.toList.drop p):=by
 unfold nextP;obtain ⟨k,hk,e⟩:=skip_suffix (s.data.toList.drop p);rw [e,List.drop_drop,List.length_drop];have hs:s.data.toList.length=s.size:=Lib.size_eq s |>.symm;by_cases h:p+k≤s.size
 · rw [hs,show s.size-(s.size-(p+k))=p+k by omega]
 · rw [List.drop_eq_nil_of_le (by omega),List.drop_eq_nil_of_le (by omega)]
theorem nextP_le (s:ByteArray) (p:Nat):nextP s p≤s.size:=Nat.sub_le _ _
end J
theorem Rdr.s4 {w W:World}{R p:Nat}{s:ByteArray}{e x:Int}(h:Rdr w R s p e x W):
 W.cell? ⟨R,0,none⟩=some (.string s)∧W.cell? ⟨R,1,none⟩=some (.int .i64 p)∧W.frozen? ⟨R,1,none⟩=false∧Hid (Rdr w R s p e x W):=⟨h.cells.1,h.cells.2.1,h.free.2.1,h⟩
theorem trim_at (s:ByteArray) (p:Nat):∃t:ByteArray,t.size=(J.skip (s.data.toList.drop p)).length∧∀U,Calls Tryz.prog 112 #[.string (s.extract p s.size),.string ⟨#[32,9,13,10]⟩] U fun e w'=>e= .returned (.string t)∧Below U.heap.size U w':=by
 refine ⟨⟨(J.skip (s.data.toList.drop p)).toArray⟩,by show (J.skip (s.data.toList.drop p)).toArray.size=_;simp,fun U=> ?_⟩;have h:=Tryz.strings_TrimLeft_set (s.extract p s.size) ⟨#[32,9,13,10]⟩ U (by decide) (by
  intro j b hj;have:(⟨#[32,9,13,10]⟩:ByteArray).data.toList= [32,9,13,10]:=rfl;rw [this] at hj;have hm:=List.mem_of_getElem? hj;simp only [List.mem_cons,List.not_mem_nil,or_false] at hm;rcases hm with rfl|rfl|rfl|rfl<;>decide)
 have e1:(s.extract p s.size).data.toList=s.data.toList.drop p:=by
  rw [Lib.extract_to_end]
 rw [e1,show (⟨#[32,9,13,10]⟩:ByteArray).data.toList= [32,9,13,10] from rfl,J.trim_skip] at h;exact h
theorem next_byte {s:ByteArray}{p:Nat}(h:J.nextP s p<s.size):((s[J.nextP s p]'h).toNat)=J.nextB s p:=by
 unfold J.nextB;rw [←J.nextP_drop,List.drop_eq_getElem_cons (by rw [←Lib.size_eq];exact h)];rfl
theorem next_end {s:ByteArray}{p:Nat}(h:J.nextP s p=s.size):J.nextB s p=0:=by
 unfold J.nextB;rw [←J.nextP_drop,List.drop_eq_nil_of_le (by rw [←Lib.size_eq];omega)];rfl
attribute [local go_sem ↓] Go.wp_at_zero Go.wp_at_succ in
theorem next_any {w:World}{R p:Nat}{s:ByteArray}{e x:Int}{W:World}(h:Rdr w R s p e x W) (hp:p≤s.size) (hs:s.size≤140737488355328):
  Calls Tryz.prog 58 #[.pointer (some ⟨R,0,none⟩)] W fun en W'=>en= .returned (.int .u8 (J.nextB s p:Nat))∧Rdr w R s (J.nextP s p) e x W':=by
 obtain ⟨t,ht,cT⟩:=trim_at s p;obtain ⟨q,hq⟩:∃q,J.nextP s p=q:=⟨_,rfl⟩;obtain ⟨B,hB⟩:∃B,J.nextB s p=B:=⟨_,rfl⟩;have hqs:q≤s.size:=by rw [←hq];exact J.nextP_le s p
 have hqt:(s.size:Int)-(t.size:Int)=(q:Int):=by
  have h1:(J.skip (s.data.toList.drop p)).length≤s.size:=Nat.le_trans (J.skip_length _) (by rw [List.length_drop,←Lib.size_eq];omega);rw [ht,←hq];unfold J.nextP;omega
 have hb:q<s.size→∃h:q<s.size,(s[q]'h).toNat=B:=fun hlt=>⟨hlt,by subst hq;rw [next_byte];exact hB⟩
 have he:q=s.size→B=0:=fun hlt=>by subst hq;rw [←hB];exact next_end hlt
 have HBY:=hid hb;have HEN:=hid he;rw [hq,hB];have HT:=hid cT;have HR:=hid h;obtain ⟨c0,c1,c2,c3⟩:=h.cells;obtain ⟨f0,f1,f2,f3⟩:=h.free;have e2:IntKind.i64.wrap (q:Int)=(q:Int):=by rw [IntKind.wrap_i64];omega
 have P0:(0:Int)≤(p:Int):=by omega
 have P1:(p:Int)≤(s.size:Int):=by omega
 clear ht cT hq hB hb he h f0 f2 f3 c2 c3;go_enter Tryz.func58,Tryz.ntmps58;go_wp2_with fail;go_region_with (go_at_call 112;refine (HT.out _).mono ?_;rintro en w1 ⟨rfl,bb⟩;(have H1:=hid (HR.out.drew.below bb));(obtain ⟨d0,d1,g2, -⟩:=H1.out.s4);clear bb)
 all_goals
  clear c0 c1 f1 HR HT;go_upto_region 2 with fail;have H2:=hid (H1.out.set1 q);generalize World.setCell w1 _ _=w2 at*;obtain ⟨c0,c1,c2,c3⟩:=H2.out.cells;clear d0 d1 g2 H1 c2 c3;by_cases hqe:q=s.size
  · have t0:((q:Int)==(s.size:Int))=true:=by simp [hqe]
    have HE:=hid (HEN.out hqe);clear hqe HEN HBY;go_region
    go_wp2_with fail;go_ret;exact ⟨by rw [HE.out];rfl,H2.out.drew⟩
  · have t0:((q:Int)==(s.size:Int))=false:=beq_eq_false_iff_ne.2 (by omega);obtain ⟨hlt,hb⟩:=HBY.out (by omega);have HE:=hid hb;have Q0:(0:Int)≤(q:Int):=by omega
    have Q1:(q:Int)<(s.size:Int):=by omega
    clear hqe HEN HBY hb;go_region
    have H3:=hid H2.out.drew;obtain ⟨x0,x1, -, -⟩:=H3.out.cells;clear c0 c1 H2;generalize World.drew _=w3 at*;go_wp2_with fail;go_region
    go_wp2_with fail;go_ret;exact ⟨by rw [←HE.out];rfl,H3.out.drew⟩
theorem Rdr.drewN {w W:World}{R p:Nat}{s:ByteArray}{e x:Int}(h:Rdr w R s p e x W) (n:Nat):Rdr w R s p e x (W.drewN n):=h.below (below_drewN (Below.refl _ W) n)
def Took (w:World) (R:Nat) (s:ByteArray) (x:Except (Nat×Int) (Unit×List UInt8)) (en:Ending) (W:World):Prop:=
 (∃r,x= .ok ((),r)∧en= .returned (.bool true)∧Rdr w R s (s.size-r.length) 0 0 W)∨(∃n er q,x= .error (n,er)∧q≤s.size∧en= .returned (.bool false)∧Rdr w R s q er ((s.size-n:Nat):Int) W)
namespace J
theorem word_end (c:UInt8) (w:List UInt8):word (c::w) []= .error (0,4):=rfl
theorem word_yes (c:UInt8) (w l:List UInt8):word (c::w) (c::l)=word w l:=by rw [word,if_pos rfl]
theorem word_no {c d:UInt8}(w l:List UInt8) (h:d≠c):word (c::w) (d::l)= .error (l.length+1,4):=by rw [word,if_neg h]
end J
theorem drop_at {s:ByteArray}{q:Nat}(h:q<s.size):s.data.toList.drop q=s[q]::s.data.toList.drop (q+1):=by
 rw [List.drop_eq_getElem_cons (by rw [←Lib.size_eq];exact h)];rfl
theorem drop_end {s:ByteArray}{q:Nat}(h:s.size≤q):s.data.toList.drop q= []:=List.drop_eq_nil_of_le (by rw [←Lib.size_eq];exact h)
theorem drop_len (s:ByteArray) (q:Nat):(s.data.toList.drop q).length=s.size-q:=by rw [List.length_drop,←Lib.size_eq]
theorem word_any {w:World}{R p:Nat}{s:ByteArray}(ws:ByteArray) {W:World}(h:Rdr w R s p 0 0 W) (hp:p≤s.size) (hs:s.size≤140737488355328) (hws:ws.size≤100):
  Calls Tryz.prog 105 #[.pointer (some ⟨R,0,none⟩),.string ws] W (Took w R s (J.word ws.data.toList (s.data.toList.drop p))):=by
 have HR:=hid h;obtain ⟨RES,hRES⟩:∃x,J.word ws.data.toList (s.data.toList.drop p)=x:=⟨_,rfl⟩;rw [hRES];have HE:=hid hRES;clear h hRES;go_enter Tryz.func105,Tryz.ntmps105;go_wp2_with fail;go_loopw [8] (fun vi wr=> ∃i:Nat,i≤ws.size∧vi= .int .i64 i∧p+i≤s.size∧Hid (Rdr w R s (p+i) 0 0 wr∧RES=J.word (ws.data.toList.drop i) (s.data.toList.drop (p+i)))) (fun vi _=>ws.size-(intOf vi).toNat)
 case atStart=>exact ⟨0,Nat.zero_le _,rfl,hp,hid ⟨HR.out,HE.out.symm⟩⟩
 case round=>
  obtain ⟨i,hi,rfl,hpi,hI⟩:=hrel;clear HR HE;obtain ⟨q,hq⟩:∃q,p+i=q:=⟨_,rfl⟩;rw [hq] at hpi hI;have HQ:=hid hq;clear hq;by_cases hlt:i<ws.size
  · have hl0:decide ((i:Int)<(ws.size:Int))=true:=by simp;omega
    have hi0:(0:Int)≤(i:Int):=by omega
    have hi1:(i:Int)<(ws.size:Int):=by omega
    have hq0:(0:Int)≤(q:Int):=by omega
    obtain ⟨c0,c1, -, -⟩:=hI.out.1.cells;have HD:=hid (drop_at hlt);by_cases hqe:q=s.size
    · have t0:((q:Int)==(s.size:Int))=true:=by simp [hqe]
      have HX:Hid (RES= .error (0,4)):=by
        show _=_;rw [hI.out.2,HD.out,drop_end (s:=s) (q:=q) (by omega),J.word_end]
      have HSZ:=hid hqe;have HB:=hid (fun n=>bad_any (hI.out.1.drewN n));clear hqe hI HD;go_wp2_with fail;go_quiet (fail);go_wp2_with fail;refine (HB.out _).mono ?_;rintro en w1 ⟨rfl,hr⟩;have H1:=hid hr;clear hr;go_wp2_with fail;go_ret;exact Or.inr ⟨0,4,q,HX.out,hpi,rfl,by have:=H1.out;rw [show errE 0 4=4 from rfl,show errX 0 0 (q:Int)=(q:Int) from rfl] at this;rw [Nat.sub_zero,←HSZ.out];exact this⟩
    · have t0:((q:Int)==(s.size:Int))=false:=beq_eq_false_iff_ne.2 (by omega);have hqs:q<s.size:=by omega
      have hq1:(q:Int)<(s.size:Int):=by omega
      have HD2:=hid (drop_at hqs);by_cases hc:s[q]=ws[i]
      · have t1:((s[q].toNat:Int) !=(ws[i].toNat:Int))=false:=by rw [hc];simp
        have HX:Hid (RES=J.word (ws.data.toList.drop (i+1)) (s.data.toList.drop (q+1))):=by
         show _=_;rw [hI.out.2,HD.out,HD2.out,hc,J.word_yes]
        have HR:=hid hI.out.1;clear hqe hI HD HD2 hc;go_wp2_with fail;go_quiet (fail);have H1:=hid (HR.out.drewN nq);obtain ⟨d0,d1, -, -⟩:=H1.out.cells;obtain ⟨-,g1, -, -⟩:=H1.out.free;obtain ⟨q',hq'⟩:∃q',q+1=q':=⟨_,rfl⟩;have e1:(q:Int)+1=(q':Int):=by omega
        have e2:IntKind.i64.wrap (q':Int)=(q':Int):=by rw [IntKind.wrap_i64];omega
        have HQ':=hid hq';have hq2:q'≤s.size:=by omega
        clear hq' c0 c1 HR;generalize World.drewN wr nq=wn at*;go_wp2_with fail;go_roundw
        case rel=>
         have e3:p+(i+1)=q':=by have:=HQ.out;have:=HQ'.out;omega
         exact ⟨i+1,by omega,by go_num,by omega,hid ⟨by rw [e3];exact H1.out.set1 q',by rw [e3,HX.out,←HQ'.out]⟩⟩
        case measure=>simp [intOf];omega
      · have t1:((s[q].toNat:Int) !=(ws[i].toNat:Int))=true:=by
         rw [bne_iff_ne];intro h;exact hc (UInt8.toNat_inj.1 (by omega))
        have HX:Hid (RES= .error (s.size-q,4)):=by
         show _=_;rw [hI.out.2,HD.out,HD2.out,J.word_no _ _ hc,drop_len,show s.size-(q+1)+1=s.size-q by omega]
        have HB:=hid (fun n=>bad_any (hI.out.1.drewN n));clear hqe hI HD HD2 hc;go_wp2_with fail;go_quiet (fail);go_wp2_with fail;refine (HB.out _).mono ?_;rintro en w1 ⟨rfl,hr⟩;have H1:=hid hr;clear hr;go_wp2_with fail;go_ret;exact Or.inr ⟨s.size-q,4,q,HX.out,hpi,rfl,by have:=H1.out;rw [show errE 0 4=4 from rfl,show errX 0 0 (q:Int)=(q:Int) from rfl] at this;rw [show s.size-(s.size-q)=q by omega];exact this⟩
  · have hl0:decide ((i:Int)<(ws.size:Int))=false:=by simp;omega
    have HX:Hid (RES= .ok ((),s.data.toList.drop q)):=by
      show _=_;rw [hI.out.2,drop_end (by omega)];rfl
    go_wp2_with fail;go_ret;exact Or.inl ⟨_,HX.out,rfl,by rw [drop_len,show s.size-(s.size-q)=q by omega];exact hI.out.1⟩
end Go.Proofs.YtohkomndapngjaaGreatDoor

