/- markup.Parse at a text that begins with a brace: the parts of the walk that it wants. -/
import Derived.Test.YtohkomndapngjaaGreatDoorRN1
import Derived.Lib.MapLaws
import Derived.Lib.TrimU
import Derived.Test.YtohkomndapngjaaGreatDoorShelf
import Derived.BigRegion
import Derived.BigQuiet
import Derived.Deep.RegionWith
import Derived.Deep.DrawnRows
import Derived.RegionTactic
import Derived.Maps.AppendAt
import Derived.Lib.IndexBytes
import Derived.Lib.Hide
import Derived.WalkSmall
import Derived.ProofKit
import Derived.Test.YtohkomndapngjaaGreatDoorRN2
import Derived.Test.YtohkomndapngjaaGreatDoorRN5
import Derived.Deep.Cut
import Derived.Laws.Rows
import Derived.Maps.Own
import Derived.Maps.OwnOps
import Derived.Maps.OwnSet
import Derived.Maps.Views
import Derived.Carry
import Derived.Test.YtohkomndapngjaaGreatDoorShelfN
import Derived.Lib.ConvBytes
import Derived.Lib.IndexLaws
import Derived.Lib.MinMax
import Derived.OwnWalk
import Derived.Laws.OwnMore
import Derived.Deep.AppendLies
import Derived.Shelf.SlMaps.Clone
import Derived.Maps.StringElems
import Derived.Deep.Onto
import Derived.Test.YtohkomndapngjaaGreatDoorShelfL
import Derived.Lib.LastIndexByte
import Derived.Test.YtohkomndapngjaaGreatDoorRN7
import Derived.Deep.RegionHeld3
import Derived.Defers
import Derived.Recover
import Derived.Laws.Pointers
namespace Go.Proofs.YtohkomndapngjaaGreatDoor.K
set_option maxRecDepth 100000
set_option maxHeartbeats 16000000
namespace X
structure A where
 sp:ByteArray
 lo:ByteArray
 va:ByteArray
deriving DecidableEq
inductive N where
 | nil
 | cons (sp lo:ByteArray) (ats:List A) (ks:N) (tx:ByteArray) (ln cl:Nat) (r:N)
structure E where
 sp:ByteArray
 lo:ByteArray
 ats:List A
 ks:N
 tx:ByteArray
 ln:Nat
 cl:Nat
def N.length:N→Nat
 | .nil=>0
 | .cons _ _ _ _ _ _ _ r=>r.length+1
abbrev Res (α:Type):=Except (Nat×Int) (α×List UInt8)
def blank (c:UInt8):Bool:=c==32||c==9||c==13||c==10
def skip (l:List UInt8):List UInt8:=l.dropWhile blank
def stands (c:Int):Bool:=decide (c=9∨c=10∨c=13)||decide (32≤c∧c≤55295)||decide (57344≤c∧c≤65533)||decide (65536≤c∧c≤1114111)
def bad (l:List UInt8):Nat×Int:=if l= [] then (0,80) else (l.length,81)
def must (t l:List UInt8):Res Unit:=if t.isPrefixOf l then .ok ((),l.drop t.length) else .error (bad l)
def char (l:List UInt8):Res Int:=
 if l= [] then .error (0,80)
 else if ((Lib.decodeL l).1=65533∧(Lib.decodeL l).2=1)∨stands (Lib.decodeL l).1=false then .error (l.length,81)
 else .ok (((Lib.decodeL l).1:Int),l.drop (Lib.decodeL l).2)
def letter (c:UInt8):Bool:=decide (97≤c.toNat∧c.toNat≤122)||decide (65≤c.toNat∧c.toNat≤90)||decide (c.toNat=95)
def other (c:UInt8):Bool:=letter c||decide (48≤c.toNat∧c.toNat≤57)||decide (c.toNat=45∨c.toNat=46)
def partL:List UInt8→List UInt8
 | []=> []
 | c::r=>if letter c then c::r.takeWhile other else []
def part (l:List UInt8):Res (List UInt8):=
 if partL l= [] then .error (bad l)
 else if 32<(partL l).length then .error (l.length,3)
 else .ok (partL l,l.drop (partL l).length)
def name (l:List UInt8):Res (List UInt8×List UInt8):=
 match part l with
 | .error e=> .error e
 | .ok (one,r)=>
   if [58].isPrefixOf r then
    match part (r.drop 1) with
    | .error e=> .error e
    | .ok (two,r2)=> .ok ((one,two),r2)
   else .ok (([],one),r)
def comment:Nat→List UInt8→Res Unit
 | 0,l=> .error (l.length,81)
 | f+1,l=>
   if [45,45,62].isPrefixOf l then .ok ((),l.drop 3)
   else if [45,45].isPrefixOf l then .error (bad l)
   else match char l with
    | .error e=> .error e
    | .ok (_,r)=>comment f r
def misc:Nat→List UInt8→Res Unit
 | 0,l=> .error (l.length,81)
 | f+1,l=>
   if [60,33,45,45].isPrefixOf (skip l) then
    match comment ((skip l).length+1) ((skip l).drop 4) with
    | .error e=> .error e
    | .ok (_,r)=>misc f r
   else .ok ((),skip l)
structure Raw where
 pre:List UInt8
 loc:List UInt8
 n:Nat
 val:List UInt8
abbrev K:=List (List UInt8×List UInt8)
def look:K→List UInt8→Option (List UInt8)
 | [],_=>none
 | (a,v)::r,p=>if a=p then some v else look r p
def ba (l:List UInt8):ByteArray:=⟨l.toArray⟩
def lineOf (S:List UInt8) (k:Nat):Nat:=(S.take k).count 10+1
def colOf (S:List UInt8) (k:Nat):Nat:=((S.take k).reverse.takeWhile (fun c=>c !=10)).length+1
def head1:List UInt8:= [60,63,120,109,108,32,118,101,114,115,105,111,110,61,34,49,46,48,34,63,62]
def head2:List UInt8:= [60,63,120,109,108,32,118,101,114,115,105,111,110,61,34,49,46,48,34,32,101,110,99,111,100,105,110,103,61,34,85,84,70,45,56,34,63,62]
def Err (e:Int):Prop:=e=3∨e=6∨e=80∨e=81∨e=82∨e=83∨e=84
def Suf (r l:List UInt8):Prop:= ∃b,b++r=l
theorem Suf.trans {a b c:List UInt8}(h:Suf a b) (g:Suf b c):Suf a c:=by
 obtain ⟨x,rfl⟩:=h;obtain ⟨y,rfl⟩:=g;exact ⟨y++x,by rw [List.append_assoc]⟩
theorem Suf.drop (n:Nat) (l:List UInt8):Suf (l.drop n) l:=⟨l.take n,List.take_append_drop n l⟩
theorem Suf.len {a b:List UInt8}(h:Suf a b):a.length≤b.length:=by
 obtain ⟨x,rfl⟩:=h;rw [List.length_append];omega
theorem Suf.skip (l:List UInt8):Suf (skip l) l:=⟨l.takeWhile blank,List.takeWhile_append_dropWhile⟩
theorem Suf.eq_drop {a b:List UInt8}(h:Suf a b):a=b.drop (b.length-a.length):=by
 obtain ⟨x,rfl⟩:=h;rw [List.length_append,Nat.add_sub_cancel,List.drop_left]
def ErrIn (l:List UInt8) (n:Nat) (e:Int):Prop:=n≤l.length∧Err e∧(e=80→n=0)
theorem ErrIn.suf {r l:List UInt8}{n:Nat}{e:Int}(h:ErrIn r n e) (g:Suf r l):ErrIn l n e:=⟨Nat.le_trans h.1 g.len,h.2⟩
theorem bad_in (l:List UInt8):ErrIn l (bad l).1 (bad l).2:=by
 unfold bad;split
 · rename_i h;subst h;exact ⟨Nat.le_refl _,Or.inr (Or.inr (Or.inl rfl)),fun _=>rfl⟩
 · exact ⟨Nat.le_refl _,Or.inr (Or.inr (Or.inr (Or.inl rfl))),fun h=>by cases h⟩
def Fair {α:Type}(k:Nat) (l:List UInt8) (x:Res α):Prop:=(∀a r,x= .ok (a,r)→Suf r l∧r.length+k≤l.length)∧(∀n e,x= .error (n,e)→ErrIn l n e)
theorem Fair.suf {α:Type}{k:Nat}{r l:List UInt8}{x:Res α}(h:Fair k r x) (g:Suf r l):Fair k l x:=
 ⟨fun a t e=>⟨(h.1 a t e).1.trans g,by have:=(h.1 a t e).2;have:=g.len;omega⟩,fun n e he=>(h.2 n e he).suf g⟩
theorem Fair.bad {α:Type}{k:Nat}(l:List UInt8):Fair (α:=α) k l (.error (bad l)):=⟨(fun _ _ h=>by cases h),fun n e h=>by
 have:=Except.error.inj h
 have h2:=bad_in l
 rw [this] at h2;exact h2⟩
theorem Fair.err {α:Type}{k:Nat}{l:List UInt8}{n:Nat}{e:Int}(h:ErrIn l n e):Fair (α:=α) k l (.error (n,e)):=⟨(fun _ _ h=>by cases h),fun n e h'=>by cases h';exact h⟩
theorem Fair.ok {α:Type}{k:Nat}{l r:List UInt8}{a:α}(h:Suf r l) (g:r.length+k≤l.length):Fair k l (.ok (a,r):Res α):=⟨fun _ _ e=>by cases e;exact ⟨h,g⟩,fun _ _ h=>by cases h⟩
theorem err81 (l:List UInt8):ErrIn l l.length 81:=⟨Nat.le_refl _,by unfold Err;omega,by omega⟩
theorem err3 (l:List UInt8):ErrIn l l.length 3:=⟨Nat.le_refl _,by unfold Err;omega,by omega⟩
theorem pre_len {t l:List UInt8}(h:t.isPrefixOf l=true):t.length≤l.length:=(List.isPrefixOf_iff_prefix.1 h).length_le
theorem ok_drop {α:Type}{t l:List UInt8}(a:α) (h:t.isPrefixOf l=true):Fair t.length l (.ok (a,l.drop t.length):Res α):=Fair.ok (Suf.drop _ l) (by have:=pre_len h;rw [List.length_drop];omega)
theorem char_fair (l:List UInt8):Fair 1 l (char l):=by
 unfold char;split
 · rename_i h;subst h;exact Fair.err ⟨Nat.le_refl _,by unfold Err;omega,fun _=>rfl⟩
 · rename_i hne;split
   · exact Fair.err (err81 l)
   · have h1:=Lib.decodeL_width l;have h2:=Lib.decodeL_le l hne;exact Fair.ok (Suf.drop _ l) (by rw [List.length_drop];omega)
theorem partL_pre:∀(l:List UInt8),∃r,partL l++r=l
 | []=>⟨[],rfl⟩
 | c::r=>by
   by_cases h:letter c=true
   · exact ⟨r.dropWhile other,by rw [partL,if_pos h,List.cons_append,List.takeWhile_append_dropWhile]⟩
   · exact ⟨c::r,by rw [partL,if_neg h];rfl⟩
theorem partL_len (l:List UInt8):(partL l).length≤l.length:=by
 obtain ⟨r,h⟩:=partL_pre l;have:=congrArg List.length h;rw [List.length_append] at this;omega
theorem part_fair (l:List UInt8):Fair 1 l (part l):=by
 unfold part;split
 · exact Fair.bad l
 · rename_i h;split
   · exact Fair.err (err3 l)
   · have h1:0<(partL l).length:=List.length_pos_iff.2 h;have h2:=partL_len l;exact Fair.ok (Suf.drop _ l) (by rw [List.length_drop];omega)
theorem comment_fair:∀(f:Nat) (l:List UInt8),Fair 3 l (comment f l)
 | 0,l=>Fair.err (err81 l)
 | f+1,l=>by
   unfold comment
   split
   · rename_i h;exact ok_drop _ h
   · split
     · exact Fair.bad l
     · have h1:=char_fair l
       cases hx:char l with
       | error q=>exact Fair.err (h1.2 q.1 q.2 hx)
       | ok q=>exact (comment_fair f q.2).suf (h1.1 q.1 q.2 hx).1
end X
open Go.RowKit
open Go.Lib (hid)
def mRow (s:ByteArray) (p c:Nat):Obj:= .cells #[.string s,.int .i64 p,.int .i64 c] 194 (0,0)
theorem grownBy_set (w:World) (b i:Nat) (v:Value):w.grownBy (w.setCell ⟨b,i,none⟩ v) (some b):=by
 refine ⟨rfl,rfl,rfl,by simp [World.setCell],fun k _ hne=> ?_⟩;have hkb:b≠k:=fun e=>hne (by rw [e])
 show (w.heap.modify b _)[k]? =_;rw [Array.getElem?_modify];simp [hkb]
theorem row3 {w:World}{b:Nat}{x y z:Value}{t:TypeId}(h:w.heap[b]? =some (.cells #[x,y,z] t (0,0))):w.cell? ⟨b,0,none⟩=some x∧w.cell? ⟨b,1,none⟩=some y∧w.cell? ⟨b,2,none⟩=some z:=⟨rowCell h 0,rowCell h 1,rowCell h 2⟩
structure Rd (w:World) (R:Nat) (s:ByteArray) (p c:Nat) (W:World):Prop where
 g:w.grownBy W (some R)
 r:W.heap[R]? =some (mRow s p c)
 lt:R<w.heap.size
section
variable {w W W':World}{R p c:Nat}{s:ByteArray}
theorem Rd.below (h:Rd w R s p c W) (b:Below W.heap.size W W'):Rd w R s p c W':=
 ⟨h.g.trans ⟨b.os,b.tape,b.output,b.size,fun k hk _=>b.block k hk⟩,by rw [b.block _ (Go.lt_of_block h.r)];exact h.r,h.lt⟩
theorem Rd.drew (h:Rd w R s p c W):Rd w R s p c W.drew:=h.below (Below.refl _ W).drew
theorem Rd.set1 (h:Rd w R s p c W) (q:Nat):Rd w R s q c (W.setCell ⟨R,1,none⟩ (.int .i64 q)):=⟨h.g.trans (grownBy_set _ _ _ _),row_set h.r 1 _,h.lt⟩
theorem Rd.set2 (h:Rd w R s p c W) (q:Nat):Rd w R s p q (W.setCell ⟨R,2,none⟩ (.int .i64 q)):=⟨h.g.trans (grownBy_set _ _ _ _),row_set h.r 2 _,h.lt⟩
theorem Rd.cells (h:Rd w R s p c W):W.cell? ⟨R,0,none⟩=some (.string s)∧W.cell? ⟨R,1,none⟩=some (.int .i64 p)∧W.cell? ⟨R,2,none⟩=some (.int .i64 c):=row3 h.r
theorem Rd.free (h:Rd w R s p c W) (i:Nat):W.frozen? ⟨R,i,none⟩=false:=Lib.frozen_of_heap h.r i
theorem Rd.own (h:Rd w R s p c W):Rd W R s p c W:=⟨⟨rfl,rfl,rfl,Nat.le_refl _,fun _ _ _=>rfl⟩,h.r,Go.lt_of_block h.r⟩
theorem Rd.trans {q d:Nat}(h:Rd w R s p c W) (g:Rd W R s q d W'):Rd w R s q d W':=⟨h.g.trans g.g,g.r,h.lt⟩
end
def chain (e at_:Int):List PanicEntry:= [{ v:= .iface 188 (.agg #[.int .i64 e,.int .i64 at_]),recovered:=false }]
def Ends {α:Type}(W0:World) (R:Nat) (s:ByteArray) (c:Nat) (x:X.Res α) (f:α→Value) (en:Ending) (W:World):Prop:=
 (∃a r,x= .ok (a,r)∧en= .returned (f a)∧Rd W0 R s (s.size-r.length) c W)∨(∃n e,x= .error (n,e)∧en= .panicked (chain e ((s.size-n:Nat):Int))∧W0.grownBy W (some R))
def rest (s:ByteArray) (p:Nat):List UInt8:=s.data.toList.drop p
theorem rest_len (s:ByteArray) (p:Nat):(rest s p).length=s.size-p:=by unfold rest;rw [List.length_drop,←Lib.size_eq]
theorem rest_drop (s:ByteArray) (p k:Nat):(rest s p).drop k=rest s (p+k):=by unfold rest;rw [List.drop_drop]
theorem rest_nil (s:ByteArray) (p:Nat):rest s p= []↔s.size≤p:=by
 unfold rest;rw [List.drop_eq_nil_iff,←Lib.size_eq]
theorem fail_any (er at_:Int) (w:World):Calls Tryz.prog 186 #[.int .i64 er,.int .i64 at_] w fun en W'=>en= .panicked (chain er at_)∧W'=w:=by
 go_enter Tryz.func186,Tryz.ntmps186;go_wp2;exact ⟨rfl,rfl,rfl⟩
theorem bad_any {R p c:Nat}{s:ByteArray}{W:World}(h:Rd W R s p c W) (hp:p≤s.size):
   Calls Tryz.prog 101 #[.pointer (some ⟨R,0,none⟩)] W fun en W'=>en= .panicked (chain (X.bad (rest s p)).2 ((s.size-(X.bad (rest s p)).1:Nat):Int))∧Below W.heap.size W W':=by
 obtain ⟨c0,c1, -⟩:=h.cells;by_cases hq:s.size≤p
 · have e:X.bad (rest s p)=(0,80):=by unfold X.bad;rw [if_pos ((rest_nil s p).2 hq)]
   rw [e];have hps:p=s.size:=by omega
   subst hps;have cF:=fun U=>fail_any 80 (s.size:Int) U
   have t0:decide ((s.size:Int)≤(s.size:Int))=true:=by simp
   clear h e hq hp;go_enter Tryz.func101,Tryz.ntmps101;go_wp2_with fail;go_region
   go_wp2_with fail;refine (cF _).mono ?_;rintro e w1 ⟨rfl,rfl⟩;exact ⟨rfl,rfl,(Below.refl _ W).drew⟩
 · have e:X.bad (rest s p)=(s.size-p,81):=by unfold X.bad;rw [if_neg (by rw [rest_nil];omega),rest_len]
   rw [e];have cF:=fun U=>fail_any 81 (p:Int) U
   have t0:decide ((s.size:Int)≤(p:Int))=false:=by simp;omega
   have e2:(s.size-(s.size-p):Nat)=p:=by omega
   simp only;rw [e2];clear h e hp e2;go_enter Tryz.func101,Tryz.ntmps101;go_wp2_with fail;go_region
   go_wp2_with fail;refine (cF _).mono ?_;rintro e w1 ⟨rfl,rfl⟩;exact ⟨rfl,rfl,(Below.refl _ W).drew⟩
theorem ext_rest (s:ByteArray) (p:Nat):(s.extract p s.size).data.toList=rest s p:=by rw [Lib.extract_to_end];rfl
theorem next_any {R p c:Nat}{s:ByteArray}{W:World}(t:ByteArray) (h:Rd W R s p c W) (hp:p≤s.size):
  Calls Tryz.prog 100 #[.pointer (some ⟨R,0,none⟩),.string t] W fun en W'=>en= .returned (.bool (t.data.toList.isPrefixOf (rest s p)))∧Below W.heap.size W W':=by
 obtain ⟨c0,c1, -⟩:=h.cells;have cP:=fun U=>Tryz.strings_HasPrefix (s.extract p s.size) t U
 unfold Lib.hasPrefix at cP;rw [ext_rest] at cP;obtain ⟨b,hb⟩:∃b,t.data.toList.isPrefixOf (rest s p)=b:=⟨_,rfl⟩;rw [hb] at cP ⊢;have P0:(0:Int)≤(p:Int):=by omega
 have P1:(p:Int)≤(s.size:Int):=by omega
 have HP:=hid cP;clear h hb hp cP;go_enter Tryz.func100,Tryz.ntmps100;go_wp2_with fail;go_region_with (go_at_call 185;refine (HP.out _).mono ?_;rintro en w1 ⟨rfl,rfl⟩)
 all_goals
  go_wp2_with fail;go_ret;exact ⟨rfl,(Below.refl _ W).drew⟩
theorem take_any {R p c:Nat}{s:ByteArray}{W:World}(t:ByteArray) (h:Rd W R s p c W) (hp:p≤s.size) (hs:s.size≤1000000000000):
   Calls Tryz.prog 98 #[.pointer (some ⟨R,0,none⟩),.string t] W fun en W'=>(t.data.toList.isPrefixOf (rest s p)=true∧p+t.size≤s.size∧en= .returned (.bool true)∧Rd W R s (p+t.size) c W')∨(t.data.toList.isPrefixOf (rest s p)=false∧en= .returned (.bool false)∧Below W.heap.size W W'):=by
 have cN:=next_any t h hp;have HR:=hid h;cases hb:t.data.toList.isPrefixOf (rest s p)
 · rw [hb] at cN;clear h hb;go_enter Tryz.func98,Tryz.ntmps98;go_wp2_with fail;refine cN.mono ?_;rintro e w1 ⟨rfl,hbl⟩;have HB:=hid hbl;clear hbl;go_wp2_with fail;go_ret;exact Or.inr ⟨trivial,rfl,HB.out⟩
 · rw [hb] at cN;have hl:=X.pre_len hb;rw [rest_len,←Lib.size_eq] at hl;have hq:p+t.size≤s.size:=by omega
   obtain ⟨q,hqe⟩:∃q,p+t.size=q:=⟨_,rfl⟩;have e1:(p:Int)+(t.size:Int)=(q:Int):=by omega
   have e2:IntKind.i64.wrap (q:Int)=(q:Int):=by rw [IntKind.wrap_i64];omega
   rw [hqe] at hq ⊢;clear h hb hl hqe;go_enter Tryz.func98,Tryz.ntmps98;go_wp2_with fail;refine cN.mono ?_;rintro e w1 ⟨rfl,hbl⟩;have HR1:=hid (HR.out.below hbl);clear hbl;obtain ⟨c0,c1, -⟩:=HR1.out.cells;have f1:=HR1.out.free 1;go_wp2_with fail;go_ret;exact Or.inl ⟨trivial,hq,rfl,HR1.out.set1 q⟩
theorem must_any {R p c:Nat}{s:ByteArray}{W:World}(t:ByteArray) (h:Rd W R s p c W) (hp:p≤s.size) (hs:s.size≤1000000000000):
   Calls Tryz.prog 187 #[.pointer (some ⟨R,0,none⟩),.string t] W (Ends W R s c (X.must t.data.toList (rest s p)) (fun _=> .tuple #[])):=by
 have cT:=take_any t h hp hs;have HR:=hid h;clear h;go_enter Tryz.func187,Tryz.ntmps187;go_wp2_with fail;refine cT.mono ?_;rintro e w1 (⟨h1,h2,rfl,h3⟩|⟨h1,rfl,h3⟩)
 · have HX:Hid (X.must t.data.toList (rest s p)= .ok ((),rest s (p+t.size))):=by
    show _=_;unfold X.must;rw [if_pos h1,rest_drop,←Lib.size_eq]
   have HR1:=hid h3;have HQ:Hid (s.size-(rest s (p+t.size)).length=p+t.size):=by show _=_;rw [rest_len];omega
   clear h1 h2 h3 cT;go_wp2_with fail;go_end0;exact Or.inl ⟨(),_,HX.out,rfl,by rw [HQ.out];exact HR1.out⟩
 · have HX:Hid (X.must t.data.toList (rest s p)= .error (X.bad (rest s p))):=by
    show _=_;unfold X.must;rw [if_neg (by rw [h1];decide)]
   have HR1:=hid (HR.out.below h3);have cB:=bad_any HR1.out.own hp;clear h1 h3 cT;go_wp2_with fail;refine cB.mono ?_;rintro e w2 ⟨rfl,hbl⟩;exact ⟨rfl,Or.inr ⟨_,_,HX.out,rfl,(HR1.out.below hbl).g⟩⟩
def Errs (w:World):Prop:=(∃tp p,w.var? Tryz.prog "strconv.ErrSyntax" =some #[.iface tp p])∧(∃tp p,w.var? Tryz.prog "strconv.ErrRange" =some #[.iface tp p])
theorem Errs.keep {w w':World}(h:Errs w) (hb:Below w.heap.size w w'):Errs w':=by
 obtain ⟨⟨t1,p1,h1⟩,⟨t2,p2,h2⟩⟩:=h;have c1:w.cell? ⟨4,0,none⟩=some (.iface t1 p1):=by
  have h0:=World.var?_cell (show Tryz.prog.globalNamed "strconv.ErrSyntax" =some 4 by kernel_rfl) h1 0;simpa using h0
 have c2:w.cell? ⟨5,0,none⟩=some (.iface t2 p2):=by
  have h0:=World.var?_cell (show Tryz.prog.globalNamed "strconv.ErrRange" =some 5 by kernel_rfl) h2 0;simpa using h0
 exact ⟨⟨t1,p1,var?_below hb (show Tryz.prog.globalNamed "strconv.ErrSyntax" =some 4 by kernel_rfl) (Lib.lt_of_cell c1) h1⟩,
  ⟨t2,p2,var?_below hb (show Tryz.prog.globalNamed "strconv.ErrRange" =some 5 by kernel_rfl) (Lib.lt_of_cell c2) h2⟩⟩
theorem cut_list (s:ByteArray) (n m:Nat):(s.extract n m).data.toList=(s.data.toList.drop n).take (m-n):=by
 rw [ByteArray.data_extract,Array.toList_extract]
def Tabs (w:World):Prop:=Lib.Utf8Tabs 0 1 w
theorem Tabs.below {B:Nat}{w w':World}(h:Tabs w) (hb:Below B w w') (h0:0<B) (h1:1<B):Tabs w':=by
 refine ⟨fun c hc=> ?_,fun i hi=> ?_⟩
 · rw [hb.cell (p:=⟨0,c,none⟩) h0];exact h.1 c hc
 · rw [hb.cell (p:=⟨1,2*i,none⟩) h1,hb.cell (p:=⟨1,2*i+1,none⟩) h1];exact h.2 i hi
theorem Tabs.size {w:World}(h:Tabs w):0<w.heap.size∧1<w.heap.size:=
 ⟨block_lt_of_cell (h.1 0 (by omega)),block_lt_of_cell (h.2 0 (by omega)).1⟩
structure Ground (B:Nat) (w:World):Prop where
 errs:∀X,Below B w X→Errs X
 tabs:∀X,Below B w X→Tabs X
theorem Ground.keep {B:Nat}{w w':World}(h:Ground B w) (hb:Below B w w'):Ground B w':=⟨fun X hX=>h.errs X (hb.trans hX),fun X hX=>h.tabs X (hb.trans hX)⟩
theorem Ground.first {w:World}(hE:Errs w) (hT:Tabs w):Ground w.heap.size w:=⟨fun _ h=>hE.keep h,fun _ h=>hT.below h hT.size.1 hT.size.2⟩
theorem Rd.base {w W:World}{R p c B:Nat}{s:ByteArray}(h:Rd w R s p c W) (hB:B≤R):Below B w W:=
 ⟨h.g.os,h.g.tape,h.g.output,by have:=h.g.size;have:=h.lt;omega,fun k hk=>h.g.block k (by have:=h.lt;omega) (fun e=>by have:=Option.some.inj e;omega)⟩
theorem Ground.rd {w W:World}{R p c B:Nat}{s:ByteArray}(g:Ground B w) (h:Rd w R s p c W) (hB:B≤R):Ground B W:=g.keep (h.base hB)
theorem Tabs.under {w W:World}(h:Tabs w) (hb:Below w.heap.size w W):Tabs W:=h.below hb h.size.1 h.size.2
theorem Ground.now {B:Nat}{w:World}(g:Ground B w):Tabs w:=g.tabs w (Below.refl _ w)
theorem X.trim_skip (l:List UInt8):Lib.trimLeftS l [32,9,13,10]=X.skip l:=by
 unfold Lib.trimLeftS X.skip;congr 1
 funext c
 rw [Bool.eq_iff_iff];simp only [X.blank,List.contains_cons,List.contains_nil,Bool.or_eq_true,beq_iff_eq,Bool.or_false,or_assoc]
theorem rest_suf {s:ByteArray}{p:Nat}{r:List UInt8}(h:X.Suf r (rest s p)):r=rest s (s.size-r.length):=by
 have h1:=h.eq_drop;have h2:=h.len;rw [rest_len] at h1 h2;by_cases hp:p≤s.size
 · rw [rest_drop] at h1;rw [show s.size-r.length=p+(s.size-p-r.length) by omega];exact h1
 · have:r= []:=List.eq_nil_of_length_eq_zero (by omega);subst this;exact ((rest_nil s _).2 (by simp)).symm
theorem rest_pos {s:ByteArray}{p:Nat}{r:List UInt8}(h:X.Suf r (rest s p)) (hp:p≤s.size):p≤s.size-r.length∧s.size-r.length≤s.size:=by
 have h2:=h.len;rw [rest_len] at h2;omega
theorem trim_at (s:ByteArray) (p:Nat):∃t:ByteArray,t.size=(X.skip (rest s p)).length∧∀U,Calls Tryz.prog 112 #[.string (s.extract p s.size),.string ⟨#[32,9,13,10]⟩] U fun e w'=>e= .returned (.string t)∧Below U.heap.size U w':=by
 refine ⟨⟨(X.skip (rest s p)).toArray⟩,by show (X.skip (rest s p)).toArray.size=_;simp,fun U=> ?_⟩;have h:=Tryz.strings_TrimLeft_set (s.extract p s.size) ⟨#[32,9,13,10]⟩ U (by decide) (by
  intro j b hj;have:(⟨#[32,9,13,10]⟩:ByteArray).data.toList= [32,9,13,10]:=rfl;rw [this] at hj;have hm:=List.mem_of_getElem? hj;simp only [List.mem_cons,List.not_mem_nil,or_false] at hm;rcases hm with rfl|rfl|rfl|rfl<;>decide)
 rw [ext_rest,show (⟨#[32,9,13,10]⟩:ByteArray).data.toList= [32,9,13,10] from rfl,X.trim_skip] at h;exact h
theorem blanks_any {R p c:Nat}{s:ByteArray}{W:World}(h:Rd W R s p c W) (hp:p≤s.size) (hs:s.size≤1000000000000):
  Calls Tryz.prog 183 #[.pointer (some ⟨R,0,none⟩)] W fun en W'=>en= .returned (.bool (decide (p<s.size-(X.skip (rest s p)).length)))∧Rd W R s (s.size-(X.skip (rest s p)).length) c W':=by
 obtain ⟨t,ht,cT⟩:=trim_at s p;have hq:=rest_pos (X.Suf.skip (rest s p)) hp;have hsk:=(X.Suf.skip (rest s p)).len;rw [rest_len] at hsk;obtain ⟨q,hqe⟩:∃q,s.size-(X.skip (rest s p)).length=q:=⟨_,rfl⟩;have e1:(s.size:Int)-(t.size:Int)=(q:Int):=by omega
 rw [hqe] at hq ⊢;have e2:IntKind.i64.wrap (q:Int)=(q:Int):=by rw [IntKind.wrap_i64];omega
 have P0:(0:Int)≤(p:Int):=by omega
 have P1:(p:Int)≤(s.size:Int):=by omega
 have HT:=hid cT;have HR:=hid h;obtain ⟨c0,c1, -⟩:=h.cells;clear cT h ht hqe hsk hq;go_enter Tryz.func183,Tryz.ntmps183;go_wp2_with fail;go_region_with (go_at_call 112;refine (HT.out _).mono ?_;rintro en w1 ⟨rfl,bb⟩;(have H1:=hid (HR.out.drew.below bb));(obtain ⟨d0,d1, -⟩:=H1.out.cells);(have g1:=H1.out.free 1);clear bb)
 all_goals
  clear c0 c1;go_wp2_with fail;go_ret;exact ⟨rfl,H1.out.set1 q⟩
theorem stands_any (c:Int) (W:World):Calls Tryz.prog 282 #[.int .i32 c] W fun en W'=>en= .returned (.bool (X.stands c))∧W'=W:=by
 have hcl:(c=9)∨(c=10)∨(c=13)∨(c<32∧c≠9∧c≠10∧c≠13)∨(32≤c∧c≤55295)∨(55296≤c∧c≤57343)∨(57344≤c∧c≤65533)∨(65534≤c∧c≤65535)∨(65536≤c∧c≤1114111)∨(1114112≤c):=by omega
 rcases hcl with h|h|h|h|h|h|h|h|h|h
 · rw [show X.stands c=true by unfold X.stands;subst h;rfl];subst h;go_enter Tryz.func282,Tryz.ntmps282;go_wp2;go_ret;exact ⟨rfl,rfl⟩
 · rw [show X.stands c=true by unfold X.stands;subst h;rfl];subst h;go_enter Tryz.func282,Tryz.ntmps282;go_wp2;go_ret;exact ⟨rfl,rfl⟩
 · rw [show X.stands c=true by unfold X.stands;subst h;rfl];subst h;go_enter Tryz.func282,Tryz.ntmps282;go_wp2;go_ret;exact ⟨rfl,rfl⟩
 · rw [show X.stands c=false by unfold X.stands;simp;omega];have q9:(c==9)=false:=beq_eq_false_iff_ne.2 (by omega);have q10:(c==10)=false:=beq_eq_false_iff_ne.2 (by omega);have q13:(c==13)=false:=beq_eq_false_iff_ne.2 (by omega);have ta:decide (c<32)=true:=decide_eq_true (by omega);have tb:decide ((1114111:Int)<c)=false:=decide_eq_false (by omega);have td:decide (c≤55295)=true:=decide_eq_true (by omega);have te:decide ((57344:Int)≤c)=false:=decide_eq_false (by omega);have tf:decide (c≤65533)=true:=decide_eq_true (by omega);have tg:decide ((65536:Int)≤c)=false:=decide_eq_false (by omega);clear h;go_enter Tryz.func282,Tryz.ntmps282;go_wp2;go_ret;exact ⟨rfl,rfl⟩
 · rw [show X.stands c=true by unfold X.stands;simp;omega];have q9:(c==9)=false:=beq_eq_false_iff_ne.2 (by omega);have q10:(c==10)=false:=beq_eq_false_iff_ne.2 (by omega);have q13:(c==13)=false:=beq_eq_false_iff_ne.2 (by omega);have ta:decide (c<32)=false:=decide_eq_false (by omega);have tb:decide ((1114111:Int)<c)=false:=decide_eq_false (by omega);have td:decide (c≤55295)=true:=decide_eq_true (by omega);have te:decide ((57344:Int)≤c)=false:=decide_eq_false (by omega);have tf:decide (c≤65533)=true:=decide_eq_true (by omega);have tg:decide ((65536:Int)≤c)=false:=decide_eq_false (by omega);clear h;go_enter Tryz.func282,Tryz.ntmps282;go_wp2;go_ret;exact ⟨rfl,rfl⟩
 · rw [show X.stands c=false by unfold X.stands;simp;omega];have q9:(c==9)=false:=beq_eq_false_iff_ne.2 (by omega);have q10:(c==10)=false:=beq_eq_false_iff_ne.2 (by omega);have q13:(c==13)=false:=beq_eq_false_iff_ne.2 (by omega);have ta:decide (c<32)=false:=decide_eq_false (by omega);have tb:decide ((1114111:Int)<c)=false:=decide_eq_false (by omega);have td:decide (c≤55295)=false:=decide_eq_false (by omega);have te:decide ((57344:Int)≤c)=false:=decide_eq_false (by omega);have tf:decide (c≤65533)=true:=decide_eq_true (by omega);have tg:decide ((65536:Int)≤c)=false:=decide_eq_false (by omega);clear h;go_enter Tryz.func282,Tryz.ntmps282;go_wp2;go_ret;exact ⟨rfl,rfl⟩
 · rw [show X.stands c=true by unfold X.stands;simp;omega];have q9:(c==9)=false:=beq_eq_false_iff_ne.2 (by omega);have q10:(c==10)=false:=beq_eq_false_iff_ne.2 (by omega);have q13:(c==13)=false:=beq_eq_false_iff_ne.2 (by omega);have ta:decide (c<32)=false:=decide_eq_false (by omega);have tb:decide ((1114111:Int)<c)=false:=decide_eq_false (by omega);have td:decide (c≤55295)=false:=decide_eq_false (by omega);have te:decide ((57344:Int)≤c)=true:=decide_eq_true (by omega);have tf:decide (c≤65533)=true:=decide_eq_true (by omega);have tg:decide ((65536:Int)≤c)=false:=decide_eq_false (by omega);clear h;go_enter Tryz.func282,Tryz.ntmps282;go_wp2;go_ret;exact ⟨rfl,rfl⟩
 · rw [show X.stands c=false by unfold X.stands;simp;omega];have q9:(c==9)=false:=beq_eq_false_iff_ne.2 (by omega);have q10:(c==10)=false:=beq_eq_false_iff_ne.2 (by omega);have q13:(c==13)=false:=beq_eq_false_iff_ne.2 (by omega);have ta:decide (c<32)=false:=decide_eq_false (by omega);have tb:decide ((1114111:Int)<c)=false:=decide_eq_false (by omega);have td:decide (c≤55295)=false:=decide_eq_false (by omega);have te:decide ((57344:Int)≤c)=true:=decide_eq_true (by omega);have tf:decide (c≤65533)=false:=decide_eq_false (by omega);have tg:decide ((65536:Int)≤c)=false:=decide_eq_false (by omega);clear h;go_enter Tryz.func282,Tryz.ntmps282;go_wp2;go_ret;exact ⟨rfl,rfl⟩
 · rw [show X.stands c=true by unfold X.stands;simp;omega];have q9:(c==9)=false:=beq_eq_false_iff_ne.2 (by omega);have q10:(c==10)=false:=beq_eq_false_iff_ne.2 (by omega);have q13:(c==13)=false:=beq_eq_false_iff_ne.2 (by omega);have ta:decide (c<32)=false:=decide_eq_false (by omega);have tb:decide ((1114111:Int)<c)=false:=decide_eq_false (by omega);have td:decide (c≤55295)=false:=decide_eq_false (by omega);have te:decide ((57344:Int)≤c)=true:=decide_eq_true (by omega);have tf:decide (c≤65533)=false:=decide_eq_false (by omega);have tg:decide ((65536:Int)≤c)=true:=decide_eq_true (by omega);clear h;go_enter Tryz.func282,Tryz.ntmps282;go_wp2;go_ret;exact ⟨rfl,rfl⟩
 · rw [show X.stands c=false by unfold X.stands;simp;omega];have q9:(c==9)=false:=beq_eq_false_iff_ne.2 (by omega);have q10:(c==10)=false:=beq_eq_false_iff_ne.2 (by omega);have q13:(c==13)=false:=beq_eq_false_iff_ne.2 (by omega);have ta:decide (c<32)=false:=decide_eq_false (by omega);have tb:decide ((1114111:Int)<c)=true:=decide_eq_true (by omega);have td:decide (c≤55295)=false:=decide_eq_false (by omega);have te:decide ((57344:Int)≤c)=true:=decide_eq_true (by omega);have tf:decide (c≤65533)=false:=decide_eq_false (by omega);have tg:decide ((65536:Int)≤c)=true:=decide_eq_true (by omega);clear h;go_enter Tryz.func282,Tryz.ntmps282;go_wp2;go_ret;exact ⟨rfl,rfl⟩
theorem decode_rest {s:ByteArray}{p:Nat}(hp:p<s.size):Lib.decodeGo (s.extract p s.size)=Lib.decodeL (rest s p):=W.decodeGo_drop s p hp
theorem decode_end {s:ByteArray}:Lib.decodeGo (s.extract s.size s.size)=(65533,0):=by
 unfold Lib.decodeGo;rw [if_pos (by simp)]
theorem char_any {R p c B:Nat}{s:ByteArray}{W:World}(h:Rd W R s p c W) (hp:p≤s.size) (hs:s.size≤1000000000000) (hG:Ground B W):
   Calls Tryz.prog 239 #[.pointer (some ⟨R,0,none⟩)] W (Ends W R s c (X.char (rest s p)) (fun x=> .int .i32 x)):=by
 have P0:(0:Int)≤(p:Int):=by omega
 have P1:(p:Int)≤(s.size:Int):=by omega
 have HR:=hid h;have cD:=fun U (hU:Tabs U)=>Tryz.utf8_DecodeRuneInString (s.extract p s.size) U hU
 have cB:=fun U (hU:Rd U R s p c U)=>bad_any hU hp
 obtain ⟨c0,c1, -⟩:=h.cells;have HT:Hid (Tabs W):=hG.now;have HTD:Hid (Tabs W.drew):=hG.now;have fin:∀ {W' W'':World}{en:Ending},X.char (rest s p)= .error (X.bad (rest s p))→Rd W R s p c W'→Below W'.heap.size W' W''→Ends W R s c (X.char (rest s p)) (fun x=> .int .i32 x) (.panicked (chain (X.bad (rest s p)).2 ((s.size-(X.bad (rest s p)).1:Nat):Int))) W'':=fun h1 h2 h3=>Or.inr ⟨_,_,h1,rfl,(h2.below h3).g⟩
 by_cases hps:p=s.size
 · have hd:Lib.decodeGo (s.extract p s.size)=(65533,0):=by rw [hps];exact decode_end
   rw [hd] at cD;replace cD:∀U,Tabs U→Calls Tryz.prog 196 #[.string (s.extract p s.size)] U fun e w'=>e= .returned (.tuple #[.int .i32 65533,.int .i64 0])∧Below U.heap.size U w':=cD
   have HX:Hid (X.char (rest s p)= .error (X.bad (rest s p))):=by
     show _=_;have:=(rest_nil s p).2 (by omega);rw [this];rfl
   have HD:=hid cD;have HB:=hid cB;have HF:=hid (fun W' W'' en=>@fin W' W'' en);clear h cD cB fin hG hp hd hps;go_enter Tryz.func239,Tryz.ntmps239;go_wp2_with fail;refine quiet_lit (C:=(fun w1=>Rd W R s p c w1∧Tabs w1)) (by kernel_rfl) (by kernel_rfl) (⟨HR.out.drew,HTD.out⟩) ?_;repeat (first
     | go_big_quiet_skip
     | (go_big_quiet_want
        refine quiet_val (x:= ?_) (fun vv hC=> ?_) ?_
        rotate_left
        · skip
          obtain ⟨c0,c1, -⟩:=hC.1.cells;clear hC;go_simp;with_reducible rfl
        go_big_quiet_on
        try simp only [Act.put,List.setIfInBounds_toArray,List.set_cons_zero,List.set_cons_succ])
     | (go_big_quiet_want
        refine quiet_call (f:= ?_) (args:= ?_) (x:= ?_) (fun vv hC=> ?_) (fun vv hC=> ?_) ?_
        rotate_left 3
        · go_simp
          first|with_reducible rfl| (apply And.intro<;>with_reducible rfl)
        · first
            | (go_at_call 196;with_reducible refine (HD.out _ hC.2).mono ?_;rintro e ww ⟨rfl,bb⟩;refine And.intro ?_ (⟨hC.1.below bb,hC.2.under bb⟩);with_reducible rfl)
        go_big_quiet_on
        try simp only [Act.put,List.setIfInBounds_toArray,List.set_cons_zero,List.set_cons_succ]))
   refine wpQuiet_nil ?_;intro vq hq;have H2:=hid hq.1;clear c0 c1 hq;go_wp2_with fail;refine (HB.out _ H2.out.own).mono ?_;rintro e w2 ⟨rfl,hbl⟩;exact ⟨rfl,HF.out _ _ (.returned (.tuple #[])) HX.out H2.out hbl⟩
 · have hlt:p<s.size:=by omega
   rw [decode_rest hlt] at cD;have hne:rest s p≠ []:=fun e=>by rw [rest_nil] at e;omega
   have hw:=Lib.decodeL_width (rest s p);have hle:=Lib.decodeL_le (rest s p) hne;have hru:=Lib.decodeL_rune (rest s p);rw [rest_len] at hle;have HX:Hid (X.char (rest s p)=if ((Lib.decodeL (rest s p)).1=65533∧(Lib.decodeL (rest s p)).2=1)∨X.stands (Lib.decodeL (rest s p)).1=false then .error (X.bad (rest s p)) else .ok (((Lib.decodeL (rest s p)).1:Int),(rest s p).drop (Lib.decodeL (rest s p)).2)):=by
     show _=_;unfold X.char X.bad;rw [if_neg hne,if_neg hne]
   obtain ⟨r,hr⟩:∃r,(Lib.decodeL (rest s p)).1=r:=⟨_,rfl⟩;obtain ⟨k,hk⟩:∃k,(Lib.decodeL (rest s p)).2=k:=⟨_,rfl⟩;rw [hr] at cD HX hru;rw [hk] at cD HX hw hle;clear hr hk hne;have HD:=hid cD;have HB:=hid cB;have HF:=hid (fun W' W'' en=>@fin W' W'' en);have cS:=fun U=>stands_any (r:Int) U
   have k0:((k:Int)==0)=false:=beq_eq_false_iff_ne.2 (by omega);clear h cD cB fin hG;go_enter Tryz.func239,Tryz.ntmps239;go_wp2_with fail;refine quiet_lit (C:=(fun w1=>Rd W R s p c w1∧Tabs w1)) (by kernel_rfl) (by kernel_rfl) (⟨HR.out.drew,HTD.out⟩) ?_;repeat (first
     | go_big_quiet_skip
     | (go_big_quiet_want
        refine quiet_val (x:= ?_) (fun vv hC=> ?_) ?_
        rotate_left
        · skip
          obtain ⟨c0,c1, -⟩:=hC.1.cells;clear hC;go_simp;with_reducible rfl
        go_big_quiet_on
        try simp only [Act.put,List.setIfInBounds_toArray,List.set_cons_zero,List.set_cons_succ])
     | (go_big_quiet_want
        refine quiet_call (f:= ?_) (args:= ?_) (x:= ?_) (fun vv hC=> ?_) (fun vv hC=> ?_) ?_
        rotate_left 3
        · go_simp
          first|with_reducible rfl| (apply And.intro<;>with_reducible rfl)
        · first
            | (go_at_call 196;with_reducible refine (HD.out _ hC.2).mono ?_;rintro e ww ⟨rfl,bb⟩;refine And.intro ?_ (⟨hC.1.below bb,hC.2.under bb⟩);with_reducible rfl)
        go_big_quiet_on
        try simp only [Act.put,List.setIfInBounds_toArray,List.set_cons_zero,List.set_cons_succ]))
   refine wpQuiet_nil ?_;intro vq hq;have H1:=hid hq.1;clear c0 c1 hq HD HTD HT HR;have hcase:(((r:Int)==65533)=true∧((k:Int)==1)=true)∨((((r:Int)==65533)=false∨(((r:Int)==65533)=true∧((k:Int)==1)=false))∧X.stands r=false)∨((((r:Int)==65533)=false∨(((r:Int)==65533)=true∧((k:Int)==1)=false))∧X.stands r=true):=by
     cases (r:Int)==65533<;>cases (k:Int)==1<;>cases X.stands r<;>simp
   rcases hcase with ⟨g1,g2⟩|⟨gc,g3⟩|⟨gc,g3⟩
   · have HE:Hid (X.char (rest s p)= .error (X.bad (rest s p))):=by
       show _=_;rw [HX.out,if_pos];left;simp only [beq_iff_eq] at g1 g2;omega
     clear HX cS;go_wp2_with fail;refine (HB.out _ H1.out.own).mono ?_;rintro e w2 ⟨rfl,hbl⟩;exact ⟨rfl,HF.out _ _ (.returned (.tuple #[])) HE.out H1.out hbl⟩
   · have HE:Hid (X.char (rest s p)= .error (X.bad (rest s p))):=by
       show _=_;rw [HX.out,if_pos];right;exact g3
     rw [g3] at cS;clear HX g3;rcases gc with g1|⟨g1,g2⟩;all_goals
       go_wp2_with fail;refine (cS _).mono ?_;rintro e w2 ⟨rfl,rfl⟩;go_wp2_with fail;refine (HB.out _ H1.out.own).mono ?_;rintro e w2 ⟨rfl,hbl⟩;exact ⟨rfl,HF.out _ _ (.returned (.tuple #[])) HE.out H1.out hbl⟩
   · have HY0:X.char (rest s p)= .ok ((r:Int),rest s (p+k)):=by
       rw [HX.out,if_neg,rest_drop];rintro (⟨h4,h5⟩|h4)
       · rcases gc with g1|⟨g1,g2⟩
         · have:=beq_eq_false_iff_ne.1 g1;omega
         · have:=beq_eq_false_iff_ne.1 g2;omega
       · rw [g3] at h4;cases h4
     have HY:=hid HY0;rw [g3] at cS;clear HY0 HX g3;obtain ⟨q,hq⟩:∃q,p+k=q:=⟨_,rfl⟩;rw [hq] at HY;have e1:(p:Int)+(k:Int)=(q:Int):=by omega
     have e2:IntKind.i64.wrap (q:Int)=(q:Int):=by rw [IntKind.wrap_i64];omega
     have HQ:Hid (s.size-(rest s q).length=q):=by show _=_;rw [rest_len];omega
     obtain ⟨c0,c1, -⟩:=H1.out.cells;have f1:=H1.out.free 1;clear hq;rcases gc with g1|⟨g1,g2⟩;all_goals
       go_wp2_with fail;refine (cS _).mono ?_;rintro e w2 ⟨rfl,rfl⟩;go_wp2_with fail;go_ret;exact Or.inl ⟨_,_,HY.out,rfl,by rw [HQ.out];exact H1.out.set1 q⟩
def posOf (W:World) (R:Nat):Nat:=match W.cell? ⟨R,1,none⟩ with|some (.int _ v)=>v.toNat|_=>0
theorem Rd.pos {w W:World}{R p c:Nat}{s:ByteArray}(h:Rd w R s p c W):posOf W R=p:=by unfold posOf;rw [h.cells.2.1];simp
theorem X.skip_skip (l:List UInt8):X.skip (X.skip l)=X.skip l:=by
 unfold X.skip;induction l with
 | nil=>rfl
 | cons c r ih=>
   rw [List.dropWhile_cons];split
   · exact ih
   · rename_i h;rw [List.dropWhile_cons,if_neg h]
theorem take_l {R p c k:Nat}{s:ByteArray}{W:World}(l:List UInt8) (t:ByteArray) (hl:t.data.toList=l) (hk:t.size=k) (h:Rd W R s p c W) (hp:p≤s.size) (hs:s.size≤1000000000000):
  Calls Tryz.prog 98 #[.pointer (some ⟨R,0,none⟩),.string t] W fun en W'=>(l.isPrefixOf (rest s p)=true∧p+k≤s.size∧en= .returned (.bool true)∧Rd W R s (p+k) c W')∨(l.isPrefixOf (rest s p)=false∧en= .returned (.bool false)∧Below W.heap.size W W'):=by
 have:=take_any t h hp hs;rw [hl,hk] at this;exact this
theorem next_l {R p c:Nat}{s:ByteArray}{W:World}(l:List UInt8) (t:ByteArray) (hl:t.data.toList=l) (h:Rd W R s p c W) (hp:p≤s.size):
  Calls Tryz.prog 100 #[.pointer (some ⟨R,0,none⟩),.string t] W fun en W'=>en= .returned (.bool (l.isPrefixOf (rest s p)))∧Below W.heap.size W W':=by
 have:=next_any t h hp;rw [hl] at this;exact this
theorem must_l {R p c:Nat}{s:ByteArray}{W:World}(l:List UInt8) (t:ByteArray) (hl:t.data.toList=l) (h:Rd W R s p c W) (hp:p≤s.size) (hs:s.size≤1000000000000):
  Calls Tryz.prog 187 #[.pointer (some ⟨R,0,none⟩),.string t] W (Ends W R s c (X.must l (rest s p)) (fun _=> .tuple #[])):=by
 have:=must_any t h hp hs;rw [hl] at this;exact this
theorem comment_any {R p c B:Nat}{s:ByteArray}{W:World}(f:Nat) (hf:s.size-p<f) (h:Rd W R s p c W) (hp:p≤s.size) (hs:s.size≤1000000000000) (hG:Ground B W) (hB:B≤R):
  Calls Tryz.prog 184 #[.pointer (some ⟨R,0,none⟩)] W (Ends W R s c (X.comment f (rest s p)) (fun _=> .tuple #[])):=by
 obtain ⟨RES,hRES⟩:∃x,X.comment f (rest s p)=x:=⟨_,rfl⟩;rw [hRES];have HI0:Hid (s.size-p<f∧p≤s.size∧X.comment f (rest s p)=RES):=⟨hf,hp,hRES⟩;have HR:=hid h;have HG:=hid hG;clear h hf hp hRES hG;go_enter Tryz.func184,Tryz.ntmps184;go_wp2_with fail;go_loopw [] (fun wr=> ∃(q k:Nat),Hid (s.size-q<k∧q≤s.size∧X.comment k (rest s q)=RES)∧Hid (Rd W R s q c wr)) (fun wr=>s.size-posOf wr R)
 case atStart=>exact ⟨p,f,HI0,HR⟩
 case round=>
  obtain ⟨q,k,HI,HQ⟩:=hrel;clear HI0 HR;obtain ⟨h1,h2,h3⟩:=HI.out;obtain ⟨k,rfl⟩:∃k',k=k'+1:=⟨k-1,by omega⟩;have cT:=take_any ⟨#[45,45,62]⟩ HQ.out.own h2 hs;have HPOS:=hid HQ.out.pos;clear h1 h3;go_wp2_with fail;refine cT.mono ?_;rintro e w1 (⟨g1,g2,rfl,g3⟩|⟨g1,rfl,g3⟩)
  · have HE:Hid (RES= .ok ((),rest s (q+3))∧s.size-(rest s (q+3)).length=q+3):=by
      refine ⟨?_,by have:q+3≤s.size:=g2;rw [rest_len];omega⟩;rw [←HI.out.2.2,X.comment,if_pos (show [45,45,62].isPrefixOf (rest s q)=true from g1),rest_drop]
    have H1:=hid (HQ.out.trans g3);clear g1 g2 g3 cT;go_wp2_with fail;go_end0;exact Or.inl ⟨(),_,HE.out.1,rfl,by rw [HE.out.2];exact H1.out⟩
  · have H1:=hid (HQ.out.below g3);have hn1:¬ [45,45,62].isPrefixOf (rest s q)=true:=by rw [show [45,45,62].isPrefixOf (rest s q)=false from g1];decide
    have cN:=next_any ⟨#[45,45]⟩ H1.out.own h2;rw [show (⟨#[45,45]⟩:ByteArray).data.toList.isPrefixOf (rest s q)= [45,45].isPrefixOf (rest s q) from rfl] at cN;cases hb: [45,45].isPrefixOf (rest s q)
    · rw [hb] at cN;have HE:Hid (RES=(match X.char (rest s q) with| .error e=> .error e| .ok (_,r)=>X.comment k r)):=by
        show _=_;rw [←HI.out.2.2,X.comment,if_neg hn1,hb];rfl
      have hfair:=X.char_fair (rest s q);have cC:=fun w' (h:Rd w' R s q c w') (g:Ground B w')=>char_any h h2 hs g
      have HF:=hid hfair;clear g1 g3 cT hn1 hb hfair;go_wp2_with fail;refine cN.mono ?_;rintro e w2 ⟨rfl,hbl⟩;have H2:=hid (H1.out.below hbl);clear hbl cN;go_wp2_with fail;refine (cC _ H2.out.own (HG.out.rd H2.out hB)).mono ?_;rintro e w3 (⟨x,r,hx,rfl,hr⟩|⟨n,e,hx,rfl,hr⟩)
      · have hsuf:=(HF.out.1 _ _ hx).1;have hlen:=(HF.out.1 _ _ hx).2;rw [rest_len] at hlen;have hpos:=rest_pos hsuf h2;have H3:Hid (s.size-(s.size-r.length)<k∧s.size-r.length≤s.size∧X.comment k (rest s (s.size-r.length))=RES):=by
         refine ⟨by have:=HI.out.1;omega,by omega,?_⟩;rw [HE.out,hx,←rest_suf hsuf]
        have H4:=hid (H2.out.trans hr);have H5:Hid (s.size-(s.size-r.length)<s.size-q):=by show _<_;omega
        clear hx hr hsuf hlen hpos cC HE HF;go_wp2_with fail;go_roundw
        case rel=>exact ⟨_,k,H3,H4⟩
        case measure=>rw [H4.out.pos,HPOS.out];exact H5.out
      · have HE2:Hid (RES= .error (n,e)):=by show _=_;rw [HE.out,hx]
        exact ⟨rfl,Or.inr ⟨_,_,HE2.out,rfl,H2.out.g.trans hr⟩⟩
    · rw [hb] at cN;have HE:Hid (RES= .error (X.bad (rest s q))):=by
        show _=_;rw [←HI.out.2.2,X.comment,if_neg hn1,if_pos hb]
      have cB:=fun w' (h:Rd w' R s q c w')=>bad_any h h2
      clear g1 g3 cT hn1 hb;go_wp2_with fail;refine cN.mono ?_;rintro e w2 ⟨rfl,hbl⟩;have H2:=hid (H1.out.below hbl);clear hbl cN;go_wp2_with fail;refine (cB _ H2.out.own).mono ?_;rintro e w3 ⟨rfl,hbl⟩;exact ⟨rfl,Or.inr ⟨_,_,HE.out,rfl,(H2.out.below hbl).g⟩⟩
theorem misc_any {R p c B:Nat}{s:ByteArray}{W:World}(f:Nat) (hf:s.size-p<f) (h:Rd W R s p c W) (hp:p≤s.size) (hs:s.size≤1000000000000) (hG:Ground B W) (hB:B≤R):
  Calls Tryz.prog 99 #[.pointer (some ⟨R,0,none⟩)] W (Ends W R s c (X.misc f (rest s p)) (fun _=> .tuple #[])):=by
 obtain ⟨RES,hRES⟩:∃x,X.misc f (rest s p)=x:=⟨_,rfl⟩;rw [hRES];have cB0:=blanks_any h hp hs;have hsk:=X.Suf.skip (rest s p);have hpos:=rest_pos hsk hp;obtain ⟨q,hq⟩:∃q,s.size-(X.skip (rest s p)).length=q:=⟨_,rfl⟩;have hqe:X.skip (rest s p)=rest s q:=by rw [←hq];exact rest_suf hsk
 rw [hq] at cB0 hpos;have hidem:X.skip (rest s q)=rest s q:=by rw [←hqe];exact X.skip_skip _
 obtain ⟨f,rfl⟩:∃f',f=f'+1:=⟨f-1,by omega⟩;have HI0:Hid (s.size-q<f+1∧q≤s.size∧X.skip (rest s q)=rest s q∧X.misc (f+1) (rest s q)=RES):=by
  refine ⟨by omega,hpos.2,hidem,?_⟩;rw [←hRES,X.misc,X.misc,hidem,hqe]
 have HR:=hid h;have HG:=hid hG;clear h hf hp hRES hG hsk hpos hqe hidem hq;go_enter Tryz.func99,Tryz.ntmps99;go_wp2_with fail;refine cB0.mono ?_;rintro e w0 ⟨rfl,hr0⟩;have HR0:=hid (HR.out.trans hr0);clear hr0 cB0;go_wp2_with fail;go_loopw [] (fun wr=> ∃(q k:Nat),Hid (s.size-q<k∧q≤s.size∧X.skip (rest s q)=rest s q∧X.misc k (rest s q)=RES)∧Hid (Rd W R s q c wr)) (fun wr=>s.size-posOf wr R)
 case atStart=>exact ⟨q,f+1,HI0,HR0⟩
 case round=>
  obtain ⟨q,k,HI,HQ⟩:=hrel;clear HI0 HR HR0;obtain ⟨h1,h2,h0,h3⟩:=HI.out;obtain ⟨k,rfl⟩:∃k',k=k'+1:=⟨k-1,by omega⟩;have cT:=take_l (k:=4) [60,33,45,45] ⟨#[60,33,45,45]⟩ rfl rfl HQ.out.own h2 hs;have HPOS:=hid HQ.out.pos;clear h1 h0 h3;go_wp2_with fail;refine cT.mono ?_;rintro e w1 (⟨g1,g2,rfl,g3⟩|⟨g1,rfl,g3⟩)
  · have HE:Hid (RES=(match X.comment ((rest s q).length+1) (rest s (q+4)) with| .error e=> .error e| .ok (_,r)=>X.misc k r)):=by
      show _=_;rw [←HI.out.2.2.2,X.misc,HI.out.2.2.1,if_pos g1,rest_drop];try rfl
    have H1:=hid (HQ.out.trans g3);have cC:=comment_any ((rest s q).length+1) (by rw [rest_len];omega) H1.out.own g2 hs (HG.out.rd H1.out hB) hB;have HF:=hid (X.comment_fair ((rest s q).length+1) (rest s (q+4)));have cBl:=fun w' p' (h:Rd w' R s p' c w') (hp:p'≤s.size)=>blanks_any h hp hs
    clear g1 g3 cT;go_wp2_with fail;refine cC.mono ?_;rintro e w2 (⟨x,r,hx,rfl,hr⟩|⟨n,e,hx,rfl,hr⟩)
    · have hsuf:=(HF.out.1 _ _ hx).1;have hlen:=hsuf.len;rw [rest_len] at hlen;have hpos:=rest_pos hsuf g2;have hre:=rest_suf hsuf;obtain ⟨u,hu⟩:∃u,s.size-r.length=u:=⟨_,rfl⟩;rw [hu] at hr hpos hre;have H2:=hid (H1.out.trans hr);have hsk:=X.Suf.skip (rest s u);have hpos2:=rest_pos hsk hpos.2;have hre2:=rest_suf hsk;have cB1:=cBl _ _ H2.out.own hpos.2;obtain ⟨v,hv⟩:∃v,s.size-(X.skip (rest s u)).length=v:=⟨_,rfl⟩;rw [hv] at hpos2 hre2 cB1;have hidem:X.skip (rest s v)=rest s v:=by rw [←hre2];exact X.skip_skip _
      have H3:Hid (s.size-v<k∧v≤s.size∧X.skip (rest s v)=rest s v∧X.misc k (rest s v)=RES):=by
       refine ⟨by have:=HI.out.1;omega,hpos2.2,hidem,?_⟩;rw [HE.out,hx];show _=X.misc k r;rw [hre];obtain ⟨k0,hk0⟩:∃k0,k=k0+1:=⟨k-1,by have:=HI.out.1;omega⟩;rw [hk0,X.misc,X.misc,hidem,hre2]
      have H5:Hid (s.size-v<s.size-q):=by show _<_;omega
      clear hx hr hsuf hlen hpos hre hsk hpos2 hre2 hidem hu hv cBl HE HF cC;go_wp2_with fail;refine cB1.mono ?_;rintro e w3 ⟨rfl,hr3⟩;have H4:=hid (H2.out.trans hr3);clear hr3 cB1;go_wp2_with fail;go_roundw
      case rel=>exact ⟨_,k,H3,H4⟩
      case measure=>rw [H4.out.pos,HPOS.out];exact H5.out
    · have HE2:Hid (RES= .error (n,e)):=by show _=_;rw [HE.out,hx]
      exact ⟨rfl,Or.inr ⟨_,_,HE2.out,rfl,H1.out.g.trans hr⟩⟩
  · have H1:=hid (HQ.out.below g3);have HE:Hid (RES= .ok ((),rest s q)∧s.size-(rest s q).length=q):=by
      refine ⟨?_,by rw [rest_len];omega⟩;rw [←HI.out.2.2.2,X.misc,HI.out.2.2.1,if_neg (by rw [g1];decide)]
    clear g1 g3 cT;go_wp2_with fail;go_end0;exact Or.inl ⟨(),_,HE.out.1,rfl,by rw [HE.out.2];exact H1.out⟩
theorem letter_any (c:UInt8) (W:World):Calls Tryz.prog 241 #[.int .u8 c.toNat] W fun en W'=>en= .returned (.bool (X.letter c))∧W'=W:=by
 obtain ⟨n,hn⟩:∃n,c.toNat=n:=⟨_,rfl⟩;have hL:X.letter c=(decide (97≤n∧n≤122)||decide (65≤n∧n≤90)||decide (n=95)):=by unfold X.letter;rw [hn]
 rw [hL,hn];clear hL hn c;have hcl:(97≤n∧n≤122)∨(122<n)∨(65≤n∧n≤90)∨n=95∨(90<n∧n<97∧n≠95)∨n<65:=by omega
 rcases hcl with h|h|h|h|h|h
 · rw [show (decide (97≤n∧n≤122)||decide (65≤n∧n≤90)||decide (n=95))=true by simp;omega];have ta:decide ((97:Int)≤(n:Int))=true:=decide_eq_true (by omega);have tb:decide ((n:Int)≤122)=true:=decide_eq_true (by omega);have td:decide ((65:Int)≤(n:Int))=true:=decide_eq_true (by omega);have te:decide ((n:Int)≤90)=false:=decide_eq_false (by omega);have q:((n:Int)==95)=false:=beq_eq_false_iff_ne.2 (by omega);clear h;go_enter Tryz.func241,Tryz.ntmps241;go_wp2;go_ret;exact ⟨rfl,rfl⟩
 · rw [show (decide (97≤n∧n≤122)||decide (65≤n∧n≤90)||decide (n=95))=false by simp;omega];have ta:decide ((97:Int)≤(n:Int))=true:=decide_eq_true (by omega);have tb:decide ((n:Int)≤122)=false:=decide_eq_false (by omega);have td:decide ((65:Int)≤(n:Int))=true:=decide_eq_true (by omega);have te:decide ((n:Int)≤90)=false:=decide_eq_false (by omega);have q:((n:Int)==95)=false:=beq_eq_false_iff_ne.2 (by omega);clear h;go_enter Tryz.func241,Tryz.ntmps241;go_wp2;go_ret;exact ⟨rfl,rfl⟩
 · rw [show (decide (97≤n∧n≤122)||decide (65≤n∧n≤90)||decide (n=95))=true by simp;omega];have ta:decide ((97:Int)≤(n:Int))=false:=decide_eq_false (by omega);have tb:decide ((n:Int)≤122)=true:=decide_eq_true (by omega);have td:decide ((65:Int)≤(n:Int))=true:=decide_eq_true (by omega);have te:decide ((n:Int)≤90)=true:=decide_eq_true (by omega);have q:((n:Int)==95)=false:=beq_eq_false_iff_ne.2 (by omega);clear h;go_enter Tryz.func241,Tryz.ntmps241;go_wp2;go_ret;exact ⟨rfl,rfl⟩
 · rw [show (decide (97≤n∧n≤122)||decide (65≤n∧n≤90)||decide (n=95))=true by subst h;rfl];have ta:decide ((97:Int)≤(n:Int))=false:=decide_eq_false (by omega);have tb:decide ((n:Int)≤122)=true:=decide_eq_true (by omega);have td:decide ((65:Int)≤(n:Int))=true:=decide_eq_true (by omega);have te:decide ((n:Int)≤90)=false:=decide_eq_false (by omega);have q:((n:Int)==95)=true:=by simp [h]
   clear h;go_enter Tryz.func241,Tryz.ntmps241;go_wp2;go_ret;exact ⟨rfl,rfl⟩
 · rw [show (decide (97≤n∧n≤122)||decide (65≤n∧n≤90)||decide (n=95))=false by simp;omega];have ta:decide ((97:Int)≤(n:Int))=false:=decide_eq_false (by omega);have tb:decide ((n:Int)≤122)=true:=decide_eq_true (by omega);have td:decide ((65:Int)≤(n:Int))=true:=decide_eq_true (by omega);have te:decide ((n:Int)≤90)=false:=decide_eq_false (by omega);have q:((n:Int)==95)=false:=beq_eq_false_iff_ne.2 (by omega);clear h;go_enter Tryz.func241,Tryz.ntmps241;go_wp2;go_ret;exact ⟨rfl,rfl⟩
 · rw [show (decide (97≤n∧n≤122)||decide (65≤n∧n≤90)||decide (n=95))=false by simp;omega];have ta:decide ((97:Int)≤(n:Int))=false:=decide_eq_false (by omega);have tb:decide ((n:Int)≤122)=true:=decide_eq_true (by omega);have td:decide ((65:Int)≤(n:Int))=false:=decide_eq_false (by omega);have te:decide ((n:Int)≤90)=true:=decide_eq_true (by omega);have q:((n:Int)==95)=false:=beq_eq_false_iff_ne.2 (by omega);clear h;go_enter Tryz.func241,Tryz.ntmps241;go_wp2;go_ret;exact ⟨rfl,rfl⟩
namespace X
theorem index_digits (c:UInt8):decide ((0:Int)≤Lib.indexByte [48,49,50,51,52,53,54,55,56,57,45,46] c)=(decide (48≤c.toNat∧c.toNat≤57)||decide (c.toNat=45∨c.toNat=46)):=by
 have hf:∀y:Fin 256,decide ((0:Int)≤Lib.indexByte [48,49,50,51,52,53,54,55,56,57,45,46] (UInt8.ofNat y.val))=(decide (48≤y.val∧y.val≤57)||decide (y.val=45∨y.val=46)):=by decide+kernel
 have:=hf ⟨c.toNat,c.toNat_lt⟩;simpa using this
def tailLen (first:Bool) (l:List UInt8):Nat:=if first then (partL l).length else (l.takeWhile other).length
theorem tail_nil (b:Bool):tailLen b []=0:=by cases b<;>rfl
theorem tail_yes {b:Bool}{c:UInt8}{r:List UInt8}(h:letter c=true∨(b=false∧other c=true)):tailLen b (c::r)=1+tailLen false r:=by
 have ho:b=false→other c=true:=fun hb=>by
   rcases h with h|h
   · unfold other;rw [h];rfl
   · exact h.2
 cases b
 · show ((c::r).takeWhile other).length=1+(r.takeWhile other).length;rw [List.takeWhile_cons,if_pos (ho rfl)];simp;omega
 · rcases h with h|h
   · show (partL (c::r)).length=1+(r.takeWhile other).length;rw [partL,if_pos h];simp;omega
   · cases h.1
theorem tail_no {b:Bool}{c:UInt8}{r:List UInt8}(h1:letter c=false) (h2:b=false→other c=false):tailLen b (c::r)=0:=by
 cases b
 · show ((c::r).takeWhile other).length=0;rw [List.takeWhile_cons,if_neg (by rw [h2 rfl];decide)];rfl
 · show (partL (c::r)).length=0;rw [partL,if_neg (by rw [h1];decide)];rfl
theorem take_partL (l:List UInt8):l.take (partL l).length=partL l:=by
 obtain ⟨r,h⟩:=partL_pre l;obtain ⟨q,hq⟩:∃q,partL l=q:=⟨_,rfl⟩;rw [hq] at h ⊢;rw [←h,List.take_left]
end X
theorem rest_cons {s:ByteArray}{p:Nat}(h:p<s.size):rest s p=s[p]::rest s (p+1):=by
 unfold rest;rw [List.drop_eq_getElem_cons (by rw [←Lib.size_eq];exact h)];rfl
theorem extract_part (s:ByteArray) (p:Nat):s.extract p (p+(X.partL (rest s p)).length)=X.ba (X.partL (rest s p)):=by
 rw [W.extract_eq];show X.ba ((rest s p).take _)=_;rw [X.take_partL]
def PartAt (s:ByteArray) (p N e:Nat):Prop:=p≤e∧e≤p+N∧∃b,b=decide (e=p)∧p+N=e+X.tailLen b (rest s e)
theorem PartAt.yes {s:ByteArray}{p N e:Nat}(h:PartAt s p N e) (hlt:e<s.size) (hy:X.letter (s[e]'hlt)=true∨(p<e∧X.other (s[e]'hlt)=true)):PartAt s p N (e+1):=by
 obtain ⟨h1,h2,b,hb,h3⟩:=h;rw [rest_cons hlt,X.tail_yes (by
  rcases hy with hy|hy
  · exact Or.inl hy
  · exact Or.inr ⟨by rw [hb];exact decide_eq_false (by omega),hy.2⟩)] at h3
 exact ⟨by omega,by omega,false,(decide_eq_false (by omega)).symm,by omega⟩
theorem PartAt.no {s:ByteArray}{p N e:Nat}(h:PartAt s p N e) (hlt:e<s.size) (h1:X.letter (s[e]'hlt)=false) (h2:p<e→X.other (s[e]'hlt)=false):e=p+N:=by
 obtain ⟨g1,g2,b,hb,h3⟩:=h;rw [rest_cons hlt,X.tail_no h1 (fun hf=>h2 (by rw [hb] at hf;have:=of_decide_eq_false hf;omega))] at h3;omega
theorem PartAt.end {s:ByteArray}{p N e:Nat}(h:PartAt s p N e) (hge:s.size≤e):e=p+N:=by
 obtain ⟨g1,g2,b,hb,h3⟩:=h;rw [(rest_nil s e).2 hge,X.tail_nil] at h3;omega
theorem part_any {R p c:Nat}{s:ByteArray}{W:World}(h:Rd W R s p c W) (hp:p≤s.size) (hs:s.size≤1000000000000):
  Calls Tryz.prog 240 #[.pointer (some ⟨R,0,none⟩)] W (Ends W R s c (X.part (rest s p)) (fun l=> .string (X.ba l))):=by
 obtain ⟨N,hN⟩:∃N,(X.partL (rest s p)).length=N:=⟨_,rfl⟩;have hNl:p+N≤s.size:=by have:=X.partL_len (rest s p);rw [rest_len] at this;omega
 have HI0:Hid (PartAt s p N p):=⟨Nat.le_refl _,Nat.le_add_right _ _,true,(decide_eq_true rfl).symm,by show _=p+(X.partL (rest s p)).length;rw [hN]⟩;have HR:=hid h;have HN:=hid hN;obtain ⟨c0,c1, -⟩:=h.cells;clear h hN;go_enter Tryz.func240,Tryz.ntmps240;go_wp2_with fail;go_loopw [3] (fun vi wr=> ∃(e:Nat),vi= .int .i64 e∧Hid (PartAt s p N e)∧Hid (Rd W R s p c wr)) (fun vi _=>s.size-(intOf vi).toNat)
 case atStart=>exact ⟨p,rfl,HI0,HR⟩
 case round=>
  obtain ⟨e,rfl,HI,HQ⟩:=hrel;clear HI0 HR c0 c1;obtain ⟨c0,c1, -⟩:=HQ.out.cells;have cI:=fun (b:UInt8) U=>Tryz.strings_IndexByte ⟨#[48,49,50,51,52,53,54,55,56,57,45,46]⟩ b.toNat U
  by_cases hlt:e<s.size
  · have d0:decide ((e:Int)<(s.size:Int))=true:=decide_eq_true (by omega);have d1:decide (e<s.size)=true:=decide_eq_true hlt;have i0:(0:Int)≤(e:Int):=by omega
    have i1:(e:Int)<(s.size:Int):=by omega
    have cL:=fun U=>letter_any (s[e]'hlt) U
    have cI:=cI (s[e]'hlt);have hdig:=X.index_digits (s[e]'hlt);have hoth:X.other (s[e]'hlt)=(X.letter (s[e]'hlt)||(decide (48≤(s[e]'hlt).toNat∧(s[e]'hlt).toNat≤57)||decide ((s[e]'hlt).toNat=45∨(s[e]'hlt).toNat=46))):=by unfold X.other;rw [Bool.or_assoc]
    rw [←hdig] at hoth;obtain ⟨ix,hix⟩:∃ix,Lib.indexByte [48,49,50,51,52,53,54,55,56,57,45,46] (s[e]'hlt)=ix:=⟨_,rfl⟩;rw [hix] at hoth;replace cI:∀U,Calls Tryz.prog 170 #[.string ⟨#[48,49,50,51,52,53,54,55,56,57,45,46]⟩,.int .u8 (s[e]'hlt).toNat] U fun e w'=>e= .returned (.int .i64 ix)∧w'=U:=fun U=>by
      have h0:((((s[e]'hlt).toNat:Int).toNat).toUInt8)=s[e]'hlt:=by simp
      have:=cI U;rw [h0] at this;rw [←hix];exact this
    clear hdig hix;have hcl:X.letter (s[e]'hlt)=true∨(X.letter (s[e]'hlt)=false∧p<e∧decide ((0:Int)≤ix)=true)∨(X.letter (s[e]'hlt)=false∧p<e∧decide ((0:Int)≤ix)=false)∨(X.letter (s[e]'hlt)=false∧¬ p<e):=by
      cases X.letter (s[e]'hlt)<;>cases decide ((0:Int)≤ix)<;>simp<;>omega
    rcases hcl with g1|⟨g1,g2,g3⟩|⟨g1,g2,g3⟩|⟨g1,g2⟩
    · rw [g1] at cL;have HN2:=hid (HI.out.yes hlt (Or.inl g1));clear HI;go_wp2_with fail;refine (cL _).mono ?_;rintro e1 w1 ⟨rfl,rfl⟩;go_wp2_with fail;go_roundw
      case rel=>exact ⟨e+1,by go_num,HN2,HQ⟩
      case measure=>simp [intOf];omega
    · rw [g1] at cL;have k0:decide ((p:Int)<(e:Int))=true:=decide_eq_true (by omega);have k1:decide (p<e)=true:=decide_eq_true g2;rw [g1,g3] at hoth;have HN2:=hid (HI.out.yes hlt (Or.inr ⟨g2,hoth⟩));clear HI;go_wp2_with fail;refine (cL _).mono ?_;rintro e1 w1 ⟨rfl,rfl⟩;go_wp2_with fail;refine (cI _).mono ?_;rintro e2 w2 ⟨rfl,rfl⟩;go_wp2_with fail;go_roundw
      case rel=>exact ⟨e+1,by go_num,HN2,HQ⟩
      case measure=>simp [intOf];omega
    · rw [g1] at cL;have k0:decide ((p:Int)<(e:Int))=true:=decide_eq_true (by omega);have k1:decide (p<e)=true:=decide_eq_true g2;rw [g1,g3] at hoth;have he:=HI.out.no hlt g1 (fun _=>hoth);clear hoth;have HQE:=hid he;have hqs:e≤s.size:=by omega
      have hpq:p≤e:=by omega
      have P0:(0:Int)≤(p:Int):=by omega
      have P1:(p:Int)≤(e:Int):=by omega
      have P2:(e:Int)≤(s.size:Int):=by omega
      have hc:N=0∨32<N∨(N≠0∧N≤32):=by omega
      have cB:=fun w' (h:Rd w' R s p c w')=>bad_any h hp
      have cF:=fun U=>fail_any 3 (p:Int) U
      clear HI;rcases hc with hc|hc|⟨hc0,hc⟩
      · have s0:((e:Int)==(p:Int))=true:=by rw [show e=p by omega];simp
        have HE:Hid (X.part (rest s p)= .error (X.bad (rest s p))):=by
         show _=_;unfold X.part;rw [if_pos (List.eq_nil_of_length_eq_zero (by rw [HN.out,hc]))]
        clear hc he;go_wp2_with fail;refine (cL _).mono ?_;rintro e1 w1 ⟨rfl,rfl⟩;go_wp2_with fail;refine (cI _).mono ?_;rintro e2 w2 ⟨rfl,rfl⟩;go_wp2_with fail;refine (cB _ HQ.out.own).mono ?_;rintro en w3 ⟨rfl,hbl⟩;exact ⟨rfl,Or.inr ⟨_,_,HE.out,rfl,(HQ.out.below hbl).g⟩⟩
      · have s0:((e:Int)==(p:Int))=false:=beq_eq_false_iff_ne.2 (by omega);have s1:decide ((32:Int)<(e:Int)-(p:Int))=true:=decide_eq_true (by omega);have HE:Hid (X.part (rest s p)= .error (s.size-p,3)∧s.size-(s.size-p)=p):=by
         refine ⟨?_,by omega⟩;unfold X.part;rw [if_neg (fun hh=>by have:=HN.out;rw [hh] at this;simp at this;omega),HN.out,if_pos hc,rest_len]
        clear hc he;go_wp2_with fail;refine (cL _).mono ?_;rintro e1 w1 ⟨rfl,rfl⟩;go_wp2_with fail;refine (cI _).mono ?_;rintro e2 w2 ⟨rfl,rfl⟩;go_wp2_with fail;refine (cF _).mono ?_;rintro en w3 ⟨rfl,rfl⟩;exact ⟨rfl,Or.inr ⟨_,_,HE.out.1,by rw [HE.out.2],HQ.out.g⟩⟩
      · have s0:((e:Int)==(p:Int))=false:=beq_eq_false_iff_ne.2 (by omega);have s1:decide ((32:Int)<(e:Int)-(p:Int))=false:=decide_eq_false (by omega);have HE:Hid (X.part (rest s p)= .ok (X.partL (rest s p),rest s e)∧s.size-(rest s e).length=e∧s.extract p e=X.ba (X.partL (rest s p))):=by
         refine ⟨?_,by rw [rest_len];omega,by rw [HQE.out,←HN.out];exact extract_part s p⟩;unfold X.part;rw [if_neg (fun hh=>by have:=HN.out;rw [hh] at this;simp at this;omega),HN.out,if_neg (by omega),rest_drop,←HQE.out]
        have f1:=HQ.out.free 1;clear hc hc0 he;go_wp2_with fail;refine (cL _).mono ?_;rintro e1 w1 ⟨rfl,rfl⟩;go_wp2_with fail;refine (cI _).mono ?_;rintro e2 w2 ⟨rfl,rfl⟩;go_wp2_with fail;go_region
        go_wp2_with fail;go_ret;exact Or.inl ⟨_,_,HE.out.1,by rw [HE.out.2.2];rfl,by rw [HE.out.2.1];exact HQ.out.drew.set1 e⟩
    · rw [g1] at cL;have k0:decide ((p:Int)<(e:Int))=false:=decide_eq_false (by omega);have k1:decide (p<e)=false:=decide_eq_false g2;have he:=HI.out.no hlt g1 (fun h=>absurd h g2);clear hoth cI;have HQE:=hid he;have hqs:e≤s.size:=by omega
      have hpq:p≤e:=by omega
      have P0:(0:Int)≤(p:Int):=by omega
      have P1:(p:Int)≤(e:Int):=by omega
      have P2:(e:Int)≤(s.size:Int):=by omega
      have hc:N=0∨32<N∨(N≠0∧N≤32):=by omega
      have cB:=fun w' (h:Rd w' R s p c w')=>bad_any h hp
      have cF:=fun U=>fail_any 3 (p:Int) U
      clear HI;rcases hc with hc|hc|⟨hc0,hc⟩
      · have s0:((e:Int)==(p:Int))=true:=by rw [show e=p by omega];simp
        have HE:Hid (X.part (rest s p)= .error (X.bad (rest s p))):=by
         show _=_;unfold X.part;rw [if_pos (List.eq_nil_of_length_eq_zero (by rw [HN.out,hc]))]
        clear hc he;go_wp2_with fail;refine (cL _).mono ?_;rintro e1 w1 ⟨rfl,rfl⟩;go_wp2_with fail;refine (cB _ HQ.out.own).mono ?_;rintro en w3 ⟨rfl,hbl⟩;exact ⟨rfl,Or.inr ⟨_,_,HE.out,rfl,(HQ.out.below hbl).g⟩⟩
      · have s0:((e:Int)==(p:Int))=false:=beq_eq_false_iff_ne.2 (by omega);have s1:decide ((32:Int)<(e:Int)-(p:Int))=true:=decide_eq_true (by omega);have HE:Hid (X.part (rest s p)= .error (s.size-p,3)∧s.size-(s.size-p)=p):=by
         refine ⟨?_,by omega⟩;unfold X.part;rw [if_neg (fun hh=>by have:=HN.out;rw [hh] at this;simp at this;omega),HN.out,if_pos hc,rest_len]
        clear hc he;go_wp2_with fail;refine (cL _).mono ?_;rintro e1 w1 ⟨rfl,rfl⟩;go_wp2_with fail;refine (cF _).mono ?_;rintro en w3 ⟨rfl,rfl⟩;exact ⟨rfl,Or.inr ⟨_,_,HE.out.1,by rw [HE.out.2],HQ.out.g⟩⟩
      · have s0:((e:Int)==(p:Int))=false:=beq_eq_false_iff_ne.2 (by omega);have s1:decide ((32:Int)<(e:Int)-(p:Int))=false:=decide_eq_false (by omega);have HE:Hid (X.part (rest s p)= .ok (X.partL (rest s p),rest s e)∧s.size-(rest s e).length=e∧s.extract p e=X.ba (X.partL (rest s p))):=by
         refine ⟨?_,by rw [rest_len];omega,by rw [HQE.out,←HN.out];exact extract_part s p⟩;unfold X.part;rw [if_neg (fun hh=>by have:=HN.out;rw [hh] at this;simp at this;omega),HN.out,if_neg (by omega),rest_drop,←HQE.out]
        have f1:=HQ.out.free 1;clear hc hc0 he;go_wp2_with fail;refine (cL _).mono ?_;rintro e1 w1 ⟨rfl,rfl⟩;go_wp2_with fail;go_region
        go_wp2_with fail;go_ret;exact Or.inl ⟨_,_,HE.out.1,by rw [HE.out.2.2];rfl,by rw [HE.out.2.1];exact HQ.out.drew.set1 e⟩
  · have d0:decide ((e:Int)<(s.size:Int))=false:=decide_eq_false (by omega);have d1:decide (e<s.size)=false:=decide_eq_false hlt;have he:=HI.out.end (by omega);clear cI;have HQE:=hid he;have hqs:e≤s.size:=by omega
    have hpq:p≤e:=by omega
    have P0:(0:Int)≤(p:Int):=by omega
    have P1:(p:Int)≤(e:Int):=by omega
    have P2:(e:Int)≤(s.size:Int):=by omega
    have hc:N=0∨32<N∨(N≠0∧N≤32):=by omega
    have cB:=fun w' (h:Rd w' R s p c w')=>bad_any h hp
    have cF:=fun U=>fail_any 3 (p:Int) U
    clear HI hlt;rcases hc with hc|hc|⟨hc0,hc⟩
    · have s0:((e:Int)==(p:Int))=true:=by rw [show e=p by omega];simp
      have HE:Hid (X.part (rest s p)= .error (X.bad (rest s p))):=by
        show _=_;unfold X.part;rw [if_pos (List.eq_nil_of_length_eq_zero (by rw [HN.out,hc]))]
      clear hc he;go_wp2_with fail;refine (cB _ HQ.out.own).mono ?_;rintro en w3 ⟨rfl,hbl⟩;exact ⟨rfl,Or.inr ⟨_,_,HE.out,rfl,(HQ.out.below hbl).g⟩⟩
    · have s0:((e:Int)==(p:Int))=false:=beq_eq_false_iff_ne.2 (by omega);have s1:decide ((32:Int)<(e:Int)-(p:Int))=true:=decide_eq_true (by omega);have HE:Hid (X.part (rest s p)= .error (s.size-p,3)∧s.size-(s.size-p)=p):=by
        refine ⟨?_,by omega⟩;unfold X.part;rw [if_neg (fun hh=>by have:=HN.out;rw [hh] at this;simp at this;omega),HN.out,if_pos hc,rest_len]
      clear hc he;go_wp2_with fail;refine (cF _).mono ?_;rintro en w3 ⟨rfl,rfl⟩;exact ⟨rfl,Or.inr ⟨_,_,HE.out.1,by rw [HE.out.2],HQ.out.g⟩⟩
    · have s0:((e:Int)==(p:Int))=false:=beq_eq_false_iff_ne.2 (by omega);have s1:decide ((32:Int)<(e:Int)-(p:Int))=false:=decide_eq_false (by omega);have HE:Hid (X.part (rest s p)= .ok (X.partL (rest s p),rest s e)∧s.size-(rest s e).length=e∧s.extract p e=X.ba (X.partL (rest s p))):=by
        refine ⟨?_,by rw [rest_len];omega,by rw [HQE.out,←HN.out];exact extract_part s p⟩;unfold X.part;rw [if_neg (fun hh=>by have:=HN.out;rw [hh] at this;simp at this;omega),HN.out,if_neg (by omega),rest_drop,←HQE.out]
      have f1:=HQ.out.free 1;clear hc hc0 he;go_wp2_with fail;go_region
      go_wp2_with fail;go_ret;exact Or.inl ⟨_,_,HE.out.1,by rw [HE.out.2.2];rfl,by rw [HE.out.2.1];exact HQ.out.drew.set1 e⟩
theorem infoName:(Tryz.prog.info? 273).map (·.size)=some 2:=by kernel_rfl
theorem Rd.put {w W:World}{R p c X:Nat}{s:ByteArray}(h:Rd w R s p c W) (hX:w.heap.size≤X) (i:Nat) (v:Value):Rd w R s p c (W.setCell ⟨X,i,none⟩ v):=by
 have hg:=grownBy_set W X i v;have hlt:=h.lt;have hne:∀k,k<w.heap.size→some k≠some X:=fun k hk e=>by have:=Option.some.inj e;omega
 refine ⟨⟨hg.os.trans h.g.os,hg.tape.trans h.g.tape,hg.output.trans h.g.output,Nat.le_trans h.g.size hg.size,fun k hk hk'=>by rw [hg.block k (Nat.lt_of_lt_of_le hk h.g.size) (hne k hk)];exact h.g.block k hk hk'⟩,?_,h.lt⟩;rw [hg.block R (Go.lt_of_block h.r) (hne R hlt)];exact h.r
theorem Rd.alloc {w W:World}{R p c:Nat}{s:ByteArray}(h:Rd w R s p c W) (o:Obj):Rd w R s p c (W.alloc o):=h.below ((Below.refl _ W).alloc (Nat.le_refl _) o)
def nameV (nm:List UInt8×List UInt8):Value:= .agg #[.string (X.ba nm.1),.string (X.ba nm.2)]
theorem row2 {w:World}{b:Nat}{x y:Value}{t:TypeId}(h:w.heap[b]? =some (.cells #[x,y] t (0,0))):w.cell? ⟨b,0,none⟩=some x∧w.cell? ⟨b,1,none⟩=some y:=⟨rowCell h 0,rowCell h 1⟩
theorem name_any {R p c:Nat}{s:ByteArray}{W:World}(h:Rd W R s p c W) (hp:p≤s.size) (hs:s.size≤1000000000000):
   Calls Tryz.prog 188 #[.pointer (some ⟨R,0,none⟩)] W (Ends W R s c (X.name (rest s p)) nameV):=by
 obtain ⟨RES,hRES⟩:∃x,X.name (rest s p)=x:=⟨_,rfl⟩;rw [hRES];have HE0:Hid (RES=(match X.part (rest s p) with
     | .error e=> .error e
     | .ok (one,r)=>if [58].isPrefixOf r then (match X.part (r.drop 1) with| .error e=> .error e| .ok (two,r2)=> .ok ((one,two),r2)) else .ok (([],one),r))):=by
   show _=_;rw [←hRES];rfl
 have HF:=hid (X.part_fair (rest s p));obtain ⟨w1,hw1⟩:∃w1,W.alloc (.cells #[.string ⟨#[]⟩,.string ⟨#[]⟩] 273)=w1:=⟨_,rfl⟩;have hX1:w1.heap[W.heap.size]? =some (.cells #[.string ⟨#[]⟩,.string ⟨#[]⟩] 273 (0,0)):=by rw [←hw1];exact heap_alloc_new W _
 have HR1:Hid (Rd W R s p c w1):=by show Rd _ _ _ _ _ _;rw [←hw1];exact h.alloc _
 have cP:=part_any HR1.out.own hp hs;have HX1:=hid hX1;have HW1:=hid hw1;have HLT:=hid h.lt;clear h hRES hw1 hX1;go_enter Tryz.func188,Tryz.ntmps188;go_upto_region 1 with fail;rw [HW1.out];go_wp2_with fail;refine cP.mono ?_;rintro e w2 (⟨one,r,hx,rfl,hr⟩|⟨n,e,hx,rfl,hr⟩)
 · have hsuf:=(HF.out.1 _ _ hx).1;have hpos:=rest_pos hsuf hp;have hre:=rest_suf hsuf;obtain ⟨q,hq⟩:∃q,s.size-r.length=q:=⟨_,rfl⟩;rw [hq] at hr hpos hre;have HE1:Hid (RES=if [58].isPrefixOf (rest s q) then (match X.part (rest s (q+1)) with| .error e=> .error e| .ok (two,r2)=> .ok ((one,two),r2)) else .ok (([],one),rest s q)):=by
     show _=_;rw [HE0.out,hx,←rest_drop,←hre]
   have HR2:=hid (HR1.out.trans hr);have HX2:Hid (w2.heap[W.heap.size]? =some (.cells #[.string ⟨#[]⟩,.string ⟨#[]⟩] 273 (0,0))):=by
     show _=_;rw [hr.g.block _ (Go.lt_of_block HX1.out) (fun e=>by have:=Option.some.inj e;have:=HLT.out;omega)];exact HX1.out
   have cT:=take_l (k:=1) [58] ⟨#[58]⟩ rfl rfl HR2.out.own hpos.2 hs;have hq2:=hpos.2;clear hx hr hsuf hpos hre hq HE0 HF cP HX1;go_wp2_with fail;refine cT.mono ?_;rintro e w3 (⟨g1,g2,rfl,g3⟩|⟨g1,rfl,g3⟩)
   · have HR3:=hid (HR2.out.trans g3);have cP:=part_any HR3.out.own g2 hs;have HE2:Hid (RES=(match X.part (rest s (q+1)) with| .error e=> .error e| .ok (two,r2)=> .ok ((one,two),r2))):=by
       show _=_;rw [HE1.out,if_pos g1]
     have HX3:Hid (w3.heap[W.heap.size]? =some (.cells #[.string ⟨#[]⟩,.string ⟨#[]⟩] 273 (0,0))):=by
       show _=_;rw [g3.g.block _ (Go.lt_of_block HX2.out) (fun e=>by have:=Option.some.inj e;have:=HLT.out;omega)];exact HX2.out
     clear g1 g3 cT HE1 HX2;go_wp2_with fail;refine cP.mono ?_;rintro e w4 (⟨two,r,hx,rfl,hr⟩|⟨n,e,hx,rfl,hr⟩)
     · have HX4:Hid (w4.heap[W.heap.size]? =some (.cells #[.string ⟨#[]⟩,.string ⟨#[]⟩] 273 (0,0))):=by
        show _=_;rw [hr.g.block _ (Go.lt_of_block HX3.out) (fun e=>by have:=Option.some.inj e;have:=HLT.out;omega)];exact HX3.out
       have HE:Hid (RES= .ok ((one,two),r)):=by show _=_;rw [HE2.out,hx]
       have HR4:=hid (HR3.out.trans hr);obtain ⟨x0,x1⟩:=row2 HX4.out;have f0:=Lib.frozen_of_heap HX4.out 0;have f1:=Lib.frozen_of_heap HX4.out 1;clear hx hr HE2 HX3 cP;go_wp2_with fail;exact bodyPost_ret (v:=nameV (one,two)) (results_cell_row rfl _ _ W.heap.size 273 _ (0,0) _ rfl (row_set (row_set HX4.out 0 _) 1 _) Tryz.underlying273 rfl infoName) rfl (Or.inl ⟨_,_,HE.out,rfl,(HR4.out.put (Nat.le_refl _) 0 _).put (Nat.le_refl _) 1 _⟩)
     · have HE:Hid (RES= .error (n,e)):=by show _=_;rw [HE2.out,hx]
       exact ⟨rfl,Or.inr ⟨_,_,HE.out,rfl,HR3.out.g.trans hr⟩⟩
   · have HR3:=hid (HR2.out.below g3);have HE:Hid (RES= .ok (([],one),rest s q)∧s.size-(rest s q).length=q):=by
       refine ⟨?_,by rw [rest_len];omega⟩;rw [HE1.out,if_neg (by rw [g1];decide)]
     have HX3:Hid (w3.heap[W.heap.size]? =some (.cells #[.string ⟨#[]⟩,.string ⟨#[]⟩] 273 (0,0))):=by
       show _=_;rw [g3.block _ (Go.lt_of_block HX2.out)];exact HX2.out
     obtain ⟨x0,x1⟩:=row2 HX3.out;have f0:=Lib.frozen_of_heap HX3.out 0;have f1:=Lib.frozen_of_heap HX3.out 1;clear g1 g3 cT HE1 HX2;go_wp2_with fail;exact bodyPost_ret (v:=nameV ([],one)) (results_cell_row rfl _ _ W.heap.size 273 _ (0,0) _ rfl (row_set (row_set HX3.out 0 _) 1 _) Tryz.underlying273 rfl infoName) rfl (Or.inl ⟨_,_,HE.out.1,rfl,by rw [HE.out.2];exact (HR3.out.put (Nat.le_refl _) 0 _).put (Nat.le_refl _) 1 _⟩)
 · have HE:Hid (RES= .error (n,e)):=by show _=_;rw [HE0.out,hx]
   exact ⟨rfl,Or.inr ⟨_,_,HE.out,rfl,HR1.out.g.trans hr⟩⟩
open Go.RowKit Go.Maps
namespace X
def lookG {β:Type}:List (List UInt8×β)→List UInt8→Option β
 | [],_=>none
 | (a,v)::r,p=>if a=p then some v else lookG r p
theorem lookG_look:∀(k:K) (p:List UInt8),lookG k p=look k p
 | [],_=>rfl
 | (a,v)::r,p=>by
   unfold lookG look
   rw [lookG_look r p]
def mapD {β:Type}(f:β→DataW Unit):List (List UInt8×β)→DataW Unit
 | []=> .map []
 | (a,v)::r=>(mapD f r).put (.string a) (f v)
theorem mapD_isMap {β:Type}(f:β→DataW Unit):∀l,IsMap (mapD f l)
 | []=>⟨[],rfl⟩
 | _::r=>(mapD_isMap f r).put _ _
theorem isKey (a:List UInt8):WideAt.IsKeyLit (.string a):=by first|trivial|exact ⟨_,rfl⟩|simp
theorem mapD_at {β:Type}(f:β→DataW Unit) (z:DataW Unit) (p:List UInt8):∀l,(mapD f l).atKey (.string p) z=(match lookG l p with|some v=>f v|none=>z)
 | []=>rfl
 | (a,v)::r=>by
   unfold mapD lookG
   by_cases h:a=p
   · subst h;rw [if_pos rfl,atKey_put_same (mapD_isMap f r) (isKey a)]
   · rw [if_neg h,atKey_put_other (by simp;exact fun e=>h e.symm),mapD_at f z p r]
theorem mapD_has {β:Type}(f:β→DataW Unit) (p:List UInt8):∀l,has (mapD f l) (.string p)=(lookG l p).isSome
 | []=>rfl
 | (a,v)::r=>by
   unfold mapD lookG
   by_cases h:a=p
   · subst h;rw [if_pos rfl,has_put_same (mapD_isMap f r) (isKey a)];rfl
   · rw [if_neg h,has_put_other (by simp;exact fun e=>h e.symm),mapD_has f p r]
end X
theorem lawS:Keyed Tryz.prog 9:=string_keyed Tryz.underlying9
theorem zeroStr (w:World):(zeroValue 9).run Tryz.prog w= .ok (.string ⟨#[]⟩) w:=by kernel_rfl
theorem map_below {P:Program}{k:TypeId}{R:Value→Option (DataW Unit×List MemPlace)}{b n:Nat}{D:DataW Unit}{w w':World}(h:w.ownsMap P k R b n D) (hb:Below w.heap.size w w'):w'.ownsMap P k R b n D:=
 h.kept (row:=none) ⟨hb.os,hb.tape,hb.output,hb.size,fun k hk _=>hb.block k hk⟩ (by simp)
theorem keyS {s:ByteArray}(hs:s.size≤1000000000000):keyOf Tryz.prog 9 (.string s)=some (.string s.data.toList):=Go.WideMaps.keyOf_string_mk Tryz.underlying9 (by unfold maxLen;omega)
namespace X
end X
theorem ba_self (s:ByteArray):X.ba s.data.toList=s:=by simp [X.ba]
namespace X
end X
section
variable {s:ByteArray}{B:Nat}{l:List X.Raw}{v:Value}{w w':World}
end
def textD (v:List UInt8):DataW Unit:= .lit (.string v)
def KM (w:World) (b N:Nat) (k:X.K):Prop:=w.ownsMap Tryz.prog 9 (plainElem Tryz.prog 9) b N (X.mapD textD k)
theorem KM.below {w w':World}{b N:Nat}{k:X.K}(h:KM w b N k) (hb:Below w.heap.size w w'):KM w' b N k:=map_below h hb
theorem KM.grown {w w':World}{b N:Nat}{k:X.K}{row:Option Nat}(h:KM w b N k) (g:w.grownBy w' row) (hr:row≠some b):KM w' b N k:=h.kept g (Ne.symm hr)
theorem KM.put {w:World}{b N:Nat}{k:X.K}(h:KM w b N k) (hN:N<maxLen) (p v:ByteArray) (hp:p.size≤1000000000000) (hv:v.size≤1000000000000):
  ∃w',(Instr.mapUpdate 196 (.map (some b)) (.string p) (.string v)).run Tryz.prog w= .ok () w'∧KM w' b (N+1) ((p.data.toList,v.data.toList)::k)∧w.mapTurned w' b:=by
 obtain ⟨w',h1,h2,h3⟩:=World.ownsMap.store h lawS Tryz.underlying196 hN (keyS hp) (show plainElem (H:=Unit) Tryz.prog 9 (.string v)=some (textD v.data.toList,[]) from by
  unfold plainElem;rw [Tryz.underlying9];simp only;rw [if_pos (by unfold maxLen;omega)];rfl)
 exact ⟨w',h1,h2,h3⟩
theorem clone_any (b N:Nat) (k:X.K) (w:World) (h:KM w b N k):
  Calls Tryz.prog 245 #[.map (some b)] w fun e w'=>e= .returned (.map (some w.heap.size))∧KM w' w.heap.size N k∧Below w.heap.size w w':=by
 obtain ⟨es,clock,h1,h2,h3,h4⟩:=h;have hq:=fun w=>run_eql_map_nil_sl (P:=Tryz.prog) w 196 _ _ (some b) Tryz.underlying196
 go_enter Tryz.func245,Tryz.ntmps245;go_wp2_with fail;rw [run_callFunc_extern Tryz.func284 (by kernel_rfl) (by kernel_rfl) (by kernel_rfl) (e:=Extern.MapsClone.clone) (by kernel_rfl),run_maps_clone_sl w 196 h1];simp only [Result.andThen];rw [Oper.upon_value];go_wp2_with fail;rw [run_typeAssert_map_sl _ 196 20 _ _ _ Tryz.underlying196];simp only [Result.andThen];rw [Oper.upon_value];go_wp2_with fail;go_ret;exact ⟨rfl,⟨es,clock,heap_alloc_new w _,h2,h3,h4⟩,(Below.refl _ w).alloc (Nat.le_refl _) _⟩
theorem KM.look {w:World}{b N:Nat}{k:X.K}(h:KM w b N k) (p:ByteArray) (hp:p.size≤1000000000000):
  (Instr.lookup 196 (.map (some b)) (.string p) true).run Tryz.prog w= .ok (.tuple #[.string (X.ba ((X.look k p.data.toList).getD [])),.bool (X.look k p.data.toList).isSome]) w:=by
 obtain ⟨v,ps,hl,hv⟩:=World.ownsMap.look_ok h lawS Tryz.underlying196 (zeroStr w) (plainElem_string (H:=Unit) Tryz.underlying9 (s:=⟨#[]⟩) (by unfold maxLen;decide)) (keyS hp);rw [X.mapD_has,X.lookG_look] at hl;rw [X.mapD_at,X.lookG_look] at hv;obtain ⟨t,rfl,hc,_⟩:=plainElem_string_inv Tryz.underlying9 hv;have ht:t=X.ba ((X.look k p.data.toList).getD []):=by
  simp only [Prod.mk.injEq] at hc;have hc1:=hc.1;have key:t.data.toList=(X.look k p.data.toList).getD []:=by
   revert hc1;cases X.look k p.data.toList with
   | none=>intro h;simp only [DataW.lit.injEq,Lit.string.injEq] at h;rw [←h];rfl
   | some x=>intro h;simp only [textD,DataW.lit.injEq,Lit.string.injEq] at h;rw [←h];rfl
  rw [←key];exact (ba_self t).symm
 rw [ht] at hl;exact hl
namespace X
end X
def attrC (x:X.A):List Value:= [.string x.sp,.string x.lo,.string x.va]
def attrsC (l:List X.A):List Value:=l.flatMap attrC
section
variable {B:Nat}{l:List X.A}{v:Value}{w w':World}
end
theorem sizeNode:(Tryz.prog.info? 140).map (·.size)=some 7:=by kernel_rfl
theorem row7 {w:World}{b:Nat}{x0 x1 x2 x3 x4 x5 x6:Value}{t:TypeId}(h:w.heap[b]? =some (.cells #[x0,x1,x2,x3,x4,x5,x6] t (0,0))):
  w.cell? ⟨b,0,none⟩=some x0∧w.cell? ⟨b,1,none⟩=some x1∧w.cell? ⟨b,2,none⟩=some x2∧w.cell? ⟨b,3,none⟩=some x3∧w.cell? ⟨b,4,none⟩=some x4∧w.cell? ⟨b,5,none⟩=some x5∧w.cell? ⟨b,6,none⟩=some x6:=
 ⟨rowCell h 0,rowCell h 1,rowCell h 2,rowCell h 3,rowCell h 4,rowCell h 5,rowCell h 6⟩
def nodeRow (sp lo:ByteArray) (av kv:Value) (tx:ByteArray) (ln cl:Int):Obj:= .cells #[.string sp,.string lo,av,kv,.string tx,.int .i64 ln,.int .i64 cl] 140 (0,0)
section
variable {W wr w':World}{H:Nat}{nm:List UInt8×List UInt8}
end
section
variable {W wr w':World}{H Z N:Nat}{nm:List UInt8×List UInt8}{sp lo:ByteArray}{k:X.K}{al:List X.A}{av:Value}
end
abbrev st7 (w:World) (g:Nat) (u0 u1 u2 u3 u4 u5 u6:Value):World:=((((((w.setCell ⟨g,0,none⟩ u0).setCell ⟨g,1,none⟩ u1).setCell ⟨g,2,none⟩ u2).setCell ⟨g,3,none⟩ u3).setCell ⟨g,4,none⟩ u4).setCell ⟨g,5,none⟩ u5).setCell ⟨g,6,none⟩ u6
theorem st7_row {w:World}{g:Nat}{z0 z1 z2 z3 z4 z5 z6:Value}{t:TypeId}(h:w.heap[g]? =some (.cells #[z0,z1,z2,z3,z4,z5,z6] t (0,0))) (u0 u1 u2 u3 u4 u5 u6:Value):(st7 w g u0 u1 u2 u3 u4 u5 u6).heap[g]? =some (.cells #[u0,u1,u2,u3,u4,u5,u6] t (0,0)):=by
 have h':=row_set (row_set (row_set (row_set (row_set (row_set (row_set h 0 u0) 1 u1) 2 u2) 3 u3) 4 u4) 5 u5) 6 u6;simpa only [List.setIfInBounds_toArray,List.set_cons_zero,List.set_cons_succ] using h'
theorem st7_grown (w:World) (g:Nat) (u0 u1 u2 u3 u4 u5 u6:Value):w.grownBy (st7 w g u0 u1 u2 u3 u4 u5 u6) (some g):=
 ((((((grownBy_set w g 0 u0).trans (grownBy_set _ g 1 u1)).trans (grownBy_set _ g 2 u2)).trans (grownBy_set _ g 3 u3)).trans (grownBy_set _ g 4 u4)).trans (grownBy_set _ g 5 u5)).trans (grownBy_set _ g 6 u6)
theorem last_col (s : ByteArray) : ∀ k : Nat, k ≤ s.size → (k : Int) - Lib.lastIdx s 10 k = (((s.data.toList.take k).reverse.takeWhile (fun c => c != 10)).length : Int) + 1
  | 0, _ => by simp [Lib.lastIdx]
  | k + 1, h => by
    have ih := last_col s k (by omega)
    have hk : k < s.data.toList.length := by rw [← Lib.size_eq]; omega
    have hk2 : k < s.data.size := by simpa using hk
    have ht : s.data.toList.take (k + 1) = s.data.toList.take k ++ [s.data.toList[k]] := by rw [List.take_add_one, List.getElem?_eq_getElem hk]; rfl
    have hx : s.data[k]! = s.data.toList[k] := by rw [getElem!_pos s.data k hk2]; simp
    rw [ht, List.reverse_append, List.reverse_cons, List.reverse_nil, List.nil_append, List.singleton_append, List.takeWhile_cons]
    by_cases hc : s.data.toList[k] = 10
    · rw [Lib.lastIdx_hit s 10 k (by rw [hx, hc]; rfl), if_neg (by simp [hc])]
      simp; omega
    · have hne : ((s.data[k]!).toNat : Int) ≠ 10 := by
        rw [hx]
        intro e
        exact hc (UInt8.toNat.inj (by have : s.data.toList[k].toNat = 10 := by omega
                                      exact this))
      rw [Lib.lastIdx_miss s 10 k hne, if_pos (by simpa using hc)]
      rw [List.length_cons]
      omega
def posV (s:ByteArray) (p:Nat):Value:= .agg #[.int .i64 (X.lineOf s.data.toList p),.int .i64 (X.colOf s.data.toList p)]
theorem infoPos:(Tryz.prog.info? 78).map (·.size)=some 2:=by kernel_rfl
theorem place_any (s:ByteArray) (p:Nat) (hp:p≤s.size) (hs:s.size≤1000000000000) (W:World):
  Calls Tryz.prog 97 #[.string s,.int .i64 p] W fun en W'=>en= .returned (posV s p)∧Below W.heap.size W W':=by
 obtain ⟨t,ht⟩:∃t,s.extract 0 p=t:=⟨_,rfl⟩;have htl:t.data.toList=s.data.toList.take p:=by rw [←ht,cut_list];simp
 have htz:t.size=p:=by rw [Lib.size_eq,htl,List.length_take,←Lib.size_eq];omega
 have cC:=fun U=>Tryz.strings_Count_one t 10 U
 have cL:=fun U=>Tryz.strings_LastIndex_one t ⟨#[10]⟩ rfl (by omega) U
 have hcol:=last_col t t.size (Nat.le_refl _);have hln:X.lineOf s.data.toList p=Lib.countByte t.data.toList 10+1:=by rw [htl];rfl
 have hcl:(X.colOf s.data.toList p:Int)=(p:Int)-Lib.lastIndexByte t 10:=by
  have:Lib.lastIndexByte t 10=Lib.lastIdx t 10 t.size:=rfl;rw [this];rw [htz] at hcol ⊢;rw [hcol,htl,List.take_take,Nat.min_self];unfold X.colOf;omega
 have hcnt:Lib.countByte t.data.toList 10≤p:=by
  unfold Lib.countByte;have:=List.count_le_length (a:=(10:UInt8)) (l:=t.data.toList);rw [←Lib.size_eq,htz] at this;exact this
 have hcb:X.colOf s.data.toList p≤p+1:=by
  unfold X.colOf;have:=(List.takeWhile_prefix (fun c:UInt8=>c !=10) (l:=(s.data.toList.take p).reverse)).length_le;rw [List.length_reverse,List.length_take] at this;omega
 obtain ⟨ln,hlne⟩:∃ln,X.lineOf s.data.toList p=ln:=⟨_,rfl⟩;obtain ⟨cl,hcle⟩:∃cl,X.colOf s.data.toList p=cl:=⟨_,rfl⟩;obtain ⟨cnt,hcnte⟩:∃cnt,Lib.countByte t.data.toList 10=cnt:=⟨_,rfl⟩;obtain ⟨li,hlie⟩:∃li,Lib.lastIndexByte t 10=li:=⟨_,rfl⟩;unfold posV;rw [hlne,hcle];rw [hcnte] at cC hln hcnt;rw [hcle,hlie] at hcl;rw [hcle] at hcb;rw [hlne] at hln;replace cL:∀U,Calls Tryz.prog 182 #[.string t,.string ⟨#[10]⟩] U fun e w'=>e= .returned (.int .i64 li)∧w'=U:=fun U=>by
  have:=cL U;rw [show (((⟨#[10]⟩:ByteArray)[0]'(by decide)).toNat:Int)=10 from rfl,hlie] at this;exact this
 have e1:IntKind.i64.wrap (1+(cnt:Int))=(ln:Int):=by rw [IntKind.wrap_i64]<;>omega
 have e2:IntKind.i64.wrap ((p:Int)-li)=(cl:Int):=by rw [IntKind.wrap_i64]<;>omega
 have P0:(0:Int)≤(p:Int):=by omega
 have P1:(p:Int)≤(s.size:Int):=by omega
 clear htl htz hcol hln hcl hcnt hcb hlne hcle hcnte hlie;obtain ⟨w1,hw1⟩:∃w1,W.alloc (.cells #[.int .i64 0,.int .i64 0] 78)=w1:=⟨_,rfl⟩;have hX1:w1.heap[W.heap.size]? =some (.cells #[.int .i64 0,.int .i64 0] 78 (0,0)):=by rw [←hw1];exact heap_alloc_new W _
 have HB:Hid (Below W.heap.size W w1):=by show Below _ _ _;rw [←hw1];exact (Below.refl _ W).alloc (Nat.le_refl _) _
 obtain ⟨x0,x1⟩:=row2 hX1;have f0:=rowFree hX1 0;have f1:=rowFree hX1 1;have HX1:=hid hX1;have HW1:=hid hw1;clear hX1 hw1;go_enter Tryz.func97,Tryz.ntmps97;go_upto_region 1 with fail;rw [HW1.out];go_wp2_with fail;refine (cC _).mono ?_;rintro e w2 ⟨rfl,hw⟩;rw [hw];clear hw w2;go_wp2_with fail;refine (cL _).mono ?_;rintro e w2 ⟨rfl,hw⟩;rw [hw];clear hw w2;go_wp2_with fail;exact bodyPost_ret (v:= .agg #[.int .i64 ln,.int .i64 cl]) (results_cell_row rfl _ _ W.heap.size 78 _ (0,0) _ rfl (row_set (row_set HX1.out 0 _) 1 _) Tryz.underlying78 rfl infoPos) rfl ⟨rfl,(HB.out.setCell (p:=⟨W.heap.size,0,none⟩) (Nat.le_refl _) _).setCell (p:=⟨W.heap.size,1,none⟩) (Nat.le_refl _) _⟩
namespace X
def AIn (w:World) (P:Nat→Prop) (al:List A) (v:Value):Prop:=
 (al= []∧∃a c,v= .slice a 0 c∧(a=none→c=0))∨(0<al.length∧∃b o c,v= .slice (some ⟨b,o,none⟩) al.length c∧P b∧al.length≤c∧∀j u,(attrsC al)[j]? =some u→w.cell? ⟨b,o+j,none⟩=some u)
def N.At (w:World) (P:Nat→Prop):N→Nat→Nat→Prop
 | .nil,_,_=>True
 | .cons sp lo al ks tx ln cl r,g,o=>P g∧w.cell? ⟨g,o,none⟩=some (.string sp)∧w.cell? ⟨g,o+1,none⟩=some (.string lo)∧(∃v,w.cell? ⟨g,o+2,none⟩=some v∧AIn w P al v)∧
    (∃v,w.cell? ⟨g,o+3,none⟩=some v∧((ks= .nil∧∃a c,v= .slice a 0 c∧(a=none→c=0))∨∃g' o' c,v= .slice (some ⟨g',o',none⟩) ks.length c∧ks.length≤c∧0<ks.length∧ks.At w P g' o'))∧
    w.cell? ⟨g,o+4,none⟩=some (.string tx)∧w.cell? ⟨g,o+5,none⟩=some (.int .i64 ln)∧w.cell? ⟨g,o+6,none⟩=some (.int .i64 cl)∧r.At w P g (o+7)
def N.In (w:World) (P:Nat→Prop) (t:N) (v:Value):Prop:=
 (t= .nil∧∃a c,v= .slice a 0 c∧(a=none→c=0))∨∃g o c,v= .slice (some ⟨g,o,none⟩) t.length c∧t.length≤c∧0<t.length∧t.At w P g o
def E.Has (w:World) (P:Nat→Prop) (x:E) (cs:List Value):Prop:= ∃av kv,cs= [.string x.sp,.string x.lo,av,kv,.string x.tx,.int .i64 x.ln,.int .i64 x.cl]∧AIn w P (E.ats x) av∧x.ks.In w P kv
end X
def OwnN (w:World) (B:Nat) (g0:Option Nat) (b:Nat):Prop:=B≤b∧b<w.heap.size∧g0≠some b∧∃cs T,w.heap[b]? =some (.cells cs T (0,0))∧T≠5
section
variable {W wr w':World}{R H M N q c:Nat}{s:ByteArray}{tag:List UInt8×List UInt8}{known:X.K}{tx:List UInt8}{ks:X.N}{v:Value}
end
theorem catch_tmps (H:Nat):(#[.pointer (some ⟨H,0,none⟩),.pointer (some ⟨H+1,0,none⟩),.pointer (some ⟨H+2,0,none⟩),.pointer (some ⟨H+3,0,none⟩)]:Array Value)++Array.replicate (Tryz.f96.ntmps-(#[.pointer (some ⟨H,0,none⟩),.pointer (some ⟨H+1,0,none⟩),.pointer (some ⟨H+2,0,none⟩),.pointer (some ⟨H+3,0,none⟩)]:Array Value).size) undef= #[.pointer (some ⟨H,0,none⟩),.pointer (some ⟨H+1,0,none⟩),.pointer (some ⟨H+2,0,none⟩),.pointer (some ⟨H+3,0,none⟩),undef,undef,undef,undef,undef,undef,undef,undef,undef,undef,undef,undef,undef,undef,undef,undef]:=by kernel_rfl
theorem assert_fail (v:Value) (w:World):(Instr.typeAssert (.iface 188 v) 20 188 true).run Tryz.prog w= .ok (.tuple #[v,.bool true]) w:=by
 simp [Instr.typeAssert,run_underlying Tryz.underlying188,go_sem,Result.andThen]
theorem catch_fail (H a:Nat) (er:Int) (s:ByteArray) (x0 x1 x2 x3 x4 x5 x6 p0 p1 e0:Value) (W:World) (hb:W.heap[H]? =some (.cells #[.string s] 9 (0,0))) (hn:W.heap[H+1]? =some (.cells #[x0,x1,x2,x3,x4,x5,x6] 140 (0,0))) (hp:W.heap[H+2]? =some (.cells #[p0,p1] 78 (0,0))) (he:W.heap[H+3]? =some (.cells #[e0] 27 (0,0))) (ha:a≤s.size) (hs:s.size≤1000000000000):
  CallsD Tryz.prog 96 #[.pointer (some ⟨H,0,none⟩),.pointer (some ⟨H+1,0,none⟩),.pointer (some ⟨H+2,0,none⟩),.pointer (some ⟨H+3,0,none⟩)] (.panicking (chain er (a:Int))) W fun e u' w'=>e= .returned (.tuple #[])∧u'= .panicking [{ v:= .iface 188 (.agg #[.int .i64 er,.int .i64 a]),recovered:=true }]∧
   w'.heap[H+1]? =some (nodeRow ⟨#[]⟩ ⟨#[]⟩ (.slice none 0 0) (.slice none 0 0) ⟨#[]⟩ 0 0)∧w'.heap[H+2]? =some (.cells #[.int .i64 (X.lineOf s.data.toList a),.int .i64 (X.colOf s.data.toList a)] 78 (0,0))∧w'.heap[H+3]? =some (.cells #[.int .i64 er] 27 (0,0))∧Below H W w':=by
 refine callsD_of_wpS Tryz.func96 rfl fun c₀ cs hu=> ?_
 rw [catch_tmps];apply wpS_seq;generalize hK:Exit.thenS _ _=K;apply wpS_region;unfold chain at hu;simp [wpOpsS,go_sem,recoverD,hu];rw [←hK];simp only [Exit.thenS];refine wpS_of_wp ?_;clear hK K;have hTA:=assert_fail (.agg #[.int .i64 er,.int .i64 a]);obtain ⟨F,hF⟩:∃F,W.heap.size=F:=⟨_,rfl⟩;obtain ⟨w1,hw1⟩:∃w1,W.alloc (.cells #[.int .i64 er,.int .i64 a] 188)=w1:=⟨_,rfl⟩;have HF1:Hid (w1.heap[F]? =some (.cells #[.int .i64 er,.int .i64 a] 188 (0,0))):=by show _=_;rw [←hw1,←hF];exact heap_alloc_new W _
 have hb1:Below W.heap.size W w1:=by rw [←hw1];exact (Below.refl _ W).alloc (Nat.le_refl _) _
 have HS1:Hid (w1.heap[H]? =some (.cells #[.string s] 9 (0,0))):=(hb1.block H (Go.lt_of_block hb)).trans hb;have HN1:Hid (w1.heap[H+1]? =some (.cells #[x0,x1,x2,x3,x4,x5,x6] 140 (0,0))):=(hb1.block (H+1) (Go.lt_of_block hn)).trans hn;have HP1:Hid (w1.heap[H+2]? =some (.cells #[p0,p1] 78 (0,0))):=(hb1.block (H+2) (Go.lt_of_block hp)).trans hp;have HE1:Hid (w1.heap[H+3]? =some (.cells #[e0] 27 (0,0))):=(hb1.block (H+3) (Go.lt_of_block he)).trans he;have HHF:Hid (H+3<F):=by have:=Go.lt_of_block he;show _<_;omega
 have HB1:Hid (Below H W w1):=hb1.mono (by have:=Go.lt_of_block he;omega);have HW1:=hid hw1;have HFE:=hid hF;have HA:=hid ha;clear hw1 hF hb1 hb hn hp he ha;go_upto_region 7 with fail;rw [HW1.out,HFE.out];clear HW1 HFE;refine wp_region_till (S:=(fun w:World=>w.heap[H]? =some (.cells #[.string s] 9 (0,0))∧w.heap[F]? =some (.cells #[.int .i64 er,.int .i64 a] 188 (0,0)))) 9 (by kernel_rfl) ?_;have HS:=hid (show ((fun w:World=>w.heap[H]? =some (.cells #[.string s] 9 (0,0))∧w.heap[F]? =some (.cells #[.int .i64 er,.int .i64 a] 188 (0,0)))) _ from ⟨HS1.out,HF1.out⟩);refine tillA 0 (fun _=>HS.out) ?_;refine tillA 2 (fun _=>HS.out) ?_;refine tillA 5 (fun _=>HS.out) ?_;refine tillL 1 [1,9] (v:= ?v4) HS.out ?hy4 ?_
 case hy4=>
  intro w hSw;have hSx:=hSw;obtain ⟨s0,s1⟩:=hSx;have b0:w.cell? ⟨H,0,none⟩=some (.string s):=rowCell s0 0;have b1:w.cell? ⟨F,0,none⟩=some (.int .i64 er):=rowCell s1 0;have b2:w.cell? ⟨F,1,none⟩=some (.int .i64 a):=rowCell s1 1;clear s0 s1;clear hSw;go_simp;try with_reducible rfl
 refine tillL 3 [3,9] (v:= ?v5) HS.out ?hy5 ?_
 case hy5=>
  intro w hSw;have hSx:=hSw;obtain ⟨s0,s1⟩:=hSx;have b0:w.cell? ⟨H,0,none⟩=some (.string s):=rowCell s0 0;have b1:w.cell? ⟨F,0,none⟩=some (.int .i64 er):=rowCell s1 0;have b2:w.cell? ⟨F,1,none⟩=some (.int .i64 a):=rowCell s1 1;clear s0 s1;clear hSw;go_simp;try with_reducible rfl
 refine tillL 6 [6,9] (v:= ?v6) HS.out ?hy6 ?_
 case hy6=>
  intro w hSw;have hSx:=hSw;obtain ⟨s0,s1⟩:=hSx;have b0:w.cell? ⟨H,0,none⟩=some (.string s):=rowCell s0 0;have b1:w.cell? ⟨F,0,none⟩=some (.int .i64 er):=rowCell s1 0;have b2:w.cell? ⟨F,1,none⟩=some (.int .i64 a):=rowCell s1 1;clear s0 s1;clear hSw;go_simp;try with_reducible rfl
 refine tillD1 4 (fun K hK=> ?step7)
 case step7=>
  go_simp;refine (place_any s a HA.out hs _).mono ?_;rintro e w2 ⟨rfl,hb2⟩;unfold posV;have HS2:Hid (w2.heap[H]? =some (.cells #[.string s] 9 (0,0))∧w2.heap[F]? =some (.cells #[.int .i64 er,.int .i64 a] 188 (0,0))):=⟨(hb2.block H (Go.lt_of_block HS1.out)).trans HS1.out,(hb2.block F (Go.lt_of_block HF1.out)).trans HF1.out⟩;have HN2:Hid (w2.heap[H+1]? =some (.cells #[x0,x1,x2,x3,x4,x5,x6] 140 (0,0))):=(hb2.block (H+1) (Go.lt_of_block HN1.out)).trans HN1.out;have HP2:Hid (w2.heap[H+2]? =some (.cells #[p0,p1] 78 (0,0))):=(hb2.block (H+2) (Go.lt_of_block HP1.out)).trans HP1.out;have HE2:Hid (w2.heap[H+3]? =some (.cells #[e0] 27 (0,0))):=(hb2.block (H+3) (Go.lt_of_block HE1.out)).trans HE1.out;have HB2:Hid (Below H W w2):=HB1.out.drew.trans (hb2.mono (by have:=Go.lt_of_block HE1.out;show H≤w1.heap.size;omega));clear hb2 HN1 HP1 HE1 HF1 HS1 HB1;try dsimp only
  refine hK.out _ _ (fun _=>HS2.out) (fun hHeld=> ?_);have HS7:=hid (hHeld (by kernel_rfl));clear hHeld hK K;refine tillD1 7 (fun K hK=> ?step8)
  case step8=>
   obtain ⟨y0,y1,y2,y3,y4,y5,y6⟩:=row7 HN2.out;have f0:=rowFree HN2.out 0;have f1:=rowFree HN2.out 1;have f2:=rowFree HN2.out 2;have f3:=rowFree HN2.out 3;have f4:=rowFree HN2.out 4;have f5:=rowFree HN2.out 5;have f6:=rowFree HN2.out 6;go_simp;obtain ⟨w3,hw3⟩:∃w3,(((((((w2.setCell ⟨H+1,0,none⟩ (.string ⟨#[]⟩)).setCell ⟨H+1,1,none⟩ (.string ⟨#[]⟩)).setCell ⟨H+1,2,none⟩ (.slice none 0 0)).setCell ⟨H+1,3,none⟩ (.slice none 0 0)).setCell ⟨H+1,4,none⟩ (.string ⟨#[]⟩)).setCell ⟨H+1,5,none⟩ (.int .i64 0)).setCell ⟨H+1,6,none⟩ (.int .i64 0))=w3:=⟨_,rfl⟩;have g3:w2.grownBy w3 (some (H+1)):=by rw [←hw3];exact st7_grown w2 (H+1) (.string ⟨#[]⟩) (.string ⟨#[]⟩) (.slice none 0 0) (.slice none 0 0) (.string ⟨#[]⟩) (.int .i64 0) (.int .i64 0)
   have hn3:w3.heap[H+1]? =some (nodeRow ⟨#[]⟩ ⟨#[]⟩ (.slice none 0 0) (.slice none 0 0) ⟨#[]⟩ 0 0):=by rw [←hw3];exact st7_row HN2.out (.string ⟨#[]⟩) (.string ⟨#[]⟩) (.slice none 0 0) (.slice none 0 0) (.string ⟨#[]⟩) (.int .i64 0) (.int .i64 0)
   rw [hw3];have HS3:Hid (w3.heap[H]? =some (.cells #[.string s] 9 (0,0))∧w3.heap[F]? =some (.cells #[.int .i64 er,.int .i64 a] 188 (0,0))):=⟨(g3.block H (Go.lt_of_block HS2.out.1) (fun e=>by have:=Option.some.inj e;omega)).trans HS2.out.1,(g3.block F (Go.lt_of_block HS2.out.2) (fun e=>by have:=Option.some.inj e;have:=HHF.out;omega)).trans HS2.out.2⟩;have HN3:Hid (w3.heap[H+1]? =some (nodeRow ⟨#[]⟩ ⟨#[]⟩ (.slice none 0 0) (.slice none 0 0) ⟨#[]⟩ 0 0)):=hn3;have HP3:Hid (w3.heap[H+2]? =some (.cells #[p0,p1] 78 (0,0))):=(g3.block (H+2) (Go.lt_of_block HP2.out) (fun e=>by have:=Option.some.inj e;omega)).trans HP2.out;have HE3:Hid (w3.heap[H+3]? =some (.cells #[e0] 27 (0,0))):=(g3.block (H+3) (Go.lt_of_block HE2.out) (fun e=>by have:=Option.some.inj e;omega)).trans HE2.out;have HB3:Hid (Below H W w3):=HB2.out.grown g3 (by have:=HB2.out.size;have:=Go.lt_of_block HS2.out.1;omega) (fun k hk=>by have:=Option.some.inj hk;omega);clear hw3 g3 hn3 HN2 HP2 HE2 HS2 HB2 y0 y1 y2 y3 y4 y5 y6 f0 f1 f2 f3 f4 f5 f6;refine hK.out _ _ (fun _=>HS3.out) (fun hHeld=> ?_);have HS8:=hid (hHeld (by kernel_rfl));clear hHeld hK K;refine tillD1 8 (fun K hK=> ?step9)
   case step9=>
    obtain ⟨y0,y1⟩:=row2 HP3.out;have f0:=rowFree HP3.out 0;have f1:=rowFree HP3.out 1;go_simp;have g4:w3.grownBy ((w3.setCell ⟨H+2,0,none⟩ (.int .i64 (X.lineOf s.data.toList a))).setCell ⟨H+2,1,none⟩ (.int .i64 (X.colOf s.data.toList a))) (some (H+2)):=(grownBy_set w3 (H+2) 0 _).trans (grownBy_set _ (H+2) 1 _);have hn4:((w3.setCell ⟨H+2,0,none⟩ (.int .i64 (X.lineOf s.data.toList a))).setCell ⟨H+2,1,none⟩ (.int .i64 (X.colOf s.data.toList a))).heap[H+2]? =some (.cells #[.int .i64 (X.lineOf s.data.toList a),.int .i64 (X.colOf s.data.toList a)] 78 (0,0)):=row_set (row_set HP3.out 0 _) 1 _;obtain ⟨w4,hw4⟩:∃w4,(w3.setCell ⟨H+2,0,none⟩ (.int .i64 (X.lineOf s.data.toList a))).setCell ⟨H+2,1,none⟩ (.int .i64 (X.colOf s.data.toList a))=w4:=⟨_,rfl⟩;rw [hw4] at g4 hn4 ⊢;have HS4:Hid (w4.heap[H]? =some (.cells #[.string s] 9 (0,0))∧w4.heap[F]? =some (.cells #[.int .i64 er,.int .i64 a] 188 (0,0))):=⟨(g4.block H (Go.lt_of_block HS3.out.1) (fun e=>by have:=Option.some.inj e;omega)).trans HS3.out.1,(g4.block F (Go.lt_of_block HS3.out.2) (fun e=>by have:=Option.some.inj e;have:=HHF.out;omega)).trans HS3.out.2⟩;have HN4:Hid (w4.heap[H+1]? =some (nodeRow ⟨#[]⟩ ⟨#[]⟩ (.slice none 0 0) (.slice none 0 0) ⟨#[]⟩ 0 0)):=(g4.block (H+1) (Go.lt_of_block HN3.out) (fun e=>by have:=Option.some.inj e;omega)).trans HN3.out;have HP4:=hid hn4;have HE4:Hid (w4.heap[H+3]? =some (.cells #[e0] 27 (0,0))):=(g4.block (H+3) (Go.lt_of_block HE3.out) (fun e=>by have:=Option.some.inj e;omega)).trans HE3.out;have HB4:Hid (Below H W w4):=HB3.out.grown g4 (by have:=HB3.out.size;have:=Go.lt_of_block HS3.out.1;omega) (fun k hk=>by have:=Option.some.inj hk;omega);clear hw4 g4 hn4 HN3 HP3 HE3 HS3 HB3 y0 y1 f0 f1;refine hK.out _ _ (fun _=>HS4.out) (fun hHeld=> ?_);have HS9:=hid (hHeld (by kernel_rfl));clear hHeld hK K;refine tillD1 9 (fun K hK=> ?step10)
    case step10=>
     have y0:=rowCell HE4.out 0;have f0:=rowFree HE4.out 0;go_simp;refine hK.out _ _ (fun hk=>by cases (show true=false from hk)) (fun _=> ?_);clear hK K;refine wpTill_done (by kernel_rfl) ?_ _;have g5:=grownBy_set w4 (H+3) 0 (.int .i64 er);have hE5:(w4.setCell ⟨H+3,0,none⟩ (.int .i64 er)).heap[H+3]? =some (.cells #[.int .i64 er] 27 (0,0)):=row_set HE4.out 0 _;go_wp2_with fail;refine ⟨rfl,.panicking [{ v:= .iface 188 (.agg #[.int .i64 er,.int .i64 a]),recovered:=true }],?_,.tuple #[],by simp [results,Tryz.results96],rfl,rfl,(g5.block (H+1) (Go.lt_of_block HN4.out) (fun e=>by have:=Option.some.inj e;omega)).trans HN4.out,(g5.block (H+2) (Go.lt_of_block HP4.out) (fun e=>by have:=Option.some.inj e;omega)).trans HP4.out,hE5,HB4.out.grown g5 (by have:=HB4.out.size;have:=Go.lt_of_block HS4.out.1;omega) (fun k hk=>by have:=Option.some.inj hk;omega)⟩;rfl
def zero7:Array Value:=#[.string ⟨#[]⟩,.string ⟨#[]⟩,.slice none 0 0,.slice none 0 0,.string ⟨#[]⟩,.int .i64 0,.int .i64 0]
def ParseOf (W0:World) (s:ByteArray) (x:Except (Nat×Int) X.E) (en:Ending) (W:World):Prop:=
 (∃e cs,x= .ok e∧en= .returned (.tuple #[.agg cs.toArray,.agg #[.int .i64 0,.int .i64 0],.int .i64 0])∧e.Has W (OwnN W W0.heap.size none) cs∧Below W0.heap.size W0 W)∨
 (∃n er,x= .error (n,er)∧en= .returned (.tuple #[.agg zero7,posV s (s.size-n),.int .i64 er])∧Below W0.heap.size W0 W)
structure PB (W:World) (H:Nat) (s:ByteArray) (w:World):Prop where
 h:W.heap.size=H
 b:Below H W w
 s:w.heap[H]? =some (.cells #[.string s] 9 (0,0))
 n:∃x0 x1 x2 x3 x4 x5 x6,w.heap[H+1]? =some (.cells #[x0,x1,x2,x3,x4,x5,x6] 140 (0,0))
 p:∃p0 p1,w.heap[H+2]? =some (.cells #[p0,p1] 78 (0,0))
 e:∃e0,w.heap[H+3]? =some (.cells #[e0] 27 (0,0))
section
variable {W w w':World}{H:Nat}{s:ByteArray}
theorem PB.lt (h:PB W H s w):H+3<w.heap.size:=by obtain ⟨e0,he⟩:=h.e;exact Go.lt_of_block he
theorem PB.grown (h:PB W H s w) {Y:Nat}(g:w.grownBy w' (some Y)) (hY:H+4≤Y):PB W H s w':=by
 obtain ⟨x0,x1,x2,x3,x4,x5,x6,hn⟩:=h.n;obtain ⟨p0,p1,hp⟩:=h.p;obtain ⟨e0,he⟩:=h.e;have hlt:=h.lt;exact ⟨h.h,h.b.grown g (by omega) (fun k hk=>by have:=Option.some.inj hk;omega),(g.block H (by omega) (fun e=>by have:=Option.some.inj e;omega)).trans h.s,⟨_,_,_,_,_,_,_,(g.block (H+1) (by omega) (fun e=>by have:=Option.some.inj e;omega)).trans hn⟩,⟨_,_,(g.block (H+2) (by omega) (fun e=>by have:=Option.some.inj e;omega)).trans hp⟩,⟨_,(g.block (H+3) (by omega) (fun e=>by have:=Option.some.inj e;omega)).trans he⟩⟩
theorem PB.below (h:PB W H s w) (hb:Below w.heap.size w w'):PB W H s w':=by
 obtain ⟨x0,x1,x2,x3,x4,x5,x6,hn⟩:=h.n;obtain ⟨p0,p1,hp⟩:=h.p;obtain ⟨e0,he⟩:=h.e;have hlt:=h.lt;exact ⟨h.h,h.b.trans (hb.mono (by omega)),(hb.block H (by omega)).trans h.s,⟨_,_,_,_,_,_,_,(hb.block (H+1) (by omega)).trans hn⟩,⟨_,_,(hb.block (H+2) (by omega)).trans hp⟩,⟨_,(hb.block (H+3) (by omega)).trans he⟩⟩
end
theorem run_loadErrno (w:World) (g:Nat) (v:Value) (h:w.heap[g]? =some (.cells #[v] 27 (0,0))):(loadVar 27 ⟨g,0,none⟩).run Tryz.prog w= .ok v w:=by
 have c:=rowCell h 0;simp only [List.getElem?_toArray,List.getElem?_cons_zero] at c;simp [loadVar,isAgg,run_underlying Tryz.underlying27,go_sem,Result.andThen,c]
theorem results_parse (tmps:Array Value) (w:World) (H:Nat) (c7 c2:Array Value) (e0:Value) (h2:tmps.getD 2 undef= .pointer (some ⟨H+1,0,none⟩)) (h3:tmps.getD 3 undef= .pointer (some ⟨H+2,0,none⟩)) (h4:tmps.getD 4 undef= .pointer (some ⟨H+3,0,none⟩))
  (hn:w.heap[H+1]? =some (.cells c7 140 (0,0))) (s7:c7.size=7) (hp:w.heap[H+2]? =some (.cells c2 78 (0,0))) (s2:c2.size=2) (he:w.heap[H+3]? =some (.cells #[e0] 27 (0,0))):
  (results Tryz.f54 tmps).run Tryz.prog w= .ok (.tuple #[.agg c7,.agg c2,e0]) w:=by
 have l1:=run_loadVar_row (P:=Tryz.prog) w (H+1) 140 140 c7 (0,0) _ hn Tryz.underlying140 rfl (by rw [s7];exact sizeNode);have l2:=run_loadVar_row (P:=Tryz.prog) w (H+2) 78 78 c2 (0,0) _ hp Tryz.underlying78 rfl (by rw [s2];exact infoPos);have l3:=run_loadErrno w (H+3) e0 he;have h2':tmps[2]?.getD undef= .pointer (some ⟨H+1,0,none⟩):=by simpa using h2
 have h3':tmps[3]?.getD undef= .pointer (some ⟨H+2,0,none⟩):=by simpa using h3
 have h4':tmps[4]?.getD undef= .pointer (some ⟨H+3,0,none⟩):=by simpa using h4
 simp [results,Tryz.results54,h2',h3',h4',asAddr,l1,l2,l3,Result.andThen]
def deferredP (H:Nat):Deferred:={ target:= .fn (.func 96) #[.pointer (some ⟨H,0,none⟩),.pointer (some ⟨H+1,0,none⟩),.pointer (some ⟨H+2,0,none⟩),.pointer (some ⟨H+3,0,none⟩)],args:=#[] }
theorem leave_fail {W w:World}{H n:Nat}{er:Int}{s:ByteArray}{tmps:Array Value}{RES:Except (Nat×Int) X.E}(h2:tmps.getD 2 undef= .pointer (some ⟨H+1,0,none⟩)) (h3:tmps.getD 3 undef= .pointer (some ⟨H+2,0,none⟩)) (h4:tmps.getD 4 undef= .pointer (some ⟨H+3,0,none⟩)) (hX:RES= .error (n,er)) (hs:s.size≤1000000000000) (hP:PB W H s w):
  Leaves Tryz.prog Tryz.f54 tmps (ParseOf W s RES) [deferredP H] (.panicking (chain er ((s.size-n:Nat):Int))) w:=by
 obtain ⟨x0,x1,x2,x3,x4,x5,x6,hn⟩:=hP.n;obtain ⟨p0,p1,hp⟩:=hP.p;obtain ⟨e0,he⟩:=hP.e;refine leaves_cons (f:=96) (args:=#[.pointer (some ⟨H,0,none⟩),.pointer (some ⟨H+1,0,none⟩),.pointer (some ⟨H+2,0,none⟩),.pointer (some ⟨H+3,0,none⟩)]) (by simp) (by simp [go_sem]) ?_;refine (catch_fail H (s.size-n) er s x0 x1 x2 x3 x4 x5 x6 p0 p1 e0 w hP.s hn hp he (by omega) hs).mono ?_;rintro e u' w' ⟨rfl,rfl,g1,g2,g3,g4⟩;refine ⟨_,results_parse tmps w' H _ _ _ h2 h3 h4 g1 rfl g2 rfl g3,Or.inr ⟨n,er,hX,rfl,?_⟩⟩;rw [hP.h];exact hP.b.trans g4
theorem pb_first (s:ByteArray) (W:World):PB W W.heap.size s ((((W.alloc (.cells #[.string s] 9)).alloc (.cells #[.string ⟨#[]⟩,.string ⟨#[]⟩,.slice none 0 0,.slice none 0 0,.string ⟨#[]⟩,.int .i64 0,.int .i64 0] 140)).alloc (.cells #[.int .i64 0,.int .i64 0] 78)).alloc (.cells #[.int .i64 0] 27)):=by
 obtain ⟨wa,ha⟩:∃wa,W.alloc (.cells #[.string s] 9)=wa:=⟨_,rfl⟩;have sa:wa.heap.size=W.heap.size+1:=by rw [←ha];simp
 have na:wa.heap[W.heap.size]? =some (.cells #[.string s] 9 (0,0)):=by rw [←ha];exact heap_alloc_new W _
 have ba:Below W.heap.size W wa:=by rw [←ha];exact (Below.refl _ W).alloc (Nat.le_refl _) _
 rw [ha];obtain ⟨wb,hb⟩:∃wb,wa.alloc (.cells #[.string ⟨#[]⟩,.string ⟨#[]⟩,.slice none 0 0,.slice none 0 0,.string ⟨#[]⟩,.int .i64 0,.int .i64 0] 140)=wb:=⟨_,rfl⟩;have sb:wb.heap.size=W.heap.size+2:=by rw [←hb];simp [sa]
 have nb:wb.heap[W.heap.size+1]? =some (.cells #[.string ⟨#[]⟩,.string ⟨#[]⟩,.slice none 0 0,.slice none 0 0,.string ⟨#[]⟩,.int .i64 0,.int .i64 0] 140 (0,0)):=by rw [←hb,←sa];exact heap_alloc_new wa _
 have bb:Below wa.heap.size wa wb:=by rw [←hb];exact (Below.refl _ wa).alloc (Nat.le_refl _) _
 rw [hb];obtain ⟨wc,hc⟩:∃wc,wb.alloc (.cells #[.int .i64 0,.int .i64 0] 78)=wc:=⟨_,rfl⟩;have sc:wc.heap.size=W.heap.size+3:=by rw [←hc];simp [sb]
 have nc:wc.heap[W.heap.size+2]? =some (.cells #[.int .i64 0,.int .i64 0] 78 (0,0)):=by rw [←hc,←sb];exact heap_alloc_new wb _
 have bc:Below wb.heap.size wb wc:=by rw [←hc];exact (Below.refl _ wb).alloc (Nat.le_refl _) _
 rw [hc];obtain ⟨wd,hd⟩:∃wd,wc.alloc (.cells #[.int .i64 0] 27)=wd:=⟨_,rfl⟩;have nd:wd.heap[W.heap.size+3]? =some (.cells #[.int .i64 0] 27 (0,0)):=by rw [←hd,←sc];exact heap_alloc_new wc _
 have bd:Below wc.heap.size wc wd:=by rw [←hd];exact (Below.refl _ wc).alloc (Nat.le_refl _) _
 rw [hd];exact ⟨rfl,((ba.trans (bb.mono (by omega))).trans (bc.mono (by omega))).trans (bd.mono (by omega)),(bd.block _ (by omega)).trans ((bc.block _ (by omega)).trans ((bb.block _ (by omega)).trans na)),⟨_,_,_,_,_,_,_,(bd.block _ (by omega)).trans ((bc.block _ (by omega)).trans nb)⟩,⟨_,_,(bd.block _ (by omega)).trans nc⟩,⟨_,nd⟩⟩
end Go.Proofs.YtohkomndapngjaaGreatDoor.K

