/- markup.Parse at a text that begins with a brace: the parts of the walk that it wants. -/
import Derived.Test.YtohkomndapngjaaGreatDoorRC1
import Derived.Lib.MapLaws
import Derived.Lib.TrimU
import Derived.Test.YtohkomndapngjaaGreatDoorShelf
import Derived.BigRegion
import Derived.BigQuiet
import Derived.Deep.RegionWith
import Derived.Deep.DrawnRows
import Derived.RegionTactic
import Derived.Maps.AppendAt
import Derived.Lib.IndexBytes
import Derived.Lib.Hide
import Derived.WalkSmall
import Derived.ProofKit
import Derived.Test.YtohkomndapngjaaGreatDoorRC2
import Derived.Test.YtohkomndapngjaaGreatDoorRC5
import Derived.Deep.Cut
import Derived.Laws.Rows
import Derived.Maps.Own
import Derived.Maps.OwnOps
import Derived.Maps.OwnSet
import Derived.Maps.Views
import Derived.Carry
import Derived.Test.YtohkomndapngjaaGreatDoorShelfN
import Derived.Lib.ConvBytes
import Derived.Lib.IndexLaws
import Derived.Lib.MinMax
import Derived.OwnWalk
import Derived.Laws.OwnMore
import Derived.Deep.AppendLies
import Derived.Shelf.SlMaps.Clone
import Derived.Maps.StringElems
import Derived.Deep.Onto
import Derived.Test.YtohkomndapngjaaGreatDoorShelfL
import Derived.Lib.LastIndexByte
import Derived.Test.YtohkomndapngjaaGreatDoorRC8
import Derived.Deep.RegionHeld3
import Derived.Defers
import Derived.Recover
import Derived.Laws.Pointers
namespace Go.Proofs.YtohkomndapngjaaGreatDoor.K
set_option maxRecDepth 100000
set_option maxHeartbeats 16000000
namespace X
structure A where
 sp:ByteArray
 lo:ByteArray
 va:ByteArray
deriving DecidableEq
inductive N where
 | nil
 | cons (sp lo:ByteArray) (ats:List A) (ks:N) (tx:ByteArray) (ln cl:Nat) (r:N)
structure E where
 sp:ByteArray
 lo:ByteArray
 ats:List A
 ks:N
 tx:ByteArray
 ln:Nat
 cl:Nat
def N.length:N→Nat
 | .nil=>0
 | .cons _ _ _ _ _ _ _ r=>r.length+1
def N.app:N→N→N
 | .nil,m=>m
 | .cons sp lo ats ks tx ln cl r,m=> .cons sp lo ats ks tx ln cl (r.app m)
def E.one (v:E):N:= .cons v.sp v.lo v.ats v.ks v.tx v.ln v.cl .nil
def N.snoc (t:N) (v:E):N:=t.app v.one
abbrev Res (α:Type):=Except (Nat×Int) (α×List UInt8)
def blank (c:UInt8):Bool:=c==32||c==9||c==13||c==10
def skip (l:List UInt8):List UInt8:=l.dropWhile blank
def stands (c:Int):Bool:=decide (c=9∨c=10∨c=13)||decide (32≤c∧c≤55295)||decide (57344≤c∧c≤65533)||decide (65536≤c∧c≤1114111)
def bad (l:List UInt8):Nat×Int:=if l= [] then (0,80) else (l.length,81)
def must (t l:List UInt8):Res Unit:=if t.isPrefixOf l then .ok ((),l.drop t.length) else .error (bad l)
def char (l:List UInt8):Res Int:=
 if l= [] then .error (0,80)
 else if ((Lib.decodeL l).1=65533∧(Lib.decodeL l).2=1)∨stands (Lib.decodeL l).1=false then .error (l.length,81)
 else .ok (((Lib.decodeL l).1:Int),l.drop (Lib.decodeL l).2)
def entity (l:List UInt8):Option Int:=
 if l= [108,116] then some 60 else if l= [103,116] then some 62 else if l= [97,109,112] then some 38 else if l= [113,117,111,116] then some 34 else if l= [97,112,111,115] then some 39 else none
def dig (base:Nat) (c:UInt8):Option Nat:=
 if 48≤c.toNat∧c.toNat≤57 then some (c.toNat-48)
 else if 97≤c.toNat∧c.toNat≤102∧base=16 then some (c.toNat-87)
 else if 65≤c.toNat∧c.toNat≤70∧base=16 then some (c.toNat-55) else none
def numB (base:Nat):Nat→List UInt8→Option Nat
 | v,[]=>some v
 | v,c::r=>match dig base c with
   | none=>none
   | some d=>numB base (v*base+d) r
def number (l:List UInt8):Option Int:=
 let hex:= [120].isPrefixOf l
 let ds:=if hex then l.drop 1 else l
 if ds.length<1∨(if hex then 6 else 7)<ds.length then none
 else match numB (if hex then 16 else 10) 0 ds with
  | none=>none
  | some n=>if stands n then some (n:Int) else none
def refName (l:List UInt8):List UInt8:=((l.drop 1).take 11).takeWhile (fun c=>c !=59)
def refOf (nm:List UInt8):Option Int:=match nm with
 | 35::ds=>number ds
 | _=>entity nm
def ref (l:List UInt8):Res Int:=
 if (59:UInt8)∈(l.drop 1).take 11 then
  match refOf (refName l) with
  | some c=> .ok (c,l.drop ((refName l).length+2))
  | none=> .error (l.length,82)
 else .error (l.length,82)
def letter (c:UInt8):Bool:=decide (97≤c.toNat∧c.toNat≤122)||decide (65≤c.toNat∧c.toNat≤90)||decide (c.toNat=95)
def other (c:UInt8):Bool:=letter c||decide (48≤c.toNat∧c.toNat≤57)||decide (c.toNat=45∨c.toNat=46)
def partL:List UInt8→List UInt8
 | []=> []
 | c::r=>if letter c then c::r.takeWhile other else []
def part (l:List UInt8):Res (List UInt8):=
 if partL l= [] then .error (bad l)
 else if 32<(partL l).length then .error (l.length,3)
 else .ok (partL l,l.drop (partL l).length)
def name (l:List UInt8):Res (List UInt8×List UInt8):=
 match part l with
 | .error e=> .error e
 | .ok (one,r)=>
   if [58].isPrefixOf r then
    match part (r.drop 1) with
    | .error e=> .error e
    | .ok (two,r2)=> .ok ((one,two),r2)
   else .ok (([],one),r)
def comment:Nat→List UInt8→Res Unit
 | 0,l=> .error (l.length,81)
 | f+1,l=>
   if [45,45,62].isPrefixOf l then .ok ((),l.drop 3)
   else if [45,45].isPrefixOf l then .error (bad l)
   else match char l with
    | .error e=> .error e
    | .ok (_,r)=>comment f r
def misc:Nat→List UInt8→Res Unit
 | 0,l=> .error (l.length,81)
 | f+1,l=>
   if [60,33,45,45].isPrefixOf (skip l) then
    match comment ((skip l).length+1) ((skip l).drop 4) with
    | .error e=> .error e
    | .ok (_,r)=>misc f r
   else .ok ((),skip l)
def valIn (q:UInt8):Nat→List UInt8→List UInt8→Res (List UInt8)
 | 0,_,l=> .error (l.length,81)
 | f+1,acc,l=>
   if [q].isPrefixOf l then .ok (acc,l.drop 1)
   else if [60].isPrefixOf l then .error (bad l)
   else if [38].isPrefixOf l then
    match ref l with
    | .error e=> .error e
    | .ok (c,r)=>valIn q f (acc++W.charL c) r
   else match char l with
    | .error e=> .error e
    | .ok (c,r)=>valIn q f (acc++W.charL (if c<32 then 32 else c)) r
def value (l:List UInt8):Res (List UInt8):=
 if [34].isPrefixOf l then valIn 34 (l.length+1) [] (l.drop 1)
 else if [39].isPrefixOf l then valIn 39 (l.length+1) [] (l.drop 1)
 else .error (bad l)
structure Raw where
 pre:List UInt8
 loc:List UInt8
 n:Nat
 val:List UInt8
def attr (out:List Raw) (l:List UInt8):Res Raw:=
 match name l with
 | .error e=> .error e
 | .ok (nm,r)=>
   if out.any (fun y=>decide (y.pre=nm.1∧y.loc=nm.2)) then .error (l.length,6)
   else match must [61] (skip r) with
    | .error e=> .error e
    | .ok (_,r2)=>match value (skip r2) with
      | .error e=> .error e
      | .ok (v,r3)=> .ok (⟨nm.1,nm.2,l.length,v⟩,r3)
def begins:List UInt8→Bool
 | []=>false
 | c::_=>letter c
def attrs:Nat→List Raw→List UInt8→Res (List Raw×Bool)
 | 0,_,l=> .error (l.length,81)
 | f+1,out,l=>
   if [62].isPrefixOf (skip l) then .ok ((out,true),(skip l).drop 1)
   else if [47].isPrefixOf (skip l) then
    match must [62] ((skip l).drop 1) with
    | .error e=> .error e
    | .ok (_,r)=> .ok ((out,false),r)
   else if (skip l).length=l.length∨begins (skip l)=false then .error (bad (skip l))
   else if out.length=32 then .error ((skip l).length,3)
   else match attr out (skip l) with
    | .error e=> .error e
    | .ok (x,r)=>attrs f (out++ [x]) r
def xmlns:List UInt8:= [120,109,108,110,115]
def xml:List UInt8:= [120,109,108]
def Raw.ofSpaces (x:Raw):Bool:=decide (x.pre=xmlns)||decide (x.pre= []∧x.loc=xmlns)
abbrev K:=List (List UInt8×List UInt8)
def look:K→List UInt8→Option (List UInt8)
 | [],_=>none
 | (a,v)::r,p=>if a=p then some v else look r p
def binds:List Raw→K→Except (Nat×Int) K
 | [],k=> .ok k
 | x::r,k=>
   if x.ofSpaces=false then binds r k
   else if x.pre= [] then binds r (([],x.val)::k)
   else if x.val= []∨x.loc=xmlns∨x.loc=xml then .error (x.n,83)
   else binds r ((x.loc,x.val)::k)
def ba (l:List UInt8):ByteArray:=⟨l.toArray⟩
def plainAttrs (k:K):List Raw→List A→Except (Nat×Int) (List A)
 | [],out=> .ok out
 | x::r,out=>
   if x.ofSpaces then plainAttrs k r out
   else match (if x.pre= [] then some [] else look k x.pre) with
    | none=> .error (x.n,83)
    | some sp=>
      if out.any (fun y=>decide (y.sp=ba sp∧y.lo=ba x.loc)) then .error (x.n,6)
      else plainAttrs k r (out++ [⟨ba sp,ba x.loc,ba x.val⟩])
def resolve (n:Nat) (nm:List UInt8×List UInt8) (l:List Raw) (known:K):Except (Nat×Int) (List UInt8×List A×K):=
 match binds l known with
 | .error e=> .error e
 | .ok k=>match look k nm.1 with
   | none=> .error (n,83)
   | some sp=>match plainAttrs k l [] with
     | .error e=> .error e
     | .ok ats=> .ok (sp,ats,k)
def lineOf (S:List UInt8) (k:Nat):Nat:=(S.take k).count 10+1
def colOf (S:List UInt8) (k:Nat):Nat:=((S.take k).reverse.takeWhile (fun c=>c !=10)).length+1
def cdata:Nat→List UInt8→List UInt8→Res (List UInt8)
 | 0,_,l=> .error (l.length,81)
 | f+1,acc,l=>
   if [93,93,62].isPrefixOf l then .ok (acc,l.drop 3)
   else match char l with
    | .error e=> .error e
    | .ok (c,r)=>cdata f (acc++W.charL c) r
def close (tag:List UInt8×List UInt8) (l:List UInt8):Res Unit:=
 match name l with
 | .error e=> .error e
 | .ok (nm,r)=>if nm≠tag then .error (l.length,81) else must [62] (skip r)
def inside (el:Nat→List UInt8→Res (E×Nat)) (tag:List UInt8×List UInt8):Nat→Nat→List UInt8→N→List UInt8→Res ((List UInt8×N)×Nat)
 | 0,_,_,_,l=> .error (l.length,81)
 | f+1,cnt,tx,ks,l=>
   if [60,47].isPrefixOf l then
    match close tag (l.drop 2) with
    | .error e=> .error e
    | .ok (_,r)=> .ok (((tx,ks),cnt),r)
   else if [60,33,45,45].isPrefixOf l then
    match comment (l.length+1) (l.drop 4) with
    | .error e=> .error e
    | .ok (_,r)=>inside el tag f cnt tx ks r
   else if [60,33,91,67,68,65,84,65,91].isPrefixOf l then
    match cdata (l.length+1) tx (l.drop 9) with
    | .error e=> .error e
    | .ok (tx',r)=>inside el tag f cnt tx' ks r
   else if ([60,33].isPrefixOf l|| [60,63].isPrefixOf l|| [93,93,62].isPrefixOf l)=true then .error (bad l)
   else if [60].isPrefixOf l then
    match el cnt l with
    | .error e=> .error e
    | .ok ((e,cnt'),r)=>inside el tag f cnt' tx (ks.snoc e) r
   else if [38].isPrefixOf l then
    match ref l with
    | .error e=> .error e
    | .ok (c,r)=>inside el tag f cnt (tx++W.charL c) ks r
   else match char l with
    | .error e=> .error e
    | .ok (c,r)=>inside el tag f cnt (tx++W.charL c) ks r
def elem (S:List UInt8):Nat→K→Nat→List UInt8→Res (E×Nat)
 | 0,_,_,l=> .error (l.length,84)
 | d+1,known,cnt,l=>
   if cnt=1024 then .error (l.length,3)
   else match must [60] l with
    | .error e=> .error e
    | .ok (_,l1)=>match name l1 with
      | .error e=> .error e
      | .ok (tag,l2)=>match attrs (l2.length+1) [] l2 with
        | .error e=> .error e
        | .ok ((raws,opn),l3)=>match resolve l.length tag raws known with
          | .error e=> .error e
          | .ok (sp,ats,k)=>
            if opn then
             match inside (elem S d k) tag (l3.length+1) (cnt+1) [] .nil l3 with
             | .error e=> .error e
             | .ok (((tx,ks),cnt'),l4)=> .ok ((⟨ba sp,ba tag.2,ats,ks,ba tx,lineOf S (S.length-l.length),colOf S (S.length-l.length)⟩,cnt'),l4)
            else .ok ((⟨ba sp,ba tag.2,ats,.nil,ba [],lineOf S (S.length-l.length),colOf S (S.length-l.length)⟩,cnt+1),l3)
def head1:List UInt8:= [60,63,120,109,108,32,118,101,114,115,105,111,110,61,34,49,46,48,34,63,62]
def head2:List UInt8:= [60,63,120,109,108,32,118,101,114,115,105,111,110,61,34,49,46,48,34,32,101,110,99,111,100,105,110,103,61,34,85,84,70,45,56,34,63,62]
def known0:K:= [([],[]),(xml,[104,116,116,112,58,47,47,119,119,119,46,119,51,46,111,114,103,47,88,77,76,47,49,57,57,56,47,110,97,109,101,115,112,97,99,101])]
def start (S:List UInt8):List UInt8:=if head1.isPrefixOf S then S.drop head1.length else if head2.isPrefixOf S then S.drop head2.length else S
def parse (S:List UInt8):Except (Nat×Int) E:=
 match misc (S.length+1) (start S) with
 | .error e=> .error e
 | .ok (_,l)=>
   if (![60].isPrefixOf l|| [60,33].isPrefixOf l|| [60,63].isPrefixOf l)=true then .error (bad l)
   else match elem S 16 known0 0 l with
    | .error e=> .error e
    | .ok ((e,_),l2)=>match misc (S.length+1) l2 with
      | .error e=> .error e
      | .ok (_,l3)=>if l3= [] then .ok e else .error (bad l3)
def Err (e:Int):Prop:=e=3∨e=6∨e=80∨e=81∨e=82∨e=83∨e=84
def Suf (r l:List UInt8):Prop:= ∃b,b++r=l
theorem Suf.trans {a b c:List UInt8}(h:Suf a b) (g:Suf b c):Suf a c:=by
 obtain ⟨x,rfl⟩:=h;obtain ⟨y,rfl⟩:=g;exact ⟨y++x,by rw [List.append_assoc]⟩
theorem Suf.drop (n:Nat) (l:List UInt8):Suf (l.drop n) l:=⟨l.take n,List.take_append_drop n l⟩
theorem Suf.len {a b:List UInt8}(h:Suf a b):a.length≤b.length:=by
 obtain ⟨x,rfl⟩:=h;rw [List.length_append];omega
theorem Suf.skip (l:List UInt8):Suf (skip l) l:=⟨l.takeWhile blank,List.takeWhile_append_dropWhile⟩
theorem Suf.eq_drop {a b:List UInt8}(h:Suf a b):a=b.drop (b.length-a.length):=by
 obtain ⟨x,rfl⟩:=h;rw [List.length_append,Nat.add_sub_cancel,List.drop_left]
def ErrIn (l:List UInt8) (n:Nat) (e:Int):Prop:=n≤l.length∧Err e∧(e=80→n=0)
theorem ErrIn.suf {r l:List UInt8}{n:Nat}{e:Int}(h:ErrIn r n e) (g:Suf r l):ErrIn l n e:=⟨Nat.le_trans h.1 g.len,h.2⟩
theorem bad_in (l:List UInt8):ErrIn l (bad l).1 (bad l).2:=by
 unfold bad;split
 · rename_i h;subst h;exact ⟨Nat.le_refl _,Or.inr (Or.inr (Or.inl rfl)),fun _=>rfl⟩
 · exact ⟨Nat.le_refl _,Or.inr (Or.inr (Or.inr (Or.inl rfl))),fun h=>by cases h⟩
def Fair {α:Type}(k:Nat) (l:List UInt8) (x:Res α):Prop:=(∀a r,x= .ok (a,r)→Suf r l∧r.length+k≤l.length)∧(∀n e,x= .error (n,e)→ErrIn l n e)
theorem Fair.suf {α:Type}{k:Nat}{r l:List UInt8}{x:Res α}(h:Fair k r x) (g:Suf r l):Fair k l x:=
 ⟨fun a t e=>⟨(h.1 a t e).1.trans g,by have:=(h.1 a t e).2;have:=g.len;omega⟩,fun n e he=>(h.2 n e he).suf g⟩
theorem Fair.bad {α:Type}{k:Nat}(l:List UInt8):Fair (α:=α) k l (.error (bad l)):=⟨(fun _ _ h=>by cases h),fun n e h=>by
 have:=Except.error.inj h
 have h2:=bad_in l
 rw [this] at h2;exact h2⟩
theorem Fair.err {α:Type}{k:Nat}{l:List UInt8}{n:Nat}{e:Int}(h:ErrIn l n e):Fair (α:=α) k l (.error (n,e)):=⟨(fun _ _ h=>by cases h),fun n e h'=>by cases h';exact h⟩
theorem Fair.ok {α:Type}{k:Nat}{l r:List UInt8}{a:α}(h:Suf r l) (g:r.length+k≤l.length):Fair k l (.ok (a,r):Res α):=⟨fun _ _ e=>by cases e;exact ⟨h,g⟩,fun _ _ h=>by cases h⟩
theorem err81 (l:List UInt8):ErrIn l l.length 81:=⟨Nat.le_refl _,by unfold Err;omega,by omega⟩
theorem pre_len {t l:List UInt8}(h:t.isPrefixOf l=true):t.length≤l.length:=(List.isPrefixOf_iff_prefix.1 h).length_le
theorem ok_drop {α:Type}{t l:List UInt8}(a:α) (h:t.isPrefixOf l=true):Fair t.length l (.ok (a,l.drop t.length):Res α):=Fair.ok (Suf.drop _ l) (by have:=pre_len h;rw [List.length_drop];omega)
theorem char_fair (l:List UInt8):Fair 1 l (char l):=by
 unfold char;split
 · rename_i h;subst h;exact Fair.err ⟨Nat.le_refl _,by unfold Err;omega,fun _=>rfl⟩
 · rename_i hne;split
   · exact Fair.err (err81 l)
   · have h1:=Lib.decodeL_width l;have h2:=Lib.decodeL_le l hne;exact Fair.ok (Suf.drop _ l) (by rw [List.length_drop];omega)
theorem comment_fair:∀(f:Nat) (l:List UInt8),Fair 3 l (comment f l)
 | 0,l=>Fair.err (err81 l)
 | f+1,l=>by
   unfold comment
   split
   · rename_i h;exact ok_drop _ h
   · split
     · exact Fair.bad l
     · have h1:=char_fair l
       cases hx:char l with
       | error q=>exact Fair.err (h1.2 q.1 q.2 hx)
       | ok q=>exact (comment_fair f q.2).suf (h1.1 q.1 q.2 hx).1
theorem misc_fair:∀(f:Nat) (l:List UInt8),Fair 0 l (misc f l)
 | 0,l=>Fair.err (err81 l)
 | f+1,l=>by
   unfold misc
   split
   · have h1:=(comment_fair ((skip l).length+1) ((skip l).drop 4)).suf ((Suf.drop 4 _).trans (Suf.skip l))
     cases hx:comment ((skip l).length+1) ((skip l).drop 4) with
     | error q=>exact Fair.err (h1.2 q.1 q.2 hx)
     | ok q=>exact (misc_fair f q.2).suf (h1.1 q.1 q.2 hx).1
   · exact Fair.ok (Suf.skip l) (by have:=(Suf.skip l).len;omega)
end X
open Go.RowKit
open Go.Lib (hid)
def mRow (s:ByteArray) (p c:Nat):Obj:= .cells #[.string s,.int .i64 p,.int .i64 c] 194 (0,0)
theorem grownBy_set (w:World) (b i:Nat) (v:Value):w.grownBy (w.setCell ⟨b,i,none⟩ v) (some b):=by
 refine ⟨rfl,rfl,rfl,by simp [World.setCell],fun k _ hne=> ?_⟩;have hkb:b≠k:=fun e=>hne (by rw [e])
 show (w.heap.modify b _)[k]? =_;rw [Array.getElem?_modify];simp [hkb]
theorem row3 {w:World}{b:Nat}{x y z:Value}{t:TypeId}(h:w.heap[b]? =some (.cells #[x,y,z] t (0,0))):w.cell? ⟨b,0,none⟩=some x∧w.cell? ⟨b,1,none⟩=some y∧w.cell? ⟨b,2,none⟩=some z:=⟨rowCell h 0,rowCell h 1,rowCell h 2⟩
structure Rd (w:World) (R:Nat) (s:ByteArray) (p c:Nat) (W:World):Prop where
 g:w.grownBy W (some R)
 r:W.heap[R]? =some (mRow s p c)
 lt:R<w.heap.size
section
variable {w W W':World}{R p c:Nat}{s:ByteArray}
theorem Rd.below (h:Rd w R s p c W) (b:Below W.heap.size W W'):Rd w R s p c W':=
 ⟨h.g.trans ⟨b.os,b.tape,b.output,b.size,fun k hk _=>b.block k hk⟩,by rw [b.block _ (Go.lt_of_block h.r)];exact h.r,h.lt⟩
theorem Rd.drew (h:Rd w R s p c W):Rd w R s p c W.drew:=h.below (Below.refl _ W).drew
theorem Rd.set1 (h:Rd w R s p c W) (q:Nat):Rd w R s q c (W.setCell ⟨R,1,none⟩ (.int .i64 q)):=⟨h.g.trans (grownBy_set _ _ _ _),row_set h.r 1 _,h.lt⟩
theorem Rd.cells (h:Rd w R s p c W):W.cell? ⟨R,0,none⟩=some (.string s)∧W.cell? ⟨R,1,none⟩=some (.int .i64 p)∧W.cell? ⟨R,2,none⟩=some (.int .i64 c):=row3 h.r
theorem Rd.free (h:Rd w R s p c W) (i:Nat):W.frozen? ⟨R,i,none⟩=false:=Lib.frozen_of_heap h.r i
theorem Rd.own (h:Rd w R s p c W):Rd W R s p c W:=⟨⟨rfl,rfl,rfl,Nat.le_refl _,fun _ _ _=>rfl⟩,h.r,Go.lt_of_block h.r⟩
theorem Rd.trans {q d:Nat}(h:Rd w R s p c W) (g:Rd W R s q d W'):Rd w R s q d W':=⟨h.g.trans g.g,g.r,h.lt⟩
end
def chain (e at_:Int):List PanicEntry:= [{ v:= .iface 188 (.agg #[.int .i64 e,.int .i64 at_]),recovered:=false }]
def Ends {α:Type}(W0:World) (R:Nat) (s:ByteArray) (c:Nat) (x:X.Res α) (f:α→Value) (en:Ending) (W:World):Prop:=
 (∃a r,x= .ok (a,r)∧en= .returned (f a)∧Rd W0 R s (s.size-r.length) c W)∨(∃n e,x= .error (n,e)∧en= .panicked (chain e ((s.size-n:Nat):Int))∧W0.grownBy W (some R))
def rest (s:ByteArray) (p:Nat):List UInt8:=s.data.toList.drop p
theorem rest_len (s:ByteArray) (p:Nat):(rest s p).length=s.size-p:=by unfold rest;rw [List.length_drop,←Lib.size_eq]
theorem rest_drop (s:ByteArray) (p k:Nat):(rest s p).drop k=rest s (p+k):=by unfold rest;rw [List.drop_drop]
theorem rest_nil (s:ByteArray) (p:Nat):rest s p= []↔s.size≤p:=by
 unfold rest;rw [List.drop_eq_nil_iff,←Lib.size_eq]
theorem fail_any (er at_:Int) (w:World):Calls Tryz.prog 186 #[.int .i64 er,.int .i64 at_] w fun en W'=>en= .panicked (chain er at_)∧W'=w:=by
 go_enter Tryz.func186,Tryz.ntmps186;go_wp2;exact ⟨rfl,rfl,rfl⟩
theorem bad_any {R p c:Nat}{s:ByteArray}{W:World}(h:Rd W R s p c W) (hp:p≤s.size):
   Calls Tryz.prog 101 #[.pointer (some ⟨R,0,none⟩)] W fun en W'=>en= .panicked (chain (X.bad (rest s p)).2 ((s.size-(X.bad (rest s p)).1:Nat):Int))∧Below W.heap.size W W':=by
 obtain ⟨c0,c1, -⟩:=h.cells;by_cases hq:s.size≤p
 · have e:X.bad (rest s p)=(0,80):=by unfold X.bad;rw [if_pos ((rest_nil s p).2 hq)]
   rw [e];have hps:p=s.size:=by omega
   subst hps;have cF:=fun U=>fail_any 80 (s.size:Int) U
   have t0:decide ((s.size:Int)≤(s.size:Int))=true:=by simp
   clear h e hq hp;go_enter Tryz.func101,Tryz.ntmps101;go_wp2_with fail;go_region
   go_wp2_with fail;refine (cF _).mono ?_;rintro e w1 ⟨rfl,rfl⟩;exact ⟨rfl,rfl,(Below.refl _ W).drew⟩
 · have e:X.bad (rest s p)=(s.size-p,81):=by unfold X.bad;rw [if_neg (by rw [rest_nil];omega),rest_len]
   rw [e];have cF:=fun U=>fail_any 81 (p:Int) U
   have t0:decide ((s.size:Int)≤(p:Int))=false:=by simp;omega
   have e2:(s.size-(s.size-p):Nat)=p:=by omega
   simp only;rw [e2];clear h e hp e2;go_enter Tryz.func101,Tryz.ntmps101;go_wp2_with fail;go_region
   go_wp2_with fail;refine (cF _).mono ?_;rintro e w1 ⟨rfl,rfl⟩;exact ⟨rfl,rfl,(Below.refl _ W).drew⟩
theorem ext_rest (s:ByteArray) (p:Nat):(s.extract p s.size).data.toList=rest s p:=by rw [Lib.extract_to_end];rfl
theorem next_any {R p c:Nat}{s:ByteArray}{W:World}(t:ByteArray) (h:Rd W R s p c W) (hp:p≤s.size):
  Calls Tryz.prog 100 #[.pointer (some ⟨R,0,none⟩),.string t] W fun en W'=>en= .returned (.bool (t.data.toList.isPrefixOf (rest s p)))∧Below W.heap.size W W':=by
 obtain ⟨c0,c1, -⟩:=h.cells;have cP:=fun U=>Tryz.strings_HasPrefix (s.extract p s.size) t U
 unfold Lib.hasPrefix at cP;rw [ext_rest] at cP;obtain ⟨b,hb⟩:∃b,t.data.toList.isPrefixOf (rest s p)=b:=⟨_,rfl⟩;rw [hb] at cP ⊢;have P0:(0:Int)≤(p:Int):=by omega
 have P1:(p:Int)≤(s.size:Int):=by omega
 have HP:=hid cP;clear h hb hp cP;go_enter Tryz.func100,Tryz.ntmps100;go_wp2_with fail;go_region_with (go_at_call 185;refine (HP.out _).mono ?_;rintro en w1 ⟨rfl,rfl⟩)
 all_goals
  go_wp2_with fail;go_ret;exact ⟨rfl,(Below.refl _ W).drew⟩
theorem take_any {R p c:Nat}{s:ByteArray}{W:World}(t:ByteArray) (h:Rd W R s p c W) (hp:p≤s.size) (hs:s.size≤1000000000000):
   Calls Tryz.prog 98 #[.pointer (some ⟨R,0,none⟩),.string t] W fun en W'=>(t.data.toList.isPrefixOf (rest s p)=true∧p+t.size≤s.size∧en= .returned (.bool true)∧Rd W R s (p+t.size) c W')∨(t.data.toList.isPrefixOf (rest s p)=false∧en= .returned (.bool false)∧Below W.heap.size W W'):=by
 have cN:=next_any t h hp;have HR:=hid h;cases hb:t.data.toList.isPrefixOf (rest s p)
 · rw [hb] at cN;clear h hb;go_enter Tryz.func98,Tryz.ntmps98;go_wp2_with fail;refine cN.mono ?_;rintro e w1 ⟨rfl,hbl⟩;have HB:=hid hbl;clear hbl;go_wp2_with fail;go_ret;exact Or.inr ⟨trivial,rfl,HB.out⟩
 · rw [hb] at cN;have hl:=X.pre_len hb;rw [rest_len,←Lib.size_eq] at hl;have hq:p+t.size≤s.size:=by omega
   obtain ⟨q,hqe⟩:∃q,p+t.size=q:=⟨_,rfl⟩;have e1:(p:Int)+(t.size:Int)=(q:Int):=by omega
   have e2:IntKind.i64.wrap (q:Int)=(q:Int):=by rw [IntKind.wrap_i64];omega
   rw [hqe] at hq ⊢;clear h hb hl hqe;go_enter Tryz.func98,Tryz.ntmps98;go_wp2_with fail;refine cN.mono ?_;rintro e w1 ⟨rfl,hbl⟩;have HR1:=hid (HR.out.below hbl);clear hbl;obtain ⟨c0,c1, -⟩:=HR1.out.cells;have f1:=HR1.out.free 1;go_wp2_with fail;go_ret;exact Or.inl ⟨trivial,hq,rfl,HR1.out.set1 q⟩
def Errs (w:World):Prop:=(∃tp p,w.var? Tryz.prog "strconv.ErrSyntax" =some #[.iface tp p])∧(∃tp p,w.var? Tryz.prog "strconv.ErrRange" =some #[.iface tp p])
theorem Errs.keep {w w':World}(h:Errs w) (hb:Below w.heap.size w w'):Errs w':=by
 obtain ⟨⟨t1,p1,h1⟩,⟨t2,p2,h2⟩⟩:=h;have c1:w.cell? ⟨4,0,none⟩=some (.iface t1 p1):=by
  have h0:=World.var?_cell (show Tryz.prog.globalNamed "strconv.ErrSyntax" =some 4 by kernel_rfl) h1 0;simpa using h0
 have c2:w.cell? ⟨5,0,none⟩=some (.iface t2 p2):=by
  have h0:=World.var?_cell (show Tryz.prog.globalNamed "strconv.ErrRange" =some 5 by kernel_rfl) h2 0;simpa using h0
 exact ⟨⟨t1,p1,var?_below hb (show Tryz.prog.globalNamed "strconv.ErrSyntax" =some 4 by kernel_rfl) (Lib.lt_of_cell c1) h1⟩,
  ⟨t2,p2,var?_below hb (show Tryz.prog.globalNamed "strconv.ErrRange" =some 5 by kernel_rfl) (Lib.lt_of_cell c2) h2⟩⟩
theorem cut_list (s:ByteArray) (n m:Nat):(s.extract n m).data.toList=(s.data.toList.drop n).take (m-n):=by
 rw [ByteArray.data_extract,Array.toList_extract]
def Tabs (w:World):Prop:=Lib.Utf8Tabs 0 1 w
theorem Tabs.below {B:Nat}{w w':World}(h:Tabs w) (hb:Below B w w') (h0:0<B) (h1:1<B):Tabs w':=by
 refine ⟨fun c hc=> ?_,fun i hi=> ?_⟩
 · rw [hb.cell (p:=⟨0,c,none⟩) h0];exact h.1 c hc
 · rw [hb.cell (p:=⟨1,2*i,none⟩) h1,hb.cell (p:=⟨1,2*i+1,none⟩) h1];exact h.2 i hi
theorem Tabs.size {w:World}(h:Tabs w):0<w.heap.size∧1<w.heap.size:=
 ⟨block_lt_of_cell (h.1 0 (by omega)),block_lt_of_cell (h.2 0 (by omega)).1⟩
structure Ground (B:Nat) (w:World):Prop where
 errs:∀X,Below B w X→Errs X
 tabs:∀X,Below B w X→Tabs X
theorem Ground.keep {B:Nat}{w w':World}(h:Ground B w) (hb:Below B w w'):Ground B w':=⟨fun X hX=>h.errs X (hb.trans hX),fun X hX=>h.tabs X (hb.trans hX)⟩
theorem Ground.first {w:World}(hE:Errs w) (hT:Tabs w):Ground w.heap.size w:=⟨fun _ h=>hE.keep h,fun _ h=>hT.below h hT.size.1 hT.size.2⟩
theorem Rd.base {w W:World}{R p c B:Nat}{s:ByteArray}(h:Rd w R s p c W) (hB:B≤R):Below B w W:=
 ⟨h.g.os,h.g.tape,h.g.output,by have:=h.g.size;have:=h.lt;omega,fun k hk=>h.g.block k (by have:=h.lt;omega) (fun e=>by have:=Option.some.inj e;omega)⟩
theorem Ground.rd {w W:World}{R p c B:Nat}{s:ByteArray}(g:Ground B w) (h:Rd w R s p c W) (hB:B≤R):Ground B W:=g.keep (h.base hB)
theorem Tabs.under {w W:World}(h:Tabs w) (hb:Below w.heap.size w W):Tabs W:=h.below hb h.size.1 h.size.2
theorem Ground.now {B:Nat}{w:World}(g:Ground B w):Tabs w:=g.tabs w (Below.refl _ w)
theorem X.trim_skip (l:List UInt8):Lib.trimLeftS l [32,9,13,10]=X.skip l:=by
 unfold Lib.trimLeftS X.skip;congr 1
 funext c
 rw [Bool.eq_iff_iff];simp only [X.blank,List.contains_cons,List.contains_nil,Bool.or_eq_true,beq_iff_eq,Bool.or_false,or_assoc]
theorem rest_suf {s:ByteArray}{p:Nat}{r:List UInt8}(h:X.Suf r (rest s p)):r=rest s (s.size-r.length):=by
 have h1:=h.eq_drop;have h2:=h.len;rw [rest_len] at h1 h2;by_cases hp:p≤s.size
 · rw [rest_drop] at h1;rw [show s.size-r.length=p+(s.size-p-r.length) by omega];exact h1
 · have:r= []:=List.eq_nil_of_length_eq_zero (by omega);subst this;exact ((rest_nil s _).2 (by simp)).symm
theorem rest_pos {s:ByteArray}{p:Nat}{r:List UInt8}(h:X.Suf r (rest s p)) (hp:p≤s.size):p≤s.size-r.length∧s.size-r.length≤s.size:=by
 have h2:=h.len;rw [rest_len] at h2;omega
theorem trim_at (s:ByteArray) (p:Nat):∃t:ByteArray,t.size=(X.skip (rest s p)).length∧∀U,Calls Tryz.prog 112 #[.string (s.extract p s.size),.string ⟨#[32,9,13,10]⟩] U fun e w'=>e= .returned (.string t)∧Below U.heap.size U w':=by
 refine ⟨⟨(X.skip (rest s p)).toArray⟩,by show (X.skip (rest s p)).toArray.size=_;simp,fun U=> ?_⟩;have h:=Tryz.strings_TrimLeft_set (s.extract p s.size) ⟨#[32,9,13,10]⟩ U (by decide) (by
  intro j b hj;have:(⟨#[32,9,13,10]⟩:ByteArray).data.toList= [32,9,13,10]:=rfl;rw [this] at hj;have hm:=List.mem_of_getElem? hj;simp only [List.mem_cons,List.not_mem_nil,or_false] at hm;rcases hm with rfl|rfl|rfl|rfl<;>decide)
 rw [ext_rest,show (⟨#[32,9,13,10]⟩:ByteArray).data.toList= [32,9,13,10] from rfl,X.trim_skip] at h;exact h
theorem blanks_any {R p c:Nat}{s:ByteArray}{W:World}(h:Rd W R s p c W) (hp:p≤s.size) (hs:s.size≤1000000000000):
  Calls Tryz.prog 183 #[.pointer (some ⟨R,0,none⟩)] W fun en W'=>en= .returned (.bool (decide (p<s.size-(X.skip (rest s p)).length)))∧Rd W R s (s.size-(X.skip (rest s p)).length) c W':=by
 obtain ⟨t,ht,cT⟩:=trim_at s p;have hq:=rest_pos (X.Suf.skip (rest s p)) hp;have hsk:=(X.Suf.skip (rest s p)).len;rw [rest_len] at hsk;obtain ⟨q,hqe⟩:∃q,s.size-(X.skip (rest s p)).length=q:=⟨_,rfl⟩;have e1:(s.size:Int)-(t.size:Int)=(q:Int):=by omega
 rw [hqe] at hq ⊢;have e2:IntKind.i64.wrap (q:Int)=(q:Int):=by rw [IntKind.wrap_i64];omega
 have P0:(0:Int)≤(p:Int):=by omega
 have P1:(p:Int)≤(s.size:Int):=by omega
 have HT:=hid cT;have HR:=hid h;obtain ⟨c0,c1, -⟩:=h.cells;clear cT h ht hqe hsk hq;go_enter Tryz.func183,Tryz.ntmps183;go_wp2_with fail;go_region_with (go_at_call 112;refine (HT.out _).mono ?_;rintro en w1 ⟨rfl,bb⟩;(have H1:=hid (HR.out.drew.below bb));(obtain ⟨d0,d1, -⟩:=H1.out.cells);(have g1:=H1.out.free 1);clear bb)
 all_goals
  clear c0 c1;go_wp2_with fail;go_ret;exact ⟨rfl,H1.out.set1 q⟩
theorem stands_any (c:Int) (W:World):Calls Tryz.prog 282 #[.int .i32 c] W fun en W'=>en= .returned (.bool (X.stands c))∧W'=W:=by
 have hcl:(c=9)∨(c=10)∨(c=13)∨(c<32∧c≠9∧c≠10∧c≠13)∨(32≤c∧c≤55295)∨(55296≤c∧c≤57343)∨(57344≤c∧c≤65533)∨(65534≤c∧c≤65535)∨(65536≤c∧c≤1114111)∨(1114112≤c):=by omega
 rcases hcl with h|h|h|h|h|h|h|h|h|h
 · rw [show X.stands c=true by unfold X.stands;subst h;rfl];subst h;go_enter Tryz.func282,Tryz.ntmps282;go_wp2;go_ret;exact ⟨rfl,rfl⟩
 · rw [show X.stands c=true by unfold X.stands;subst h;rfl];subst h;go_enter Tryz.func282,Tryz.ntmps282;go_wp2;go_ret;exact ⟨rfl,rfl⟩
 · rw [show X.stands c=true by unfold X.stands;subst h;rfl];subst h;go_enter Tryz.func282,Tryz.ntmps282;go_wp2;go_ret;exact ⟨rfl,rfl⟩
 · rw [show X.stands c=false by unfold X.stands;simp;omega];have q9:(c==9)=false:=beq_eq_false_iff_ne.2 (by omega);have q10:(c==10)=false:=beq_eq_false_iff_ne.2 (by omega);have q13:(c==13)=false:=beq_eq_false_iff_ne.2 (by omega);have ta:decide (c<32)=true:=decide_eq_true (by omega);have tb:decide ((1114111:Int)<c)=false:=decide_eq_false (by omega);have td:decide (c≤55295)=true:=decide_eq_true (by omega);have te:decide ((57344:Int)≤c)=false:=decide_eq_false (by omega);have tf:decide (c≤65533)=true:=decide_eq_true (by omega);have tg:decide ((65536:Int)≤c)=false:=decide_eq_false (by omega);clear h;go_enter Tryz.func282,Tryz.ntmps282;go_wp2;go_ret;exact ⟨rfl,rfl⟩
 · rw [show X.stands c=true by unfold X.stands;simp;omega];have q9:(c==9)=false:=beq_eq_false_iff_ne.2 (by omega);have q10:(c==10)=false:=beq_eq_false_iff_ne.2 (by omega);have q13:(c==13)=false:=beq_eq_false_iff_ne.2 (by omega);have ta:decide (c<32)=false:=decide_eq_false (by omega);have tb:decide ((1114111:Int)<c)=false:=decide_eq_false (by omega);have td:decide (c≤55295)=true:=decide_eq_true (by omega);have te:decide ((57344:Int)≤c)=false:=decide_eq_false (by omega);have tf:decide (c≤65533)=true:=decide_eq_true (by omega);have tg:decide ((65536:Int)≤c)=false:=decide_eq_false (by omega);clear h;go_enter Tryz.func282,Tryz.ntmps282;go_wp2;go_ret;exact ⟨rfl,rfl⟩
 · rw [show X.stands c=false by unfold X.stands;simp;omega];have q9:(c==9)=false:=beq_eq_false_iff_ne.2 (by omega);have q10:(c==10)=false:=beq_eq_false_iff_ne.2 (by omega);have q13:(c==13)=false:=beq_eq_false_iff_ne.2 (by omega);have ta:decide (c<32)=false:=decide_eq_false (by omega);have tb:decide ((1114111:Int)<c)=false:=decide_eq_false (by omega);have td:decide (c≤55295)=false:=decide_eq_false (by omega);have te:decide ((57344:Int)≤c)=false:=decide_eq_false (by omega);have tf:decide (c≤65533)=true:=decide_eq_true (by omega);have tg:decide ((65536:Int)≤c)=false:=decide_eq_false (by omega);clear h;go_enter Tryz.func282,Tryz.ntmps282;go_wp2;go_ret;exact ⟨rfl,rfl⟩
 · rw [show X.stands c=true by unfold X.stands;simp;omega];have q9:(c==9)=false:=beq_eq_false_iff_ne.2 (by omega);have q10:(c==10)=false:=beq_eq_false_iff_ne.2 (by omega);have q13:(c==13)=false:=beq_eq_false_iff_ne.2 (by omega);have ta:decide (c<32)=false:=decide_eq_false (by omega);have tb:decide ((1114111:Int)<c)=false:=decide_eq_false (by omega);have td:decide (c≤55295)=false:=decide_eq_false (by omega);have te:decide ((57344:Int)≤c)=true:=decide_eq_true (by omega);have tf:decide (c≤65533)=true:=decide_eq_true (by omega);have tg:decide ((65536:Int)≤c)=false:=decide_eq_false (by omega);clear h;go_enter Tryz.func282,Tryz.ntmps282;go_wp2;go_ret;exact ⟨rfl,rfl⟩
 · rw [show X.stands c=false by unfold X.stands;simp;omega];have q9:(c==9)=false:=beq_eq_false_iff_ne.2 (by omega);have q10:(c==10)=false:=beq_eq_false_iff_ne.2 (by omega);have q13:(c==13)=false:=beq_eq_false_iff_ne.2 (by omega);have ta:decide (c<32)=false:=decide_eq_false (by omega);have tb:decide ((1114111:Int)<c)=false:=decide_eq_false (by omega);have td:decide (c≤55295)=false:=decide_eq_false (by omega);have te:decide ((57344:Int)≤c)=true:=decide_eq_true (by omega);have tf:decide (c≤65533)=false:=decide_eq_false (by omega);have tg:decide ((65536:Int)≤c)=false:=decide_eq_false (by omega);clear h;go_enter Tryz.func282,Tryz.ntmps282;go_wp2;go_ret;exact ⟨rfl,rfl⟩
 · rw [show X.stands c=true by unfold X.stands;simp;omega];have q9:(c==9)=false:=beq_eq_false_iff_ne.2 (by omega);have q10:(c==10)=false:=beq_eq_false_iff_ne.2 (by omega);have q13:(c==13)=false:=beq_eq_false_iff_ne.2 (by omega);have ta:decide (c<32)=false:=decide_eq_false (by omega);have tb:decide ((1114111:Int)<c)=false:=decide_eq_false (by omega);have td:decide (c≤55295)=false:=decide_eq_false (by omega);have te:decide ((57344:Int)≤c)=true:=decide_eq_true (by omega);have tf:decide (c≤65533)=false:=decide_eq_false (by omega);have tg:decide ((65536:Int)≤c)=true:=decide_eq_true (by omega);clear h;go_enter Tryz.func282,Tryz.ntmps282;go_wp2;go_ret;exact ⟨rfl,rfl⟩
 · rw [show X.stands c=false by unfold X.stands;simp;omega];have q9:(c==9)=false:=beq_eq_false_iff_ne.2 (by omega);have q10:(c==10)=false:=beq_eq_false_iff_ne.2 (by omega);have q13:(c==13)=false:=beq_eq_false_iff_ne.2 (by omega);have ta:decide (c<32)=false:=decide_eq_false (by omega);have tb:decide ((1114111:Int)<c)=true:=decide_eq_true (by omega);have td:decide (c≤55295)=false:=decide_eq_false (by omega);have te:decide ((57344:Int)≤c)=true:=decide_eq_true (by omega);have tf:decide (c≤65533)=false:=decide_eq_false (by omega);have tg:decide ((65536:Int)≤c)=true:=decide_eq_true (by omega);clear h;go_enter Tryz.func282,Tryz.ntmps282;go_wp2;go_ret;exact ⟨rfl,rfl⟩
theorem decode_rest {s:ByteArray}{p:Nat}(hp:p<s.size):Lib.decodeGo (s.extract p s.size)=Lib.decodeL (rest s p):=W.decodeGo_drop s p hp
theorem decode_end {s:ByteArray}:Lib.decodeGo (s.extract s.size s.size)=(65533,0):=by
 unfold Lib.decodeGo;rw [if_pos (by simp)]
theorem char_any {R p c B:Nat}{s:ByteArray}{W:World}(h:Rd W R s p c W) (hp:p≤s.size) (hs:s.size≤1000000000000) (hG:Ground B W):
   Calls Tryz.prog 239 #[.pointer (some ⟨R,0,none⟩)] W (Ends W R s c (X.char (rest s p)) (fun x=> .int .i32 x)):=by
 have P0:(0:Int)≤(p:Int):=by omega
 have P1:(p:Int)≤(s.size:Int):=by omega
 have HR:=hid h;have cD:=fun U (hU:Tabs U)=>Tryz.utf8_DecodeRuneInString (s.extract p s.size) U hU
 have cB:=fun U (hU:Rd U R s p c U)=>bad_any hU hp
 obtain ⟨c0,c1, -⟩:=h.cells;have HT:Hid (Tabs W):=hG.now;have HTD:Hid (Tabs W.drew):=hG.now;have fin:∀ {W' W'':World}{en:Ending},X.char (rest s p)= .error (X.bad (rest s p))→Rd W R s p c W'→Below W'.heap.size W' W''→Ends W R s c (X.char (rest s p)) (fun x=> .int .i32 x) (.panicked (chain (X.bad (rest s p)).2 ((s.size-(X.bad (rest s p)).1:Nat):Int))) W'':=fun h1 h2 h3=>Or.inr ⟨_,_,h1,rfl,(h2.below h3).g⟩
 by_cases hps:p=s.size
 · have hd:Lib.decodeGo (s.extract p s.size)=(65533,0):=by rw [hps];exact decode_end
   rw [hd] at cD;replace cD:∀U,Tabs U→Calls Tryz.prog 196 #[.string (s.extract p s.size)] U fun e w'=>e= .returned (.tuple #[.int .i32 65533,.int .i64 0])∧Below U.heap.size U w':=cD
   have HX:Hid (X.char (rest s p)= .error (X.bad (rest s p))):=by
     show _=_;have:=(rest_nil s p).2 (by omega);rw [this];rfl
   have HD:=hid cD;have HB:=hid cB;have HF:=hid (fun W' W'' en=>@fin W' W'' en);clear h cD cB fin hG hp hd hps;go_enter Tryz.func239,Tryz.ntmps239;go_wp2_with fail;refine quiet_lit (C:=(fun w1=>Rd W R s p c w1∧Tabs w1)) (by kernel_rfl) (by kernel_rfl) (⟨HR.out.drew,HTD.out⟩) ?_;repeat (first
     | go_big_quiet_skip
     | (go_big_quiet_want
        refine quiet_val (x:= ?_) (fun vv hC=> ?_) ?_
        rotate_left
        · skip
          obtain ⟨c0,c1, -⟩:=hC.1.cells;clear hC;go_simp;with_reducible rfl
        go_big_quiet_on
        try simp only [Act.put,List.setIfInBounds_toArray,List.set_cons_zero,List.set_cons_succ])
     | (go_big_quiet_want
        refine quiet_call (f:= ?_) (args:= ?_) (x:= ?_) (fun vv hC=> ?_) (fun vv hC=> ?_) ?_
        rotate_left 3
        · go_simp
          first|with_reducible rfl| (apply And.intro<;>with_reducible rfl)
        · first
            | (go_at_call 196;with_reducible refine (HD.out _ hC.2).mono ?_;rintro e ww ⟨rfl,bb⟩;refine And.intro ?_ (⟨hC.1.below bb,hC.2.under bb⟩);with_reducible rfl)
        go_big_quiet_on
        try simp only [Act.put,List.setIfInBounds_toArray,List.set_cons_zero,List.set_cons_succ]))
   refine wpQuiet_nil ?_;intro vq hq;have H2:=hid hq.1;clear c0 c1 hq;go_wp2_with fail;refine (HB.out _ H2.out.own).mono ?_;rintro e w2 ⟨rfl,hbl⟩;exact ⟨rfl,HF.out _ _ (.returned (.tuple #[])) HX.out H2.out hbl⟩
 · have hlt:p<s.size:=by omega
   rw [decode_rest hlt] at cD;have hne:rest s p≠ []:=fun e=>by rw [rest_nil] at e;omega
   have hw:=Lib.decodeL_width (rest s p);have hle:=Lib.decodeL_le (rest s p) hne;have hru:=Lib.decodeL_rune (rest s p);rw [rest_len] at hle;have HX:Hid (X.char (rest s p)=if ((Lib.decodeL (rest s p)).1=65533∧(Lib.decodeL (rest s p)).2=1)∨X.stands (Lib.decodeL (rest s p)).1=false then .error (X.bad (rest s p)) else .ok (((Lib.decodeL (rest s p)).1:Int),(rest s p).drop (Lib.decodeL (rest s p)).2)):=by
     show _=_;unfold X.char X.bad;rw [if_neg hne,if_neg hne]
   obtain ⟨r,hr⟩:∃r,(Lib.decodeL (rest s p)).1=r:=⟨_,rfl⟩;obtain ⟨k,hk⟩:∃k,(Lib.decodeL (rest s p)).2=k:=⟨_,rfl⟩;rw [hr] at cD HX hru;rw [hk] at cD HX hw hle;clear hr hk hne;have HD:=hid cD;have HB:=hid cB;have HF:=hid (fun W' W'' en=>@fin W' W'' en);have cS:=fun U=>stands_any (r:Int) U
   have k0:((k:Int)==0)=false:=beq_eq_false_iff_ne.2 (by omega);clear h cD cB fin hG;go_enter Tryz.func239,Tryz.ntmps239;go_wp2_with fail;refine quiet_lit (C:=(fun w1=>Rd W R s p c w1∧Tabs w1)) (by kernel_rfl) (by kernel_rfl) (⟨HR.out.drew,HTD.out⟩) ?_;repeat (first
     | go_big_quiet_skip
     | (go_big_quiet_want
        refine quiet_val (x:= ?_) (fun vv hC=> ?_) ?_
        rotate_left
        · skip
          obtain ⟨c0,c1, -⟩:=hC.1.cells;clear hC;go_simp;with_reducible rfl
        go_big_quiet_on
        try simp only [Act.put,List.setIfInBounds_toArray,List.set_cons_zero,List.set_cons_succ])
     | (go_big_quiet_want
        refine quiet_call (f:= ?_) (args:= ?_) (x:= ?_) (fun vv hC=> ?_) (fun vv hC=> ?_) ?_
        rotate_left 3
        · go_simp
          first|with_reducible rfl| (apply And.intro<;>with_reducible rfl)
        · first
            | (go_at_call 196;with_reducible refine (HD.out _ hC.2).mono ?_;rintro e ww ⟨rfl,bb⟩;refine And.intro ?_ (⟨hC.1.below bb,hC.2.under bb⟩);with_reducible rfl)
        go_big_quiet_on
        try simp only [Act.put,List.setIfInBounds_toArray,List.set_cons_zero,List.set_cons_succ]))
   refine wpQuiet_nil ?_;intro vq hq;have H1:=hid hq.1;clear c0 c1 hq HD HTD HT HR;have hcase:(((r:Int)==65533)=true∧((k:Int)==1)=true)∨((((r:Int)==65533)=false∨(((r:Int)==65533)=true∧((k:Int)==1)=false))∧X.stands r=false)∨((((r:Int)==65533)=false∨(((r:Int)==65533)=true∧((k:Int)==1)=false))∧X.stands r=true):=by
     cases (r:Int)==65533<;>cases (k:Int)==1<;>cases X.stands r<;>simp
   rcases hcase with ⟨g1,g2⟩|⟨gc,g3⟩|⟨gc,g3⟩
   · have HE:Hid (X.char (rest s p)= .error (X.bad (rest s p))):=by
       show _=_;rw [HX.out,if_pos];left;simp only [beq_iff_eq] at g1 g2;omega
     clear HX cS;go_wp2_with fail;refine (HB.out _ H1.out.own).mono ?_;rintro e w2 ⟨rfl,hbl⟩;exact ⟨rfl,HF.out _ _ (.returned (.tuple #[])) HE.out H1.out hbl⟩
   · have HE:Hid (X.char (rest s p)= .error (X.bad (rest s p))):=by
       show _=_;rw [HX.out,if_pos];right;exact g3
     rw [g3] at cS;clear HX g3;rcases gc with g1|⟨g1,g2⟩;all_goals
       go_wp2_with fail;refine (cS _).mono ?_;rintro e w2 ⟨rfl,rfl⟩;go_wp2_with fail;refine (HB.out _ H1.out.own).mono ?_;rintro e w2 ⟨rfl,hbl⟩;exact ⟨rfl,HF.out _ _ (.returned (.tuple #[])) HE.out H1.out hbl⟩
   · have HY0:X.char (rest s p)= .ok ((r:Int),rest s (p+k)):=by
       rw [HX.out,if_neg,rest_drop];rintro (⟨h4,h5⟩|h4)
       · rcases gc with g1|⟨g1,g2⟩
         · have:=beq_eq_false_iff_ne.1 g1;omega
         · have:=beq_eq_false_iff_ne.1 g2;omega
       · rw [g3] at h4;cases h4
     have HY:=hid HY0;rw [g3] at cS;clear HY0 HX g3;obtain ⟨q,hq⟩:∃q,p+k=q:=⟨_,rfl⟩;rw [hq] at HY;have e1:(p:Int)+(k:Int)=(q:Int):=by omega
     have e2:IntKind.i64.wrap (q:Int)=(q:Int):=by rw [IntKind.wrap_i64];omega
     have HQ:Hid (s.size-(rest s q).length=q):=by show _=_;rw [rest_len];omega
     obtain ⟨c0,c1, -⟩:=H1.out.cells;have f1:=H1.out.free 1;clear hq;rcases gc with g1|⟨g1,g2⟩;all_goals
       go_wp2_with fail;refine (cS _).mono ?_;rintro e w2 ⟨rfl,rfl⟩;go_wp2_with fail;go_ret;exact Or.inl ⟨_,_,HY.out,rfl,by rw [HQ.out];exact H1.out.set1 q⟩
def posOf (W:World) (R:Nat):Nat:=match W.cell? ⟨R,1,none⟩ with|some (.int _ v)=>v.toNat|_=>0
theorem Rd.pos {w W:World}{R p c:Nat}{s:ByteArray}(h:Rd w R s p c W):posOf W R=p:=by unfold posOf;rw [h.cells.2.1];simp
theorem X.skip_skip (l:List UInt8):X.skip (X.skip l)=X.skip l:=by
 unfold X.skip;induction l with
 | nil=>rfl
 | cons c r ih=>
   rw [List.dropWhile_cons];split
   · exact ih
   · rename_i h;rw [List.dropWhile_cons,if_neg h]
theorem take_l {R p c k:Nat}{s:ByteArray}{W:World}(l:List UInt8) (t:ByteArray) (hl:t.data.toList=l) (hk:t.size=k) (h:Rd W R s p c W) (hp:p≤s.size) (hs:s.size≤1000000000000):
  Calls Tryz.prog 98 #[.pointer (some ⟨R,0,none⟩),.string t] W fun en W'=>(l.isPrefixOf (rest s p)=true∧p+k≤s.size∧en= .returned (.bool true)∧Rd W R s (p+k) c W')∨(l.isPrefixOf (rest s p)=false∧en= .returned (.bool false)∧Below W.heap.size W W'):=by
 have:=take_any t h hp hs;rw [hl,hk] at this;exact this
theorem next_l {R p c:Nat}{s:ByteArray}{W:World}(l:List UInt8) (t:ByteArray) (hl:t.data.toList=l) (h:Rd W R s p c W) (hp:p≤s.size):
  Calls Tryz.prog 100 #[.pointer (some ⟨R,0,none⟩),.string t] W fun en W'=>en= .returned (.bool (l.isPrefixOf (rest s p)))∧Below W.heap.size W W':=by
 have:=next_any t h hp;rw [hl] at this;exact this
theorem comment_any {R p c B:Nat}{s:ByteArray}{W:World}(f:Nat) (hf:s.size-p<f) (h:Rd W R s p c W) (hp:p≤s.size) (hs:s.size≤1000000000000) (hG:Ground B W) (hB:B≤R):
  Calls Tryz.prog 184 #[.pointer (some ⟨R,0,none⟩)] W (Ends W R s c (X.comment f (rest s p)) (fun _=> .tuple #[])):=by
 obtain ⟨RES,hRES⟩:∃x,X.comment f (rest s p)=x:=⟨_,rfl⟩;rw [hRES];have HI0:Hid (s.size-p<f∧p≤s.size∧X.comment f (rest s p)=RES):=⟨hf,hp,hRES⟩;have HR:=hid h;have HG:=hid hG;clear h hf hp hRES hG;go_enter Tryz.func184,Tryz.ntmps184;go_wp2_with fail;go_loopw [] (fun wr=> ∃(q k:Nat),Hid (s.size-q<k∧q≤s.size∧X.comment k (rest s q)=RES)∧Hid (Rd W R s q c wr)) (fun wr=>s.size-posOf wr R)
 case atStart=>exact ⟨p,f,HI0,HR⟩
 case round=>
  obtain ⟨q,k,HI,HQ⟩:=hrel;clear HI0 HR;obtain ⟨h1,h2,h3⟩:=HI.out;obtain ⟨k,rfl⟩:∃k',k=k'+1:=⟨k-1,by omega⟩;have cT:=take_any ⟨#[45,45,62]⟩ HQ.out.own h2 hs;have HPOS:=hid HQ.out.pos;clear h1 h3;go_wp2_with fail;refine cT.mono ?_;rintro e w1 (⟨g1,g2,rfl,g3⟩|⟨g1,rfl,g3⟩)
  · have HE:Hid (RES= .ok ((),rest s (q+3))∧s.size-(rest s (q+3)).length=q+3):=by
      refine ⟨?_,by have:q+3≤s.size:=g2;rw [rest_len];omega⟩;rw [←HI.out.2.2,X.comment,if_pos (show [45,45,62].isPrefixOf (rest s q)=true from g1),rest_drop]
    have H1:=hid (HQ.out.trans g3);clear g1 g2 g3 cT;go_wp2_with fail;go_end0;exact Or.inl ⟨(),_,HE.out.1,rfl,by rw [HE.out.2];exact H1.out⟩
  · have H1:=hid (HQ.out.below g3);have hn1:¬ [45,45,62].isPrefixOf (rest s q)=true:=by rw [show [45,45,62].isPrefixOf (rest s q)=false from g1];decide
    have cN:=next_any ⟨#[45,45]⟩ H1.out.own h2;rw [show (⟨#[45,45]⟩:ByteArray).data.toList.isPrefixOf (rest s q)= [45,45].isPrefixOf (rest s q) from rfl] at cN;cases hb: [45,45].isPrefixOf (rest s q)
    · rw [hb] at cN;have HE:Hid (RES=(match X.char (rest s q) with| .error e=> .error e| .ok (_,r)=>X.comment k r)):=by
        show _=_;rw [←HI.out.2.2,X.comment,if_neg hn1,hb];rfl
      have hfair:=X.char_fair (rest s q);have cC:=fun w' (h:Rd w' R s q c w') (g:Ground B w')=>char_any h h2 hs g
      have HF:=hid hfair;clear g1 g3 cT hn1 hb hfair;go_wp2_with fail;refine cN.mono ?_;rintro e w2 ⟨rfl,hbl⟩;have H2:=hid (H1.out.below hbl);clear hbl cN;go_wp2_with fail;refine (cC _ H2.out.own (HG.out.rd H2.out hB)).mono ?_;rintro e w3 (⟨x,r,hx,rfl,hr⟩|⟨n,e,hx,rfl,hr⟩)
      · have hsuf:=(HF.out.1 _ _ hx).1;have hlen:=(HF.out.1 _ _ hx).2;rw [rest_len] at hlen;have hpos:=rest_pos hsuf h2;have H3:Hid (s.size-(s.size-r.length)<k∧s.size-r.length≤s.size∧X.comment k (rest s (s.size-r.length))=RES):=by
         refine ⟨by have:=HI.out.1;omega,by omega,?_⟩;rw [HE.out,hx,←rest_suf hsuf]
        have H4:=hid (H2.out.trans hr);have H5:Hid (s.size-(s.size-r.length)<s.size-q):=by show _<_;omega
        clear hx hr hsuf hlen hpos cC HE HF;go_wp2_with fail;go_roundw
        case rel=>exact ⟨_,k,H3,H4⟩
        case measure=>rw [H4.out.pos,HPOS.out];exact H5.out
      · have HE2:Hid (RES= .error (n,e)):=by show _=_;rw [HE.out,hx]
        exact ⟨rfl,Or.inr ⟨_,_,HE2.out,rfl,H2.out.g.trans hr⟩⟩
    · rw [hb] at cN;have HE:Hid (RES= .error (X.bad (rest s q))):=by
        show _=_;rw [←HI.out.2.2,X.comment,if_neg hn1,if_pos hb]
      have cB:=fun w' (h:Rd w' R s q c w')=>bad_any h h2
      clear g1 g3 cT hn1 hb;go_wp2_with fail;refine cN.mono ?_;rintro e w2 ⟨rfl,hbl⟩;have H2:=hid (H1.out.below hbl);clear hbl cN;go_wp2_with fail;refine (cB _ H2.out.own).mono ?_;rintro e w3 ⟨rfl,hbl⟩;exact ⟨rfl,Or.inr ⟨_,_,HE.out,rfl,(H2.out.below hbl).g⟩⟩
theorem misc_any {R p c B:Nat}{s:ByteArray}{W:World}(f:Nat) (hf:s.size-p<f) (h:Rd W R s p c W) (hp:p≤s.size) (hs:s.size≤1000000000000) (hG:Ground B W) (hB:B≤R):
  Calls Tryz.prog 99 #[.pointer (some ⟨R,0,none⟩)] W (Ends W R s c (X.misc f (rest s p)) (fun _=> .tuple #[])):=by
 obtain ⟨RES,hRES⟩:∃x,X.misc f (rest s p)=x:=⟨_,rfl⟩;rw [hRES];have cB0:=blanks_any h hp hs;have hsk:=X.Suf.skip (rest s p);have hpos:=rest_pos hsk hp;obtain ⟨q,hq⟩:∃q,s.size-(X.skip (rest s p)).length=q:=⟨_,rfl⟩;have hqe:X.skip (rest s p)=rest s q:=by rw [←hq];exact rest_suf hsk
 rw [hq] at cB0 hpos;have hidem:X.skip (rest s q)=rest s q:=by rw [←hqe];exact X.skip_skip _
 obtain ⟨f,rfl⟩:∃f',f=f'+1:=⟨f-1,by omega⟩;have HI0:Hid (s.size-q<f+1∧q≤s.size∧X.skip (rest s q)=rest s q∧X.misc (f+1) (rest s q)=RES):=by
  refine ⟨by omega,hpos.2,hidem,?_⟩;rw [←hRES,X.misc,X.misc,hidem,hqe]
 have HR:=hid h;have HG:=hid hG;clear h hf hp hRES hG hsk hpos hqe hidem hq;go_enter Tryz.func99,Tryz.ntmps99;go_wp2_with fail;refine cB0.mono ?_;rintro e w0 ⟨rfl,hr0⟩;have HR0:=hid (HR.out.trans hr0);clear hr0 cB0;go_wp2_with fail;go_loopw [] (fun wr=> ∃(q k:Nat),Hid (s.size-q<k∧q≤s.size∧X.skip (rest s q)=rest s q∧X.misc k (rest s q)=RES)∧Hid (Rd W R s q c wr)) (fun wr=>s.size-posOf wr R)
 case atStart=>exact ⟨q,f+1,HI0,HR0⟩
 case round=>
  obtain ⟨q,k,HI,HQ⟩:=hrel;clear HI0 HR HR0;obtain ⟨h1,h2,h0,h3⟩:=HI.out;obtain ⟨k,rfl⟩:∃k',k=k'+1:=⟨k-1,by omega⟩;have cT:=take_l (k:=4) [60,33,45,45] ⟨#[60,33,45,45]⟩ rfl rfl HQ.out.own h2 hs;have HPOS:=hid HQ.out.pos;clear h1 h0 h3;go_wp2_with fail;refine cT.mono ?_;rintro e w1 (⟨g1,g2,rfl,g3⟩|⟨g1,rfl,g3⟩)
  · have HE:Hid (RES=(match X.comment ((rest s q).length+1) (rest s (q+4)) with| .error e=> .error e| .ok (_,r)=>X.misc k r)):=by
      show _=_;rw [←HI.out.2.2.2,X.misc,HI.out.2.2.1,if_pos g1,rest_drop];try rfl
    have H1:=hid (HQ.out.trans g3);have cC:=comment_any ((rest s q).length+1) (by rw [rest_len];omega) H1.out.own g2 hs (HG.out.rd H1.out hB) hB;have HF:=hid (X.comment_fair ((rest s q).length+1) (rest s (q+4)));have cBl:=fun w' p' (h:Rd w' R s p' c w') (hp:p'≤s.size)=>blanks_any h hp hs
    clear g1 g3 cT;go_wp2_with fail;refine cC.mono ?_;rintro e w2 (⟨x,r,hx,rfl,hr⟩|⟨n,e,hx,rfl,hr⟩)
    · have hsuf:=(HF.out.1 _ _ hx).1;have hlen:=hsuf.len;rw [rest_len] at hlen;have hpos:=rest_pos hsuf g2;have hre:=rest_suf hsuf;obtain ⟨u,hu⟩:∃u,s.size-r.length=u:=⟨_,rfl⟩;rw [hu] at hr hpos hre;have H2:=hid (H1.out.trans hr);have hsk:=X.Suf.skip (rest s u);have hpos2:=rest_pos hsk hpos.2;have hre2:=rest_suf hsk;have cB1:=cBl _ _ H2.out.own hpos.2;obtain ⟨v,hv⟩:∃v,s.size-(X.skip (rest s u)).length=v:=⟨_,rfl⟩;rw [hv] at hpos2 hre2 cB1;have hidem:X.skip (rest s v)=rest s v:=by rw [←hre2];exact X.skip_skip _
      have H3:Hid (s.size-v<k∧v≤s.size∧X.skip (rest s v)=rest s v∧X.misc k (rest s v)=RES):=by
       refine ⟨by have:=HI.out.1;omega,hpos2.2,hidem,?_⟩;rw [HE.out,hx];show _=X.misc k r;rw [hre];obtain ⟨k0,hk0⟩:∃k0,k=k0+1:=⟨k-1,by have:=HI.out.1;omega⟩;rw [hk0,X.misc,X.misc,hidem,hre2]
      have H5:Hid (s.size-v<s.size-q):=by show _<_;omega
      clear hx hr hsuf hlen hpos hre hsk hpos2 hre2 hidem hu hv cBl HE HF cC;go_wp2_with fail;refine cB1.mono ?_;rintro e w3 ⟨rfl,hr3⟩;have H4:=hid (H2.out.trans hr3);clear hr3 cB1;go_wp2_with fail;go_roundw
      case rel=>exact ⟨_,k,H3,H4⟩
      case measure=>rw [H4.out.pos,HPOS.out];exact H5.out
    · have HE2:Hid (RES= .error (n,e)):=by show _=_;rw [HE.out,hx]
      exact ⟨rfl,Or.inr ⟨_,_,HE2.out,rfl,H1.out.g.trans hr⟩⟩
  · have H1:=hid (HQ.out.below g3);have HE:Hid (RES= .ok ((),rest s q)∧s.size-(rest s q).length=q):=by
      refine ⟨?_,by rw [rest_len];omega⟩;rw [←HI.out.2.2.2,X.misc,HI.out.2.2.1,if_neg (by rw [g1];decide)]
    clear g1 g3 cT;go_wp2_with fail;go_end0;exact Or.inl ⟨(),_,HE.out.1,rfl,by rw [HE.out.2];exact H1.out⟩
namespace X
end X
theorem row2 {w:World}{b:Nat}{x y:Value}{t:TypeId}(h:w.heap[b]? =some (.cells #[x,y] t (0,0))):w.cell? ⟨b,0,none⟩=some x∧w.cell? ⟨b,1,none⟩=some y:=⟨rowCell h 0,rowCell h 1⟩
open Go.RowKit Go.Maps
namespace X
end X
section
variable {s:ByteArray}{B:Nat}{l:List X.Raw}{v:Value}{w w':World}
end
namespace X
end X
def attrC (x:X.A):List Value:= [.string x.sp,.string x.lo,.string x.va]
def attrsC (l:List X.A):List Value:=l.flatMap attrC
section
variable {B:Nat}{l:List X.A}{v:Value}{w w':World}
end
theorem sizeNode:(Tryz.prog.info? 140).map (·.size)=some 7:=by kernel_rfl
theorem row7 {w:World}{b:Nat}{x0 x1 x2 x3 x4 x5 x6:Value}{t:TypeId}(h:w.heap[b]? =some (.cells #[x0,x1,x2,x3,x4,x5,x6] t (0,0))):
  w.cell? ⟨b,0,none⟩=some x0∧w.cell? ⟨b,1,none⟩=some x1∧w.cell? ⟨b,2,none⟩=some x2∧w.cell? ⟨b,3,none⟩=some x3∧w.cell? ⟨b,4,none⟩=some x4∧w.cell? ⟨b,5,none⟩=some x5∧w.cell? ⟨b,6,none⟩=some x6:=
 ⟨rowCell h 0,rowCell h 1,rowCell h 2,rowCell h 3,rowCell h 4,rowCell h 5,rowCell h 6⟩
def nodeRow (sp lo:ByteArray) (av kv:Value) (tx:ByteArray) (ln cl:Int):Obj:= .cells #[.string sp,.string lo,av,kv,.string tx,.int .i64 ln,.int .i64 cl] 140 (0,0)
section
variable {W wr w':World}{H:Nat}{nm:List UInt8×List UInt8}
end
section
variable {W wr w':World}{H Z N:Nat}{nm:List UInt8×List UInt8}{sp lo:ByteArray}{k:X.K}{al:List X.A}{av:Value}
end
abbrev st7 (w:World) (g:Nat) (u0 u1 u2 u3 u4 u5 u6:Value):World:=((((((w.setCell ⟨g,0,none⟩ u0).setCell ⟨g,1,none⟩ u1).setCell ⟨g,2,none⟩ u2).setCell ⟨g,3,none⟩ u3).setCell ⟨g,4,none⟩ u4).setCell ⟨g,5,none⟩ u5).setCell ⟨g,6,none⟩ u6
theorem st7_row {w:World}{g:Nat}{z0 z1 z2 z3 z4 z5 z6:Value}{t:TypeId}(h:w.heap[g]? =some (.cells #[z0,z1,z2,z3,z4,z5,z6] t (0,0))) (u0 u1 u2 u3 u4 u5 u6:Value):(st7 w g u0 u1 u2 u3 u4 u5 u6).heap[g]? =some (.cells #[u0,u1,u2,u3,u4,u5,u6] t (0,0)):=by
 have h':=row_set (row_set (row_set (row_set (row_set (row_set (row_set h 0 u0) 1 u1) 2 u2) 3 u3) 4 u4) 5 u5) 6 u6;simpa only [List.setIfInBounds_toArray,List.set_cons_zero,List.set_cons_succ] using h'
theorem st7_grown (w:World) (g:Nat) (u0 u1 u2 u3 u4 u5 u6:Value):w.grownBy (st7 w g u0 u1 u2 u3 u4 u5 u6) (some g):=
 ((((((grownBy_set w g 0 u0).trans (grownBy_set _ g 1 u1)).trans (grownBy_set _ g 2 u2)).trans (grownBy_set _ g 3 u3)).trans (grownBy_set _ g 4 u4)).trans (grownBy_set _ g 5 u5)).trans (grownBy_set _ g 6 u6)
theorem last_col (s : ByteArray) : ∀ k : Nat, k ≤ s.size → (k : Int) - Lib.lastIdx s 10 k = (((s.data.toList.take k).reverse.takeWhile (fun c => c != 10)).length : Int) + 1
  | 0, _ => by simp [Lib.lastIdx]
  | k + 1, h => by
    have ih := last_col s k (by omega)
    have hk : k < s.data.toList.length := by rw [← Lib.size_eq]; omega
    have hk2 : k < s.data.size := by simpa using hk
    have ht : s.data.toList.take (k + 1) = s.data.toList.take k ++ [s.data.toList[k]] := by rw [List.take_add_one, List.getElem?_eq_getElem hk]; rfl
    have hx : s.data[k]! = s.data.toList[k] := by rw [getElem!_pos s.data k hk2]; simp
    rw [ht, List.reverse_append, List.reverse_cons, List.reverse_nil, List.nil_append, List.singleton_append, List.takeWhile_cons]
    by_cases hc : s.data.toList[k] = 10
    · rw [Lib.lastIdx_hit s 10 k (by rw [hx, hc]; rfl), if_neg (by simp [hc])]
      simp; omega
    · have hne : ((s.data[k]!).toNat : Int) ≠ 10 := by
        rw [hx]
        intro e
        exact hc (UInt8.toNat.inj (by have : s.data.toList[k].toNat = 10 := by omega
                                      exact this))
      rw [Lib.lastIdx_miss s 10 k hne, if_pos (by simpa using hc)]
      rw [List.length_cons]
      omega
def posV (s:ByteArray) (p:Nat):Value:= .agg #[.int .i64 (X.lineOf s.data.toList p),.int .i64 (X.colOf s.data.toList p)]
theorem infoPos:(Tryz.prog.info? 78).map (·.size)=some 2:=by kernel_rfl
theorem place_any (s:ByteArray) (p:Nat) (hp:p≤s.size) (hs:s.size≤1000000000000) (W:World):
  Calls Tryz.prog 97 #[.string s,.int .i64 p] W fun en W'=>en= .returned (posV s p)∧Below W.heap.size W W':=by
 obtain ⟨t,ht⟩:∃t,s.extract 0 p=t:=⟨_,rfl⟩;have htl:t.data.toList=s.data.toList.take p:=by rw [←ht,cut_list];simp
 have htz:t.size=p:=by rw [Lib.size_eq,htl,List.length_take,←Lib.size_eq];omega
 have cC:=fun U=>Tryz.strings_Count_one t 10 U
 have cL:=fun U=>Tryz.strings_LastIndex_one t ⟨#[10]⟩ rfl (by omega) U
 have hcol:=last_col t t.size (Nat.le_refl _);have hln:X.lineOf s.data.toList p=Lib.countByte t.data.toList 10+1:=by rw [htl];rfl
 have hcl:(X.colOf s.data.toList p:Int)=(p:Int)-Lib.lastIndexByte t 10:=by
  have:Lib.lastIndexByte t 10=Lib.lastIdx t 10 t.size:=rfl;rw [this];rw [htz] at hcol ⊢;rw [hcol,htl,List.take_take,Nat.min_self];unfold X.colOf;omega
 have hcnt:Lib.countByte t.data.toList 10≤p:=by
  unfold Lib.countByte;have:=List.count_le_length (a:=(10:UInt8)) (l:=t.data.toList);rw [←Lib.size_eq,htz] at this;exact this
 have hcb:X.colOf s.data.toList p≤p+1:=by
  unfold X.colOf;have:=(List.takeWhile_prefix (fun c:UInt8=>c !=10) (l:=(s.data.toList.take p).reverse)).length_le;rw [List.length_reverse,List.length_take] at this;omega
 obtain ⟨ln,hlne⟩:∃ln,X.lineOf s.data.toList p=ln:=⟨_,rfl⟩;obtain ⟨cl,hcle⟩:∃cl,X.colOf s.data.toList p=cl:=⟨_,rfl⟩;obtain ⟨cnt,hcnte⟩:∃cnt,Lib.countByte t.data.toList 10=cnt:=⟨_,rfl⟩;obtain ⟨li,hlie⟩:∃li,Lib.lastIndexByte t 10=li:=⟨_,rfl⟩;unfold posV;rw [hlne,hcle];rw [hcnte] at cC hln hcnt;rw [hcle,hlie] at hcl;rw [hcle] at hcb;rw [hlne] at hln;replace cL:∀U,Calls Tryz.prog 182 #[.string t,.string ⟨#[10]⟩] U fun e w'=>e= .returned (.int .i64 li)∧w'=U:=fun U=>by
  have:=cL U;rw [show (((⟨#[10]⟩:ByteArray)[0]'(by decide)).toNat:Int)=10 from rfl,hlie] at this;exact this
 have e1:IntKind.i64.wrap (1+(cnt:Int))=(ln:Int):=by rw [IntKind.wrap_i64]<;>omega
 have e2:IntKind.i64.wrap ((p:Int)-li)=(cl:Int):=by rw [IntKind.wrap_i64]<;>omega
 have P0:(0:Int)≤(p:Int):=by omega
 have P1:(p:Int)≤(s.size:Int):=by omega
 clear htl htz hcol hln hcl hcnt hcb hlne hcle hcnte hlie;obtain ⟨w1,hw1⟩:∃w1,W.alloc (.cells #[.int .i64 0,.int .i64 0] 78)=w1:=⟨_,rfl⟩;have hX1:w1.heap[W.heap.size]? =some (.cells #[.int .i64 0,.int .i64 0] 78 (0,0)):=by rw [←hw1];exact heap_alloc_new W _
 have HB:Hid (Below W.heap.size W w1):=by show Below _ _ _;rw [←hw1];exact (Below.refl _ W).alloc (Nat.le_refl _) _
 obtain ⟨x0,x1⟩:=row2 hX1;have f0:=rowFree hX1 0;have f1:=rowFree hX1 1;have HX1:=hid hX1;have HW1:=hid hw1;clear hX1 hw1;go_enter Tryz.func97,Tryz.ntmps97;go_upto_region 1 with fail;rw [HW1.out];go_wp2_with fail;refine (cC _).mono ?_;rintro e w2 ⟨rfl,hw⟩;rw [hw];clear hw w2;go_wp2_with fail;refine (cL _).mono ?_;rintro e w2 ⟨rfl,hw⟩;rw [hw];clear hw w2;go_wp2_with fail;exact bodyPost_ret (v:= .agg #[.int .i64 ln,.int .i64 cl]) (results_cell_row rfl _ _ W.heap.size 78 _ (0,0) _ rfl (row_set (row_set HX1.out 0 _) 1 _) Tryz.underlying78 rfl infoPos) rfl ⟨rfl,(HB.out.setCell (p:=⟨W.heap.size,0,none⟩) (Nat.le_refl _) _).setCell (p:=⟨W.heap.size,1,none⟩) (Nat.le_refl _) _⟩
namespace X
def AIn (w:World) (P:Nat→Prop) (al:List A) (v:Value):Prop:=
 (al= []∧∃a c,v= .slice a 0 c∧(a=none→c=0))∨(0<al.length∧∃b o c,v= .slice (some ⟨b,o,none⟩) al.length c∧P b∧al.length≤c∧∀j u,(attrsC al)[j]? =some u→w.cell? ⟨b,o+j,none⟩=some u)
def N.At (w:World) (P:Nat→Prop):N→Nat→Nat→Prop
 | .nil,_,_=>True
 | .cons sp lo al ks tx ln cl r,g,o=>P g∧w.cell? ⟨g,o,none⟩=some (.string sp)∧w.cell? ⟨g,o+1,none⟩=some (.string lo)∧(∃v,w.cell? ⟨g,o+2,none⟩=some v∧AIn w P al v)∧
    (∃v,w.cell? ⟨g,o+3,none⟩=some v∧((ks= .nil∧∃a c,v= .slice a 0 c∧(a=none→c=0))∨∃g' o' c,v= .slice (some ⟨g',o',none⟩) ks.length c∧ks.length≤c∧0<ks.length∧ks.At w P g' o'))∧
    w.cell? ⟨g,o+4,none⟩=some (.string tx)∧w.cell? ⟨g,o+5,none⟩=some (.int .i64 ln)∧w.cell? ⟨g,o+6,none⟩=some (.int .i64 cl)∧r.At w P g (o+7)
def N.In (w:World) (P:Nat→Prop) (t:N) (v:Value):Prop:=
 (t= .nil∧∃a c,v= .slice a 0 c∧(a=none→c=0))∨∃g o c,v= .slice (some ⟨g,o,none⟩) t.length c∧t.length≤c∧0<t.length∧t.At w P g o
def E.Has (w:World) (P:Nat→Prop) (x:E) (cs:List Value):Prop:= ∃av kv,cs= [.string x.sp,.string x.lo,av,kv,.string x.tx,.int .i64 x.ln,.int .i64 x.cl]∧AIn w P (E.ats x) av∧x.ks.In w P kv
end X
def OwnN (w:World) (B:Nat) (g0:Option Nat) (b:Nat):Prop:=B≤b∧b<w.heap.size∧g0≠some b∧∃cs T,w.heap[b]? =some (.cells cs T (0,0))∧T≠5
section
variable {W wr w':World}{R H M N q c:Nat}{s:ByteArray}{tag:List UInt8×List UInt8}{known:X.K}{tx:List UInt8}{ks:X.N}{v:Value}
end
theorem catch_tmps (H:Nat):(#[.pointer (some ⟨H,0,none⟩),.pointer (some ⟨H+1,0,none⟩),.pointer (some ⟨H+2,0,none⟩),.pointer (some ⟨H+3,0,none⟩)]:Array Value)++Array.replicate (Tryz.f96.ntmps-(#[.pointer (some ⟨H,0,none⟩),.pointer (some ⟨H+1,0,none⟩),.pointer (some ⟨H+2,0,none⟩),.pointer (some ⟨H+3,0,none⟩)]:Array Value).size) undef= #[.pointer (some ⟨H,0,none⟩),.pointer (some ⟨H+1,0,none⟩),.pointer (some ⟨H+2,0,none⟩),.pointer (some ⟨H+3,0,none⟩),undef,undef,undef,undef,undef,undef,undef,undef,undef,undef,undef,undef,undef,undef,undef,undef]:=by kernel_rfl
theorem assert_fail (v:Value) (w:World):(Instr.typeAssert (.iface 188 v) 20 188 true).run Tryz.prog w= .ok (.tuple #[v,.bool true]) w:=by
 simp [Instr.typeAssert,run_underlying Tryz.underlying188,go_sem,Result.andThen]
theorem catch_fail (H a:Nat) (er:Int) (s:ByteArray) (x0 x1 x2 x3 x4 x5 x6 p0 p1 e0:Value) (W:World) (hb:W.heap[H]? =some (.cells #[.string s] 9 (0,0))) (hn:W.heap[H+1]? =some (.cells #[x0,x1,x2,x3,x4,x5,x6] 140 (0,0))) (hp:W.heap[H+2]? =some (.cells #[p0,p1] 78 (0,0))) (he:W.heap[H+3]? =some (.cells #[e0] 27 (0,0))) (ha:a≤s.size) (hs:s.size≤1000000000000):
  CallsD Tryz.prog 96 #[.pointer (some ⟨H,0,none⟩),.pointer (some ⟨H+1,0,none⟩),.pointer (some ⟨H+2,0,none⟩),.pointer (some ⟨H+3,0,none⟩)] (.panicking (chain er (a:Int))) W fun e u' w'=>e= .returned (.tuple #[])∧u'= .panicking [{ v:= .iface 188 (.agg #[.int .i64 er,.int .i64 a]),recovered:=true }]∧
   w'.heap[H+1]? =some (nodeRow ⟨#[]⟩ ⟨#[]⟩ (.slice none 0 0) (.slice none 0 0) ⟨#[]⟩ 0 0)∧w'.heap[H+2]? =some (.cells #[.int .i64 (X.lineOf s.data.toList a),.int .i64 (X.colOf s.data.toList a)] 78 (0,0))∧w'.heap[H+3]? =some (.cells #[.int .i64 er] 27 (0,0))∧Below H W w':=by
 refine callsD_of_wpS Tryz.func96 rfl fun c₀ cs hu=> ?_
 rw [catch_tmps];apply wpS_seq;generalize hK:Exit.thenS _ _=K;apply wpS_region;unfold chain at hu;simp [wpOpsS,go_sem,recoverD,hu];rw [←hK];simp only [Exit.thenS];refine wpS_of_wp ?_;clear hK K;have hTA:=assert_fail (.agg #[.int .i64 er,.int .i64 a]);obtain ⟨F,hF⟩:∃F,W.heap.size=F:=⟨_,rfl⟩;obtain ⟨w1,hw1⟩:∃w1,W.alloc (.cells #[.int .i64 er,.int .i64 a] 188)=w1:=⟨_,rfl⟩;have HF1:Hid (w1.heap[F]? =some (.cells #[.int .i64 er,.int .i64 a] 188 (0,0))):=by show _=_;rw [←hw1,←hF];exact heap_alloc_new W _
 have hb1:Below W.heap.size W w1:=by rw [←hw1];exact (Below.refl _ W).alloc (Nat.le_refl _) _
 have HS1:Hid (w1.heap[H]? =some (.cells #[.string s] 9 (0,0))):=(hb1.block H (Go.lt_of_block hb)).trans hb;have HN1:Hid (w1.heap[H+1]? =some (.cells #[x0,x1,x2,x3,x4,x5,x6] 140 (0,0))):=(hb1.block (H+1) (Go.lt_of_block hn)).trans hn;have HP1:Hid (w1.heap[H+2]? =some (.cells #[p0,p1] 78 (0,0))):=(hb1.block (H+2) (Go.lt_of_block hp)).trans hp;have HE1:Hid (w1.heap[H+3]? =some (.cells #[e0] 27 (0,0))):=(hb1.block (H+3) (Go.lt_of_block he)).trans he;have HHF:Hid (H+3<F):=by have:=Go.lt_of_block he;show _<_;omega
 have HB1:Hid (Below H W w1):=hb1.mono (by have:=Go.lt_of_block he;omega);have HW1:=hid hw1;have HFE:=hid hF;have HA:=hid ha;clear hw1 hF hb1 hb hn hp he ha;go_upto_region 7 with fail;rw [HW1.out,HFE.out];clear HW1 HFE;refine wp_region_till (S:=(fun w:World=>w.heap[H]? =some (.cells #[.string s] 9 (0,0))∧w.heap[F]? =some (.cells #[.int .i64 er,.int .i64 a] 188 (0,0)))) 9 (by kernel_rfl) ?_;have HS:=hid (show ((fun w:World=>w.heap[H]? =some (.cells #[.string s] 9 (0,0))∧w.heap[F]? =some (.cells #[.int .i64 er,.int .i64 a] 188 (0,0)))) _ from ⟨HS1.out,HF1.out⟩);refine tillA 0 (fun _=>HS.out) ?_;refine tillA 2 (fun _=>HS.out) ?_;refine tillA 5 (fun _=>HS.out) ?_;refine tillL 1 [1,9] (v:= ?v4) HS.out ?hy4 ?_
 case hy4=>
  intro w hSw;have hSx:=hSw;obtain ⟨s0,s1⟩:=hSx;have b0:w.cell? ⟨H,0,none⟩=some (.string s):=rowCell s0 0;have b1:w.cell? ⟨F,0,none⟩=some (.int .i64 er):=rowCell s1 0;have b2:w.cell? ⟨F,1,none⟩=some (.int .i64 a):=rowCell s1 1;clear s0 s1;clear hSw;go_simp;try with_reducible rfl
 refine tillL 3 [3,9] (v:= ?v5) HS.out ?hy5 ?_
 case hy5=>
  intro w hSw;have hSx:=hSw;obtain ⟨s0,s1⟩:=hSx;have b0:w.cell? ⟨H,0,none⟩=some (.string s):=rowCell s0 0;have b1:w.cell? ⟨F,0,none⟩=some (.int .i64 er):=rowCell s1 0;have b2:w.cell? ⟨F,1,none⟩=some (.int .i64 a):=rowCell s1 1;clear s0 s1;clear hSw;go_simp;try with_reducible rfl
 refine tillL 6 [6,9] (v:= ?v6) HS.out ?hy6 ?_
 case hy6=>
  intro w hSw;have hSx:=hSw;obtain ⟨s0,s1⟩:=hSx;have b0:w.cell? ⟨H,0,none⟩=some (.string s):=rowCell s0 0;have b1:w.cell? ⟨F,0,none⟩=some (.int .i64 er):=rowCell s1 0;have b2:w.cell? ⟨F,1,none⟩=some (.int .i64 a):=rowCell s1 1;clear s0 s1;clear hSw;go_simp;try with_reducible rfl
 refine tillD1 4 (fun K hK=> ?step7)
 case step7=>
  go_simp;refine (place_any s a HA.out hs _).mono ?_;rintro e w2 ⟨rfl,hb2⟩;unfold posV;have HS2:Hid (w2.heap[H]? =some (.cells #[.string s] 9 (0,0))∧w2.heap[F]? =some (.cells #[.int .i64 er,.int .i64 a] 188 (0,0))):=⟨(hb2.block H (Go.lt_of_block HS1.out)).trans HS1.out,(hb2.block F (Go.lt_of_block HF1.out)).trans HF1.out⟩;have HN2:Hid (w2.heap[H+1]? =some (.cells #[x0,x1,x2,x3,x4,x5,x6] 140 (0,0))):=(hb2.block (H+1) (Go.lt_of_block HN1.out)).trans HN1.out;have HP2:Hid (w2.heap[H+2]? =some (.cells #[p0,p1] 78 (0,0))):=(hb2.block (H+2) (Go.lt_of_block HP1.out)).trans HP1.out;have HE2:Hid (w2.heap[H+3]? =some (.cells #[e0] 27 (0,0))):=(hb2.block (H+3) (Go.lt_of_block HE1.out)).trans HE1.out;have HB2:Hid (Below H W w2):=HB1.out.drew.trans (hb2.mono (by have:=Go.lt_of_block HE1.out;show H≤w1.heap.size;omega));clear hb2 HN1 HP1 HE1 HF1 HS1 HB1;try dsimp only
  refine hK.out _ _ (fun _=>HS2.out) (fun hHeld=> ?_);have HS7:=hid (hHeld (by kernel_rfl));clear hHeld hK K;refine tillD1 7 (fun K hK=> ?step8)
  case step8=>
   obtain ⟨y0,y1,y2,y3,y4,y5,y6⟩:=row7 HN2.out;have f0:=rowFree HN2.out 0;have f1:=rowFree HN2.out 1;have f2:=rowFree HN2.out 2;have f3:=rowFree HN2.out 3;have f4:=rowFree HN2.out 4;have f5:=rowFree HN2.out 5;have f6:=rowFree HN2.out 6;go_simp;obtain ⟨w3,hw3⟩:∃w3,(((((((w2.setCell ⟨H+1,0,none⟩ (.string ⟨#[]⟩)).setCell ⟨H+1,1,none⟩ (.string ⟨#[]⟩)).setCell ⟨H+1,2,none⟩ (.slice none 0 0)).setCell ⟨H+1,3,none⟩ (.slice none 0 0)).setCell ⟨H+1,4,none⟩ (.string ⟨#[]⟩)).setCell ⟨H+1,5,none⟩ (.int .i64 0)).setCell ⟨H+1,6,none⟩ (.int .i64 0))=w3:=⟨_,rfl⟩;have g3:w2.grownBy w3 (some (H+1)):=by rw [←hw3];exact st7_grown w2 (H+1) (.string ⟨#[]⟩) (.string ⟨#[]⟩) (.slice none 0 0) (.slice none 0 0) (.string ⟨#[]⟩) (.int .i64 0) (.int .i64 0)
   have hn3:w3.heap[H+1]? =some (nodeRow ⟨#[]⟩ ⟨#[]⟩ (.slice none 0 0) (.slice none 0 0) ⟨#[]⟩ 0 0):=by rw [←hw3];exact st7_row HN2.out (.string ⟨#[]⟩) (.string ⟨#[]⟩) (.slice none 0 0) (.slice none 0 0) (.string ⟨#[]⟩) (.int .i64 0) (.int .i64 0)
   rw [hw3];have HS3:Hid (w3.heap[H]? =some (.cells #[.string s] 9 (0,0))∧w3.heap[F]? =some (.cells #[.int .i64 er,.int .i64 a] 188 (0,0))):=⟨(g3.block H (Go.lt_of_block HS2.out.1) (fun e=>by have:=Option.some.inj e;omega)).trans HS2.out.1,(g3.block F (Go.lt_of_block HS2.out.2) (fun e=>by have:=Option.some.inj e;have:=HHF.out;omega)).trans HS2.out.2⟩;have HN3:Hid (w3.heap[H+1]? =some (nodeRow ⟨#[]⟩ ⟨#[]⟩ (.slice none 0 0) (.slice none 0 0) ⟨#[]⟩ 0 0)):=hn3;have HP3:Hid (w3.heap[H+2]? =some (.cells #[p0,p1] 78 (0,0))):=(g3.block (H+2) (Go.lt_of_block HP2.out) (fun e=>by have:=Option.some.inj e;omega)).trans HP2.out;have HE3:Hid (w3.heap[H+3]? =some (.cells #[e0] 27 (0,0))):=(g3.block (H+3) (Go.lt_of_block HE2.out) (fun e=>by have:=Option.some.inj e;omega)).trans HE2.out;have HB3:Hid (Below H W w3):=HB2.out.grown g3 (by have:=HB2.out.size;have:=Go.lt_of_block HS2.out.1;omega) (fun k hk=>by have:=Option.some.inj hk;omega);clear hw3 g3 hn3 HN2 HP2 HE2 HS2 HB2 y0 y1 y2 y3 y4 y5 y6 f0 f1 f2 f3 f4 f5 f6;refine hK.out _ _ (fun _=>HS3.out) (fun hHeld=> ?_);have HS8:=hid (hHeld (by kernel_rfl));clear hHeld hK K;refine tillD1 8 (fun K hK=> ?step9)
   case step9=>
    obtain ⟨y0,y1⟩:=row2 HP3.out;have f0:=rowFree HP3.out 0;have f1:=rowFree HP3.out 1;go_simp;have g4:w3.grownBy ((w3.setCell ⟨H+2,0,none⟩ (.int .i64 (X.lineOf s.data.toList a))).setCell ⟨H+2,1,none⟩ (.int .i64 (X.colOf s.data.toList a))) (some (H+2)):=(grownBy_set w3 (H+2) 0 _).trans (grownBy_set _ (H+2) 1 _);have hn4:((w3.setCell ⟨H+2,0,none⟩ (.int .i64 (X.lineOf s.data.toList a))).setCell ⟨H+2,1,none⟩ (.int .i64 (X.colOf s.data.toList a))).heap[H+2]? =some (.cells #[.int .i64 (X.lineOf s.data.toList a),.int .i64 (X.colOf s.data.toList a)] 78 (0,0)):=row_set (row_set HP3.out 0 _) 1 _;obtain ⟨w4,hw4⟩:∃w4,(w3.setCell ⟨H+2,0,none⟩ (.int .i64 (X.lineOf s.data.toList a))).setCell ⟨H+2,1,none⟩ (.int .i64 (X.colOf s.data.toList a))=w4:=⟨_,rfl⟩;rw [hw4] at g4 hn4 ⊢;have HS4:Hid (w4.heap[H]? =some (.cells #[.string s] 9 (0,0))∧w4.heap[F]? =some (.cells #[.int .i64 er,.int .i64 a] 188 (0,0))):=⟨(g4.block H (Go.lt_of_block HS3.out.1) (fun e=>by have:=Option.some.inj e;omega)).trans HS3.out.1,(g4.block F (Go.lt_of_block HS3.out.2) (fun e=>by have:=Option.some.inj e;have:=HHF.out;omega)).trans HS3.out.2⟩;have HN4:Hid (w4.heap[H+1]? =some (nodeRow ⟨#[]⟩ ⟨#[]⟩ (.slice none 0 0) (.slice none 0 0) ⟨#[]⟩ 0 0)):=(g4.block (H+1) (Go.lt_of_block HN3.out) (fun e=>by have:=Option.some.inj e;omega)).trans HN3.out;have HP4:=hid hn4;have HE4:Hid (w4.heap[H+3]? =some (.cells #[e0] 27 (0,0))):=(g4.block (H+3) (Go.lt_of_block HE3.out) (fun e=>by have:=Option.some.inj e;omega)).trans HE3.out;have HB4:Hid (Below H W w4):=HB3.out.grown g4 (by have:=HB3.out.size;have:=Go.lt_of_block HS3.out.1;omega) (fun k hk=>by have:=Option.some.inj hk;omega);clear hw4 g4 hn4 HN3 HP3 HE3 HS3 HB3 y0 y1 f0 f1;refine hK.out _ _ (fun _=>HS4.out) (fun hHeld=> ?_);have HS9:=hid (hHeld (by kernel_rfl));clear hHeld hK K;refine tillD1 9 (fun K hK=> ?step10)
    case step10=>
     have y0:=rowCell HE4.out 0;have f0:=rowFree HE4.out 0;go_simp;refine hK.out _ _ (fun hk=>by cases (show true=false from hk)) (fun _=> ?_);clear hK K;refine wpTill_done (by kernel_rfl) ?_ _;have g5:=grownBy_set w4 (H+3) 0 (.int .i64 er);have hE5:(w4.setCell ⟨H+3,0,none⟩ (.int .i64 er)).heap[H+3]? =some (.cells #[.int .i64 er] 27 (0,0)):=row_set HE4.out 0 _;go_wp2_with fail;refine ⟨rfl,.panicking [{ v:= .iface 188 (.agg #[.int .i64 er,.int .i64 a]),recovered:=true }],?_,.tuple #[],by simp [results,Tryz.results96],rfl,rfl,(g5.block (H+1) (Go.lt_of_block HN4.out) (fun e=>by have:=Option.some.inj e;omega)).trans HN4.out,(g5.block (H+2) (Go.lt_of_block HP4.out) (fun e=>by have:=Option.some.inj e;omega)).trans HP4.out,hE5,HB4.out.grown g5 (by have:=HB4.out.size;have:=Go.lt_of_block HS4.out.1;omega) (fun k hk=>by have:=Option.some.inj hk;omega)⟩;rfl
def zero7:Array Value:=#[.string ⟨#[]⟩,.string ⟨#[]⟩,.slice none 0 0,.slice none 0 0,.string ⟨#[]⟩,.int .i64 0,.int .i64 0]
def ParseOf (W0:World) (s:ByteArray) (x:Except (Nat×Int) X.E) (en:Ending) (W:World):Prop:=
 (∃e cs,x= .ok e∧en= .returned (.tuple #[.agg cs.toArray,.agg #[.int .i64 0,.int .i64 0],.int .i64 0])∧e.Has W (OwnN W W0.heap.size none) cs∧Below W0.heap.size W0 W)∨
 (∃n er,x= .error (n,er)∧en= .returned (.tuple #[.agg zero7,posV s (s.size-n),.int .i64 er])∧Below W0.heap.size W0 W)
structure PB (W:World) (H:Nat) (s:ByteArray) (w:World):Prop where
 h:W.heap.size=H
 b:Below H W w
 s:w.heap[H]? =some (.cells #[.string s] 9 (0,0))
 n:∃x0 x1 x2 x3 x4 x5 x6,w.heap[H+1]? =some (.cells #[x0,x1,x2,x3,x4,x5,x6] 140 (0,0))
 p:∃p0 p1,w.heap[H+2]? =some (.cells #[p0,p1] 78 (0,0))
 e:∃e0,w.heap[H+3]? =some (.cells #[e0] 27 (0,0))
section
variable {W w w':World}{H:Nat}{s:ByteArray}
theorem PB.lt (h:PB W H s w):H+3<w.heap.size:=by obtain ⟨e0,he⟩:=h.e;exact Go.lt_of_block he
theorem PB.grown (h:PB W H s w) {Y:Nat}(g:w.grownBy w' (some Y)) (hY:H+4≤Y):PB W H s w':=by
 obtain ⟨x0,x1,x2,x3,x4,x5,x6,hn⟩:=h.n;obtain ⟨p0,p1,hp⟩:=h.p;obtain ⟨e0,he⟩:=h.e;have hlt:=h.lt;exact ⟨h.h,h.b.grown g (by omega) (fun k hk=>by have:=Option.some.inj hk;omega),(g.block H (by omega) (fun e=>by have:=Option.some.inj e;omega)).trans h.s,⟨_,_,_,_,_,_,_,(g.block (H+1) (by omega) (fun e=>by have:=Option.some.inj e;omega)).trans hn⟩,⟨_,_,(g.block (H+2) (by omega) (fun e=>by have:=Option.some.inj e;omega)).trans hp⟩,⟨_,(g.block (H+3) (by omega) (fun e=>by have:=Option.some.inj e;omega)).trans he⟩⟩
theorem PB.below (h:PB W H s w) (hb:Below w.heap.size w w'):PB W H s w':=by
 obtain ⟨x0,x1,x2,x3,x4,x5,x6,hn⟩:=h.n;obtain ⟨p0,p1,hp⟩:=h.p;obtain ⟨e0,he⟩:=h.e;have hlt:=h.lt;exact ⟨h.h,h.b.trans (hb.mono (by omega)),(hb.block H (by omega)).trans h.s,⟨_,_,_,_,_,_,_,(hb.block (H+1) (by omega)).trans hn⟩,⟨_,_,(hb.block (H+2) (by omega)).trans hp⟩,⟨_,(hb.block (H+3) (by omega)).trans he⟩⟩
end
theorem run_loadErrno (w:World) (g:Nat) (v:Value) (h:w.heap[g]? =some (.cells #[v] 27 (0,0))):(loadVar 27 ⟨g,0,none⟩).run Tryz.prog w= .ok v w:=by
 have c:=rowCell h 0;simp only [List.getElem?_toArray,List.getElem?_cons_zero] at c;simp [loadVar,isAgg,run_underlying Tryz.underlying27,go_sem,Result.andThen,c]
theorem results_parse (tmps:Array Value) (w:World) (H:Nat) (c7 c2:Array Value) (e0:Value) (h2:tmps.getD 2 undef= .pointer (some ⟨H+1,0,none⟩)) (h3:tmps.getD 3 undef= .pointer (some ⟨H+2,0,none⟩)) (h4:tmps.getD 4 undef= .pointer (some ⟨H+3,0,none⟩))
  (hn:w.heap[H+1]? =some (.cells c7 140 (0,0))) (s7:c7.size=7) (hp:w.heap[H+2]? =some (.cells c2 78 (0,0))) (s2:c2.size=2) (he:w.heap[H+3]? =some (.cells #[e0] 27 (0,0))):
  (results Tryz.f54 tmps).run Tryz.prog w= .ok (.tuple #[.agg c7,.agg c2,e0]) w:=by
 have l1:=run_loadVar_row (P:=Tryz.prog) w (H+1) 140 140 c7 (0,0) _ hn Tryz.underlying140 rfl (by rw [s7];exact sizeNode);have l2:=run_loadVar_row (P:=Tryz.prog) w (H+2) 78 78 c2 (0,0) _ hp Tryz.underlying78 rfl (by rw [s2];exact infoPos);have l3:=run_loadErrno w (H+3) e0 he;have h2':tmps[2]?.getD undef= .pointer (some ⟨H+1,0,none⟩):=by simpa using h2
 have h3':tmps[3]?.getD undef= .pointer (some ⟨H+2,0,none⟩):=by simpa using h3
 have h4':tmps[4]?.getD undef= .pointer (some ⟨H+3,0,none⟩):=by simpa using h4
 simp [results,Tryz.results54,h2',h3',h4',asAddr,l1,l2,l3,Result.andThen]
def deferredP (H:Nat):Deferred:={ target:= .fn (.func 96) #[.pointer (some ⟨H,0,none⟩),.pointer (some ⟨H+1,0,none⟩),.pointer (some ⟨H+2,0,none⟩),.pointer (some ⟨H+3,0,none⟩)],args:=#[] }
theorem leave_fail {W w:World}{H n:Nat}{er:Int}{s:ByteArray}{tmps:Array Value}{RES:Except (Nat×Int) X.E}(h2:tmps.getD 2 undef= .pointer (some ⟨H+1,0,none⟩)) (h3:tmps.getD 3 undef= .pointer (some ⟨H+2,0,none⟩)) (h4:tmps.getD 4 undef= .pointer (some ⟨H+3,0,none⟩)) (hX:RES= .error (n,er)) (hs:s.size≤1000000000000) (hP:PB W H s w):
  Leaves Tryz.prog Tryz.f54 tmps (ParseOf W s RES) [deferredP H] (.panicking (chain er ((s.size-n:Nat):Int))) w:=by
 obtain ⟨x0,x1,x2,x3,x4,x5,x6,hn⟩:=hP.n;obtain ⟨p0,p1,hp⟩:=hP.p;obtain ⟨e0,he⟩:=hP.e;refine leaves_cons (f:=96) (args:=#[.pointer (some ⟨H,0,none⟩),.pointer (some ⟨H+1,0,none⟩),.pointer (some ⟨H+2,0,none⟩),.pointer (some ⟨H+3,0,none⟩)]) (by simp) (by simp [go_sem]) ?_;refine (catch_fail H (s.size-n) er s x0 x1 x2 x3 x4 x5 x6 p0 p1 e0 w hP.s hn hp he (by omega) hs).mono ?_;rintro e u' w' ⟨rfl,rfl,g1,g2,g3,g4⟩;refine ⟨_,results_parse tmps w' H _ _ _ h2 h3 h4 g1 rfl g2 rfl g3,Or.inr ⟨n,er,hX,rfl,?_⟩⟩;rw [hP.h];exact hP.b.trans g4
theorem start_at (s:ByteArray):∃p0:Nat,p0≤s.size∧X.start s.data.toList=rest s p0∧((X.head1.isPrefixOf (rest s 0)=true∧p0=21)∨(X.head1.isPrefixOf (rest s 0)=false∧X.head2.isPrefixOf (rest s 0)=true∧p0=38)∨(X.head1.isPrefixOf (rest s 0)=false∧X.head2.isPrefixOf (rest s 0)=false∧p0=0)):=by
 have hr:rest s 0=s.data.toList:=rfl;unfold X.start;rw [hr];cases h1:X.head1.isPrefixOf s.data.toList
 · cases h2:X.head2.isPrefixOf s.data.toList
   · exact ⟨0,Nat.zero_le _,rfl,Or.inr (Or.inr ⟨rfl,rfl,rfl⟩)⟩
   · have:=X.pre_len h2;rw [←Lib.size_eq] at this;exact ⟨38,this,rfl,Or.inr (Or.inl ⟨rfl,rfl,rfl⟩)⟩
 · have:=X.pre_len h1;rw [←Lib.size_eq] at this;exact ⟨21,this,rfl,Or.inl ⟨rfl,rfl⟩⟩
theorem pb_first (s:ByteArray) (W:World):PB W W.heap.size s ((((W.alloc (.cells #[.string s] 9)).alloc (.cells #[.string ⟨#[]⟩,.string ⟨#[]⟩,.slice none 0 0,.slice none 0 0,.string ⟨#[]⟩,.int .i64 0,.int .i64 0] 140)).alloc (.cells #[.int .i64 0,.int .i64 0] 78)).alloc (.cells #[.int .i64 0] 27)):=by
 obtain ⟨wa,ha⟩:∃wa,W.alloc (.cells #[.string s] 9)=wa:=⟨_,rfl⟩;have sa:wa.heap.size=W.heap.size+1:=by rw [←ha];simp
 have na:wa.heap[W.heap.size]? =some (.cells #[.string s] 9 (0,0)):=by rw [←ha];exact heap_alloc_new W _
 have ba:Below W.heap.size W wa:=by rw [←ha];exact (Below.refl _ W).alloc (Nat.le_refl _) _
 rw [ha];obtain ⟨wb,hb⟩:∃wb,wa.alloc (.cells #[.string ⟨#[]⟩,.string ⟨#[]⟩,.slice none 0 0,.slice none 0 0,.string ⟨#[]⟩,.int .i64 0,.int .i64 0] 140)=wb:=⟨_,rfl⟩;have sb:wb.heap.size=W.heap.size+2:=by rw [←hb];simp [sa]
 have nb:wb.heap[W.heap.size+1]? =some (.cells #[.string ⟨#[]⟩,.string ⟨#[]⟩,.slice none 0 0,.slice none 0 0,.string ⟨#[]⟩,.int .i64 0,.int .i64 0] 140 (0,0)):=by rw [←hb,←sa];exact heap_alloc_new wa _
 have bb:Below wa.heap.size wa wb:=by rw [←hb];exact (Below.refl _ wa).alloc (Nat.le_refl _) _
 rw [hb];obtain ⟨wc,hc⟩:∃wc,wb.alloc (.cells #[.int .i64 0,.int .i64 0] 78)=wc:=⟨_,rfl⟩;have sc:wc.heap.size=W.heap.size+3:=by rw [←hc];simp [sb]
 have nc:wc.heap[W.heap.size+2]? =some (.cells #[.int .i64 0,.int .i64 0] 78 (0,0)):=by rw [←hc,←sb];exact heap_alloc_new wb _
 have bc:Below wb.heap.size wb wc:=by rw [←hc];exact (Below.refl _ wb).alloc (Nat.le_refl _) _
 rw [hc];obtain ⟨wd,hd⟩:∃wd,wc.alloc (.cells #[.int .i64 0] 27)=wd:=⟨_,rfl⟩;have nd:wd.heap[W.heap.size+3]? =some (.cells #[.int .i64 0] 27 (0,0)):=by rw [←hd,←sc];exact heap_alloc_new wc _
 have bd:Below wc.heap.size wc wd:=by rw [←hd];exact (Below.refl _ wc).alloc (Nat.le_refl _) _
 rw [hd];exact ⟨rfl,((ba.trans (bb.mono (by omega))).trans (bc.mono (by omega))).trans (bd.mono (by omega)),(bd.block _ (by omega)).trans ((bc.block _ (by omega)).trans ((bb.block _ (by omega)).trans na)),⟨_,_,_,_,_,_,_,(bd.block _ (by omega)).trans ((bc.block _ (by omega)).trans nb)⟩,⟨_,_,(bd.block _ (by omega)).trans nc⟩,⟨_,nd⟩⟩
theorem parse_not (s:ByteArray) (hs6:s.size≤65536) (W:World) (hE:Errs W) (hT:Tabs W) (hn1:X.head1.isPrefixOf (rest s 0)=false) (hn2:X.head2.isPrefixOf (rest s 0)=false) (hno:∀u r,X.misc (s.size+1) (rest s 0)= .ok (u,r)→ [60].isPrefixOf r=false):
   Calls Tryz.prog 54 #[.string s] W (ParseOf W s (X.parse s.data.toList)):=by
 have hs:s.size≤1000000000000:=by omega
 obtain ⟨RES,hRES⟩:∃x,X.parse s.data.toList=x:=⟨_,rfl⟩;rw [hRES];obtain ⟨H,hH⟩:∃H,W.heap.size=H:=⟨_,rfl⟩;obtain ⟨w1,hw1⟩:∃w1,(((W.alloc (.cells #[.string s] 9)).alloc (.cells #[.string ⟨#[]⟩,.string ⟨#[]⟩,.slice none 0 0,.slice none 0 0,.string ⟨#[]⟩,.int .i64 0,.int .i64 0] 140)).alloc (.cells #[.int .i64 0,.int .i64 0] 78)).alloc (.cells #[.int .i64 0] 27)=w1:=⟨_,rfl⟩;have HP1:Hid (PB W H s w1):=by show PB _ _ _ _;rw [←hw1,←hH];exact pb_first s W
 have HG0:=Ground.first hE hT;rw [hH] at HG0;have HG:=hid HG0;obtain ⟨R,hR⟩:∃R,w1.heap.size=R:=⟨_,rfl⟩;have HR4:Hid (H+4≤R):=by have:=HP1.out.lt;show _≤_;omega
 have HRH:Hid (H≤R):=by have:=HR4.out;show _≤_;omega
 obtain ⟨w2,hw2⟩:∃w2,w1.alloc (.cells #[.string s,.int .i64 0,.int .i64 0] 194)=w2:=⟨_,rfl⟩;have hr2:w2.heap[R]? =some (mRow s 0 0):=by rw [←hw2,←hR];exact heap_alloc_new w1 _
 have HR2:Hid (Rd w2 R s 0 0 w2):=⟨⟨rfl,rfl,rfl,Nat.le_refl _,fun _ _ _=>rfl⟩,hr2,Go.lt_of_block hr2⟩;have HP2:Hid (PB W H s w2):=by show PB _ _ _ _;rw [←hw2];exact HP1.out.below ((Below.refl _ w1).alloc (Nat.le_refl _) _)
 have HW1:=hid hw1;have HW2:=hid hw2;have HH:=hid hH;have HRE:=hid hR;have b0:w1.cell? ⟨H,0,none⟩=some (.string s):=rowCell HP1.out.s 0;have t0:decide ((65536:Int)<(s.size:Int))=false:=decide_eq_false (by omega);have t1:decide (65536<s.size)=false:=decide_eq_false (by omega);obtain ⟨p0,hp0,hst,hcase⟩:=start_at s;have cT:=take_l (k:=21) X.head1 ⟨#[60,63,120,109,108,32,118,101,114,115,105,111,110,61,34,49,46,48,34,63,62]⟩ rfl rfl HR2.out (Nat.zero_le _) hs;clear hE hT hw1 hH HG0 hR hw2 hr2;go_enter_defers Tryz.func54,Tryz.ntmps54;go_upto_region 1 with fail;rw [HW1.out,HH.out,show H+1+1+1=H+3 from rfl,show H+1+1=H+2 from rfl];go_upto_region 5 with fail;rw [HW2.out,HRE.out];clear HW1 HW2 HH HRE b0 t0 t1;go_wp2_with fail;refine cT.mono ?_;rintro e w3 (⟨g1,g2,rfl,g3⟩|⟨g1,rfl,g3⟩)
 · rw [hn1] at g1;cases g1
 · have H2':=hid (HR2.out.below g3);have HP2':=hid (HP2.out.below g3);have cT2:=take_l (k:=38) X.head2 ⟨#[60,63,120,109,108,32,118,101,114,115,105,111,110,61,34,49,46,48,34,32,101,110,99,111,100,105,110,103,61,34,85,84,70,45,56,34,63,62]⟩ rfl rfl H2'.out.own (Nat.zero_le _) hs;clear g3 cT HR2 HP2;go_wp2_with fail;refine cT2.mono ?_;rintro e w3 (⟨k1,g2,rfl,g3⟩|⟨k1,rfl,g3⟩)
   · rw [hn2] at k1;cases k1
   · have HNO:=hid hno;obtain rfl:p0=0:=by
       rcases hcase with ⟨h,_⟩|⟨_,h,_⟩|⟨_,_,h⟩
       · rw [g1] at h;cases h
       · rw [k1] at h;cases h
       · exact h
     have H3:=hid (H2'.out.below g3);have HP3:=hid (HP2'.out.below g3);clear g1 k1 g3 cT2 hcase H2' HP2';have HE0:Hid (RES=match X.misc (s.size+1) (rest s 0) with
         | .error e=> .error e
         | .ok (_,l)=>
           if (![60].isPrefixOf l|| [60,33].isPrefixOf l|| [60,63].isPrefixOf l)=true then .error (X.bad l)
           else match X.elem s.data.toList 16 X.known0 0 l with
            | .error e=> .error e
            | .ok ((e,_),l2)=>match X.misc (s.size+1) l2 with
              | .error e=> .error e
              | .ok (_,l3)=>if l3= [] then .ok e else .error (X.bad l3)):=by
       show _=_;rw [←hRES,X.parse,hst,←Lib.size_eq];try rfl
     have cM:=misc_any (s.size+1) (by omega) H3.out.own hp0 hs (HG.out.keep HP3.out.b) HRH.out;have HFM:=hid (X.misc_fair (s.size+1) (rest s 0));clear hst;go_wp2_with fail;refine cM.mono ?_;rintro e w4 (⟨_,r,hx,rfl,hr⟩|⟨n,e,hx,rfl,hr⟩)
     rotate_left
     · have HX:Hid (RES= .error (n,e)):=by show _=_;rw [HE0.out,hx]
       exact leave_fail rfl rfl rfl HX.out hs (HP3.out.grown hr HR4.out)
     have hsuf:=(HFM.out.1 _ _ hx).1;have hpos:=rest_pos hsuf hp0;have hre:=rest_suf hsuf;have HB1:Hid ([60].isPrefixOf r=false):=HNO.out _ _ hx;obtain ⟨u,hu⟩:∃u,s.size-r.length=u:=⟨_,rfl⟩;rw [hu] at hr hpos hre;have hus:=hpos.2;rw [hre] at HB1;have HE1:Hid (RES=if (![60].isPrefixOf (rest s u)|| [60,33].isPrefixOf (rest s u)|| [60,63].isPrefixOf (rest s u))=true then .error (X.bad (rest s u))
           else match X.elem s.data.toList 16 X.known0 0 (rest s u) with
            | .error e=> .error e
            | .ok ((e,_),l2)=>match X.misc (s.size+1) l2 with
              | .error e=> .error e
              | .ok (_,l3)=>if l3= [] then .ok e else .error (X.bad l3)):=by
       show _=_;rw [HE0.out,hx,←hre]
     have H4:=hid (H3.out.trans hr);have HP4:Hid (PB W H s w4):=HP3.out.grown hr.g HR4.out;have cN:=next_l [60] ⟨#[60]⟩ rfl H4.out.own hus;clear hx hr hsuf hpos hre hu cM HFM HE0 H3 HP3 hp0;have b1: [60].isPrefixOf (rest s u)=false:=HB1.out
     · have HX:Hid (RES= .error (X.bad (rest s u))):=by show _=_;rw [HE1.out,b1];rfl
       rw [b1] at cN;clear b1 HE1;go_wp2_with fail;refine cN.mono ?_;rintro e w5 ⟨rfl,g3⟩;have H5:=hid (H4.out.below g3);have HP5:=hid (HP4.out.below g3);have cB:=bad_any H5.out.own hus;clear g3 cN;go_wp2_with fail;refine cB.mono ?_;rintro e w6 ⟨rfl,hbl⟩;exact leave_fail rfl rfl rfl HX.out hs (HP5.out.below hbl)
theorem X.prefix_not {a b:UInt8}{r t:List UInt8}(h:a≠b):(a::r).isPrefixOf (b::t)=false:=by
 show (a==b&&r.isPrefixOf t)=false;rw [beq_false_of_ne h];rfl
theorem X.misc_brace {f:Nat}{l t:List UInt8}(h:X.skip l=123::t):X.misc (f+1) l= .ok ((),123::t):=by
 unfold X.misc;rw [h,X.prefix_not (by decide)];rfl
theorem parse_brace (s:ByteArray) (hs6:s.size≤65536) (W:World) (hE:Errs W) (hT:Tabs W) (t u:List UInt8) (c:UInt8) (hu:s.data.toList=c::u) (hc:c≠60) (hk:X.skip s.data.toList=123::t):
   Calls Tryz.prog 54 #[.string s] W fun en W'=> ∃p:Nat,en= .returned (.tuple #[.agg zero7,posV s p,.int .i64 81])∧Below W.heap.size W W':=by
 have h1:X.head1.isPrefixOf (rest s 0)=false:=by
   show X.head1.isPrefixOf s.data.toList=false;rw [hu];exact X.prefix_not (Ne.symm hc)
 have h2:X.head2.isPrefixOf (rest s 0)=false:=by
   show X.head2.isPrefixOf s.data.toList=false;rw [hu];exact X.prefix_not (Ne.symm hc)
 have hm:X.misc (s.size+1) (rest s 0)= .ok ((),123::t):=X.misc_brace hk;have hp:X.parse s.data.toList= .error (t.length+1,81):=by
   unfold X.parse X.start;have h1:X.head1.isPrefixOf s.data.toList=false:=h1;have h2:X.head2.isPrefixOf s.data.toList=false:=h2;have hm:X.misc (s.data.toList.length+1) s.data.toList= .ok ((),123::t):=by rw [←Lib.size_eq];exact hm
   rw [h1,h2];simp only [Bool.false_eq_true,if_false];rw [hm];simp only;rw [X.prefix_not (by decide)];rfl
 refine (parse_not s hs6 W hE hT h1 h2 (fun u r h=>by rw [hm] at h;cases h;exact X.prefix_not (by decide))).mono ?_;rintro en W' (⟨e,cs,hx,_⟩|⟨n,er,hx,rfl,hb⟩)
 · rw [hp] at hx;cases hx
 · rw [hp] at hx;cases hx;exact ⟨_,rfl,hb⟩
end Go.Proofs.YtohkomndapngjaaGreatDoor.K

