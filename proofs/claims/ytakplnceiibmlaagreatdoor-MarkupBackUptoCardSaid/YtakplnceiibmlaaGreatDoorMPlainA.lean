/- Plain: elements of XML, and how a text is read as one. No program in sight. -/
import Derived.Test.YtakplnceiibmlaaGreatDoorWPlainB
import Derived.Lib.MapLaws
namespace Go.Proofs.YtakplnceiibmlaaGreatDoor
namespace X
/-- an attribute: namespace, name, value -/
structure A where
  sp : ByteArray
  lo : ByteArray
  va : ByteArray
deriving DecidableEq
/-- elements one behind the other: namespace, name, attributes, the elements in it, characters, line, place in it; the rest -/
inductive N where
  | nil
  | cons (sp lo : ByteArray) (as : List A) (ks : N) (tx : ByteArray) (ln cl : Nat) (r : N)
/-- one element -/
structure E where
  sp : ByteArray
  lo : ByteArray
  as : List A
  ks : N
  tx : ByteArray
  ln : Nat
  cl : Nat
def N.length : N → Nat
  | .nil => 0
  | .cons _ _ _ _ _ _ _ r => r.length + 1
def N.app : N → N → N
  | .nil, m => m
  | .cons sp lo as ks tx ln cl r, m => .cons sp lo as ks tx ln cl (r.app m)
def E.one (v : E) : N := .cons v.sp v.lo v.as v.ks v.tx v.ln v.cl .nil
def N.snoc (t : N) (v : E) : N := t.app v.one
theorem N.app_length : ∀ (a b : N), (a.app b).length = a.length + b.length
  | .nil, b => by simp [N.app, N.length]
  | .cons _ _ _ _ _ _ _ r, b => by simp only [N.app, N.length, N.app_length r b]; omega
theorem N.app_nil : ∀ (a : N), a.app .nil = a
  | .nil => rfl
  | .cons _ _ _ _ _ _ _ r => by simp only [N.app, N.app_nil r]
theorem N.app_assoc : ∀ (a b c : N), (a.app b).app c = a.app (b.app c)
  | .nil, _, _ => rfl
  | .cons _ _ _ _ _ _ _ r, b, c => by simp only [N.app, N.app_assoc r b c]
theorem N.snoc_length (t : N) (v : E) : (t.snoc v).length = t.length + 1 := by unfold N.snoc; rw [N.app_length]; rfl
/-- what is read, and the rest; or how much was left where it fell, and the error -/
abbrev Res (α : Type) := Except (Nat × Int) (α × List UInt8)
def blank (c : UInt8) : Bool := c == 32 || c == 9 || c == 13 || c == 10
def skip (l : List UInt8) : List UInt8 := l.dropWhile blank
def stands (c : Int) : Bool := decide (c = 9 ∨ c = 10 ∨ c = 13) || decide (32 ≤ c ∧ c ≤ 55295) || decide (57344 ≤ c ∧ c ≤ 65533) || decide (65536 ≤ c ∧ c ≤ 1114111)
def bad (l : List UInt8) : Nat × Int := if l = [] then (0, 80) else (l.length, 81)
def must (t l : List UInt8) : Res Unit := if t.isPrefixOf l then .ok ((), l.drop t.length) else .error (bad l)
/-- a character -/
def char (l : List UInt8) : Res Int :=
  if l = [] then .error (0, 80)
  else if ((Lib.decodeL l).1 = 65533 ∧ (Lib.decodeL l).2 = 1) ∨ stands (Lib.decodeL l).1 = false then .error (l.length, 81)
  else .ok (((Lib.decodeL l).1 : Int), l.drop (Lib.decodeL l).2)
def entity (l : List UInt8) : Option Int :=
  if l = [108, 116] then some 60 else if l = [103, 116] then some 62 else if l = [97, 109, 112] then some 38 else if l = [113, 117, 111, 116] then some 34 else if l = [97, 112, 111, 115] then some 39 else none
/-- a digit's number -/
def dig (base : Nat) (c : UInt8) : Option Nat :=
  if 48 ≤ c.toNat ∧ c.toNat ≤ 57 then some (c.toNat - 48)
  else if 97 ≤ c.toNat ∧ c.toNat ≤ 102 ∧ base = 16 then some (c.toNat - 87)
  else if 65 ≤ c.toNat ∧ c.toNat ≤ 70 ∧ base = 16 then some (c.toNat - 55) else none
def numB (base : Nat) : Nat → List UInt8 → Option Nat
  | v, [] => some v
  | v, c :: r => match dig base c with
    | none => none
    | some d => numB base (v * base + d) r
def number (l : List UInt8) : Option Int :=
  let hex := [120].isPrefixOf l
  let ds := if hex then l.drop 1 else l
  if ds.length < 1 ∨ (if hex then 6 else 7) < ds.length then none
  else match numB (if hex then 16 else 10) 0 ds with
    | none => none
    | some n => if stands n then some (n : Int) else none
/-- what stands between the first byte and a semicolon that is near -/
def refName (l : List UInt8) : List UInt8 := ((l.drop 1).take 11).takeWhile (fun c => c != 59)
def refOf (nm : List UInt8) : Option Int := match nm with
  | 35 :: ds => number ds
  | _ => entity nm
/-- l begins with & -/
def ref (l : List UInt8) : Res Int :=
  if (59 : UInt8) ∈ (l.drop 1).take 11 then
    match refOf (refName l) with
    | some c => .ok (c, l.drop ((refName l).length + 2))
    | none => .error (l.length, 82)
  else .error (l.length, 82)
def letter (c : UInt8) : Bool := decide (97 ≤ c.toNat ∧ c.toNat ≤ 122) || decide (65 ≤ c.toNat ∧ c.toNat ≤ 90) || decide (c.toNat = 95)
def other (c : UInt8) : Bool := letter c || decide (48 ≤ c.toNat ∧ c.toNat ≤ 57) || decide (c.toNat = 45 ∨ c.toNat = 46)
def partL : List UInt8 → List UInt8
  | [] => []
  | c :: r => if letter c then c :: r.takeWhile other else []
def part (l : List UInt8) : Res (List UInt8) :=
  if partL l = [] then .error (bad l)
  else if 32 < (partL l).length then .error (l.length, 3)
  else .ok (partL l, l.drop (partL l).length)
def name (l : List UInt8) : Res (List UInt8 × List UInt8) :=
  match part l with
  | .error e => .error e
  | .ok (one, r) =>
    if [58].isPrefixOf r then
      match part (r.drop 1) with
      | .error e => .error e
      | .ok (two, r2) => .ok ((one, two), r2)
    else .ok (([], one), r)
/-- behind a comment's beginning -/
def comment : Nat → List UInt8 → Res Unit
  | 0, l => .error (l.length, 81)
  | f + 1, l =>
    if [45, 45, 62].isPrefixOf l then .ok ((), l.drop 3)
    else if [45, 45].isPrefixOf l then .error (bad l)
    else match char l with
      | .error e => .error e
      | .ok (_, r) => comment f r
def misc : Nat → List UInt8 → Res Unit
  | 0, l => .error (l.length, 81)
  | f + 1, l =>
    if [60, 33, 45, 45].isPrefixOf (skip l) then
      match comment ((skip l).length + 1) ((skip l).drop 4) with
      | .error e => .error e
      | .ok (_, r) => misc f r
    else .ok ((), skip l)
/-- an attribute's value, up to the quote -/
def valIn (q : UInt8) : Nat → List UInt8 → List UInt8 → Res (List UInt8)
  | 0, _, l => .error (l.length, 81)
  | f + 1, acc, l =>
    if [q].isPrefixOf l then .ok (acc, l.drop 1)
    else if [60].isPrefixOf l then .error (bad l)
    else if [38].isPrefixOf l then
      match ref l with
      | .error e => .error e
      | .ok (c, r) => valIn q f (acc ++ W.charL c) r
    else match char l with
      | .error e => .error e
      | .ok (c, r) => valIn q f (acc ++ W.charL (if c < 32 then 32 else c)) r
def value (l : List UInt8) : Res (List UInt8) :=
  if [34].isPrefixOf l then valIn 34 (l.length + 1) [] (l.drop 1)
  else if [39].isPrefixOf l then valIn 39 (l.length + 1) [] (l.drop 1)
  else .error (bad l)
/-- an attribute as it stands: prefix, name, how much was left at it, value -/
structure Raw where
  pre : List UInt8
  loc : List UInt8
  n : Nat
  val : List UInt8
/-- an attribute behind its blanks -/
def attr (out : List Raw) (l : List UInt8) : Res Raw :=
  match name l with
  | .error e => .error e
  | .ok (nm, r) =>
    if out.any (fun y => decide (y.pre = nm.1 ∧ y.loc = nm.2)) then .error (l.length, 6)
    else match must [61] (skip r) with
      | .error e => .error e
      | .ok (_, r2) => match value (skip r2) with
        | .error e => .error e
        | .ok (v, r3) => .ok (⟨nm.1, nm.2, l.length, v⟩, r3)
def begins : List UInt8 → Bool
  | [] => false
  | c :: _ => letter c
def attrs : Nat → List Raw → List UInt8 → Res (List Raw × Bool)
  | 0, _, l => .error (l.length, 81)
  | f + 1, out, l =>
    if [62].isPrefixOf (skip l) then .ok ((out, true), (skip l).drop 1)
    else if [47].isPrefixOf (skip l) then
      match must [62] ((skip l).drop 1) with
      | .error e => .error e
      | .ok (_, r) => .ok ((out, false), r)
    else if (skip l).length = l.length ∨ begins (skip l) = false then .error (bad (skip l))
    else if out.length = 32 then .error ((skip l).length, 3)
    else match attr out (skip l) with
      | .error e => .error e
      | .ok (x, r) => attrs f (out ++ [x]) r
def xmlns : List UInt8 := [120, 109, 108, 110, 115]
def xml : List UInt8 := [120, 109, 108]
def Raw.ofSpaces (x : Raw) : Bool := decide (x.pre = xmlns) || decide (x.pre = [] ∧ x.loc = xmlns)
/-- what prefixes stand for, the newest first -/
abbrev K := List (List UInt8 × List UInt8)
def look : K → List UInt8 → Option (List UInt8)
  | [], _ => none
  | (a, v) :: r, p => if a = p then some v else look r p
def binds : List Raw → K → Except (Nat × Int) K
  | [], k => .ok k
  | x :: r, k =>
    if x.ofSpaces = false then binds r k
    else if x.pre = [] then binds r (([], x.val) :: k)
    else if x.val = [] ∨ x.loc = xmlns ∨ x.loc = xml then .error (x.n, 83)
    else binds r ((x.loc, x.val) :: k)
def ba (l : List UInt8) : ByteArray := ⟨l.toArray⟩
def plainAttrs (k : K) : List Raw → List A → Except (Nat × Int) (List A)
  | [], out => .ok out
  | x :: r, out =>
    if x.ofSpaces then plainAttrs k r out
    else match (if x.pre = [] then some [] else look k x.pre) with
      | none => .error (x.n, 83)
      | some sp =>
        if out.any (fun y => decide (y.sp = ba sp ∧ y.lo = ba x.loc)) then .error (x.n, 6)
        else plainAttrs k r (out ++ [⟨ba sp, ba x.loc, ba x.val⟩])
/-- the namespace, the attributes, what prefixes stand for within -/
def resolve (n : Nat) (nm : List UInt8 × List UInt8) (l : List Raw) (known : K) : Except (Nat × Int) (List UInt8 × List A × K) :=
  match binds l known with
  | .error e => .error e
  | .ok k => match look k nm.1 with
    | none => .error (n, 83)
    | some sp => match plainAttrs k l [] with
      | .error e => .error e
      | .ok as => .ok (sp, as, k)
/-- where number k of a text stands -/
def lineOf (S : List UInt8) (k : Nat) : Nat := (S.take k).count 10 + 1
def colOf (S : List UInt8) (k : Nat) : Nat := ((S.take k).reverse.takeWhile (fun c => c != 10)).length + 1
def cdata : Nat → List UInt8 → List UInt8 → Res (List UInt8)
  | 0, _, l => .error (l.length, 81)
  | f + 1, acc, l =>
    if [93, 93, 62].isPrefixOf l then .ok (acc, l.drop 3)
    else match char l with
      | .error e => .error e
      | .ok (c, r) => cdata f (acc ++ W.charL c) r
/-- behind </ -/
def close (tag : List UInt8 × List UInt8) (l : List UInt8) : Res Unit :=
  match name l with
  | .error e => .error e
  | .ok (nm, r) => if nm ≠ tag then .error (l.length, 81) else must [62] (skip r)
/-- what is in an element: el takes an element -/
def inside (el : Nat → List UInt8 → Res (E × Nat)) (tag : List UInt8 × List UInt8) : Nat → Nat → List UInt8 → N → List UInt8 → Res ((List UInt8 × N) × Nat)
  | 0, _, _, _, l => .error (l.length, 81)
  | f + 1, cnt, tx, ks, l =>
    if [60, 47].isPrefixOf l then
      match close tag (l.drop 2) with
      | .error e => .error e
      | .ok (_, r) => .ok (((tx, ks), cnt), r)
    else if [60, 33, 45, 45].isPrefixOf l then
      match comment (l.length + 1) (l.drop 4) with
      | .error e => .error e
      | .ok (_, r) => inside el tag f cnt tx ks r
    else if [60, 33, 91, 67, 68, 65, 84, 65, 91].isPrefixOf l then
      match cdata (l.length + 1) tx (l.drop 9) with
      | .error e => .error e
      | .ok (tx', r) => inside el tag f cnt tx' ks r
    else if ([60, 33].isPrefixOf l || [60, 63].isPrefixOf l || [93, 93, 62].isPrefixOf l) = true then .error (bad l)
    else if [60].isPrefixOf l then
      match el cnt l with
      | .error e => .error e
      | .ok ((e, cnt'), r) => inside el tag f cnt' tx (ks.snoc e) r
    else if [38].isPrefixOf l then
      match ref l with
      | .error e => .error e
      | .ok (c, r) => inside el tag f cnt (tx ++ W.charL c) ks r
    else match char l with
      | .error e => .error e
      | .ok (c, r) => inside el tag f cnt (tx ++ W.charL c) ks r
/-- an element; so many may still stand in one another; so many there were -/
def elem (S : List UInt8) : Nat → K → Nat → List UInt8 → Res (E × Nat)
  | 0, _, _, l => .error (l.length, 84)
  | d + 1, known, cnt, l =>
    if cnt = 1024 then .error (l.length, 3)
    else match must [60] l with
      | .error e => .error e
      | .ok (_, l1) => match name l1 with
        | .error e => .error e
        | .ok (tag, l2) => match attrs (l2.length + 1) [] l2 with
          | .error e => .error e
          | .ok ((raws, opn), l3) => match resolve l.length tag raws known with
            | .error e => .error e
            | .ok (sp, as, k) =>
              if opn then
                match inside (elem S d k) tag (l3.length + 1) (cnt + 1) [] .nil l3 with
                | .error e => .error e
                | .ok (((tx, ks), cnt'), l4) => .ok ((⟨ba sp, ba tag.2, as, ks, ba tx, lineOf S (S.length - l.length), colOf S (S.length - l.length)⟩, cnt'), l4)
              else .ok ((⟨ba sp, ba tag.2, as, .nil, ba [], lineOf S (S.length - l.length), colOf S (S.length - l.length)⟩, cnt + 1), l3)
def head1 : List UInt8 := [60, 63, 120, 109, 108, 32, 118, 101, 114, 115, 105, 111, 110, 61, 34, 49, 46, 48, 34, 63, 62]
def head2 : List UInt8 := [60, 63, 120, 109, 108, 32, 118, 101, 114, 115, 105, 111, 110, 61, 34, 49, 46, 48, 34, 32, 101, 110, 99, 111, 100, 105, 110, 103, 61, 34, 85, 84, 70, 45, 56, 34, 63, 62]
def known0 : K := [([], []), (xml, [104, 116, 116, 112, 58, 47, 47, 119, 119, 119, 46, 119, 51, 46, 111, 114, 103, 47, 88, 77, 76, 47, 49, 57, 57, 56, 47, 110, 97, 109, 101, 115, 112, 97, 99, 101])]
def start (S : List UInt8) : List UInt8 := if head1.isPrefixOf S then S.drop head1.length else if head2.isPrefixOf S then S.drop head2.length else S
/-- a text's element; or how much was left where it fell, and the error -/
def parse (S : List UInt8) : Except (Nat × Int) E :=
  match misc (S.length + 1) (start S) with
  | .error e => .error e
  | .ok (_, l) =>
    if (![60].isPrefixOf l || [60, 33].isPrefixOf l || [60, 63].isPrefixOf l) = true then .error (bad l)
    else match elem S 16 known0 0 l with
      | .error e => .error e
      | .ok ((e, _), l2) => match misc (S.length + 1) l2 with
        | .error e => .error e
        | .ok (_, l3) => if l3 = [] then .ok e else .error (bad l3)
end X
end Go.Proofs.YtakplnceiibmlaaGreatDoor
