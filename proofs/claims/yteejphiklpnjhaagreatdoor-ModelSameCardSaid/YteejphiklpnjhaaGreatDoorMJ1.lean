/- Plain: elements of XML, how a text is read, where errors lie. -/
import Derived.Test.YteejphiklpnjhaaGreatDoorWPlainB
import Derived.Lib.MapLaws
import Derived.Lib.TrimU
namespace Go.Proofs.YteejphiklpnjhaaGreatDoor
set_option maxRecDepth 100000
set_option maxHeartbeats 16000000
namespace X
structure A where
 sp : ByteArray
 lo : ByteArray
 va : ByteArray
deriving DecidableEq
inductive N where
 | nil
 | cons (sp lo : ByteArray) (as : List A) (ks : N) (tx : ByteArray) (ln cl : Nat) (r : N)
structure E where
 sp : ByteArray
 lo : ByteArray
 as : List A
 ks : N
 tx : ByteArray
 ln : Nat
 cl : Nat
def N.length : N → Nat
 | .nil => 0
 | .cons _ _ _ _ _ _ _ r => r.length + 1
def N.app : N → N → N
 | .nil, m => m
 | .cons sp lo as ks tx ln cl r, m => .cons sp lo as ks tx ln cl (r.app m)
def E.one (v : E) : N := .cons v.sp v.lo v.as v.ks v.tx v.ln v.cl .nil
def N.snoc (t : N) (v : E) : N := t.app v.one
theorem N.app_length : ∀ (a b : N), (a.app b).length = a.length + b.length
 | .nil, b => by simp [N.app, N.length]
 | .cons _ _ _ _ _ _ _ r, b => by simp only [N.app, N.length, N.app_length r b]; omega
theorem N.snoc_length (t : N) (v : E) : (t.snoc v).length = t.length + 1 := by unfold N.snoc; rw [N.app_length]; rfl
abbrev Res (α : Type) := Except (Nat × Int) (α × List UInt8)
def blank (c : UInt8) : Bool := c == 32 || c == 9 || c == 13 || c == 10
def skip (l : List UInt8) : List UInt8 := l.dropWhile blank
def stands (c : Int) : Bool := decide (c = 9 ∨ c = 10 ∨ c = 13) || decide (32 ≤ c ∧ c ≤ 55295) || decide (57344 ≤ c ∧ c ≤ 65533) || decide (65536 ≤ c ∧ c ≤ 1114111)
def bad (l : List UInt8) : Nat × Int := if l = [] then (0, 80) else (l.length, 81)
def must (t l : List UInt8) : Res Unit := if t.isPrefixOf l then .ok ((), l.drop t.length) else .error (bad l)
def char (l : List UInt8) : Res Int :=
 if l = [] then .error (0, 80)
 else if ((Lib.decodeL l).1 = 65533 ∧ (Lib.decodeL l).2 = 1) ∨ stands (Lib.decodeL l).1 = false then .error (l.length, 81)
 else .ok (((Lib.decodeL l).1 : Int), l.drop (Lib.decodeL l).2)
def entity (l : List UInt8) : Option Int :=
 if l = [108, 116] then some 60 else if l = [103, 116] then some 62 else if l = [97, 109, 112] then some 38 else if l = [113, 117, 111, 116] then some 34 else if l = [97, 112, 111, 115] then some 39 else none
def dig (base : Nat) (c : UInt8) : Option Nat :=
 if 48 ≤ c.toNat ∧ c.toNat ≤ 57 then some (c.toNat - 48)
 else if 97 ≤ c.toNat ∧ c.toNat ≤ 102 ∧ base = 16 then some (c.toNat - 87)
 else if 65 ≤ c.toNat ∧ c.toNat ≤ 70 ∧ base = 16 then some (c.toNat - 55) else none
def numB (base : Nat) : Nat → List UInt8 → Option Nat
 | v, [] => some v
 | v, c :: r => match dig base c with
   | none => none
   | some d => numB base (v * base + d) r
def number (l : List UInt8) : Option Int :=
 let hex := [120].isPrefixOf l
 let ds := if hex then l.drop 1 else l
 if ds.length < 1 ∨ (if hex then 6 else 7) < ds.length then none
 else match numB (if hex then 16 else 10) 0 ds with
  | none => none
  | some n => if stands n then some (n : Int) else none
def refName (l : List UInt8) : List UInt8 := ((l.drop 1).take 11).takeWhile (fun c => c != 59)
def refOf (nm : List UInt8) : Option Int := match nm with
 | 35 :: ds => number ds
 | _ => entity nm
def ref (l : List UInt8) : Res Int :=
 if (59 : UInt8) ∈ (l.drop 1).take 11 then
  match refOf (refName l) with
  | some c => .ok (c, l.drop ((refName l).length + 2))
  | none => .error (l.length, 82)
 else .error (l.length, 82)
def letter (c : UInt8) : Bool := decide (97 ≤ c.toNat ∧ c.toNat ≤ 122) || decide (65 ≤ c.toNat ∧ c.toNat ≤ 90) || decide (c.toNat = 95)
def other (c : UInt8) : Bool := letter c || decide (48 ≤ c.toNat ∧ c.toNat ≤ 57) || decide (c.toNat = 45 ∨ c.toNat = 46)
def partL : List UInt8 → List UInt8
 | [] => []
 | c :: r => if letter c then c :: r.takeWhile other else []
def part (l : List UInt8) : Res (List UInt8) :=
 if partL l = [] then .error (bad l)
 else if 32 < (partL l).length then .error (l.length, 3)
 else .ok (partL l, l.drop (partL l).length)
def name (l : List UInt8) : Res (List UInt8 × List UInt8) :=
 match part l with
 | .error e => .error e
 | .ok (one, r) =>
   if [58].isPrefixOf r then
    match part (r.drop 1) with
    | .error e => .error e
    | .ok (two, r2) => .ok ((one, two), r2)
   else .ok (([], one), r)
def comment : Nat → List UInt8 → Res Unit
 | 0, l => .error (l.length, 81)
 | f + 1, l =>
   if [45, 45, 62].isPrefixOf l then .ok ((), l.drop 3)
   else if [45, 45].isPrefixOf l then .error (bad l)
   else match char l with
    | .error e => .error e
    | .ok (_, r) => comment f r
def misc : Nat → List UInt8 → Res Unit
 | 0, l => .error (l.length, 81)
 | f + 1, l =>
   if [60, 33, 45, 45].isPrefixOf (skip l) then
    match comment ((skip l).length + 1) ((skip l).drop 4) with
    | .error e => .error e
    | .ok (_, r) => misc f r
   else .ok ((), skip l)
def valIn (q : UInt8) : Nat → List UInt8 → List UInt8 → Res (List UInt8)
 | 0, _, l => .error (l.length, 81)
 | f + 1, acc, l =>
   if [q].isPrefixOf l then .ok (acc, l.drop 1)
   else if [60].isPrefixOf l then .error (bad l)
   else if [38].isPrefixOf l then
    match ref l with
    | .error e => .error e
    | .ok (c, r) => valIn q f (acc ++ W.charL c) r
   else match char l with
    | .error e => .error e
    | .ok (c, r) => valIn q f (acc ++ W.charL (if c < 32 then 32 else c)) r
def value (l : List UInt8) : Res (List UInt8) :=
 if [34].isPrefixOf l then valIn 34 (l.length + 1) [] (l.drop 1)
 else if [39].isPrefixOf l then valIn 39 (l.length + 1) [] (l.drop 1)
 else .error (bad l)
structure Raw where
 pre : List UInt8
 loc : List UInt8
 n : Nat
 val : List UInt8
def attr (out : List Raw) (l : List UInt8) : Res Raw :=
 match name l with
 | .error e => .error e
 | .ok (nm, r) =>
   if out.any (fun y => decide (y.pre = nm.1 ∧ y.loc = nm.2)) then .error (l.length, 6)
   else match must [61] (skip r) with
    | .error e => .error e
    | .ok (_, r2) => match value (skip r2) with
      | .error e => .error e
      | .ok (v, r3) => .ok (⟨nm.1, nm.2, l.length, v⟩, r3)
def begins : List UInt8 → Bool
 | [] => false
 | c :: _ => letter c
def attrs : Nat → List Raw → List UInt8 → Res (List Raw × Bool)
 | 0, _, l => .error (l.length, 81)
 | f + 1, out, l =>
   if [62].isPrefixOf (skip l) then .ok ((out, true), (skip l).drop 1)
   else if [47].isPrefixOf (skip l) then
    match must [62] ((skip l).drop 1) with
    | .error e => .error e
    | .ok (_, r) => .ok ((out, false), r)
   else if (skip l).length = l.length ∨ begins (skip l) = false then .error (bad (skip l))
   else if out.length = 32 then .error ((skip l).length, 3)
   else match attr out (skip l) with
    | .error e => .error e
    | .ok (x, r) => attrs f (out ++ [x]) r
def xmlns : List UInt8 := [120, 109, 108, 110, 115]
def xml : List UInt8 := [120, 109, 108]
def Raw.ofSpaces (x : Raw) : Bool := decide (x.pre = xmlns) || decide (x.pre = [] ∧ x.loc = xmlns)
abbrev K := List (List UInt8 × List UInt8)
def look : K → List UInt8 → Option (List UInt8)
 | [], _ => none
 | (a, v) :: r, p => if a = p then some v else look r p
def binds : List Raw → K → Except (Nat × Int) K
 | [], k => .ok k
 | x :: r, k =>
   if x.ofSpaces = false then binds r k
   else if x.pre = [] then binds r (([], x.val) :: k)
   else if x.val = [] ∨ x.loc = xmlns ∨ x.loc = xml then .error (x.n, 83)
   else binds r ((x.loc, x.val) :: k)
def ba (l : List UInt8) : ByteArray := ⟨l.toArray⟩
def plainAttrs (k : K) : List Raw → List A → Except (Nat × Int) (List A)
 | [], out => .ok out
 | x :: r, out =>
   if x.ofSpaces then plainAttrs k r out
   else match (if x.pre = [] then some [] else look k x.pre) with
    | none => .error (x.n, 83)
    | some sp =>
      if out.any (fun y => decide (y.sp = ba sp ∧ y.lo = ba x.loc)) then .error (x.n, 6)
      else plainAttrs k r (out ++ [⟨ba sp, ba x.loc, ba x.val⟩])
def resolve (n : Nat) (nm : List UInt8 × List UInt8) (l : List Raw) (known : K) : Except (Nat × Int) (List UInt8 × List A × K) :=
 match binds l known with
 | .error e => .error e
 | .ok k => match look k nm.1 with
   | none => .error (n, 83)
   | some sp => match plainAttrs k l [] with
     | .error e => .error e
     | .ok as => .ok (sp, as, k)
def lineOf (S : List UInt8) (k : Nat) : Nat := (S.take k).count 10 + 1
def colOf (S : List UInt8) (k : Nat) : Nat := ((S.take k).reverse.takeWhile (fun c => c != 10)).length + 1
def cdata : Nat → List UInt8 → List UInt8 → Res (List UInt8)
 | 0, _, l => .error (l.length, 81)
 | f + 1, acc, l =>
   if [93, 93, 62].isPrefixOf l then .ok (acc, l.drop 3)
   else match char l with
    | .error e => .error e
    | .ok (c, r) => cdata f (acc ++ W.charL c) r
def close (tag : List UInt8 × List UInt8) (l : List UInt8) : Res Unit :=
 match name l with
 | .error e => .error e
 | .ok (nm, r) => if nm ≠ tag then .error (l.length, 81) else must [62] (skip r)
def inside (el : Nat → List UInt8 → Res (E × Nat)) (tag : List UInt8 × List UInt8) : Nat → Nat → List UInt8 → N → List UInt8 → Res ((List UInt8 × N) × Nat)
 | 0, _, _, _, l => .error (l.length, 81)
 | f + 1, cnt, tx, ks, l =>
   if [60, 47].isPrefixOf l then
    match close tag (l.drop 2) with
    | .error e => .error e
    | .ok (_, r) => .ok (((tx, ks), cnt), r)
   else if [60, 33, 45, 45].isPrefixOf l then
    match comment (l.length + 1) (l.drop 4) with
    | .error e => .error e
    | .ok (_, r) => inside el tag f cnt tx ks r
   else if [60, 33, 91, 67, 68, 65, 84, 65, 91].isPrefixOf l then
    match cdata (l.length + 1) tx (l.drop 9) with
    | .error e => .error e
    | .ok (tx', r) => inside el tag f cnt tx' ks r
   else if ([60, 33].isPrefixOf l || [60, 63].isPrefixOf l || [93, 93, 62].isPrefixOf l) = true then .error (bad l)
   else if [60].isPrefixOf l then
    match el cnt l with
    | .error e => .error e
    | .ok ((e, cnt'), r) => inside el tag f cnt' tx (ks.snoc e) r
   else if [38].isPrefixOf l then
    match ref l with
    | .error e => .error e
    | .ok (c, r) => inside el tag f cnt (tx ++ W.charL c) ks r
   else match char l with
    | .error e => .error e
    | .ok (c, r) => inside el tag f cnt (tx ++ W.charL c) ks r
def elem (S : List UInt8) : Nat → K → Nat → List UInt8 → Res (E × Nat)
 | 0, _, _, l => .error (l.length, 84)
 | d + 1, known, cnt, l =>
   if cnt = 1024 then .error (l.length, 3)
   else match must [60] l with
    | .error e => .error e
    | .ok (_, l1) => match name l1 with
      | .error e => .error e
      | .ok (tag, l2) => match attrs (l2.length + 1) [] l2 with
        | .error e => .error e
        | .ok ((raws, opn), l3) => match resolve l.length tag raws known with
          | .error e => .error e
          | .ok (sp, as, k) =>
            if opn then
             match inside (elem S d k) tag (l3.length + 1) (cnt + 1) [] .nil l3 with
             | .error e => .error e
             | .ok (((tx, ks), cnt'), l4) => .ok ((⟨ba sp, ba tag.2, as, ks, ba tx, lineOf S (S.length - l.length), colOf S (S.length - l.length)⟩, cnt'), l4)
            else .ok ((⟨ba sp, ba tag.2, as, .nil, ba [], lineOf S (S.length - l.length), colOf S (S.length - l.length)⟩, cnt + 1), l3)
def head1 : List UInt8 := [60, 63, 120, 109, 108, 32, 118, 101, 114, 115, 105, 111, 110, 61, 34, 49, 46, 48, 34, 63, 62]
def head2 : List UInt8 := [60, 63, 120, 109, 108, 32, 118, 101, 114, 115, 105, 111, 110, 61, 34, 49, 46, 48, 34, 32, 101, 110, 99, 111, 100, 105, 110, 103, 61, 34, 85, 84, 70, 45, 56, 34, 63, 62]
def known0 : K := [([], []), (xml, [104, 116, 116, 112, 58, 47, 47, 119, 119, 119, 46, 119, 51, 46, 111, 114, 103, 47, 88, 77, 76, 47, 49, 57, 57, 56, 47, 110, 97, 109, 101, 115, 112, 97, 99, 101])]
def start (S : List UInt8) : List UInt8 := if head1.isPrefixOf S then S.drop head1.length else if head2.isPrefixOf S then S.drop head2.length else S
def parse (S : List UInt8) : Except (Nat × Int) E :=
 match misc (S.length + 1) (start S) with
 | .error e => .error e
 | .ok (_, l) =>
   if (![60].isPrefixOf l || [60, 33].isPrefixOf l || [60, 63].isPrefixOf l) = true then .error (bad l)
   else match elem S 16 known0 0 l with
    | .error e => .error e
    | .ok ((e, _), l2) => match misc (S.length + 1) l2 with
      | .error e => .error e
      | .ok (_, l3) => if l3 = [] then .ok e else .error (bad l3)
end X
end Go.Proofs.YteejphiklpnjhaaGreatDoor
namespace Go.Proofs.YteejphiklpnjhaaGreatDoor
set_option maxRecDepth 100000
set_option maxHeartbeats 16000000
namespace X
def Err (e : Int) : Prop := e = 3 ∨ e = 6 ∨ e = 80 ∨ e = 81 ∨ e = 82 ∨ e = 83 ∨ e = 84
def Suf (r l : List UInt8) : Prop := ∃ b, b ++ r = l
theorem Suf.refl (l : List UInt8) : Suf l l := ⟨[], rfl⟩
theorem Suf.trans {a b c : List UInt8} (h : Suf a b) (g : Suf b c) : Suf a c := by
 obtain ⟨x, rfl⟩ := h
 obtain ⟨y, rfl⟩ := g
 exact ⟨y ++ x, by rw [List.append_assoc]⟩
theorem Suf.drop (n : Nat) (l : List UInt8) : Suf (l.drop n) l := ⟨l.take n, List.take_append_drop n l⟩
theorem Suf.len {a b : List UInt8} (h : Suf a b) : a.length ≤ b.length := by
 obtain ⟨x, rfl⟩ := h
 rw [List.length_append]; omega
theorem Suf.skip (l : List UInt8) : Suf (skip l) l := ⟨l.takeWhile blank, List.takeWhile_append_dropWhile⟩
theorem Suf.eq_drop {a b : List UInt8} (h : Suf a b) : a = b.drop (b.length - a.length) := by
 obtain ⟨x, rfl⟩ := h
 rw [List.length_append, Nat.add_sub_cancel, List.drop_left]
def ErrIn (l : List UInt8) (n : Nat) (e : Int) : Prop := n ≤ l.length ∧ Err e ∧ (e = 80 → n = 0)
theorem ErrIn.suf {r l : List UInt8} {n : Nat} {e : Int} (h : ErrIn r n e) (g : Suf r l) : ErrIn l n e := ⟨Nat.le_trans h.1 g.len, h.2⟩
theorem bad_in (l : List UInt8) : ErrIn l (bad l).1 (bad l).2 := by
 unfold bad
 split
 · rename_i h; subst h; exact ⟨Nat.le_refl _, Or.inr (Or.inr (Or.inl rfl)), fun _ => rfl⟩
 · exact ⟨Nat.le_refl _, Or.inr (Or.inr (Or.inr (Or.inl rfl))), fun h => by cases h⟩
def Fair {α : Type} (k : Nat) (l : List UInt8) (x : Res α) : Prop := (∀ a r, x = .ok (a, r) → Suf r l ∧ r.length + k ≤ l.length) ∧ (∀ n e, x = .error (n, e) → ErrIn l n e)
theorem Fair.suf {α : Type} {k : Nat} {r l : List UInt8} {x : Res α} (h : Fair k r x) (g : Suf r l) : Fair k l x :=
 ⟨fun a t e => ⟨(h.1 a t e).1.trans g, by have := (h.1 a t e).2; have := g.len; omega⟩, fun n e he => (h.2 n e he).suf g⟩
theorem Fair.less {α : Type} {k m : Nat} {l : List UInt8} {x : Res α} (h : Fair k l x) (hm : m ≤ k) : Fair m l x := ⟨fun a t e => ⟨(h.1 a t e).1, by have := (h.1 a t e).2; omega⟩, h.2⟩
theorem Fair.bad {α : Type} {k : Nat} (l : List UInt8) : Fair (α := α) k l (.error (bad l)) := ⟨(fun _ _ h => by cases h), fun n e h => by
 have := Except.error.inj h
 have h2 := bad_in l
 rw [this] at h2; exact h2⟩
theorem Fair.err {α : Type} {k : Nat} {l : List UInt8} {n : Nat} {e : Int} (h : ErrIn l n e) : Fair (α := α) k l (.error (n, e)) := ⟨(fun _ _ h => by cases h), fun n e h' => by cases h'; exact h⟩
theorem Fair.ok {α : Type} {k : Nat} {l r : List UInt8} {a : α} (h : Suf r l) (g : r.length + k ≤ l.length) : Fair k l (.ok (a, r) : Res α) := ⟨fun _ _ e => by cases e; exact ⟨h, g⟩, fun _ _ h => by cases h⟩
theorem err81 (l : List UInt8) : ErrIn l l.length 81 := ⟨Nat.le_refl _, by unfold Err; omega, by omega⟩
theorem err82 (l : List UInt8) : ErrIn l l.length 82 := ⟨Nat.le_refl _, by unfold Err; omega, by omega⟩
theorem err3 (l : List UInt8) : ErrIn l l.length 3 := ⟨Nat.le_refl _, by unfold Err; omega, by omega⟩
theorem err6 (l : List UInt8) : ErrIn l l.length 6 := ⟨Nat.le_refl _, by unfold Err; omega, by omega⟩
theorem err84 (l : List UInt8) : ErrIn l l.length 84 := ⟨Nat.le_refl _, by unfold Err; omega, by omega⟩
theorem pre_len {t l : List UInt8} (h : t.isPrefixOf l = true) : t.length ≤ l.length := (List.isPrefixOf_iff_prefix.1 h).length_le
theorem ok_drop {α : Type} {t l : List UInt8} (a : α) (h : t.isPrefixOf l = true) : Fair t.length l (.ok (a, l.drop t.length) : Res α) := Fair.ok (Suf.drop _ l) (by have := pre_len h; rw [List.length_drop]; omega)
theorem must_fair (t l : List UInt8) : Fair t.length l (must t l) := by
 unfold must
 split
 · rename_i h; exact ok_drop _ h
 · exact Fair.bad l
theorem char_fair (l : List UInt8) : Fair 1 l (char l) := by
 unfold char
 split
 · rename_i h; subst h; exact Fair.err ⟨Nat.le_refl _, by unfold Err; omega, fun _ => rfl⟩
 · rename_i hne
   split
   · exact Fair.err (err81 l)
   · have h1 := Lib.decodeL_width l
     have h2 := Lib.decodeL_le l hne
     exact Fair.ok (Suf.drop _ l) (by rw [List.length_drop]; omega)
theorem takeWhile_lt {p : UInt8 → Bool} {x : UInt8} (hx : p x = false) : ∀ (l : List UInt8), x ∈ l → (l.takeWhile p).length < l.length
 | [], h => by cases h
 | c :: r, h => by
   rw [List.takeWhile_cons]
   split
   · rename_i hc
     rcases List.mem_cons.1 h with rfl | h
     · rw [hx] at hc; cases hc
     · have := takeWhile_lt hx r h
       simp only [List.length_cons]; omega
   · simp
theorem ref_fair (l : List UInt8) : Fair 2 l (ref l) := by
 unfold ref
 split
 · rename_i h
   split
   · have h1 := takeWhile_lt (p := fun c => c != 59) (x := 59) rfl _ h
     have h2 : ((l.drop 1).take 11).length ≤ l.length - 1 := by rw [List.length_take, List.length_drop]; omega
     have h3 : (refName l).length = (((l.drop 1).take 11).takeWhile (fun c => c != 59)).length := rfl
     exact Fair.ok (Suf.drop _ l) (by rw [List.length_drop]; omega)
   · exact Fair.err (err82 l)
 · exact Fair.err (err82 l)
theorem partL_pre : ∀ (l : List UInt8), ∃ r, partL l ++ r = l
 | [] => ⟨[], rfl⟩
 | c :: r => by
   by_cases h : letter c = true
   · exact ⟨r.dropWhile other, by rw [partL, if_pos h, List.cons_append, List.takeWhile_append_dropWhile]⟩
   · exact ⟨c :: r, by rw [partL, if_neg h]; rfl⟩
theorem partL_len (l : List UInt8) : (partL l).length ≤ l.length := by
 obtain ⟨r, h⟩ := partL_pre l
 have := congrArg List.length h
 rw [List.length_append] at this; omega
theorem part_fair (l : List UInt8) : Fair 1 l (part l) := by
 unfold part
 split
 · exact Fair.bad l
 · rename_i h
   split
   · exact Fair.err (err3 l)
   · have h1 : 0 < (partL l).length := List.length_pos_iff.2 h
     have h2 := partL_len l
     exact Fair.ok (Suf.drop _ l) (by rw [List.length_drop]; omega)
theorem name_fair (l : List UInt8) : Fair 1 l (name l) := by
 unfold name
 have h1 := part_fair l
 cases hx : part l with
 | error q => exact Fair.err (h1.2 q.1 q.2 hx)
 | ok q =>
   obtain ⟨one, r⟩ := q
   have h2 := h1.1 one r hx
   simp only
   split
   · have h3 := part_fair (r.drop 1)
     have h4 : Suf (r.drop 1) l := (Suf.drop 1 r).trans h2.1
     cases hy : part (r.drop 1) with
     | error q => exact Fair.err ((h3.2 q.1 q.2 hy).suf h4)
     | ok q =>
       obtain ⟨two, r2⟩ := q
       have h5 := h3.1 two r2 hy
       have h6 := h4.len
       exact Fair.ok (h5.1.trans h4) (by omega)
   · exact Fair.ok h2.1 h2.2
theorem comment_fair : ∀ (f : Nat) (l : List UInt8), Fair 3 l (comment f l)
 | 0, l => Fair.err (err81 l)
 | f + 1, l => by
   unfold comment
   split
   · rename_i h; exact ok_drop _ h
   · split
     · exact Fair.bad l
     · have h1 := char_fair l
       cases hx : char l with
       | error q => exact Fair.err (h1.2 q.1 q.2 hx)
       | ok q => exact (comment_fair f q.2).suf (h1.1 q.1 q.2 hx).1
theorem misc_fair : ∀ (f : Nat) (l : List UInt8), Fair 0 l (misc f l)
 | 0, l => Fair.err (err81 l)
 | f + 1, l => by
   unfold misc
   split
   · have h1 := (comment_fair ((skip l).length + 1) ((skip l).drop 4)).suf ((Suf.drop 4 _).trans (Suf.skip l))
     cases hx : comment ((skip l).length + 1) ((skip l).drop 4) with
     | error q => exact Fair.err (h1.2 q.1 q.2 hx)
     | ok q => exact (misc_fair f q.2).suf (h1.1 q.1 q.2 hx).1
   · exact Fair.ok (Suf.skip l) (by have := (Suf.skip l).len; omega)
theorem valIn_fair (q : UInt8) : ∀ (f : Nat) (acc l : List UInt8), Fair 1 l (valIn q f acc l)
 | 0, _, l => Fair.err (err81 l)
 | f + 1, acc, l => by
   unfold valIn
   split
   · rename_i h; exact ok_drop _ h
   · split
     · exact Fair.bad l
     · split
       · have h1 := ref_fair l
         cases hx : ref l with
         | error q => exact Fair.err (h1.2 q.1 q.2 hx)
         | ok q => exact (valIn_fair _ f _ q.2).suf (h1.1 q.1 q.2 hx).1
       · have h1 := char_fair l
         cases hx : char l with
         | error q => exact Fair.err (h1.2 q.1 q.2 hx)
         | ok q => exact (valIn_fair _ f _ q.2).suf (h1.1 q.1 q.2 hx).1
theorem value_fair (l : List UInt8) : Fair 2 l (value l) := by
 unfold value
 have key : ∀ q : UInt8, [q].isPrefixOf l = true → Fair 2 l (valIn q (l.length + 1) [] (l.drop 1)) := fun q hq => by
   have h1 := valIn_fair q (l.length + 1) [] (l.drop 1)
   have h2 := pre_len hq
   simp only [List.length_cons, List.length_nil] at h2
   exact ⟨fun a r e => ⟨(h1.1 a r e).1.trans (Suf.drop 1 l), by have := (h1.1 a r e).2; rw [List.length_drop] at this; omega⟩, fun n e he => (h1.2 n e he).suf (Suf.drop 1 l)⟩
 split
 · rename_i h; exact key _ h
 · split
   · rename_i h; exact key _ h
   · exact Fair.bad l
theorem attr_fair (out : List Raw) (l : List UInt8) : Fair 4 l (attr out l) ∧ ∀ x r, attr out l = .ok (x, r) → x.n = l.length := by
 unfold attr
 have h1 := name_fair l
 cases hx : name l with
 | error q => exact ⟨Fair.err (h1.2 q.1 q.2 hx), fun _ _ h => by cases h⟩
 | ok q =>
   have g1 := h1.1 q.1 q.2 hx
   simp only
   split
   · exact ⟨Fair.err (err6 l), fun _ _ h => by cases h⟩
   · have h2 := (must_fair [61] (skip q.2)).suf ((Suf.skip _).trans g1.1)
     have h2' := must_fair [61] (skip q.2)
     cases hy : must [61] (skip q.2) with
     | error u => exact ⟨Fair.err (h2.2 u.1 u.2 hy), fun _ _ h => by cases h⟩
     | ok u =>
       have g2 := h2.1 u.1 u.2 hy
       have g2' := (h2'.1 u.1 u.2 hy).2
       have h3 := (value_fair (skip u.2)).suf ((Suf.skip _).trans g2.1)
       have h3' := value_fair (skip u.2)
       simp only
       cases hz : value (skip u.2) with
       | error v => exact ⟨Fair.err (h3.2 v.1 v.2 hz), fun _ _ h => by cases h⟩
       | ok v =>
         have g3 := h3.1 v.1 v.2 hz
         have g3' := (h3'.1 v.1 v.2 hz).2
         have s1 := (Suf.skip q.2).len
         have s2 := (Suf.skip u.2).len
         simp only [List.length_cons, List.length_nil] at g2'
         exact ⟨Fair.ok g3.1 (by have := g1.2; omega), fun x r h => by cases h; rfl⟩
theorem attrs_fair : ∀ (f : Nat) (out : List Raw) (l : List UInt8), Fair 1 l (attrs f out l) ∧ ∀ m, l.length ≤ m → (∀ x ∈ out, x.n ≤ m) → ∀ o b r, attrs f out l = .ok ((o, b), r) → ∀ x ∈ o, x.n ≤ m
 | 0, _, l => ⟨Fair.err (err81 l), fun _ _ _ _ _ _ h => by cases h⟩
 | f + 1, out, l => by
   have hs := Suf.skip l
   unfold attrs
   split
   · rename_i h
     exact ⟨(ok_drop (t := [62]) _ h).suf hs, fun m _ ho o b r e => by cases e; exact ho⟩
   · split
     · rename_i h
       have h1 := must_fair [62] ((skip l).drop 1)
       have h0 : Suf ((skip l).drop 1) l := (Suf.drop 1 _).trans hs
       cases hx : must [62] ((skip l).drop 1) with
       | error q => exact ⟨Fair.err ((h1.2 q.1 q.2 hx).suf h0), fun _ _ _ _ _ _ h => by cases h⟩
       | ok q =>
         have g1 := h1.1 q.1 q.2 hx
         have := h0.len
         simp only [List.length_cons, List.length_nil] at g1
         exact ⟨Fair.ok (g1.1.trans h0) (by omega), fun m _ ho o b r e => by cases e; exact ho⟩
     · split
       · exact ⟨(Fair.bad (skip l)).suf hs, fun _ _ _ _ _ _ h => by cases h⟩
       · split
         · exact ⟨Fair.err ((err3 (skip l)).suf hs), fun _ _ _ _ _ _ h => by cases h⟩
         · have h1 := attr_fair out (skip l)
           cases hx : attr out (skip l) with
           | error q => exact ⟨Fair.err ((h1.1.2 q.1 q.2 hx).suf hs), fun _ _ _ _ _ _ h => by cases h⟩
           | ok q =>
             obtain ⟨x, r⟩ := q
             have g1 := h1.1.1 x r hx
             have g2 := h1.2 x r hx
             have h2 := attrs_fair f (out ++ [x]) r
             refine ⟨h2.1.suf (g1.1.trans hs), fun m hm ho o b t e => h2.2 m (by have := g1.2; have := hs.len; omega) ?_ o b t e⟩
             intro y hy
             rcases List.mem_append.1 hy with hy | hy
             · exact ho y hy
             · simp only [List.mem_cons, List.not_mem_nil, or_false] at hy
               subst hy
               have := hs.len; omega
theorem binds_err {m : Nat} : ∀ (l : List Raw) (k : K), (∀ x ∈ l, x.n ≤ m) → ∀ n e, binds l k = .error (n, e) → n ≤ m ∧ e = 83
 | [], _, _, _, _, h => by cases h
 | x :: r, k, hl, n, e, h => by
   unfold binds at h
   split at h
   · exact binds_err r _ (fun y hy => hl y (by simp [hy])) n e h
   · split at h
     · exact binds_err r _ (fun y hy => hl y (by simp [hy])) n e h
     · split at h
       · cases h; exact ⟨hl x (by simp), rfl⟩
       · exact binds_err r _ (fun y hy => hl y (by simp [hy])) n e h
theorem plainAttrs_err {m : Nat} (k : K) : ∀ (l : List Raw) (out : List A), (∀ x ∈ l, x.n ≤ m) → ∀ n e, plainAttrs k l out = .error (n, e) → n ≤ m ∧ (e = 83 ∨ e = 6)
 | [], _, _, _, _, h => by cases h
 | x :: r, out, hl, n, e, h => by
   unfold plainAttrs at h
   split at h
   · exact plainAttrs_err k r _ (fun y hy => hl y (by simp [hy])) n e h
   · split at h
     · cases h; exact ⟨hl x (by simp), Or.inl rfl⟩
     · split at h
       · cases h; exact ⟨hl x (by simp), Or.inr rfl⟩
       · exact plainAttrs_err k r _ (fun y hy => hl y (by simp [hy])) n e h
theorem resolve_err {m n0 : Nat} (hn : n0 ≤ m) (nm : List UInt8 × List UInt8) (l : List Raw) (k : K) (hl : ∀ x ∈ l, x.n ≤ m) (n : Nat) (e : Int) (h : resolve n0 nm l k = .error (n, e)) : n ≤ m ∧ (e = 83 ∨ e = 6) := by
 unfold resolve at h
 cases hb : binds l k with
 | error q =>
   rw [hb] at h
   simp only [Except.error.injEq] at h
   subst h
   have := binds_err l k hl n e hb
   exact ⟨this.1, Or.inl this.2⟩
 | ok k' =>
   rw [hb] at h
   simp only at h
   cases hk : look k' nm.1 with
   | none => rw [hk] at h; cases h; exact ⟨hn, Or.inl rfl⟩
   | some sp =>
     rw [hk] at h
     simp only at h
     cases hp : plainAttrs k' l [] with
     | error q =>
       rw [hp] at h
       simp only [Except.error.injEq] at h
       subst h
       exact plainAttrs_err k' l [] hl n e hp
     | ok as => rw [hp] at h; cases h
theorem cdata_fair : ∀ (f : Nat) (acc l : List UInt8), Fair 3 l (cdata f acc l)
 | 0, _, l => Fair.err (err81 l)
 | f + 1, acc, l => by
   unfold cdata
   split
   · rename_i h; exact ok_drop _ h
   · have h1 := char_fair l
     cases hx : char l with
     | error q => exact Fair.err (h1.2 q.1 q.2 hx)
     | ok q => exact (cdata_fair f _ q.2).suf (h1.1 q.1 q.2 hx).1
theorem close_fair (tag : List UInt8 × List UInt8) (l : List UInt8) : Fair 2 l (close tag l) := by
 unfold close
 have h1 := name_fair l
 cases hx : name l with
 | error q => exact Fair.err (h1.2 q.1 q.2 hx)
 | ok q =>
   have g1 := h1.1 q.1 q.2 hx
   simp only
   split
   · exact Fair.err (err81 l)
   · have h2 := must_fair [62] (skip q.2)
     have h0 := (Suf.skip q.2).trans g1.1
     have s1 := (Suf.skip q.2).len
     exact ⟨fun a r e => ⟨(h2.1 a r e).1.trans h0, by have := (h2.1 a r e).2; simp only [List.length_cons, List.length_nil] at this; have := g1.2; omega⟩, fun n e he => (h2.2 n e he).suf h0⟩
theorem inside_fair {el : Nat → List UInt8 → Res (E × Nat)} (hel : ∀ c l, Fair 1 l (el c l)) (tag : List UInt8 × List UInt8) : ∀ (f cnt : Nat) (tx : List UInt8) (ks : N) (l : List UInt8), Fair 4 l (inside el tag f cnt tx ks l)
 | 0, _, _, _, l => Fair.err (err81 l)
 | f + 1, cnt, tx, ks, l => by
   unfold inside
   split
   · rename_i h
     have h0 := pre_len h
     simp only [List.length_cons, List.length_nil] at h0
     have h1 := close_fair tag (l.drop 2)
     cases hx : close tag (l.drop 2) with
     | error q => exact Fair.err ((h1.2 q.1 q.2 hx).suf (Suf.drop 2 l))
     | ok q =>
       have g1 := h1.1 q.1 q.2 hx
       rw [List.length_drop] at g1
       exact Fair.ok (g1.1.trans (Suf.drop 2 l)) (by omega)
   · split
     · have h1 := (comment_fair (l.length + 1) (l.drop 4)).suf (Suf.drop 4 l)
       cases hx : comment (l.length + 1) (l.drop 4) with
       | error q => exact Fair.err (h1.2 q.1 q.2 hx)
       | ok q => exact (inside_fair hel tag f _ _ _ q.2).suf (h1.1 q.1 q.2 hx).1
     · split
       · have h1 := (cdata_fair (l.length + 1) tx (l.drop 9)).suf (Suf.drop 9 l)
         cases hx : cdata (l.length + 1) tx (l.drop 9) with
         | error q => exact Fair.err (h1.2 q.1 q.2 hx)
         | ok q => exact (inside_fair hel tag f _ _ _ q.2).suf (h1.1 q.1 q.2 hx).1
       · split
         · exact Fair.bad l
         · split
           · have h1 := hel cnt l
             cases hx : el cnt l with
             | error q => exact Fair.err (h1.2 q.1 q.2 hx)
             | ok q => exact (inside_fair hel tag f _ _ _ q.2).suf (h1.1 q.1 q.2 hx).1
           · split
             · have h1 := ref_fair l
               cases hx : ref l with
               | error q => exact Fair.err (h1.2 q.1 q.2 hx)
               | ok q => exact (inside_fair hel tag f _ _ _ q.2).suf (h1.1 q.1 q.2 hx).1
             · have h1 := char_fair l
               cases hx : char l with
               | error q => exact Fair.err (h1.2 q.1 q.2 hx)
               | ok q => exact (inside_fair hel tag f _ _ _ q.2).suf (h1.1 q.1 q.2 hx).1
theorem elem_fair (S : List UInt8) : ∀ (d : Nat) (known : K) (cnt : Nat) (l : List UInt8), Fair 1 l (elem S d known cnt l)
 | 0, _, _, l => Fair.err (err84 l)
 | d + 1, known, cnt, l => by
   unfold elem
   split
   · exact Fair.err (err3 l)
   · have h1 := must_fair [60] l
     cases hx : must [60] l with
     | error q => exact Fair.err (h1.2 q.1 q.2 hx)
     | ok q =>
       have g1 := h1.1 q.1 q.2 hx
       simp only [List.length_cons, List.length_nil] at g1
       simp only
       have h2 := name_fair q.2
       cases hy : name q.2 with
       | error u => exact Fair.err ((h2.2 u.1 u.2 hy).suf g1.1)
       | ok u =>
         have g2 := h2.1 u.1 u.2 hy
         simp only
         have h3 := attrs_fair (u.2.length + 1) [] u.2
         cases hz : attrs (u.2.length + 1) [] u.2 with
         | error v => exact Fair.err ((h3.1.2 v.1 v.2 hz).suf (g2.1.trans g1.1))
         | ok v =>
           obtain ⟨⟨raws, opn⟩, l3⟩ := v
           have g3 := h3.1.1 _ _ hz
           have hraw := h3.2 l.length (by have := g2.2; have := g1.2; omega) (fun _ h => by cases h) raws opn l3 hz
           simp only
           have s3 : Suf l3 l := g3.1.trans (g2.1.trans g1.1)
           cases hr : resolve l.length u.1 raws known with
           | error e =>
             have := resolve_err (Nat.le_refl _) u.1 raws known hraw e.1 e.2 hr
             exact Fair.err ⟨this.1, by unfold Err; omega, by omega⟩
           | ok t =>
             obtain ⟨sp, as, k⟩ := t
             simp only
             split
             · have h4 := inside_fair (fun c t => elem_fair S d k c t) u.1 (l3.length + 1) (cnt + 1) [] .nil l3
               cases hi : inside (elem S d k) u.1 (l3.length + 1) (cnt + 1) [] .nil l3 with
               | error e => exact Fair.err ((h4.2 e.1 e.2 hi).suf s3)
               | ok w =>
                 obtain ⟨⟨⟨tx, ks⟩, cnt'⟩, l4⟩ := w
                 have g4 := h4.1 _ _ hi
                 exact Fair.ok (g4.1.trans s3) (by have := s3.len; omega)
             · exact Fair.ok s3 (by have := g3.2; have := g2.2; have := g1.2; omega)
end X
end Go.Proofs.YteejphiklpnjhaaGreatDoor
namespace Go.Proofs.YteejphiklpnjhaaGreatDoor
set_option maxRecDepth 100000
set_option maxHeartbeats 16000000
namespace X
def Ahead (a b : Nat × Nat) : Prop := a.1 < b.1 ∨ (a.1 = b.1 ∧ a.2 < b.2)
theorem Ahead.trans {a b c : Nat × Nat} (h : Ahead a b) (g : Ahead b c) : Ahead a c := by unfold Ahead at *; omega
def at_ (S : List UInt8) (i : Nat) : Nat × Nat := (lineOf S i, colOf S i)
def Chain (S : List UInt8) : Nat → N → Nat → Prop
 | lo, .nil, hi => lo ≤ hi
 | lo, .cons _ _ _ ks _ ln cl r, hi => ∃ i m, lo ≤ i ∧ S[i]? = some 60 ∧ ln = lineOf S i ∧ cl = colOf S i ∧ Chain S (i + 1) ks m ∧ Chain S m r hi
theorem Chain.le {S : List UInt8} : ∀ {ks : N} {lo hi : Nat}, Chain S lo ks hi → lo ≤ hi
 | .nil, _, _, h => h
 | .cons _ _ _ ks _ _ _ r, _, _, ⟨i, m, h1, _, _, _, h2, h3⟩ => by
   have := Chain.le h2
   have := Chain.le h3
   omega
theorem Chain.up {S : List UInt8} : ∀ {ks : N} {lo hi hi' : Nat}, Chain S lo ks hi → hi ≤ hi' → Chain S lo ks hi'
 | .nil, _, _, _, h, g => Nat.le_trans h g
 | .cons .., _, _, _, ⟨i, m, h1, h2, h3, h4, h5, h6⟩, g => ⟨i, m, h1, h2, h3, h4, h5, h6.up g⟩
theorem Chain.app {S : List UInt8} : ∀ {a b : N} {lo m hi : Nat}, Chain S lo a m → Chain S m b hi → Chain S lo (a.app b) hi
 | .nil, .nil, _, _, _, h, g => Nat.le_trans h g
 | .nil, .cons .., _, _, _, h, ⟨i, m', h1, h2⟩ => ⟨i, m', Nat.le_trans h h1, h2⟩
 | .cons .., _, _, _, _, ⟨i, m', h1, h2, h3, h4, h5, h6⟩, g => ⟨i, m', h1, h2, h3, h4, h5, h6.app g⟩
theorem pre_first {c : UInt8} {l : List UInt8} (h : [c].isPrefixOf l = true) : ∃ r, l = c :: r := by
 obtain ⟨r, hr⟩ := List.isPrefixOf_iff_prefix.1 h
 exact ⟨r, hr.symm⟩
end X
end Go.Proofs.YteejphiklpnjhaaGreatDoor
