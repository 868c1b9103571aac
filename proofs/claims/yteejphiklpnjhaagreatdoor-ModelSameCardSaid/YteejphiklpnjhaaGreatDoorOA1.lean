/- Plain: models out of XML; the statements' texts. -/
import Derived.Test.YteejphiklpnjhaaGreatDoorMJ3
import Derived.Test.YteejphiklpnjhaaGreatDoorWPlainN
namespace Go.Proofs.YteejphiklpnjhaaGreatDoor
set_option maxRecDepth 100000
set_option maxHeartbeats 16000000
namespace O
structure Rule where
 must : Bool
 num : Bool
 only : List UInt8
abbrev Rules := List (List UInt8 × Rule)
def ownL : List UInt8 := [117, 114, 110, 58, 116, 111, 108, 108, 103, 97, 116, 101]
def bpmnL : List UInt8 := [104, 116, 116, 112, 58, 47, 47, 119, 119, 119, 46, 111, 109, 103, 46, 111, 114, 103, 47, 115, 112, 101, 99, 47, 66, 80, 77, 78, 47, 50, 48, 49, 48, 48, 53, 50, 52, 47, 77, 79, 68, 69, 76]
structure Got where
 vals : X.K
 nums : List (List UInt8 × Int)
def nameOf (sp lo : List UInt8) : Option (List UInt8) := if sp = [] then some lo else if sp = ownL then some (58 :: lo) else none
def numOf (l : List UInt8) : Int × Bool := W.parseW l
def one (rs : Rules) (a : X.A) (g : Got) : Except Int Got :=
 match nameOf a.sp.data.toList a.lo.data.toList with
  | none => .error 121
  | some n => match X.lookG rs n with
    | none => .error 121
    | some u =>
      if u.only ≠ [] ∧ u.only ≠ a.va.data.toList then .error 121
      else if u.num then if (numOf a.va.data.toList).2 = true then .ok ⟨(n, a.va.data.toList) :: g.vals, (n, (numOf a.va.data.toList).1) :: g.nums⟩ else .error 1
      else .ok ⟨(n, a.va.data.toList) :: g.vals, g.nums⟩
def readA (rs : Rules) : List X.A → Got → Except Int Got
 | [], g => .ok g
 | a :: r, g => match one rs a g with
   | .error e => .error e
   | .ok g => readA rs r g
def full (rs : Rules) (v : X.K) : Bool := rs.all (fun r => match X.lookG rs r.1 with
 | some u => !u.must || (X.look v r.1).isSome
 | none => true)
theorem lookG_mem {β : Type} : ∀ (k : List (List UInt8 × β)) (p : List UInt8) (u : β), X.lookG k p = some u → ∃ q ∈ k, q.1 = p
 | [], _, _, h => by cases h
 | (a, v) :: r, p, u, h => by
   unfold X.lookG at h
   by_cases e : a = p
   · exact ⟨(a, v), by simp, e⟩
   · rw [if_neg e] at h
     obtain ⟨q, hq, hp⟩ := lookG_mem r p u h
     exact ⟨q, by simp [hq], hp⟩
theorem full_iff (rs : Rules) (v : X.K) : full rs v = true ↔ ∀ p u, X.lookG rs p = some u → u.must = true → (X.look v p).isSome = true := by
 unfold full
 rw [List.all_eq_true]
 constructor
 · intro h p u hu hm
   obtain ⟨q, hq, rfl⟩ := lookG_mem rs p u hu
   have := h q hq
   rw [hu] at this
   simpa [hm] using this
 · intro h q hq
   cases hu : X.lookG rs q.1 with
   | none => rfl
   | some u =>
     have := h q.1 u hu
     cases hm : u.must <;> simp_all
def read (rs : Rules) (al : List X.A) : Except Int Got :=
 match readA rs al ⟨[], []⟩ with
 | .error e => .error e
 | .ok g => if full rs g.vals then .ok g else .error 121
def trim (l : List UInt8) : List UInt8 := ((l.reverse.dropWhile X.blank).reverse).dropWhile X.blank
def get (g : Got) (n : List UInt8) : List UInt8 := (X.look g.vals n).getD []
structure El where
 id : List UInt8
 nm : List UInt8
 kind : Nat
 inn : List UInt8
 dflt : List UInt8
 att : List UInt8
 tries : Int
deriving DecidableEq
structure Fl where
 id : List UInt8
 fr : List UInt8
 dst : List UInt8
deriving DecidableEq
structure It where
 ln : Nat
 cl : Nat
 fl : Option Fl
 e : El
 called : List UInt8
 call : Bool
structure Va where
 name : List UInt8
 x : Int
deriving DecidableEq
structure Pr where
 id : List UInt8
 nm : List UInt8
 vars : List Va
 items : List It
structure M where
 id : List UInt8
 nm : List UInt8
 vars : List Va
 els : List El
 fls : List Fl
abbrev Er := Int × Nat × Nat
def kindOf (l : List UInt8) : Option Nat := X.lookG [([99, 97, 108, 108, 65, 99, 116, 105, 118, 105, 116, 121], 10), ([115, 117, 98, 80, 114, 111, 99, 101, 115, 115], 10), ([98, 111, 117, 110, 100, 97, 114, 121, 69, 118, 101, 110, 116], 9), ([105, 110, 116, 101, 114, 109, 101, 100, 105, 97, 116, 101, 67, 97, 116, 99, 104, 69, 118, 101, 110, 116], 8), ([101, 118, 101, 110, 116, 66, 97, 115, 101, 100, 71, 97, 116, 101, 119, 97, 121], 7), ([112, 97, 114, 97, 108, 108, 101, 108, 71, 97, 116, 101, 119, 97, 121], 6), ([101, 120, 99, 108, 117, 115, 105, 118, 101, 71, 97, 116, 101, 119, 97, 121], 5), ([115, 101, 114, 118, 105, 99, 101, 84, 97, 115, 107], 4), ([117, 115, 101, 114, 84, 97, 115, 107], 3), ([101, 110, 100, 69, 118, 101, 110, 116], 2), ([115, 116, 97, 114, 116, 69, 118, 101, 110, 116], 1)] l
def must : Rule := ⟨true, false, []⟩
def may : Rule := ⟨false, false, []⟩
def flowRules : Rules := [([110, 97, 109, 101], may), ([116, 97, 114, 103, 101, 116, 82, 101, 102], must), ([115, 111, 117, 114, 99, 101, 82, 101, 102], must), ([105, 100], must)]
def zeroEl : El := ⟨[], [], 0, [], [], [], 0⟩
def flow (n : X.E) : Except Er It :=
 if trim n.tx.data.toList ≠ [] then .error (121, n.ln, n.cl)
 else match read flowRules n.as with
  | .error e => .error (e, n.ln, n.cl)
  | .ok g => .ok ⟨n.ln, n.cl, some ⟨get g [105, 100], get g [115, 111, 117, 114, 99, 101, 82, 101, 102], get g [116, 97, 114, 103, 101, 116, 82, 101, 102]⟩, zeroEl, [], false⟩
def callL : List UInt8 := [99, 97, 108, 108, 65, 99, 116, 105, 118, 105, 116, 121]
def baseRules : Rules := [([110, 97, 109, 101], may), ([105, 100], must)]
def rules (call : Bool) (kind : Nat) : Rules :=
 if call then ([99, 97, 108, 108, 101, 100, 69, 108, 101, 109, 101, 110, 116], must) :: baseRules
 else if kind = 4 then ([58, 116, 114, 105, 101, 115], ⟨false, true, []⟩) :: baseRules
 else if kind = 5 then ([100, 101, 102, 97, 117, 108, 116], may) :: baseRules
 else if kind = 9 then ([99, 97, 110, 99, 101, 108, 65, 99, 116, 105, 118, 105, 116, 121], ⟨false, false, [116, 114, 117, 101]⟩) :: ([97, 116, 116, 97, 99, 104, 101, 100, 84, 111, 82, 101, 102], must) :: baseRules
 else baseRules
def elem (n : X.E) : Except Er It :=
 if n.sp.data.toList = bpmnL ∧ n.lo.data.toList = [115, 101, 113, 117, 101, 110, 99, 101, 70, 108, 111, 119] then flow n
 else match kindOf n.lo.data.toList with
  | none => .error (121, n.ln, n.cl)
  | some kind =>
    if n.sp.data.toList ≠ bpmnL then .error (121, n.ln, n.cl)
    else if trim n.tx.data.toList ≠ [] then .error (121, n.ln, n.cl)
    else match read (rules (decide (n.lo.data.toList = callL)) kind) n.as with
     | .error e => .error (e, n.ln, n.cl)
     | .ok g => .ok ⟨n.ln, n.cl, none, ⟨get g [105, 100], get g [110, 97, 109, 101], kind, [], get g [100, 101, 102, 97, 117, 108, 116], get g [97, 116, 116, 97, 99, 104, 101, 100, 84, 111, 82, 101, 102], if kind = 4 then (X.lookG g.nums [58, 116, 114, 105, 101, 115]).getD 1 else 0⟩, get g [99, 97, 108, 108, 101, 100, 69, 108, 101, 109, 101, 110, 116], decide (n.lo.data.toList = callL)⟩
def varRules : Rules := [([105, 110, 105, 116], may), ([116, 121, 112, 101], must), ([110, 97, 109, 101], must)]
def var (n : X.E) : Except Er Va :=
 if trim n.tx.data.toList ≠ [] then .error (121, n.ln, n.cl)
 else match read varRules n.as with
  | .error e => .error (e, n.ln, n.cl)
  | .ok g => match X.look g.vals [105, 110, 105, 116] with
    | none => .ok ⟨get g [110, 97, 109, 101], 0⟩
    | some s => if (numOf s).2 = true then .ok ⟨get g [110, 97, 109, 101], (numOf s).1⟩ else .error (1, n.ln, n.cl)
def intVar (n : X.E) : Bool := match read varRules n.as with
 | .error _ => true
 | .ok g => decide (X.look g.vals [116, 121, 112, 101] = some [105, 110, 116])
def isVar (sp lo : ByteArray) : Bool := decide (sp.data.toList = ownL ∧ lo.data.toList = [118, 97, 114, 105, 97, 98, 108, 101])
def things : X.N → List Va → List It → Except Er (List Va × List It)
 | .nil, v, i => .ok (v, i)
 | .cons sp lo al ks tx ln cl r, v, i =>
   if isVar sp lo then match var ⟨sp, lo, al, ks, tx, ln, cl⟩ with
    | .error e => .error e
    | .ok x => things r (v ++ [x]) i
   else match elem ⟨sp, lo, al, ks, tx, ln, cl⟩ with
    | .error e => .error e
    | .ok x => things r v (i ++ [x])
def bare : X.N → Bool
 | .nil => true
 | .cons sp lo al ks tx ln cl r => (match ks with | .nil => true | _ => false) && (!isVar sp lo || intVar ⟨sp, lo, al, ks, tx, ln, cl⟩) && bare r
def procRules : Rules := [([105, 115, 69, 120, 101, 99, 117, 116, 97, 98, 108, 101], may), ([110, 97, 109, 101], may), ([105, 100], must)]
def proc (n : X.E) (ahead : List Pr) : Except Er Pr :=
 if n.sp.data.toList ≠ bpmnL ∨ n.lo.data.toList ≠ [112, 114, 111, 99, 101, 115, 115] then .error (121, n.ln, n.cl)
 else if trim n.tx.data.toList ≠ [] then .error (121, n.ln, n.cl)
 else match read procRules n.as with
  | .error e => .error (e, n.ln, n.cl)
  | .ok g => if ahead.any (fun q => decide (q.id = get g [105, 100])) then .error (6, n.ln, n.cl)
    else match things n.ks [] [] with
     | .error e => .error e
     | .ok (v, i) => .ok ⟨get g [105, 100], get g [110, 97, 109, 101], v, i⟩
def procs : X.N → List Pr → Except Er (List Pr)
 | .nil, l => .ok l
 | .cons sp lo al ks tx ln cl r, l => match proc ⟨sp, lo, al, ks, tx, ln, cl⟩ l with
   | .error e => .error e
   | .ok p => procs r (l ++ [p])
def bares : X.N → Bool
 | .nil => true
 | .cons _ _ _ ks _ _ _ r => bare ks && bares r
def callee (all : List Pr) (called : List UInt8) (names : List (List UInt8)) : Except Int Pr :=
 match all.find? (fun p => decide (p.id = called)) with
 | none => .error 120
 | some p => if names.any (fun n => decide (n = called)) then .error 84 else if p.vars ≠ [] then .error 121 else .ok p
def put (all : List Pr) : Nat → List It → List UInt8 → List UInt8 → List (List UInt8) → List El → List Fl → Option (Except Er (List El × List Fl))
 | 0, _, _, _, _, _, _ => none
 | _ + 1, [], _, _, _, es, fs => some (.ok (es, fs))
 | f + 1, i :: r, inn, ah, names, es, fs =>
   match i.fl with
   | some x => if fs.length = 128 then some (.error (3, i.ln, i.cl)) else put all f r inn ah names es (fs ++ [⟨ah ++ x.id, ah ++ x.fr, ah ++ x.dst⟩])
   | none =>
     if es.length = 64 then some (.error (3, i.ln, i.cl))
     else
      if i.e.kind = 10 ∧ i.call = true then
       match callee all i.called names with
       | .error e => some (.error (e, i.ln, i.cl))
       | .ok p => match put all f p.items (ah ++ i.e.id) ((ah ++ i.e.id) ++ [46]) (names ++ [i.called]) (es ++ [{i.e with id := ah ++ i.e.id, inn := inn, dflt := if i.e.dflt ≠ [] then ah ++ i.e.dflt else i.e.dflt, att := if i.e.kind = 9 then ah ++ i.e.att else i.e.att}]) fs with
         | none => none
         | some (.error e) => some (.error e)
         | some (.ok (es, fs)) => put all f r inn ah names es fs
      else put all f r inn ah names (es ++ [{i.e with id := ah ++ i.e.id, inn := inn, dflt := if i.e.dflt ≠ [] then ah ++ i.e.dflt else i.e.dflt, att := if i.e.kind = 9 then ah ++ i.e.att else i.e.att}]) fs
def buildRules : Rules := [([116, 97, 114, 103, 101, 116, 78, 97, 109, 101, 115, 112, 97, 99, 101], may), ([110, 97, 109, 101], may), ([105, 100], may)]
def build (n : X.E) : Option (Except Er M) :=
 if n.sp.data.toList ≠ bpmnL ∨ n.lo.data.toList ≠ [100, 101, 102, 105, 110, 105, 116, 105, 111, 110, 115] then some (.error (121, n.ln, n.cl))
 else if trim n.tx.data.toList ≠ [] then some (.error (121, n.ln, n.cl))
 else match read buildRules n.as with
  | .error e => some (.error (e, n.ln, n.cl))
  | .ok _ => match procs n.ks [] with
    | .error e => some (.error e)
    | .ok [] => some (.error (121, n.ln, n.cl))
    | .ok (p :: r) => match put (p :: r) 100 p.items [] [] [p.id] [] [] with
      | none => none
      | some (.error e) => some (.error e)
      | some (.ok (es, fs)) => some (.ok ⟨p.id, p.nm, p.vars, es, fs⟩)
end O
end Go.Proofs.YteejphiklpnjhaaGreatDoor
namespace Go.Proofs.YteejphiklpnjhaaGreatDoor
set_option maxRecDepth 100000
set_option maxHeartbeats 16000000
namespace O
def text (l : List UInt8) : Option (Except Int M) := match X.parse l with
 | .error (_, er) => some (.error er)
 | .ok n => match build n with
   | none => none
   | some (.error e) => some (.error e.1)
   | some (.ok m) => some (.ok m)
def call1 : List UInt8 := [60, 98, 58, 100, 101, 102, 105, 110, 105, 116, 105, 111, 110, 115, 32, 120, 109, 108, 110, 115, 58, 98, 61, 34, 104, 116, 116, 112, 58, 47, 47, 119, 119, 119, 46, 111, 109, 103, 46, 111] ++ ([114, 103, 47, 115, 112, 101, 99, 47, 66, 80, 77, 78, 47, 50, 48, 49, 48, 48, 53, 50, 52, 47, 77, 79, 68, 69, 76, 34, 32, 120, 109, 108, 110, 115, 58, 116, 61, 34, 117, 114] ++ ([110, 58, 116, 111, 108, 108, 103, 97, 116, 101, 34, 62, 60, 98, 58, 112, 114, 111, 99, 101, 115, 115, 32, 105, 100, 61, 34, 112, 34, 62, 60, 98, 58, 99, 97, 108, 108, 65, 99, 116] ++ ([105, 118, 105, 116, 121, 32, 105, 100, 61, 34, 99, 34, 32, 99, 97, 108, 108, 101, 100, 69, 108, 101, 109, 101, 110, 116, 61, 34])))
def call2 : List UInt8 := [34, 47, 62, 60, 47, 98, 58, 112, 114, 111, 99, 101, 115, 115, 62, 60, 98, 58, 112, 114, 111, 99, 101, 115, 115, 32, 105, 100, 61, 34, 113, 34, 62, 60, 98, 58, 117, 115, 101, 114] ++ ([84, 97, 115, 107, 32, 105, 100, 61, 34, 97, 34, 47, 62, 60, 47, 98, 58, 112, 114, 111, 99, 101, 115, 115, 62, 60, 47, 98, 58, 100, 101, 102, 105, 110, 105, 116, 105, 111, 110, 115] ++ ([62]))
def calT (q : List UInt8) : List UInt8 := call1 ++ q ++ call2
def whole1 : List UInt8 := [60, 98, 58, 100, 101, 102, 105, 110, 105, 116, 105, 111, 110, 115, 32, 120, 109, 108, 110, 115, 58, 98, 61, 34, 104, 116, 116, 112, 58, 47, 47, 119, 119, 119, 46, 111, 109, 103, 46, 111] ++ ([114, 103, 47, 115, 112, 101, 99, 47, 66, 80, 77, 78, 47, 50, 48, 49, 48, 48, 53, 50, 52, 47, 77, 79, 68, 69, 76, 34, 32, 120, 109, 108, 110, 115, 58, 116, 61, 34, 117, 114] ++ ([110, 58, 116, 111, 108, 108, 103, 97, 116, 101, 34, 62, 60, 98, 58, 112, 114, 111, 99, 101, 115, 115, 32, 105, 100, 61, 34, 112, 34, 62]))
def whole2 : List UInt8 := [60, 47, 98, 58, 112, 114, 111, 99, 101, 115, 115, 62, 60, 47, 98, 58, 100, 101, 102, 105, 110, 105, 116, 105, 111, 110, 115, 62]
def whoT (q : List UInt8) : List UInt8 := whole1 ++ q ++ whole2
def lastL : List UInt8 := [60, 98, 58, 100, 101, 102, 105, 110, 105, 116, 105, 111, 110, 115, 32, 120, 109, 108, 110, 115, 58, 98, 61, 34, 104, 116, 116, 112, 58, 47, 47, 119, 119, 119, 46, 111, 109, 103, 46, 111] ++ ([114, 103, 47, 115, 112, 101, 99, 47, 66, 80, 77, 78, 47, 50, 48, 49, 48, 48, 53, 50, 52, 47, 77, 79, 68, 69, 76, 34, 32, 120, 109, 108, 110, 115, 58, 116, 61, 34, 117, 114] ++ ([110, 58, 116, 111, 108, 108, 103, 97, 116, 101, 34, 62, 60, 47, 98, 58, 100, 101, 102, 105, 110, 105, 116, 105, 111, 110, 115, 62]))
def awL : List UInt8 := [60, 116, 58, 118, 97, 114, 105, 97, 98, 108, 101, 32, 110, 97, 109, 101, 61, 34, 120, 34, 32, 116, 121, 112, 101, 61, 34, 105, 110, 116, 34, 32, 105, 110, 105, 116, 61, 34, 51, 34] ++ ([47, 62, 60, 98, 58, 115, 116, 97, 114, 116, 69, 118, 101, 110, 116, 32, 105, 100, 61, 34, 115, 34, 47, 62, 60, 98, 58, 101, 110, 100, 69, 118, 101, 110, 116, 32, 105, 100, 61, 34] ++ ([101, 34, 47, 62, 60, 98, 58, 115, 101, 113, 117, 101, 110, 99, 101, 70, 108, 111, 119, 32, 105, 100, 61, 34, 102, 34, 32, 115, 111, 117, 114, 99, 101, 82, 101, 102, 61, 34, 115, 34] ++ ([32, 116, 97, 114, 103, 101, 116, 82, 101, 102, 61, 34, 101, 34, 47, 62])))
def qM : M := ⟨[112], [], [], [⟨[99], [], 10, [], [], [], 0⟩, ⟨[99, 46, 97], [], 3, [99], [], [], 0⟩], []⟩
def awM : M := ⟨[112], [], [⟨[120], 3⟩], [⟨[115], [], 1, [], [], [], 0⟩, ⟨[101], [], 2, [], [], [], 0⟩], [⟨[102], [115], [101]⟩]⟩
theorem text_aw : text (whoT awL) = some (.ok awM) := by kernel_rfl
end O
end Go.Proofs.YteejphiklpnjhaaGreatDoor
