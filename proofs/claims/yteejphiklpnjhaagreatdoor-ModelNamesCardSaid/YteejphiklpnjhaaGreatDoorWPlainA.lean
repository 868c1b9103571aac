/- Plain: what a name is, over the bytes of a text. No program in sight. Written by hand for this claim. -/
import Derived.Lib.ValidLaws
namespace Go.Proofs.YteejphiklpnjhaaGreatDoor
namespace W

/-- a letter -/
def letter (n : Nat) : Bool := decide (97 ≤ n ∧ n ≤ 122) || decide (65 ≤ n ∧ n ≤ 90)
/-- what may stand behind the first place only -/
def other (n : Nat) : Bool := decide (48 ≤ n ∧ n ≤ 57) || decide (n = 45) || decide (n = 95) || decide (n = 46)
/-- may the byte stand at the place? -/
def stands (i n : Nat) : Bool := letter n || (other n && decide (i ≠ 0))
/-- do all bytes from a place on stand? -/
def standsAll : Nat → List UInt8 → Bool
  | _, [] => true
  | i, c :: r => stands i c.toNat && standsAll (i + 1) r
/-- a name -/
def nameB (l : List UInt8) : Bool := decide (1 ≤ l.length ∧ l.length ≤ 32) && standsAll 0 l

/-- may all bytes stand somewhere? -/
def okAll : List UInt8 → Bool
  | [] => true
  | c :: r => (letter c.toNat || other c.toNat) && okAll r
end W
end Go.Proofs.YteejphiklpnjhaaGreatDoor
