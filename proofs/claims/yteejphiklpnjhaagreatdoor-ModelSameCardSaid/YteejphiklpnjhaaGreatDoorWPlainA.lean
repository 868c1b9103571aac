/- Plain: what a name is, over the bytes of a text. No program in sight. Written by hand for this claim. -/
import Derived.Lib.ValidLaws
namespace Go.Proofs.YteejphiklpnjhaaGreatDoor
set_option maxRecDepth 100000
set_option maxHeartbeats 16000000
namespace W
def letter (n : Nat) : Bool := decide (97 ≤ n ∧ n ≤ 122) || decide (65 ≤ n ∧ n ≤ 90)
def other (n : Nat) : Bool := decide (48 ≤ n ∧ n ≤ 57) || decide (n = 45) || decide (n = 95) || decide (n = 46)
def stands (i n : Nat) : Bool := letter n || (other n && decide (i ≠ 0))
def standsAll : Nat → List UInt8 → Bool
 | _, [] => true
 | i, c :: r => stands i c.toNat && standsAll (i + 1) r
def nameB (l : List UInt8) : Bool := decide (1 ≤ l.length ∧ l.length ≤ 32) && standsAll 0 l
def okAll : List UInt8 → Bool
 | [] => true
 | c :: r => (letter c.toNat || other c.toNat) && okAll r
end W
end Go.Proofs.YteejphiklpnjhaaGreatDoor
