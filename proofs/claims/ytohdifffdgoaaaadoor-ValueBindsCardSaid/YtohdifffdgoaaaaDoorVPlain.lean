/- Plain: values and what is reckoned of them. No program in sight. Written by hand for this claim. -/
import Derived.Lib.Strings
import Derived.Lib.ValidLaws
import Derived.RowKit
namespace Go.Proofs.YtohdifffdgoaaaaDoor
namespace V
/-- a value: kind, number, truth, text -/
structure Val where
  k : Nat
  n : Int
  b : Bool
  s : ByteArray
def isInt (v : Val) : Bool := v.k == 1 && !v.b && decide (v.s.size = 0)
/-- may the value be? -/
def ok (v : Val) : Bool := (v.k == 1 && (!v.b && decide (v.s.size = 0))) || (v.k == 2 && (v.n == 0 && decide (v.s.size = 0))) || (v.k == 3 && (v.n == 0 && (!v.b && (decide (v.s.size ≤ 1024) && Lib.validD v.s.data.toList))))
def okE (v : Val) : Int := if ok v then 0 else 1
/-- what a reckoning answers: the value's kind and number, and the error -/
structure Res where
  k : Nat
  n : Int
  e : Int
def typ : Res := ⟨0, 0, 90⟩
def over : Res := ⟨0, 0, 91⟩
def num (n : Int) : Res := ⟨1, n, 0⟩
/-- a number, if it is in range -/
def ranged (n : Int) : Res := if -9223372036854775808 ≤ n ∧ n ≤ 9223372036854775807 then num n else over
end V
end Go.Proofs.YtohdifffdgoaaaaDoor
