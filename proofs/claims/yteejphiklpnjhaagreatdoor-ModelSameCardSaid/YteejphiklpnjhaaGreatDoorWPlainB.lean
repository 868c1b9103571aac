/- Plain: characters and where they begin, over the bytes of a text. No program in sight. Written by hand for this claim. -/
import Derived.Test.YteejphiklpnjhaaGreatDoorWPlainA
import Derived.Lib.TrimU
import Derived.Lib.DecodeNEq
import Derived.Lib.ValidLaws
namespace Go.Proofs.YteejphiklpnjhaaGreatDoor
set_option maxRecDepth 100000
set_option maxHeartbeats 16000000
namespace W
open Go.Lib
def charOk (c : Int) : Bool := decide (0 ≤ c ∧ c ≤ 55295) || decide (57344 ≤ c ∧ c ≤ 1114111)
def charB (n : Nat) : List Nat :=
 if n ≤ 127 then [n]
 else if n ≤ 2047 then [192 + n / 64, 128 + n % 64]
 else if n ≤ 65535 then [224 + n / 4096, 128 + n / 64 % 64, 128 + n % 64]
 else [240 + n / 262144, 128 + n / 4096 % 64, 128 + n / 64 % 64, 128 + n % 64]
def charN (n : Nat) : List UInt8 := (charB n).map UInt8.ofNat
def charL (c : Int) : List UInt8 := if charOk c then charN c.toNat else []
theorem charN_encode (n : Nat) (h : charOk n = true) : (Utf8.encode (n : Int)).data.toList = charN n := by
 simp only [charOk, Bool.or_eq_true, decide_eq_true_eq] at h
 have hv : Utf8.valid (n : Int) = true := by simp [Utf8.valid]; omega
 unfold Utf8.encode charN charB
 simp only [hv, ite_true, Int.toNat_natCast]
 by_cases h1 : n ≤ 127
 · rw [if_pos (by omega), if_pos h1]; rfl
 · rw [if_neg (by omega), if_neg h1]
   by_cases h2 : n ≤ 2047
   · rw [if_pos (by omega), if_pos h2]; rfl
   · rw [if_neg (by omega), if_neg h2]
     by_cases h3 : n ≤ 65535
     · rw [if_pos (by omega), if_pos h3]; rfl
     · rw [if_neg (by omega), if_neg h3]; rfl
def headD (l : List UInt8) : Int × Int × Bool :=
 if (decodeL l).1 = 65533 ∧ (decodeL l).2 = 1 then (0, 0, false) else ((decodeL l).1, (decodeL l).2, true)
def atD (l : List UInt8) (i : Int) : Int × Int × Bool := if 0 ≤ i ∧ i < l.length then headD (l.drop i.toNat) else (0, 0, false)
def refW (b : Nat) : Nat := if 240 ≤ b then 4 else if 224 ≤ b then 3 else if 192 ≤ b then 2 else 1
def refV (b : Nat) : Int := if 240 ≤ b then (b : Int) - 240 else if 224 ≤ b then (b : Int) - 224 else if 192 ≤ b then (b : Int) - 192 else b
def refC (l : List UInt8) : Nat → Int
 | 0 => refV (l.getD 0 0).toNat
 | k + 1 => refC l k * 64 + ((l.getD (k + 1) 0).toNat : Int) - 128
def refD (l : List UInt8) : Int × Int × Bool :=
 let n := refW (l.getD 0 0).toNat
 if l.length < n then (0, 0, false)
 else if charOk (refC l (n - 1)) && decide (charL (refC l (n - 1)) = l.take n) then (refC l (n - 1), n, true) else (0, 0, false)
end W
end Go.Proofs.YteejphiklpnjhaaGreatDoor
