/- Plain: how a text is quoted, and a quoted one read. No program in sight. Written by hand for this claim. -/
import Derived.Test.YtohdifffdgoaaaaDoorWPlainA
namespace Go.Proofs.YtohdifffdgoaaaaDoor
namespace W

/-- a digit of base sixteen -/
def hexD (n : Nat) : UInt8 := if n < 10 then UInt8.ofNat (48 + n) else UInt8.ofNat (87 + n)
/-- how a byte is quoted -/
def byteQ (c : UInt8) : List UInt8 :=
  if c.toNat = 34 ∨ c.toNat = 92 then [92, c]
  else if c.toNat = 10 then [92, 110]
  else if c.toNat < 32 ∨ 126 < c.toNat then [92, 120, hexD (c.toNat / 16), hexD (c.toNat % 16)]
  else [c]
def quoteIn : List UInt8 → List UInt8
  | [] => []
  | c :: r => byteQ c ++ quoteIn r
/-- a text quoted -/
def quoteL (l : List UInt8) : List UInt8 := 34 :: (quoteIn l ++ [34])

theorem quoteIn_append : ∀ (a b : List UInt8), quoteIn (a ++ b) = quoteIn a ++ quoteIn b
  | [], b => rfl
  | c :: a, b => by simp only [List.cons_append, quoteIn, quoteIn_append a b, List.append_assoc]
theorem byteQ_length (c : UInt8) : 1 ≤ (byteQ c).length ∧ (byteQ c).length ≤ 4 := by
  unfold byteQ
  repeat' split
  all_goals simp
theorem quoteIn_length : ∀ (l : List UInt8), (quoteIn l).length ≤ 4 * l.length
  | [] => by simp [quoteIn]
  | c :: l => by
    have := quoteIn_length l
    have := (byteQ_length c).2
    simp only [quoteIn, List.length_append, List.length_cons]
    omega
end W
end Go.Proofs.YtohdifffdgoaaaaDoor
