/- Plain: keys as bytes. No program in sight. Written by hand for this claim. -/
import Derived.Test.YtfadnhihcobclaaDoorKPlainA
import Derived.Lib.Replace
namespace Go.Proofs.YtfadnhihcobclaaDoor
namespace K
/-- so many of eight bytes, the highest first -/
def beN (u k : Nat) : List UInt8 := (List.range k).map fun j => UInt8.ofNat (u / 2 ^ (56 - 8 * j))
theorem beN_succ (u k : Nat) : beN u (k + 1) = beN u k ++ [UInt8.ofNat (u / 2 ^ (56 - 8 * k))] := by simp [beN, List.range_succ]
theorem beN_length (u k : Nat) : (beN u k).length = k := by simp [beN]
/-- a part of a key -/
structure Part where
  text : Bool
  n : Int
  say : ByteArray
def Part.cells (p : Part) : List Value := [.bool p.text, .int .i64 p.n, .string p.say]
def rowOf : List Part → List Value
  | [] => []
  | p :: r => p.cells ++ rowOf r
theorem rowOf_get : ∀ (ps : List Part) (k : Nat) (h : k < ps.length), (rowOf ps)[k * 3]? = some (.bool ps[k].text) ∧ (rowOf ps)[k * 3 + 1]? = some (.int .i64 ps[k].n) ∧ (rowOf ps)[k * 3 + 2]? = some (.string ps[k].say)
  | p :: r, 0, _ => ⟨rfl, rfl, rfl⟩
  | p :: r, k + 1, h => by
    have := rowOf_get r k (by simp at h; omega)
    simp only [rowOf, Part.cells, List.cons_append, List.nil_append, List.getElem_cons_succ]
    rw [show (k + 1) * 3 = k * 3 + 1 + 1 + 1 by omega, show k * 3 + 1 + 1 + 1 + 1 = (k * 3 + 1) + 1 + 1 + 1 by omega, show k * 3 + 1 + 1 + 1 + 2 = (k * 3 + 2) + 1 + 1 + 1 by omega]
    simp only [List.getElem?_cons_succ]
    exact this
/-- a number's bits, the sign turned -/
def flipN (x : Int) : Nat := (bits .xor .u64 (IntKind.u64.wrap x) 9223372036854775808).toNat
def esc (l : List UInt8) : List UInt8 := Lib.replaceAll l [0] [0, 255]
/-- may a part not be? -/
def Part.bad (p : Part) : Bool := (p.text && decide (p.n ≠ 0)) || (!p.text && decide (p.say.size ≠ 0))
def Part.bytes (p : Part) : List UInt8 := if p.text then 2 :: (esc p.say.data.toList ++ [0, 0]) else 1 :: beN (flipN p.n) 8
def packL : List Part → List UInt8
  | [] => []
  | p :: r => p.bytes ++ packL r
def anyBad : List Part → Bool
  | [] => false
  | p :: r => p.bad || anyBad r
/-- the bytes and the error -/
def pack (ps : List Part) : List UInt8 × Int := if 16 < ps.length then ([], 3) else if anyBad ps then ([], 1) else (packL ps, 0)
theorem packL_append : ∀ (a b : List Part), packL (a ++ b) = packL a ++ packL b
  | [], b => rfl
  | p :: a, b => by simp only [List.cons_append, packL, packL_append a b, List.append_assoc]
theorem anyBad_append : ∀ (a b : List Part), anyBad (a ++ b) = (anyBad a || anyBad b)
  | [], b => rfl
  | p :: a, b => by simp only [List.cons_append, anyBad, anyBad_append a b, Bool.or_assoc]
end K
end Go.Proofs.YtfadnhihcobclaaDoor
