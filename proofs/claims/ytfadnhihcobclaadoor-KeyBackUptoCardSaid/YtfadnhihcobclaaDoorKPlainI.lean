/- Plain: records as bytes. No program in sight. Written by hand for this claim. -/
import Derived.Test.YtfadnhihcobclaaDoorKPlainP
namespace Go.Proofs.YtfadnhihcobclaaDoor
namespace K
/-- items one behind the other: kind, number, text, the items in it; the rest -/
inductive Items where
  | nil
  | cons (kind : Nat) (n : Int) (say : ByteArray) (list rest : Items)
def Items.length : Items → Nat
  | .nil => 0
  | .cons _ _ _ _ r => r.length + 1
/-- a count's bytes: groups of seven bits, the lowest first -/
def cntF : Nat → Nat → List UInt8
  | 0, _ => []
  | f + 1, n => if n < 128 then [UInt8.ofNat n] else UInt8.ofNat (n % 128 + 128) :: cntF f (n / 128)
def cnt (n : Nat) : List UInt8 := cntF 10 n
theorem cntF_length : ∀ f n, (cntF f n).length ≤ f
  | 0, _ => Nat.le_refl _
  | f + 1, n => by
    unfold cntF
    split
    · simp
    · simp [cntF_length f]
/-- a number's sign in its lowest bit -/
def zig (n : Int) : Nat := if 0 ≤ n then (2 * n).toNat else (-2 * n - 1).toNat
/-- one item: its bytes and the error; 'inner' is what its list gives -/
def one (k : Nat) (n : Int) (s : ByteArray) (c : Nat) (d : Nat) (inner : List UInt8 × Int) : List UInt8 × Int :=
  if k = 1 ∧ s.size = 0 ∧ c = 0 then (1 :: cnt (zig n), 0)
  else if k = 2 ∧ n = 0 ∧ c = 0 then (2 :: (cnt s.size ++ s.data.toList), 0)
  else if k = 3 ∧ n = 0 ∧ s.size = 0 then
    if d = 16 then ([], 84) else if inner.2 = 0 then (3 :: (cnt c ++ inner.1), 0) else ([], inner.2)
  else ([], 1)
/-- the items' bytes and the error; d: how deep the list is in which they stand -/
def enc : Items → Nat → List UInt8 × Int
  | .nil, _ => ([], 0)
  | .cons k n s l r, d =>
    if (one k n s l.length d (enc l (d + 1))).2 = 0 then ((one k n s l.length d (enc l (d + 1))).1 ++ (enc r d).1, (enc r d).2)
    else ([], (one k n s l.length d (enc l (d + 1))).2)
/-- how many bytes at most -/
def Items.room : Items → Nat
  | .nil => 0
  | .cons _ _ s l r => 11 + s.size + l.room + r.room
/-- which items may stand in memory at all -/
def Items.may : Items → Prop
  | .nil => True
  | .cons k n s l r => k < 256 ∧ -9223372036854775808 ≤ n ∧ n ≤ 9223372036854775807 ∧ s.size ≤ 140737488351232 ∧ l.length ≤ 9223372036854775807 ∧ l.may ∧ r.may
theorem Items.room_length : ∀ (l : Items), 11 * l.length ≤ l.room
  | .nil => Nat.le_refl _
  | .cons _ _ s l r => by
    have := Items.room_length r
    simp only [Items.length, Items.room]; omega
theorem one_room' (k : Nat) (n : Int) (s : ByteArray) (c d : Nat) (e : List UInt8 × Int) : (one k n s c d e).1.length ≤ 11 + s.size + e.1.length := by
  have c1 := cntF_length 10 (zig n)
  have c2 := cntF_length 10 s.size
  have c3 := cntF_length 10 c
  have es : s.data.toList.length = s.size := rfl
  unfold one cnt
  split
  · simp; omega
  · split
    · simp only [List.length_cons, List.length_append]; omega
    · split
      · split
        · simp
        · split
          · simp only [List.length_cons, List.length_append]; omega
          · simp
      · simp
theorem enc_room : ∀ (l : Items) (d : Nat), (enc l d).1.length ≤ l.room
  | .nil, _ => by simp [enc, Items.room]
  | .cons k n s l r, d => by
    have h1 := enc_room l (d + 1)
    have h2 := enc_room r d
    have ho := one_room' k n s l.length d (enc l (d + 1))
    unfold enc
    split
    · simp only [List.length_append, Items.room]; omega
    · simp
theorem one_room (k : Nat) (n : Int) (s : ByteArray) (m : Items) (d : Nat) : (one k n s m.length d (enc m (d + 1))).1.length ≤ 11 + s.size + m.room := by
  have h1 := enc_room m (d + 1)
  have ho := one_room' k n s m.length d (enc m (d + 1))
  omega
/-- the record's bytes and the error -/
def encode (l : Items) : List UInt8 × Int := if (enc l 0).2 ≠ 0 then ([], (enc l 0).2) else if 100000 < (enc l 0).1.length then ([], 3) else ((enc l 0).1, 0)
end K
end Go.Proofs.YtfadnhihcobclaaDoor
