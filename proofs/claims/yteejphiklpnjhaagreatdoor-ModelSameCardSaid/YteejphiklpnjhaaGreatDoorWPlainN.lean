/- Plain: a text read as a number: the document's way (digit by digit, with int64's wraps, held against what is written) and the library's answer held against what is written: one function. No program in sight. Written by hand for this claim. -/
import Derived.Lib.ParseIntBTie
import Derived.Lib.ItoaLen
import Derived.RowKit
namespace Go.Proofs.YteejphiklpnjhaaGreatDoor
set_option maxRecDepth 100000
set_option maxHeartbeats 16000000
namespace W
open Go.Lib Go.RowKit
def isDig (c : UInt8) : Bool := decide (48 ≤ c.toNat ∧ c.toNat ≤ 57)
def step (m : Bool) (acc : Int) (c : UInt8) : Int := if m then wrap64 (10 * acc - ((c.toNat : Int) - 48)) else wrap64 (10 * acc + ((c.toNat : Int) - 48))
def scan (m : Bool) : Int → List UInt8 → Option Int
 | acc, [] => some acc
 | acc, c :: r => if isDig c then scan m (step m acc c) r else none
def minus (l : List UInt8) : Bool := decide (l.head? = some 45)
def holdTo (l : List UInt8) : Option Int → Int × Bool
 | some n => if itoa n = l then (n, true) else (0, false)
 | none => (0, false)
def refP (l : List UInt8) : Int × Bool := if 20 < l.length then (0, false) else holdTo l (scan (minus l) 0 (if minus l then l.drop 1 else l))
def libP (l : List UInt8) : Option Int := match parseIntB 64 l with | .ok v => some v | _ => none
def parseW (l : List UInt8) : Int × Bool := holdTo l (libP l)
def Fits (n : Int) : Prop := -9223372036854775808 ≤ n ∧ n ≤ 9223372036854775807
theorem dig_ofNat (k : Nat) (h : k < 10) : (UInt8.ofNat (48 + k)).toNat = 48 + k := by simp; omega
theorem dec_head (u : Nat) : ∃ k r, k < 10 ∧ decDigits u = UInt8.ofNat (48 + k) :: r := by
 induction u using Nat.strongRecOn with
 | ind u ih =>
   rw [decDigits]
   by_cases h : u < 10
   · rw [dif_pos h]; exact ⟨u, [], h, rfl⟩
   · rw [dif_neg h]
     obtain ⟨k, r, hk, e⟩ := ih (u / 10) (by omega)
     rw [e]; exact ⟨k, r ++ [UInt8.ofNat (48 + u % 10)], hk, rfl⟩
theorem pUM_append (M : Nat) : ∀ (l r : List UInt8) (acc a : Nat), parseUintM M acc l = .ok a → parseUintM M acc (l ++ r) = parseUintM M a r
 | [], r, acc, a, h => by simp only [parseUintM] at h; cases h; rfl
 | c :: l, r, acc, a, h => by
   simp only [parseUintM] at h
   split at h
   · rename_i hd
     split at h
     · cases h
     · rename_i h1
       split at h
       · cases h
       · rename_i h2
         simp only [List.cons_append, parseUintM]
         rw [if_pos hd, if_neg h1, if_neg h2]
         exact pUM_append M l r _ a h
   · cases h
theorem pUM_dec (u : Nat) (hu : u ≤ 18446744073709551615) : parseUintM 18446744073709551615 0 (decDigits u) = .ok u := by
 induction u using Nat.strongRecOn with
 | ind u ih =>
   rw [decDigits]
   by_cases h : u < 10
   · rw [dif_pos h]
     simp only [parseUintM, dig_ofNat u h]
     rw [if_pos (by omega), if_neg (by omega), if_neg (by omega)]
     congr 1; omega
   · rw [dif_neg h, pUM_append _ _ _ _ _ (ih (u / 10) (by omega) (by omega))]
     simp only [parseUintM, dig_ofNat (u % 10) (by omega)]
     rw [if_pos (by omega), if_neg (by omega), if_neg (by omega)]
     congr 1; omega
theorem lib_itoa (n : Int) (h : Fits n) : libP (itoa n) = some n := by
 unfold Fits at h
 unfold libP
 by_cases hn : n < 0
 · have e : itoa n = 45 :: decDigits n.natAbs := by unfold itoa; rw [if_pos hn]
   obtain ⟨k, r, hk, e1⟩ := dec_head n.natAbs
   have hne : decDigits n.natAbs ≠ [] := by rw [e1]; simp
   have hp : parseUintB 64 (decDigits n.natAbs) = .ok n.natAbs := by
    unfold parseUintB
    rw [if_neg hne]
    exact pUM_dec _ (by omega)
   rw [e]
   have e45 : (45 : UInt8).toNat = 45 := rfl
   simp only [parseIntB, e45, or_true, ite_true, hp, not_true_eq_false, false_and, ite_false, true_and]
   rw [if_neg (by show ¬ (2 ^ 63 < n.natAbs); omega)]
   simp only; congr 1; omega
 · have e : itoa n = decDigits n.toNat := by unfold itoa; rw [if_neg hn]
   obtain ⟨k, r, hk, e1⟩ := dec_head n.toNat
   have hne : decDigits n.toNat ≠ [] := by rw [e1]; simp
   have hp : parseUintB 64 (decDigits n.toNat) = .ok n.toNat := by
    unfold parseUintB
    rw [if_neg hne]
    exact pUM_dec _ (by omega)
   rw [e]
   rw [e1] at hp ⊢
   have hd := dig_ofNat k hk
   simp only [parseIntB, hd]
   rw [if_neg (by omega), hp]
   simp only
   rw [if_neg (by rintro ⟨_, h2⟩; have : (2 : Nat) ^ 63 ≤ n.toNat := h2; omega), if_neg (by omega), if_neg (by omega)]
   simp only; congr 1; omega
theorem lib_fits (l : List UInt8) (n : Int) (h : libP l = some n) : Fits n := by
 unfold libP at h
 split at h
 · rename_i v hv
   cases h
   have := parseIntB_bounds hv
   unfold Fits
   have e : (2 ^ (64 - 1) : Nat) = 9223372036854775808 := by decide
   rw [e] at this
   omega
 · cases h
end W
end Go.Proofs.YteejphiklpnjhaaGreatDoor
