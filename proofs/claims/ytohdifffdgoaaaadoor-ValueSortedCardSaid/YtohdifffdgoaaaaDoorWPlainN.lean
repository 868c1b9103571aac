/- Plain: a text read as a number: the document's way (digit by digit, with int64's wraps, held against what is written) and the library's answer held against what is written: one function. No program in sight. Written by hand for this claim. -/
import Derived.Lib.ParseIntBTie
import Derived.Lib.ItoaLen
import Derived.RowKit
namespace Go.Proofs.YtohdifffdgoaaaaDoor
namespace W
open Go.Lib Go.RowKit

def isDig (c : UInt8) : Bool := decide (48 ≤ c.toNat ∧ c.toNat ≤ 57)
/-- one digit more, as an int64 -/
def step (m : Bool) (acc : Int) (c : UInt8) : Int := if m then wrap64 (10 * acc - ((c.toNat : Int) - 48)) else wrap64 (10 * acc + ((c.toNat : Int) - 48))
/-- digit by digit -/
def scan (m : Bool) : Int → List UInt8 → Option Int
  | acc, [] => some acc
  | acc, c :: r => if isDig c then scan m (step m acc c) r else none
def minus (l : List UInt8) : Bool := decide (l.head? = some 45)
/-- what the digits come to must be written as it stands -/
def holdTo (l : List UInt8) : Option Int → Int × Bool
  | some n => if itoa n = l then (n, true) else (0, false)
  | none => (0, false)
def refP (l : List UInt8) : Int × Bool := if 20 < l.length then (0, false) else holdTo l (scan (minus l) 0 (if minus l then l.drop 1 else l))
/-- the library's answer -/
def libP (l : List UInt8) : Option Int := match parseIntB 64 l with | .ok v => some v | _ => none
def parseW (l : List UInt8) : Int × Bool := holdTo l (libP l)

def Fits (n : Int) : Prop := -9223372036854775808 ≤ n ∧ n ≤ 9223372036854775807

theorem wrap_fits (x : Int) : Fits (wrap64 x) := by unfold wrap64 Fits; omega
theorem wrap_id (x : Int) (h : Fits x) : wrap64 x = x := by unfold Fits at h; unfold wrap64; omega
theorem step_fits (m : Bool) (acc : Int) (c : UInt8) : Fits (step m acc c) := by unfold step; split <;> exact wrap_fits _
theorem scan_fits (m : Bool) : ∀ (l : List UInt8) (acc n : Int), Fits acc → scan m acc l = some n → Fits n
  | [], acc, n, h, e => by simp only [scan, Option.some.injEq] at e; subst e; exact h
  | c :: l, acc, n, h, e => by
    simp only [scan] at e
    split at e
    · exact scan_fits m l _ n (step_fits m acc c) e
    · cases e
theorem scan_append (m : Bool) : ∀ (l r : List UInt8) (acc : Int), scan m acc (l ++ r) = (scan m acc l).bind fun a => scan m a r
  | [], r, acc => rfl
  | c :: l, r, acc => by
    simp only [List.cons_append, scan]
    split
    · exact scan_append m l r _
    · rfl
theorem dig_ofNat (k : Nat) (h : k < 10) : (UInt8.ofNat (48 + k)).toNat = 48 + k := by simp; omega
theorem scan_one (m : Bool) (a : Int) (k : Nat) (h : k < 10) : scan m a [UInt8.ofNat (48 + k)] = some (wrap64 (10 * a + if m then -(k : Int) else k)) := by
  have hd := dig_ofNat k h
  have : isDig (UInt8.ofNat (48 + k)) = true := by unfold isDig; rw [hd]; simp; omega
  simp only [scan, this, ite_true, step, hd]
  cases m
  · simp only [Bool.false_eq_true, ite_false]; congr 2; omega
  · simp only [ite_true]; congr 2; omega
theorem scan_dec (m : Bool) (u : Nat) : scan m 0 (decDigits u) = some (wrap64 (if m then -(u : Int) else u)) := by
  induction u using Nat.strongRecOn with
  | ind u ih =>
    rw [decDigits]
    by_cases h : u < 10
    · rw [dif_pos h, scan_one m 0 u h]; congr 2; omega
    · rw [dif_neg h, scan_append, ih (u / 10) (by omega)]
      simp only [Option.bind_some]
      rw [scan_one m _ (u % 10) (by omega)]
      congr 1
      cases m
      · simp only [Bool.false_eq_true, ite_false]; unfold wrap64; omega
      · simp only [ite_true]; unfold wrap64; omega
theorem dec_head (u : Nat) : ∃ k r, k < 10 ∧ decDigits u = UInt8.ofNat (48 + k) :: r := by
  induction u using Nat.strongRecOn with
  | ind u ih =>
    rw [decDigits]
    by_cases h : u < 10
    · rw [dif_pos h]; exact ⟨u, [], h, rfl⟩
    · rw [dif_neg h]
      obtain ⟨k, r, hk, e⟩ := ih (u / 10) (by omega)
      rw [e]; exact ⟨k, r ++ [UInt8.ofNat (48 + u % 10)], hk, rfl⟩
theorem dec_minus (u : Nat) : minus (decDigits u) = false := by
  obtain ⟨k, r, hk, e⟩ := dec_head u
  rw [e]
  unfold minus
  simp only [List.head?_cons, Option.some.injEq, decide_eq_false_iff_not]
  intro h
  have := congrArg UInt8.toNat h
  rw [dig_ofNat k hk] at this
  have e45 : (45 : UInt8).toNat = 45 := rfl
  omega
theorem nDigits_le : ∀ (k u : Nat), 1 ≤ k → u < 10 ^ k → nDigits u ≤ k
  | 0, _, h, _ => by omega
  | k + 1, u, _, h => by
    by_cases h1 : u < 10
    · rw [nDigits_small h1]; omega
    · rw [nDigits_big h1]
      have h2 : u / 10 < 10 ^ k := by rw [Nat.div_lt_iff_lt_mul (by omega)]; rw [Nat.pow_succ] at h; exact h
      by_cases hk : 1 ≤ k
      · have := nDigits_le k (u / 10) hk h2; omega
      · obtain rfl : k = 0 := by omega
        simp at h2; omega
/-- what is written is read as it was, by the document's way -/
theorem ref_itoa (n : Int) (h : Fits n) : refP (itoa n) = (n, true) := by
  have hl := itoa_length_le n h.1 h.2
  unfold Fits at h
  unfold refP
  have hs : ¬ 20 < (itoa n).length := by
    unfold itoa
    split
    · simp only [List.length_cons, decDigits_length]
      have : nDigits n.natAbs ≤ 19 := nDigits_le 19 n.natAbs (by omega) (by omega)
      omega
    · rw [decDigits_length]
      have := nDigits_le20 n.toNat (by omega)
      omega
  rw [if_neg hs]
  by_cases hn : n < 0
  · have e : itoa n = 45 :: decDigits n.natAbs := by unfold itoa; rw [if_pos hn]
    have hm : minus (itoa n) = true := by rw [e]; simp [minus]
    rw [hm, if_pos rfl]
    have e2 : (itoa n).drop 1 = decDigits n.natAbs := by rw [e]; rfl
    rw [e2, scan_dec, if_pos rfl]
    have e3 : wrap64 (-(n.natAbs : Int)) = n := by rw [wrap_id _ (by unfold Fits; omega)]; omega
    rw [e3]
    show (if itoa n = itoa n then _ else _) = _
    rw [if_pos rfl]
  · have e : itoa n = decDigits n.toNat := by unfold itoa; rw [if_neg hn]
    have hm : minus (itoa n) = false := by rw [e]; exact dec_minus _
    rw [hm, if_neg (by simp)]
    have e2 : scan false 0 (itoa n) = some n := by
      rw [e, scan_dec, if_neg (by simp), wrap_id _ (by unfold Fits; omega)]; congr 1; omega
    rw [e2]
    show (if itoa n = itoa n then _ else _) = _
    rw [if_pos rfl]
theorem pUM_append (M : Nat) : ∀ (l r : List UInt8) (acc a : Nat), parseUintM M acc l = .ok a → parseUintM M acc (l ++ r) = parseUintM M a r
  | [], r, acc, a, h => by simp only [parseUintM] at h; cases h; rfl
  | c :: l, r, acc, a, h => by
    simp only [parseUintM] at h
    split at h
    · rename_i hd
      split at h
      · cases h
      · rename_i h1
        split at h
        · cases h
        · rename_i h2
          simp only [List.cons_append, parseUintM]
          rw [if_pos hd, if_neg h1, if_neg h2]
          exact pUM_append M l r _ a h
    · cases h
theorem pUM_dec (u : Nat) (hu : u ≤ 18446744073709551615) : parseUintM 18446744073709551615 0 (decDigits u) = .ok u := by
  induction u using Nat.strongRecOn with
  | ind u ih =>
    rw [decDigits]
    by_cases h : u < 10
    · rw [dif_pos h]
      simp only [parseUintM, dig_ofNat u h]
      rw [if_pos (by omega), if_neg (by omega), if_neg (by omega)]
      congr 1; omega
    · rw [dif_neg h, pUM_append _ _ _ _ _ (ih (u / 10) (by omega) (by omega))]
      simp only [parseUintM, dig_ofNat (u % 10) (by omega)]
      rw [if_pos (by omega), if_neg (by omega), if_neg (by omega)]
      congr 1; omega
/-- what is written is read as it was, by the library -/
theorem lib_itoa (n : Int) (h : Fits n) : libP (itoa n) = some n := by
  unfold Fits at h
  unfold libP
  by_cases hn : n < 0
  · have e : itoa n = 45 :: decDigits n.natAbs := by unfold itoa; rw [if_pos hn]
    obtain ⟨k, r, hk, e1⟩ := dec_head n.natAbs
    have hne : decDigits n.natAbs ≠ [] := by rw [e1]; simp
    have hp : parseUintB 64 (decDigits n.natAbs) = .ok n.natAbs := by
      unfold parseUintB
      rw [if_neg hne]
      exact pUM_dec _ (by omega)
    rw [e]
    have e45 : (45 : UInt8).toNat = 45 := rfl
    simp only [parseIntB, e45, or_true, ite_true, hp, not_true_eq_false, false_and, ite_false, true_and]
    rw [if_neg (by show ¬ (2 ^ 63 < n.natAbs); omega)]
    simp only; congr 1; omega
  · have e : itoa n = decDigits n.toNat := by unfold itoa; rw [if_neg hn]
    obtain ⟨k, r, hk, e1⟩ := dec_head n.toNat
    have hne : decDigits n.toNat ≠ [] := by rw [e1]; simp
    have hp : parseUintB 64 (decDigits n.toNat) = .ok n.toNat := by
      unfold parseUintB
      rw [if_neg hne]
      exact pUM_dec _ (by omega)
    rw [e]
    rw [e1] at hp ⊢
    have hd := dig_ofNat k hk
    simp only [parseIntB, hd]
    rw [if_neg (by omega), hp]
    simp only
    rw [if_neg (by rintro ⟨_, h2⟩; have : (2 : Nat) ^ 63 ≤ n.toNat := h2; omega), if_neg (by omega), if_neg (by omega)]
    simp only; congr 1; omega
theorem lib_fits (l : List UInt8) (n : Int) (h : libP l = some n) : Fits n := by
  unfold libP at h
  split at h
  · rename_i v hv
    cases h
    have := parseIntB_bounds hv
    unfold Fits
    have e : (2 ^ (64 - 1) : Nat) = 9223372036854775808 := by decide
    rw [e] at this
    omega
  · cases h
/-- ONE FUNCTION -/
theorem refP_eq (l : List UInt8) : refP l = parseW l := by
  by_cases hE : ∃ n, Fits n ∧ itoa n = l
  · obtain ⟨n, hn, rfl⟩ := hE
    rw [ref_itoa n hn]
    unfold parseW
    rw [lib_itoa n hn]
    show _ = if itoa n = itoa n then _ else _
    rw [if_pos rfl]
  · have h1 : parseW l = (0, false) := by
      unfold parseW
      cases hp : libP l with
      | none => rfl
      | some n =>
        show (if itoa n = l then _ else _) = _
        rw [if_neg (fun e => hE ⟨n, lib_fits l n hp, e⟩)]
    have h2 : refP l = (0, false) := by
      unfold refP
      split
      · rfl
      · cases hp : scan (minus l) 0 (if minus l then l.drop 1 else l) with
        | none => rfl
        | some n =>
          show (if itoa n = l then _ else _) = _
          rw [if_neg (fun e => hE ⟨n, scan_fits _ _ 0 n (by unfold Fits; omega) hp, e⟩)]
    rw [h1, h2]
end W
end Go.Proofs.YtohdifffdgoaaaaDoor
