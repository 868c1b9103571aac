/- Plain: numbers: the library's answer at digits alone; what a run of digits comes to. No program in sight. -/
import Derived.Test.YtphjfighamadgaaGreatDoorJA1
namespace Go.Proofs.YtphjfighamadgaaGreatDoor
open Go.Lib
namespace J
def foldV (acc : Nat) (ds : List UInt8) : Nat := ds.foldl (fun a c => 10 * a + (c.toNat - 48)) acc
theorem foldV_nil (acc : Nat) : foldV acc [] = acc := rfl
theorem foldV_cons (acc : Nat) (c : UInt8) (r : List UInt8) : foldV acc (c :: r) = foldV (10 * acc + (c.toNat - 48)) r := by unfold foldV; rw [List.foldl_cons]
theorem numV_fold (ds : List UInt8) : numV ds = foldV 0 ds := rfl
theorem foldV_ge : ∀ (ds : List UInt8) (acc : Nat), acc ≤ foldV acc ds
  | [], _ => Nat.le_refl _
  | c :: r, acc => by
    rw [foldV_cons]
    have := foldV_ge r (10 * acc + (c.toNat - 48))
    omega
theorem foldV_app (acc : Nat) (a b : List UInt8) : foldV acc (a ++ b) = foldV (foldV acc a) b := by unfold foldV; rw [List.foldl_append]
theorem pUM_cons (M acc : Nat) (c : UInt8) (r : List UInt8) : parseUintM M acc (c :: r) = if 48 ≤ c.toNat ∧ c.toNat ≤ 57 then (if 1844674407370955162 ≤ acc then .range else if M < acc * 10 + (c.toNat - 48) then .range else parseUintM M (acc * 10 + (c.toNat - 48)) r) else Go.Lib.NumEnd.syntax := rfl
theorem pUM_digs (M : Nat) (hM : M ≤ 18446744073709551615) (hM' : 18446744073709551615 ≤ M) (ds : List UInt8) : ∀ (acc : Nat), (∀ c ∈ ds, dig c = true) → acc ≤ M → parseUintM M acc ds = if foldV acc ds ≤ M then .ok (foldV acc ds) else .range := by
  induction ds with
  | nil =>
    intro acc _ h
    have e : foldV acc [] = acc := rfl
    rw [e, if_pos h]; rfl
  | cons c r ih =>
    intro acc hd h
    have hc : 48 ≤ c.toNat ∧ c.toNat ≤ 57 := by simpa [dig] using hd c (List.mem_cons_self ..)
    have hge := foldV_ge r (10 * acc + (c.toNat - 48))
    rw [foldV_cons, pUM_cons, if_pos hc, show acc * 10 + (c.toNat - 48) = 10 * acc + (c.toNat - 48) by omega]
    by_cases h1 : 1844674407370955162 ≤ acc
    · rw [if_pos h1, if_neg (by omega)]
    · rw [if_neg h1]
      by_cases h2 : M < 10 * acc + (c.toNat - 48)
      · rw [if_pos h2, if_neg (by omega)]
      · rw [if_neg h2]
        exact ih _ (fun x hx => hd x (List.mem_cons_of_mem _ hx)) (by omega)
theorem pUB_digs {ds : List UInt8} (h0 : ds ≠ []) (hd : ∀ c ∈ ds, dig c = true) : parseUintB 64 ds = if numV ds ≤ 18446744073709551615 then .ok (numV ds) else .range := by
  unfold parseUintB
  rw [if_neg h0]
  exact pUM_digs _ (by decide) (by decide) ds 0 hd (by omega)
theorem lib_neg {ds : List UInt8} (h0 : ds ≠ []) (hd : ∀ c ∈ ds, dig c = true) : W.libP (45 :: ds) = if numV ds ≤ 9223372036854775808 then some (-((numV ds : Nat) : Int)) else none := by
  unfold W.libP
  simp only [parseIntB]
  have e45 : (45 : UInt8).toNat = 45 := rfl
  rw [e45, if_pos (Or.inr rfl), pUB_digs h0 hd]
  have e : (2 ^ (64 - 1) : Nat) = 9223372036854775808 := by decide
  rw [e]
  generalize numV ds = n
  by_cases h1 : n ≤ 18446744073709551615
  · rw [if_pos h1]
    simp only [not_true_eq_false, false_and, if_false, true_and, if_true]
    by_cases h2 : n ≤ 9223372036854775808
    · rw [if_pos h2, if_neg (by omega)]
    · rw [if_neg h2, if_pos (by omega)]
  · rw [if_neg h1, if_neg (by omega)]
theorem lib_pos {ds : List UInt8} (h0 : ds ≠ []) (hd : ∀ c ∈ ds, dig c = true) : W.libP ds = if numV ds ≤ 9223372036854775807 then some ((numV ds : Nat) : Int) else none := by
  unfold W.libP
  have hp := pUB_digs h0 hd
  cases ds with
  | nil => exact absurd rfl h0
  | cons c r =>
    have hc : 48 ≤ c.toNat ∧ c.toNat ≤ 57 := by simpa [dig] using hd c (List.mem_cons_self ..)
    simp only [parseIntB]
    rw [if_neg (by omega), hp]
    have e : (2 ^ (64 - 1) : Nat) = 9223372036854775808 := by decide
    rw [e]
    have e45 : ¬ c.toNat = 45 := by omega
    generalize numV (c :: r) = n
    by_cases h1 : n ≤ 18446744073709551615
    · rw [if_pos h1]
      simp only [e45, not_false_eq_true, true_and, false_and, if_false]
      by_cases h2 : n ≤ 9223372036854775807
      · rw [if_pos h2, if_neg (by omega)]
      · rw [if_neg h2, if_pos (by omega)]
    · rw [if_neg h1, if_neg (by omega)]
/-- the answer of what begins at a number, its parts by name -/
def numR (neg : Bool) (tot : Nat) (l1 ds rest : List UInt8) : Res Int :=
  match ds with
  | [] => .error (l1.length, 4)
  | d :: more =>
    if d = 48 ∧ more ≠ [] then .error (l1.length - 1, 4)
    else if neg = true ∧ d = 48 then .error (l1.length, 4)
    else if neg = true then (if numV ds ≤ 9223372036854775808 then .ok (-(numV ds : Nat), rest) else .error (tot, 91))
    else if numV ds ≤ 9223372036854775807 then .ok ((numV ds : Nat), rest) else .error (tot, 91)
theorem num_minus (l1 : List UInt8) : num (45 :: l1) = numR true (l1.length + 1) l1 (l1.takeWhile dig) (l1.dropWhile dig) := rfl
theorem num_plain {c : UInt8} {l : List UInt8} (h : c ≠ 45) : num (c :: l) = numR false (l.length + 1) (c :: l) ((c :: l).takeWhile dig) ((c :: l).dropWhile dig) := by
  have hh : ((c :: l).head? == some 45) = false := by simp [h]
  unfold num numR
  simp only [hh, Bool.false_eq_true, if_false, List.length_cons, false_and]
  cases List.takeWhile dig (c :: l) <;> rfl
theorem take_digs (l : List UInt8) : ∀ c ∈ l.takeWhile dig, dig c = true := by
  have := List.all_takeWhile (l := l) (p := dig)
  rw [List.all_eq_true] at this
  exact this
theorem digs_len (l : List UInt8) : (l.takeWhile dig).length ≤ l.length := (List.takeWhile_prefix (p := dig) (l := l)).length_le
/-- what stands behind a run of digits is none -/
theorem dig_there {l : List UInt8} {k : Nat} (h : k < (l.takeWhile dig).length) : ∃ h' : k < l.length, dig (l[k]'(h')) = true ∧ (l.takeWhile dig)[k] = l[k]'(h') := by
  have h' : k < l.length := Nat.lt_of_lt_of_le h (digs_len l)
  have hp := List.takeWhile_prefix (p := dig) (l := l)
  have e := hp.getElem h
  exact ⟨h', by rw [← e]; exact take_digs l _ (List.getElem_mem h), e⟩
theorem dig_not : ∀ {l : List UInt8} (h : (l.takeWhile dig).length < l.length), dig (l[(l.takeWhile dig).length]'h) = false
  | c :: r, h => by
    by_cases hc : dig c = true
    · simp only [List.takeWhile_cons, hc, if_true, List.length_cons, Nat.add_lt_add_iff_right] at h
      have := dig_not h
      simpa [List.takeWhile_cons, hc] using this
    · simp [hc]
theorem digs_drop (l : List UInt8) : l.dropWhile dig = l.drop (l.takeWhile dig).length := by
  induction l with
  | nil => rfl
  | cons c r ih =>
    by_cases hc : dig c = true
    · simp [hc, ih]
    · simp [hc]
end J
end Go.Proofs.YtphjfighamadgaaGreatDoor
