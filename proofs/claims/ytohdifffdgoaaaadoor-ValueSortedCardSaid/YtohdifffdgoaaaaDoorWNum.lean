/- The walks of the functions on numbers: how a number is written. -/
import Derived.Test.YtohdifffdgoaaaaDoorWChar
import Derived.Test.YtohdifffdgoaaaaDoorShelfN
import Derived.Lib.ItoaLen
import Derived.Lib.AppendIntMem
import Derived.Laws.BitsAllLaws
namespace Go.Proofs.YtohdifffdgoaaaaDoor
open Go.RowKit
open Go.Lib (hid decDigits itoa)

namespace W
/-- the digits that are written so far stand behind those of what is left -/
def digs (u : Nat) : List UInt8 := if u = 0 then [] else decDigits u
theorem digs_step (u : Nat) (h : 0 < u) : decDigits u = digs (u / 10) ++ [UInt8.ofNat (48 + u % 10)] := by
  unfold digs
  rw [Lib.decDigits]
  by_cases h1 : u < 10
  · rw [dif_pos h1, if_pos (by omega), show u % 10 = u by omega]; rfl
  · rw [dif_neg h1, if_neg (by omega)]
theorem digs_pos (u : Nat) (h : 0 < u) : digs u = decDigits u := by unfold digs; rw [if_neg (by omega)]
end W

theorem u64_not (x : Int) (h0 : 0 ≤ x) (h1 : x < 18446744073709551616) : bits .xor .u64 IntKind.u64.max x = 18446744073709551615 - x := by
  obtain ⟨a, rfl⟩ := Int.eq_ofNat_of_zero_le h0
  show IntKind.u64.wrap ((BitVec.ofInt 64 (IntKind.u64.max) ^^^ BitVec.ofInt 64 (a : Int)).toNat : Int) = _
  have h2 : BitVec.ofInt 64 (IntKind.u64.max) = BitVec.allOnes 64 := by decide
  rw [h2, BitVec.allOnes_xor, BitVec.toNat_not, ofInt_u64 a (by omega)]
  simp [IntKind.wrap, IntKind.bits, IntKind.signed]
  omega
theorem neg_u64 (n : Int) (h0 : n < 0) (h1 : -9223372036854775808 ≤ n) : IntKind.u64.wrap (1 + bits .xor .u64 IntKind.u64.max (IntKind.u64.wrap n)) = (n.natAbs : Int) := by
  have hw : IntKind.u64.wrap n = n + 18446744073709551616 := by
    simp [IntKind.wrap, IntKind.bits, IntKind.signed]
    omega
  rw [hw, u64_not _ (by omega) (by omega)]
  simp [IntKind.wrap, IntKind.bits, IntKind.signed]
  omega
/-- the one byte that a round writes, ahead of what was written -/
theorem digit_append (x : UInt8) (t : List UInt8) : (⟨#[x]⟩ : ByteArray) ++ ⟨t.toArray⟩ = ⟨(x :: t).toArray⟩ := by
  apply ByteArray.ext
  simp [ByteArray.data_append]

set_option maxHeartbeats 1000000 in
theorem refNumber_pos (n : Int) (w : World) (h0 : 0 < n) (h1 : n ≤ 9223372036854775807) :
    Calls Tryd.prog 79 #[.int .i64 n] w fun e w' => e = .returned (.string ⟨(itoa n).toArray⟩) ∧ Below w.heap.size w w' := by
  have t0 : (n == 0) = false := beq_eq_false_iff_ne.2 (by omega)
  have t1 : decide (n < 0) = false := by simp; omega
  obtain ⟨U, rfl⟩ := Int.eq_ofNat_of_zero_le (show 0 ≤ n by omega)
  have hU : 0 < U := by omega
  obtain ⟨D, hD⟩ : ∃ D, decDigits U = D := ⟨_, rfl⟩
  have hI : Hid (itoa (U : Int) = D) := by
    show _ = _
    rw [← hD]; unfold itoa; rw [if_neg (by omega), Int.toNat_natCast]
  have hS : Hid (W.digs U ++ [] = D) := by
    show _ = _
    rw [W.digs_pos U hU, List.append_nil, hD]
  have hU1 : (U : Int) ≤ 9223372036854775807 := h1
  have hD20 : Hid (D.length ≤ 100) := by
    show _ ≤ _
    have := Lib.nDigits_le20 U (by omega)
    rw [← hD, Lib.decDigits_length]; omega
  obtain ⟨a, ha⟩ : ∃ a : Int, (U : Int) = a := ⟨_, rfl⟩
  rw [ha] at hI hU1 t0 t1 ⊢
  have hS' : Hid (W.digs a.toNat ++ [] = D) := by
    show _ = _
    rw [← ha, Int.toNat_natCast]; exact hS
  have ha0 : 0 < a := by omega
  clear hS ha hU h0 h1 hD
  go_enter Tryd.func79, Tryd.ntmps79
  go_wp2
  go_loopw [3, 5] (fun u t wr => ∃ (v : Int) (l : List UInt8), 0 ≤ v ∧ v ≤ 9223372036854775807 ∧ u = .int .u64 v ∧ t = .string ⟨l.toArray⟩ ∧ Hid (W.digs v.toNat ++ l = D) ∧ Below w.heap.size w wr) (fun u _ _ => (intOf u).toNat)
  case atStart => exact ⟨a, [], by omega, by omega, rfl, rfl, hS', Below.refl _ _⟩
  case round =>
    obtain ⟨v, l, hv0, hv, rfl, rfl, hl, hb⟩ := hrel
    have hl20 : Hid (l.length ≤ 100) := by
      show _ ≤ _
      have := congrArg List.length hl.out
      have := hD20.out
      simp at *
      omega
    by_cases hlt : 0 < v
    · have hc := conv_new wr [48 + v % 10] 1 rfl
      simp only [List.map_cons, List.map_nil] at hc
      obtain ⟨x, hx⟩ : ∃ x, UInt8.ofNat (48 + v % 10).toNat = x := ⟨_, rfl⟩
      rw [hx] at hc
      have HX := hid hx
      clear hx
      have hll := hl20.out
      have hcat : ∀ W : World, (Op.stringOp .add (⟨#[x]⟩ : ByteArray) ⟨l.toArray⟩).run Tryd.prog W = .ok (.string ⟨(x :: l).toArray⟩) W := fun W => run_string_add_lists W [x] l (by simp) (by omega)
      go_wp2
      go_roundw
      case rel =>
        refine ⟨v / 10, x :: l, by omega, by omega, rfl, rfl, ?_, hb.alloc hb.size _⟩
        show _ = _
        have e := W.digs_step v.toNat (by omega)
        rw [← hl.out, W.digs_pos v.toNat (by omega), e, ← HX.out, List.append_assoc, List.singleton_append]
        rw [show (v / 10).toNat = v.toNat / 10 by omega, show (48 + v % 10).toNat = 48 + v.toNat % 10 by omega]
      case measure => simp [intOf]; omega
    · obtain rfl : v = 0 := by omega
      have hF : Hid (l = D) := by
        show _ = _
        have := hl.out
        simpa [W.digs] using this
      have hcat : ∀ W : World, (Op.stringOp .add (⟨#[]⟩ : ByteArray) ⟨l.toArray⟩).run Tryd.prog W = .ok (.string ⟨l.toArray⟩) W := fun W => run_string_add_lists W [] l (by simp) (by have := hl20.out; omega)
      go_wp2
      go_ret
      exact ⟨by rw [hI.out, ← hF.out]; rfl, hb⟩

set_option maxHeartbeats 1000000 in
theorem refNumber_neg (n : Int) (w : World) (h0 : n < 0) (h1 : -9223372036854775808 ≤ n) :
    Calls Tryd.prog 79 #[.int .i64 n] w fun e w' => e = .returned (.string ⟨(itoa n).toArray⟩) ∧ Below w.heap.size w w' := by
  have t0 : (n == 0) = false := beq_eq_false_iff_ne.2 (by omega)
  have t1 : decide (n < 0) = true := by simp; omega
  have hneg := neg_u64 n h0 h1
  obtain ⟨U, hU⟩ : ∃ U : Nat, n.natAbs = U := ⟨_, rfl⟩
  have hU0 : 0 < U := by omega
  obtain ⟨D, hD⟩ : ∃ D, decDigits U = D := ⟨_, rfl⟩
  have hI : Hid (itoa n = 45 :: D) := by
    show _ = _
    rw [← hD, ← hU]; unfold itoa; rw [if_pos h0]
  have hS : Hid (W.digs U ++ [] = D) := by
    show _ = _
    rw [W.digs_pos U hU0, List.append_nil, hD]
  have hU1 : (U : Int) ≤ 9223372036854775808 := by omega
  have hD20 : Hid (D.length ≤ 100) := by
    show _ ≤ _
    have := Lib.nDigits_le20 U (by omega)
    rw [← hD, Lib.decDigits_length]; omega
  obtain ⟨a, ha⟩ : ∃ a : Int, (U : Int) = a := ⟨_, rfl⟩
  rw [hU, ha] at hneg
  rw [ha] at hU1
  have hS' : Hid (W.digs a.toNat ++ [] = D) := by
    show _ = _
    rw [← ha, Int.toNat_natCast]; exact hS
  have ha0 : 0 < a := by omega
  clear hS ha hU hU0 h0 h1 hD
  go_enter Tryd.func79, Tryd.ntmps79
  go_wp2
  go_loopw [3, 5] (fun u t wr => ∃ (v : Int) (l : List UInt8), 0 ≤ v ∧ v ≤ 9223372036854775808 ∧ u = .int .u64 v ∧ t = .string ⟨l.toArray⟩ ∧ Hid (W.digs v.toNat ++ l = D) ∧ Below w.heap.size w wr) (fun u _ _ => (intOf u).toNat)
  case atStart => exact ⟨a, [], by omega, by omega, rfl, rfl, hS', Below.refl _ _⟩
  case round =>
    obtain ⟨v, l, hv0, hv, rfl, rfl, hl, hb⟩ := hrel
    have hl20 : Hid (l.length ≤ 100) := by
      show _ ≤ _
      have := congrArg List.length hl.out
      have := hD20.out
      simp at *
      omega
    by_cases hlt : 0 < v
    · have hc := conv_new wr [48 + v % 10] 1 rfl
      simp only [List.map_cons, List.map_nil] at hc
      obtain ⟨x, hx⟩ : ∃ x, UInt8.ofNat (48 + v % 10).toNat = x := ⟨_, rfl⟩
      rw [hx] at hc
      have HX := hid hx
      clear hx
      have hll := hl20.out
      have hcat : ∀ W : World, (Op.stringOp .add (⟨#[x]⟩ : ByteArray) ⟨l.toArray⟩).run Tryd.prog W = .ok (.string ⟨(x :: l).toArray⟩) W := fun W => run_string_add_lists W [x] l (by simp) (by omega)
      go_wp2
      go_roundw
      case rel =>
        refine ⟨v / 10, x :: l, by omega, by omega, rfl, rfl, ?_, hb.alloc hb.size _⟩
        show _ = _
        have e := W.digs_step v.toNat (by omega)
        rw [← hl.out, W.digs_pos v.toNat (by omega), e, ← HX.out, List.append_assoc, List.singleton_append]
        rw [show (v / 10).toNat = v.toNat / 10 by omega, show (48 + v % 10).toNat = 48 + v.toNat % 10 by omega]
      case measure => simp [intOf]; omega
    · obtain rfl : v = 0 := by omega
      have hF : Hid (l = D) := by
        show _ = _
        have := hl.out
        simpa [W.digs] using this
      have hcat : ∀ W : World, (Op.stringOp .add (⟨#[45]⟩ : ByteArray) ⟨l.toArray⟩).run Tryd.prog W = .ok (.string ⟨(45 :: l).toArray⟩) W := fun W => run_string_add_lists W [45] l (by simp) (by have := hl20.out; omega)
      go_wp2
      go_ret
      exact ⟨by rw [hI.out, ← hF.out]; rfl, hb⟩

theorem refNumber_any (n : Int) (w : World) (h0 : -9223372036854775808 ≤ n) (h1 : n ≤ 9223372036854775807) :
    Calls Tryd.prog 79 #[.int .i64 n] w fun e w' => e = .returned (.string ⟨(itoa n).toArray⟩) ∧ Below w.heap.size w w' := by
  rcases Int.lt_trichotomy n 0 with h | rfl | h
  · exact refNumber_neg n w h h0
  · have hI : Hid (itoa 0 = [48]) := by
      show _ = _
      unfold itoa; rw [if_neg (by omega), Int.toNat_zero, Lib.decDigits, dif_pos (by omega)]; rfl
    go_enter Tryd.func79, Tryd.ntmps79
    go_wp2
    go_ret
    exact ⟨by rw [hI.out]; rfl, Below.refl _ _⟩
  · exact refNumber_pos n w h h1

/-- the table of the library's that a number is written by -/
def Pows (w : World) : Prop := Lib.TabIs Tryd.prog w "internal/strconv.uint64pow10" .u64 Lib.pow10Tab

theorem number_any (n : Int) (w : World) (h0 : -9223372036854775808 ≤ n) (h1 : n ≤ 9223372036854775807) (hP : Pows w) :
    Calls Tryd.prog 77 #[.int .i64 n] w fun e w' => e = .returned (.string ⟨(itoa n).toArray⟩) ∧ Below w.heap.size w w' := by
  have c := Tryd.strconv_FormatInt_10 n h0 h1 w hP
  generalize itoa n = D at c ⊢
  go_enter Tryd.func77, Tryd.ntmps77
  go_wp2_with fail
  refine c.mono ?_
  rintro e w1 ⟨rfl, k, os, rfl⟩
  go_wp2_with fail
  go_ret
  exact ⟨rfl, Lib.below_grow _ w (Nat.le_refl _) k os⟩
end Go.Proofs.YtohdifffdgoaaaaDoor
