/- Plain: characters and where they begin, over the bytes of a text. No program in sight. Written by hand for this claim. -/
import Derived.Test.YtakplnceiibmlaaGreatDoorWPlainA
import Derived.Lib.TrimU
import Derived.Lib.DecodeNEq
import Derived.Lib.ValidLaws
namespace Go.Proofs.YtakplnceiibmlaaGreatDoor
namespace W
open Go.Lib

/-- may the number be a character? -/
def charOk (c : Int) : Bool := decide (0 ≤ c ∧ c ≤ 55295) || decide (57344 ≤ c ∧ c ≤ 1114111)
/-- the bytes of a character, as numbers -/
def charB (n : Nat) : List Nat :=
  if n ≤ 127 then [n]
  else if n ≤ 2047 then [192 + n / 64, 128 + n % 64]
  else if n ≤ 65535 then [224 + n / 4096, 128 + n / 64 % 64, 128 + n % 64]
  else [240 + n / 262144, 128 + n / 4096 % 64, 128 + n / 64 % 64, 128 + n % 64]
def charN (n : Nat) : List UInt8 := (charB n).map UInt8.ofNat
def charL (c : Int) : List UInt8 := if charOk c then charN c.toNat else []

theorem charB_lt (n : Nat) (h : n ≤ 1114111) : ∀ x ∈ charB n, x < 256 := by
  unfold charB
  repeat' split
  all_goals simp
  all_goals omega
theorem charN_toNat (n : Nat) (h : n ≤ 1114111) : (charN n).map UInt8.toNat = charB n := by
  unfold charN
  rw [List.map_map]
  conv => rhs; rw [← List.map_id (charB n)]
  apply List.map_congr_left
  intro x hx
  have := charB_lt n h x hx
  simp; omega
theorem toNat_inj : ∀ (l r : List UInt8), l.map UInt8.toNat = r.map UInt8.toNat → l = r
  | [], [], _ => rfl
  | [], _ :: _, h => by simp at h
  | _ :: _, [], h => by simp at h
  | a :: l, b :: r, h => by
    simp only [List.map_cons, List.cons.injEq] at h
    rw [UInt8.toNat_inj.1 h.1, toNat_inj l r h.2]
theorem charN_eq (n : Nat) (h : n ≤ 1114111) (l : List UInt8) : charN n = l ↔ charB n = l.map UInt8.toNat :=
  ⟨fun e => by rw [← e, charN_toNat n h], fun e => toNat_inj _ _ (by rw [charN_toNat n h, e])⟩
theorem charN_encode (n : Nat) (h : charOk n = true) : (Utf8.encode (n : Int)).data.toList = charN n := by
  simp only [charOk, Bool.or_eq_true, decide_eq_true_eq] at h
  have hv : Utf8.valid (n : Int) = true := by simp [Utf8.valid]; omega
  unfold Utf8.encode charN charB
  simp only [hv, ite_true, Int.toNat_natCast]
  by_cases h1 : n ≤ 127
  · rw [if_pos (by omega), if_pos h1]; rfl
  · rw [if_neg (by omega), if_neg h1]
    by_cases h2 : n ≤ 2047
    · rw [if_pos (by omega), if_pos h2]; rfl
    · rw [if_neg (by omega), if_neg h2]
      by_cases h3 : n ≤ 65535
      · rw [if_pos (by omega), if_pos h3]; rfl
      · rw [if_neg (by omega), if_neg h3]; rfl

/-- what begins at the head of bytes: the character, its width, whether there is one -/
def headD (l : List UInt8) : Int × Int × Bool :=
  if (decodeL l).1 = 65533 ∧ (decodeL l).2 = 1 then (0, 0, false) else ((decodeL l).1, (decodeL l).2, true)
/-- what begins at a place -/
def atD (l : List UInt8) (i : Int) : Int × Int × Bool := if 0 ≤ i ∧ i < l.length then headD (l.drop i.toNat) else (0, 0, false)

/-- the document's answer: how many bytes the first one tells, and what is left of it -/
def refW (b : Nat) : Nat := if 240 ≤ b then 4 else if 224 ≤ b then 3 else if 192 ≤ b then 2 else 1
def refV (b : Nat) : Int := if 240 ≤ b then (b : Int) - 240 else if 224 ≤ b then (b : Int) - 224 else if 192 ≤ b then (b : Int) - 192 else b
/-- with so many bytes taken -/
def refC (l : List UInt8) : Nat → Int
  | 0 => refV (l.getD 0 0).toNat
  | k + 1 => refC l k * 64 + ((l.getD (k + 1) 0).toNat : Int) - 128
def refD (l : List UInt8) : Int × Int × Bool :=
  let n := refW (l.getD 0 0).toNat
  if l.length < n then (0, 0, false)
  else if charOk (refC l (n - 1)) && decide (charL (refC l (n - 1)) = l.take n) then (refC l (n - 1), n, true) else (0, 0, false)

theorem refC_bound (l : List UInt8) (k : Nat) (h : k ≤ 3) : -1000000 ≤ refC l k ∧ refC l k ≤ 100000000 := by
  have hb : ∀ j, (l.getD j 0).toNat < 256 := fun j => UInt8.toNat_lt _
  have h0 := hb 0
  have h1 := hb 1
  have h2 := hb 2
  have h3 := hb 3
  have hv : -1 ≤ refV (l.getD 0 0).toNat ∧ refV (l.getD 0 0).toNat ≤ 255 := by unfold refV; repeat' split <;> omega
  match k, h with
  | 0, _ => simp only [refC]; omega
  | 1, _ => simp only [refC, Nat.zero_add]; omega
  | 2, _ => simp only [refC, Nat.zero_add, Nat.reduceAdd]; omega
  | 3, _ => simp only [refC, Nat.zero_add, Nat.reduceAdd]; omega

theorem decodeL_N (l : List UInt8) : decodeL l = decodeN l.length (l.getD 0 0).toNat (l.getD 1 0).toNat (l.getD 2 0).toNat (l.getD 3 0).toNat := by
  have hg : ∀ i, ((⟨l.toArray⟩ : ByteArray).get! i) = l.getD i 0 := by
    intro i
    show l.toArray[i]! = _
    by_cases h : i < l.length
    · simp [h]
    · simp [h]
      rfl
  unfold decodeL
  rw [decode_at]
  simp only [hg, Nat.zero_add, Nat.sub_zero]
  congr 1

theorem take_getD : ∀ (l : List UInt8) (n : Nat), n ≤ l.length → l.take n = (List.range n).map fun i => l.getD i 0 := by
  intro l n h
  apply List.ext_getElem?
  intro i
  by_cases hi : i < n
  · rw [List.getElem?_take_of_lt hi]
    simp [hi, show i < l.length by omega]
  · rw [List.getElem?_eq_none (by simp; omega), List.getElem?_eq_none (by simp; omega)]

theorem charL_eq (c : Int) (l : List UInt8) (h : charOk c = true) : charL c = l ↔ charB c.toNat = l.map UInt8.toNat := by
  unfold charL
  rw [if_pos h]
  refine charN_eq _ ?_ l
  simp only [charOk, Bool.or_eq_true, decide_eq_true_eq] at h
  omega

theorem two_iff (b0 b1 : Nat) (c : Int) (h0 : 192 ≤ b0 ∧ b0 < 224) (h1 : b1 < 256) (hc : c = ((b0 : Int) - 192) * 64 + (b1 : Int) - 128) :
    (charOk c = true ∧ charB c.toNat = [b0, b1]) ↔ (b1 / 64 = 2 ∧ 128 ≤ b0 % 32 * 64 + b1 % 64 ∧ c = ((b0 % 32 * 64 + b1 % 64 : Nat) : Int)) := by
  simp only [charOk, Bool.or_eq_true, decide_eq_true_eq, charB]
  by_cases a1 : c.toNat ≤ 127
  · simp [a1]; omega
  · by_cases a2 : c.toNat ≤ 2047
    · simp [a1, a2]; omega
    · by_cases a3 : c.toNat ≤ 65535
      · simp [a1, a2, a3]; omega
      · simp [a1, a2, a3]; omega
theorem three_iff (b0 b1 b2 : Nat) (c : Int) (_h0 : 224 ≤ b0 ∧ b0 < 240) (h1 : b1 < 256) (h2 : b2 < 256) (hc : c = (((b0 : Int) - 224) * 64 + (b1 : Int) - 128) * 64 + (b2 : Int) - 128) :
    (charOk c = true ∧ charB c.toNat = [b0, b1, b2]) ↔ (b1 / 64 = 2 ∧ b2 / 64 = 2 ∧ 2048 ≤ b0 % 16 * 4096 + b1 % 64 * 64 + b2 % 64 ∧ (b0 % 16 * 4096 + b1 % 64 * 64 + b2 % 64 < 55296 ∨ (57344 ≤ b0 % 16 * 4096 + b1 % 64 * 64 + b2 % 64 ∧ b0 % 16 * 4096 + b1 % 64 * 64 + b2 % 64 ≤ 1114111)) ∧ c = ((b0 % 16 * 4096 + b1 % 64 * 64 + b2 % 64 : Nat) : Int)) := by
  simp only [charOk, Bool.or_eq_true, decide_eq_true_eq, charB]
  by_cases a1 : c.toNat ≤ 127
  · simp [a1]; omega
  · by_cases a2 : c.toNat ≤ 2047
    · simp [a1, a2]; omega
    · by_cases a3 : c.toNat ≤ 65535
      · simp [a1, a2, a3]; omega
      · simp [a1, a2, a3]; omega
theorem four_iff (b0 b1 b2 b3 : Nat) (c : Int) (h0 : 240 ≤ b0 ∧ b0 < 256) (h1 : b1 < 256) (h2 : b2 < 256) (h3 : b3 < 256) (hc : c = ((((b0 : Int) - 240) * 64 + (b1 : Int) - 128) * 64 + (b2 : Int) - 128) * 64 + (b3 : Int) - 128) :
    (charOk c = true ∧ charB c.toNat = [b0, b1, b2, b3]) ↔ (b0 / 8 = 30 ∧ b1 / 64 = 2 ∧ b2 / 64 = 2 ∧ b3 / 64 = 2 ∧ 65536 ≤ b0 % 8 * 262144 + b1 % 64 * 4096 + b2 % 64 * 64 + b3 % 64 ∧ b0 % 8 * 262144 + b1 % 64 * 4096 + b2 % 64 * 64 + b3 % 64 ≤ 1114111 ∧ c = ((b0 % 8 * 262144 + b1 % 64 * 4096 + b2 % 64 * 64 + b3 % 64 : Nat) : Int)) := by
  simp only [charOk, Bool.or_eq_true, decide_eq_true_eq, charB]
  by_cases a1 : c.toNat ≤ 127
  · simp [a1]; omega
  · by_cases a2 : c.toNat ≤ 2047
    · simp [a1, a2]; omega
    · by_cases a3 : c.toNat ≤ 65535
      · simp [a1, a2, a3]; omega
      · simp [a1, a2, a3]; omega
theorem one_iff (b0 : Nat) (c : Int) (h0 : b0 < 192) (hc : c = (b0 : Int)) : (charOk c = true ∧ charB c.toNat = [b0]) ↔ b0 < 128 := by
  subst hc
  simp only [charOk, Bool.or_eq_true, decide_eq_true_eq, charB, Int.toNat_natCast]
  by_cases a1 : b0 ≤ 127
  · simp [a1]; omega
  · simp [a1, show b0 ≤ 2047 by omega]; omega
/-- the test that the document's answer makes -/
theorem test_iff (c : Int) (l : List UInt8) : (charOk c && decide (charL c = l)) = true ↔ (charOk c = true ∧ charB c.toNat = l.map UInt8.toNat) := by
  rw [Bool.and_eq_true, decide_eq_true_eq]
  constructor
  · rintro ⟨a, b⟩; exact ⟨a, (charL_eq c l a).1 b⟩
  · rintro ⟨a, b⟩; exact ⟨a, (charL_eq c l a).2 b⟩

set_option maxHeartbeats 2000000 in
/-- THE DOCUMENT's ANSWER IS THE DECODER's -/
theorem refD_head (l : List UInt8) (hl : 0 < l.length) : refD l = headD l := by
  have hb : ∀ j, (l.getD j 0).toNat < 256 := fun j => UInt8.toNat_lt _
  have h0 := hb 0
  have h1 := hb 1
  have h2 := hb 2
  have h3 := hb 3
  have T1 : 1 ≤ l.length → (l.take 1).map UInt8.toNat = [(l.getD 0 0).toNat] := fun h => by rw [take_getD l 1 h]; rfl
  have T2 : 2 ≤ l.length → (l.take 2).map UInt8.toNat = [(l.getD 0 0).toNat, (l.getD 1 0).toNat] := fun h => by rw [take_getD l 2 h]; rfl
  have T3 : 3 ≤ l.length → (l.take 3).map UInt8.toNat = [(l.getD 0 0).toNat, (l.getD 1 0).toNat, (l.getD 2 0).toNat] := fun h => by rw [take_getD l 3 h]; rfl
  have T4 : 4 ≤ l.length → (l.take 4).map UInt8.toNat = [(l.getD 0 0).toNat, (l.getD 1 0).toNat, (l.getD 2 0).toNat, (l.getD 3 0).toNat] := fun h => by rw [take_getD l 4 h]; rfl
  have C0 : refC l 0 = refV (l.getD 0 0).toNat := rfl
  have C1 : refC l 1 = refV (l.getD 0 0).toNat * 64 + ((l.getD 1 0).toNat : Int) - 128 := rfl
  have C2 : refC l 2 = (refV (l.getD 0 0).toNat * 64 + ((l.getD 1 0).toNat : Int) - 128) * 64 + ((l.getD 2 0).toNat : Int) - 128 := rfl
  have C3 : refC l 3 = ((refV (l.getD 0 0).toNat * 64 + ((l.getD 1 0).toNat : Int) - 128) * 64 + ((l.getD 2 0).toNat : Int) - 128) * 64 + ((l.getD 3 0).toNat : Int) - 128 := rfl
  have I : ∀ n, (charOk (refC l (n - 1)) && decide (charL (refC l (n - 1)) = l.take n)) = true ↔ (charOk (refC l (n - 1)) = true ∧ charB (refC l (n - 1)).toNat = (l.take n).map UInt8.toNat) := fun n => test_iff _ _
  unfold headD refD
  rw [decodeL_N]
  generalize (l.getD 0 0).toNat = b0 at *
  generalize (l.getD 1 0).toNat = b1 at *
  generalize (l.getD 2 0).toNat = b2 at *
  generalize (l.getD 3 0).toNat = b3 at *
  have bad : decodeN l.length b0 b1 b2 b3 = (65533, 1) → (if (decodeN l.length b0 b1 b2 b3).1 = 65533 ∧ (decodeN l.length b0 b1 b2 b3).2 = 1 then ((0 : Int), (0 : Int), false) else (((decodeN l.length b0 b1 b2 b3).1 : Int), ((decodeN l.length b0 b1 b2 b3).2 : Int), true)) = (0, 0, false) := fun e => by rw [e]; simp
  have good : ∀ c n : Nat, decodeN l.length b0 b1 b2 b3 = (c, n) → ¬ (c = 65533 ∧ n = 1) → (if (decodeN l.length b0 b1 b2 b3).1 = 65533 ∧ (decodeN l.length b0 b1 b2 b3).2 = 1 then ((0 : Int), (0 : Int), false) else (((decodeN l.length b0 b1 b2 b3).1 : Int), ((decodeN l.length b0 b1 b2 b3).2 : Int), true)) = ((c : Int), (n : Int), true) := fun c n e h => by rw [e]; exact if_neg h
  have e4 := I 4
  have e3 := I 3
  have e2 := I 2
  have e1 := I 1
  clear I
  by_cases k4 : 240 ≤ b0
  · have hw : refW b0 = 4 := by unfold refW; rw [if_pos k4]
    have hv : refV b0 = (b0 : Int) - 240 := by unfold refV; rw [if_pos k4]
    simp only [hw]
    by_cases hN : l.length < 4
    · rw [if_pos hN]
      exact (bad (by unfold decodeN; rw [if_neg (by omega), if_neg (by omega), if_neg (by omega), if_neg (by omega)])).symm
    · rw [if_neg hN]
      rw [T4 (by omega)] at e4
      have F := e4.trans (four_iff b0 b1 b2 b3 _ ⟨k4, h0⟩ h1 h2 h3 (by show refC l 3 = _; rw [C3, hv]))
      by_cases hT : (charOk (refC l (4 - 1)) && decide (charL (refC l (4 - 1)) = l.take 4)) = true
      · rw [if_pos hT]
        obtain ⟨f1, f2, f3, f4, f5, f6, f7⟩ := F.1 hT
        rw [good _ 4 (by unfold decodeN; rw [if_neg (by omega), if_neg (by omega), if_neg (by omega), if_pos (by omega), if_pos (by omega)]) (by omega), f7]
      · rw [if_neg hT]
        refine (bad ?_).symm
        unfold decodeN
        rw [if_neg (by omega), if_neg (by omega), if_neg (by omega)]
        by_cases hc : b0 / 8 = 30 ∧ (1 < l.length ∧ b1 / 64 = 2) ∧ (2 < l.length ∧ b2 / 64 = 2) ∧ (3 < l.length ∧ b3 / 64 = 2)
        · rw [if_pos hc]
          exact if_neg (fun hq => hT (F.2 ⟨hc.1, hc.2.1.2, hc.2.2.1.2, hc.2.2.2.2, by omega, by omega, by show refC l 3 = _; rw [C3, hv]; omega⟩))
        · exact if_neg hc
  · by_cases k3 : 224 ≤ b0
    · have hw : refW b0 = 3 := by unfold refW; rw [if_neg k4, if_pos k3]
      have hv : refV b0 = (b0 : Int) - 224 := by unfold refV; rw [if_neg k4, if_pos k3]
      simp only [hw]
      by_cases hN : l.length < 3
      · rw [if_pos hN]
        exact (bad (by unfold decodeN; rw [if_neg (by omega), if_neg (by omega), if_neg (by omega), if_neg (by omega)])).symm
      · rw [if_neg hN]
        rw [T3 (by omega)] at e3
        have F := e3.trans (three_iff b0 b1 b2 _ ⟨k3, by omega⟩ h1 h2 (by show refC l 2 = _; rw [C2, hv]))
        by_cases hT : (charOk (refC l (3 - 1)) && decide (charL (refC l (3 - 1)) = l.take 3)) = true
        · rw [if_pos hT]
          obtain ⟨f2, f3, f4, f5, f7⟩ := F.1 hT
          rw [good _ 3 (by unfold decodeN; rw [if_neg (by omega), if_neg (by omega), if_pos (by omega), if_pos ⟨f4, f5⟩]) (by omega), f7]
        · rw [if_neg hT]
          refine (bad ?_).symm
          unfold decodeN
          rw [if_neg (by omega), if_neg (by omega)]
          by_cases hc : b0 / 16 = 14 ∧ (1 < l.length ∧ b1 / 64 = 2) ∧ (2 < l.length ∧ b2 / 64 = 2)
          · rw [if_pos hc]
            exact if_neg (fun hq => hT (F.2 ⟨hc.2.1.2, hc.2.2.2, hq.1, hq.2, by show refC l 2 = _; rw [C2, hv]; omega⟩))
          · rw [if_neg hc]
            exact if_neg (by omega)
    · by_cases k2 : 192 ≤ b0
      · have hw : refW b0 = 2 := by unfold refW; rw [if_neg k4, if_neg k3, if_pos k2]
        have hv : refV b0 = (b0 : Int) - 192 := by unfold refV; rw [if_neg k4, if_neg k3, if_pos k2]
        simp only [hw]
        by_cases hN : l.length < 2
        · rw [if_pos hN]
          exact (bad (by unfold decodeN; rw [if_neg (by omega), if_neg (by omega), if_neg (by omega), if_neg (by omega)])).symm
        · rw [if_neg hN]
          rw [T2 (by omega)] at e2
          have F := e2.trans (two_iff b0 b1 _ ⟨k2, by omega⟩ h1 (by show refC l 1 = _; rw [C1, hv]))
          by_cases hT : (charOk (refC l (2 - 1)) && decide (charL (refC l (2 - 1)) = l.take 2)) = true
          · rw [if_pos hT]
            obtain ⟨f2, f4, f7⟩ := F.1 hT
            rw [good _ 2 (by unfold decodeN; rw [if_neg (by omega), if_pos (by omega), if_pos (by omega)]) (by omega), f7]
          · rw [if_neg hT]
            refine (bad ?_).symm
            unfold decodeN
            rw [if_neg (by omega)]
            by_cases hc : b0 / 32 = 6 ∧ (1 < l.length ∧ b1 / 64 = 2)
            · rw [if_pos hc]
              exact if_neg (fun hq => hT (F.2 ⟨hc.2.2, by omega, by show refC l 1 = _; rw [C1, hv]; omega⟩))
            · rw [if_neg hc, if_neg (by omega)]
              exact if_neg (by omega)
      · have hw : refW b0 = 1 := by unfold refW; rw [if_neg k4, if_neg k3, if_neg k2]
        have hv : refV b0 = (b0 : Int) := by unfold refV; rw [if_neg k4, if_neg k3, if_neg k2]
        simp only [hw]
        rw [if_neg (show ¬ l.length < 1 by omega)]
        rw [T1 (by omega)] at e1
        have F := e1.trans (one_iff b0 _ (by omega) (by show refC l 0 = _; rw [C0, hv]))
        by_cases hT : (charOk (refC l (1 - 1)) && decide (charL (refC l (1 - 1)) = l.take 1)) = true
        · rw [if_pos hT]
          have f := F.1 hT
          rw [good b0 1 (by unfold decodeN; rw [if_pos f]) (by omega), show refC l (1 - 1) = (b0 : Int) by show refC l 0 = _; rw [C0, hv]]
        · rw [if_neg hT]
          refine (bad ?_).symm
          have G := fun r => hT (F.2 r)
          unfold decodeN
          rw [if_neg G, if_neg (by omega), if_neg (by omega)]
          exact if_neg (by omega)
end W
end Go.Proofs.YtakplnceiibmlaaGreatDoor
