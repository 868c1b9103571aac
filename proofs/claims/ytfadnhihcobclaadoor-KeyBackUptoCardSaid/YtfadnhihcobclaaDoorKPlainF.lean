/- Plain: a key is read back, and what is read is written so. No program in sight. -/
import Derived.Test.YtfadnhihcobclaaDoorKPlainO
import Derived.Test.YtfadnhihcobclaaDoorKPlainU
namespace Go.Proofs.YtfadnhihcobclaaDoor
open Go.RowKit
namespace K
theorem val_numL : ∀ (l : List UInt8), val l = numL l := by
  intro l
  have h : ∀ (m : List UInt8) (a : Nat), m.foldl (fun n c => n * 256 + c.toNat) a = a * 256 ^ m.length + val m := by
    intro m
    induction m with
    | nil => intro a; simp [val]
    | cons c r ih =>
      intro a
      rw [List.foldl_cons, ih, val, List.length_cons, Nat.pow_succ]
      rw [Nat.add_mul, Nat.mul_assoc, Nat.mul_comm 256]
      omega
  have := h l 0
  rw [Nat.zero_mul, Nat.zero_add] at this
  exact this.symm
theorem val_inj : ∀ (l m : List UInt8), l.length = m.length → val l = val m → l = m
  | [], [], _, _ => rfl
  | [], _ :: _, h, _ => by simp at h
  | _ :: _, [], h, _ => by simp at h
  | a :: l, b :: m, h, e => by
    have hl : l.length = m.length := by simpa using h
    simp only [val] at e
    rw [← hl] at e
    have h1 := val_lt l
    have h2 := val_lt m
    rw [← hl] at h2
    have e1 : a.toNat = b.toNat := by
      rcases Nat.lt_trichotomy a.toNat b.toNat with hh | hh | hh
      · have : (a.toNat + 1) * 256 ^ l.length ≤ b.toNat * 256 ^ l.length := Nat.mul_le_mul_right _ hh
        rw [Nat.add_mul] at this; omega
      · exact hh
      · have : (b.toNat + 1) * 256 ^ l.length ≤ a.toNat * 256 ^ l.length := Nat.mul_le_mul_right _ hh
        rw [Nat.add_mul] at this; omega
    rw [e1] at e
    rw [u8eq e1, val_inj l m hl (by omega)]
theorem beN_numL (l : List UInt8) (h : l.length = 8) : beN (numL l) 8 = l := by
  refine val_inj _ _ (by rw [beN_length, h]) ?_
  have := numL_lt 8 l h
  rw [val_beN _ (by rw [show (18446744073709551616 : Nat) = 256 ^ 8 from rfl]; exact this), val_numL]
theorem numL_beN (u : Nat) (h : u < 18446744073709551616) : numL (beN u 8) = u := by rw [← val_numL, val_beN u h]
theorem numP_flip (x : Int) (h0 : -9223372036854775808 ≤ x) (h1 : x ≤ 9223372036854775807) : numP (flipN x) = ⟨false, x, ⟨#[]⟩⟩ := by
  have h2 := flip_at x h0 h1
  have h3 := flip_lt x h0 h1
  have h4 := bits_xor_u64_nat (flipN x) 9223372036854775808 h3 (by decide)
  rw [show (((9223372036854775808 : Nat)) : Int) = 9223372036854775808 from rfl] at h4
  unfold numP
  rw [h4, xor_top _ h3]
  congr 1
  unfold wrap64
  split <;> omega
theorem flip_num (u : Nat) (h : u < 18446744073709551616) : flipN (numP u).n = u ∧ -9223372036854775808 ≤ (numP u).n ∧ (numP u).n ≤ 9223372036854775807 := by
  have h4 := bits_xor_u64_nat u 9223372036854775808 h (by decide)
  rw [show (((9223372036854775808 : Nat)) : Int) = 9223372036854775808 from rfl] at h4
  have hn : (numP u).n = (u : Int) - 9223372036854775808 := by
    show wrap64 _ = _
    rw [h4, xor_top u h]
    unfold wrap64
    split <;> omega
  have h2 := flip_at (numP u).n (by omega) (by omega)
  refine ⟨by omega, by omega, by omega⟩
theorem textL_esc : ∀ (s r : List UInt8), textL (escL s ++ 0 :: 0 :: r) = some (s, r)
  | [], r => textL_end r
  | c :: s, r => by
    by_cases h : c = 0
    · subst h
      rw [escL, if_pos rfl]
      show textL (0 :: 255 :: (escL s ++ 0 :: 0 :: r)) = _
      rw [textL_zero, textL_esc s r]; rfl
    · rw [escL, if_neg h]
      show textL (c :: (escL s ++ 0 :: 0 :: r)) = _
      rw [textL_byte _ _ h, textL_esc s r]; rfl
theorem esc_textL : ∀ (n : Nat) (l : List UInt8), l.length ≤ n → ∀ p, textL l = some p → l = escL p.1 ++ 0 :: 0 :: p.2
  | 0, l, hn, p, h => by
    rw [List.eq_nil_of_length_eq_zero (by omega : l.length = 0)] at h
    simp [textL] at h
  | n + 1, [], _, p, h => by simp [textL] at h
  | n + 1, [c], _, p, h => by simp [textL] at h
  | n + 1, c :: d :: r, hn, p, h => by
    simp only [List.length_cons] at hn
    rw [textL] at h
    by_cases hc : c = 0
    · rw [if_pos hc] at h
      by_cases hd : d = 0
      · rw [if_pos hd] at h
        obtain rfl := Option.some.inj h
        rw [hc, hd]; rfl
      · rw [if_neg hd] at h
        by_cases hd2 : d = 255
        · rw [if_pos hd2] at h
          obtain ⟨q, hq, rfl⟩ := Option.map_eq_some_iff.1 h
          have := esc_textL n r (by omega) q hq
          rw [hc, hd2]
          simp only [escL, if_true, List.cons_append]
          rw [← this]
        · rw [if_neg hd2] at h; cases h
    · rw [if_neg hc] at h
      obtain ⟨q, hq, rfl⟩ := Option.map_eq_some_iff.1 h
      have := esc_textL n (d :: r) (by simp only [List.length_cons]; omega) q hq
      simp only [escL, if_neg hc, List.cons_append]
      rw [← this]
theorem ba_nil {s : ByteArray} (h : s.size = 0) : s = ⟨#[]⟩ := by
  cases s with
  | mk d => exact congrArg ByteArray.mk (Array.eq_empty_of_size_eq_zero h)
theorem ba_list (s : ByteArray) : (⟨s.data.toList.toArray⟩ : ByteArray) = s := by cases s; simp
/-- what is written is read -/
theorem unpack_packL : ∀ (ps : List Part) (f : Nat), (packL ps).length ≤ f → (∀ p ∈ ps, p.may) → anyBad ps = false → unpackF f (packL ps) = some ps
  | [], f, _, _, _ => by cases f <;> rfl
  | p :: ps, f, hf, hm, hb => by
    simp only [anyBad, Bool.or_eq_false_iff] at hb
    obtain ⟨hp, hb⟩ := hb
    have hmp := hm p (by simp)
    have ih := fun f h => unpack_packL ps f h (fun q hq => hm q (by simp [hq])) hb
    obtain ⟨t, n, s⟩ := p
    simp only [Part.bad, Bool.or_eq_false_iff] at hp
    cases t with
    | false =>
      have hs : s.size = 0 := by simpa using hp.2
      have es := ba_nil hs
      subst es
      simp only [packL, Part.bytes, Bool.false_eq_true, if_false, List.cons_append, List.length_cons, List.length_append, beN_length] at hf ⊢
      obtain ⟨g, rfl⟩ : ∃ g, f = g + 1 := ⟨f - 1, by omega⟩
      have h8 : (beN (flipN n) 8).length = 8 := beN_length _ _
      rw [unpackF, if_pos ⟨rfl, by rw [List.length_append, h8]; omega⟩]
      have e1 : (beN (flipN n) 8 ++ packL ps).drop 8 = packL ps := List.drop_left' h8
      have e2 : (beN (flipN n) 8 ++ packL ps).take 8 = beN (flipN n) 8 := List.take_left' h8
      rw [e1, e2, ih g (by omega), numL_beN _ (flip_lt n hmp.1 hmp.2), numP_flip n hmp.1 hmp.2]
      rfl
    | true =>
      have hn : n = 0 := by simpa using hp.1
      subst hn
      simp only [packL, Part.bytes, if_true, List.cons_append, List.length_cons, List.length_append, esc_eq] at hf ⊢
      obtain ⟨g, rfl⟩ : ∃ g, f = g + 1 := ⟨f - 1, by omega⟩
      have et : textL (escL s.data.toList ++ [0, 0] ++ packL ps) = some (s.data.toList, packL ps) := by
        rw [List.append_assoc]
        exact textL_esc _ _
      rw [unpackF, if_neg (fun e => absurd e.1 (by decide)), if_pos rfl, et]
      simp only
      rw [ih g (by omega)]
      simp only [Option.map_some, textP, ba_list]
/-- what is read is written so -/
theorem pack_unpackF : ∀ (f : Nat) (l : List UInt8) (ps : List Part), unpackF f l = some ps → packL ps = l ∧ anyBad ps = false ∧ (∀ p ∈ ps, p.may) ∧ ps.length ≤ l.length
  | 0, [], ps, h => by
    simp only [unpackF, Option.some.injEq] at h
    subst h; exact ⟨rfl, rfl, by simp, by simp⟩
  | _ + 1, [], ps, h => by
    simp only [unpackF, Option.some.injEq] at h
    subst h; exact ⟨rfl, rfl, by simp, by simp⟩
  | 0, _ :: _, ps, h => by simp [unpackF] at h
  | f + 1, c :: r, ps, h => by
    rw [unpackF] at h
    by_cases h1 : c = 1 ∧ 8 ≤ r.length
    · rw [if_pos h1] at h
      obtain ⟨rfl, h8⟩ := h1
      obtain ⟨qs, hq, rfl⟩ := Option.map_eq_some_iff.1 h
      obtain ⟨g1, g2, g3, g4⟩ := pack_unpackF f _ qs hq
      have hl : (r.take 8).length = 8 := by rw [List.length_take]; omega
      have hlt := numL_lt 8 _ hl
      obtain ⟨e1, e2, e3⟩ := flip_num (numL (r.take 8)) (by rw [show (18446744073709551616 : Nat) = 256 ^ 8 from rfl]; exact hlt)
      refine ⟨?_, ?_, ?_, ?_⟩
      · rw [packL, g1]
        show (1 :: beN (flipN (numP (numL (r.take 8))).n) 8) ++ r.drop 8 = _
        rw [e1, beN_numL _ hl, List.cons_append, List.take_append_drop]
      · rw [anyBad, g2]; rfl
      · intro p hp
        rcases List.mem_cons.1 hp with rfl | hp
        · exact ⟨e2, e3⟩
        · exact g3 p hp
      · simp only [List.length_cons, List.length_drop] at g4 ⊢; omega
    · rw [if_neg h1] at h
      by_cases h2 : c = 2
      · rw [if_pos h2] at h
        subst h2
        cases ht : textL r with
        | none => rw [ht] at h; cases h
        | some p =>
          rw [ht] at h
          simp only at h
          obtain ⟨qs, hq, rfl⟩ := Option.map_eq_some_iff.1 h
          obtain ⟨g1, g2, g3, g4⟩ := pack_unpackF f _ qs hq
          have he := esc_textL _ r (Nat.le_refl _) p ht
          have hlen := textL_length _ r (Nat.le_refl _) p ht
          refine ⟨?_, ?_, ?_, ?_⟩
          · rw [packL, g1]
            show (2 :: (esc p.1 ++ [0, 0])) ++ p.2 = _
            rw [esc_eq, he, List.cons_append, List.append_assoc]; rfl
          · rw [anyBad, g2]; rfl
          · intro q hq
            rcases List.mem_cons.1 hq with rfl | hq
            · exact ⟨by show (-9223372036854775808 : Int) ≤ 0; decide, by show (0 : Int) ≤ 9223372036854775807; decide⟩
            · exact g3 q hq
          · simp only [List.length_cons] at g4 ⊢; omega
      · rw [if_neg h2] at h; cases h
/-- THE LAW: a key that is written is read back -/
theorem unpack_pack (ps : List Part) (hm : ∀ p ∈ ps, p.may) (h : (pack ps).2 = 0) : unpack (pack ps).1 = (ps, 0) := by
  unfold pack at h ⊢
  by_cases h1 : 16 < ps.length
  · rw [if_pos h1] at h; simp at h
  · rw [if_neg h1] at h ⊢
    cases hb : anyBad ps with
    | true => rw [hb] at h; simp at h
    | false =>
      simp only [Bool.false_eq_true, if_false]
      unfold unpack
      rw [unpack_packL ps _ (Nat.le_refl _) hm hb]
      unfold resOf
      simp only
      rw [if_neg h1]
/-- THE LAW: what is read as a key is written so -/
theorem pack_unpack (l : List UInt8) (h : (unpack l).2 = 0) : pack (unpack l).1 = (l, 0) ∧ (∀ p ∈ (unpack l).1, p.may) ∧ (unpack l).1.length ≤ 16 := by
  unfold unpack at h ⊢
  cases hu : unpackF l.length l with
  | none => rw [hu] at h; simp [resOf] at h
  | some ps =>
    rw [hu] at h
    unfold resOf at h ⊢
    simp only at h ⊢
    by_cases h1 : 16 < ps.length
    · rw [if_pos h1] at h; simp at h
    · rw [if_neg h1]
      obtain ⟨g1, g2, g3, g4⟩ := pack_unpackF _ l ps hu
      simp only
      refine ⟨?_, g3, by omega⟩
      unfold pack
      rw [if_neg h1, g2, g1]
      simp
end K
end Go.Proofs.YtfadnhihcobclaaDoor
