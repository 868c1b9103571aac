/- The reader: parts of names, names. -/
import Derived.Test.YtakplnceiibmlaaGreatDoorMRd3
namespace Go.Proofs.YtakplnceiibmlaaGreatDoor
open Go.RowKit
open Go.Lib (hid)
namespace X
theorem index_digits (c : UInt8) : decide ((0 : Int) ≤ Lib.indexByte [48, 49, 50, 51, 52, 53, 54, 55, 56, 57, 45, 46] c) = (decide (48 ≤ c.toNat ∧ c.toNat ≤ 57) || decide (c.toNat = 45 ∨ c.toNat = 46)) := by
  have hf : ∀ y : Fin 256, decide ((0 : Int) ≤ Lib.indexByte [48, 49, 50, 51, 52, 53, 54, 55, 56, 57, 45, 46] (UInt8.ofNat y.val)) = (decide (48 ≤ y.val ∧ y.val ≤ 57) || decide (y.val = 45 ∨ y.val = 46)) := by decide +kernel
  have := hf ⟨c.toNat, c.toNat_lt⟩
  simpa using this
/-- how much of a name's part is still to come at a place: first: it is the first byte -/
def tailLen (first : Bool) (l : List UInt8) : Nat := if first then (partL l).length else (l.takeWhile other).length
theorem tail_nil (b : Bool) : tailLen b [] = 0 := by cases b <;> rfl
theorem tail_yes {b : Bool} {c : UInt8} {r : List UInt8} (h : letter c = true ∨ (b = false ∧ other c = true)) : tailLen b (c :: r) = 1 + tailLen false r := by
  have ho : b = false → other c = true := fun hb => by
    rcases h with h | h
    · unfold other; rw [h]; rfl
    · exact h.2
  cases b
  · show ((c :: r).takeWhile other).length = 1 + (r.takeWhile other).length
    rw [List.takeWhile_cons, if_pos (ho rfl)]; simp; omega
  · rcases h with h | h
    · show (partL (c :: r)).length = 1 + (r.takeWhile other).length
      rw [partL, if_pos h]; simp; omega
    · cases h.1
theorem tail_no {b : Bool} {c : UInt8} {r : List UInt8} (h1 : letter c = false) (h2 : b = false → other c = false) : tailLen b (c :: r) = 0 := by
  cases b
  · show ((c :: r).takeWhile other).length = 0
    rw [List.takeWhile_cons, if_neg (by rw [h2 rfl]; decide)]; rfl
  · show (partL (c :: r)).length = 0
    rw [partL, if_neg (by rw [h1]; decide)]; rfl
theorem take_partL (l : List UInt8) : l.take (partL l).length = partL l := by
  obtain ⟨r, h⟩ := partL_pre l
  obtain ⟨q, hq⟩ : ∃ q, partL l = q := ⟨_, rfl⟩
  rw [hq] at h ⊢
  rw [← h, List.take_left]
end X
theorem rest_cons {s : ByteArray} {p : Nat} (h : p < s.size) : rest s p = s[p] :: rest s (p + 1) := by
  unfold rest
  rw [List.drop_eq_getElem_cons (by rw [← Lib.size_eq]; exact h)]
  rfl
theorem extract_part (s : ByteArray) (p : Nat) : s.extract p (p + (X.partL (rest s p)).length) = X.ba (X.partL (rest s p)) := by
  rw [W.extract_eq]
  show X.ba ((rest s p).take _) = _
  rw [X.take_partL]
def PartAt (s : ByteArray) (p N e : Nat) : Prop := p ≤ e ∧ e ≤ p + N ∧ ∃ b, b = decide (e = p) ∧ p + N = e + X.tailLen b (rest s e)
theorem PartAt.yes {s : ByteArray} {p N e : Nat} (h : PartAt s p N e) (hlt : e < s.size) (hy : X.letter (s[e]'hlt) = true ∨ (p < e ∧ X.other (s[e]'hlt) = true)) : PartAt s p N (e + 1) := by
  obtain ⟨h1, h2, b, hb, h3⟩ := h
  rw [rest_cons hlt, X.tail_yes (by
    rcases hy with hy | hy
    · exact Or.inl hy
    · exact Or.inr ⟨by rw [hb]; exact decide_eq_false (by omega), hy.2⟩)] at h3
  exact ⟨by omega, by omega, false, (decide_eq_false (by omega)).symm, by omega⟩
theorem PartAt.no {s : ByteArray} {p N e : Nat} (h : PartAt s p N e) (hlt : e < s.size) (h1 : X.letter (s[e]'hlt) = false) (h2 : p < e → X.other (s[e]'hlt) = false) : e = p + N := by
  obtain ⟨g1, g2, b, hb, h3⟩ := h
  rw [rest_cons hlt, X.tail_no h1 (fun hf => h2 (by rw [hb] at hf; have := of_decide_eq_false hf; omega))] at h3
  omega
theorem PartAt.end {s : ByteArray} {p N e : Nat} (h : PartAt s p N e) (hge : s.size ≤ e) : e = p + N := by
  obtain ⟨g1, g2, b, hb, h3⟩ := h
  rw [(rest_nil s e).2 hge, X.tail_nil] at h3
  omega
set_option maxRecDepth 100000 in
set_option maxHeartbeats 4000000 in
theorem part_any {R p c : Nat} {s : ByteArray} {W : World} (h : Rd W R s p c W) (hp : p ≤ s.size) (hs : s.size ≤ 1000000000000) :
    Calls Tryz.prog 53 #[.pointer (some ⟨R, 0, none⟩)] W (Ends W R s c (X.part (rest s p)) (fun l => .string (X.ba l))) := by
  obtain ⟨N, hN⟩ : ∃ N, (X.partL (rest s p)).length = N := ⟨_, rfl⟩
  have hNl : p + N ≤ s.size := by have := X.partL_len (rest s p); rw [rest_len] at this; omega
  have HI0 : Hid (PartAt s p N p) := ⟨Nat.le_refl _, Nat.le_add_right _ _, true, (decide_eq_true rfl).symm, by show _ = p + (X.partL (rest s p)).length; rw [hN]⟩
  have HR := hid h
  have HN := hid hN
  obtain ⟨c0, c1, -⟩ := h.cells
  clear h hN
  go_enter Tryz.func53, Tryz.ntmps53
  go_wp2_with fail
  go_loopw [3] (fun vi wr => ∃ (e : Nat), vi = .int .i64 e ∧ Hid (PartAt s p N e) ∧ Hid (Rd W R s p c wr)) (fun vi _ => s.size - (intOf vi).toNat)
  case atStart => exact ⟨p, rfl, HI0, HR⟩
  case round =>
    obtain ⟨e, rfl, HI, HQ⟩ := hrel
    clear HI0 HR c0 c1
    obtain ⟨c0, c1, -⟩ := HQ.out.cells
    have cI := fun (b : UInt8) U => Tryz.strings_IndexByte ⟨#[48, 49, 50, 51, 52, 53, 54, 55, 56, 57, 45, 46]⟩ b.toNat U
    by_cases hlt : e < s.size
    · have d0 : decide ((e : Int) < (s.size : Int)) = true := decide_eq_true (by omega)
      have d1 : decide (e < s.size) = true := decide_eq_true hlt
      have i0 : (0 : Int) ≤ (e : Int) := by omega
      have i1 : (e : Int) < (s.size : Int) := by omega
      have cL := fun U => letter_any (s[e]'hlt) U
      have cI := cI (s[e]'hlt)
      have hdig := X.index_digits (s[e]'hlt)
      have hoth : X.other (s[e]'hlt) = (X.letter (s[e]'hlt) || (decide (48 ≤ (s[e]'hlt).toNat ∧ (s[e]'hlt).toNat ≤ 57) || decide ((s[e]'hlt).toNat = 45 ∨ (s[e]'hlt).toNat = 46))) := by unfold X.other; rw [Bool.or_assoc]
      rw [← hdig] at hoth
      obtain ⟨ix, hix⟩ : ∃ ix, Lib.indexByte [48, 49, 50, 51, 52, 53, 54, 55, 56, 57, 45, 46] (s[e]'hlt) = ix := ⟨_, rfl⟩
      rw [hix] at hoth
      replace cI : ∀ U, Calls Tryz.prog 72 #[.string ⟨#[48, 49, 50, 51, 52, 53, 54, 55, 56, 57, 45, 46]⟩, .int .u8 (s[e]'hlt).toNat] U fun e w' => e = .returned (.int .i64 ix) ∧ w' = U := fun U => by
        have h0 : ((((s[e]'hlt).toNat : Int).toNat).toUInt8) = s[e]'hlt := by simp
        have := cI U
        rw [h0] at this
        rw [← hix]; exact this
      clear hdig hix
      have hcl : X.letter (s[e]'hlt) = true ∨ (X.letter (s[e]'hlt) = false ∧ p < e ∧ decide ((0 : Int) ≤ ix) = true) ∨ (X.letter (s[e]'hlt) = false ∧ p < e ∧ decide ((0 : Int) ≤ ix) = false) ∨ (X.letter (s[e]'hlt) = false ∧ ¬ p < e) := by
        cases X.letter (s[e]'hlt) <;> cases decide ((0 : Int) ≤ ix) <;> simp <;> omega
      rcases hcl with g1 | ⟨g1, g2, g3⟩ | ⟨g1, g2, g3⟩ | ⟨g1, g2⟩
      · rw [g1] at cL
        have HN2 := hid (HI.out.yes hlt (Or.inl g1))
        clear HI
        go_wp2_with fail
        refine (cL _).mono ?_
        rintro e1 w1 ⟨rfl, rfl⟩
        go_wp2_with fail
        go_roundw
        case rel => exact ⟨e + 1, by go_num, HN2, HQ⟩
        case measure => simp [intOf]; omega
      · rw [g1] at cL
        have k0 : decide ((p : Int) < (e : Int)) = true := decide_eq_true (by omega)
        have k1 : decide (p < e) = true := decide_eq_true g2
        rw [g1, g3] at hoth
        have HN2 := hid (HI.out.yes hlt (Or.inr ⟨g2, hoth⟩))
        clear HI
        go_wp2_with fail
        refine (cL _).mono ?_
        rintro e1 w1 ⟨rfl, rfl⟩
        go_wp2_with fail
        refine (cI _).mono ?_
        rintro e2 w2 ⟨rfl, rfl⟩
        go_wp2_with fail
        go_roundw
        case rel => exact ⟨e + 1, by go_num, HN2, HQ⟩
        case measure => simp [intOf]; omega
      · rw [g1] at cL
        have k0 : decide ((p : Int) < (e : Int)) = true := decide_eq_true (by omega)
        have k1 : decide (p < e) = true := decide_eq_true g2
        rw [g1, g3] at hoth
        have he := HI.out.no hlt g1 (fun _ => hoth)
        clear hoth
        have HQE := hid he
        have hqs : e ≤ s.size := by omega
        have hpq : p ≤ e := by omega
        have P0 : (0 : Int) ≤ (p : Int) := by omega
        have P1 : (p : Int) ≤ (e : Int) := by omega
        have P2 : (e : Int) ≤ (s.size : Int) := by omega
        have hc : N = 0 ∨ 32 < N ∨ (N ≠ 0 ∧ N ≤ 32) := by omega
        have cB := fun w' (h : Rd w' R s p c w') => bad_any h hp
        have cF := fun U => fail_any 3 (p : Int) U
        clear HI
        rcases hc with hc | hc | ⟨hc0, hc⟩
        · have s0 : ((e : Int) == (p : Int)) = true := by rw [show e = p by omega]; simp
          have HE : Hid (X.part (rest s p) = .error (X.bad (rest s p))) := by
            show _ = _
            unfold X.part
            rw [if_pos (List.eq_nil_of_length_eq_zero (by rw [HN.out, hc]))]
          clear hc he
          go_wp2_with fail
          refine (cL _).mono ?_
          rintro e1 w1 ⟨rfl, rfl⟩
          go_wp2_with fail
          refine (cI _).mono ?_
          rintro e2 w2 ⟨rfl, rfl⟩
          go_wp2_with fail
          refine (cB _ HQ.out.own).mono ?_
          rintro en w3 ⟨rfl, hbl⟩
          exact ⟨rfl, Or.inr ⟨_, _, HE.out, rfl, (HQ.out.below hbl).g⟩⟩
        · have s0 : ((e : Int) == (p : Int)) = false := beq_eq_false_iff_ne.2 (by omega)
          have s1 : decide ((32 : Int) < (e : Int) - (p : Int)) = true := decide_eq_true (by omega)
          have HE : Hid (X.part (rest s p) = .error (s.size - p, 3) ∧ s.size - (s.size - p) = p) := by
            refine ⟨?_, by omega⟩
            unfold X.part
            rw [if_neg (fun hh => by have := HN.out; rw [hh] at this; simp at this; omega), HN.out, if_pos hc, rest_len]
          clear hc he
          go_wp2_with fail
          refine (cL _).mono ?_
          rintro e1 w1 ⟨rfl, rfl⟩
          go_wp2_with fail
          refine (cI _).mono ?_
          rintro e2 w2 ⟨rfl, rfl⟩
          go_wp2_with fail
          refine (cF _).mono ?_
          rintro en w3 ⟨rfl, rfl⟩
          exact ⟨rfl, Or.inr ⟨_, _, HE.out.1, by rw [HE.out.2], HQ.out.g⟩⟩
        · have s0 : ((e : Int) == (p : Int)) = false := beq_eq_false_iff_ne.2 (by omega)
          have s1 : decide ((32 : Int) < (e : Int) - (p : Int)) = false := decide_eq_false (by omega)
          have HE : Hid (X.part (rest s p) = .ok (X.partL (rest s p), rest s e) ∧ s.size - (rest s e).length = e ∧ s.extract p e = X.ba (X.partL (rest s p))) := by
            refine ⟨?_, by rw [rest_len]; omega, by rw [HQE.out, ← HN.out]; exact extract_part s p⟩
            unfold X.part
            rw [if_neg (fun hh => by have := HN.out; rw [hh] at this; simp at this; omega), HN.out, if_neg (by omega), rest_drop, ← HQE.out]
          have f1 := HQ.out.free 1
          clear hc hc0 he
          go_wp2_with fail
          refine (cL _).mono ?_
          rintro e1 w1 ⟨rfl, rfl⟩
          go_wp2_with fail
          refine (cI _).mono ?_
          rintro e2 w2 ⟨rfl, rfl⟩
          go_wp2_with fail
          go_region
          go_wp2_with fail
          go_ret
          exact Or.inl ⟨_, _, HE.out.1, by rw [HE.out.2.2]; rfl, by rw [HE.out.2.1]; exact HQ.out.drew.set1 e⟩
      · rw [g1] at cL
        have k0 : decide ((p : Int) < (e : Int)) = false := decide_eq_false (by omega)
        have k1 : decide (p < e) = false := decide_eq_false g2
        have he := HI.out.no hlt g1 (fun h => absurd h g2)
        clear hoth cI
        have HQE := hid he
        have hqs : e ≤ s.size := by omega
        have hpq : p ≤ e := by omega
        have P0 : (0 : Int) ≤ (p : Int) := by omega
        have P1 : (p : Int) ≤ (e : Int) := by omega
        have P2 : (e : Int) ≤ (s.size : Int) := by omega
        have hc : N = 0 ∨ 32 < N ∨ (N ≠ 0 ∧ N ≤ 32) := by omega
        have cB := fun w' (h : Rd w' R s p c w') => bad_any h hp
        have cF := fun U => fail_any 3 (p : Int) U
        clear HI
        rcases hc with hc | hc | ⟨hc0, hc⟩
        · have s0 : ((e : Int) == (p : Int)) = true := by rw [show e = p by omega]; simp
          have HE : Hid (X.part (rest s p) = .error (X.bad (rest s p))) := by
            show _ = _
            unfold X.part
            rw [if_pos (List.eq_nil_of_length_eq_zero (by rw [HN.out, hc]))]
          clear hc he
          go_wp2_with fail
          refine (cL _).mono ?_
          rintro e1 w1 ⟨rfl, rfl⟩
          go_wp2_with fail
          refine (cB _ HQ.out.own).mono ?_
          rintro en w3 ⟨rfl, hbl⟩
          exact ⟨rfl, Or.inr ⟨_, _, HE.out, rfl, (HQ.out.below hbl).g⟩⟩
        · have s0 : ((e : Int) == (p : Int)) = false := beq_eq_false_iff_ne.2 (by omega)
          have s1 : decide ((32 : Int) < (e : Int) - (p : Int)) = true := decide_eq_true (by omega)
          have HE : Hid (X.part (rest s p) = .error (s.size - p, 3) ∧ s.size - (s.size - p) = p) := by
            refine ⟨?_, by omega⟩
            unfold X.part
            rw [if_neg (fun hh => by have := HN.out; rw [hh] at this; simp at this; omega), HN.out, if_pos hc, rest_len]
          clear hc he
          go_wp2_with fail
          refine (cL _).mono ?_
          rintro e1 w1 ⟨rfl, rfl⟩
          go_wp2_with fail
          refine (cF _).mono ?_
          rintro en w3 ⟨rfl, rfl⟩
          exact ⟨rfl, Or.inr ⟨_, _, HE.out.1, by rw [HE.out.2], HQ.out.g⟩⟩
        · have s0 : ((e : Int) == (p : Int)) = false := beq_eq_false_iff_ne.2 (by omega)
          have s1 : decide ((32 : Int) < (e : Int) - (p : Int)) = false := decide_eq_false (by omega)
          have HE : Hid (X.part (rest s p) = .ok (X.partL (rest s p), rest s e) ∧ s.size - (rest s e).length = e ∧ s.extract p e = X.ba (X.partL (rest s p))) := by
            refine ⟨?_, by rw [rest_len]; omega, by rw [HQE.out, ← HN.out]; exact extract_part s p⟩
            unfold X.part
            rw [if_neg (fun hh => by have := HN.out; rw [hh] at this; simp at this; omega), HN.out, if_neg (by omega), rest_drop, ← HQE.out]
          have f1 := HQ.out.free 1
          clear hc hc0 he
          go_wp2_with fail
          refine (cL _).mono ?_
          rintro e1 w1 ⟨rfl, rfl⟩
          go_wp2_with fail
          go_region
          go_wp2_with fail
          go_ret
          exact Or.inl ⟨_, _, HE.out.1, by rw [HE.out.2.2]; rfl, by rw [HE.out.2.1]; exact HQ.out.drew.set1 e⟩
    · have d0 : decide ((e : Int) < (s.size : Int)) = false := decide_eq_false (by omega)
      have d1 : decide (e < s.size) = false := decide_eq_false hlt
      have he := HI.out.end (by omega)
      clear cI
      have HQE := hid he
      have hqs : e ≤ s.size := by omega
      have hpq : p ≤ e := by omega
      have P0 : (0 : Int) ≤ (p : Int) := by omega
      have P1 : (p : Int) ≤ (e : Int) := by omega
      have P2 : (e : Int) ≤ (s.size : Int) := by omega
      have hc : N = 0 ∨ 32 < N ∨ (N ≠ 0 ∧ N ≤ 32) := by omega
      have cB := fun w' (h : Rd w' R s p c w') => bad_any h hp
      have cF := fun U => fail_any 3 (p : Int) U
      clear HI hlt
      rcases hc with hc | hc | ⟨hc0, hc⟩
      · have s0 : ((e : Int) == (p : Int)) = true := by rw [show e = p by omega]; simp
        have HE : Hid (X.part (rest s p) = .error (X.bad (rest s p))) := by
          show _ = _
          unfold X.part
          rw [if_pos (List.eq_nil_of_length_eq_zero (by rw [HN.out, hc]))]
        clear hc he
        go_wp2_with fail
        refine (cB _ HQ.out.own).mono ?_
        rintro en w3 ⟨rfl, hbl⟩
        exact ⟨rfl, Or.inr ⟨_, _, HE.out, rfl, (HQ.out.below hbl).g⟩⟩
      · have s0 : ((e : Int) == (p : Int)) = false := beq_eq_false_iff_ne.2 (by omega)
        have s1 : decide ((32 : Int) < (e : Int) - (p : Int)) = true := decide_eq_true (by omega)
        have HE : Hid (X.part (rest s p) = .error (s.size - p, 3) ∧ s.size - (s.size - p) = p) := by
          refine ⟨?_, by omega⟩
          unfold X.part
          rw [if_neg (fun hh => by have := HN.out; rw [hh] at this; simp at this; omega), HN.out, if_pos hc, rest_len]
        clear hc he
        go_wp2_with fail
        refine (cF _).mono ?_
        rintro en w3 ⟨rfl, rfl⟩
        exact ⟨rfl, Or.inr ⟨_, _, HE.out.1, by rw [HE.out.2], HQ.out.g⟩⟩
      · have s0 : ((e : Int) == (p : Int)) = false := beq_eq_false_iff_ne.2 (by omega)
        have s1 : decide ((32 : Int) < (e : Int) - (p : Int)) = false := decide_eq_false (by omega)
        have HE : Hid (X.part (rest s p) = .ok (X.partL (rest s p), rest s e) ∧ s.size - (rest s e).length = e ∧ s.extract p e = X.ba (X.partL (rest s p))) := by
          refine ⟨?_, by rw [rest_len]; omega, by rw [HQE.out, ← HN.out]; exact extract_part s p⟩
          unfold X.part
          rw [if_neg (fun hh => by have := HN.out; rw [hh] at this; simp at this; omega), HN.out, if_neg (by omega), rest_drop, ← HQE.out]
        have f1 := HQ.out.free 1
        clear hc hc0 he
        go_wp2_with fail
        go_region
        go_wp2_with fail
        go_ret
        exact Or.inl ⟨_, _, HE.out.1, by rw [HE.out.2.2]; rfl, by rw [HE.out.2.1]; exact HQ.out.drew.set1 e⟩
end Go.Proofs.YtakplnceiibmlaaGreatDoor
