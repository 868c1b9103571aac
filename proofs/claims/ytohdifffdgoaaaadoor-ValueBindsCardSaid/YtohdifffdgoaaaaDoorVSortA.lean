/- Binds in order: the comparer, swaps, rotation, insertion, and the plain law of the stable sort. -/
import Derived.Test.YtohdifffdgoaaaaDoorVOrd
import Derived.Test.YtohdifffdgoaaaaDoorVCheck
import Derived.Test.YtohdifffdgoaaaaDoorVBinds
import Derived.Sort.Walk0
import Derived.Laws.Cover1
import Derived.Test.YtohdifffdgoaaaaDoorVPutP
import Derived.CellFam
import Derived.Test.YtohdifffdgoaaaaDoorVBindsW
namespace Go.Proofs.YtohdifffdgoaaaaDoor
open Go.RowKit
open Go.Lib (hid)
open V
theorem isNaN_s (a : ByteArray) (w : World) : Calls Tryd.prog 83 #[.string a] w fun e w' => e = .returned (.bool false) ∧ w' = w := by
  have t0 : (a.toList == a.toList) = true := by simp
  go_enter Tryd.func83, Tryd.ntmps83
  go_wp2_with fail
  go_ret
  exact ⟨by simp, rfl⟩
/-- -1, 0, 1 by bytes -/
def ordS (a b : ByteArray) : Int := if Op.bytesLess a.toList b.toList then -1 else if a.toList == b.toList then 0 else 1
set_option maxRecDepth 100000 in
theorem compare_s (a b : ByteArray) (w : World) : Calls Tryd.prog 61 #[.string a, .string b] w fun e w' => e = .returned (.int .i64 (ordS a b)) ∧ w' = w := by
  obtain ⟨R, hR⟩ : ∃ R, ordS a b = R := ⟨_, rfl⟩
  rw [hR]
  unfold ordS at hR
  rcases Bool.eq_false_or_eq_true (Op.bytesLess a.toList b.toList) with h | h
  · rw [h] at hR
    have HE : Hid (R = -1) := by show _ = _; rw [← hR]; simp
    clear hR
    go_enter Tryd.func61, Tryd.ntmps61
    go_wp2_with fail
    refine (isNaN_s a w).mono ?_
    rintro e w' ⟨rfl, rfl⟩
    go_wp2_with fail
    refine (isNaN_s b w').mono ?_
    rintro e w' ⟨rfl, rfl⟩
    go_wp2_with fail
    go_ret
    exact ⟨ret_i (a := -1) HE.out.symm, rfl⟩
  · rcases Bool.eq_false_or_eq_true (a.toList == b.toList) with g | g
    · rw [h, g] at hR
      have HE : Hid (R = 0) := by show _ = _; rw [← hR]; simp
      clear hR
      go_enter Tryd.func61, Tryd.ntmps61
      go_wp2_with fail
      refine (isNaN_s a w).mono ?_
      rintro e w' ⟨rfl, rfl⟩
      go_wp2_with fail
      refine (isNaN_s b w').mono ?_
      rintro e w' ⟨rfl, rfl⟩
      go_wp2_with fail
      go_ret
      exact ⟨ret_i (a := 0) HE.out.symm, rfl⟩
    · rw [h, g] at hR
      have HE : Hid (R = 1) := by show _ = _; rw [← hR]; simp
      clear hR
      go_enter Tryd.func61, Tryd.ntmps61
      go_wp2_with fail
      refine (isNaN_s a w).mono ?_
      rintro e w' ⟨rfl, rfl⟩
      go_wp2_with fail
      refine (isNaN_s b w').mono ?_
      rintro e w' ⟨rfl, rfl⟩
      go_wp2_with fail
      go_ret
      exact ⟨ret_i (a := 1) HE.out.symm, rfl⟩

theorem ordS_neg (a b : Bind) : decide (ordS a.name b.name < 0) = decide (a.nm < b.nm) := by

  unfold ordS Bind.nm
  rw [bytesLess_eq]
  rw [Lib.toList_data, Lib.toList_data]
  by_cases h : a.name.data.toList < b.name.data.toList
  · simp [h]
  · simp [h]
    split <;> omega
set_option maxRecDepth 100000 in
/-- the comparer that Sorted hands to the library -/
theorem byName_any (a b : Bind) (w : World) : Calls Tryd.prog 60 #[.agg #[.string a.name, .int .u8 a.v.k, .int .i64 a.v.n, .bool a.v.b, .string a.v.s], .agg #[.string b.name, .int .u8 b.v.k, .int .i64 b.v.n, .bool b.v.b, .string b.v.s]] w fun e w' => e = .returned (.int .i64 (ordS a.name b.name)) ∧ Below w.heap.size w w' := by
  go_enter Tryd.func60, Tryd.ntmps60
  go_wp2_with fail
  refine (compare_s a.name b.name _).mono ?_
  rintro e w' ⟨rfl, rfl⟩
  go_wp2_with fail
  go_ret
  exact ⟨rfl, ((Below.refl _ _).alloc (Nat.le_refl _) _).alloc (by simp) _⟩
end Go.Proofs.YtohdifffdgoaaaaDoor
namespace Go.Proofs.YtohdifffdgoaaaaDoor
namespace Srt
variable {α : Type} {k : α → List UInt8}

/-- the same elements of each key, in the same order -/
def StEq (k : α → List UInt8) (A B : List α) : Prop := ∀ x, A.filter (fun a => decide (k a = x)) = B.filter (fun a => decide (k a = x))
theorem StEq.refl (A : List α) : StEq k A A := fun _ => rfl
theorem StEq.symm {A B : List α} (h : StEq k A B) : StEq k B A := fun x => (h x).symm
theorem StEq.trans {A B C : List α} (h : StEq k A B) (g : StEq k B C) : StEq k A C := fun x => (h x).trans (g x)
theorem StEq.append {A B C D : List α} (h : StEq k A B) (g : StEq k C D) : StEq k (A ++ C) (B ++ D) := fun x => by
  rw [List.filter_append, List.filter_append, h x, g x]
theorem StEq.mem {A B : List α} (h : StEq k A B) {a : α} (ha : a ∈ A) : a ∈ B := by
  have : a ∈ A.filter (fun c => decide (k c = k a)) := List.mem_filter.2 ⟨ha, by simp⟩
  rw [h] at this
  exact (List.mem_filter.1 this).1
/-- two parts of which no key of the one is a key of the other, changed about -/
theorem StEq.about {L R : List α} (h : ∀ a ∈ L, ∀ b ∈ R, k a ≠ k b) : StEq k (L ++ R) (R ++ L) := fun x => by
  rw [List.filter_append, List.filter_append]
  by_cases hx : ∃ a ∈ L, k a = x
  · obtain ⟨a, ha, rfl⟩ := hx
    have : R.filter (fun c => decide (k c = k a)) = [] := by
      rw [List.filter_eq_nil_iff]
      intro b hb e
      exact h a ha b hb (of_decide_eq_true e).symm
    rw [this]; simp
  · have : L.filter (fun c => decide (k c = x)) = [] := by
      rw [List.filter_eq_nil_iff]
      intro b hb e
      exact hx ⟨b, hb, of_decide_eq_true e⟩
    rw [this]; simp

def Le (k : α → List UInt8) (a b : α) : Prop := ¬ k b < k a
theorem le_of_lt {a b : α} (h : k a < k b) : Le k a b := fun g => List.lt_irrefl _ (List.lt_trans h g)
theorem Le.trans {a b c : α} (h : Le k a b) (g : Le k b c) : Le k a c := fun e => by
  have h' : k a ≤ k b := h
  have g' : k b ≤ k c := g
  exact (List.le_trans h' g') e
theorem Le.eq {a b : α} (h : Le k a b) (g : Le k b a) : k a = k b := by
  have h' : k a ≤ k b := h
  have g' : k b ≤ k a := g
  exact List.le_antisymm h' g'
theorem lt_le {a b c : α} (h : k a < k b) (g : Le k b c) : k a < k c := by
  have g' : k b ≤ k c := g
  exact Std.lt_of_lt_of_le h g'
theorem le_lt {a b c : α} (g : Le k a b) (h : k b < k c) : k a < k c := by
  have g' : k a ≤ k b := g
  exact Std.lt_of_le_of_lt g' h

/-- two sorted lists that are the same but for the order are the same -/
theorem sorted_unique : ∀ (A B : List α), A.Pairwise (Le k) → B.Pairwise (Le k) → StEq k A B → A = B
  | [], [], _, _, _ => rfl
  | [], b :: B, _, _, h => absurd (h.symm.mem (List.mem_cons_self ..)) (by simp)
  | a :: A, [], _, _, h => absurd (h.mem (List.mem_cons_self ..)) (by simp)
  | a :: A, b :: B, hA, hB, h => by
    have e : k a = k b := by
      have ha : a ∈ b :: B := h.mem (List.mem_cons_self ..)
      have hb : b ∈ a :: A := h.symm.mem (List.mem_cons_self ..)
      have l1 : Le k a b := by
        rcases List.mem_cons.1 hb with rfl | hb
        · exact fun g => List.lt_irrefl _ g
        · exact (List.pairwise_cons.1 hA).1 b hb
      have l2 : Le k b a := by
        rcases List.mem_cons.1 ha with rfl | ha
        · exact fun g => List.lt_irrefl _ g
        · exact (List.pairwise_cons.1 hB).1 a ha
      exact l1.eq l2
    have h0 := h (k a)
    rw [List.filter_cons_of_pos (by simp), List.filter_cons_of_pos (by simp [e])] at h0
    obtain ⟨rfl, h1⟩ := List.cons.inj h0
    congr 1
    refine sorted_unique A B (List.pairwise_cons.1 hA).2 (List.pairwise_cons.1 hB).2 fun x => ?_
    have hx := h x
    by_cases g : k a = x
    · rw [List.filter_cons_of_pos (by simp [g]), List.filter_cons_of_pos (by simp [g])] at hx
      exact (List.cons.inj hx).2
    · rw [List.filter_cons_of_neg (by simp [g]), List.filter_cons_of_neg (by simp [g])] at hx
      exact hx

/-- one element put in behind all that are not above it -/
theorem insert_sorted {L R : List α} {x : α} (h : (L ++ R).Pairwise (Le k)) (hR : ∀ r ∈ R, k x < k r) (hL : ∀ y ∈ L, Le k y x) : (L ++ x :: R).Pairwise (Le k) := by
  rw [List.pairwise_append] at h ⊢
  refine ⟨h.1, List.pairwise_cons.2 ⟨fun r hr => le_of_lt (hR r hr), h.2.1⟩, fun a ha b hb => ?_⟩
  rcases List.mem_cons.1 hb with rfl | hb
  · exact hL a ha
  · exact h.2.2 a ha b hb
/-- the last of a sorted part is above all of it -/
theorem last_above {L : List α} {y x : α} (h : (L ++ [y]).Pairwise (Le k)) (hy : Le k y x) : ∀ a ∈ L ++ [y], Le k a x := fun a ha => by
  rcases List.mem_append.1 ha with ha | ha
  · exact ((List.pairwise_append.1 h).2.2 a ha y (by simp)).trans hy
  · obtain rfl := List.mem_singleton.1 ha
    exact hy

/-- between a and b the elements are put about, each key's in their order; all else stays -/
def Rng (k : α → List UInt8) (a b : Nat) (A B : List α) : Prop :=
  ∃ P M N S, A = P ++ (M ++ S) ∧ B = P ++ (N ++ S) ∧ P.length = a ∧ a + M.length = b ∧ N.length = M.length ∧ StEq k M N
theorem Rng.refl {A : List α} {a b : Nat} (h : a ≤ b) (hb : b ≤ A.length) : Rng k a b A A :=
  ⟨A.take a, (A.drop a).take (b - a), (A.drop a).take (b - a), A.drop b, by
    rw [show A.drop b = (A.drop a).drop (b - a) by rw [List.drop_drop]; congr 1; omega, List.take_append_drop, List.take_append_drop], by
    rw [show A.drop b = (A.drop a).drop (b - a) by rw [List.drop_drop]; congr 1; omega, List.take_append_drop, List.take_append_drop], by simp; omega, by simp; omega, rfl, StEq.refl _⟩
theorem Rng.length {A B : List α} {a b : Nat} (h : Rng k a b A B) : B.length = A.length := by
  obtain ⟨P, M, N, S, rfl, rfl, h1, h2, h3, h4⟩ := h
  simp [h3]
theorem Rng.trans {A B C : List α} {a b : Nat} (h : Rng k a b A B) (g : Rng k a b B C) : Rng k a b A C := by
  obtain ⟨P, M, N, S, rfl, rfl, h1, h2, h3, h4⟩ := h
  obtain ⟨P', M', N', S', g0, rfl, g1, g2, g3, g4⟩ := g
  obtain ⟨e1, e2⟩ := List.append_inj g0 (by omega)
  clear g0
  subst e1
  obtain ⟨e3, e4⟩ := List.append_inj e2 (by omega)
  clear e2
  subst e3 e4
  exact ⟨P, M, N', S, rfl, rfl, h1, h2, by omega, h4.trans g4⟩
theorem Rng.mono {A B : List α} {a b c d : Nat} (h : Rng k a b A B) (hc : c ≤ a) (hd : b ≤ d) (hA : d ≤ A.length) : Rng k c d A B := by
  obtain ⟨P, M, N, S, rfl, rfl, h1, h2, h3, h4⟩ := h
  simp at hA
  refine ⟨P.take c, P.drop c ++ (M ++ S.take (d - b)), P.drop c ++ (N ++ S.take (d - b)), S.drop (d - b), ?_, ?_, by simp; omega, by simp; omega, by simp; omega, (StEq.refl _).append (h4.append (StEq.refl _))⟩
  · simp only [List.append_assoc, List.take_append_drop]
    rw [← List.append_assoc (P.take c), List.take_append_drop]
  · simp only [List.append_assoc, List.take_append_drop]
    rw [← List.append_assoc (P.take c), List.take_append_drop]
/-- the whole, put about so that it is sorted, is the one sorted list -/
theorem Rng.stEq {A B : List α} {a b : Nat} (h : Rng k a b A B) : StEq k A B := by
  obtain ⟨P, M, N, S, rfl, rfl, h1, h2, h3, h4⟩ := h
  exact (StEq.refl _).append (h4.append (StEq.refl _))

/-- sorted from a up to b -/
def On (k : α → List UInt8) (a b : Nat) (A : List α) : Prop := ∀ i j x y, a ≤ i → i < j → j < b → A[i]? = some x → A[j]? = some y → Le k x y
theorem On.nil {A : List α} {a b : Nat} (h : b ≤ a + 1) : On k a b A := fun i j _ _ hi hj hb _ _ => by omega
theorem On.mono {A : List α} {a b c d : Nat} (h : On k a b A) (hc : a ≤ c) (hd : d ≤ b) : On k c d A := fun i j x y hi hj hb => h i j x y (by omega) hj (by omega)
theorem Rng.before {A B : List α} {a b i : Nat} (h : Rng k a b A B) (hi : i < a) : B[i]? = A[i]? := by
  obtain ⟨P, M, N, S, rfl, rfl, h1, h2, h3, h4⟩ := h
  rw [List.getElem?_append_left (by omega), List.getElem?_append_left (by omega)]
theorem Rng.behind {A B : List α} {a b i : Nat} (h : Rng k a b A B) (hi : b ≤ i) : B[i]? = A[i]? := by
  obtain ⟨P, M, N, S, rfl, rfl, h1, h2, h3, h4⟩ := h
  rw [← List.append_assoc, ← List.append_assoc, List.getElem?_append_right (by simp; omega), List.getElem?_append_right (by simp; omega)]
  simp [h3]
theorem Rng.within {A B : List α} {a b i : Nat} {x : α} (h : Rng k a b A B) (ha : a ≤ i) (hb : i < b) (hx : B[i]? = some x) : ∃ j, a ≤ j ∧ j < b ∧ A[j]? = some x := by
  obtain ⟨P, M, N, S, rfl, rfl, h1, h2, h3, h4⟩ := h
  rw [List.getElem?_append_right (by omega), List.getElem?_append_left (by omega)] at hx
  obtain ⟨j, hj, e⟩ := List.getElem_of_mem (h4.symm.mem (List.mem_of_getElem? hx))
  refine ⟨a + j, by omega, by omega, ?_⟩
  rw [List.getElem?_append_right (by omega), List.getElem?_append_left (by omega), show a + j - P.length = j by omega, List.getElem?_eq_getElem hj, e]
theorem Rng.on_out {A B : List α} {a b c d : Nat} (h : Rng k a b A B) (ho : d ≤ a ∨ b ≤ c) (g : On k c d A) : On k c d B := fun i j x y hi hj hd hx hy => by
  rcases ho with ho | ho
  · rw [h.before (by omega)] at hx hy; exact g i j x y hi hj hd hx hy
  · rw [h.behind (by omega)] at hx hy; exact g i j x y hi hj hd hx hy
/-- two sorted parts, no element of the first above one of the second -/
theorem On.join {A : List α} {a m b : Nat} (h : On k a m A) (g : On k m b A) (hh : ∀ i j x y, a ≤ i → i < m → m ≤ j → j < b → A[i]? = some x → A[j]? = some y → Le k x y) : On k a b A := fun i j x y hi hj hb hx hy => by
  by_cases h1 : j < m
  · exact h i j x y hi hj h1 hx hy
  · by_cases h2 : i < m
    · exact hh i j x y hi h2 (by omega) hb hx hy
    · exact g i j x y (by omega) hj hb hx hy
/-- what stands between a and b may be put about on either side of m without harm to 'all here are below all there' -/
theorem Rng.below {A B : List α} {a m b : Nat} (h : Rng k a m A B) (hh : ∀ i j x y, a ≤ i → i < m → m ≤ j → j < b → A[i]? = some x → A[j]? = some y → Le k x y) :
    ∀ i j x y, a ≤ i → i < m → m ≤ j → j < b → B[i]? = some x → B[j]? = some y → Le k x y := fun i j x y hi hm hj hb hx hy => by
  rw [h.behind hj] at hy
  obtain ⟨i', h1, h2, h3⟩ := h.within hi hm hx
  exact hh i' j x y h1 h2 hj hb h3 hy
theorem Rng.above {A B : List α} {a m b : Nat} (h : Rng k m b A B) (hh : ∀ i j x y, a ≤ i → i < m → m ≤ j → j < b → A[i]? = some x → A[j]? = some y → Le k x y) :
    ∀ i j x y, a ≤ i → i < m → m ≤ j → j < b → B[i]? = some x → B[j]? = some y → Le k x y := fun i j x y hi hm hj hb hx hy => by
  rw [h.before hm] at hx
  obtain ⟨j', h1, h2, h3⟩ := h.within hj hb hy
  exact hh i j' x y hi hm h1 h2 hx h3
/-- two parts that lie side by side, changed about -/
def Rot (a m b : Nat) (A B : List α) : Prop :=
  ∃ P X Y S, A = P ++ (X ++ (Y ++ S)) ∧ B = P ++ (Y ++ (X ++ S)) ∧ P.length = a ∧ a + X.length = m ∧ m + Y.length = b
theorem Rot.before {A B : List α} {a m b i : Nat} (h : Rot a m b A B) (hi : i < a) : B[i]? = A[i]? := by
  obtain ⟨P, X, Y, S, rfl, rfl, h1, h2, h3⟩ := h
  rw [List.getElem?_append_left (by omega), List.getElem?_append_left (by omega)]
theorem Rot.first {A B : List α} {a m b i : Nat} (h : Rot a m b A B) (ha : a ≤ i) (hi : i < a + (b - m)) : B[i]? = A[i + (m - a)]? := by
  obtain ⟨P, X, Y, S, rfl, rfl, h1, h2, h3⟩ := h
  rw [List.getElem?_append_right (by omega), List.getElem?_append_left (by omega), List.getElem?_append_right (by omega), List.getElem?_append_right (by omega), List.getElem?_append_left (by omega)]
  congr 1; omega
theorem Rot.second {A B : List α} {a m b i : Nat} (h : Rot a m b A B) (ha : a + (b - m) ≤ i) (hi : i < b) : B[i]? = A[i - (b - m)]? := by
  obtain ⟨P, X, Y, S, rfl, rfl, h1, h2, h3⟩ := h
  rw [List.getElem?_append_right (by omega), List.getElem?_append_right (by omega), List.getElem?_append_left (by omega), List.getElem?_append_right (by omega), List.getElem?_append_left (by omega)]
  congr 1; omega
theorem Rot.behind {A B : List α} {a m b i : Nat} (h : Rot a m b A B) (hi : b ≤ i) : B[i]? = A[i]? := by
  obtain ⟨P, X, Y, S, rfl, rfl, h1, h2, h3⟩ := h
  rw [List.getElem?_append_right (by omega), List.getElem?_append_right (by omega), List.getElem?_append_right (by omega), List.getElem?_append_right (by omega), List.getElem?_append_right (by omega), List.getElem?_append_right (by omega)]
  congr 1; omega
theorem Rot.rng {A B : List α} {a m b : Nat} (h : Rot a m b A B) (hh : ∀ i j x y, a ≤ i → i < m → m ≤ j → j < b → A[i]? = some x → A[j]? = some y → k x ≠ k y) : Rng k a b A B := by
  obtain ⟨P, X, Y, S, rfl, rfl, h1, h2, h3⟩ := h
  refine ⟨P, X ++ Y, Y ++ X, S, by simp, by simp, h1, by simp; omega, by simp; omega, StEq.about fun x hx y hy => ?_⟩
  obtain ⟨i, hi, e⟩ := List.getElem_of_mem hx
  obtain ⟨j, hj, f⟩ := List.getElem_of_mem hy
  refine hh (a + i) (m + j) x y (by omega) (by omega) (by omega) (by omega) ?_ ?_
  · rw [List.getElem?_append_right (by omega), List.getElem?_append_left (by omega), show a + i - P.length = i by omega, List.getElem?_eq_getElem hi, e]
  · rw [List.getElem?_append_right (by omega), List.getElem?_append_right (by omega), List.getElem?_append_left (by omega), show m + j - P.length - X.length = j by omega, List.getElem?_eq_getElem hj, f]
/-- the symmetric merge's one step: behind the search and the rotation there are two sorted pairs, all of the first below all of the second -/
theorem On.at_most {A : List α} {a b i j : Nat} {x y : α} (h : On k a b A) (hi : a ≤ i) (hij : i ≤ j) (hj : j < b) (hx : A[i]? = some x) (hy : A[j]? = some y) : Le k x y := by
  by_cases e : i = j
  · subst e
    rw [hx] at hy
    obtain rfl := Option.some.inj hy
    exact fun g => List.lt_irrefl _ g
  · exact h i j x y hi (by omega) hj hx hy
theorem sym_rot {A B : List α} {a s m e b q : Nat} (hb : b ≤ A.length) (hq : q = s + (e - m)) (h1 : a ≤ s) (h2 : s ≤ m) (h3 : m ≤ e) (h4 : e ≤ b) (hL : On k a m A) (hR : On k m b A)
    (c1 : ∀ x y, a < s → e < b → A[s - 1]? = some x → A[e]? = some y → Le k x y)
    (c2 : ∀ x y, s < m → m < e → A[e - 1]? = some x → A[s]? = some y → k x < k y) (h : Rot s m e A B) :
    Rng k s e A B ∧ On k a s B ∧ On k s q B ∧ On k q e B ∧ On k e b B ∧ ∀ i j x y, a ≤ i → i < q → q ≤ j → j < b → B[i]? = some x → B[j]? = some y → Le k x y := by
  subst hq
  have lt12 : ∀ i j x y, s ≤ i → i < m → m ≤ j → j < e → A[i]? = some x → A[j]? = some y → k y < k x := fun i j x y hi hm hj he hx hy => by
    have hs : s < A.length := by omega
    have he' : e - 1 < A.length := by omega
    have l := c2 A[e - 1] A[s] (by omega) (by omega) (List.getElem?_eq_getElem he') (List.getElem?_eq_getElem hs)
    exact le_lt (hR.at_most hj (show j ≤ e - 1 by omega) (by omega) hy (List.getElem?_eq_getElem he')) (lt_le l (hL.at_most h1 hi hm (List.getElem?_eq_getElem hs) hx))
  refine ⟨h.rng fun i j x y hi hm hj he hx hy e0 => ?_, ?_, ?_, ?_, ?_, ?_⟩
  · have := lt12 i j x y hi hm hj he hx hy
    rw [e0] at this
    exact List.lt_irrefl _ this
  · intro i j x y hi hij hj hx hy
    rw [h.before (by omega)] at hx hy
    exact hL i j x y hi hij (by omega) hx hy
  · intro i j x y hi hij hj hx hy
    rw [h.first (by omega) (by omega)] at hx hy
    exact hR _ _ x y (by omega) (by omega) (by omega) hx hy
  · intro i j x y hi hij hj hx hy
    rw [h.second (by omega) (by omega)] at hx hy
    exact hL _ _ x y (by omega) (by omega) (by omega) hx hy
  · intro i j x y hi hij hj hx hy
    rw [h.behind (by omega)] at hx hy
    exact hR i j x y (by omega) hij hj hx hy
  · intro i j x y hi hq hj hb' hx hy
    by_cases i1 : i < s
    · rw [h.before i1] at hx
      by_cases j1 : j < e
      · rw [h.second hj j1] at hy
        exact hL _ _ x y hi (by omega) (by omega) hx hy
      · rw [h.behind (by omega)] at hy
        have hs : s - 1 < A.length := by omega
        have he' : e < A.length := by omega
        have l := c1 A[s - 1] A[e] (by omega) (by omega) (List.getElem?_eq_getElem hs) (List.getElem?_eq_getElem he')
        exact ((hL.at_most hi (show i ≤ s - 1 by omega) (by omega) hx (List.getElem?_eq_getElem hs)).trans l).trans (hR.at_most h3 (by omega) hb' (List.getElem?_eq_getElem he') hy)
    · rw [h.first (by omega) hq] at hx
      by_cases j1 : j < e
      · rw [h.second hj j1] at hy
        exact le_of_lt (lt12 _ _ y x (by omega) (by omega) (by omega) (by omega) hy hx)
      · rw [h.behind (by omega)] at hy
        exact hR _ _ x y (by omega) (by omega) hb' hx hy
/-- both pairs merged -/
theorem sym_join {B C D : List α} {a q b : Nat} (hh : ∀ i j x y, a ≤ i → i < q → q ≤ j → j < b → B[i]? = some x → B[j]? = some y → Le k x y)
    (h1 : Rng k a q B C) (g1 : On k a q C) (h2 : Rng k q b C D) (g2 : On k q b D) : On k a b D :=
  (h2.on_out (Or.inl (Nat.le_refl _)) g1).join g2 (h2.above (h1.below hh))
/-- the insertion's round: x stands at j, below all that stand behind it up to i; without it all is sorted -/
def Ins (k : α → List UInt8) (a j i : Nat) (A : List α) : Prop :=
  ∃ P L x R S, A = P ++ (L ++ (x :: (R ++ S))) ∧ P.length = a ∧ a + L.length = j ∧ j + R.length = i ∧ (L ++ R).Pairwise (Le k) ∧ ∀ r ∈ R, k x < k r
theorem on_pair {P M S : List α} {a b : Nat} (h1 : P.length = a) (h2 : a + M.length = b) : On k a b (P ++ (M ++ S)) ↔ M.Pairwise (Le k) := by
  rw [List.pairwise_iff_getElem]
  have at_ : ∀ i (h : i < M.length), (P ++ (M ++ S))[a + i]? = some M[i] := fun i h => by
    rw [List.getElem?_append_right (by omega), List.getElem?_append_left (by omega), show a + i - P.length = i by omega, List.getElem?_eq_getElem h]
  constructor
  · intro h i j hi hj hij
    exact h (a + i) (a + j) _ _ (by omega) (by omega) (by omega) (at_ i hi) (at_ j hj)
  · intro h i j x y hi hij hj hx hy
    have ex := at_ (i - a) (by omega)
    have ey := at_ (j - a) (by omega)
    rw [show a + (i - a) = i by omega, hx] at ex
    rw [show a + (j - a) = j by omega, hy] at ey
    obtain rfl := Option.some.inj ex
    obtain rfl := Option.some.inj ey
    exact h _ _ (by omega) (by omega) (by omega)
theorem split_at {A : List α} {i : Nat} (h : i < A.length) : ∃ P x S, A = P ++ x :: S ∧ P.length = i :=
  ⟨A.take i, A[i], A.drop (i + 1), by rw [← List.drop_eq_getElem_cons h, List.take_append_drop], by simp; omega⟩
theorem Ins.start {A : List α} {a i : Nat} (h : On k a i A) (ha : a ≤ i) (hi : i < A.length) : Ins k a i i A := by
  obtain ⟨Q, x, S, rfl, hQ⟩ := split_at hi
  obtain ⟨P, L, rfl, hP⟩ : ∃ P L, Q = P ++ L ∧ P.length = a := ⟨Q.take a, Q.drop a, (List.take_append_drop _ _).symm, by simp; omega⟩
  simp at hQ
  refine ⟨P, L, x, [], S, by simp, hP, by omega, by simp, ?_, by simp⟩
  rw [List.append_assoc] at h
  simpa using (on_pair hP (by omega)).1 h
theorem Ins.at {A : List α} {a j i : Nat} (h : Ins k a j i A) : ∃ x, A[j]? = some x := by
  obtain ⟨P, L, x, R, S, rfl, h1, h2, h3, h4, h5⟩ := h
  exact ⟨x, by rw [List.getElem?_append_right (by omega), List.getElem?_append_right (by omega), show j - P.length - L.length = 0 by omega]; rfl⟩
theorem Ins.step {A : List α} {a j i : Nat} {x y : α} (h : Ins k a (j + 1) i A) (ha : a < j + 1) (hx : A[j + 1]? = some x) (hy : A[j]? = some y) (hl : k x < k y) :
    Ins k a j i ((A.set (j + 1) y).set j x) ∧ Rng k a (i + 1) A ((A.set (j + 1) y).set j x) := by
  obtain ⟨P, L, z, R, S, rfl, h1, h2, h3, h4, h5⟩ := h
  rw [List.getElem?_append_right (by omega), List.getElem?_append_right (by omega), show j + 1 - P.length - L.length = 0 by omega] at hx
  obtain rfl : z = x := Option.some.inj hx
  obtain ⟨L, v, rfl⟩ : ∃ L' v, L = L' ++ [v] := ⟨L.dropLast, L.getLast (by intro e; subst e; simp at h2; omega), (List.dropLast_concat_getLast _).symm⟩
  simp at h2
  rw [List.getElem?_append_right (by omega), List.append_assoc, List.getElem?_append_right (by omega), show j - P.length - L.length = 0 by omega] at hy
  obtain rfl : v = y := Option.some.inj hy
  have e : (((P ++ (L ++ [v] ++ z :: (R ++ S))).set (j + 1) v).set j z) = P ++ (L ++ (z :: (v :: R ++ S))) := by
    rw [List.append_assoc, List.set_append_right _ _ (by omega), List.set_append_right _ _ (by omega), List.set_append_right _ _ (by omega), show j + 1 - P.length - L.length = 1 by omega,
      List.set_append_right _ _ (by omega), show j - P.length - L.length = 0 by omega]
    rfl
  rw [e]
  refine ⟨⟨P, L, z, v :: R, S, rfl, h1, by omega, by simp; omega, by simpa using h4, fun r hr => ?_⟩, P, L ++ [v] ++ z :: R, L ++ z :: v :: R, S, by simp, by simp, h1, by simp <;> omega, by simp <;> omega, ?_⟩
  · rcases List.mem_cons.1 hr with rfl | hr
    · exact hl
    · exact h5 r hr
  · rw [List.append_assoc]
    refine (StEq.refl _).append ?_
    have : StEq k ([v] ++ [z]) ([z] ++ [v]) := StEq.about (fun a ha b hb e0 => by
      rw [List.mem_singleton.1 ha, List.mem_singleton.1 hb] at e0
      rw [e0] at hl
      exact List.lt_irrefl _ hl)
    have := this.append (StEq.refl R)
    simpa using this
theorem Ins.done {A : List α} {a j i : Nat} (h : Ins k a j i A) (hd : j = a ∨ ∃ x y, a < j ∧ A[j]? = some x ∧ A[j - 1]? = some y ∧ Le k y x) : On k a (i + 1) A := by
  obtain ⟨P, L, z, R, S, rfl, h1, h2, h3, h4, h5⟩ := h
  have e : P ++ (L ++ z :: (R ++ S)) = P ++ ((L ++ z :: R) ++ S) := by simp
  rw [e]
  refine (on_pair h1 (by simp; omega)).2 (insert_sorted h4 h5 ?_)
  rcases hd with hd | ⟨x, y, ha, hx, hy, hl⟩
  · have : L = [] := List.eq_nil_of_length_eq_zero (by omega)
    subst this
    simp
  · rw [List.getElem?_append_right (by omega), List.getElem?_append_right (by omega), show j - P.length - L.length = 0 by omega] at hx
    obtain rfl : z = x := Option.some.inj hx
    obtain ⟨L, v, rfl⟩ : ∃ L' v, L = L' ++ [v] := ⟨L.dropLast, L.getLast (by intro e; subst e; simp at h2; omega), (List.dropLast_concat_getLast _).symm⟩
    simp at h2
    rw [List.getElem?_append_right (by omega), List.append_assoc, List.getElem?_append_right (by omega), show j - 1 - P.length - L.length = 0 by omega] at hy
    obtain rfl : v = y := Option.some.inj hy
    exact last_above (List.pairwise_append.1 h4).1 hl

/-- two parts of one length, changed about, what is between them stays -/
def Swp (a b n : Nat) (A B : List α) : Prop :=
  ∃ P X Q Y S, A = P ++ (X ++ (Q ++ (Y ++ S))) ∧ B = P ++ (Y ++ (Q ++ (X ++ S))) ∧ P.length = a ∧ X.length = n ∧ Y.length = n ∧ a + n + Q.length = b
theorem rot_end {A B : List α} {a m n : Nat} (h : Swp a m n A B) (hm : a + n = m) : Rot a m (m + n) A B := by
  obtain ⟨P, X, Q, Y, S, rfl, rfl, h1, h2, h3, h4⟩ := h
  have : Q = [] := List.eq_nil_of_length_eq_zero (by omega)
  subst this
  exact ⟨P, X, Y, S, rfl, rfl, h1, by omega, by omega⟩
theorem rot_left {A A1 B : List α} {a m j : Nat} (h : Swp a m j A A1) (g : Rot (a + j) m (m + j) A1 B) : Rot a m (m + j) A B := by
  obtain ⟨P, X, Q, Y, S, rfl, rfl, h1, h2, h3, h4⟩ := h
  obtain ⟨P', X', Y', S', g0, rfl, g1, g2, g3⟩ := g
  rw [← List.append_assoc] at g0
  obtain ⟨e1, g0⟩ := List.append_inj g0 (by simp; omega)
  obtain ⟨e2, g0⟩ := List.append_inj g0 (by omega)
  obtain ⟨e3, e4⟩ := List.append_inj g0 (by omega)
  subst e1 e2 e3 e4
  exact ⟨P, X ++ Q, Y, S, by simp, by simp, h1, by simp; omega, by omega⟩
theorem rot_right {A A1 B : List α} {a m i j : Nat} (h : Swp a (m + j - i) i A A1) (ha : a + i = m) (hij : i ≤ j) (g : Rot a m (m + j - i) A1 B) : Rot a m (m + j) A B := by
  obtain ⟨P, X, Q, Y, S, rfl, rfl, h1, h2, h3, h4⟩ := h
  obtain ⟨P', X', Y', S', g0, rfl, g1, g2, g3⟩ := g
  obtain ⟨e1, g0⟩ := List.append_inj g0 (by omega)
  obtain ⟨e2, g0⟩ := List.append_inj g0 (by omega)
  obtain ⟨e3, e4⟩ := List.append_inj g0 (by omega)
  subst e1 e2 e3 e4
  exact ⟨P, X, Q ++ Y, S, by simp, by simp, h1, by omega, by simp; omega⟩
theorem Swp.none {A : List α} {a b : Nat} (h : a ≤ b) (hb : b ≤ A.length) : Swp a b 0 A A :=
  ⟨A.take a, [], (A.drop a).take (b - a), [], A.drop b, by
    simp only [List.nil_append]
    rw [show A.drop b = (A.drop a).drop (b - a) by rw [List.drop_drop]; congr 1; omega, List.take_append_drop, List.take_append_drop], by
    simp only [List.nil_append]
    rw [show A.drop b = (A.drop a).drop (b - a) by rw [List.drop_drop]; congr 1; omega, List.take_append_drop, List.take_append_drop], by simp; omega, rfl, rfl, by simp; omega⟩
theorem Swp.step {A B : List α} {a b i : Nat} {x y : α} (h : Swp a b i A B) (hi : a + i < b) (hx : B[a + i]? = some x) (hy : B[b + i]? = some y) : Swp a b (i + 1) A ((B.set (a + i) y).set (b + i) x) := by
  obtain ⟨P, X, Q, Y, S, rfl, rfl, h1, h2, h3, h4⟩ := h
  obtain ⟨u, Q, rfl⟩ : ∃ u Q', Q = u :: Q' := by
    cases Q with
    | nil => simp at h4; omega
    | cons u Q => exact ⟨u, Q, rfl⟩
  rw [List.getElem?_append_right (by omega), List.getElem?_append_right (by omega), show a + i - P.length - Y.length = 0 by omega] at hx
  obtain rfl : u = x := Option.some.inj hx
  simp at h4
  rw [List.getElem?_append_right (by omega), List.getElem?_append_right (by omega), List.getElem?_append_right (by simp; omega), List.getElem?_append_right (by simp; omega), show b + i - P.length - Y.length - (u :: Q).length - X.length = 0 by simp; omega] at hy
  obtain ⟨S, rfl⟩ : ∃ S', S = y :: S' := by
    cases S with
    | nil => simp at hy
    | cons v S => exact ⟨S, by rw [Option.some.inj hy]⟩
  refine ⟨P, X ++ [u], Q, Y ++ [y], S, by simp, ?_, h1, by simp; omega, by simp; omega, by omega⟩
  have e1 : (P ++ (Y ++ (u :: Q ++ (X ++ y :: S)))).set (a + i) y = P ++ (Y ++ (y :: Q ++ (X ++ y :: S))) := by
    rw [List.set_append_right _ _ (by omega), List.set_append_right _ _ (by omega), show a + i - P.length - Y.length = 0 by omega]
    rfl
  have e2 : (P ++ (Y ++ (y :: Q ++ (X ++ y :: S)))).set (b + i) u = P ++ (Y ++ (y :: Q ++ (X ++ u :: S))) := by
    rw [List.set_append_right _ _ (by omega), List.set_append_right _ _ (by omega), List.set_append_right _ _ (by simp; omega), List.set_append_right _ _ (by simp; omega), show b + i - P.length - Y.length - (y :: Q).length - X.length = 0 by simp; omega]
    rfl
  rw [e1, e2]
  simp
theorem Rot.none {A : List α} {a m : Nat} (h : a ≤ m) (hm : m ≤ A.length) : Rot a m m A A :=
  ⟨A.take a, (A.drop a).take (m - a), [], A.drop m, by
    simp only [List.nil_append]
    rw [show A.drop m = (A.drop a).drop (m - a) by rw [List.drop_drop]; congr 1; omega, List.take_append_drop, List.take_append_drop], by
    simp only [List.nil_append]
    rw [show A.drop m = (A.drop a).drop (m - a) by rw [List.drop_drop]; congr 1; omega, List.take_append_drop, List.take_append_drop], by simp; omega, by simp; omega, by simp⟩
theorem Rot.none' {A : List α} {m b : Nat} (h : m ≤ b) (hb : b ≤ A.length) : Rot m m b A A :=
  ⟨A.take m, [], (A.drop m).take (b - m), A.drop b, by
    simp only [List.nil_append]
    rw [show A.drop b = (A.drop m).drop (b - m) by rw [List.drop_drop]; congr 1; omega, List.take_append_drop, List.take_append_drop], by
    simp only [List.nil_append]
    rw [show A.drop b = (A.drop m).drop (b - m) by rw [List.drop_drop]; congr 1; omega, List.take_append_drop, List.take_append_drop], by simp; omega, by simp, by simp; omega⟩
/-- one element carried on by one: up -/
theorem Rot.up {A B : List α} {a c : Nat} {x y : α} (h : Rot a (a + 1) (c + 1) A B) (hc : a ≤ c) (hx : B[c]? = some x) (hy : B[c + 1]? = some y) : Rot a (a + 1) (c + 2) A ((B.set c y).set (c + 1) x) := by
  obtain ⟨P, X, Y, S, rfl, rfl, h1, h2, h3⟩ := h
  obtain ⟨u, rfl⟩ : ∃ u, X = [u] := List.length_eq_one_iff.1 (by omega)
  rw [List.getElem?_append_right (by omega), List.getElem?_append_right (by omega), show c - P.length - Y.length = 0 by omega] at hx
  obtain rfl : u = x := Option.some.inj hx
  rw [List.getElem?_append_right (by omega), List.getElem?_append_right (by omega), show c + 1 - P.length - Y.length = 1 by omega] at hy
  obtain ⟨S, rfl⟩ : ∃ S', S = y :: S' := by
    cases S with
    | nil => simp at hy
    | cons v S => exact ⟨S, by rw [Option.some.inj hy]⟩
  refine ⟨P, [u], Y ++ [y], S, by simp, ?_, h1, h2, by simp; omega⟩
  rw [List.set_append_right _ _ (by omega), List.set_append_right _ _ (by omega), List.set_append_right _ _ (by omega), List.set_append_right _ _ (by omega), show c - P.length - Y.length = 0 by omega, show c + 1 - P.length - Y.length = 1 by omega]
  simp
/-- down -/
theorem Rot.down {A B : List α} {c m : Nat} {x y : α} (h : Rot (c + 1) m (m + 1) A B) (hx : B[c + 1]? = some x) (hy : B[c]? = some y) : Rot c m (m + 1) A ((B.set (c + 1) y).set c x) := by
  obtain ⟨P, X, Y, S, rfl, rfl, h1, h2, h3⟩ := h
  obtain ⟨u, rfl⟩ : ∃ u, Y = [u] := List.length_eq_one_iff.1 (by omega)
  rw [List.getElem?_append_right (by omega), show c + 1 - P.length = 0 by omega] at hx
  obtain rfl : u = x := Option.some.inj hx
  obtain ⟨P, v, rfl⟩ : ∃ P' v, P = P' ++ [v] := ⟨P.dropLast, P.getLast (by intro e; subst e; simp at h1), (List.dropLast_concat_getLast _).symm⟩
  simp at h1
  rw [List.append_assoc, List.getElem?_append_right (by omega), show c - P.length = 0 by omega] at hy
  obtain rfl : v = y := Option.some.inj hy
  refine ⟨P, v :: X, [u], S, by simp, ?_, h1, by simp; omega, by simp⟩
  rw [List.append_assoc, List.set_append_right _ _ (by omega), List.set_append_right _ _ (by omega), show c - P.length = 0 by omega, show c + 1 - P.length = 1 by omega]
  rfl
end Srt
end Go.Proofs.YtohdifffdgoaaaaDoor
namespace Go.Proofs.YtohdifffdgoaaaaDoor
open Go.RowKit
open Go.Lib (hid)
open V Srt
/-- a bind stored over its five cells -/
def stB (w : World) (g i : Nat) (b : Bind) : World := ((((w.setCell ⟨g, i * 5, none⟩ (.string b.name)).setCell ⟨g, i * 5 + 1, none⟩ (.int .u8 b.v.k)).setCell ⟨g, i * 5 + 2, none⟩ (.int .i64 b.v.n)).setCell ⟨g, i * 5 + 3, none⟩ (.bool b.v.b)).setCell ⟨g, i * 5 + 4, none⟩ (.string b.v.s)
theorem stB_own {B g cap N : Nat} {os : List Bind} {w : World} (h : BOwn B os (.slice (some ⟨g, 0, none⟩) N cap) w) (hN : os.length = N) (i : Nat) (b : Bind) (hi : i < N) : BOwn B (os.set i b) (.slice (some ⟨g, 0, none⟩) N cap) (stB w g i b) := by
  subst hN
  unfold stB
  exact BOwn_stored h i b hi
theorem BOwn.drew {B : Nat} {bs : List Bind} {v : Value} {w : World} (h : BOwn B bs v w) : BOwn B bs v w.drew := h
theorem swap_own {B g cap N p q : Nat} {os : List Bind} {w : World} {x y : Bind} (h : BOwn B os (.slice (some ⟨g, 0, none⟩) N cap) w) (hN : os.length = N) (hp : p < N) (hq : q < N) :
    BOwn B ((os.set p y).set q x) (.slice (some ⟨g, 0, none⟩) N cap) (stB (stB w g p y) g q x).drew :=
  BOwn.drew (stB_own (stB_own h hN p y hp) (by rw [List.length_set]; exact hN) q x hq)
theorem stB_below {B g i : Nat} {w w' : World} (b : Bind) (h : Below B w w') (hg : B ≤ g) : Below B w (stB w' g i b) :=
  ((((h.setCell (p := ⟨g, _, none⟩) hg _).setCell (p := ⟨g, _, none⟩) hg _).setCell (p := ⟨g, _, none⟩) hg _).setCell (p := ⟨g, _, none⟩) hg _).setCell (p := ⟨g, _, none⟩) hg _
theorem swap_below {B g p q : Nat} {w w' : World} {x y : Bind} (h : Below B w w') (hg : B ≤ g) : Below B w (stB (stB w' g p y) g q x).drew := (stB_below x (stB_below y h hg) hg).drew
set_option maxRecDepth 100000 in
set_option maxHeartbeats 8000000 in
theorem swapRange_any (B g cap N a b n : Nat) (bs : List Bind) (fv : Value) (w : World) (hN : bs.length = N) (hO : BOwn B bs (.slice (some ⟨g, 0, none⟩) N cap) w) (hab : a + n ≤ b) (hb : b + n ≤ N) (hl : N ≤ 10000000000000) :
    Calls Tryd.prog 120 #[.slice (some ⟨g, 0, none⟩) N cap, .int .i64 a, .int .i64 b, .int .i64 n, fv] w fun e w' =>
      e = .returned (.tuple #[]) ∧ Below B w w' ∧ ∃ cs, Swp a b n bs cs ∧ BOwn B cs (.slice (some ⟨g, 0, none⟩) N cap) w' := by
  have HN := hid hN
  have HO := hid hO
  have HB := hid (Below.refl B w)
  have hgB : B ≤ g := (World.ownsRow.lt hO g rfl).1
  clear hN hO
  go_enter Tryd.func120, Tryd.ntmps120
  go_wp2_with fail
  go_loopw [10] (fun v wr => ∃ (i : Nat) (cs : List Bind), v = .int .i64 i ∧ i ≤ n ∧ Hid (Swp a b i bs cs ∧ cs.length = N ∧ BOwn B cs (.slice (some ⟨g, 0, none⟩) N cap) wr ∧ Below B w wr)) (fun v _ => n - (intOf v).toNat)
  case atStart => exact ⟨0, bs, rfl, by omega, Swp.none (by omega) (by have := HN.out; omega), HN.out, HO.out, HB.out⟩
  case round =>
    obtain ⟨i, cs, rfl, hi, hS⟩ := hrel
    clear HO HB
    by_cases hlt : i < n
    · have hl0 : decide ((i : Int) < (n : Int)) = true := by simp; omega
      obtain ⟨p, hp⟩ : ∃ p, a + i = p := ⟨_, rfl⟩
      obtain ⟨q, hq⟩ : ∃ q, b + i = q := ⟨_, rfl⟩
      have hpN : p < N := by omega
      have hqN : q < N := by omega
      have hpc : p < cs.length := by have := hS.out.2.1; omega
      have hqc : q < cs.length := by have := hS.out.2.1; omega
      obtain ⟨⟨xn, ⟨xk, xi, xb, xs⟩⟩, hx⟩ : ∃ x, cs[p]? = some x := ⟨_, List.getElem?_eq_getElem hpc⟩
      obtain ⟨⟨yn, ⟨yk, yi, yb, ys⟩⟩, hy⟩ : ∃ y, cs[q]? = some y := ⟨_, List.getElem?_eq_getElem hqc⟩
      obtain ⟨p0, p1, p2, p3, p4⟩ := rowB_got hx
      obtain ⟨q0, q1, q2, q3, q4⟩ := rowB_got hy
      have h5 := hS.out.2.2.1
      unfold BOwn at h5
      rw [hS.out.2.1] at h5
      have hfz := fun t : Nat => World.ownsRow.frozenAt h5 t
      have cp0 := (World.ownsRow.cellAt h5 (p * 5) (by omega)).trans p0
      have fp0 := hfz (p * 5)
      have cp1 := (World.ownsRow.cellAt h5 (p * 5 + 1) (by omega)).trans p1
      have fp1 := hfz (p * 5 + 1)
      have cp2 := (World.ownsRow.cellAt h5 (p * 5 + 2) (by omega)).trans p2
      have fp2 := hfz (p * 5 + 2)
      have cp3 := (World.ownsRow.cellAt h5 (p * 5 + 3) (by omega)).trans p3
      have fp3 := hfz (p * 5 + 3)
      have cp4 := (World.ownsRow.cellAt h5 (p * 5 + 4) (by omega)).trans p4
      have fp4 := hfz (p * 5 + 4)
      have cq0 := (World.ownsRow.cellAt h5 (q * 5) (by omega)).trans q0
      have fq0 := hfz (q * 5)
      have cq1 := (World.ownsRow.cellAt h5 (q * 5 + 1) (by omega)).trans q1
      have fq1 := hfz (q * 5 + 1)
      have cq2 := (World.ownsRow.cellAt h5 (q * 5 + 2) (by omega)).trans q2
      have fq2 := hfz (q * 5 + 2)
      have cq3 := (World.ownsRow.cellAt h5 (q * 5 + 3) (by omega)).trans q3
      have fq3 := hfz (q * 5 + 3)
      have cq4 := (World.ownsRow.cellAt h5 (q * 5 + 4) (by omega)).trans q4
      have fq4 := hfz (q * 5 + 4)
      clear h5 hfz p0 p1 p2 p3 p4 q0 q1 q2 q3 q4
      have e1 : (a : Int) + (i : Int) = (p : Int) := by omega
      have e2 : (b : Int) + (i : Int) = (q : Int) := by omega
      have e3 : IntKind.i64.wrap (p : Int) = (p : Int) := by rw [IntKind.wrap_i64]; omega
      have e4 : IntKind.i64.wrap (q : Int) = (q : Int) := by rw [IntKind.wrap_i64]; omega
      have P0 : (0 : Int) ≤ (p : Int) := by omega
      have Q0 : (0 : Int) ≤ (q : Int) := by omega
      have P1 : (p : Int) < (N : Int) := by omega
      have Q1 : (q : Int) < (N : Int) := by omega
      go_wp2_with fail
      go_region
      go_wp2_with fail
      go_roundw
      case rel =>
        refine ⟨i + 1, _, by go_num, by omega, hid ⟨Swp.step hS.out.1 (by omega) (by rw [hp]; exact hx) (by rw [hq]; exact hy), by rw [List.length_set, List.length_set]; exact hS.out.2.1, ?_, ?_⟩⟩
        · rw [hp, hq]
          exact swap_own (x := ⟨xn, ⟨xk, xi, xb, xs⟩⟩) (y := ⟨yn, ⟨yk, yi, yb, ys⟩⟩) hS.out.2.2.1 hS.out.2.1 hpN hqN
        · exact swap_below (x := ⟨xn, ⟨xk, xi, xb, xs⟩⟩) (y := ⟨yn, ⟨yk, yi, yb, ys⟩⟩) hS.out.2.2.2 hgB
      case measure => simp [intOf]; omega
    · have hl0 : decide ((i : Int) < (n : Int)) = false := by simp; omega
      obtain rfl : i = n := by omega
      go_wp2_with fail
      go_end0
      exact ⟨rfl, hS.out.2.2.2, cs, hS.out.1, hS.out.2.2.1⟩
end Go.Proofs.YtohdifffdgoaaaaDoor
namespace Go.Proofs.YtohdifffdgoaaaaDoor
open Go.RowKit
open Go.Lib (hid)
open V Srt
theorem swp_length {α : Type} {A B : List α} {a b n : Nat} (h : Swp a b n A B) : B.length = A.length := by
  obtain ⟨P, X, Q, Y, S, rfl, rfl, h1, h2, h3, h4⟩ := h
  simp; omega
theorem wrap_sub (p q : Nat) (h : q ≤ p) (hp : p ≤ 10000000000000) : IntKind.i64.wrap ((p : Int) - (q : Int)) = ((p - q : Nat) : Int) := by rw [IntKind.wrap_i64]; omega
theorem wrap_add (p q : Nat) (hp : p ≤ 10000000000000) (hq : q ≤ 10000000000000) : IntKind.i64.wrap ((p : Int) + (q : Int)) = ((p + q : Nat) : Int) := by rw [IntKind.wrap_i64]; omega
set_option maxRecDepth 100000 in
set_option maxHeartbeats 8000000 in
theorem rotate_any (B g cap N a m b : Nat) (bs : List Bind) (fv : Value) (w : World) (hN : bs.length = N) (hO : BOwn B bs (.slice (some ⟨g, 0, none⟩) N cap) w) (hab : a < m) (hmb : m < b) (hb : b ≤ N) (hl : N ≤ 10000000000000) :
    Calls Tryd.prog 108 #[.slice (some ⟨g, 0, none⟩) N cap, .int .i64 a, .int .i64 m, .int .i64 b, fv] w fun e w' =>
      e = .returned (.tuple #[]) ∧ Below B w w' ∧ ∃ cs, Rot a m b bs cs ∧ BOwn B cs (.slice (some ⟨g, 0, none⟩) N cap) w' := by
  have HN := hid hN
  have HO := hid hO
  have HB := hid (Below.refl B w)
  clear hN hO
  obtain ⟨i0, hi0⟩ : ∃ i0, m - a = i0 := ⟨_, rfl⟩
  obtain ⟨j0, hj0⟩ : ∃ j0, b - m = j0 := ⟨_, rfl⟩
  have e1 : (m : Int) - (a : Int) = (i0 : Int) := by omega
  have e2 : (b : Int) - (m : Int) = (j0 : Int) := by omega
  have e3 : IntKind.i64.wrap (i0 : Int) = (i0 : Int) := by rw [IntKind.wrap_i64]; omega
  have e4 : IntKind.i64.wrap (j0 : Int) = (j0 : Int) := by rw [IntKind.wrap_i64]; omega
  go_enter Tryd.func108, Tryd.ntmps108
  go_wp2_with fail
  go_loopw [10, 11] (fun vi vj wr => ∃ (i j : Nat) (cs : List Bind), vi = .int .i64 i ∧ vj = .int .i64 j ∧ 0 < i ∧ 0 < j ∧ i ≤ m ∧ m + j ≤ N ∧ Hid ((∀ D, Rot (m - i) m (m + j) cs D → Rot a m b bs D) ∧ cs.length = N ∧ BOwn B cs (.slice (some ⟨g, 0, none⟩) N cap) wr ∧ Below B w wr)) (fun vi vj _ => (intOf vi).toNat + (intOf vj).toNat)
  case atStart =>
    refine ⟨i0, j0, bs, by go_num, by go_num, by omega, by omega, by omega, by omega, hid ⟨fun D h => ?_, HN.out, HO.out, HB.out⟩⟩
    rw [show m - i0 = a by omega, show m + j0 = b by omega] at h
    exact h
  case round =>
    obtain ⟨i, j, cs, rfl, rfl, hi, hj, him, hjN, hS⟩ := hrel
    clear HO HB e1 e2 e3 e4
    obtain ⟨p, hp⟩ : ∃ p, m - i = p := ⟨_, rfl⟩
    have e1 : (m : Int) - (i : Int) = (p : Int) := by omega
    have e3 : IntKind.i64.wrap (p : Int) = (p : Int) := by rw [IntKind.wrap_i64]; omega
    by_cases hij : i = j
    · subst hij
      have t0 : ((i : Int) != (i : Int)) = false := by simp
      go_wp2_with fail
      refine (swapRange_any B g cap N p m i cs fv wr hS.out.2.1 hS.out.2.2.1 (by omega) (by omega) hl).mono ?_
      rintro e w' ⟨rfl, hb', ds, hsw, hown⟩
      go_wp2_with fail
      go_end0
      refine ⟨rfl, hS.out.2.2.2.trans hb', ds, hS.out.1 ds ?_, hown⟩
      rw [hp]
      exact rot_end hsw (by omega)
    · have t0 : ((i : Int) != (j : Int)) = true := by simp; omega
      by_cases hlt : j < i
      · have t1 : decide ((j : Int) < (i : Int)) = true := by simp; omega
        obtain ⟨r, hr⟩ : ∃ r, i - j = r := ⟨_, rfl⟩
        have e2 : (i : Int) - (j : Int) = (r : Int) := by omega
        have e4 : IntKind.i64.wrap (r : Int) = (r : Int) := by rw [IntKind.wrap_i64]; omega
        go_wp2_with fail
        refine (swapRange_any B g cap N p m j cs fv wr hS.out.2.1 hS.out.2.2.1 (by omega) (by omega) hl).mono ?_
        rintro e w' ⟨rfl, hb', ds, hsw, hown⟩
        have HT : Hid ((∀ D, Rot (m - r) m (m + j) ds D → Rot a m b bs D) ∧ ds.length = N ∧ BOwn B ds (.slice (some ⟨g, 0, none⟩) N cap) w' ∧ Below B w w') := ⟨fun D h => hS.out.1 D (by rw [hp]; exact rot_left hsw (by rw [show p + j = m - r by omega]; exact h)), by rw [swp_length hsw]; exact hS.out.2.1, hown, hS.out.2.2.2.trans hb'⟩
        clear hS hown hb' hsw
        go_wp2_with fail
        go_roundw
        case rel => exact ⟨r, j, ds, rfl, rfl, by omega, hj, by omega, hjN, HT⟩
        case measure => simp [intOf]; omega
      · have t1 : decide ((j : Int) < (i : Int)) = false := by simp; omega
        obtain ⟨q, hq⟩ : ∃ q, m + j = q := ⟨_, rfl⟩
        obtain ⟨u, hu⟩ : ∃ u, q - i = u := ⟨_, rfl⟩
        obtain ⟨r, hr⟩ : ∃ r, j - i = r := ⟨_, rfl⟩
        have e2 : (m : Int) + (j : Int) = (q : Int) := by omega
        have e4 : IntKind.i64.wrap (q : Int) = (q : Int) := by rw [IntKind.wrap_i64]; omega
        have e5 : (q : Int) - (i : Int) = (u : Int) := by omega
        have e6 : IntKind.i64.wrap (u : Int) = (u : Int) := by rw [IntKind.wrap_i64]; omega
        have e7 : (j : Int) - (i : Int) = (r : Int) := by omega
        have e8 : IntKind.i64.wrap (r : Int) = (r : Int) := by rw [IntKind.wrap_i64]; omega
        go_wp2_with fail
        refine (swapRange_any B g cap N p u i cs fv wr hS.out.2.1 hS.out.2.2.1 (by omega) (by omega) hl).mono ?_
        rintro e w' ⟨rfl, hb', ds, hsw, hown⟩
        have HT : Hid ((∀ D, Rot (m - i) m (m + r) ds D → Rot a m b bs D) ∧ ds.length = N ∧ BOwn B ds (.slice (some ⟨g, 0, none⟩) N cap) w' ∧ Below B w w') := ⟨fun D h => hS.out.1 D (by
          rw [hp] at h ⊢
          refine rot_right (i := i) (A1 := ds) ?_ (by omega) (by omega) ?_
          · rw [show m + j - i = u by omega]; exact hsw
          · rw [show m + j - i = m + r by omega]; exact h), by rw [swp_length hsw]; exact hS.out.2.1, hown, hS.out.2.2.2.trans hb'⟩
        clear hS hown hb' hsw
        go_wp2_with fail
        go_roundw
        case rel => exact ⟨i, r, ds, rfl, rfl, hi, by omega, him, by omega, HT⟩
        case measure => simp [intOf]; omega
end Go.Proofs.YtohdifffdgoaaaaDoor
namespace Go.Proofs.YtohdifffdgoaaaaDoor
open Go.RowKit
open Go.Lib (hid)
open V Srt
theorem bown_cells {B g cap N i : Nat} {cs : List Bind} {w : World} {x : Bind} (h : BOwn B cs (.slice (some ⟨g, 0, none⟩) N cap) w) (hN : cs.length = N) (hi : i < N) (hx : cs[i]? = some x) :
    w.cell? ⟨g, i * 5, none⟩ = some (.string x.name) ∧ w.cell? ⟨g, i * 5 + 1, none⟩ = some (.int .u8 x.v.k) ∧ w.cell? ⟨g, i * 5 + 2, none⟩ = some (.int .i64 x.v.n) ∧ w.cell? ⟨g, i * 5 + 3, none⟩ = some (.bool x.v.b) ∧ w.cell? ⟨g, i * 5 + 4, none⟩ = some (.string x.v.s) := by
  obtain ⟨p0, p1, p2, p3, p4⟩ := rowB_got hx
  unfold BOwn at h
  rw [hN] at h
  exact ⟨(World.ownsRow.cellAt h _ (by omega)).trans p0, (World.ownsRow.cellAt h _ (by omega)).trans p1, (World.ownsRow.cellAt h _ (by omega)).trans p2, (World.ownsRow.cellAt h _ (by omega)).trans p3, (World.ownsRow.cellAt h _ (by omega)).trans p4⟩
theorem wrapN (n : Nat) (h : n ≤ 100000000000000) : IntKind.i64.wrap (n : Int) = (n : Int) := by rw [IntKind.wrap_i64]; omega
theorem bown_base {B g cap N : Nat} {cs : List Bind} {w : World} (h : BOwn B cs (.slice (some ⟨g, 0, none⟩) N cap) w) : B ≤ w.heap.size := Nat.le_trans (World.ownsRow.lt h g rfl).1 (Nat.le_of_lt (World.ownsRow.lt h g rfl).2)
theorem bown_free {B g cap N : Nat} {cs : List Bind} {w : World} (h : BOwn B cs (.slice (some ⟨g, 0, none⟩) N cap) w) (hN : cs.length = N) (t : Nat) : w.frozen? ⟨g, t, none⟩ = false := by
  unfold BOwn at h
  rw [hN] at h
  exact World.ownsRow.frozenAt h t
set_option maxRecDepth 100000 in
set_option maxHeartbeats 8000000 in
theorem insertion_any (B g cap N a b : Nat) (bs : List Bind) (w : World) (hN : bs.length = N) (hO : BOwn B bs (.slice (some ⟨g, 0, none⟩) N cap) w) (hab : a ≤ b) (hb : b ≤ N) (hl : N ≤ 10000000000000) :
    Calls Tryd.prog 98 #[(.slice (some ⟨g, 0, none⟩) N cap), .int .i64 a, .int .i64 b, (.func (.func 60) #[] #[])] w fun e w' =>
      e = .returned (.tuple #[]) ∧ Below B w w' ∧ ∃ cs, Rng Bind.nm a b bs cs ∧ On Bind.nm a b cs ∧ BOwn B cs (.slice (some ⟨g, 0, none⟩) N cap) w' := by
  have HN := hid hN
  have HO := hid hO
  have HB := hid (Below.refl B w)
  have hgB : B ≤ g := (World.ownsRow.lt hO g rfl).1
  clear hN hO
  have e1 : IntKind.i64.wrap ((a : Int) + 1) = (a : Int) + 1 := by rw [IntKind.wrap_i64]; omega
  go_enter Tryd.func98, Tryd.ntmps98
  go_wp2_with fail
  go_loopw [8] (fun vi wr => ∃ (i : Nat) (cs : List Bind), vi = .int .i64 i ∧ a < i ∧ Hid (Rng Bind.nm a b bs cs ∧ On Bind.nm a i cs ∧ cs.length = N ∧ BOwn B cs (.slice (some ⟨g, 0, none⟩) N cap) wr ∧ Below B w wr)) (fun vi _ => b - (intOf vi).toNat)
  case atStart => exact ⟨a + 1, bs, by go_num, by omega, hid ⟨Rng.refl hab (by rw [HN.out]; exact hb), On.nil (by omega), HN.out, HO.out, HB.out⟩⟩
  case round =>
    obtain ⟨i, ds, rfl, hai, hR⟩ := hrel
    clear HO HB e1
    by_cases hlt : i < b
    · have hl0 : decide ((i : Int) < (b : Int)) = true := by simp; omega
      go_wp2_with fail
      go_loopw [9] (fun vj wr => ∃ (j : Nat) (cs : List Bind), vj = .int .i64 j ∧ a ≤ j ∧ j ≤ i ∧ Hid ((Rng Bind.nm a b bs cs ∧ Ins Bind.nm a j i cs) ∧ cs.length = N ∧ BOwn B cs (.slice (some ⟨g, 0, none⟩) N cap) wr ∧ Below B w wr)) (fun vj _ => (intOf vj).toNat)
      case atStart => exact ⟨i, ds, rfl, by omega, Nat.le_refl _, hid ⟨⟨hR.out.1, Ins.start hR.out.2.1 (by omega) (by have := hR.out.2.2.1; omega)⟩, hR.out.2.2⟩⟩
      case round =>
        obtain ⟨j, cs, rfl, haj, hji, hS⟩ := hrel
        clear hR
        have HCN := hid hS.out.2.1
        by_cases hj : a < j
        · have hj0 : decide ((a : Int) < (j : Int)) = true := by simp; omega
          obtain ⟨q, rfl⟩ : ∃ q, j = q + 1 := ⟨j - 1, by omega⟩
          have HXI := hid (show q + 1 < N by omega)
          have HYI := hid (show q < N by omega)
          obtain ⟨⟨xn, ⟨xk, xi, xb, xs⟩⟩, hx⟩ : ∃ x, cs[q + 1]? = some x := ⟨_, List.getElem?_eq_getElem (by rw [HCN.out]; exact HXI.out)⟩
          obtain ⟨⟨yn, ⟨yk, yi, yb, ys⟩⟩, hy⟩ : ∃ y, cs[q]? = some y := ⟨_, List.getElem?_eq_getElem (by rw [HCN.out]; exact HYI.out)⟩
          have hX := hid hx
          have hY := hid hy
          clear hx hy
          obtain ⟨R, hR⟩ : ∃ R, ordS xn yn = R := ⟨_, rfl⟩
          have hRn : decide (R < 0) = decide (Bind.nm ⟨xn, ⟨xk, xi, xb, xs⟩⟩ < Bind.nm ⟨yn, ⟨yk, yi, yb, ys⟩⟩) := by rw [← hR]; exact ordS_neg ⟨xn, ⟨xk, xi, xb, xs⟩⟩ ⟨yn, ⟨yk, yi, yb, ys⟩⟩
          have cB : ∀ U, Calls Tryd.prog 60 #[.agg #[.string xn, .int .u8 xk, .int .i64 xi, .bool xb, .string xs], .agg #[.string yn, .int .u8 yk, .int .i64 yi, .bool yb, .string ys]] U fun e w' => e = .returned (.int .i64 R) ∧ Below U.heap.size U w' := fun U => by
            have := byName_any ⟨xn, ⟨xk, xi, xb, xs⟩⟩ ⟨yn, ⟨yk, yi, yb, ys⟩⟩ U
            rw [hR] at this
            exact this
          have HRN := hid hRn
          have HCB := hid cB
          clear hR hRn cB
          have i1 : ((q + 1 : Nat) : Int) - 1 = (q : Int) := by omega
          have i2 : IntKind.i64.wrap (q : Int) = (q : Int) := by rw [IntKind.wrap_i64]; omega
          have P0 : (0 : Int) ≤ ((q + 1 : Nat) : Int) := by omega
          have Q0 : (0 : Int) ≤ (q : Int) := by omega
          have P1 : ((q + 1 : Nat) : Int) < (N : Int) := by omega
          have Q1 : (q : Int) < (N : Int) := by omega
          obtain ⟨p, hp⟩ : ∃ p, q + 1 = p := ⟨_, rfl⟩
          rw [hp] at i1 P0 P1 hX HXI hj0 ⊢
          have hj1 : decide (a < p) = true := decide_eq_true (by omega)
          have hj2 : a < p := by omega
          have HP := hid hp
          clear hp
          go_upto_region 4 with fail
          refine quiet_lit (C := fun w' => Hid (BOwn B cs (.slice (some ⟨g, 0, none⟩) N cap) w' ∧ Below B w w')) (by kernel_rfl) (by kernel_rfl) (hid ⟨BOwn.drew hS.out.2.2.1, hS.out.2.2.2.drew⟩) ?_
          repeat (first
            | go_big_quiet_skip
            | (go_big_quiet_want
               refine quiet_val (x := ?_) (fun vv hC => ?_) ?_
               rotate_left
               · skip
                 obtain ⟨a0, a1, a2, a3, a4⟩ := bown_cells hC.out.1 HCN.out HXI.out hX.out
                 obtain ⟨b0, b1, b2, b3, b4⟩ := bown_cells hC.out.1 HCN.out HYI.out hY.out
                 clear hC
                 go_simp
                 with_reducible rfl
               go_big_quiet_on
               try simp only [Act.put, List.setIfInBounds_toArray, List.set_cons_zero, List.set_cons_succ])
            | (go_big_quiet_want
               refine quiet_call (f := ?_) (args := ?_) (x := ?_) (fun vv hC => ?_) (fun vv hC => ?_) ?_
               rotate_left 3
               · go_simp
                 first | with_reducible rfl | (apply And.intro <;> with_reducible rfl)
               · first
                   | (go_at_call 60; with_reducible refine (HCB.out _).mono ?_; rintro e ww ⟨rfl, bb⟩; refine And.intro ?_ (hid ⟨hC.out.1.below bb, hC.out.2.trans (bb.mono (bown_base hC.out.1))⟩); with_reducible rfl)
               go_big_quiet_on
               try simp only [Act.put, List.setIfInBounds_toArray, List.set_cons_zero, List.set_cons_succ]))
          refine wpQuiet_nil ?_
          intro vq hq
          by_cases hlt2 : Bind.nm ⟨xn, ⟨xk, xi, xb, xs⟩⟩ < Bind.nm ⟨yn, ⟨yk, yi, yb, ys⟩⟩
          · have t1 : decide (R < 0) = true := by rw [HRN.out]; exact decide_eq_true hlt2
            have t2 : R < 0 := of_decide_eq_true t1
            have HL := hid hlt2
            clear hlt2
            obtain ⟨a0, a1, a2, a3, a4⟩ := bown_cells hq.out.1 HCN.out HXI.out hX.out
            obtain ⟨b0, b1, b2, b3, b4⟩ := bown_cells hq.out.1 HCN.out HYI.out hY.out
            have hfz := bown_free hq.out.1 HCN.out
            have f0 := hfz (p * 5)
            have f1 := hfz (p * 5 + 1)
            have f2 := hfz (p * 5 + 2)
            have f3 := hfz (p * 5 + 3)
            have f4 := hfz (p * 5 + 4)
            have g0 := hfz (q * 5)
            have g1 := hfz (q * 5 + 1)
            have g2 := hfz (q * 5 + 2)
            have g3 := hfz (q * 5 + 3)
            have g4 := hfz (q * 5 + 4)
            clear hfz
            go_upto_region 6 with fail
            go_region
            go_wp2_with fail
            go_roundw
            case rel =>
              obtain rfl : q + 1 = p := HP.out
              have hst := Ins.step hS.out.1.2 hj2 hX.out hY.out HL.out
              exact ⟨q, _, rfl, by omega, by omega, hid ⟨⟨hS.out.1.1.trans (hst.2.mono (Nat.le_refl _) (by omega) (by rw [HCN.out]; exact hb)), hst.1⟩, by rw [List.length_set, List.length_set]; exact HCN.out, swap_own (x := ⟨xn, ⟨xk, xi, xb, xs⟩⟩) (y := ⟨yn, ⟨yk, yi, yb, ys⟩⟩) hq.out.1 HCN.out HXI.out HYI.out, swap_below (x := ⟨xn, ⟨xk, xi, xb, xs⟩⟩) (y := ⟨yn, ⟨yk, yi, yb, ys⟩⟩) hq.out.2 hgB⟩⟩
            case measure => simp [intOf]; omega
          · have t1 : decide (R < 0) = false := by rw [HRN.out]; exact decide_eq_false hlt2
            have t2 : ¬ R < 0 := of_decide_eq_false t1
            have HL := hid hlt2
            clear hlt2
            go_wp2_with fail
            go_roundw
            obtain rfl : q + 1 = p := HP.out
            case rel => exact ⟨i + 1, cs, by go_num, by omega, hid ⟨hS.out.1.1, hS.out.1.2.done (Or.inr ⟨_, _, hj2, hX.out, hY.out, HL.out⟩), hS.out.2.1, hq.out.1, hq.out.2⟩⟩
            case measure => simp [intOf]; omega
        · have hj0 : decide ((a : Int) < (j : Int)) = false := by simp; omega
          obtain rfl : j = a := by omega
          go_upto_region 4 with fail
          go_region
          go_wp2_with fail
          go_roundw
          case rel => exact ⟨i + 1, cs, by go_num, by omega, hid ⟨hS.out.1.1, hS.out.1.2.done (Or.inl rfl), hS.out.2.1, BOwn.drew hS.out.2.2.1, hS.out.2.2.2.drew⟩⟩
          case measure => simp [intOf]; omega
    · have hl0 : decide ((i : Int) < (b : Int)) = false := by simp; omega
      go_wp2_with fail
      go_end0
      exact ⟨rfl, hR.out.2.2.2.2, ds, hR.out.1, hR.out.2.1.mono (Nat.le_refl _) (by omega), hR.out.2.2.2.1⟩
end Go.Proofs.YtohdifffdgoaaaaDoor
namespace Go.Proofs.YtohdifffdgoaaaaDoor
namespace Srt
variable {α : Type} {k : α → List UInt8}
/-- one element in front of a sorted part, carried in -/
theorem sym_one {A B : List α} {a i b : Nat} (hb : b ≤ A.length) (h1 : a + 1 ≤ i) (h2 : i ≤ b) (hR : On k (a + 1) b A)
    (c1 : ∀ x y, a + 1 < i → A[i - 1]? = some y → A[a]? = some x → k y < k x)
    (c2 : ∀ x y, i < b → A[i]? = some y → A[a]? = some x → Le k x y) (h : Rot a (a + 1) i A B) : Rng k a b A B ∧ On k a b B := by
  have hrot := sym_rot (k := k) (q := i - 1) hb (by omega) (Nat.le_refl a) (by omega) h1 h2 (On.nil (by omega)) hR (fun x y hlt => absurd hlt (Nat.lt_irrefl _)) (fun x y _ hlt hx hy => c1 y x hlt hx hy) h
  obtain ⟨g1, g2, g3, g4, g5, g6⟩ := hrot
  refine ⟨g1.mono (Nat.le_refl _) h2 hb, On.join g3 ?_ g6⟩
  intro i' j' x y hi hij hj hx hy
  by_cases e : i' = i - 1
  · subst e
    rw [h.second (by omega) (by omega)] at hx
    rw [h.behind (by omega)] at hy
    rw [show i - 1 - (i - (a + 1)) = a by omega] at hx
    have hi' : i < A.length := by omega
    exact (c2 x A[i] (by omega) (List.getElem?_eq_getElem hi') hx).trans (hR.at_most h1 (by omega) hj (List.getElem?_eq_getElem hi') hy)
  · exact g5 i' j' x y (by omega) hij hj hx hy
/-- one element behind a sorted part, carried in -/
theorem sym_two {A B : List α} {a i m : Nat} (hb : m + 1 ≤ A.length) (h1 : a ≤ i) (h2 : i ≤ m) (hL : On k a m A)
    (c1 : ∀ x y, a < i → A[i - 1]? = some x → A[m]? = some y → Le k x y)
    (c2 : ∀ x y, i < m → A[i]? = some x → A[m]? = some y → k y < k x) (h : Rot i m (m + 1) A B) : Rng k a (m + 1) A B ∧ On k a (m + 1) B := by
  have hrot := sym_rot (k := k) (q := i + 1) hb (by omega) h1 h2 (Nat.le_succ m) (Nat.le_refl _) hL (On.nil (by omega)) (fun x y _ hlt => absurd hlt (Nat.lt_irrefl _)) (fun x y hlt _ hx hy => c2 y x hlt hy (by rw [show m + 1 - 1 = m by omega] at hx; exact hx)) h
  obtain ⟨g1, g2, g3, g4, g5, g6⟩ := hrot
  refine ⟨g1.mono h1 (Nat.le_refl _) hb, On.join ?_ g4 g6⟩
  refine On.join g2 g3 ?_
  intro i' j' x y hi hi2 hj hj2 hx hy
  have e : j' = i := by omega
  subst e
  rw [h.before hi2] at hx
  rw [h.first (by omega) (by omega), show j' + (m - j') = m by omega] at hy
  have hi' : j' - 1 < A.length := by omega
  exact (hL.at_most hi (show i' ≤ j' - 1 by omega) (by omega) hx (List.getElem?_eq_getElem hi')).trans (c1 A[j' - 1] y (by omega) (List.getElem?_eq_getElem hi') hy)
/-- what a merge does between a and b -/
def Mrg (k : α → List UInt8) (a b : Nat) (A B : List α) : Prop := Rng k a b A B ∧ On k a b B
theorem Mrg.skip {A : List α} {a s b : Nat} (h0 : a ≤ s) (h1 : s ≤ b) (hb : b ≤ A.length) (hl : On k a s A) (hr : On k s b A) (h : ¬ (a < s ∧ s < b)) : Mrg k a b A A := by
  refine ⟨Rng.refl (by omega) hb, ?_⟩
  by_cases e : a = s
  · subst e; exact hr
  · have : s = b := by omega
    subst this; exact hl
theorem sym_mid {A B C D : List α} {a s m e b q : Nat} (hb : b ≤ A.length) (hq : q = s + (e - m)) (h1 : a ≤ s) (h2 : s ≤ m) (h3 : m ≤ e) (h4 : e ≤ b) (hL : On k a m A) (hR : On k m b A)
    (c1 : ∀ x y, a < s → e < b → A[s - 1]? = some x → A[e]? = some y → Le k x y)
    (c2 : ∀ x y, s < m → m < e → A[e - 1]? = some x → A[s]? = some y → k x < k y) (h : Rot s m e A B)
    (hC : Mrg k a q B C) (hD : Mrg k q b C D) : Mrg k a b A D := by
  obtain ⟨g1, g2, g3, g4, g5, g6⟩ := sym_rot hb hq h1 h2 h3 h4 hL hR c1 c2 h
  have lB : B.length = A.length := g1.length
  have lC : C.length = B.length := hC.1.length
  exact ⟨((g1.mono h1 h4 hb).trans (hC.1.mono (Nat.le_refl _) (by omega) (by omega))).trans (hD.1.mono (by omega) (Nat.le_refl _) (by omega)), sym_join g6 hC.1 hC.2 hD.1 hD.2⟩
/-- the search of the merge: between s0 and r0 -/
def SI (k : α → List UInt8) (A : List α) (p s0 r0 s r : Nat) : Prop :=
  (s0 < s → ∀ x y, A[s - 1]? = some x → A[p - (s - 1)]? = some y → Le k x y) ∧ (r < r0 → ∀ x y, A[r]? = some x → A[p - r]? = some y → k y < k x)
theorem SI.start {A : List α} {p s0 r0 : Nat} : SI k A p s0 r0 s0 r0 := ⟨fun h => absurd h (Nat.lt_irrefl _), fun h => absurd h (Nat.lt_irrefl _)⟩
theorem SI.up {A : List α} {p s0 r0 s r c : Nat} {x y : α} (h : SI k A p s0 r0 s r) (hx : A[c]? = some x) (hy : A[p - c]? = some y) (hl : ¬ k y < k x) : SI k A p s0 r0 (c + 1) r :=
  ⟨fun _ x' y' hx' hy' => by
    rw [show c + 1 - 1 = c by omega] at hx' hy'
    rw [hx] at hx'; rw [hy] at hy'
    obtain rfl := Option.some.inj hx'
    obtain rfl := Option.some.inj hy'
    exact hl, h.2⟩
theorem SI.down {A : List α} {p s0 r0 s r c : Nat} {x y : α} (h : SI k A p s0 r0 s r) (hx : A[c]? = some x) (hy : A[p - c]? = some y) (hl : k y < k x) : SI k A p s0 r0 s c :=
  ⟨h.1, fun _ x' y' hx' hy' => by
    rw [hx] at hx'; rw [hy] at hy'
    obtain rfl := Option.some.inj hx'
    obtain rfl := Option.some.inj hy'
    exact hl⟩
theorem SI.end1 {A : List α} {a m b q p s0 r0 s : Nat} (h : SI k A p s0 r0 s s) (hp : p + 1 = q + m) (h0 : s0 ≤ s) (hm : (q < m ∧ s0 + b = q + m ∧ r0 = q) ∨ (m ≤ q ∧ s0 = a ∧ r0 = m)) (hqb : q ≤ b) :
    ∀ x y, a < s → q + m - s < b → A[s - 1]? = some x → A[q + m - s]? = some y → Le k x y := fun x y h2 h3 hx hy =>
  h.1 (by rcases hm with ⟨_, e, rfl⟩ | ⟨_, rfl, rfl⟩ <;> omega) x y hx (by rw [show p - (s - 1) = q + m - s by omega]; exact hy)
theorem SI.end2 {A : List α} {a m b q p s0 r0 s : Nat} (h : SI k A p s0 r0 s s) (hp : p + 1 = q + m) (h1 : s ≤ r0) (hm : (q < m ∧ s0 + b = q + m ∧ r0 = q) ∨ (m ≤ q ∧ s0 = a ∧ r0 = m)) :
    ∀ x y, s < m → m < q + m - s → A[q + m - s - 1]? = some x → A[s]? = some y → k x < k y := fun x y h2 h3 hx hy =>
  h.2 (by rcases hm with ⟨_, e, rfl⟩ | ⟨_, rfl, rfl⟩ <;> omega) y x hy (by rw [show p - s = q + m - s - 1 by omega]; exact hx)
/-- the first search: one element at the front -/
def S1 (k : α → List UInt8) (A : List α) (a b i j : Nat) : Prop :=
  (a + 1 < i → ∀ x y, A[i - 1]? = some y → A[a]? = some x → k y < k x) ∧ (j < b → ∀ x y, A[j]? = some y → A[a]? = some x → Le k x y)
theorem S1.start {A : List α} {a b : Nat} : S1 k A a b (a + 1) b := ⟨fun h => absurd h (Nat.lt_irrefl _), fun h => absurd h (Nat.lt_irrefl _)⟩
theorem S1.up {A : List α} {a b i j h : Nat} {x y : α} (g : S1 k A a b i j) (hy : A[h]? = some y) (hx : A[a]? = some x) (hl : k y < k x) : S1 k A a b (h + 1) j :=
  ⟨fun _ x' y' hy' hx' => by
    rw [show h + 1 - 1 = h by omega, hy] at hy'
    rw [hx] at hx'
    obtain rfl := Option.some.inj hx'
    obtain rfl := Option.some.inj hy'
    exact hl, g.2⟩
theorem S1.down {A : List α} {a b i j h : Nat} {x y : α} (g : S1 k A a b i j) (hy : A[h]? = some y) (hx : A[a]? = some x) (hl : ¬ k y < k x) : S1 k A a b i h :=
  ⟨g.1, fun _ x' y' hy' hx' => by
    rw [hy] at hy'
    rw [hx] at hx'
    obtain rfl := Option.some.inj hx'
    obtain rfl := Option.some.inj hy'
    exact hl⟩
theorem S1.done {A B : List α} {a b i : Nat} (g : S1 k A a b i i) (hb : b ≤ A.length) (h1 : a + 1 ≤ i) (h2 : i ≤ b) (hR : On k (a + 1) b A) (h : Rot a (a + 1) i A B) : Mrg k a b A B :=
  sym_one hb h1 h2 hR (fun x y h3 => g.1 h3 x y) (fun x y h3 => g.2 h3 x y) h
/-- the second search: one element at the end -/
def S2 (k : α → List UInt8) (A : List α) (a m i j : Nat) : Prop :=
  (a < i → ∀ x y, A[i - 1]? = some x → A[m]? = some y → Le k x y) ∧ (j < m → ∀ x y, A[j]? = some x → A[m]? = some y → k y < k x)
theorem S2.start {A : List α} {a m : Nat} : S2 k A a m a m := ⟨fun h => absurd h (Nat.lt_irrefl _), fun h => absurd h (Nat.lt_irrefl _)⟩
theorem S2.up {A : List α} {a m i j h : Nat} {x y : α} (g : S2 k A a m i j) (hx : A[h]? = some x) (hy : A[m]? = some y) (hl : ¬ k y < k x) : S2 k A a m (h + 1) j :=
  ⟨fun _ x' y' hx' hy' => by
    rw [show h + 1 - 1 = h by omega, hx] at hx'
    rw [hy] at hy'
    obtain rfl := Option.some.inj hx'
    obtain rfl := Option.some.inj hy'
    exact hl, g.2⟩
theorem S2.down {A : List α} {a m i j h : Nat} {x y : α} (g : S2 k A a m i j) (hx : A[h]? = some x) (hy : A[m]? = some y) (hl : k y < k x) : S2 k A a m i h :=
  ⟨g.1, fun _ x' y' hx' hy' => by
    rw [hx] at hx'
    rw [hy] at hy'
    obtain rfl := Option.some.inj hx'
    obtain rfl := Option.some.inj hy'
    exact hl⟩
theorem S2.done {A B : List α} {a m i : Nat} (g : S2 k A a m i i) (hb : m + 1 ≤ A.length) (h1 : a ≤ i) (h2 : i ≤ m) (hL : On k a m A) (h : Rot i m (m + 1) A B) : Mrg k a (m + 1) A B :=
  sym_two hb h1 h2 hL (fun x y h3 => g.1 h3 x y) (fun x y h3 => g.2 h3 x y) h
end Srt
end Go.Proofs.YtohdifffdgoaaaaDoor
namespace Go.Proofs.YtohdifffdgoaaaaDoor
namespace Srt
variable {α : Type} {k : α → List UInt8}
/-- the blocks of s elements that begin below a are sorted -/
def LS (k : α → List UInt8) (s N a : Nat) (A : List α) : Prop := ∀ x b, s ∣ x → x < a → b ≤ x + s → b ≤ N → On k x b A
/-- the blocks of s elements that begin at a or behind it are sorted -/
def RS (k : α → List UInt8) (s N a : Nat) (A : List α) : Prop := ∀ x b, s ∣ x → a ≤ x → b ≤ x + s → b ≤ N → On k x b A
theorem dvd_gap {s x a : Nat} (hx : s ∣ x) (ha : s ∣ a) (h : x < a) : x + s ≤ a := by
  have : s ∣ a - x := Nat.dvd_sub ha hx
  have := Nat.le_of_dvd (by omega) this
  omega
theorem LS.start {s N : Nat} {A : List α} : LS k s N 0 A := fun _ _ _ h => absurd h (Nat.not_lt_zero _)
theorem LS.step {s N a : Nat} {A A' : List α} (ha : s ∣ a) (h : LS k s N a A) (hr : Rng k a (a + s) A A') (ho : On k a (a + s) A') : LS k s N (a + s) A' := fun x b hx hlt hb hN => by
  by_cases hxa : x < a
  · have := dvd_gap hx ha hxa
    exact hr.on_out (Or.inl (by omega)) (h x b hx hxa hb hN)
  · have : x = a := by
      by_cases e : a < x
      · have := dvd_gap ha hx e
        omega
      · omega
    subst this
    exact ho.mono (Nat.le_refl _) hb
theorem LS.last {s N a : Nat} {A A' : List α} (ha : s ∣ a) (h : LS k s N a A) (hN : N ≤ a + s) (hr : Rng k a N A A') (ho : On k a N A') : RS k s N 0 A' := fun x b hx _ hb hbN => by
  by_cases hxa : x < a
  · have := dvd_gap hx ha hxa
    exact hr.on_out (Or.inl (by omega)) (h x b hx hxa hb hbN)
  · by_cases e : a < x
    · have := dvd_gap ha hx e
      exact On.nil (by omega)
    · have : x = a := by omega
      subst this
      exact ho.mono (Nat.le_refl _) hbN
theorem RS.step {s N a c : Nat} {A A' : List α} (h : RS k s N a A) (hc : a ≤ c) (hr : Rng k a c A A') : RS k s N c A' := fun x b hx hxc hb hbN => hr.on_out (Or.inr hxc) (h x b hx (by omega) hb hbN)
theorem RS.whole {s N : Nat} {A : List α} (h : RS k s N 0 A) (hs : N ≤ s) : On k 0 N A := h 0 N (Nat.dvd_zero s) (Nat.le_refl _) (by omega) (Nat.le_refl _)
theorem LS.tail {s N a : Nat} {A : List α} (ha : s ∣ a) (h : LS k s N a A) (hN : N ≤ a + s) (ho : On k a N A) : RS k s N 0 A := fun x b hx _ hb hbN => by
  by_cases hxa : x < a
  · exact h x b hx hxa hb hbN
  · by_cases e : a < x
    · have := dvd_gap ha hx e
      exact On.nil (by omega)
    · have : x = a := by omega
      subst this
      exact ho.mono (Nat.le_refl _) hbN
theorem le_cases {a b : α} (h : Le k a b) : k a < k b ∨ (¬ k a < k b ∧ k a = k b) := by
  by_cases g : k a < k b
  · exact Or.inl g
  · exact Or.inr ⟨g, Le.eq h g⟩
theorem dvd_two {s a : Nat} (h : 2 * s ∣ a) : s ∣ a := Nat.dvd_trans ⟨2, by omega⟩ h
theorem dvd_next {s a : Nat} (h : s ∣ a) : s ∣ a + s := Nat.dvd_add h (Nat.dvd_refl _)
/-- sorted, and each key's elements in their order -/
def Stab (k : α → List UInt8) (A B : List α) : Prop := B.length = A.length ∧ StEq k A B ∧ B.Pairwise (Le k)
theorem on_pairwise {A : List α} (h : On k 0 A.length A) : A.Pairwise (Le k) := by
  have := (on_pair (k := k) (P := []) (M := A) (S := []) (a := 0) (b := A.length) rfl (by omega)).1 (by simpa using h)
  exact this
theorem stab_of {A B : List α} {N : Nat} (hN : A.length = N) (h : Rng k 0 N A B) (ho : On k 0 N B) : Stab k A B := by
  have hl := h.length
  exact ⟨hl, h.stEq, on_pairwise (by rw [hl, hN]; exact ho)⟩
end Srt
end Go.Proofs.YtohdifffdgoaaaaDoor
