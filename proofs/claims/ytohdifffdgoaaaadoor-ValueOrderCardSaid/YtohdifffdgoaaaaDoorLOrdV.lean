/- The walk of ValueOrder. -/
import Derived.Test.YtohdifffdgoaaaaDoorVWorks
import Derived.Test.YtohdifffdgoaaaaDoorVOrdA
import Derived.Deep.DeepCutAuto
namespace Go.Proofs.YtohdifffdgoaaaaDoor
open Go.RowKit
open Go.Lib (hid itoa)
open V
namespace V
theorem bytes_irr : ∀ (a : List UInt8), Op.bytesLess a a = false
  | [] => rfl
  | c :: a => by simp [Op.bytesLess, bytes_irr a]
theorem bytes_tri : ∀ (a b : List UInt8), a ≠ b → Op.bytesLess b a = !Op.bytesLess a b
  | [], [], h => absurd rfl h
  | [], _ :: _, _ => rfl
  | _ :: _, [], _ => rfl
  | x :: a, y :: b, h => by
    unfold Op.bytesLess
    by_cases e : x = y
    · subst e
      have := bytes_tri a b (fun e => h (by rw [e]))
      simp [this]
    · have e' : ¬ y = x := fun h => e h.symm
      rcases UInt8.lt_or_lt_of_ne e with h1 | h1
      · have h2 : ¬ y < x := UInt8.not_lt.2 (UInt8.le_of_lt h1)
        simp [h1, h2, e']
      · have h2 : ¬ x < y := UInt8.not_lt.2 (UInt8.le_of_lt h1)
        simp [h1, h2, e]
theorem bytes_trans : ∀ (a b c : List UInt8), Op.bytesLess a b = true → Op.bytesLess b c = true → Op.bytesLess a c = true
  | _, [], _, h, _ => by simp [Op.bytesLess] at h
  | [], _ :: _, [], _, h => by simp [Op.bytesLess] at h
  | [], _ :: _, _ :: _, _, _ => rfl
  | _ :: _, _ :: _, [], _, h => by simp [Op.bytesLess] at h
  | x :: a, y :: b, z :: c, h1, h2 => by
    simp only [Op.bytesLess, Bool.or_eq_true, decide_eq_true_eq, Bool.and_eq_true, beq_iff_eq] at *
    rcases h1 with h1 | ⟨rfl, h1⟩
    · rcases h2 with h2 | ⟨rfl, h2⟩
      · exact Or.inl (UInt8.lt_trans h1 h2)
      · exact Or.inl h1
    · rcases h2 with h2 | ⟨rfl, h2⟩
      · exact Or.inl h2
      · exact Or.inr ⟨rfl, bytes_trans a b c h1 h2⟩
/-- the order, said outright -/
def Lt (v u : Val) : Prop := v.k < u.k ∨ v.k = u.k ∧ (v.n < u.n ∨ v.n = u.n ∧ (v.b = false ∧ u.b = true ∨ v.b = u.b ∧ Op.bytesLess v.s.data.toList u.s.data.toList = true))
def Eqv (v u : Val) : Prop := v.k = u.k ∧ v.n = u.n ∧ v.b = u.b ∧ v.s.data.toList = u.s.data.toList
theorem cmp_cases (v u : Val) : (cmp v u = -1 ∧ Lt v u) ∨ (cmp v u = 0 ∧ Eqv v u) ∨ (cmp v u = 1 ∧ Lt u v) := by
  obtain ⟨k, n, b, s⟩ := v
  obtain ⟨k', n', b', s'⟩ := u
  unfold cmp Lt Eqv
  simp only
  by_cases hk : k = k'
  · subst hk
    rw [if_neg (by simp)]
    by_cases hn : n = n'
    · subst hn
      rw [if_neg (by simp)]
      by_cases hb : b = b'
      · subst hb
        rw [if_neg (by simp)]
        by_cases hs : s.data.toList = s'.data.toList
        · rw [if_neg (fun h => h hs)]; exact Or.inr (Or.inl ⟨rfl, rfl, rfl, rfl, hs⟩)
        · rw [if_pos hs]
          have := bytes_tri _ _ hs
          cases hq : Op.bytesLess s.data.toList s'.data.toList
          · rw [hq] at this
            exact Or.inr (Or.inr ⟨rfl, Or.inr ⟨rfl, Or.inr ⟨rfl, Or.inr ⟨rfl, by simpa using this⟩⟩⟩⟩)
          · exact Or.inl ⟨rfl, Or.inr ⟨rfl, Or.inr ⟨rfl, Or.inr ⟨rfl, rfl⟩⟩⟩⟩
      · rw [if_pos hb]
        cases b <;> cases b' <;> simp [sgn] at hb ⊢
    · rw [if_pos hn]
      rcases Int.lt_or_gt_of_ne hn with h | h
      · rw [decide_eq_true h]; exact Or.inl ⟨rfl, Or.inr ⟨rfl, Or.inl h⟩⟩
      · rw [decide_eq_false (by omega)]; exact Or.inr (Or.inr ⟨rfl, Or.inr ⟨rfl, Or.inl h⟩⟩)
  · rw [if_pos hk]
    rcases Nat.lt_or_gt_of_ne hk with h | h
    · rw [decide_eq_true h]; exact Or.inl ⟨rfl, Or.inl h⟩
    · rw [decide_eq_false (by omega)]; exact Or.inr (Or.inr ⟨rfl, Or.inl h⟩)
theorem lt_irr (v : Val) : ¬ Lt v v := by
  unfold Lt
  rw [bytes_irr]
  intro h
  rcases h with h | ⟨_, h | ⟨_, ⟨h1, h2⟩ | ⟨_, h⟩⟩⟩
  · omega
  · omega
  · rw [h1] at h2; cases h2
  · cases h
theorem lt_trans {v u x : Val} (h : Lt v u) (h' : Lt u x) : Lt v x := by
  unfold Lt at *
  rcases h with h | ⟨e1, h⟩
  · rcases h' with h' | ⟨e2, _⟩
    · exact Or.inl (by omega)
    · exact Or.inl (by omega)
  · rcases h' with h' | ⟨e2, h'⟩
    · exact Or.inl (by omega)
    · refine Or.inr ⟨by omega, ?_⟩
      rcases h with h | ⟨e3, h⟩
      · rcases h' with h' | ⟨e4, _⟩
        · exact Or.inl (by omega)
        · exact Or.inl (by omega)
      · rcases h' with h' | ⟨e4, h'⟩
        · exact Or.inl (by omega)
        · refine Or.inr ⟨by omega, ?_⟩
          rcases h with ⟨h1, h2⟩ | ⟨e5, h⟩
          · rcases h' with ⟨h3, h4⟩ | ⟨e6, _⟩
            · rw [h2] at h3; cases h3
            · exact Or.inl ⟨h1, by rw [← e6]; exact h2⟩
          · rcases h' with ⟨h3, h4⟩ | ⟨e6, h'⟩
            · exact Or.inl ⟨by rw [e5]; exact h3, h4⟩
            · exact Or.inr ⟨by rw [e5]; exact e6, bytes_trans _ _ _ h h'⟩
theorem eqv_lt {v u x : Val} (h : Eqv v u) (h' : Lt u x) : Lt v x := by
  obtain ⟨h1, h2, h3, h4⟩ := h
  unfold Lt at *
  rw [h1, h2, h3, h4]; exact h'
theorem lt_eqv {v u x : Val} (h : Lt v u) (h' : Eqv u x) : Lt v x := by
  obtain ⟨h1, h2, h3, h4⟩ := h'
  unfold Lt at *
  rw [← h1, ← h2, ← h3, ← h4]; exact h
theorem eqv_trans {v u x : Val} (h : Eqv v u) (h' : Eqv u x) : Eqv v x := ⟨h.1.trans h'.1, h.2.1.trans h'.2.1, h.2.2.1.trans h'.2.2.1, h.2.2.2.trans h'.2.2.2⟩
theorem lt_not_eqv {v u : Val} (h : Lt v u) (e : Eqv v u) : False := lt_irr u (eqv_lt ⟨e.1.symm, e.2.1.symm, e.2.2.1.symm, e.2.2.2.symm⟩ h)
theorem cmp_swap (v u : Val) : cmp v u = - cmp u v := by
  rcases cmp_cases v u with ⟨h1, h2⟩ | ⟨h1, h2⟩ | ⟨h1, h2⟩ <;> rcases cmp_cases u v with ⟨h3, h4⟩ | ⟨h3, h4⟩ | ⟨h3, h4⟩ <;> try rw [h1, h3]
  all_goals first
    | rfl
    | exact absurd (lt_trans h2 h4) (lt_irr _)
    | exact (lt_not_eqv h2 ⟨h4.1.symm, h4.2.1.symm, h4.2.2.1.symm, h4.2.2.2.symm⟩).elim
    | exact (lt_not_eqv h4 ⟨h2.1.symm, h2.2.1.symm, h2.2.2.1.symm, h2.2.2.2.symm⟩).elim
    | exact (lt_not_eqv h2 h4).elim
    | exact (lt_not_eqv h4 h2).elim
theorem cmp_le (v u x : Val) (h : cmp v u ≤ 0) (h' : cmp u x ≤ 0) : ¬ 0 < cmp v x := by
  rcases cmp_cases v u with ⟨h1, h2⟩ | ⟨h1, h2⟩ | ⟨h1, h2⟩ <;> rcases cmp_cases u x with ⟨h3, h4⟩ | ⟨h3, h4⟩ | ⟨h3, h4⟩ <;> rcases cmp_cases v x with ⟨h5, h6⟩ | ⟨h5, h6⟩ | ⟨h5, h6⟩ <;> try omega
  · exact absurd (lt_trans (lt_trans h2 h4) h6) (lt_irr _)
  · exact absurd (lt_trans (lt_eqv h2 h4) h6) (lt_irr _)
  · exact absurd (lt_trans (eqv_lt h2 h4) h6) (lt_irr _)
  · exact absurd (eqv_trans h2 h4) (fun e => lt_not_eqv h6 ⟨e.1.symm, e.2.1.symm, e.2.2.1.symm, e.2.2.2.symm⟩)
theorem text_short {v : Val} (h : ok v = true) (hn : In v.n) : (textL v).length ≤ 5000 := by
  unfold textL
  rw [if_neg (by simp [h])]
  rcases ok_kinds h with hk | hk | hk
  · rw [if_pos hk]
    have := Lib.itoa_length_le v.n hn.1 hn.2
    omega
  · rw [if_neg (by omega), if_pos hk]
    cases v.b <;> decide
  · rw [if_neg (by omega), if_neg (by omega)]
    have hs := ok_size h hk
    have hq : ∀ m : List UInt8, (W.quoteIn m).length ≤ 4 * m.length := by
      intro m
      induction m with
      | nil => simp [W.quoteIn]
      | cons c m ih =>
        simp only [W.quoteIn, List.length_append, List.length_cons]
        have := (W.byteQ_length c).2
        omega
    have := hq v.s.data.toList
    have e : v.s.data.toList.length = v.s.size := Array.length_toList
    unfold W.quoteL
    simp only [List.length_cons, List.length_append, List.length_nil]
    omega
/-- texts come back -/
theorem text_back {v : Val} (h : ok v = true) (hn : In v.n) : parseP v.k ⟨(textL v).toArray⟩ = (v, 0) := by
  have hl : (⟨(textL v).toArray⟩ : ByteArray).data.toList = textL v := rfl
  unfold parseP
  rw [hl]
  rcases ok_kinds h with hk | hk | hk
  · obtain ⟨hb, hs⟩ := ok_one h hk
    have ht : textL v = itoa v.n := by unfold textL; rw [if_neg (by simp [h]), if_pos hk]
    rw [if_pos hk, ht, W.parse_itoa v.n hn, if_pos rfl]
    obtain ⟨k, n, b, s⟩ := v
    simp only at hk hb hs
    rw [hk, hb, nil_of_size hs]
  · have ht : textL v = if v.b then trueL else falseL := by unfold textL; rw [if_neg (by simp [h]), if_neg (by omega), if_pos hk]
    obtain ⟨k, n, b, s⟩ := v
    simp only at hk ht
    subst hk
    have hh : n = 0 ∧ s.size = 0 := by simpa [ok] using h
    rw [if_neg (by simp), if_pos rfl, ht, hh.1, nil_of_size hh.2]
    cases b <;> rfl
  · have ht : textL v = W.quoteL v.s.data.toList := by unfold textL; rw [if_neg (by simp [h]), if_neg (by omega), if_neg (by omega)]
    obtain ⟨hn0, hb⟩ := ok_three h (by omega) (by omega)
    obtain ⟨k, n, b, s⟩ := v
    simp only at hk hn0 hb ht
    subst hk hn0 hb
    have es : (⟨s.data.toList.toArray⟩ : ByteArray) = s := rfl
    rw [if_neg (by simp), if_neg (by simp), if_pos rfl, ht, W.unqL_yes, es, if_pos ⟨rfl, h⟩]
end V
theorem kv12 (xa xb xc : Nat) (k k' k2 : Nat) (n n' n2 : Int) (b b' b2 : Bool) (s s' s2 : ByteArray) (w r : World) (h : Hid (KV [(xc, ⟨k2, n2, b2, s2⟩), (xb, ⟨k', n', b', s'⟩), (xa, ⟨k, n, b, s⟩)] w r)) : World.cell? r ⟨xa, 0, none⟩ = some (.int .u8 k) ∧ World.cell? r ⟨xa, 1, none⟩ = some (.int .i64 n) ∧ World.cell? r ⟨xa, 2, none⟩ = some (.bool b) ∧ World.cell? r ⟨xa, 3, none⟩ = some (.string s) ∧ World.cell? r ⟨xb, 0, none⟩ = some (.int .u8 k') ∧ World.cell? r ⟨xb, 1, none⟩ = some (.int .i64 n') ∧ World.cell? r ⟨xb, 2, none⟩ = some (.bool b') ∧ World.cell? r ⟨xb, 3, none⟩ = some (.string s') ∧ World.cell? r ⟨xc, 0, none⟩ = some (.int .u8 k2) ∧ World.cell? r ⟨xc, 1, none⟩ = some (.int .i64 n2) ∧ World.cell? r ⟨xc, 2, none⟩ = some (.bool b2) ∧ World.cell? r ⟨xc, 3, none⟩ = some (.string s2) ∧ Hid (KV [(xc, ⟨k2, n2, b2, s2⟩), (xb, ⟨k', n', b', s'⟩), (xa, ⟨k, n, b, s⟩)] w r) := by
  have h0 : r.heap[xa]? = some (.cells #[.int .u8 k, .int .i64 n, .bool b, .string s] 23 (0, 0)) := h.out.got (xa, ⟨k, n, b, s⟩) (by simp)
  have h1 : r.heap[xb]? = some (.cells #[.int .u8 k', .int .i64 n', .bool b', .string s'] 23 (0, 0)) := h.out.got (xb, ⟨k', n', b', s'⟩) (by simp)
  have h2 : r.heap[xc]? = some (.cells #[.int .u8 k2, .int .i64 n2, .bool b2, .string s2] 23 (0, 0)) := h.out.got (xc, ⟨k2, n2, b2, s2⟩) (by simp)
  obtain ⟨a0, a1, a2, a3⟩ := row4 h0
  obtain ⟨b0, b1, b2, b3⟩ := row4 h1
  obtain ⟨c0, c1, c2, c3⟩ := row4 h2
  exact ⟨a0, a1, a2, a3, b0, b1, b2, b3, c0, c1, c2, c3, h⟩
theorem kv4 (xa xb xc : Nat) (k k' k2 : Nat) (n n' n2 : Int) (b b' b2 : Bool) (s s' s2 : ByteArray) (w r : World) (h : Hid (KV [(xc, ⟨k2, n2, b2, s2⟩), (xb, ⟨k', n', b', s'⟩), (xa, ⟨k, n, b, s⟩)] w r)) : World.cell? r ⟨xa, 0, none⟩ = some (.int .u8 k) ∧ World.cell? r ⟨xa, 1, none⟩ = some (.int .i64 n) ∧ World.cell? r ⟨xa, 2, none⟩ = some (.bool b) ∧ World.cell? r ⟨xa, 3, none⟩ = some (.string s) ∧ Hid (KV [(xc, ⟨k2, n2, b2, s2⟩), (xb, ⟨k', n', b', s'⟩), (xa, ⟨k, n, b, s⟩)] w r) := by
  have h0 : r.heap[xa]? = some (.cells #[.int .u8 k, .int .i64 n, .bool b, .string s] 23 (0, 0)) := h.out.got (xa, ⟨k, n, b, s⟩) (by simp)
  obtain ⟨a0, a1, a2, a3⟩ := row4 h0
  exact ⟨a0, a1, a2, a3, h⟩
theorem h_5 {p0 p1 p2 p3 Q : Prop} (h : p0 ∧ p1 ∧ p2 ∧ p3 ∧ Q) : Q := h.2.2.2.2
structure KX (v : Val) (xa : Nat) (w r : World) : Prop where
  hb : Below w.heap.size w r
  sz : xa + 2 ≤ r.heap.size
  hx : w.heap.size ≤ xa
  got : r.heap[xa]? = some (.cells #[.int .u8 v.k, .int .i64 v.n, .bool v.b, .string v.s] 23 (0, 0))
theorem KX.drew {v : Val} {xa : Nat} {w r : World} (h : KX v xa w r) : KX v xa w r.drew := ⟨h.hb.drew, h.sz, h.hx, h.got⟩
theorem kx_after {v : Val} {xa : Nat} {w r r' : World} (h : Hid (KX v xa w r)) (b : Below r.heap.size r r') : Hid (KX v xa w r') :=
  ⟨h.out.hb.trans (b.mono h.out.hb.size), Nat.le_trans h.out.sz b.size, h.out.hx, (b.block _ (Go.lt_of_block h.out.got)).trans h.out.got⟩
theorem kx_alloc {v : Val} {xa : Nat} {w r : World} {o : Obj} (h : Hid (KX v xa w r)) : Hid (KX v xa w (r.alloc o)) :=
  ⟨h.out.hb.alloc h.out.hb.size _, by have := h.out.sz; show _ ≤ (r.heap.push o).size; simp; omega, h.out.hx, (Lib.alloc_old r _ _ (Go.lt_of_block h.out.got)).trans h.out.got⟩
theorem kx_swap {v : Val} {xa : Nat} {w r : World} {o o' : Obj} (h : Hid (KX v xa w (r.alloc o))) : Hid (KX v xa w (r.alloc o')) := by
  have s0 : xa + 2 ≤ (r.heap.push o).size := h.out.sz
  simp at s0
  have sw : w.heap.size ≤ (r.heap.push o).size := h.out.hb.size
  simp at sw
  have hx := h.out.hx
  refine ⟨⟨h.out.hb.os, h.out.hb.tape, h.out.hb.output, ?_, ?_⟩, ?_, hx, ?_⟩
  · show _ ≤ (r.heap.push o').size
    simp; omega
  · intro k hk
    rw [Lib.alloc_old r _ _ (by omega), ← Lib.alloc_old r o _ (by omega)]
    exact h.out.hb.block k hk
  · show _ ≤ (r.heap.push o').size
    simp; omega
  · rw [Lib.alloc_old r _ _ (by omega), ← Lib.alloc_old r o _ (by omega)]
    exact h.out.got
theorem kx4 {v : Val} {xa : Nat} {w r : World} (h : Hid (KX v xa w r)) : World.cell? r ⟨xa, 0, none⟩ = some (.int .u8 v.k) ∧ World.cell? r ⟨xa, 1, none⟩ = some (.int .i64 v.n) ∧ World.cell? r ⟨xa, 2, none⟩ = some (.bool v.b) ∧ World.cell? r ⟨xa, 3, none⟩ = some (.string v.s) ∧ Hid (KX v xa w r) := by
  obtain ⟨a0, a1, a2, a3⟩ := row4 h.out.got
  exact ⟨a0, a1, a2, a3, h⟩
theorem new_held {v : Val} {xa : Nat} {w r r' : World} {x y z u : Value} (b : Below (r.alloc (.cells #[x, y, z, u] 23)).heap.size (r.alloc (.cells #[x, y, z, u] 23)) r') (h : Hid (KX v xa w (r.alloc (.cells #[x, y, z, u] 23)))) : r'.heap[r.heap.size]? = some (.cells #[x, y, z, u] 23 (0, 0)) ∧ xa < r.heap.size := by
  refine ⟨(b.block _ (by simp)).trans (heap_alloc_new _ _), ?_⟩
  have := h.out.sz
  simp at this
  omega
theorem new_heldD {v : Val} {xa : Nat} {w r r' : World} {x y z u : Value} (b : Below (r.alloc (.cells #[x, y, z, u] 23)).drew.heap.size (r.alloc (.cells #[x, y, z, u] 23)).drew r') (h : Hid (KX v xa w (r.alloc (.cells #[x, y, z, u] 23)).drew)) : r'.heap[r.heap.size]? = some (.cells #[x, y, z, u] 23 (0, 0)) ∧ xa < r.heap.size := by
  refine ⟨(b.block _ (by show _ < (r.alloc _).heap.size; simp)).trans (heap_alloc_new _ _), ?_⟩
  have : xa + 2 ≤ (r.alloc (.cells #[x, y, z, u] 23)).heap.size := h.out.sz
  simp at this
  omega
theorem new_after {B xa : Nat} {r r' : World} {o : Obj} (b : Below r.heap.size r r') (h : r.heap[B]? = some o ∧ xa < B) : r'.heap[B]? = some o ∧ xa < B := ⟨(b.block _ (Go.lt_of_block h.1)).trans h.1, h.2⟩
theorem kx_set {v : Val} {xa B : Nat} {w r : World} {x y z u x' y' z' u' : Value} {t : TypeId} (h : Hid (KX v xa w r)) (hN : r.heap[B]? = some (.cells #[x, y, z, u] t (0, 0)) ∧ xa < B) : Hid (KX v xa w ((((r.setCell ⟨B, 0, none⟩ x').setCell ⟨B, 1, none⟩ y').setCell ⟨B, 2, none⟩ z').setCell ⟨B, 3, none⟩ u')) := by
  have b := below4_set (Below.refl (xa + 1) r) (b := B) (by have := hN.2; omega) x' y' z' u'
  exact ⟨h.out.hb.trans (b.mono (by have := h.out.hx; omega)), Nat.le_trans h.out.sz b.size, h.out.hx, (b.block _ (by omega)).trans h.out.got⟩
theorem kxE {v : Val} {xa : Nat} {w r : World} (hE : Hid (VEnv w)) (h : Hid (KX v xa w r)) : VEnv r := hE.out.below h.out.hb
theorem of12 {p0 p1 p2 p3 p4 p5 p6 p7 p8 p9 p10 p11 Q : Prop} (h : p0 ∧ p1 ∧ p2 ∧ p3 ∧ p4 ∧ p5 ∧ p6 ∧ p7 ∧ p8 ∧ p9 ∧ p10 ∧ p11 ∧ Q) : Q := h.2.2.2.2.2.2.2.2.2.2.2.2
theorem kvE {l : List (Nat × Val)} {w r : World} (hE : Hid (VEnv w)) (h : Hid (KV l w r)) : VEnv r := hE.out.below h.out.hb
theorem kv_alloc {l : List (Nat × Val)} {w r : World} (h : Hid (KV l w r)) {o : Obj} : Hid (KV l w (r.alloc o)) := ⟨h.out.hb.alloc h.out.hb.size _, fun p hp => by rw [Lib.alloc_old r _ _ (Go.lt_of_block (h.out.got p hp))]; exact h.out.got p hp⟩
theorem kv_after {l : List (Nat × Val)} {w r r' : World} (h : Hid (KV l w r)) (b : Below r.heap.size r r') : Hid (KV l w r') := h.out.below b
set_option maxRecDepth 100000 in
set_option maxHeartbeats 20000000 in
theorem ord_walk (k : Nat) (n : Int) (b : Bool) (s : ByteArray) (k' : Nat) (n' : Int) (b' : Bool) (s' : ByteArray) (k2 : Nat) (n2 : Int) (b2 : Bool) (s2 : ByteArray) (w : World) (hE : VEnv w) (hn : In n) :
    Calls Tryd.prog 8 #[.agg #[.int .u8 k, .int .i64 n, .bool b, .string s], .agg #[.int .u8 k', .int .i64 n', .bool b', .string s'], .agg #[.int .u8 k2, .int .i64 n2, .bool b2, .string s2]] w fun e w' => e = .returned (.bool true) ∧ Below w.heap.size w w' := by
  have cM1 := fun X => cmpV_any k k' n n' b b' s s' X
  have cM2 := fun X => cmpV_any k' k n' n b' b s' s X
  have cM3 := fun X => cmpV_any k' k2 n' n2 b' b2 s' s2 X
  have cM4 := fun X => cmpV_any k k2 n n2 b b2 s s2 X
  have hc1 := or4_cmp ⟨k, n, b, s⟩ ⟨k', n', b', s'⟩
  have hc2 := or4_cmp ⟨k', n', b', s'⟩ ⟨k, n, b, s⟩
  have hc3 := or4_cmp ⟨k', n', b', s'⟩ ⟨k2, n2, b2, s2⟩
  have hc4 := or4_cmp ⟨k, n, b, s⟩ ⟨k2, n2, b2, s2⟩
  simp only at hc1 hc2 hc3 hc4
  simp only [hc1] at cM1
  simp only [hc2] at cM2
  simp only [hc3] at cM3
  simp only [hc4] at cM4
  have hsw := cmp_swap ⟨k, n, b, s⟩ ⟨k', n', b', s'⟩
  have htr := cmp_le ⟨k, n, b, s⟩ ⟨k', n', b', s'⟩ ⟨k2, n2, b2, s2⟩
  have hs0 := cmp_same ⟨k, n, b, s⟩ ⟨k', n', b', s'⟩
  have hbd : -1 ≤ cmp ⟨k', n', b', s'⟩ ⟨k, n, b, s⟩ ∧ cmp ⟨k', n', b', s'⟩ ⟨k, n, b, s⟩ ≤ 1 := by
    rcases cmp_cases ⟨k', n', b', s'⟩ ⟨k, n, b, s⟩ with ⟨h, _⟩ | ⟨h, _⟩ | ⟨h, _⟩ <;> rw [h] <;> decide
  have cS := fun X => same_any k k' n n' b b' s s' X
  have cL := fun X (hX : Tabs X) => lessV ⟨k, n, b, s⟩ ⟨k', n', b', s'⟩ X hX
  have hL : (lessR ⟨k, n, b, s⟩ ⟨k', n', b', s'⟩ = (decide (cmp ⟨k, n, b, s⟩ ⟨k', n', b', s'⟩ < 0), 0)) ∨ (lessR ⟨k, n, b, s⟩ ⟨k', n', b', s'⟩ = (false, 90)) := by
    unfold lessR
    split
    · rename_i h
      refine Or.inl ?_
      rw [← or4_cmp, less_cmp _ _ h.1 h.2.1 h.2.2.1 h.2.2.2]
    · exact Or.inr rfl
  obtain ⟨c1, e1⟩ : ∃ c, cmp ⟨k, n, b, s⟩ ⟨k', n', b', s'⟩ = c := ⟨_, rfl⟩
  obtain ⟨c2, e2⟩ : ∃ c, cmp ⟨k', n', b', s'⟩ ⟨k, n, b, s⟩ = c := ⟨_, rfl⟩
  obtain ⟨c3, e3⟩ : ∃ c, cmp ⟨k', n', b', s'⟩ ⟨k2, n2, b2, s2⟩ = c := ⟨_, rfl⟩
  obtain ⟨c4, e4⟩ : ∃ c, cmp ⟨k, n, b, s⟩ ⟨k2, n2, b2, s2⟩ = c := ⟨_, rfl⟩
  obtain ⟨q, hq⟩ : ∃ q, sameB ⟨k, n, b, s⟩ ⟨k', n', b', s'⟩ = q := ⟨_, rfl⟩
  obtain ⟨⟨L, le⟩, hR⟩ : ∃ R, lessR ⟨k, n, b, s⟩ ⟨k', n', b', s'⟩ = R := ⟨_, rfl⟩
  rw [hR] at cL hL
  simp only at cL
  rw [e1] at cM1 hsw htr hs0 hL
  rw [e2] at cM2 hsw hbd
  rw [e3] at cM3 htr
  rw [e4] at cM4 htr
  rw [hq] at hs0 cS
  have hw2 : IntKind.i64.wrap (-c2) = -c2 := by rw [IntKind.wrap_i64]; omega
  have hw : wrap64 (-c2) = -c2 := by unfold wrap64; omega
  have hne : (c1 != -c2) = false := by rw [hsw]; simp
  have hne0 : (c1 == -c2) = true := by rw [hsw]; simp
  have hne1 : c1 = -c2 := hsw
  obtain ⟨z, hz⟩ : ∃ z, -c2 = z := ⟨_, rfl⟩
  have hw3 : IntKind.i64.wrap (-c2) = z := by rw [hw2, hz]
  have hw4 : wrap64 (-c2) = z := by rw [hw, hz]
  rw [hz] at hne hne0 hne1
  subst hne1
  clear hw hw2 hz hne hne0
  have hne : (c1 != c1) = false := by simp
  have cC := fun X (hX : Tabs X) => check_any k n b s X hX
  have cT := fun X (hX : VEnv X) => textV ⟨k, n, b, s⟩ X hX hn.1 hn.2
  simp only at cT
  have HE := hid hE
  have HTR := hid htr
  have HLS := hid hL
  clear e1 e2 e3 e4 hq hR hsw htr hc1 hc2 hc3 hc4 hL hE
  have z1 : (w.alloc (.cells #[.int .u8 k, .int .i64 n, .bool b, .string s] 23)).heap.size = w.heap.size + 1 := by simp
  have z2 : ((w.alloc (.cells #[.int .u8 k, .int .i64 n, .bool b, .string s] 23)).alloc (.cells #[.int .u8 k', .int .i64 n', .bool b', .string s'] 23)).heap.size = w.heap.size + 2 := by simp
  have h3 := (((KV.start w).box ⟨k, n, b, s⟩).box ⟨k', n', b', s'⟩).box ⟨k2, n2, b2, s2⟩
  simp only [z1, z2] at h3
  have HK := hid h3
  clear h3 z1 z2
  go_enter Tryd.func8, Tryd.ntmps8
  go_upto_region 1 with fail
  generalize World.alloc (World.alloc (World.alloc w _) _) _ = w0 at *
  rw [show w.heap.size + 2 = w.heap.size + 1 + 1 from rfl] at HK
  obtain ⟨xc, hxc⟩ : ∃ x, w.heap.size + 1 + 1 = x := ⟨_, rfl⟩
  rw [hxc] at HK ⊢
  obtain ⟨xb, hxb⟩ : ∃ x, w.heap.size + 1 = x := ⟨_, rfl⟩
  rw [hxb] at HK ⊢
  obtain ⟨xa, hxa⟩ : ∃ x, w.heap.size = x := ⟨_, rfl⟩
  rw [hxa] at HK ⊢
  have HX : Hid (w.heap.size ≤ xa ∧ xa + 1 = xb) := hid (by omega)
  clear hxa hxb hxc
  go_wp2_with fail
  refine (works_any _ (HE.out.below HK.out.hb)).mono ?_
  rintro e w1 ⟨rfl, bb⟩
  have HK1 := hid (HK.out.below bb)
  clear bb HK 
  have HK := hid HK1.out
  clear HK1
  go_upto_region 3 with fail
  go_cut [48] (fun s48 wc => s48 = .bool false ∧ Hid (KV [(xc, ⟨k2, n2, b2, s2⟩), (xb, ⟨k', n', b', s'⟩), (xa, ⟨k, n, b, s⟩)] w wc))
  case first =>
    clear cL cC cT HLS
    cases q
    all_goals
      by_cases l1 : c1 ≤ 0
      · have t1 : decide (c1 ≤ 0) = true := decide_eq_true l1
        by_cases l2 : c3 ≤ 0
        · have t2 : decide (c3 ≤ 0) = true := decide_eq_true l2
          have t3 : decide (0 < c4) = false := decide_eq_false (by have := HTR.out l1 l2; omega)
          refine q_start (C := fun w' => Hid (KV [(xc, ⟨k2, n2, b2, s2⟩), (xb, ⟨k', n', b', s'⟩), (xa, ⟨k, n, b, s⟩)] w w')) (by kernel_rfl) (by kernel_rfl) (hid HK.out.drew) ?_
          repeat (first
            | (refine q_skip (by rfl) ?_
               try simp only [Act.put, List.setIfInBounds_toArray, List.set_cons_zero, List.set_cons_succ])
            | (refine q_val (by rfl) (x := ?_) (fun vv hC => ?_) ?_
               rotate_left
               · skip
                 obtain ⟨p0, p1, p2, p3, p4, p5, p6, p7, p8, p9, p10, p11, _⟩ := kv12 _ _ _ _ _ _ _ _ _ _ _ _ _ _ _ _ _ hC
                 clear hC
                 go_simp
                 with_reducible rfl
               try simp only [Act.put, List.setIfInBounds_toArray, List.set_cons_zero, List.set_cons_succ])
            | (refine q_call (by rfl) (f := ?_) (args := ?_) (x := ?_) (fun vv hC => ?_) (fun vv hC => ?_) ?_
               rotate_left 3
               · go_simp
                 first | with_reducible rfl | (apply And.intro <;> with_reducible rfl)
               · first
                   | (go_at_call 37; with_reducible refine (cM1 _).mono ?_; rintro e ww ⟨rfl, bb⟩; refine And.intro ?_ (kv_after hC bb); with_reducible rfl)
                   | (go_at_call 37; with_reducible refine (cM2 _).mono ?_; rintro e ww ⟨rfl, bb⟩; refine And.intro ?_ (kv_after hC bb); with_reducible rfl)
                   | (go_at_call 37; with_reducible refine (cM3 _).mono ?_; rintro e ww ⟨rfl, bb⟩; refine And.intro ?_ (kv_after hC bb); with_reducible rfl)
                   | (go_at_call 37; with_reducible refine (cM4 _).mono ?_; rintro e ww ⟨rfl, bb⟩; refine And.intro ?_ (kv_after hC bb); with_reducible rfl)
                   | (go_at_call 36; with_reducible refine (cS _).mono ?_; rintro e ww ⟨rfl, bb⟩; refine And.intro ?_ (kv_after hC bb); with_reducible rfl)
               try simp only [Act.put, List.setIfInBounds_toArray, List.set_cons_zero, List.set_cons_succ])
            | fail)
          refine wpQuiet_nil ?_
          intro vq hq
          go_wp2_with fail
          go_meet
          exact ⟨rfl, hq⟩
        · have t2 : decide (c3 ≤ 0) = false := decide_eq_false l2
          refine q_start (C := fun w' => Hid (KV [(xc, ⟨k2, n2, b2, s2⟩), (xb, ⟨k', n', b', s'⟩), (xa, ⟨k, n, b, s⟩)] w w')) (by kernel_rfl) (by kernel_rfl) (hid HK.out.drew) ?_
          repeat (first
            | (refine q_skip (by rfl) ?_
               try simp only [Act.put, List.setIfInBounds_toArray, List.set_cons_zero, List.set_cons_succ])
            | (refine q_val (by rfl) (x := ?_) (fun vv hC => ?_) ?_
               rotate_left
               · skip
                 obtain ⟨p0, p1, p2, p3, p4, p5, p6, p7, p8, p9, p10, p11, _⟩ := kv12 _ _ _ _ _ _ _ _ _ _ _ _ _ _ _ _ _ hC
                 clear hC
                 go_simp
                 with_reducible rfl
               try simp only [Act.put, List.setIfInBounds_toArray, List.set_cons_zero, List.set_cons_succ])
            | (refine q_call (by rfl) (f := ?_) (args := ?_) (x := ?_) (fun vv hC => ?_) (fun vv hC => ?_) ?_
               rotate_left 3
               · go_simp
                 first | with_reducible rfl | (apply And.intro <;> with_reducible rfl)
               · first
                   | (go_at_call 37; with_reducible refine (cM1 _).mono ?_; rintro e ww ⟨rfl, bb⟩; refine And.intro ?_ (kv_after hC bb); with_reducible rfl)
                   | (go_at_call 37; with_reducible refine (cM2 _).mono ?_; rintro e ww ⟨rfl, bb⟩; refine And.intro ?_ (kv_after hC bb); with_reducible rfl)
                   | (go_at_call 37; with_reducible refine (cM3 _).mono ?_; rintro e ww ⟨rfl, bb⟩; refine And.intro ?_ (kv_after hC bb); with_reducible rfl)
                   | (go_at_call 37; with_reducible refine (cM4 _).mono ?_; rintro e ww ⟨rfl, bb⟩; refine And.intro ?_ (kv_after hC bb); with_reducible rfl)
                   | (go_at_call 36; with_reducible refine (cS _).mono ?_; rintro e ww ⟨rfl, bb⟩; refine And.intro ?_ (kv_after hC bb); with_reducible rfl)
               try simp only [Act.put, List.setIfInBounds_toArray, List.set_cons_zero, List.set_cons_succ])
            | fail)
          refine wpQuiet_nil ?_
          intro vq hq
          go_wp2_with fail
          go_meet
          exact ⟨rfl, hq⟩
      · have t1 : decide (c1 ≤ 0) = false := decide_eq_false l1
        refine q_start (C := fun w' => Hid (KV [(xc, ⟨k2, n2, b2, s2⟩), (xb, ⟨k', n', b', s'⟩), (xa, ⟨k, n, b, s⟩)] w w')) (by kernel_rfl) (by kernel_rfl) (hid HK.out.drew) ?_
        repeat (first
          | (refine q_skip (by rfl) ?_
             try simp only [Act.put, List.setIfInBounds_toArray, List.set_cons_zero, List.set_cons_succ])
          | (refine q_val (by rfl) (x := ?_) (fun vv hC => ?_) ?_
             rotate_left
             · skip
               obtain ⟨p0, p1, p2, p3, p4, p5, p6, p7, p8, p9, p10, p11, _⟩ := kv12 _ _ _ _ _ _ _ _ _ _ _ _ _ _ _ _ _ hC
               clear hC
               go_simp
               with_reducible rfl
             try simp only [Act.put, List.setIfInBounds_toArray, List.set_cons_zero, List.set_cons_succ])
          | (refine q_call (by rfl) (f := ?_) (args := ?_) (x := ?_) (fun vv hC => ?_) (fun vv hC => ?_) ?_
             rotate_left 3
             · go_simp
               first | with_reducible rfl | (apply And.intro <;> with_reducible rfl)
             · first
                 | (go_at_call 37; with_reducible refine (cM1 _).mono ?_; rintro e ww ⟨rfl, bb⟩; refine And.intro ?_ (kv_after hC bb); with_reducible rfl)
                 | (go_at_call 37; with_reducible refine (cM2 _).mono ?_; rintro e ww ⟨rfl, bb⟩; refine And.intro ?_ (kv_after hC bb); with_reducible rfl)
                 | (go_at_call 37; with_reducible refine (cM3 _).mono ?_; rintro e ww ⟨rfl, bb⟩; refine And.intro ?_ (kv_after hC bb); with_reducible rfl)
                 | (go_at_call 37; with_reducible refine (cM4 _).mono ?_; rintro e ww ⟨rfl, bb⟩; refine And.intro ?_ (kv_after hC bb); with_reducible rfl)
                 | (go_at_call 36; with_reducible refine (cS _).mono ?_; rintro e ww ⟨rfl, bb⟩; refine And.intro ?_ (kv_after hC bb); with_reducible rfl)
             try simp only [Act.put, List.setIfInBounds_toArray, List.set_cons_zero, List.set_cons_succ])
          | fail)
        refine wpQuiet_nil ?_
        intro vq hq
        go_wp2_with fail
        go_meet
        exact ⟨rfl, hq⟩
  case rest =>
    obtain ⟨rfl, hK⟩ := hcut
    clear HK HTR cM2 cM3 cM4 cS hne hs0 hw3 hw4 hbd
    have HK := hid hK.out
    clear hK
    have h0 : wc.heap[xa]? = some (.cells #[.int .u8 k, .int .i64 n, .bool b, .string s] 23 (0, 0)) := HK.out.got (xa, ⟨k, n, b, s⟩) (by simp)
    obtain ⟨xa0, xa1, xa2, xa3⟩ := row4 h0
    clear h0
    have h0 : wc.heap[xb]? = some (.cells #[.int .u8 k', .int .i64 n', .bool b', .string s'] 23 (0, 0)) := HK.out.got (xb, ⟨k', n', b', s'⟩) (by simp)
    obtain ⟨xb0, xb1, xb2, xb3⟩ := row4 h0
    clear h0
    go_wp2_with fail
    refine (cL _ (HE.out.below HK.out.hb).tabs).mono ?_
    rintro e v1 ⟨rfl, bb⟩
    have HK1 := hid (HK.out.below bb)
    clear bb HK 
    have HK := hid HK1.out
    clear HK1
    clear xa0 xa1 xa2 xa3 xb0 xb1 xb2 xb3
    rcases HLS.out with hLe | hLe
    · clear HLS
      simp only [Prod.mk.injEq] at hLe
      obtain ⟨hX, rfl⟩ := hLe
      have t5 : decide (c1 < 0) = L := hX.symm
      clear hX
      have h0 : v1.heap[xa]? = some (.cells #[.int .u8 k, .int .i64 n, .bool b, .string s] 23 (0, 0)) := HK.out.got (xa, ⟨k, n, b, s⟩) (by simp)
      obtain ⟨xa0, xa1, xa2, xa3⟩ := row4 h0
      clear h0
      have h0 : v1.heap[xb]? = some (.cells #[.int .u8 k', .int .i64 n', .bool b', .string s'] 23 (0, 0)) := HK.out.got (xb, ⟨k', n', b', s'⟩) (by simp)
      obtain ⟨xb0, xb1, xb2, xb3⟩ := row4 h0
      clear h0
      go_wp2_with fail
      refine (cM1 _).mono ?_
      rintro e v11 ⟨rfl, bb⟩
      have HK1 := hid (HK.out.below bb)
      clear bb HK 
      have HK := hid HK1.out
      clear HK1
      clear xa0 xa1 xa2 xa3 xb0 xb1 xb2 xb3
      cases hok : ok ⟨k, n, b, s⟩
      · rw [show okE ⟨k, n, b, s⟩ = 1 by simp [okE, hok]] at cC
        rw [show textL ⟨k, n, b, s⟩ = [] by unfold textL; rw [if_pos hok]] at cT
        clear hok
        have h0 : v11.heap[xa]? = some (.cells #[.int .u8 k, .int .i64 n, .bool b, .string s] 23 (0, 0)) := HK.out.got (xa, ⟨k, n, b, s⟩) (by simp)
        obtain ⟨xa0, xa1, xa2, xa3⟩ := row4 h0
        clear h0
        go_wp2_with fail
        refine (cC _ (HE.out.below HK.out.hb).tabs).mono ?_
        rintro e v31 ⟨rfl, bb⟩
        have HK1 := hid (HK.out.below bb)
        clear bb HK 
        have HK := hid HK1.out
        clear HK1
        clear xa0 xa1 xa2 xa3
        have h0 : v31.heap[xa]? = some (.cells #[.int .u8 k, .int .i64 n, .bool b, .string s] 23 (0, 0)) := HK.out.got (xa, ⟨k, n, b, s⟩) (by simp)
        obtain ⟨xa0, xa1, xa2, xa3⟩ := row4 h0
        clear h0
        go_wp2_with fail
        refine (cT _ (HE.out.below HK.out.hb)).mono ?_
        rintro e v32 ⟨rfl, bb⟩
        have HK1 := hid (HK.out.below bb)
        clear bb HK 
        have HK := hid HK1.out
        clear HK1
        clear xa0 xa1 xa2 xa3
        go_wp2_with fail
        go_ret
        exact ⟨rfl, HK.out.hb⟩
      · rw [show okE ⟨k, n, b, s⟩ = 0 by simp [okE, hok]] at cC
        have hsz := text_short hok hn
        have hbk := text_back hok hn
        obtain ⟨T, hT⟩ : ∃ T : ByteArray, (⟨(textL ⟨k, n, b, s⟩).toArray⟩ : ByteArray) = T := ⟨_, rfl⟩
        have hTs : T.size ≤ 17592186044416 := by
          rw [← hT]
          show Array.size _ ≤ _
          simp; omega
        rw [hT] at cT hbk
        have cP := fun X (hX : VEnv X) => parseV k T X hX hTs
        simp only at hbk
        rw [hbk] at cP
        simp only at cP
        have cS := fun X => same_any k k n n b b s s X
        rw [show sameB ⟨k, n, b, s⟩ ⟨k, n, b, s⟩ = true by simp [sameB]] at cS
        clear hsz hbk hT hTs hok
        have h0 : v11.heap[xa]? = some (.cells #[.int .u8 k, .int .i64 n, .bool b, .string s] 23 (0, 0)) := HK.out.got (xa, ⟨k, n, b, s⟩) (by simp)
        obtain ⟨xa0, xa1, xa2, xa3⟩ := row4 h0
        clear h0
        go_wp2_with fail
        refine (cC _ (HE.out.below HK.out.hb).tabs).mono ?_
        rintro e v51 ⟨rfl, bb⟩
        have HK1 := hid (HK.out.below bb)
        clear bb HK 
        have HK := hid HK1.out
        clear HK1
        clear xa0 xa1 xa2 xa3
        have HQ : Hid (KX ⟨k, n, b, s⟩ xa w v51) := hid ⟨HK.out.hb, by have := Go.lt_of_block (HK.out.got (xb, ⟨k', n', b', s'⟩) (by simp)); have := HX.out; omega, HX.out.1, HK.out.got (xa, ⟨k, n, b, s⟩) (by simp)⟩
        clear HK
        go_upto_region 10 with fail
        first | go_region_held3 (fun w' => World.cell? w' ⟨xa, 0, none⟩ = some (.int .u8 k) ∧ World.cell? w' ⟨xa, 1, none⟩ = some (.int .i64 n) ∧ World.cell? w' ⟨xa, 2, none⟩ = some (.bool b) ∧ World.cell? w' ⟨xa, 3, none⟩ = some (.string s) ∧ Hid (KX ⟨k, n, b, s⟩ xa w w'))
            (first
              | assumption
              | exact kx4 (hid HQ.out.drew)
              | exact kx4 (kx_after (h_5 (by assumption)) bb)
              | exact kx4 (kx_set (h_5 (by assumption)) hM)
              | exact kx4 (kx_swap (h_5 (by assumption)))
              | exact kx4 (kx_alloc (h_5 (by assumption))))
            (first
              | (go_at_call 38; refine (cT _ (kxE HE (h_5 (by assumption)))).mono ?_; rintro e ww ⟨rfl, bb⟩; first | (have hN := new_held bb (h_5 (by assumption)); obtain ⟨n0, n1, n2, n3⟩ := row4 hN.1; obtain ⟨f0, f1, f2, f3⟩ := free4 hN.1) | (have hN := new_heldD bb (h_5 (by assumption)); obtain ⟨n0, n1, n2, n3⟩ := row4 hN.1; obtain ⟨f0, f1, f2, f3⟩ := free4 hN.1) | skip)
              | (go_at_call 32; refine (cP _ (kxE HE (h_5 (by assumption)))).mono ?_; rintro e ww ⟨rfl, bb⟩; first | (have hM := new_after bb hN; obtain ⟨m0, m1, m2, m3⟩ := row4 hM.1; obtain ⟨f0, f1, f2, f3⟩ := free4 hM.1) | (have hM := new_held bb (h_5 (by assumption)); obtain ⟨m0, m1, m2, m3⟩ := row4 hM.1; obtain ⟨f0, f1, f2, f3⟩ := free4 hM.1) | skip)) | fail
        all_goals
          go_split_ands
          have B2 := hid (Hid.out (p := KX ⟨k, n, b, s⟩ xa w _) (by assumption))
          go_wp2_with fail
          refine (cS _).mono ?_
          rintro e v9 ⟨rfl, bb⟩
          have B3 := B2.out.hb.trans (bb.mono B2.out.hb.size)
          go_wp2_with fail
          go_ret
          exact ⟨rfl, B3⟩
    · clear HLS
      simp only [Prod.mk.injEq] at hLe
      obtain ⟨rfl, rfl⟩ := hLe
      clear cM1
      cases hok : ok ⟨k, n, b, s⟩
      · rw [show okE ⟨k, n, b, s⟩ = 1 by simp [okE, hok]] at cC
        rw [show textL ⟨k, n, b, s⟩ = [] by unfold textL; rw [if_pos hok]] at cT
        clear hok
        have h0 : v1.heap[xa]? = some (.cells #[.int .u8 k, .int .i64 n, .bool b, .string s] 23 (0, 0)) := HK.out.got (xa, ⟨k, n, b, s⟩) (by simp)
        obtain ⟨xa0, xa1, xa2, xa3⟩ := row4 h0
        clear h0
        go_wp2_with fail
        refine (cC _ (HE.out.below HK.out.hb).tabs).mono ?_
        rintro e v31 ⟨rfl, bb⟩
        have HK1 := hid (HK.out.below bb)
        clear bb HK 
        have HK := hid HK1.out
        clear HK1
        clear xa0 xa1 xa2 xa3
        have h0 : v31.heap[xa]? = some (.cells #[.int .u8 k, .int .i64 n, .bool b, .string s] 23 (0, 0)) := HK.out.got (xa, ⟨k, n, b, s⟩) (by simp)
        obtain ⟨xa0, xa1, xa2, xa3⟩ := row4 h0
        clear h0
        go_wp2_with fail
        refine (cT _ (HE.out.below HK.out.hb)).mono ?_
        rintro e v32 ⟨rfl, bb⟩
        have HK1 := hid (HK.out.below bb)
        clear bb HK 
        have HK := hid HK1.out
        clear HK1
        clear xa0 xa1 xa2 xa3
        go_wp2_with fail
        go_ret
        exact ⟨rfl, HK.out.hb⟩
      · rw [show okE ⟨k, n, b, s⟩ = 0 by simp [okE, hok]] at cC
        have hsz := text_short hok hn
        have hbk := text_back hok hn
        obtain ⟨T, hT⟩ : ∃ T : ByteArray, (⟨(textL ⟨k, n, b, s⟩).toArray⟩ : ByteArray) = T := ⟨_, rfl⟩
        have hTs : T.size ≤ 17592186044416 := by
          rw [← hT]
          show Array.size _ ≤ _
          simp; omega
        rw [hT] at cT hbk
        have cP := fun X (hX : VEnv X) => parseV k T X hX hTs
        simp only at hbk
        rw [hbk] at cP
        simp only at cP
        have cS := fun X => same_any k k n n b b s s X
        rw [show sameB ⟨k, n, b, s⟩ ⟨k, n, b, s⟩ = true by simp [sameB]] at cS
        clear hsz hbk hT hTs hok
        have h0 : v1.heap[xa]? = some (.cells #[.int .u8 k, .int .i64 n, .bool b, .string s] 23 (0, 0)) := HK.out.got (xa, ⟨k, n, b, s⟩) (by simp)
        obtain ⟨xa0, xa1, xa2, xa3⟩ := row4 h0
        clear h0
        go_wp2_with fail
        refine (cC _ (HE.out.below HK.out.hb).tabs).mono ?_
        rintro e v51 ⟨rfl, bb⟩
        have HK1 := hid (HK.out.below bb)
        clear bb HK 
        have HK := hid HK1.out
        clear HK1
        clear xa0 xa1 xa2 xa3
        have HQ : Hid (KX ⟨k, n, b, s⟩ xa w v51) := hid ⟨HK.out.hb, by have := Go.lt_of_block (HK.out.got (xb, ⟨k', n', b', s'⟩) (by simp)); have := HX.out; omega, HX.out.1, HK.out.got (xa, ⟨k, n, b, s⟩) (by simp)⟩
        clear HK
        go_upto_region 10 with fail
        first | go_region_held3 (fun w' => World.cell? w' ⟨xa, 0, none⟩ = some (.int .u8 k) ∧ World.cell? w' ⟨xa, 1, none⟩ = some (.int .i64 n) ∧ World.cell? w' ⟨xa, 2, none⟩ = some (.bool b) ∧ World.cell? w' ⟨xa, 3, none⟩ = some (.string s) ∧ Hid (KX ⟨k, n, b, s⟩ xa w w'))
            (first
              | assumption
              | exact kx4 (hid HQ.out.drew)
              | exact kx4 (kx_after (h_5 (by assumption)) bb)
              | exact kx4 (kx_set (h_5 (by assumption)) hM)
              | exact kx4 (kx_swap (h_5 (by assumption)))
              | exact kx4 (kx_alloc (h_5 (by assumption))))
            (first
              | (go_at_call 38; refine (cT _ (kxE HE (h_5 (by assumption)))).mono ?_; rintro e ww ⟨rfl, bb⟩; first | (have hN := new_held bb (h_5 (by assumption)); obtain ⟨n0, n1, n2, n3⟩ := row4 hN.1; obtain ⟨f0, f1, f2, f3⟩ := free4 hN.1) | (have hN := new_heldD bb (h_5 (by assumption)); obtain ⟨n0, n1, n2, n3⟩ := row4 hN.1; obtain ⟨f0, f1, f2, f3⟩ := free4 hN.1) | skip)
              | (go_at_call 32; refine (cP _ (kxE HE (h_5 (by assumption)))).mono ?_; rintro e ww ⟨rfl, bb⟩; first | (have hM := new_after bb hN; obtain ⟨m0, m1, m2, m3⟩ := row4 hM.1; obtain ⟨f0, f1, f2, f3⟩ := free4 hM.1) | (have hM := new_held bb (h_5 (by assumption)); obtain ⟨m0, m1, m2, m3⟩ := row4 hM.1; obtain ⟨f0, f1, f2, f3⟩ := free4 hM.1) | skip)) | fail
        all_goals
          go_split_ands
          have B2 := hid (Hid.out (p := KX ⟨k, n, b, s⟩ xa w _) (by assumption))
          go_wp2_with fail
          refine (cS _).mono ?_
          rintro e v9 ⟨rfl, bb⟩
          have B3 := B2.out.hb.trans (bb.mono B2.out.hb.size)
          go_wp2_with fail
          go_ret
          exact ⟨rfl, B3⟩
theorem ord_law (k : Nat) (n : Int) (b : Bool) (s : ByteArray) (k' : Nat) (n' : Int) (b' : Bool) (s' : ByteArray) (k2 : Nat) (n2 : Int) (b2 : Bool) (s2 : ByteArray) (w : World) (h : In n) (_ : s.size ≤ 140737488351232) (_ : In n') (_ : s'.size ≤ 140737488351232) (_ : In n2) (_ : s2.size ≤ 140737488351232) (hE : VEnv w) :
    Calls Tryd.prog 8 #[.agg #[.int .u8 k, .int .i64 n, .bool b, .string s], .agg #[.int .u8 k', .int .i64 n', .bool b', .string s'], .agg #[.int .u8 k2, .int .i64 n2, .bool b2, .string s2]] w fun e w' => e = .returned (.bool true) ∧ Below w.heap.size w w' := ord_walk k n b s k' n' b' s' k2 n2 b2 s2 w hE h
end Go.Proofs.YtohdifffdgoaaaaDoor
