/- value: whatever value stands there. -/
import Derived.Test.YtphjfighamadgaaGreatDoorJVal2
import Derived.Test.YtphjfighamadgaaGreatDoorJNum
import Derived.Test.YtphjfighamadgaaGreatDoorJA5
namespace Go.Proofs.YtphjfighamadgaaGreatDoor
open Go.RowKit
open Go.Lib (hid)
abbrev pt6 (w : World) (g : Nat) (c0 c1 c2 c3 c4 c5 : Value) : World := (((((w.setCell ⟨g, 0, none⟩ c0).setCell ⟨g, 1, none⟩ c1).setCell ⟨g, 2, none⟩ c2).setCell ⟨g, 3, none⟩ c3).setCell ⟨g, 4, none⟩ c4).setCell ⟨g, 5, none⟩ c5
theorem pt6_row {w : World} {b : Nat} {x0 x1 x2 x3 x4 x5 : Value} {t : TypeId} (h : w.heap[b]? = some (.cells #[x0, x1, x2, x3, x4, x5] t (0, 0))) (c0 c1 c2 c3 c4 c5 : Value) : (pt6 w b c0 c1 c2 c3 c4 c5).heap[b]? = some (.cells #[c0, c1, c2, c3, c4, c5] t (0, 0)) :=
  row_set (row_set (row_set (row_set (row_set (row_set h 0 c0) 1 c1) 2 c2) 3 c3) 4 c4) 5 c5
theorem pt6_below {B : Nat} {a w : World} {b : Nat} (h : Below B a w) (hb : B ≤ b) (c0 c1 c2 c3 c4 c5 : Value) : Below B a (pt6 w b c0 c1 c2 c3 c4 c5) :=
  (((((h.setCell (p := ⟨b, 0, none⟩) hb c0).setCell (p := ⟨b, 1, none⟩) hb c1).setCell (p := ⟨b, 2, none⟩) hb c2).setCell (p := ⟨b, 3, none⟩) hb c3).setCell (p := ⟨b, 4, none⟩) hb c4).setCell (p := ⟨b, 5, none⟩) hb c5
/-- the boxes of value: the reader, how deep, and the value's variable -/
structure Bx (N R deep : Nat) (k : Int) (lv nv : Value) (W : World) : Prop where
  r : W.heap[N]? = some (.cells #[.pointer (some ⟨R, 0, none⟩)] 54 (0, 0))
  d : W.heap[N + 1]? = some (.cells #[.int .i64 deep] 3 (0, 0))
  v : W.heap[N + 2]? = some (vRow k lv nv)
theorem Bx.kept {N R deep : Nat} {k : Int} {lv nv : Value} {W W' : World} (h : Bx N R deep k lv nv W) (g : W.grownBy W' (some R)) (hR : R < N) : Bx N R deep k lv nv W' :=
  ⟨by rw [g.block _ (Go.lt_of_block h.r) (fun e => by have := Option.some.inj e; omega)]; exact h.r, by rw [g.block _ (Go.lt_of_block h.d) (fun e => by have := Option.some.inj e; omega)]; exact h.d,
    by rw [g.block _ (Go.lt_of_block h.v) (fun e => by have := Option.some.inj e; omega)]; exact h.v⟩
theorem Bx.drew {N R deep : Nat} {k : Int} {lv nv : Value} {W : World} (h : Bx N R deep k lv nv W) : Bx N R deep k lv nv W.drew := ⟨h.r, h.d, h.v⟩
theorem from_drew {W W' : World} (b : Below W.drew.heap.size W.drew W') : Below W.heap.size W W' := ((Below.refl _ W).drew).trans b
theorem Bx.after {N R deep : Nat} {k : Int} {lv nv : Value} {W W' : World} (h : Bx N R deep k lv nv W) (b : Below W.heap.size W W') : Bx N R deep k lv nv W' :=
  ⟨by rw [b.block _ (Go.lt_of_block h.r)]; exact h.r, by rw [b.block _ (Go.lt_of_block h.d)]; exact h.d, by rw [b.block _ (Go.lt_of_block h.v)]; exact h.v⟩
theorem vcells {N : Nat} {k : Int} {lv nv : Value} {W : World} (h : W.heap[N]? = some (vRow k lv nv)) : W.cell? ⟨N, 0, none⟩ = some (.int .u8 k) ∧ W.cell? ⟨N, 1, none⟩ = some (.bool false) ∧ W.cell? ⟨N, 2, none⟩ = some (.int .i64 0) ∧ W.cell? ⟨N, 3, none⟩ = some (.string ⟨#[]⟩) ∧ W.cell? ⟨N, 4, none⟩ = some lv ∧ W.cell? ⟨N, 5, none⟩ = some nv := by
  refine ⟨?_, ?_, ?_, ?_, ?_, ?_⟩ <;> (rw [Lib.cell_of_heap h]; rfl)
theorem vfree {N : Nat} {cs : Array Value} {W : World} {T : TypeId} (h : W.heap[N]? = some (.cells cs T (0, 0))) : W.frozen? ⟨N, 0, none⟩ = false ∧ W.frozen? ⟨N, 1, none⟩ = false ∧ W.frozen? ⟨N, 2, none⟩ = false ∧ W.frozen? ⟨N, 3, none⟩ = false ∧ W.frozen? ⟨N, 4, none⟩ = false ∧ W.frozen? ⟨N, 5, none⟩ = false :=
  ⟨Lib.frozen_of_heap h 0, Lib.frozen_of_heap h 1, Lib.frozen_of_heap h 2, Lib.frozen_of_heap h 3, Lib.frozen_of_heap h 4, Lib.frozen_of_heap h 5⟩
/-- a value that hangs on nothing -/
theorem has_flat (w : World) (P : Nat → Prop) (k : Nat) (b : Bool) (n : Int) (t : ByteArray) : (⟨k, b, n, t, .nil, []⟩ : J.V).Has w P [.int .u8 k, .bool b, .int .i64 n, .string t, .slice none 0 0, .slice none 0 0] :=
  ⟨_, _, rfl, Or.inl ⟨rfl, none, 0, rfl, fun _ => rfl⟩, Or.inl ⟨rfl, none, 0, rfl, fun _ => rfl⟩⟩
theorem val_ok {W0 : World} {R : Nat} {s : ByteArray} {x : J.Res J.V} {k : Nat} {b : Bool} {n : Int} {t : ByteArray} {r : List UInt8} {W WF : World} (hx : x = .ok (⟨k, b, n, t, .nil, []⟩, r)) (hr : Rdr W0 R s (s.size - r.length) 0 0 W) (hF : Below W0.heap.size W WF) :
    ValOf W0 R s x (.returned (.tuple #[.agg #[.int .u8 k, .bool b, .int .i64 n, .string t, .slice none 0 0, .slice none 0 0], .bool true])) WF :=
  Or.inl ⟨_, _, r, _, hx, J.V.loose_refl _, rfl, has_flat _ _ k b n t, hr.under hF (Nat.le_refl _)⟩
theorem val_err {W0 : World} {R : Nat} {s : ByteArray} {x : J.Res J.V} {m q : Nat} {er : Int} {cs : List Value} (hcs : Shape cs) {W WF : World} (hx : x = .error (m, er)) (hq : q ≤ s.size) (hr : Rdr W0 R s q er ((s.size - m : Nat) : Int) W) (hF : Below W0.heap.size W WF) :
    ValOf W0 R s x (.returned (.tuple #[.agg cs.toArray, .bool false])) WF :=
  Or.inr ⟨m, er, q, cs, hx, hq, rfl, hcs, hr.under hF (Nat.le_refl _)⟩
/-- what a word's reading leaves, by the truth that it hands back -/
def TookB (w : World) (R : Nat) (s : ByteArray) (x : J.Res Unit) (bo : Bool) (W : World) : Prop :=
  (bo = true ∧ ∃ r, x = .ok ((), r) ∧ Rdr w R s (s.size - r.length) 0 0 W) ∨ (bo = false ∧ ∃ n er q, x = .error (n, er) ∧ q ≤ s.size ∧ Rdr w R s q er ((s.size - n : Nat) : Int) W)
theorem took_parts {w W : World} {R : Nat} {s : ByteArray} {x : J.Res Unit} {e : Ending} (h : Took w R s x e W) : ∃ bo, e = .returned (.bool bo) ∧ TookB w R s x bo W ∧ w.grownBy W (some R) := by
  rcases h with ⟨r, h1, h2, h3⟩ | ⟨n, er, q, h1, h2, h3, h4⟩
  · exact ⟨true, h2, Or.inl ⟨rfl, r, h1, h3⟩, h3.g⟩
  · exact ⟨false, h3, Or.inr ⟨rfl, n, er, q, h1, h2, h4⟩, h4.g⟩
theorem val_word {W0 w W : World} {R q : Nat} {s : ByteArray} {x : J.Res J.V} {y : J.Res Unit} {k : Nat} {b bo : Bool} {t : ByteArray} (h0 : Rdr W0 R s q 0 0 w) (hy : TookB w R s y bo W) (hx : x = J.on (fun _ => ⟨k, b, 0, t, .nil, []⟩) y) {WF : World} (hF : Below W0.heap.size W WF) :
    ValOf W0 R s x (.returned (.tuple #[.agg #[.int .u8 k, .bool b, .int .i64 0, .string t, .slice none 0 0, .slice none 0 0], .bool bo])) WF := by
  rcases hy with ⟨rfl, r, h1, h2⟩ | ⟨rfl, n, er, q', h1, h2, h3⟩
  · exact val_ok (by rw [hx, h1]; rfl) (h0.trans h2) hF
  · exact val_err (cs := [.int .u8 k, .bool b, .int .i64 0, .string t, .slice none 0 0, .slice none 0 0]) ⟨_, _, _, _, _, _, _, _, _, _, rfl⟩ (by rw [hx, h1]; rfl) h2 (h0.trans h3) hF
theorem took_num {w W : World} {R : Nat} {s : ByteArray} {l : List UInt8} {e : Ending} (h : TookN w R s (J.num l) e W) : ∃ (u : Int) (q : Nat) (er x : Int), e = .returned (.int .i64 u) ∧ Rdr w R s q er x W ∧ w.grownBy W (some R) ∧
    ((er = 0 ∧ x = 0 ∧ ∃ r, J.num l = .ok (u, r) ∧ q = s.size - r.length) ∨ (er ≠ 0 ∧ q ≤ s.size ∧ ∃ n, J.num l = .error (n, er) ∧ x = ((s.size - n : Nat) : Int))) := by
  rcases h with ⟨v, r, h1, h2, h3⟩ | ⟨n, er, q, u, h1, h2, h3, h4⟩
  · exact ⟨v, _, 0, 0, h2, h3, h3.g, Or.inl ⟨rfl, rfl, r, h1, rfl⟩⟩
  · exact ⟨u, q, er, _, h3, h4, h4.g, Or.inr ⟨(J.fair_steps (J.num_fair l)).2 n er h1 |>.2, h2, n, h1, rfl⟩⟩
theorem took_text {w W : World} {R : Nat} {s : ByteArray} {x : J.Res (List UInt8)} {e : Ending} (h : TextOf w R s x e W) : ∃ (t : ByteArray) (bo : Bool), e = .returned (.tuple #[.string t, .bool bo]) ∧ w.grownBy W (some R) ∧
    ((bo = true ∧ ∃ r l, t = ⟨l.toArray⟩ ∧ x = .ok (l, r) ∧ Rdr w R s (s.size - r.length) 0 0 W) ∨ (bo = false ∧ ∃ n er q, x = .error (n, er) ∧ q ≤ s.size ∧ Rdr w R s q er ((s.size - n : Nat) : Int) W)) := by
  rcases h with ⟨l, r, h1, h2, h3⟩ | ⟨n, er, q, h1, h2, h3, h4⟩
  · exact ⟨_, true, h2, h3.g, Or.inl ⟨rfl, r, l, rfl, h1, h3⟩⟩
  · exact ⟨_, false, h3, h4.g, Or.inr ⟨rfl, n, er, q, h1, h2, h4⟩⟩
theorem pt6_other (w : World) (g k : Nat) (c0 c1 c2 c3 c4 c5 : Value) (h : k ≠ g) : (pt6 w g c0 c1 c2 c3 c4 c5).heap[k]? = w.heap[k]? := by
  have ho : ∀ (u : World) (i : Nat) (x : Value), (u.setCell ⟨g, i, none⟩ x).heap[k]? = u.heap[k]? := fun u i x => heap_setCell_other u ⟨g, i, none⟩ k x (fun e => h (by simp [e]))
  rw [ho, ho, ho, ho, ho, ho]
theorem pt6_size (w : World) (g : Nat) (c0 c1 c2 c3 c4 c5 : Value) : (pt6 w g c0 c1 c2 c3 c4 c5).heap.size = w.heap.size := by simp [World.setCell]
/-- the gathered value, stored onto itself -/
theorem own_has {N : Nat} {k : Nat} {t : J.T} {ns : List ByteArray} {W : World} {lv nv : Value} (h : VSt (N + 3) (N + 2) k t ns W) (hv : W.heap[N + 2]? = some (vRow k lv nv)) :
    (⟨k, false, 0, ⟨#[]⟩, t, ns⟩ : J.V).Has (pt6 W (N + 2) (.int .u8 k) (.bool false) (.int .i64 0) (.string ⟨#[]⟩) lv nv) (Own (pt6 W (N + 2) (.int .u8 k) (.bool false) (.int .i64 0) (.string ⟨#[]⟩) lv nv) N none) [.int .u8 k, .bool false, .int .i64 0, .string ⟨#[]⟩, lv, nv] := by
  obtain ⟨lv', nv', h1, h2⟩ := h.has
  rw [hv] at h1
  have e : lv' = lv ∧ nv' = nv := by
    have := Option.some.inj h1
    simp only [vRow, Obj.cells.injEq, Array.mk.injEq, List.cons.injEq] at this
    exact ⟨this.1.2.2.2.2.1.symm, this.1.2.2.2.2.2.1.symm⟩
  obtain ⟨rfl, rfl⟩ := e
  have hb : ∀ b, Own W (N + 3) none b → b ≠ N + 2 := fun b hb => by have := hb.1; omega
  refine J.V.Has.keep (P := Own W (N + 3) none) ?_ (fun b h => pt6_other _ _ _ _ _ _ _ _ _ (hb b h)) h2
  intro b h
  have hne := hb b h
  obtain ⟨h3, h4, h5, cs, T, h6⟩ := h
  exact ⟨by omega, by rw [pt6_size]; exact h4, h5, cs, T, by rw [pt6_other _ _ _ _ _ _ _ _ _ hne]; exact h6⟩
namespace J
theorem val_cons (d : Nat) {l r : List UInt8} {c : UInt8} (h : skip l = c :: r) : val d l = (if c = 110 then on (fun _ => ⟨1, false, 0, ⟨#[]⟩, .nil, []⟩) (word [110, 117, 108, 108] (c :: r))
      else if c = 116 then on (fun _ => ⟨2, true, 0, ⟨#[]⟩, .nil, []⟩) (word [116, 114, 117, 101] (c :: r))
      else if c = 102 then on (fun _ => ⟨2, false, 0, ⟨#[]⟩, .nil, []⟩) (word [102, 97, 108, 115, 101] (c :: r))
      else if c = 45 ∨ dig c = true then on (fun n => ⟨3, false, n, ⟨#[]⟩, .nil, []⟩) (num (c :: r))
      else if c = 34 then on (fun t => ⟨4, false, 0, ⟨t.toArray⟩, .nil, []⟩) (text (c :: r))
      else if c = 91 ∨ c = 123 then
        match d with
        | 0 => .error (r.length + 1, 84)
        | d + 1 => inside (val d) (c == 123) (c :: r)
      else .error (r.length + 1, 4) : Res V) := by
  unfold val; rw [h]; rfl
theorem val_nil (d : Nat) {l : List UInt8} (h : skip l = []) : val d l = .error (0, 4) := by
  unfold val; rw [h]
theorem val_num (d : Nat) {l r : List UInt8} {c : UInt8} (h : skip l = c :: r) (hc : c = 45 ∨ dig c = true) : val d l = on (fun n => ⟨3, false, n, ⟨#[]⟩, .nil, []⟩) (num (c :: r)) := by
  have hn : c ≠ 110 ∧ c ≠ 116 ∧ c ≠ 102 := by
    rcases hc with rfl | hc
    · decide
    · have h2 : 48 ≤ c.toNat ∧ c.toNat ≤ 57 := by simpa [dig] using hc
      refine ⟨?_, ?_, ?_⟩ <;> (rintro rfl; revert h2; decide)
  rw [val_cons d h, if_neg hn.1, if_neg hn.2.1, if_neg hn.2.2, if_pos hc]
theorem val_text (d : Nat) {l r : List UInt8} (h : skip l = 34 :: r) : val d l = on (fun t => ⟨4, false, 0, ⟨t.toArray⟩, .nil, []⟩) (text (34 :: r)) := by rw [val_cons d h]; rfl
theorem val_deep {l r : List UInt8} {c : UInt8} (h : skip l = c :: r) (hc : c = 91 ∨ c = 123) : val 0 l = .error (r.length + 1, 84) := by
  rw [val_cons 0 h]
  rcases hc with rfl | rfl <;> rfl
theorem val_list (d : Nat) {l r : List UInt8} (h : skip l = 91 :: r) : val (d + 1) l = on (fun p => ⟨5, false, 0, ⟨#[]⟩, p.1, p.2⟩) (inR (stepL (val d)) 93 (91 :: r)) := by rw [val_cons (d + 1) h, ← inside_list]; rfl
theorem val_obj (d : Nat) {l r : List UInt8} (h : skip l = 123 :: r) : val (d + 1) l = on (fun p => ⟨6, false, 0, ⟨#[]⟩, p.1, p.2⟩) (inR (stepO (val d)) 125 (123 :: r)) := by rw [val_cons (d + 1) h, ← inside_obj]; rfl
theorem val_bad (d : Nat) {l r : List UInt8} {c : UInt8} (h : skip l = c :: r) (h1 : c ≠ 110) (h2 : c ≠ 116) (h3 : c ≠ 102) (h4 : c ≠ 45) (h5 : dig c = false) (h6 : c ≠ 34) (h7 : c ≠ 91) (h8 : c ≠ 123) : val d l = .error (r.length + 1, 4) := by
  rw [val_cons d h, if_neg h1, if_neg h2, if_neg h3, if_neg (by rw [h5]; simp [h4]), if_neg h6, if_neg (by simp [h7, h8])]
end J
set_option maxRecDepth 100000 in
set_option maxHeartbeats 4000000 in
theorem value_null {G R : Nat} {s : ByteArray} {d deep : Nat} (_hGR : G ≤ R) (hs : s.size ≤ 1000000000000) (p : Nat) (w : World) (hR : Rdr w R s p 0 0 w) (hp : p ≤ s.size) (_hG : Ground G w) (hB0 : J.nextB s p = 110) :
    Calls Tryz.prog 26 #[.pointer (some ⟨R, 0, none⟩), .int .i64 deep] w (ValOf w R s (J.val d (s.data.toList.drop p))) := by
  have hlt := hR.lt
  obtain ⟨RES, hRES⟩ : ∃ x, J.val d (s.data.toList.drop p) = x := ⟨_, rfl⟩
  rw [hRES]
  obtain ⟨q, hq⟩ : ∃ q, J.nextP s p = q := ⟨_, rfl⟩
  have hqs : q ≤ s.size := by rw [← hq]; exact J.nextP_le s p
  have hsk := J.nextP_drop s p
  have hN := next_cases s p
  obtain ⟨B, hB⟩ : ∃ B, J.nextB s p = B := ⟨_, rfl⟩
  rw [hq] at hN hsk
  rw [hB] at hN
  have hBv : B = 110 := by rw [← hB]; exact hB0
  clear hB0
  obtain ⟨c, hqlt, hqc, hcs, hcb⟩ : ∃ c, ∃ h : q < s.size, s[q]'h = c ∧ J.skip (s.data.toList.drop p) = c :: s.data.toList.drop (q + 1) ∧ B = c.toNat := by
    rcases hN with ⟨_, _, h0⟩ | h
    · omega
    · exact h
  have hcr : s.data.toList.drop q = c :: s.data.toList.drop (q + 1) := by rw [hsk, hcs]
  clear hN
  have hc : c = 110 := UInt8.toNat_inj.1 (show c.toNat = 110 by omega)
  subst hc
  have HRV : Hid (RES = J.on (fun _ => ⟨1, false, 0, ⟨#[]⟩, .nil, []⟩) (J.word [110, 117, 108, 108] (s.data.toList.drop q))) := by show _ = _; rw [← hRES, J.val_cons d hcs, ← hcr]; rfl
  clear hcs hcr hsk hcb hqc
  have t_n : ((B : Int) == 110) = true := by rw [beq_iff_eq]; omega
  clear hBv
  have HRS := hid hRES
  go_enter Tryz.func26, Tryz.ntmps26
  go_upto_region 1 with fail
  obtain ⟨w3, hw3⟩ : ∃ w3, ((w.alloc (.cells #[.pointer (some ⟨R, 0, none⟩)] 54)).alloc (.cells #[.int .i64 deep] 3)).alloc (.cells #[.int .u8 0, .bool false, .int .i64 0, .string ⟨#[]⟩, .slice none 0 0, .slice none 0 0] 25) = w3 := ⟨_, rfl⟩
  have HB3 : Hid (Bx w.heap.size R deep 0 (.slice none 0 0) (.slice none 0 0) w3) := by
    show Bx _ _ _ _ _ _ _
    rw [← hw3]
    refine ⟨?_, ?_, ?_⟩
    · rw [Lib.alloc_old _ _ _ (by simp; omega), Lib.alloc_old _ _ _ (by simp)]; exact heap_alloc_new w _
    · rw [Lib.alloc_old _ _ _ (by simp)]
      have := heap_alloc_new (w.alloc (.cells #[.pointer (some ⟨R, 0, none⟩)] 54)) (.cells #[.int .i64 deep] 3)
      simpa using this
    · have := heap_alloc_new ((w.alloc (.cells #[.pointer (some ⟨R, 0, none⟩)] 54)).alloc (.cells #[.int .i64 deep] 3)) (.cells #[.int .u8 0, .bool false, .int .i64 0, .string ⟨#[]⟩, .slice none 0 0, .slice none 0 0] 25)
      rw [show ((w.alloc (.cells #[.pointer (some ⟨R, 0, none⟩)] 54)).alloc (.cells #[.int .i64 deep] 3)).heap.size = w.heap.size + 2 by simp] at this
      exact this
  have HR3 : Hid (Rdr w R s p 0 0 w3) := by
    show Rdr _ _ _ _ _ _ _
    rw [← hw3]; exact ((hR.alloc _).alloc _).alloc _
  rw [hw3]
  have H33 : Hid (w3.heap.size = w.heap.size + 3) := by show _ = _; rw [← hw3]; simp
  clear hw3 hR hRES
  have b0 := cell_of_one HB3.out.r
  have cN := next_own HR3.out hp (by omega)
  rw [hq, hB] at cN
  clear hq
  go_wp2_with fail
  refine cN.mono ?_
  rintro e w4 ⟨rfl, hr, hg⟩
  have HR4 := hid hr
  have HB4 := hid (HB3.out.kept hg hlt)
  have H43 : Hid (w.heap.size + 3 ≤ w4.heap.size) := by show _ ≤ _; have := H33.out; have := hg.size; omega
  clear hr hg cN HB3 HR3 b0 H33
  have b0 := cell_of_one HB4.out.r
  have b1 := cell_of_one HB4.out.d
  go_upto_region 3 with fail
  refine wp_region_till (S := (fun w' : World => Bx w.heap.size R deep 0 (.slice none 0 0) (.slice none 0 0) w')) 2 (by kernel_rfl) ?_
  have HS := hid (show ((fun w' : World => Bx w.heap.size R deep 0 (.slice none 0 0) (.slice none 0 0) w')) _ from HB4.out.drew)
  refine wpTill_load 1 [1, 2] (oi := ?oi1) (v := ?v1) ?ho1 (by kernel_rfl) (by kernel_rfl) (by kernel_rfl) (by kernel_rfl) ?hq1 (Or.inl ⟨?hw1, ?hy1⟩) HS.out ?rest1
  case ho1 => simp only [List.getElem?_toArray, List.getElem?_cons_succ, List.getElem?_cons_zero]; rfl
  case hw1 => rfl
  case hy1 =>
    intro w hSw
    have b0 := cell_of_one hSw.r
    clear hSw
    go_simp
    try with_reducible rfl
  case hq1 => exact fun _ _ _ h => h
  try simp only [Act.put, List.setIfInBounds_toArray, List.set_cons_zero, List.set_cons_succ]
  refine wpTill_ready (rs := [0]) (by kernel_rfl) (by decide) ?_
  refine AllTill.consH (o := ?oi2) ?ho2 (fun K hK => ?step2) ?more2
  case ho2 => simp only [List.getElem?_toArray, List.getElem?_cons_zero]; rfl
  case step2 =>
    go_simp
    refine (null_any _).mono ?_
    rintro e wA ⟨rfl, hbA⟩
    have HBA := hid (Bx.after HB4.out (from_drew hbA))
    have HRA := hid (Rdr.below HR4.out (from_drew hbA))
    clear hbA
    try dsimp only
    refine hK.out _ _ (fun _ => HBA.out) (fun hHeld => ?_)
    have HS2 := hid (hHeld (by kernel_rfl))
    clear hHeld hK K
    try simp only [Act.put, List.setIfInBounds_toArray, List.set_cons_zero, List.set_cons_succ]
    refine wpTill_ready (rs := [2]) (by kernel_rfl) (by decide) ?_
    refine AllTill.consH (o := ?oi3) ?ho3 (fun K hK => ?step3) ?more3
    case ho3 => simp only [List.getElem?_toArray, List.getElem?_cons_succ, List.getElem?_cons_zero]; rfl
    case step3 =>
      go_simp
      refine (word_any ⟨#[110, 117, 108, 108]⟩ HRA.out.own hqs (by omega) (by decide)).mono ?_
      intro e w6 hen
      obtain ⟨bo, rfl, hpar, hg6⟩ := took_parts hen
      have HP := hid hpar
      have HB6 := hid (HBA.out.kept hg6 hlt)
      clear hpar hg6 hen
      obtain ⟨v0, v1, v2, v3, v4, v5⟩ := vcells HB6.out.v
      obtain ⟨f0, f1, f2, f3, f4, f5⟩ := vfree HB6.out.v
      try dsimp only
      refine hK.out _ _ (fun hk => by cases (show true = false from hk)) (fun _ => ?_)
      clear hK K
      try simp only [Act.put, List.setIfInBounds_toArray, List.set_cons_zero, List.set_cons_succ]
      refine wpTill_ready (rs := [3]) (by kernel_rfl) (by decide) ?_
      refine AllTill.consH (o := ?oi4) ?ho4 (fun K hK => ?step4) ?more4
      case ho4 => simp only [List.getElem?_toArray, List.getElem?_cons_succ, List.getElem?_cons_zero]; rfl
      case step4 =>
        go_simp
        refine hK.out _ _ (fun hk => by cases (show true = false from hk)) (fun _ => ?_)
        clear hK K
        try simp only [Act.put, List.setIfInBounds_toArray, List.set_cons_zero, List.set_cons_succ]
        refine wpTill_any 4 (oi := ?oi5) (v := ?v5) ?ho5 (by kernel_rfl) (by kernel_rfl) (by kernel_rfl) (by kernel_rfl) ?hq5 (Or.inl ⟨?hw5, ?hy5⟩) (fun hk => by cases (show true = false from hk)) ?rest5
        case ho5 => simp only [List.getElem?_toArray, List.getElem?_cons_succ, List.getElem?_cons_zero]; rfl
        case hw5 => rfl
        case hy5 => intro w; go_simp; try with_reducible rfl
        case hq5 => exact fun _ _ _ h => h
        try simp only [Act.put, List.setIfInBounds_toArray, List.set_cons_zero, List.set_cons_succ]
        refine wpTill_done (by kernel_rfl) ?_ _
        go_wp2_with fail
        exact bodyPost_ret (v := .tuple #[.agg #[.int .u8 1, .bool false, .int .i64 0, .string ⟨#[]⟩, .slice none 0 0, .slice none 0 0], .bool bo]) (results_pair rfl _ _ (w.heap.size + 2) 25 #[.int .u8 1, .bool false, .int .i64 0, .string ⟨#[]⟩, .slice none 0 0, .slice none 0 0] (0, 0) _ (.bool bo) rfl (pt6_row HB6.out.v _ _ _ _ _ _) rfl Tryz.underlying25 rfl infoJSON) rfl (val_word HRA.out HP.out HRV.out (pt6_below (Below.refl _ _) (by omega) _ _ _ _ _ _))
      case more4 =>
        exact AllTill.nil
    case more3 =>
      exact AllTill.nil
  case more2 =>
    exact AllTill.nil
set_option maxRecDepth 100000 in
set_option maxHeartbeats 4000000 in
theorem value_true {G R : Nat} {s : ByteArray} {d deep : Nat} (_hGR : G ≤ R) (hs : s.size ≤ 1000000000000) (p : Nat) (w : World) (hR : Rdr w R s p 0 0 w) (hp : p ≤ s.size) (_hG : Ground G w) (hB0 : J.nextB s p = 116) :
    Calls Tryz.prog 26 #[.pointer (some ⟨R, 0, none⟩), .int .i64 deep] w (ValOf w R s (J.val d (s.data.toList.drop p))) := by
  have hlt := hR.lt
  obtain ⟨RES, hRES⟩ : ∃ x, J.val d (s.data.toList.drop p) = x := ⟨_, rfl⟩
  rw [hRES]
  obtain ⟨q, hq⟩ : ∃ q, J.nextP s p = q := ⟨_, rfl⟩
  have hqs : q ≤ s.size := by rw [← hq]; exact J.nextP_le s p
  have hsk := J.nextP_drop s p
  have hN := next_cases s p
  obtain ⟨B, hB⟩ : ∃ B, J.nextB s p = B := ⟨_, rfl⟩
  rw [hq] at hN hsk
  rw [hB] at hN
  have hBv : B = 116 := by rw [← hB]; exact hB0
  clear hB0
  obtain ⟨c, hqlt, hqc, hcs, hcb⟩ : ∃ c, ∃ h : q < s.size, s[q]'h = c ∧ J.skip (s.data.toList.drop p) = c :: s.data.toList.drop (q + 1) ∧ B = c.toNat := by
    rcases hN with ⟨_, _, h0⟩ | h
    · omega
    · exact h
  have hcr : s.data.toList.drop q = c :: s.data.toList.drop (q + 1) := by rw [hsk, hcs]
  clear hN
  have hc : c = 116 := UInt8.toNat_inj.1 (show c.toNat = 116 by omega)
  subst hc
  have HRV : Hid (RES = J.on (fun _ => ⟨2, true, 0, ⟨#[]⟩, .nil, []⟩) (J.word [116, 114, 117, 101] (s.data.toList.drop q))) := by show _ = _; rw [← hRES, J.val_cons d hcs, ← hcr]; rfl
  clear hcs hcr hsk hcb hqc
  have t_n : ((B : Int) == 110) = false := beq_eq_false_iff_ne.2 (by omega)
  have t_t : ((B : Int) == 116) = true := by rw [beq_iff_eq]; omega
  clear hBv
  have HRS := hid hRES
  go_enter Tryz.func26, Tryz.ntmps26
  go_upto_region 1 with fail
  obtain ⟨w3, hw3⟩ : ∃ w3, ((w.alloc (.cells #[.pointer (some ⟨R, 0, none⟩)] 54)).alloc (.cells #[.int .i64 deep] 3)).alloc (.cells #[.int .u8 0, .bool false, .int .i64 0, .string ⟨#[]⟩, .slice none 0 0, .slice none 0 0] 25) = w3 := ⟨_, rfl⟩
  have HB3 : Hid (Bx w.heap.size R deep 0 (.slice none 0 0) (.slice none 0 0) w3) := by
    show Bx _ _ _ _ _ _ _
    rw [← hw3]
    refine ⟨?_, ?_, ?_⟩
    · rw [Lib.alloc_old _ _ _ (by simp; omega), Lib.alloc_old _ _ _ (by simp)]; exact heap_alloc_new w _
    · rw [Lib.alloc_old _ _ _ (by simp)]
      have := heap_alloc_new (w.alloc (.cells #[.pointer (some ⟨R, 0, none⟩)] 54)) (.cells #[.int .i64 deep] 3)
      simpa using this
    · have := heap_alloc_new ((w.alloc (.cells #[.pointer (some ⟨R, 0, none⟩)] 54)).alloc (.cells #[.int .i64 deep] 3)) (.cells #[.int .u8 0, .bool false, .int .i64 0, .string ⟨#[]⟩, .slice none 0 0, .slice none 0 0] 25)
      rw [show ((w.alloc (.cells #[.pointer (some ⟨R, 0, none⟩)] 54)).alloc (.cells #[.int .i64 deep] 3)).heap.size = w.heap.size + 2 by simp] at this
      exact this
  have HR3 : Hid (Rdr w R s p 0 0 w3) := by
    show Rdr _ _ _ _ _ _ _
    rw [← hw3]; exact ((hR.alloc _).alloc _).alloc _
  rw [hw3]
  have H33 : Hid (w3.heap.size = w.heap.size + 3) := by show _ = _; rw [← hw3]; simp
  clear hw3 hR hRES
  have b0 := cell_of_one HB3.out.r
  have cN := next_own HR3.out hp (by omega)
  rw [hq, hB] at cN
  clear hq
  go_wp2_with fail
  refine cN.mono ?_
  rintro e w4 ⟨rfl, hr, hg⟩
  have HR4 := hid hr
  have HB4 := hid (HB3.out.kept hg hlt)
  have H43 : Hid (w.heap.size + 3 ≤ w4.heap.size) := by show _ ≤ _; have := H33.out; have := hg.size; omega
  clear hr hg cN HB3 HR3 b0 H33
  have b0 := cell_of_one HB4.out.r
  have b1 := cell_of_one HB4.out.d
  go_upto_region 5 with fail
  refine wp_region_till (S := (fun w' : World => Bx w.heap.size R deep 0 (.slice none 0 0) (.slice none 0 0) w')) 7 (by kernel_rfl) ?_
  have HS := hid (show ((fun w' : World => Bx w.heap.size R deep 0 (.slice none 0 0) (.slice none 0 0) w')) _ from HB4.out.drew)
  refine wpTill_any 0 (oi := ?oi6) (v := ?v6) ?ho6 (by kernel_rfl) (by kernel_rfl) (by kernel_rfl) (by kernel_rfl) ?hq6 (Or.inl ⟨?hw6, ?hy6⟩) (fun _ => HS.out) ?rest6
  case ho6 => simp only [List.getElem?_toArray, List.getElem?_cons_zero]; rfl
  case hw6 => rfl
  case hy6 => intro w; go_simp; try with_reducible rfl
  case hq6 => exact fun _ _ _ h => h
  try simp only [Act.put, List.setIfInBounds_toArray, List.set_cons_zero, List.set_cons_succ]
  refine wpTill_any 1 (oi := ?oi7) (v := ?v7) ?ho7 (by kernel_rfl) (by kernel_rfl) (by kernel_rfl) (by kernel_rfl) ?hq7 (Or.inl ⟨?hw7, ?hy7⟩) (fun _ => HS.out) ?rest7
  case ho7 => simp only [List.getElem?_toArray, List.getElem?_cons_succ, List.getElem?_cons_zero]; rfl
  case hw7 => rfl
  case hy7 => intro w; go_simp; try with_reducible rfl
  case hq7 => exact fun _ _ _ h => h
  try simp only [Act.put, List.setIfInBounds_toArray, List.set_cons_zero, List.set_cons_succ]
  refine wpTill_any 4 (oi := ?oi8) (v := ?v8) ?ho8 (by kernel_rfl) (by kernel_rfl) (by kernel_rfl) (by kernel_rfl) ?hq8 (Or.inl ⟨?hw8, ?hy8⟩) (fun _ => HS.out) ?rest8
  case ho8 => simp only [List.getElem?_toArray, List.getElem?_cons_succ, List.getElem?_cons_zero]; rfl
  case hw8 => rfl
  case hy8 => intro w; go_simp; try with_reducible rfl
  case hq8 => exact fun _ _ _ h => h
  try simp only [Act.put, List.setIfInBounds_toArray, List.set_cons_zero, List.set_cons_succ]
  refine wpTill_any 5 (oi := ?oi9) (v := ?v9) ?ho9 (by kernel_rfl) (by kernel_rfl) (by kernel_rfl) (by kernel_rfl) ?hq9 (Or.inl ⟨?hw9, ?hy9⟩) (fun _ => HS.out) ?rest9
  case ho9 => simp only [List.getElem?_toArray, List.getElem?_cons_succ, List.getElem?_cons_zero]; rfl
  case hw9 => rfl
  case hy9 => intro w; go_simp; try with_reducible rfl
  case hq9 => exact fun _ _ _ h => h
  try simp only [Act.put, List.setIfInBounds_toArray, List.set_cons_zero, List.set_cons_succ]
  refine wpTill_load 3 [3, 7] (oi := ?oi10) (v := ?v10) ?ho10 (by kernel_rfl) (by kernel_rfl) (by kernel_rfl) (by kernel_rfl) ?hq10 (Or.inl ⟨?hw10, ?hy10⟩) HS.out ?rest10
  case ho10 => simp only [List.getElem?_toArray, List.getElem?_cons_succ, List.getElem?_cons_zero]; rfl
  case hw10 => rfl
  case hy10 =>
    intro w hSw
    have b0 := cell_of_one hSw.r
    clear hSw
    go_simp
    try with_reducible rfl
  case hq10 => exact fun _ _ _ h => h
  try simp only [Act.put, List.setIfInBounds_toArray, List.set_cons_zero, List.set_cons_succ]
  refine wpTill_ready (rs := [2]) (by kernel_rfl) (by decide) ?_
  refine AllTill.consH (o := ?oi11) ?ho11 (fun K hK => ?step11) ?more11
  case ho11 => simp only [List.getElem?_toArray, List.getElem?_cons_succ, List.getElem?_cons_zero]; rfl
  case step11 =>
    go_simp
    refine (yes_any true _).mono ?_
    rintro e wA ⟨rfl, hbA⟩
    have HBA := hid (Bx.after HB4.out (from_drew hbA))
    have HRA := hid (Rdr.below HR4.out (from_drew hbA))
    clear hbA
    try dsimp only
    refine hK.out _ _ (fun _ => HBA.out) (fun hHeld => ?_)
    have HS11 := hid (hHeld (by kernel_rfl))
    clear hHeld hK K
    try simp only [Act.put, List.setIfInBounds_toArray, List.set_cons_zero, List.set_cons_succ]
    refine wpTill_ready (rs := [6]) (by kernel_rfl) (by decide) ?_
    refine AllTill.consH (o := ?oi12) ?ho12 (fun K hK => ?step12) ?more12
    case ho12 => simp only [List.getElem?_toArray, List.getElem?_cons_succ, List.getElem?_cons_zero]; rfl
    case step12 =>
      go_simp
      refine (Tryz.strconv_FormatBool _ _).mono ?_
      rintro e wC ⟨rfl, hwC⟩
      obtain rfl : wC = wA := hwC
      try dsimp only
      refine hK.out _ _ (fun _ => HBA.out) (fun hHeld => ?_)
      have HS12 := hid (hHeld (by kernel_rfl))
      clear hHeld hK K
      try simp only [Act.put, List.setIfInBounds_toArray, List.set_cons_zero, List.set_cons_succ]
      refine wpTill_ready (rs := [7]) (by kernel_rfl) (by decide) ?_
      refine AllTill.consH (o := ?oi13) ?ho13 (fun K hK => ?step13) ?more13
      case ho13 => simp only [List.getElem?_toArray, List.getElem?_cons_succ, List.getElem?_cons_zero]; rfl
      case step13 =>
        go_simp
        refine (word_any ⟨#[116, 114, 117, 101]⟩ HRA.out.own hqs (by omega) (by decide)).mono ?_
        intro e w6 hen
        obtain ⟨bo, rfl, hpar, hg6⟩ := took_parts hen
        have HP := hid hpar
        have HB6 := hid (HBA.out.kept hg6 hlt)
        clear hpar hg6 hen
        obtain ⟨v0, v1, v2, v3, v4, v5⟩ := vcells HB6.out.v
        obtain ⟨f0, f1, f2, f3, f4, f5⟩ := vfree HB6.out.v
        try dsimp only
        refine hK.out _ _ (fun hk => by cases (show true = false from hk)) (fun _ => ?_)
        clear hK K
        try simp only [Act.put, List.setIfInBounds_toArray, List.set_cons_zero, List.set_cons_succ]
        refine wpTill_ready (rs := [8]) (by kernel_rfl) (by decide) ?_
        refine AllTill.consH (o := ?oi14) ?ho14 (fun K hK => ?step14) ?more14
        case ho14 => simp only [List.getElem?_toArray, List.getElem?_cons_succ, List.getElem?_cons_zero]; rfl
        case step14 =>
          go_simp
          refine hK.out _ _ (fun hk => by cases (show true = false from hk)) (fun _ => ?_)
          clear hK K
          try simp only [Act.put, List.setIfInBounds_toArray, List.set_cons_zero, List.set_cons_succ]
          refine wpTill_any 9 (oi := ?oi15) (v := ?v15) ?ho15 (by kernel_rfl) (by kernel_rfl) (by kernel_rfl) (by kernel_rfl) ?hq15 (Or.inl ⟨?hw15, ?hy15⟩) (fun hk => by cases (show true = false from hk)) ?rest15
          case ho15 => simp only [List.getElem?_toArray, List.getElem?_cons_succ, List.getElem?_cons_zero]; rfl
          case hw15 => rfl
          case hy15 => intro w; go_simp; try with_reducible rfl
          case hq15 => exact fun _ _ _ h => h
          try simp only [Act.put, List.setIfInBounds_toArray, List.set_cons_zero, List.set_cons_succ]
          refine wpTill_done (by kernel_rfl) ?_ _
          go_wp2_with fail
          exact bodyPost_ret (v := .tuple #[.agg #[.int .u8 2, .bool true, .int .i64 0, .string ⟨#[]⟩, .slice none 0 0, .slice none 0 0], .bool bo]) (results_pair rfl _ _ (w.heap.size + 2) 25 #[.int .u8 2, .bool true, .int .i64 0, .string ⟨#[]⟩, .slice none 0 0, .slice none 0 0] (0, 0) _ (.bool bo) rfl (pt6_row HB6.out.v _ _ _ _ _ _) rfl Tryz.underlying25 rfl infoJSON) rfl (val_word HRA.out HP.out HRV.out (pt6_below (Below.refl _ _) (by omega) _ _ _ _ _ _))
        case more14 =>
          exact AllTill.nil
      case more13 =>
        exact AllTill.nil
    case more12 =>
      exact AllTill.nil
  case more11 =>
    exact AllTill.nil
set_option maxRecDepth 100000 in
set_option maxHeartbeats 4000000 in
theorem value_false {G R : Nat} {s : ByteArray} {d deep : Nat} (_hGR : G ≤ R) (hs : s.size ≤ 1000000000000) (p : Nat) (w : World) (hR : Rdr w R s p 0 0 w) (hp : p ≤ s.size) (_hG : Ground G w) (hB0 : J.nextB s p = 102) :
    Calls Tryz.prog 26 #[.pointer (some ⟨R, 0, none⟩), .int .i64 deep] w (ValOf w R s (J.val d (s.data.toList.drop p))) := by
  have hlt := hR.lt
  obtain ⟨RES, hRES⟩ : ∃ x, J.val d (s.data.toList.drop p) = x := ⟨_, rfl⟩
  rw [hRES]
  obtain ⟨q, hq⟩ : ∃ q, J.nextP s p = q := ⟨_, rfl⟩
  have hqs : q ≤ s.size := by rw [← hq]; exact J.nextP_le s p
  have hsk := J.nextP_drop s p
  have hN := next_cases s p
  obtain ⟨B, hB⟩ : ∃ B, J.nextB s p = B := ⟨_, rfl⟩
  rw [hq] at hN hsk
  rw [hB] at hN
  have hBv : B = 102 := by rw [← hB]; exact hB0
  clear hB0
  obtain ⟨c, hqlt, hqc, hcs, hcb⟩ : ∃ c, ∃ h : q < s.size, s[q]'h = c ∧ J.skip (s.data.toList.drop p) = c :: s.data.toList.drop (q + 1) ∧ B = c.toNat := by
    rcases hN with ⟨_, _, h0⟩ | h
    · omega
    · exact h
  have hcr : s.data.toList.drop q = c :: s.data.toList.drop (q + 1) := by rw [hsk, hcs]
  clear hN
  have hc : c = 102 := UInt8.toNat_inj.1 (show c.toNat = 102 by omega)
  subst hc
  have HRV : Hid (RES = J.on (fun _ => ⟨2, false, 0, ⟨#[]⟩, .nil, []⟩) (J.word [102, 97, 108, 115, 101] (s.data.toList.drop q))) := by show _ = _; rw [← hRES, J.val_cons d hcs, ← hcr]; rfl
  clear hcs hcr hsk hcb hqc
  have t_n : ((B : Int) == 110) = false := beq_eq_false_iff_ne.2 (by omega)
  have t_t : ((B : Int) == 116) = false := beq_eq_false_iff_ne.2 (by omega)
  have t_f : ((B : Int) == 102) = true := by rw [beq_iff_eq]; omega
  clear hBv
  have HRS := hid hRES
  go_enter Tryz.func26, Tryz.ntmps26
  go_upto_region 1 with fail
  obtain ⟨w3, hw3⟩ : ∃ w3, ((w.alloc (.cells #[.pointer (some ⟨R, 0, none⟩)] 54)).alloc (.cells #[.int .i64 deep] 3)).alloc (.cells #[.int .u8 0, .bool false, .int .i64 0, .string ⟨#[]⟩, .slice none 0 0, .slice none 0 0] 25) = w3 := ⟨_, rfl⟩
  have HB3 : Hid (Bx w.heap.size R deep 0 (.slice none 0 0) (.slice none 0 0) w3) := by
    show Bx _ _ _ _ _ _ _
    rw [← hw3]
    refine ⟨?_, ?_, ?_⟩
    · rw [Lib.alloc_old _ _ _ (by simp; omega), Lib.alloc_old _ _ _ (by simp)]; exact heap_alloc_new w _
    · rw [Lib.alloc_old _ _ _ (by simp)]
      have := heap_alloc_new (w.alloc (.cells #[.pointer (some ⟨R, 0, none⟩)] 54)) (.cells #[.int .i64 deep] 3)
      simpa using this
    · have := heap_alloc_new ((w.alloc (.cells #[.pointer (some ⟨R, 0, none⟩)] 54)).alloc (.cells #[.int .i64 deep] 3)) (.cells #[.int .u8 0, .bool false, .int .i64 0, .string ⟨#[]⟩, .slice none 0 0, .slice none 0 0] 25)
      rw [show ((w.alloc (.cells #[.pointer (some ⟨R, 0, none⟩)] 54)).alloc (.cells #[.int .i64 deep] 3)).heap.size = w.heap.size + 2 by simp] at this
      exact this
  have HR3 : Hid (Rdr w R s p 0 0 w3) := by
    show Rdr _ _ _ _ _ _ _
    rw [← hw3]; exact ((hR.alloc _).alloc _).alloc _
  rw [hw3]
  have H33 : Hid (w3.heap.size = w.heap.size + 3) := by show _ = _; rw [← hw3]; simp
  clear hw3 hR hRES
  have b0 := cell_of_one HB3.out.r
  have cN := next_own HR3.out hp (by omega)
  rw [hq, hB] at cN
  clear hq
  go_wp2_with fail
  refine cN.mono ?_
  rintro e w4 ⟨rfl, hr, hg⟩
  have HR4 := hid hr
  have HB4 := hid (HB3.out.kept hg hlt)
  have H43 : Hid (w.heap.size + 3 ≤ w4.heap.size) := by show _ ≤ _; have := H33.out; have := hg.size; omega
  clear hr hg cN HB3 HR3 b0 H33
  have b0 := cell_of_one HB4.out.r
  have b1 := cell_of_one HB4.out.d
  go_upto_region 5 with fail
  refine wp_region_till (S := (fun w' : World => Bx w.heap.size R deep 0 (.slice none 0 0) (.slice none 0 0) w')) 7 (by kernel_rfl) ?_
  have HS := hid (show ((fun w' : World => Bx w.heap.size R deep 0 (.slice none 0 0) (.slice none 0 0) w')) _ from HB4.out.drew)
  refine wpTill_any 0 (oi := ?oi16) (v := ?v16) ?ho16 (by kernel_rfl) (by kernel_rfl) (by kernel_rfl) (by kernel_rfl) ?hq16 (Or.inl ⟨?hw16, ?hy16⟩) (fun _ => HS.out) ?rest16
  case ho16 => simp only [List.getElem?_toArray, List.getElem?_cons_zero]; rfl
  case hw16 => rfl
  case hy16 => intro w; go_simp; try with_reducible rfl
  case hq16 => exact fun _ _ _ h => h
  try simp only [Act.put, List.setIfInBounds_toArray, List.set_cons_zero, List.set_cons_succ]
  refine wpTill_any 1 (oi := ?oi17) (v := ?v17) ?ho17 (by kernel_rfl) (by kernel_rfl) (by kernel_rfl) (by kernel_rfl) ?hq17 (Or.inl ⟨?hw17, ?hy17⟩) (fun _ => HS.out) ?rest17
  case ho17 => simp only [List.getElem?_toArray, List.getElem?_cons_succ, List.getElem?_cons_zero]; rfl
  case hw17 => rfl
  case hy17 => intro w; go_simp; try with_reducible rfl
  case hq17 => exact fun _ _ _ h => h
  try simp only [Act.put, List.setIfInBounds_toArray, List.set_cons_zero, List.set_cons_succ]
  refine wpTill_any 4 (oi := ?oi18) (v := ?v18) ?ho18 (by kernel_rfl) (by kernel_rfl) (by kernel_rfl) (by kernel_rfl) ?hq18 (Or.inl ⟨?hw18, ?hy18⟩) (fun _ => HS.out) ?rest18
  case ho18 => simp only [List.getElem?_toArray, List.getElem?_cons_succ, List.getElem?_cons_zero]; rfl
  case hw18 => rfl
  case hy18 => intro w; go_simp; try with_reducible rfl
  case hq18 => exact fun _ _ _ h => h
  try simp only [Act.put, List.setIfInBounds_toArray, List.set_cons_zero, List.set_cons_succ]
  refine wpTill_any 5 (oi := ?oi19) (v := ?v19) ?ho19 (by kernel_rfl) (by kernel_rfl) (by kernel_rfl) (by kernel_rfl) ?hq19 (Or.inl ⟨?hw19, ?hy19⟩) (fun _ => HS.out) ?rest19
  case ho19 => simp only [List.getElem?_toArray, List.getElem?_cons_succ, List.getElem?_cons_zero]; rfl
  case hw19 => rfl
  case hy19 => intro w; go_simp; try with_reducible rfl
  case hq19 => exact fun _ _ _ h => h
  try simp only [Act.put, List.setIfInBounds_toArray, List.set_cons_zero, List.set_cons_succ]
  refine wpTill_load 3 [3, 7] (oi := ?oi20) (v := ?v20) ?ho20 (by kernel_rfl) (by kernel_rfl) (by kernel_rfl) (by kernel_rfl) ?hq20 (Or.inl ⟨?hw20, ?hy20⟩) HS.out ?rest20
  case ho20 => simp only [List.getElem?_toArray, List.getElem?_cons_succ, List.getElem?_cons_zero]; rfl
  case hw20 => rfl
  case hy20 =>
    intro w hSw
    have b0 := cell_of_one hSw.r
    clear hSw
    go_simp
    try with_reducible rfl
  case hq20 => exact fun _ _ _ h => h
  try simp only [Act.put, List.setIfInBounds_toArray, List.set_cons_zero, List.set_cons_succ]
  refine wpTill_ready (rs := [2]) (by kernel_rfl) (by decide) ?_
  refine AllTill.consH (o := ?oi21) ?ho21 (fun K hK => ?step21) ?more21
  case ho21 => simp only [List.getElem?_toArray, List.getElem?_cons_succ, List.getElem?_cons_zero]; rfl
  case step21 =>
    go_simp
    refine (yes_any false _).mono ?_
    rintro e wA ⟨rfl, hbA⟩
    have HBA := hid (Bx.after HB4.out (from_drew hbA))
    have HRA := hid (Rdr.below HR4.out (from_drew hbA))
    clear hbA
    try dsimp only
    refine hK.out _ _ (fun _ => HBA.out) (fun hHeld => ?_)
    have HS21 := hid (hHeld (by kernel_rfl))
    clear hHeld hK K
    try simp only [Act.put, List.setIfInBounds_toArray, List.set_cons_zero, List.set_cons_succ]
    refine wpTill_ready (rs := [6]) (by kernel_rfl) (by decide) ?_
    refine AllTill.consH (o := ?oi22) ?ho22 (fun K hK => ?step22) ?more22
    case ho22 => simp only [List.getElem?_toArray, List.getElem?_cons_succ, List.getElem?_cons_zero]; rfl
    case step22 =>
      go_simp
      refine (Tryz.strconv_FormatBool _ _).mono ?_
      rintro e wC ⟨rfl, hwC⟩
      obtain rfl : wC = wA := hwC
      try dsimp only
      refine hK.out _ _ (fun _ => HBA.out) (fun hHeld => ?_)
      have HS22 := hid (hHeld (by kernel_rfl))
      clear hHeld hK K
      try simp only [Act.put, List.setIfInBounds_toArray, List.set_cons_zero, List.set_cons_succ]
      refine wpTill_ready (rs := [7]) (by kernel_rfl) (by decide) ?_
      refine AllTill.consH (o := ?oi23) ?ho23 (fun K hK => ?step23) ?more23
      case ho23 => simp only [List.getElem?_toArray, List.getElem?_cons_succ, List.getElem?_cons_zero]; rfl
      case step23 =>
        go_simp
        refine (word_any ⟨#[102, 97, 108, 115, 101]⟩ HRA.out.own hqs (by omega) (by decide)).mono ?_
        intro e w6 hen
        obtain ⟨bo, rfl, hpar, hg6⟩ := took_parts hen
        have HP := hid hpar
        have HB6 := hid (HBA.out.kept hg6 hlt)
        clear hpar hg6 hen
        obtain ⟨v0, v1, v2, v3, v4, v5⟩ := vcells HB6.out.v
        obtain ⟨f0, f1, f2, f3, f4, f5⟩ := vfree HB6.out.v
        try dsimp only
        refine hK.out _ _ (fun hk => by cases (show true = false from hk)) (fun _ => ?_)
        clear hK K
        try simp only [Act.put, List.setIfInBounds_toArray, List.set_cons_zero, List.set_cons_succ]
        refine wpTill_ready (rs := [8]) (by kernel_rfl) (by decide) ?_
        refine AllTill.consH (o := ?oi24) ?ho24 (fun K hK => ?step24) ?more24
        case ho24 => simp only [List.getElem?_toArray, List.getElem?_cons_succ, List.getElem?_cons_zero]; rfl
        case step24 =>
          go_simp
          refine hK.out _ _ (fun hk => by cases (show true = false from hk)) (fun _ => ?_)
          clear hK K
          try simp only [Act.put, List.setIfInBounds_toArray, List.set_cons_zero, List.set_cons_succ]
          refine wpTill_any 9 (oi := ?oi25) (v := ?v25) ?ho25 (by kernel_rfl) (by kernel_rfl) (by kernel_rfl) (by kernel_rfl) ?hq25 (Or.inl ⟨?hw25, ?hy25⟩) (fun hk => by cases (show true = false from hk)) ?rest25
          case ho25 => simp only [List.getElem?_toArray, List.getElem?_cons_succ, List.getElem?_cons_zero]; rfl
          case hw25 => rfl
          case hy25 => intro w; go_simp; try with_reducible rfl
          case hq25 => exact fun _ _ _ h => h
          try simp only [Act.put, List.setIfInBounds_toArray, List.set_cons_zero, List.set_cons_succ]
          refine wpTill_done (by kernel_rfl) ?_ _
          go_wp2_with fail
          exact bodyPost_ret (v := .tuple #[.agg #[.int .u8 2, .bool false, .int .i64 0, .string ⟨#[]⟩, .slice none 0 0, .slice none 0 0], .bool bo]) (results_pair rfl _ _ (w.heap.size + 2) 25 #[.int .u8 2, .bool false, .int .i64 0, .string ⟨#[]⟩, .slice none 0 0, .slice none 0 0] (0, 0) _ (.bool bo) rfl (pt6_row HB6.out.v _ _ _ _ _ _) rfl Tryz.underlying25 rfl infoJSON) rfl (val_word HRA.out HP.out HRV.out (pt6_below (Below.refl _ _) (by omega) _ _ _ _ _ _))
        case more24 =>
          exact AllTill.nil
      case more23 =>
        exact AllTill.nil
    case more22 =>
      exact AllTill.nil
  case more21 =>
    exact AllTill.nil
theorem val_num_end {W0 w W : World} {R q q5 : Nat} {s : ByteArray} {x : J.Res J.V} {l : List UInt8} {u er x5 : Int} (h0 : Rdr W0 R s q 0 0 w) (h : Rdr w R s q5 er x5 W) (hp : (er = 0 ∧ x5 = 0 ∧ ∃ r, J.num l = .ok (u, r) ∧ q5 = s.size - r.length) ∨ (er ≠ 0 ∧ q5 ≤ s.size ∧ ∃ n, J.num l = .error (n, er) ∧ x5 = ((s.size - n : Nat) : Int)))
    (hx : x = J.on (fun n => ⟨3, false, n, ⟨#[]⟩, .nil, []⟩) (J.num l)) {WF : World} (hF : Below W0.heap.size W WF) : ValOf W0 R s x (.returned (.tuple #[.agg #[.int .u8 3, .bool false, .int .i64 u, .string ⟨#[]⟩, .slice none 0 0, .slice none 0 0], .bool (er == 0)])) WF := by
  rcases hp with ⟨rfl, rfl, r, h1, rfl⟩ | ⟨hne, h2, n, h1, rfl⟩
  · exact val_ok (k := 3) (by rw [hx, h1]; rfl) (h0.trans h) hF
  · rw [show (er == 0) = false from beq_eq_false_iff_ne.2 hne]
    exact val_err (cs := [.int .u8 3, .bool false, .int .i64 u, .string ⟨#[]⟩, .slice none 0 0, .slice none 0 0]) ⟨_, _, _, _, _, _, _, _, _, _, rfl⟩ (by rw [hx, h1]; rfl) h2 (h0.trans h) hF
theorem val_text_end {W0 w W : World} {R q : Nat} {s : ByteArray} {x : J.Res J.V} {y : J.Res (List UInt8)} {t : ByteArray} {bo : Bool} (h0 : Rdr W0 R s q 0 0 w) (hp : (bo = true ∧ ∃ r l, t = ⟨l.toArray⟩ ∧ y = .ok (l, r) ∧ Rdr w R s (s.size - r.length) 0 0 W) ∨ (bo = false ∧ ∃ n er q, y = .error (n, er) ∧ q ≤ s.size ∧ Rdr w R s q er ((s.size - n : Nat) : Int) W))
    (hx : x = J.on (fun t => ⟨4, false, 0, ⟨t.toArray⟩, .nil, []⟩) y) {WF : World} (hF : Below W0.heap.size W WF) : ValOf W0 R s x (.returned (.tuple #[.agg #[.int .u8 4, .bool false, .int .i64 0, .string t, .slice none 0 0, .slice none 0 0], .bool bo])) WF := by
  rcases hp with ⟨rfl, r, l, rfl, h1, h2⟩ | ⟨rfl, n, er, q', h1, h2, h3⟩
  · exact val_ok (k := 4) (by rw [hx, h1]; rfl) (h0.trans h2) hF
  · exact val_err (cs := [.int .u8 4, .bool false, .int .i64 0, .string t, .slice none 0 0, .slice none 0 0]) ⟨_, _, _, _, _, _, _, _, _, _, rfl⟩ (by rw [hx, h1]; rfl) h2 (h0.trans h3) hF
set_option maxRecDepth 100000 in
set_option maxHeartbeats 4000000 in
theorem value_neg {G R : Nat} {s : ByteArray} {d deep : Nat} (hGR : G ≤ R) (hs : s.size ≤ 1000000000000) (p : Nat) (w : World) (hR : Rdr w R s p 0 0 w) (hp : p ≤ s.size) (hG : Ground G w) (hB0 : J.nextB s p = 45) :
    Calls Tryz.prog 26 #[.pointer (some ⟨R, 0, none⟩), .int .i64 deep] w (ValOf w R s (J.val d (s.data.toList.drop p))) := by
  have hlt := hR.lt
  obtain ⟨RES, hRES⟩ : ∃ x, J.val d (s.data.toList.drop p) = x := ⟨_, rfl⟩
  rw [hRES]
  obtain ⟨q, hq⟩ : ∃ q, J.nextP s p = q := ⟨_, rfl⟩
  have hqs : q ≤ s.size := by rw [← hq]; exact J.nextP_le s p
  have hsk := J.nextP_drop s p
  have hN := next_cases s p
  obtain ⟨B, hB⟩ : ∃ B, J.nextB s p = B := ⟨_, rfl⟩
  rw [hq] at hN hsk
  rw [hB] at hN
  have hBv : B = 45 := by rw [← hB]; exact hB0
  clear hB0
  obtain ⟨c, hqlt, hqc, hcs, hcb⟩ : ∃ c, ∃ h : q < s.size, s[q]'h = c ∧ J.skip (s.data.toList.drop p) = c :: s.data.toList.drop (q + 1) ∧ B = c.toNat := by
    rcases hN with ⟨_, _, h0⟩ | h
    · omega
    · exact h
  have hcr : s.data.toList.drop q = c :: s.data.toList.drop (q + 1) := by rw [hsk, hcs]
  clear hN
  have HRV : Hid (RES = J.on (fun n => ⟨3, false, n, ⟨#[]⟩, .nil, []⟩) (J.num (s.data.toList.drop q))) := by show _ = _; rw [← hRES, J.val_num d hcs (Or.inl (UInt8.toNat_inj.1 (show c.toNat = 45 by omega))), ← hcr]
  clear hcs hcr hsk hqc
  have t_n : ((B : Int) == 110) = false := beq_eq_false_iff_ne.2 (by omega)
  have t_t : ((B : Int) == 116) = false := beq_eq_false_iff_ne.2 (by omega)
  have t_f : ((B : Int) == 102) = false := beq_eq_false_iff_ne.2 (by omega)
  have t_m : ((B : Int) == 45) = true := by rw [beq_iff_eq]; omega
  clear hBv hcb
  have HRS := hid hRES
  go_enter Tryz.func26, Tryz.ntmps26
  go_upto_region 1 with fail
  obtain ⟨w3, hw3⟩ : ∃ w3, ((w.alloc (.cells #[.pointer (some ⟨R, 0, none⟩)] 54)).alloc (.cells #[.int .i64 deep] 3)).alloc (.cells #[.int .u8 0, .bool false, .int .i64 0, .string ⟨#[]⟩, .slice none 0 0, .slice none 0 0] 25) = w3 := ⟨_, rfl⟩
  have HB3 : Hid (Bx w.heap.size R deep 0 (.slice none 0 0) (.slice none 0 0) w3) := by
    show Bx _ _ _ _ _ _ _
    rw [← hw3]
    refine ⟨?_, ?_, ?_⟩
    · rw [Lib.alloc_old _ _ _ (by simp; omega), Lib.alloc_old _ _ _ (by simp)]; exact heap_alloc_new w _
    · rw [Lib.alloc_old _ _ _ (by simp)]
      have := heap_alloc_new (w.alloc (.cells #[.pointer (some ⟨R, 0, none⟩)] 54)) (.cells #[.int .i64 deep] 3)
      simpa using this
    · have := heap_alloc_new ((w.alloc (.cells #[.pointer (some ⟨R, 0, none⟩)] 54)).alloc (.cells #[.int .i64 deep] 3)) (.cells #[.int .u8 0, .bool false, .int .i64 0, .string ⟨#[]⟩, .slice none 0 0, .slice none 0 0] 25)
      rw [show ((w.alloc (.cells #[.pointer (some ⟨R, 0, none⟩)] 54)).alloc (.cells #[.int .i64 deep] 3)).heap.size = w.heap.size + 2 by simp] at this
      exact this
  have HR3 : Hid (Rdr w R s p 0 0 w3) := by
    show Rdr _ _ _ _ _ _ _
    rw [← hw3]; exact ((hR.alloc _).alloc _).alloc _
  rw [hw3]
  have H33 : Hid (w3.heap.size = w.heap.size + 3) := by show _ = _; rw [← hw3]; simp
  clear hw3 hR hRES
  have b0 := cell_of_one HB3.out.r
  have cN := next_own HR3.out hp (by omega)
  rw [hq, hB] at cN
  clear hq
  go_wp2_with fail
  refine cN.mono ?_
  rintro e w4 ⟨rfl, hr, hg⟩
  have HR4 := hid hr
  have HB4 := hid (HB3.out.kept hg hlt)
  have H43 : Hid (w.heap.size + 3 ≤ w4.heap.size) := by show _ ≤ _; have := H33.out; have := hg.size; omega
  clear hr hg cN HB3 HR3 b0 H33
  have b0 := cell_of_one HB4.out.r
  have b1 := cell_of_one HB4.out.d
  have cM := number_any HR4.out.own hqlt (by omega) (hG.keep (HR4.out.base hGR)) hGR
  go_wp2_with fail
  refine cM.mono ?_
  intro e w5 hen
  obtain ⟨u, q5, er, x5, rfl, hr5, hg5, hpar⟩ := took_num hen
  have HR5 := hid hr5
  have HB5 := hid (HB4.out.kept hg5 hlt)
  have HP := hid hpar
  clear hen hr5 hg5 hpar cM b0 b1
  go_upto_region 8 with fail
  refine wp_region_till (S := (fun w' : World => Bx w.heap.size R deep 0 (.slice none 0 0) (.slice none 0 0) w' ∧ w'.heap[R]? = some (rdRow s q5 er x5))) 7 (by kernel_rfl) ?_
  have HS := hid (show ((fun w' : World => Bx w.heap.size R deep 0 (.slice none 0 0) (.slice none 0 0) w' ∧ w'.heap[R]? = some (rdRow s q5 er x5))) _ from ⟨HB5.out.drew, HR5.out.r⟩)
  refine wpTill_any 0 (oi := ?oi26) (v := ?v26) ?ho26 (by kernel_rfl) (by kernel_rfl) (by kernel_rfl) (by kernel_rfl) ?hq26 (Or.inl ⟨?hw26, ?hy26⟩) (fun _ => HS.out) ?rest26
  case ho26 => simp only [List.getElem?_toArray, List.getElem?_cons_zero]; rfl
  case hw26 => rfl
  case hy26 => intro w; go_simp; try with_reducible rfl
  case hq26 => exact fun _ _ _ h => h
  try simp only [Act.put, List.setIfInBounds_toArray, List.set_cons_zero, List.set_cons_succ]
  refine wpTill_load 2 [2, 3, 4, 5, 7] (oi := ?oi27) (v := ?v27) ?ho27 (by kernel_rfl) (by kernel_rfl) (by kernel_rfl) (by kernel_rfl) ?hq27 (Or.inl ⟨?hw27, ?hy27⟩) HS.out ?rest27
  case ho27 => simp only [List.getElem?_toArray, List.getElem?_cons_succ, List.getElem?_cons_zero]; rfl
  case hw27 => rfl
  case hy27 =>
    intro w hSw
    have b0 := cell_of_one hSw.1.r
    clear hSw
    go_simp
    try with_reducible rfl
  case hq27 => exact fun _ _ _ h => h
  try simp only [Act.put, List.setIfInBounds_toArray, List.set_cons_zero, List.set_cons_succ]
  refine wpTill_any 3 (oi := ?oi28) (v := ?v28) ?ho28 (by kernel_rfl) (by kernel_rfl) (by kernel_rfl) (by kernel_rfl) ?hq28 (Or.inl ⟨?hw28, ?hy28⟩) (fun _ => HS.out) ?rest28
  case ho28 => simp only [List.getElem?_toArray, List.getElem?_cons_succ, List.getElem?_cons_zero]; rfl
  case hw28 => rfl
  case hy28 => intro w; go_simp; try with_reducible rfl
  case hq28 => exact fun _ _ _ h => h
  try simp only [Act.put, List.setIfInBounds_toArray, List.set_cons_zero, List.set_cons_succ]
  refine wpTill_any 4 (oi := ?oi29) (v := ?v29) ?ho29 (by kernel_rfl) (by kernel_rfl) (by kernel_rfl) (by kernel_rfl) ?hq29 (Or.inl ⟨?hw29, ?hy29⟩) (fun _ => HS.out) ?rest29
  case ho29 => simp only [List.getElem?_toArray, List.getElem?_cons_succ, List.getElem?_cons_zero]; rfl
  case hw29 => rfl
  case hy29 => intro w; go_simp; try with_reducible rfl
  case hq29 => exact fun _ _ _ h => h
  try simp only [Act.put, List.setIfInBounds_toArray, List.set_cons_zero, List.set_cons_succ]
  refine wpTill_load 5 [5, 7] (oi := ?oi30) (v := ?v30) ?ho30 (by kernel_rfl) (by kernel_rfl) (by kernel_rfl) (by kernel_rfl) ?hq30 (Or.inl ⟨?hw30, ?hy30⟩) HS.out ?rest30
  case ho30 => simp only [List.getElem?_toArray, List.getElem?_cons_succ, List.getElem?_cons_zero]; rfl
  case hw30 => rfl
  case hy30 =>
    intro w hSw
    have b2 : w.cell? ⟨R, 2, none⟩ = some (.int .i64 er) := by rw [Lib.cell_of_heap hSw.2]; rfl
    clear hSw
    go_simp
    try with_reducible rfl
  case hq30 => exact fun _ _ _ h => h
  try simp only [Act.put, List.setIfInBounds_toArray, List.set_cons_zero, List.set_cons_succ]
  refine wpTill_any 6 (oi := ?oi31) (v := ?v31) ?ho31 (by kernel_rfl) (by kernel_rfl) (by kernel_rfl) (by kernel_rfl) ?hq31 (Or.inl ⟨?hw31, ?hy31⟩) (fun _ => HS.out) ?rest31
  case ho31 => simp only [List.getElem?_toArray, List.getElem?_cons_succ, List.getElem?_cons_zero]; rfl
  case hw31 => rfl
  case hy31 => intro w; go_simp; try with_reducible rfl
  case hq31 => exact fun _ _ _ h => h
  try simp only [Act.put, List.setIfInBounds_toArray, List.set_cons_zero, List.set_cons_succ]
  refine wpTill_ready (rs := [1]) (by kernel_rfl) (by decide) ?_
  refine AllTill.consH (o := ?oi32) ?ho32 (fun K hK => ?step32) ?more32
  case ho32 => simp only [List.getElem?_toArray, List.getElem?_cons_succ, List.getElem?_cons_zero]; rfl
  case step32 =>
    go_simp
    refine (int_any _ _).mono ?_
    rintro e wA ⟨rfl, hbA⟩
    have HBA := hid (Bx.after HB5.out (from_drew hbA))
    have HRA := hid (Rdr.below HR5.out (from_drew hbA))
    clear hbA
    obtain ⟨v0, v1, v2, v3, v4, v5⟩ := vcells HBA.out.v
    obtain ⟨f0, f1, f2, f3, f4, f5⟩ := vfree HBA.out.v
    try dsimp only
    refine hK.out _ _ (fun _ => ⟨HBA.out, HRA.out.r⟩) (fun hHeld => ?_)
    have HS32 := hid (hHeld (by kernel_rfl))
    clear hHeld hK K
    try simp only [Act.put, List.setIfInBounds_toArray, List.set_cons_zero, List.set_cons_succ]
    refine wpTill_ready (rs := [7]) (by kernel_rfl) (by decide) ?_
    refine AllTill.consH (o := ?oi33) ?ho33 (fun K hK => ?step33) ?more33
    case ho33 => simp only [List.getElem?_toArray, List.getElem?_cons_succ, List.getElem?_cons_zero]; rfl
    case step33 =>
      go_simp
      refine hK.out _ _ (fun hk => by cases (show true = false from hk)) (fun _ => ?_)
      clear hK K
      try simp only [Act.put, List.setIfInBounds_toArray, List.set_cons_zero, List.set_cons_succ]
      refine wpTill_any 8 (oi := ?oi34) (v := ?v34) ?ho34 (by kernel_rfl) (by kernel_rfl) (by kernel_rfl) (by kernel_rfl) ?hq34 (Or.inl ⟨?hw34, ?hy34⟩) (fun hk => by cases (show true = false from hk)) ?rest34
      case ho34 => simp only [List.getElem?_toArray, List.getElem?_cons_succ, List.getElem?_cons_zero]; rfl
      case hw34 => rfl
      case hy34 => intro w; go_simp; try with_reducible rfl
      case hq34 => exact fun _ _ _ h => h
      try simp only [Act.put, List.setIfInBounds_toArray, List.set_cons_zero, List.set_cons_succ]
      refine wpTill_done (by kernel_rfl) ?_ _
      go_wp2_with fail
      exact bodyPost_ret (v := .tuple #[.agg #[.int .u8 3, .bool false, .int .i64 u, .string ⟨#[]⟩, .slice none 0 0, .slice none 0 0], .bool (er == 0)]) (results_pair rfl _ _ (w.heap.size + 2) 25 #[.int .u8 3, .bool false, .int .i64 u, .string ⟨#[]⟩, .slice none 0 0, .slice none 0 0] (0, 0) _ (.bool (er == 0)) rfl (pt6_row HBA.out.v _ _ _ _ _ _) rfl Tryz.underlying25 rfl infoJSON) rfl (val_num_end HR4.out HRA.out HP.out HRV.out (pt6_below (Below.refl _ _) (by omega) _ _ _ _ _ _))
    case more33 =>
      exact AllTill.nil
  case more32 =>
    exact AllTill.nil
set_option maxRecDepth 100000 in
set_option maxHeartbeats 4000000 in
theorem value_dig {G R : Nat} {s : ByteArray} {d deep : Nat} (hGR : G ≤ R) (hs : s.size ≤ 1000000000000) (p : Nat) (w : World) (hR : Rdr w R s p 0 0 w) (hp : p ≤ s.size) (hG : Ground G w) (hB0 : 48 ≤ J.nextB s p ∧ J.nextB s p ≤ 57) :
    Calls Tryz.prog 26 #[.pointer (some ⟨R, 0, none⟩), .int .i64 deep] w (ValOf w R s (J.val d (s.data.toList.drop p))) := by
  have hlt := hR.lt
  obtain ⟨RES, hRES⟩ : ∃ x, J.val d (s.data.toList.drop p) = x := ⟨_, rfl⟩
  rw [hRES]
  obtain ⟨q, hq⟩ : ∃ q, J.nextP s p = q := ⟨_, rfl⟩
  have hqs : q ≤ s.size := by rw [← hq]; exact J.nextP_le s p
  have hsk := J.nextP_drop s p
  have hN := next_cases s p
  obtain ⟨B, hB⟩ : ∃ B, J.nextB s p = B := ⟨_, rfl⟩
  rw [hq] at hN hsk
  rw [hB] at hN
  have hBv : 48 ≤ B ∧ B ≤ 57 := by rw [← hB]; exact hB0
  clear hB0
  obtain ⟨c, hqlt, hqc, hcs, hcb⟩ : ∃ c, ∃ h : q < s.size, s[q]'h = c ∧ J.skip (s.data.toList.drop p) = c :: s.data.toList.drop (q + 1) ∧ B = c.toNat := by
    rcases hN with ⟨_, _, h0⟩ | h
    · omega
    · exact h
  have hcr : s.data.toList.drop q = c :: s.data.toList.drop (q + 1) := by rw [hsk, hcs]
  clear hN
  have HRV : Hid (RES = J.on (fun n => ⟨3, false, n, ⟨#[]⟩, .nil, []⟩) (J.num (s.data.toList.drop q))) := by show _ = _; rw [← hRES, J.val_num d hcs (Or.inr (by simp only [J.dig, decide_eq_true_eq]; omega)), ← hcr]
  clear hcs hcr hsk hqc
  have t_n : ((B : Int) == 110) = false := beq_eq_false_iff_ne.2 (by omega)
  have t_t : ((B : Int) == 116) = false := beq_eq_false_iff_ne.2 (by omega)
  have t_f : ((B : Int) == 102) = false := beq_eq_false_iff_ne.2 (by omega)
  have t_m : ((B : Int) == 45) = false := beq_eq_false_iff_ne.2 (by omega)
  have t_ge : decide ((48 : Int) ≤ (B : Int)) = true := decide_eq_true (by omega)
  have t_le : decide ((B : Int) ≤ 57) = true := decide_eq_true (by omega)
  clear hBv hcb
  have HRS := hid hRES
  go_enter Tryz.func26, Tryz.ntmps26
  go_upto_region 1 with fail
  obtain ⟨w3, hw3⟩ : ∃ w3, ((w.alloc (.cells #[.pointer (some ⟨R, 0, none⟩)] 54)).alloc (.cells #[.int .i64 deep] 3)).alloc (.cells #[.int .u8 0, .bool false, .int .i64 0, .string ⟨#[]⟩, .slice none 0 0, .slice none 0 0] 25) = w3 := ⟨_, rfl⟩
  have HB3 : Hid (Bx w.heap.size R deep 0 (.slice none 0 0) (.slice none 0 0) w3) := by
    show Bx _ _ _ _ _ _ _
    rw [← hw3]
    refine ⟨?_, ?_, ?_⟩
    · rw [Lib.alloc_old _ _ _ (by simp; omega), Lib.alloc_old _ _ _ (by simp)]; exact heap_alloc_new w _
    · rw [Lib.alloc_old _ _ _ (by simp)]
      have := heap_alloc_new (w.alloc (.cells #[.pointer (some ⟨R, 0, none⟩)] 54)) (.cells #[.int .i64 deep] 3)
      simpa using this
    · have := heap_alloc_new ((w.alloc (.cells #[.pointer (some ⟨R, 0, none⟩)] 54)).alloc (.cells #[.int .i64 deep] 3)) (.cells #[.int .u8 0, .bool false, .int .i64 0, .string ⟨#[]⟩, .slice none 0 0, .slice none 0 0] 25)
      rw [show ((w.alloc (.cells #[.pointer (some ⟨R, 0, none⟩)] 54)).alloc (.cells #[.int .i64 deep] 3)).heap.size = w.heap.size + 2 by simp] at this
      exact this
  have HR3 : Hid (Rdr w R s p 0 0 w3) := by
    show Rdr _ _ _ _ _ _ _
    rw [← hw3]; exact ((hR.alloc _).alloc _).alloc _
  rw [hw3]
  have H33 : Hid (w3.heap.size = w.heap.size + 3) := by show _ = _; rw [← hw3]; simp
  clear hw3 hR hRES
  have b0 := cell_of_one HB3.out.r
  have cN := next_own HR3.out hp (by omega)
  rw [hq, hB] at cN
  clear hq
  go_wp2_with fail
  refine cN.mono ?_
  rintro e w4 ⟨rfl, hr, hg⟩
  have HR4 := hid hr
  have HB4 := hid (HB3.out.kept hg hlt)
  have H43 : Hid (w.heap.size + 3 ≤ w4.heap.size) := by show _ ≤ _; have := H33.out; have := hg.size; omega
  clear hr hg cN HB3 HR3 b0 H33
  have b0 := cell_of_one HB4.out.r
  have b1 := cell_of_one HB4.out.d
  have cM := number_any HR4.out.own hqlt (by omega) (hG.keep (HR4.out.base hGR)) hGR
  go_wp2_with fail
  refine cM.mono ?_
  intro e w5 hen
  obtain ⟨u, q5, er, x5, rfl, hr5, hg5, hpar⟩ := took_num hen
  have HR5 := hid hr5
  have HB5 := hid (HB4.out.kept hg5 hlt)
  have HP := hid hpar
  clear hen hr5 hg5 hpar cM b0 b1
  go_upto_region 8 with fail
  refine wp_region_till (S := (fun w' : World => Bx w.heap.size R deep 0 (.slice none 0 0) (.slice none 0 0) w' ∧ w'.heap[R]? = some (rdRow s q5 er x5))) 7 (by kernel_rfl) ?_
  have HS := hid (show ((fun w' : World => Bx w.heap.size R deep 0 (.slice none 0 0) (.slice none 0 0) w' ∧ w'.heap[R]? = some (rdRow s q5 er x5))) _ from ⟨HB5.out.drew, HR5.out.r⟩)
  refine wpTill_any 0 (oi := ?oi35) (v := ?v35) ?ho35 (by kernel_rfl) (by kernel_rfl) (by kernel_rfl) (by kernel_rfl) ?hq35 (Or.inl ⟨?hw35, ?hy35⟩) (fun _ => HS.out) ?rest35
  case ho35 => simp only [List.getElem?_toArray, List.getElem?_cons_zero]; rfl
  case hw35 => rfl
  case hy35 => intro w; go_simp; try with_reducible rfl
  case hq35 => exact fun _ _ _ h => h
  try simp only [Act.put, List.setIfInBounds_toArray, List.set_cons_zero, List.set_cons_succ]
  refine wpTill_load 2 [2, 3, 4, 5, 7] (oi := ?oi36) (v := ?v36) ?ho36 (by kernel_rfl) (by kernel_rfl) (by kernel_rfl) (by kernel_rfl) ?hq36 (Or.inl ⟨?hw36, ?hy36⟩) HS.out ?rest36
  case ho36 => simp only [List.getElem?_toArray, List.getElem?_cons_succ, List.getElem?_cons_zero]; rfl
  case hw36 => rfl
  case hy36 =>
    intro w hSw
    have b0 := cell_of_one hSw.1.r
    clear hSw
    go_simp
    try with_reducible rfl
  case hq36 => exact fun _ _ _ h => h
  try simp only [Act.put, List.setIfInBounds_toArray, List.set_cons_zero, List.set_cons_succ]
  refine wpTill_any 3 (oi := ?oi37) (v := ?v37) ?ho37 (by kernel_rfl) (by kernel_rfl) (by kernel_rfl) (by kernel_rfl) ?hq37 (Or.inl ⟨?hw37, ?hy37⟩) (fun _ => HS.out) ?rest37
  case ho37 => simp only [List.getElem?_toArray, List.getElem?_cons_succ, List.getElem?_cons_zero]; rfl
  case hw37 => rfl
  case hy37 => intro w; go_simp; try with_reducible rfl
  case hq37 => exact fun _ _ _ h => h
  try simp only [Act.put, List.setIfInBounds_toArray, List.set_cons_zero, List.set_cons_succ]
  refine wpTill_any 4 (oi := ?oi38) (v := ?v38) ?ho38 (by kernel_rfl) (by kernel_rfl) (by kernel_rfl) (by kernel_rfl) ?hq38 (Or.inl ⟨?hw38, ?hy38⟩) (fun _ => HS.out) ?rest38
  case ho38 => simp only [List.getElem?_toArray, List.getElem?_cons_succ, List.getElem?_cons_zero]; rfl
  case hw38 => rfl
  case hy38 => intro w; go_simp; try with_reducible rfl
  case hq38 => exact fun _ _ _ h => h
  try simp only [Act.put, List.setIfInBounds_toArray, List.set_cons_zero, List.set_cons_succ]
  refine wpTill_load 5 [5, 7] (oi := ?oi39) (v := ?v39) ?ho39 (by kernel_rfl) (by kernel_rfl) (by kernel_rfl) (by kernel_rfl) ?hq39 (Or.inl ⟨?hw39, ?hy39⟩) HS.out ?rest39
  case ho39 => simp only [List.getElem?_toArray, List.getElem?_cons_succ, List.getElem?_cons_zero]; rfl
  case hw39 => rfl
  case hy39 =>
    intro w hSw
    have b2 : w.cell? ⟨R, 2, none⟩ = some (.int .i64 er) := by rw [Lib.cell_of_heap hSw.2]; rfl
    clear hSw
    go_simp
    try with_reducible rfl
  case hq39 => exact fun _ _ _ h => h
  try simp only [Act.put, List.setIfInBounds_toArray, List.set_cons_zero, List.set_cons_succ]
  refine wpTill_any 6 (oi := ?oi40) (v := ?v40) ?ho40 (by kernel_rfl) (by kernel_rfl) (by kernel_rfl) (by kernel_rfl) ?hq40 (Or.inl ⟨?hw40, ?hy40⟩) (fun _ => HS.out) ?rest40
  case ho40 => simp only [List.getElem?_toArray, List.getElem?_cons_succ, List.getElem?_cons_zero]; rfl
  case hw40 => rfl
  case hy40 => intro w; go_simp; try with_reducible rfl
  case hq40 => exact fun _ _ _ h => h
  try simp only [Act.put, List.setIfInBounds_toArray, List.set_cons_zero, List.set_cons_succ]
  refine wpTill_ready (rs := [1]) (by kernel_rfl) (by decide) ?_
  refine AllTill.consH (o := ?oi41) ?ho41 (fun K hK => ?step41) ?more41
  case ho41 => simp only [List.getElem?_toArray, List.getElem?_cons_succ, List.getElem?_cons_zero]; rfl
  case step41 =>
    go_simp
    refine (int_any _ _).mono ?_
    rintro e wA ⟨rfl, hbA⟩
    have HBA := hid (Bx.after HB5.out (from_drew hbA))
    have HRA := hid (Rdr.below HR5.out (from_drew hbA))
    clear hbA
    obtain ⟨v0, v1, v2, v3, v4, v5⟩ := vcells HBA.out.v
    obtain ⟨f0, f1, f2, f3, f4, f5⟩ := vfree HBA.out.v
    try dsimp only
    refine hK.out _ _ (fun _ => ⟨HBA.out, HRA.out.r⟩) (fun hHeld => ?_)
    have HS41 := hid (hHeld (by kernel_rfl))
    clear hHeld hK K
    try simp only [Act.put, List.setIfInBounds_toArray, List.set_cons_zero, List.set_cons_succ]
    refine wpTill_ready (rs := [7]) (by kernel_rfl) (by decide) ?_
    refine AllTill.consH (o := ?oi42) ?ho42 (fun K hK => ?step42) ?more42
    case ho42 => simp only [List.getElem?_toArray, List.getElem?_cons_succ, List.getElem?_cons_zero]; rfl
    case step42 =>
      go_simp
      refine hK.out _ _ (fun hk => by cases (show true = false from hk)) (fun _ => ?_)
      clear hK K
      try simp only [Act.put, List.setIfInBounds_toArray, List.set_cons_zero, List.set_cons_succ]
      refine wpTill_any 8 (oi := ?oi43) (v := ?v43) ?ho43 (by kernel_rfl) (by kernel_rfl) (by kernel_rfl) (by kernel_rfl) ?hq43 (Or.inl ⟨?hw43, ?hy43⟩) (fun hk => by cases (show true = false from hk)) ?rest43
      case ho43 => simp only [List.getElem?_toArray, List.getElem?_cons_succ, List.getElem?_cons_zero]; rfl
      case hw43 => rfl
      case hy43 => intro w; go_simp; try with_reducible rfl
      case hq43 => exact fun _ _ _ h => h
      try simp only [Act.put, List.setIfInBounds_toArray, List.set_cons_zero, List.set_cons_succ]
      refine wpTill_done (by kernel_rfl) ?_ _
      go_wp2_with fail
      exact bodyPost_ret (v := .tuple #[.agg #[.int .u8 3, .bool false, .int .i64 u, .string ⟨#[]⟩, .slice none 0 0, .slice none 0 0], .bool (er == 0)]) (results_pair rfl _ _ (w.heap.size + 2) 25 #[.int .u8 3, .bool false, .int .i64 u, .string ⟨#[]⟩, .slice none 0 0, .slice none 0 0] (0, 0) _ (.bool (er == 0)) rfl (pt6_row HBA.out.v _ _ _ _ _ _) rfl Tryz.underlying25 rfl infoJSON) rfl (val_num_end HR4.out HRA.out HP.out HRV.out (pt6_below (Below.refl _ _) (by omega) _ _ _ _ _ _))
    case more42 =>
      exact AllTill.nil
  case more41 =>
    exact AllTill.nil
set_option maxRecDepth 100000 in
set_option maxHeartbeats 4000000 in
theorem value_text {G R : Nat} {s : ByteArray} {d deep : Nat} (hGR : G ≤ R) (hs : s.size ≤ 1000000000000) (p : Nat) (w : World) (hR : Rdr w R s p 0 0 w) (hp : p ≤ s.size) (hG : Ground G w) (hB0 : J.nextB s p = 34) :
    Calls Tryz.prog 26 #[.pointer (some ⟨R, 0, none⟩), .int .i64 deep] w (ValOf w R s (J.val d (s.data.toList.drop p))) := by
  have hlt := hR.lt
  obtain ⟨RES, hRES⟩ : ∃ x, J.val d (s.data.toList.drop p) = x := ⟨_, rfl⟩
  rw [hRES]
  obtain ⟨q, hq⟩ : ∃ q, J.nextP s p = q := ⟨_, rfl⟩
  have hqs : q ≤ s.size := by rw [← hq]; exact J.nextP_le s p
  have hsk := J.nextP_drop s p
  have hN := next_cases s p
  obtain ⟨B, hB⟩ : ∃ B, J.nextB s p = B := ⟨_, rfl⟩
  rw [hq] at hN hsk
  rw [hB] at hN
  have hBv : B = 34 := by rw [← hB]; exact hB0
  clear hB0
  obtain ⟨c, hqlt, hqc, hcs, hcb⟩ : ∃ c, ∃ h : q < s.size, s[q]'h = c ∧ J.skip (s.data.toList.drop p) = c :: s.data.toList.drop (q + 1) ∧ B = c.toNat := by
    rcases hN with ⟨_, _, h0⟩ | h
    · omega
    · exact h
  have hcr : s.data.toList.drop q = c :: s.data.toList.drop (q + 1) := by rw [hsk, hcs]
  clear hN
  have hc : c = 34 := UInt8.toNat_inj.1 (show c.toNat = 34 by omega)
  subst hc
  have HRV : Hid (RES = J.on (fun t => ⟨4, false, 0, ⟨t.toArray⟩, .nil, []⟩) (J.text (J.skip (s.data.toList.drop q)))) := by
    show _ = _
    have h2 : J.skip (s.data.toList.drop q) = 34 :: s.data.toList.drop (q + 1) := by rw [hsk, J.skip_skip, hcs]
    rw [← hRES, J.val_text d hcs, h2]
  clear hcs hcr hsk hqc
  have t_n : ((B : Int) == 110) = false := beq_eq_false_iff_ne.2 (by omega)
  have t_t : ((B : Int) == 116) = false := beq_eq_false_iff_ne.2 (by omega)
  have t_f : ((B : Int) == 102) = false := beq_eq_false_iff_ne.2 (by omega)
  have t_m : ((B : Int) == 45) = false := beq_eq_false_iff_ne.2 (by omega)
  have t_ge : decide ((48 : Int) ≤ (B : Int)) = false := decide_eq_false (by omega)
  have t_q : ((B : Int) == 34) = true := by rw [beq_iff_eq]; omega
  clear hBv hcb
  have HRS := hid hRES
  go_enter Tryz.func26, Tryz.ntmps26
  go_upto_region 1 with fail
  obtain ⟨w3, hw3⟩ : ∃ w3, ((w.alloc (.cells #[.pointer (some ⟨R, 0, none⟩)] 54)).alloc (.cells #[.int .i64 deep] 3)).alloc (.cells #[.int .u8 0, .bool false, .int .i64 0, .string ⟨#[]⟩, .slice none 0 0, .slice none 0 0] 25) = w3 := ⟨_, rfl⟩
  have HB3 : Hid (Bx w.heap.size R deep 0 (.slice none 0 0) (.slice none 0 0) w3) := by
    show Bx _ _ _ _ _ _ _
    rw [← hw3]
    refine ⟨?_, ?_, ?_⟩
    · rw [Lib.alloc_old _ _ _ (by simp; omega), Lib.alloc_old _ _ _ (by simp)]; exact heap_alloc_new w _
    · rw [Lib.alloc_old _ _ _ (by simp)]
      have := heap_alloc_new (w.alloc (.cells #[.pointer (some ⟨R, 0, none⟩)] 54)) (.cells #[.int .i64 deep] 3)
      simpa using this
    · have := heap_alloc_new ((w.alloc (.cells #[.pointer (some ⟨R, 0, none⟩)] 54)).alloc (.cells #[.int .i64 deep] 3)) (.cells #[.int .u8 0, .bool false, .int .i64 0, .string ⟨#[]⟩, .slice none 0 0, .slice none 0 0] 25)
      rw [show ((w.alloc (.cells #[.pointer (some ⟨R, 0, none⟩)] 54)).alloc (.cells #[.int .i64 deep] 3)).heap.size = w.heap.size + 2 by simp] at this
      exact this
  have HR3 : Hid (Rdr w R s p 0 0 w3) := by
    show Rdr _ _ _ _ _ _ _
    rw [← hw3]; exact ((hR.alloc _).alloc _).alloc _
  rw [hw3]
  have H33 : Hid (w3.heap.size = w.heap.size + 3) := by show _ = _; rw [← hw3]; simp
  clear hw3 hR hRES
  have b0 := cell_of_one HB3.out.r
  have cN := next_own HR3.out hp (by omega)
  rw [hq, hB] at cN
  clear hq
  go_wp2_with fail
  refine cN.mono ?_
  rintro e w4 ⟨rfl, hr, hg⟩
  have HR4 := hid hr
  have HB4 := hid (HB3.out.kept hg hlt)
  have H43 : Hid (w.heap.size + 3 ≤ w4.heap.size) := by show _ ≤ _; have := H33.out; have := hg.size; omega
  clear hr hg cN HB3 HR3 b0 H33
  have b0 := cell_of_one HB4.out.r
  have b1 := cell_of_one HB4.out.d
  have cM := text_any HR4.out.own hqs (by omega) (hG.keep (HR4.out.base hGR)) hGR
  go_wp2_with fail
  refine cM.mono ?_
  intro e w5 hen
  obtain ⟨tt, bo, rfl, hg5, hpar⟩ := took_text hen
  have HP := hid hpar
  have HB5 := hid (HB4.out.kept hg5 hlt)
  have HR5 := hid hg5
  clear hen hg5 hpar cM b0 b1
  go_upto_region 11 with fail
  go_wp2_with fail
  refine (str_any _ _).mono ?_
  rintro e wA ⟨rfl, hbA⟩
  have HBA := hid (Bx.after HB5.out hbA)
  have HbA := hid hbA
  clear hbA
  obtain ⟨v0, v1, v2, v3, v4, v5⟩ := vcells HBA.out.v
  obtain ⟨f0, f1, f2, f3, f4, f5⟩ := vfree HBA.out.v
  go_wp2_with fail
  have hsz : w.heap.size + 2 < w5.heap.size := Go.lt_of_block HB5.out.v
  exact bodyPost_ret (v := .tuple #[.agg #[.int .u8 4, .bool false, .int .i64 0, .string tt, .slice none 0 0, .slice none 0 0], .bool bo]) (results_pair rfl _ _ (w.heap.size + 2) 25 #[.int .u8 4, .bool false, .int .i64 0, .string tt, .slice none 0 0, .slice none 0 0] (0, 0) _ (.bool bo) rfl (pt6_row HBA.out.v _ _ _ _ _ _) rfl Tryz.underlying25 rfl infoJSON) rfl (val_text_end HR4.out HP.out HRV.out (pt6_below (Below.mono HbA.out (by omega)) (by omega) _ _ _ _ _ _))
set_option maxRecDepth 100000 in
set_option maxHeartbeats 4000000 in
theorem value_bad_lo {G R : Nat} {s : ByteArray} {d deep : Nat} (_hGR : G ≤ R) (hs : s.size ≤ 1000000000000) (p : Nat) (w : World) (hR : Rdr w R s p 0 0 w) (hp : p ≤ s.size) (_hG : Ground G w) (hB0 : J.nextB s p ≠ 110 ∧ J.nextB s p ≠ 116 ∧ J.nextB s p ≠ 102 ∧ J.nextB s p ≠ 45 ∧ ¬ (48 ≤ J.nextB s p ∧ J.nextB s p ≤ 57) ∧ J.nextB s p ≠ 34 ∧ J.nextB s p ≠ 91 ∧ J.nextB s p ≠ 123) (hge : decide ((48 : Int) ≤ (J.nextB s p : Int)) = false) :
    Calls Tryz.prog 26 #[.pointer (some ⟨R, 0, none⟩), .int .i64 deep] w (ValOf w R s (J.val d (s.data.toList.drop p))) := by
  have hlt := hR.lt
  obtain ⟨RES, hRES⟩ : ∃ x, J.val d (s.data.toList.drop p) = x := ⟨_, rfl⟩
  rw [hRES]
  obtain ⟨q, hq⟩ : ∃ q, J.nextP s p = q := ⟨_, rfl⟩
  have hqs : q ≤ s.size := by rw [← hq]; exact J.nextP_le s p
  have hsk := J.nextP_drop s p
  have hN := next_cases s p
  obtain ⟨B, hB⟩ : ∃ B, J.nextB s p = B := ⟨_, rfl⟩
  rw [hq] at hN hsk
  rw [hB] at hN
  rw [hB] at hB0 hge
  have HRV : Hid (RES = .error (s.size - q, 4)) := by
    show _ = _
    rw [← hRES]
    rcases hN with ⟨h1, h2, _⟩ | ⟨c, hlt, hqc, hcs, hcb⟩
    · rw [J.val_nil d h1, h2, Nat.sub_self]
    · have hne : ∀ k : UInt8, B ≠ k.toNat → c ≠ k := fun k hk e => hk (by rw [hcb, e])
      rw [J.val_bad d hcs (hne 110 hB0.1) (hne 116 hB0.2.1) (hne 102 hB0.2.2.1) (hne 45 hB0.2.2.2.1) (by rw [Bool.eq_false_iff]; simp only [J.dig, ne_eq, decide_eq_true_eq]; omega) (hne 34 hB0.2.2.2.2.2.1) (hne 91 hB0.2.2.2.2.2.2.1) (hne 123 hB0.2.2.2.2.2.2.2), drop_len, show s.size - (q + 1) + 1 = s.size - q by omega]
  clear hN hsk
  have t_n : ((B : Int) == 110) = false := beq_eq_false_iff_ne.2 (by omega)
  have t_t : ((B : Int) == 116) = false := beq_eq_false_iff_ne.2 (by omega)
  have t_f : ((B : Int) == 102) = false := beq_eq_false_iff_ne.2 (by omega)
  have t_m : ((B : Int) == 45) = false := beq_eq_false_iff_ne.2 (by omega)
  have t_q : ((B : Int) == 34) = false := beq_eq_false_iff_ne.2 (by omega)
  have t_l : ((B : Int) == 91) = false := beq_eq_false_iff_ne.2 (by omega)
  have t_o : ((B : Int) == 123) = false := beq_eq_false_iff_ne.2 (by omega)
  clear hB0
  have HRS := hid hRES
  go_enter Tryz.func26, Tryz.ntmps26
  go_upto_region 1 with fail
  obtain ⟨w3, hw3⟩ : ∃ w3, ((w.alloc (.cells #[.pointer (some ⟨R, 0, none⟩)] 54)).alloc (.cells #[.int .i64 deep] 3)).alloc (.cells #[.int .u8 0, .bool false, .int .i64 0, .string ⟨#[]⟩, .slice none 0 0, .slice none 0 0] 25) = w3 := ⟨_, rfl⟩
  have HB3 : Hid (Bx w.heap.size R deep 0 (.slice none 0 0) (.slice none 0 0) w3) := by
    show Bx _ _ _ _ _ _ _
    rw [← hw3]
    refine ⟨?_, ?_, ?_⟩
    · rw [Lib.alloc_old _ _ _ (by simp; omega), Lib.alloc_old _ _ _ (by simp)]; exact heap_alloc_new w _
    · rw [Lib.alloc_old _ _ _ (by simp)]
      have := heap_alloc_new (w.alloc (.cells #[.pointer (some ⟨R, 0, none⟩)] 54)) (.cells #[.int .i64 deep] 3)
      simpa using this
    · have := heap_alloc_new ((w.alloc (.cells #[.pointer (some ⟨R, 0, none⟩)] 54)).alloc (.cells #[.int .i64 deep] 3)) (.cells #[.int .u8 0, .bool false, .int .i64 0, .string ⟨#[]⟩, .slice none 0 0, .slice none 0 0] 25)
      rw [show ((w.alloc (.cells #[.pointer (some ⟨R, 0, none⟩)] 54)).alloc (.cells #[.int .i64 deep] 3)).heap.size = w.heap.size + 2 by simp] at this
      exact this
  have HR3 : Hid (Rdr w R s p 0 0 w3) := by
    show Rdr _ _ _ _ _ _ _
    rw [← hw3]; exact ((hR.alloc _).alloc _).alloc _
  rw [hw3]
  have H33 : Hid (w3.heap.size = w.heap.size + 3) := by show _ = _; rw [← hw3]; simp
  clear hw3 hR hRES
  have b0 := cell_of_one HB3.out.r
  have cN := next_own HR3.out hp (by omega)
  rw [hq, hB] at cN
  clear hq
  go_wp2_with fail
  refine cN.mono ?_
  rintro e w4 ⟨rfl, hr, hg⟩
  have HR4 := hid hr
  have HB4 := hid (HB3.out.kept hg hlt)
  have H43 : Hid (w.heap.size + 3 ≤ w4.heap.size) := by show _ ≤ _; have := H33.out; have := hg.size; omega
  clear hr hg cN HB3 HR3 b0 H33
  have b0 := cell_of_one HB4.out.r
  have b1 := cell_of_one HB4.out.d
  go_upto_region 19 with fail
  refine wp_region_till (S := (fun w' : World => Bx w.heap.size R deep 0 (.slice none 0 0) (.slice none 0 0) w')) 3 (by kernel_rfl) ?_
  have HS := hid (show ((fun w' : World => Bx w.heap.size R deep 0 (.slice none 0 0) (.slice none 0 0) w')) _ from HB4.out.drew)
  refine wpTill_load 0 [0, 3] (oi := ?oi44) (v := ?v44) ?ho44 (by kernel_rfl) (by kernel_rfl) (by kernel_rfl) (by kernel_rfl) ?hq44 (Or.inl ⟨?hw44, ?hy44⟩) HS.out ?rest44
  case ho44 => simp only [List.getElem?_toArray, List.getElem?_cons_zero]; rfl
  case hw44 => rfl
  case hy44 =>
    intro w hSw
    obtain ⟨v0, v1, v2, v3, v4, v5⟩ := vcells hSw.v
    clear hSw
    go_simp
    try with_reducible rfl
  case hq44 => exact fun _ _ _ h => h
  try simp only [Act.put, List.setIfInBounds_toArray, List.set_cons_zero, List.set_cons_succ]
  refine wpTill_load 1 [1, 2, 3] (oi := ?oi45) (v := ?v45) ?ho45 (by kernel_rfl) (by kernel_rfl) (by kernel_rfl) (by kernel_rfl) ?hq45 (Or.inl ⟨?hw45, ?hy45⟩) HS.out ?rest45
  case ho45 => simp only [List.getElem?_toArray, List.getElem?_cons_succ, List.getElem?_cons_zero]; rfl
  case hw45 => rfl
  case hy45 =>
    intro w hSw
    have b0 := cell_of_one hSw.r
    clear hSw
    go_simp
    try with_reducible rfl
  case hq45 => exact fun _ _ _ h => h
  try simp only [Act.put, List.setIfInBounds_toArray, List.set_cons_zero, List.set_cons_succ]
  refine wpTill_ready (rs := [2]) (by kernel_rfl) (by decide) ?_
  refine AllTill.consH (o := ?oi46) ?ho46 (fun K hK => ?step46) ?more46
  case ho46 => simp only [List.getElem?_toArray, List.getElem?_cons_succ, List.getElem?_cons_zero]; rfl
  case step46 =>
    go_simp
    refine (bad_own HR4.out.drew).mono ?_
    rintro e w5 ⟨rfl, hr, hg⟩
    have HR5 := hid hr
    have HB5 := hid (HB4.out.drew.kept hg hlt)
    clear hr hg
    obtain ⟨v0, v1, v2, v3, v4, v5⟩ := vcells HB5.out.v
    obtain ⟨f0, f1, f2, f3, f4, f5⟩ := vfree HB5.out.v
    try dsimp only
    refine hK.out _ _ (fun _ => HB5.out) (fun hHeld => ?_)
    have HS46 := hid (hHeld (by kernel_rfl))
    clear hHeld hK K
    try simp only [Act.put, List.setIfInBounds_toArray, List.set_cons_zero, List.set_cons_succ]
    refine wpTill_ready (rs := [3]) (by kernel_rfl) (by decide) ?_
    refine AllTill.consH (o := ?oi47) ?ho47 (fun K hK => ?step47) ?more47
    case ho47 => simp only [List.getElem?_toArray, List.getElem?_cons_succ, List.getElem?_cons_zero]; rfl
    case step47 =>
      go_simp
      refine hK.out _ _ (fun hk => by cases (show true = false from hk)) (fun _ => ?_)
      clear hK K
      try simp only [Act.put, List.setIfInBounds_toArray, List.set_cons_zero, List.set_cons_succ]
      refine wpTill_any 4 (oi := ?oi48) (v := ?v48) ?ho48 (by kernel_rfl) (by kernel_rfl) (by kernel_rfl) (by kernel_rfl) ?hq48 (Or.inl ⟨?hw48, ?hy48⟩) (fun hk => by cases (show true = false from hk)) ?rest48
      case ho48 => simp only [List.getElem?_toArray, List.getElem?_cons_succ, List.getElem?_cons_zero]; rfl
      case hw48 => rfl
      case hy48 => intro w; go_simp; try with_reducible rfl
      case hq48 => exact fun _ _ _ h => h
      try simp only [Act.put, List.setIfInBounds_toArray, List.set_cons_zero, List.set_cons_succ]
      refine wpTill_done (by kernel_rfl) ?_ _
      go_wp2_with fail
      exact bodyPost_ret (v := .tuple #[.agg #[.int .u8 0, .bool false, .int .i64 0, .string ⟨#[]⟩, .slice none 0 0, .slice none 0 0], .bool false]) (results_pair rfl _ _ (w.heap.size + 2) 25 #[.int .u8 0, .bool false, .int .i64 0, .string ⟨#[]⟩, .slice none 0 0, .slice none 0 0] (0, 0) _ (.bool false) rfl (pt6_row HB5.out.v _ _ _ _ _ _) rfl Tryz.underlying25 rfl infoJSON) rfl (val_err (cs := [.int .u8 0, .bool false, .int .i64 0, .string ⟨#[]⟩, .slice none 0 0, .slice none 0 0]) Shape.zero HRV.out hqs (by rw [show s.size - (s.size - q) = q by omega]; exact HR5.out) (pt6_below (Below.refl _ _) (by omega) _ _ _ _ _ _))
    case more47 =>
      exact AllTill.nil
  case more46 =>
    exact AllTill.nil
set_option maxRecDepth 100000 in
set_option maxHeartbeats 4000000 in
theorem value_bad_hi {G R : Nat} {s : ByteArray} {d deep : Nat} (_hGR : G ≤ R) (hs : s.size ≤ 1000000000000) (p : Nat) (w : World) (hR : Rdr w R s p 0 0 w) (hp : p ≤ s.size) (_hG : Ground G w) (hB0 : J.nextB s p ≠ 110 ∧ J.nextB s p ≠ 116 ∧ J.nextB s p ≠ 102 ∧ J.nextB s p ≠ 45 ∧ ¬ (48 ≤ J.nextB s p ∧ J.nextB s p ≤ 57) ∧ J.nextB s p ≠ 34 ∧ J.nextB s p ≠ 91 ∧ J.nextB s p ≠ 123) (hge : decide ((48 : Int) ≤ (J.nextB s p : Int)) = true) :
    Calls Tryz.prog 26 #[.pointer (some ⟨R, 0, none⟩), .int .i64 deep] w (ValOf w R s (J.val d (s.data.toList.drop p))) := by
  have hlt := hR.lt
  obtain ⟨RES, hRES⟩ : ∃ x, J.val d (s.data.toList.drop p) = x := ⟨_, rfl⟩
  rw [hRES]
  obtain ⟨q, hq⟩ : ∃ q, J.nextP s p = q := ⟨_, rfl⟩
  have hqs : q ≤ s.size := by rw [← hq]; exact J.nextP_le s p
  have hsk := J.nextP_drop s p
  have hN := next_cases s p
  obtain ⟨B, hB⟩ : ∃ B, J.nextB s p = B := ⟨_, rfl⟩
  rw [hq] at hN hsk
  rw [hB] at hN
  rw [hB] at hB0 hge
  have HRV : Hid (RES = .error (s.size - q, 4)) := by
    show _ = _
    rw [← hRES]
    rcases hN with ⟨h1, h2, _⟩ | ⟨c, hlt, hqc, hcs, hcb⟩
    · rw [J.val_nil d h1, h2, Nat.sub_self]
    · have hne : ∀ k : UInt8, B ≠ k.toNat → c ≠ k := fun k hk e => hk (by rw [hcb, e])
      rw [J.val_bad d hcs (hne 110 hB0.1) (hne 116 hB0.2.1) (hne 102 hB0.2.2.1) (hne 45 hB0.2.2.2.1) (by rw [Bool.eq_false_iff]; simp only [J.dig, ne_eq, decide_eq_true_eq]; omega) (hne 34 hB0.2.2.2.2.2.1) (hne 91 hB0.2.2.2.2.2.2.1) (hne 123 hB0.2.2.2.2.2.2.2), drop_len, show s.size - (q + 1) + 1 = s.size - q by omega]
  clear hN hsk
  have h48 : 48 ≤ B := by have := of_decide_eq_true hge; omega
  have t_n : ((B : Int) == 110) = false := beq_eq_false_iff_ne.2 (by omega)
  have t_t : ((B : Int) == 116) = false := beq_eq_false_iff_ne.2 (by omega)
  have t_f : ((B : Int) == 102) = false := beq_eq_false_iff_ne.2 (by omega)
  have t_m : ((B : Int) == 45) = false := beq_eq_false_iff_ne.2 (by omega)
  have t_le : decide ((B : Int) ≤ 57) = false := decide_eq_false (by omega)
  have t_q : ((B : Int) == 34) = false := beq_eq_false_iff_ne.2 (by omega)
  have t_l : ((B : Int) == 91) = false := beq_eq_false_iff_ne.2 (by omega)
  have t_o : ((B : Int) == 123) = false := beq_eq_false_iff_ne.2 (by omega)
  clear hB0
  have HRS := hid hRES
  go_enter Tryz.func26, Tryz.ntmps26
  go_upto_region 1 with fail
  obtain ⟨w3, hw3⟩ : ∃ w3, ((w.alloc (.cells #[.pointer (some ⟨R, 0, none⟩)] 54)).alloc (.cells #[.int .i64 deep] 3)).alloc (.cells #[.int .u8 0, .bool false, .int .i64 0, .string ⟨#[]⟩, .slice none 0 0, .slice none 0 0] 25) = w3 := ⟨_, rfl⟩
  have HB3 : Hid (Bx w.heap.size R deep 0 (.slice none 0 0) (.slice none 0 0) w3) := by
    show Bx _ _ _ _ _ _ _
    rw [← hw3]
    refine ⟨?_, ?_, ?_⟩
    · rw [Lib.alloc_old _ _ _ (by simp; omega), Lib.alloc_old _ _ _ (by simp)]; exact heap_alloc_new w _
    · rw [Lib.alloc_old _ _ _ (by simp)]
      have := heap_alloc_new (w.alloc (.cells #[.pointer (some ⟨R, 0, none⟩)] 54)) (.cells #[.int .i64 deep] 3)
      simpa using this
    · have := heap_alloc_new ((w.alloc (.cells #[.pointer (some ⟨R, 0, none⟩)] 54)).alloc (.cells #[.int .i64 deep] 3)) (.cells #[.int .u8 0, .bool false, .int .i64 0, .string ⟨#[]⟩, .slice none 0 0, .slice none 0 0] 25)
      rw [show ((w.alloc (.cells #[.pointer (some ⟨R, 0, none⟩)] 54)).alloc (.cells #[.int .i64 deep] 3)).heap.size = w.heap.size + 2 by simp] at this
      exact this
  have HR3 : Hid (Rdr w R s p 0 0 w3) := by
    show Rdr _ _ _ _ _ _ _
    rw [← hw3]; exact ((hR.alloc _).alloc _).alloc _
  rw [hw3]
  have H33 : Hid (w3.heap.size = w.heap.size + 3) := by show _ = _; rw [← hw3]; simp
  clear hw3 hR hRES
  have b0 := cell_of_one HB3.out.r
  have cN := next_own HR3.out hp (by omega)
  rw [hq, hB] at cN
  clear hq
  go_wp2_with fail
  refine cN.mono ?_
  rintro e w4 ⟨rfl, hr, hg⟩
  have HR4 := hid hr
  have HB4 := hid (HB3.out.kept hg hlt)
  have H43 : Hid (w.heap.size + 3 ≤ w4.heap.size) := by show _ ≤ _; have := H33.out; have := hg.size; omega
  clear hr hg cN HB3 HR3 b0 H33
  have b0 := cell_of_one HB4.out.r
  have b1 := cell_of_one HB4.out.d
  go_upto_region 19 with fail
  refine wp_region_till (S := (fun w' : World => Bx w.heap.size R deep 0 (.slice none 0 0) (.slice none 0 0) w')) 3 (by kernel_rfl) ?_
  have HS := hid (show ((fun w' : World => Bx w.heap.size R deep 0 (.slice none 0 0) (.slice none 0 0) w')) _ from HB4.out.drew)
  refine wpTill_load 0 [0, 3] (oi := ?oi49) (v := ?v49) ?ho49 (by kernel_rfl) (by kernel_rfl) (by kernel_rfl) (by kernel_rfl) ?hq49 (Or.inl ⟨?hw49, ?hy49⟩) HS.out ?rest49
  case ho49 => simp only [List.getElem?_toArray, List.getElem?_cons_zero]; rfl
  case hw49 => rfl
  case hy49 =>
    intro w hSw
    obtain ⟨v0, v1, v2, v3, v4, v5⟩ := vcells hSw.v
    clear hSw
    go_simp
    try with_reducible rfl
  case hq49 => exact fun _ _ _ h => h
  try simp only [Act.put, List.setIfInBounds_toArray, List.set_cons_zero, List.set_cons_succ]
  refine wpTill_load 1 [1, 2, 3] (oi := ?oi50) (v := ?v50) ?ho50 (by kernel_rfl) (by kernel_rfl) (by kernel_rfl) (by kernel_rfl) ?hq50 (Or.inl ⟨?hw50, ?hy50⟩) HS.out ?rest50
  case ho50 => simp only [List.getElem?_toArray, List.getElem?_cons_succ, List.getElem?_cons_zero]; rfl
  case hw50 => rfl
  case hy50 =>
    intro w hSw
    have b0 := cell_of_one hSw.r
    clear hSw
    go_simp
    try with_reducible rfl
  case hq50 => exact fun _ _ _ h => h
  try simp only [Act.put, List.setIfInBounds_toArray, List.set_cons_zero, List.set_cons_succ]
  refine wpTill_ready (rs := [2]) (by kernel_rfl) (by decide) ?_
  refine AllTill.consH (o := ?oi51) ?ho51 (fun K hK => ?step51) ?more51
  case ho51 => simp only [List.getElem?_toArray, List.getElem?_cons_succ, List.getElem?_cons_zero]; rfl
  case step51 =>
    go_simp
    refine (bad_own HR4.out.drew).mono ?_
    rintro e w5 ⟨rfl, hr, hg⟩
    have HR5 := hid hr
    have HB5 := hid (HB4.out.drew.kept hg hlt)
    clear hr hg
    obtain ⟨v0, v1, v2, v3, v4, v5⟩ := vcells HB5.out.v
    obtain ⟨f0, f1, f2, f3, f4, f5⟩ := vfree HB5.out.v
    try dsimp only
    refine hK.out _ _ (fun _ => HB5.out) (fun hHeld => ?_)
    have HS51 := hid (hHeld (by kernel_rfl))
    clear hHeld hK K
    try simp only [Act.put, List.setIfInBounds_toArray, List.set_cons_zero, List.set_cons_succ]
    refine wpTill_ready (rs := [3]) (by kernel_rfl) (by decide) ?_
    refine AllTill.consH (o := ?oi52) ?ho52 (fun K hK => ?step52) ?more52
    case ho52 => simp only [List.getElem?_toArray, List.getElem?_cons_succ, List.getElem?_cons_zero]; rfl
    case step52 =>
      go_simp
      refine hK.out _ _ (fun hk => by cases (show true = false from hk)) (fun _ => ?_)
      clear hK K
      try simp only [Act.put, List.setIfInBounds_toArray, List.set_cons_zero, List.set_cons_succ]
      refine wpTill_any 4 (oi := ?oi53) (v := ?v53) ?ho53 (by kernel_rfl) (by kernel_rfl) (by kernel_rfl) (by kernel_rfl) ?hq53 (Or.inl ⟨?hw53, ?hy53⟩) (fun hk => by cases (show true = false from hk)) ?rest53
      case ho53 => simp only [List.getElem?_toArray, List.getElem?_cons_succ, List.getElem?_cons_zero]; rfl
      case hw53 => rfl
      case hy53 => intro w; go_simp; try with_reducible rfl
      case hq53 => exact fun _ _ _ h => h
      try simp only [Act.put, List.setIfInBounds_toArray, List.set_cons_zero, List.set_cons_succ]
      refine wpTill_done (by kernel_rfl) ?_ _
      go_wp2_with fail
      exact bodyPost_ret (v := .tuple #[.agg #[.int .u8 0, .bool false, .int .i64 0, .string ⟨#[]⟩, .slice none 0 0, .slice none 0 0], .bool false]) (results_pair rfl _ _ (w.heap.size + 2) 25 #[.int .u8 0, .bool false, .int .i64 0, .string ⟨#[]⟩, .slice none 0 0, .slice none 0 0] (0, 0) _ (.bool false) rfl (pt6_row HB5.out.v _ _ _ _ _ _) rfl Tryz.underlying25 rfl infoJSON) rfl (val_err (cs := [.int .u8 0, .bool false, .int .i64 0, .string ⟨#[]⟩, .slice none 0 0, .slice none 0 0]) Shape.zero HRV.out hqs (by rw [show s.size - (s.size - q) = q by omega]; exact HR5.out) (pt6_below (Below.refl _ _) (by omega) _ _ _ _ _ _))
    case more52 =>
      exact AllTill.nil
  case more51 =>
    exact AllTill.nil
end Go.Proofs.YtphjfighamadgaaGreatDoor
