/- markup.Escape. -/
import Derived.Test.YtakplnceiibmlaaGreatDoorMOnceA
namespace Go.Proofs.YtakplnceiibmlaaGreatDoor
open Go.RowKit
open Go.Lib (hid)
/-- the reader of Escape -/
structure EB (W : World) (s : ByteArray) (p : Nat) (W' : World) : Prop where
  row : W'.heap[W.heap.size]? = some (.cells #[.string s, .int .i64 p] 55 (0, 0))
  below : Below W.heap.size W W'
theorem EB.cells {W W' : World} {s : ByteArray} {p : Nat} (h : EB W s p W') : W'.cell? ⟨W.heap.size, 0, none⟩ = some (.string s) ∧ W'.cell? ⟨W.heap.size, 1, none⟩ = some (.int .i64 p) := ⟨rowCell h.row 0, rowCell h.row 1⟩
theorem EB.under {W W' W'' : World} {s : ByteArray} {p : Nat} (h : EB W s p W') (b : Below W'.heap.size W' W'') : EB W s p W'' :=
  ⟨by rw [b.block _ (Go.lt_of_block h.row)]; exact h.row, h.below.trans (b.mono h.below.size)⟩
theorem EB.drew {W W' : World} {s : ByteArray} {p : Nat} (h : EB W s p W') : EB W s p W'.drew := h.under (Below.refl _ W').drew
theorem EB.set {W W' : World} {s : ByteArray} {p : Nat} (h : EB W s p W') (q : Nat) : EB W s q (W'.setCell ⟨W.heap.size, 1, none⟩ (.int .i64 q)) := ⟨row_set h.row 1 _, h.below.setCell (p := ⟨W.heap.size, 1, none⟩) (Nat.le_refl _) _⟩
theorem EB.pos {W W' : World} {s : ByteArray} {p : Nat} (h : EB W s p W') : posOf W' W.heap.size = p := by
  unfold posOf
  rw [h.cells.2]
  simp
set_option maxRecDepth 100000 in
set_option maxHeartbeats 4000000 in
theorem escape_any (s : ByteArray) (hs : s.size ≤ 1000000000) (W : World) (hT : Tabs W) :
    Calls Tryz.prog 11 #[.string s] W fun en W' => en = .returned (if X.okT (s.size + 1) s.data.toList then .tuple #[.string (X.ba (X.escL s.data.toList)), .bool true] else .tuple #[.string (X.ba []), .bool false]) ∧ Below W.heap.size W W' := by
  obtain ⟨RV, hRV⟩ : ∃ v : Value, (if X.okT (s.size + 1) s.data.toList then Value.tuple #[.string (X.ba (X.escL s.data.toList)), .bool true] else .tuple #[.string (X.ba []), .bool false]) = v := ⟨_, rfl⟩
  rw [hRV]
  have HRV := hid hRV
  have HTW := hid hT
  have HSL := hid (Lib.size_eq s)
  clear hRV hT
  go_enter Tryz.func11, Tryz.ntmps11
  go_wp2_with fail
  generalize hw0 : World.alloc W _ = w0
  have HB : Hid (EB W s 0 w0) := by
    show EB _ _ _ _
    rw [← hw0]
    exact ⟨heap_alloc_new W _, (Below.refl _ W).alloc (Nat.le_refl _) _⟩
  clear hw0
  go_loopw [5, 6] (fun _ _ wr => ∃ (i : Nat), Hid (i ≤ s.size ∧ X.okT (s.size + 1) (rest s i) = X.okT (s.size + 1) s.data.toList ∧ EB W s i wr)) (fun _ _ wr => s.size - posOf wr W.heap.size)
  case atStart => exact ⟨0, hid ⟨Nat.zero_le _, rfl, HB.out⟩⟩
  case round =>
    obtain ⟨i, HI⟩ := hrel
    have HE := hid HI.out.2.2
    obtain ⟨c0, c1⟩ := HE.out.cells
    have P0 : (0 : Int) ≤ (i : Int) := by omega
    have P1 : (i : Int) ≤ (s.size : Int) := by have := HI.out.1; omega
    have HTr : Hid (Tabs wr) := by show Tabs _; exact HTW.out.under HE.out.below
    rcases Nat.lt_or_ge i s.size with hlt | hge
    · have g2 : decide ((i : Int) < (s.size : Int)) = true := decide_eq_true (by omega)
      have g3 : decide (i < s.size) = true := decide_eq_true hlt
      have hne : rest s i ≠ [] := fun h => by have := (rest_nil s i).1 h; omega
      have cD := fun U (hU : Tabs U) => Tryz.utf8_DecodeRuneInString (s.extract i s.size) U hU
      rw [decode_rest hlt] at cD
      have hw := Lib.decodeL_width (rest s i)
      have hle := Lib.decodeL_le (rest s i) hne
      have hru := Lib.decodeL_rune (rest s i)
      rw [rest_len] at hle
      have HX : Hid (X.charK (rest s i) = if ((Lib.decodeL (rest s i)).1 = 65533 ∧ (Lib.decodeL (rest s i)).2 = 1) ∨ X.stands (Lib.decodeL (rest s i)).1 = false then 0 else (Lib.decodeL (rest s i)).2) := by
        show _ = _
        unfold X.charK X.decK
        rw [if_neg hne]
      obtain ⟨r, hr⟩ : ∃ r, (Lib.decodeL (rest s i)).1 = r := ⟨_, rfl⟩
      obtain ⟨k, hk⟩ : ∃ k, (Lib.decodeL (rest s i)).2 = k := ⟨_, rfl⟩
      rw [hr] at cD HX hru
      rw [hk] at cD HX hw hle
      have HNE := hid hne
      clear hr hk hne
      have HD := hid cD
      have cS := fun U => stands_any (r : Int) U
      clear cD
      go_wp2_with fail
      refine (HD.out _ HTr.out).mono ?_
      rintro en w1 ⟨rfl, bb⟩
      have H1 := hid (HE.out.under bb)
      obtain ⟨d0, d1⟩ := H1.out.cells
      have g1 := rowFree H1.out.row 1
      clear bb c0 c1
      have hcase : (((r : Int) == 65533) = true ∧ ((k : Int) == 1) = true) ∨ ((((r : Int) == 65533) = false ∨ (((r : Int) == 65533) = true ∧ ((k : Int) == 1) = false)) ∧ X.stands r = false) ∨ ((((r : Int) == 65533) = false ∨ (((r : Int) == 65533) = true ∧ ((k : Int) == 1) = false)) ∧ X.stands r = true) := by
        cases (r : Int) == 65533 <;> cases (k : Int) == 1 <;> cases X.stands r <;> simp
      rcases hcase with ⟨q1, q2⟩ | ⟨gc, q3⟩ | ⟨gc, q3⟩
      · have HF : Hid (RV = .tuple #[.string (X.ba []), .bool false]) := by
          show _ = _
          have h0 : X.charK (rest s i) = 0 := by
            rw [HX.out, if_pos]
            left; simp only [beq_iff_eq] at q1 q2; omega
          rw [← HRV.out, ← HI.out.2.1, X.okT_bad _ _ HNE.out h0]
          rfl
        clear HX cS
        go_wp2_with fail
        go_ret2
        exact ⟨by rw [HF.out]; rfl, H1.out.below⟩
      · have HF : Hid (RV = .tuple #[.string (X.ba []), .bool false]) := by
          show _ = _
          have h0 : X.charK (rest s i) = 0 := by
            rw [HX.out, if_pos]
            right; exact q3
          rw [← HRV.out, ← HI.out.2.1, X.okT_bad _ _ HNE.out h0]
          rfl
        rw [q3] at cS
        clear HX q3
        rcases gc with q1 | ⟨q1, q2⟩
        all_goals
          go_wp2_with fail
          refine (cS _).mono ?_
          rintro e w2 ⟨rfl, rfl⟩
          go_wp2_with fail
          go_ret2
          exact ⟨by rw [HF.out]; rfl, H1.out.below⟩
      · have HN : Hid (i + k ≤ s.size ∧ X.okT (s.size + 1) (rest s (i + k)) = X.okT (s.size + 1) s.data.toList ∧ 1 ≤ k) := by
          show _ ∧ _
          have h0 : X.charK (rest s i) = k := by
            rw [HX.out, if_neg]
            rintro (h | h)
            · rcases gc with q1 | ⟨_, q2⟩
              · simp only [beq_eq_false_iff_ne, ne_eq] at q1; omega
              · simp only [beq_eq_false_iff_ne, ne_eq] at q2; omega
            · rw [q3] at h; cases h
          refine ⟨by omega, ?_, by omega⟩
          rw [← HI.out.2.1, X.okT_go _ _ HNE.out (by omega), h0, rest_drop]
          refine X.okT_fuel s.size _ _ _ ?_ ?_ ?_ <;> rw [rest_len] <;> omega
        rw [q3] at cS
        clear HX q3
        have e1 : IntKind.i64.wrap ((i : Int) + (k : Int)) = ((i + k : Nat) : Int) := by rw [IntKind.wrap_i64]; omega
        rcases gc with q1 | ⟨q1, q2⟩
        all_goals
          go_wp2_with fail
          refine (cS _).mono ?_
          rintro e w2 ⟨rfl, rfl⟩
          go_wp2_with fail
          have e2 : ((i : Int) + (k : Int)) = ((i + k : Nat) : Int) := by omega
          rw [e2]
          have hS := H1.out.set (i + k)
          refine ⟨⟨i + k, hid ⟨HN.out.1, HN.out.2.1, hS⟩⟩, ?_⟩
          rw [hS.pos, HE.out.pos]
          have := HN.out
          omega
    · have g2 : decide ((i : Int) < (s.size : Int)) = false := decide_eq_false (by omega)
      have g3 : decide (i < s.size) = false := decide_eq_false (by omega)
      have HF : Hid (RV = .tuple #[.string (X.ba (X.escL s.data.toList)), .bool true]) := by
        show _ = _
        rw [← HRV.out, ← HI.out.2.1, (rest_nil s i).2 (by omega), X.okT_nil]
        rfl
      go_wp2_with fail
      generalize hw2 : World.alloc wr _ = w2
      have HB2 : Hid (Below W.heap.size W w2 ∧ ∀ j, j < 14 → w2.cell? ⟨wr.heap.size, j, none⟩ = strs14[j]?) := by
        show _ ∧ _
        rw [← hw2]
        exact ⟨HE.out.below.alloc HE.out.below.size _, fun j _ => rowCell (heap_alloc_new wr _) j⟩
      clear hw2
      refine (newReplacer_any _ _ w2 HB2.out.2).mono ?_
      rintro e w3 ⟨R, O, oc, rfl, hR, hOR, hO, hRs, hb⟩
      have cP := replace_any R O oc (.int .u32 0) s hs w3 hR hOR hO
      have HB3 := hid (And.intro hRs hb)
      clear hR hOR hO hRs hb c0 c1
      go_wp2_with fail
      refine cP.mono ?_
      rintro e w4 ⟨rfl, hg⟩
      have HB4 : Hid (Below W.heap.size W w4) := by
        show Below _ _ _
        have h2 := HB2.out.1
        have h3 := h2.trans (HB3.out.2.mono h2.size)
        exact h3.grown hg h3.size (fun q hq => by cases hq; have := HB3.out.1; have := h2.size; omega)
      clear cP hg
      go_wp2_with fail
      go_ret2
      exact ⟨by rw [HF.out]; rfl, HB4.out⟩
end Go.Proofs.YtakplnceiibmlaaGreatDoor
