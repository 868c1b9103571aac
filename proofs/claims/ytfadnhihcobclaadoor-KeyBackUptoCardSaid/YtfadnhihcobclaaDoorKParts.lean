/- Parts in memory; their order: plain, and as the program's. -/
import Derived.Test.YtfadnhihcobclaaDoorKSmall
import Derived.Test.YtfadnhihcobclaaDoorKAwake
import Derived.StillTailTactics
namespace Go.Proofs.YtfadnhihcobclaaDoor
open Go.RowKit
open Go.Lib (hid)
namespace K
/-- a slice holds these parts -/
def PIn (w : World) (ps : List Part) (sv : Value) : Prop :=
  (ps = [] ∧ ∃ a c, sv = .slice a 0 c ∧ (a = none → c = 0)) ∨ (0 < ps.length ∧ ∃ b o c, sv = .slice (some ⟨b, o, none⟩) ps.length c ∧ ps.length ≤ c ∧ ∀ j u, (rowOf ps)[j]? = some u → w.cell? ⟨b, o + j, none⟩ = some u)
theorem PIn.keep {w w' : World} {ps : List Part} {sv : Value} (h : PIn w ps sv) (hk : ∀ b o, b < w.heap.size → w'.cell? ⟨b, o, none⟩ = w.cell? ⟨b, o, none⟩) : PIn w' ps sv := by
  rcases h with h | ⟨h0, b, o, c, h1, h2, h3⟩
  · exact Or.inl h
  · refine Or.inr ⟨h0, b, o, c, h1, h2, fun j u hj => ?_⟩
    have := h3 j u hj
    rw [hk b _ (Lib.lt_of_cell this)]; exact this
theorem PIn.below {w w' : World} {ps : List Part} {sv : Value} (h : PIn w ps sv) (hb : Below w.heap.size w w') : PIn w' ps sv :=
  h.keep fun b o hlt => hb.cell (p := ⟨b, o, none⟩) hlt
theorem PIn.shape {w : World} {ps : List Part} {sv : Value} (h : PIn w ps sv) : ∃ a c, sv = .slice a ps.length c := by
  rcases h with ⟨rfl, a, c, h, _⟩ | ⟨_, b, o, c, h, _⟩
  · exact ⟨a, c, h⟩
  · exact ⟨_, c, h⟩
theorem PIn.cells {w : World} {ps : List Part} {sv : Value} (h : PIn w ps sv) {k : Nat} (hk : k < ps.length) : ∃ b o c, sv = .slice (some ⟨b, o, none⟩) ps.length c ∧ b < w.heap.size ∧
    w.cell? ⟨b, o + k * 3, none⟩ = some (.bool ps[k].text) ∧ w.cell? ⟨b, o + k * 3 + 1, none⟩ = some (.int .i64 ps[k].n) ∧ w.cell? ⟨b, o + k * 3 + 2, none⟩ = some (.string ps[k].say) := by
  rcases h with ⟨rfl, _⟩ | ⟨_, b, o, c, h, _, hc⟩
  · simp at hk
  · obtain ⟨d0, d1, d2⟩ := rowOf_get ps k hk
    exact ⟨b, o, c, h, Lib.lt_of_cell (hc _ _ d0), hc _ _ d0, hc _ _ d1, hc _ _ d2⟩
theorem rowOf_append : ∀ (a b : List Part), rowOf (a ++ b) = rowOf a ++ rowOf b
  | [], b => rfl
  | p :: a, b => by simp only [List.cons_append, rowOf, rowOf_append a b, List.append_assoc]
theorem rowOf_length : ∀ (a : List Part), (rowOf a).length = a.length * 3
  | [] => rfl
  | p :: a => by simp only [rowOf, List.length_append, rowOf_length a, List.length_cons, Part.cells, List.length_nil]; omega
/-- a slice of the call's own that holds these parts -/
def POwn (B : Nat) (ps : List Part) (v : Value) (w : World) : Prop := w.ownsRow B 26 3 v ps.length (rowOf ps)
theorem POwn.is {B : Nat} {ps : List Part} {v : Value} {w : World} (h : POwn B ps v w) : PIn w ps v := by
  have hc := fun g (hg : v.ownBlock = some g) => World.ownsRow.cells h hg
  rcases h.2 with ⟨rfl, h0⟩ | ⟨g, cap, cur, rfl, _, _, hcap, _⟩
  · exact Or.inl ⟨List.eq_nil_of_length_eq_zero h0, none, 0, rfl, fun _ => rfl⟩
  · rcases Nat.eq_zero_or_pos ps.length with h0 | h0
    · rw [h0]
      exact Or.inl ⟨List.eq_nil_of_length_eq_zero h0, _, cap, rfl, fun h => by cases h⟩
    · exact Or.inr ⟨h0, g, 0, cap, rfl, by first | exact hcap | omega, fun j u hj => by
        rw [Nat.zero_add]
        have e : (⟨g, 0, none⟩ : Addr).add j = ⟨g, j, none⟩ := by cases j <;> simp [Addr.add]
        rw [← e]; exact hc g rfl j u hj⟩
theorem POwn.below {B : Nat} {ps : List Part} {v : Value} {w w' : World} (h : POwn B ps v w) (hb : Below w.heap.size w w') : POwn B ps v w' :=
  World.ownsRow.kept (row := none) h ⟨hb.os, hb.tape, hb.output, hb.size, fun k hk _ => hb.block k hk⟩ (Classical.em _)
theorem PIn.take {w : World} {ps : List Part} {b o n c : Nat} (h : PIn w ps (.slice (some ⟨b, o, none⟩) n c)) (k : Nat) (hk : k ≤ ps.length) : PIn w (ps.take k) (.slice (some ⟨b, o, none⟩) k c) := by
  rcases Nat.eq_zero_or_pos k with rfl | hk0
  · exact Or.inl ⟨rfl, _, c, rfl, fun h => by cases h⟩
  · rcases h with ⟨rfl, _⟩ | ⟨_, b', o', c', h, hc, hcell⟩
    · simp at hk; omega
    · simp only [Value.slice.injEq, Option.some.injEq, Addr.mk.injEq, and_true] at h
      obtain ⟨⟨rfl, rfl⟩, _, rfl⟩ := h
      have hl : (ps.take k).length = k := by simp; omega
      refine Or.inr ⟨by omega, b, o, c, by rw [hl], by omega, fun j u hj => hcell j u ?_⟩
      have e : rowOf ps = rowOf (ps.take k) ++ rowOf (ps.drop k) := by rw [← rowOf_append, List.take_append_drop]
      rw [e, List.getElem?_append_left]
      · exact hj
      · exact (List.getElem?_eq_some_iff.1 hj).1
/-- the order of parts, of keys -/
def ordI (a b : Int) : Int := if a < b then -1 else if b < a then 1 else 0
def cmpP (p q : Part) : Int := if p.text then (if q.text then Lib.compareBytes p.say.data.toList q.say.data.toList else 1) else if q.text then -1 else ordI p.n q.n
def cmpK : List Part → List Part → Int
  | [], [] => 0
  | [], _ :: _ => -1
  | _ :: _, [] => 1
  | p :: ps, q :: qs => if cmpP p q ≠ 0 then cmpP p q else cmpK ps qs
end K
open K
theorem ret_i {a b : Int} (h : a = b) : Ending.returned (.int .i64 a) = .returned (.int .i64 b) := by rw [h]
theorem isNaN_i64 (a : Int) (w : World) : Calls Tryd.prog 62 #[.int .i64 a] w fun e w' => e = .returned (.bool false) ∧ w' = w := by
  have t0 : (a != a) = false := by simp
  go_enter Tryd.func62, Tryd.ntmps62
  go_wp2_with fail
  go_ret
  exact ⟨by simp, rfl⟩
set_option maxRecDepth 100000 in
theorem compare_i64 (a b : Int) (w : World) : Calls Tryd.prog 50 #[.int .i64 a, .int .i64 b] w fun e w' => e = .returned (.int .i64 (ordI a b)) ∧ w' = w := by
  obtain ⟨R, hR⟩ : ∃ R, ordI a b = R := ⟨_, rfl⟩
  rw [hR]
  have HR := hid hR
  clear hR
  rcases Int.lt_trichotomy a b with h | h | h
  · have t0 : decide (a < b) = true := decide_eq_true h
    have HE : Hid (R = -1) := by show _ = _; rw [← HR.out]; unfold ordI; rw [if_pos h]
    clear HR
    go_enter Tryd.func50, Tryd.ntmps50
    go_wp2_with fail
    refine (isNaN_i64 a w).mono ?_
    rintro e w' ⟨rfl, rfl⟩
    go_wp2_with fail
    refine (isNaN_i64 b w').mono ?_
    rintro e w' ⟨rfl, rfl⟩
    go_wp2_with fail
    go_ret
    exact ⟨ret_i (a := -1) HE.out.symm, rfl⟩
  · subst h
    have t0 : decide (a < a) = false := by simp
    have HE : Hid (R = 0) := by show _ = _; rw [← HR.out]; unfold ordI; simp
    clear HR
    go_enter Tryd.func50, Tryd.ntmps50
    go_wp2_with fail
    refine (isNaN_i64 a w).mono ?_
    rintro e w' ⟨rfl, rfl⟩
    go_wp2_with fail
    refine (isNaN_i64 a w').mono ?_
    rintro e w' ⟨rfl, rfl⟩
    go_wp2_with fail
    go_ret
    exact ⟨ret_i (a := 0) HE.out.symm, rfl⟩
  · have t0 : decide (a < b) = false := decide_eq_false (by omega)
    have t1 : decide (b < a) = true := decide_eq_true h
    have HE : Hid (R = 1) := by show _ = _; rw [← HR.out]; unfold ordI; rw [if_neg (by omega), if_pos h]
    clear HR
    go_enter Tryd.func50, Tryd.ntmps50
    go_wp2_with fail
    refine (isNaN_i64 a w).mono ?_
    rintro e w' ⟨rfl, rfl⟩
    go_wp2_with fail
    refine (isNaN_i64 b w').mono ?_
    rintro e w' ⟨rfl, rfl⟩
    go_wp2_with fail
    go_ret
    exact ⟨ret_i (a := 1) HE.out.symm, rfl⟩

theorem row3 {w : World} {b : Nat} {x y z : Value} {t : TypeId} (h : w.heap[b]? = some (.cells #[x, y, z] t (0, 0))) :
    w.cell? ⟨b, 0, none⟩ = some x ∧ w.cell? ⟨b, 1, none⟩ = some y ∧ w.cell? ⟨b, 2, none⟩ = some z := by
  refine ⟨?_, ?_, ?_⟩ <;> rw [cell_of_row _ _ _ _ _ _ h] <;> rfl

set_option maxRecDepth 100000 in
set_option maxHeartbeats 4000000 in
theorem cmpPart_any (p q : Part) (w : World) : Calls Tryd.prog 39 #[.agg #[.bool p.text, .int .i64 p.n, .string p.say], .agg #[.bool q.text, .int .i64 q.n, .string q.say]] w fun e w' => e = .returned (.int .i64 (cmpP p q)) ∧ Below w.heap.size w w' := by
  obtain ⟨t, n, s⟩ := p
  obtain ⟨t', n', s'⟩ := q
  have HB := hid (((Below.refl w.heap.size w).alloc (Nat.le_refl _) (.cells #[.bool t, .int .i64 n, .string s] 26)).alloc (by simp) (.cells #[.bool t', .int .i64 n', .string s'] 26))
  cases t <;> cases t'
  · have cN := compare_i64 n n'
    obtain ⟨r, hr⟩ : ∃ r, ordI n n' = r := ⟨_, rfl⟩
    rw [show cmpP ⟨false, n, s⟩ ⟨false, n', s'⟩ = ordI n n' from rfl]
    rw [hr] at cN ⊢
    clear hr
    go_enter Tryd.func39, Tryd.ntmps39
    go_wp2_with fail
    refine (cN _).mono ?_
    rintro e w' ⟨rfl, rfl⟩
    go_wp2_with fail
    go_ret
    exact ⟨rfl, HB.out⟩
  · rw [show cmpP ⟨false, n, s⟩ ⟨true, n', s'⟩ = -1 from rfl]
    go_enter Tryd.func39, Tryd.ntmps39
    go_wp2_with fail
    go_ret
    exact ⟨rfl, HB.out⟩
  · rw [show cmpP ⟨true, n, s⟩ ⟨false, n', s'⟩ = 1 from rfl]
    go_enter Tryd.func39, Tryd.ntmps39
    go_wp2_with fail
    go_ret
    exact ⟨rfl, HB.out⟩
  · have cS := Tryd.strings_Compare s s'
    obtain ⟨r, hr⟩ : ∃ r, Lib.compareBytes s.data.toList s'.data.toList = r := ⟨_, rfl⟩
    rw [show cmpP ⟨true, n, s⟩ ⟨true, n', s'⟩ = Lib.compareBytes s.data.toList s'.data.toList from rfl]
    rw [hr] at cS ⊢
    clear hr
    go_enter Tryd.func39, Tryd.ntmps39
    go_wp2_with fail
    refine (cS _).mono ?_
    rintro e w' ⟨rfl, rfl⟩
    go_wp2_with fail
    go_ret
    exact ⟨rfl, HB.out⟩
end Go.Proofs.YtfadnhihcobclaaDoor
