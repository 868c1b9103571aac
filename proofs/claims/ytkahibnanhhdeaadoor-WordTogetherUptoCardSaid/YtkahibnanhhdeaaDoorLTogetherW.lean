/- The walk of the law WordTogether. -/
import Derived.Test.YtkahibnanhhdeaaDoorLPlainW
namespace Go.Proofs.YtkahibnanhhdeaaDoor
open Go.RowKit
open Go.Lib (hid validD)

set_option maxRecDepth 100000 in
set_option maxHeartbeats 4000000 in
theorem together_walk (s t : ByteArray) (cut : Int) (w : World) (_ : s.size ≤ 140737488351232) (_ : t.size ≤ 140737488351232) (_ : -9223372036854775808 ≤ cut ∧ cut ≤ 9223372036854775807) (hA : All w) (hc : s.size + t.size ≤ 1048576) :
    Calls Tryd.prog 11 #[.string s, .string t, .int .i64 cut] w fun e w' => e = .returned (.bool true) ∧ Below w.heap.size w w' := by
  have c0 := works_any w hA
  obtain ⟨U, hU⟩ : ∃ U, validD s.data.toList = U := ⟨_, rfl⟩
  obtain ⟨V, hV⟩ : ∃ V, validD t.data.toList = V := ⟨_, rfl⟩
  have cU : ∀ X, All X → Calls Tryd.prog 15 #[.string s] X fun e w' => e = .returned (.bool U) ∧ Below X.heap.size X w' := fun X h => by
    have := utf8_any s X (by omega) h.tabs
    rwa [hU] at this
  have cV : ∀ X, All X → Calls Tryd.prog 15 #[.string t] X fun e w' => e = .returned (.bool V) ∧ Below X.heap.size X w' := fun X h => by
    have := utf8_any t X (by omega) h.tabs
    rwa [hV] at this
  cases U
  · clear hU hV hc
    go_enter Tryd.func11, Tryd.ntmps11
    go_wp2_with fail
    refine c0.mono ?_
    rintro e w0 ⟨rfl, b0⟩
    have a0 := hA.keep b0
    go_wp2_with fail
    refine (cU _ a0).mono ?_
    rintro e w1 ⟨rfl, b1⟩
    have b01 := b0.trans (b1.mono b0.size)
    clear b1 b0 a0
    go_wp2_with fail
    go_ret
    exact ⟨rfl, b01⟩
  · cases V
    · clear hU hV hc
      go_enter Tryd.func11, Tryd.ntmps11
      go_wp2_with fail
      refine c0.mono ?_
      rintro e w0 ⟨rfl, b0⟩
      have a0 := hA.keep b0
      go_wp2_with fail
      refine (cU _ a0).mono ?_
      rintro e w1 ⟨rfl, b1⟩
      have b01 := b0.trans (b1.mono b0.size)
      have a1 := hA.keep b01
      clear b1 b0 a0
      go_wp2_with fail
      refine (cV _ a1).mono ?_
      rintro e w2 ⟨rfl, b2⟩
      have b02 := b01.trans (b2.mono b01.size)
      clear b2 b01 a1
      go_wp2_with fail
      go_ret
      exact ⟨rfl, b02⟩
    · obtain ⟨q, hq⟩ : ∃ q : ByteArray, (⟨(s.data.toList ++ t.data.toList).toArray⟩ : ByteArray) = q := ⟨_, rfl⟩
      have hql : q.data.toList = s.data.toList ++ t.data.toList := by rw [← hq]
      have hqs : q.size = s.size + t.size := by
        have := congrArg List.length hql
        rw [List.length_append] at this
        exact this
      have hcat : ∀ X : World, (Op.stringOp .add s t).run Tryd.prog X = .ok (.string q) X := by
        intro X
        have := run_string_add_lists (P := Tryd.prog) X s.data.toList t.data.toList (by have e : s.data.toList.length = s.size := rfl; omega) (by have e : s.data.toList.length = s.size := rfl; have e2 : t.data.toList.length = t.size := rfl; omega)
        rw [hq] at this
        exact this
      have hqv : validD q.data.toList = true := by rw [hql, W.valid_append _ _ _ (Nat.le_refl _) hU, hV]
      have cQ : ∀ X, All X → Calls Tryd.prog 15 #[.string q] X fun e w' => e = .returned (.bool true) ∧ Below X.heap.size X w' := fun X h => by
        have := utf8_any q X (by omega) h.tabs
        rwa [hqv] at this
      obtain ⟨k, hkl, hk⟩ := place_at cut (q.size + 1) (by omega) (by omega)
      rw [show ((q.size + 1 : Nat) : Int) = (q.size : Int) + 1 by omega] at hk
      have hcv := W.cut_valid q.size q.data.toList k (Nat.le_refl _) (by show k ≤ q.size; omega) hqv
      have hsl1 : ∀ X : World, (Instr.slice 9 (.string q) none (some (.int .i64 (k : Int))) none).run Tryd.prog X = .ok (.string (q.extract 0 k)) X := by
        intro X
        have := run_slice_string_h (P := Tryd.prog) (w := X) (s := q) (t := 9) Tryd.underlying9 .i64 (k : Int) (by omega) (by omega)
        rw [Int.toNat_natCast] at this
        exact this
      have hsl2 : ∀ X : World, (Instr.slice 9 (.string q) (some (.int .i64 (k : Int))) none none).run Tryd.prog X = .ok (.string (q.extract k q.size)) X := by
        intro X
        have := run_slice_string_l (P := Tryd.prog) (w := X) (s := q) (t := 9) Tryd.underlying9 .i64 (k : Int) (by omega) (by omega)
        rw [Int.toNat_natCast] at this
        exact this
      have x1 : (q.extract 0 k).data.toList = q.data.toList.take k := by rw [W.extract_cut]; rfl
      have x2 : (q.extract k q.size).data.toList = q.data.toList.drop k := W.extract_from q k
      have y1 : (q.extract 0 k).size ≤ 2000000 := by
        have := congrArg List.length x1
        rw [List.length_take] at this
        have e : (q.extract 0 k).data.toList.length = (q.extract 0 k).size := rfl
        omega
      have y2 : (q.extract k q.size).size ≤ 2000000 := by
        have := congrArg List.length x2
        rw [List.length_drop] at this
        have e : (q.extract k q.size).data.toList.length = (q.extract k q.size).size := rfl
        have e2 : q.data.toList.length = q.size := rfl
        omega
      rw [← x1, ← x2] at hcv
      obtain ⟨⟨a0, a1, bg⟩, hat⟩ : ∃ P, W.atD q.data.toList k = P := ⟨_, rfl⟩
      rw [hat] at hcv
      have cA : ∀ X, All X → Calls Tryd.prog 19 #[.string q, .int .i64 k] X fun e w' => e = .returned (.tuple #[.int .i64 a0, .int .i64 a1, .bool bg]) ∧ Below X.heap.size X w' := fun X h => by
        have := at_any q (k : Int) X h.tabs
        rw [hat] at this
        exact this
      obtain ⟨p1, hp1⟩ : ∃ p1, q.extract 0 k = p1 := ⟨_, rfl⟩
      obtain ⟨p2, hp2⟩ : ∃ p2, q.extract k q.size = p2 := ⟨_, rfl⟩
      rw [hp1] at hcv hsl1 y1
      rw [hp2] at hcv hsl2 y2
      obtain ⟨v1, hv1⟩ : ∃ v1, validD p1.data.toList = v1 := ⟨_, rfl⟩
      obtain ⟨v2, hv2⟩ : ∃ v2, validD p2.data.toList = v2 := ⟨_, rfl⟩
      have cP1 : ∀ X, All X → Calls Tryd.prog 15 #[.string p1] X fun e w' => e = .returned (.bool v1) ∧ Below X.heap.size X w' := fun X h => by
        have := utf8_any p1 X (by omega) h.tabs
        rwa [hv1] at this
      have cP2 : ∀ X, All X → Calls Tryd.prog 15 #[.string p2] X fun e w' => e = .returned (.bool v2) ∧ Below X.heap.size X w' := fun X h => by
        have := utf8_any p2 X (by omega) h.tabs
        rwa [hv2] at this
      rw [hv1, hv2] at hcv
      have hke : ((k : Int) == (q.size : Int)) = decide (k = q.data.toList.length) := by
        by_cases h : k = q.size
        · rw [decide_eq_true (by exact h), h]; exact beq_self_eq_true _
        · rw [decide_eq_false (by exact h)]; exact beq_eq_false_iff_ne.2 (by omega)
      obtain ⟨z, hz⟩ : ∃ z, decide (k = q.data.toList.length) = z := ⟨_, rfl⟩
      rw [hz] at hke hcv
      have HCV := hid hcv
      have hq1 : q.size ≤ 1048576 := by omega
      have HE := hid hke
      clear hqs
      clear hU hV hc hq hql hcv hqv x1 x2 hat hp1 hp2 hv1 hv2 hz
      go_enter Tryd.func11, Tryd.ntmps11
      go_wp2_with fail
      refine c0.mono ?_
      rintro e w0 ⟨rfl, b0⟩
      have a0' := hA.keep b0
      go_wp2_with fail
      refine (cU _ a0').mono ?_
      rintro e w1 ⟨rfl, b1⟩
      have b01 := b0.trans (b1.mono b0.size)
      have a1' := hA.keep b01
      clear b1 b0 a0'
      go_wp2_with fail
      refine (cV _ a1').mono ?_
      rintro e w2 ⟨rfl, b2⟩
      have b02 := b01.trans (b2.mono b01.size)
      have a2' := hA.keep b02
      clear b2 b01 a1'
      go_wp2_with fail
      refine (cQ _ a2').mono ?_
      rintro e w3 ⟨rfl, b3⟩
      have b03 := b02.trans (b3.mono b02.size)
      have a3' := hA.keep b03
      clear b3 b02 a2'
      go_wp2_with fail
      refine (cA _ a3').mono ?_
      rintro e w4 ⟨rfl, b4⟩
      have b04 := b03.trans (b4.mono b03.size)
      have a4' := hA.keep b04
      clear b4 b03 a3'
      go_wp2_with fail
      refine (cP1 _ a4').mono ?_
      rintro e w5 ⟨rfl, b5⟩
      have b05 := b04.trans (b5.mono b04.size)
      have a5' := hA.keep b05
      clear b5 b04 a4'
      cases v1
      · cases bg
        · cases z
          · go_wp2_with fail
            go_ret
            exact ⟨rfl, b05⟩
          · go_wp2_with fail
            go_ret
            exact absurd HCV.out (by cases v2 <;> decide)
        · go_wp2_with fail
          go_ret
          exact absurd HCV.out (by cases v2 <;> cases z <;> decide)
      · go_wp2_with fail
        refine (cP2 _ a5').mono ?_
        rintro e w6 ⟨rfl, b6⟩
        have b06 := b05.trans (b6.mono b05.size)
        clear b6 b05 a5'
        cases v2 <;> cases bg <;> cases z
        all_goals
          first
            | exact absurd HCV.out (by decide)
            | (go_wp2_with fail
               go_ret
               exact ⟨rfl, b06⟩)
end Go.Proofs.YtkahibnanhhdeaaDoor
