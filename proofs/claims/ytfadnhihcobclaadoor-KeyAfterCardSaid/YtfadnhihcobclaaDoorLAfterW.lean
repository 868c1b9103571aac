/- The walk of the law KeyAfter. -/
import Derived.Test.YtfadnhihcobclaaDoorKAwake
import Derived.WalkLawsBesides
import Derived.Laws.Cover1
namespace Go.Proofs.YtfadnhihcobclaaDoor
open Go.RowKit
open Go.Lib (hid)
open Go.Op (bytesLess)

namespace K
theorem less_total : ∀ (a b : List UInt8), bytesLess a b = false → (a == b) = false → bytesLess b a = true
  | [], [], _, h => by simp at h
  | [], _ :: _, h, _ => by simp [bytesLess] at h
  | _ :: _, [], _, _ => rfl
  | x :: a, y :: b, h1, h2 => by
    simp only [bytesLess, Bool.or_eq_false_iff, decide_eq_false_iff_not, Bool.and_eq_false_iff, beq_eq_false_iff_ne] at h1
    simp only [bytesLess, Bool.or_eq_true, decide_eq_true_eq, Bool.and_eq_true, beq_iff_eq]
    obtain ⟨h3, h4⟩ := h1
    by_cases e : x = y
    · subst e
      refine Or.inr ⟨rfl, less_total a b ?_ ?_⟩
      · rcases h4 with h4 | h4
        · exact absurd rfl h4
        · exact h4
      · simpa using h2
    · refine Or.inl ?_
      rw [UInt8.lt_iff_toNat_lt] at h3 ⊢
      have : x.toNat ≠ y.toNat := fun h => e (UInt8.toNat_inj.1 h)
      omega
end K

set_option maxRecDepth 100000 in
set_option maxHeartbeats 4000000 in
theorem after_walk (s t : ByteArray) (w : World) (_ : s.size ≤ 140737488351232) (_ : t.size ≤ 140737488351232) (hM : Max w) :
    Calls Tryd.prog 3 #[.string s, .string t] w fun e w' => e = .returned (.bool true) ∧ Below w.heap.size w w' := by
  have cW := awake_any w hM
  by_cases hs : s.size ≤ 5000
  · by_cases ht : t.size ≤ 5000
    · have s0 : decide ((5000 : Int) < (s.size : Int)) = false := by simp; omega
      have t0 : decide ((5000 : Int) < (t.size : Int)) = false := by simp; omega
      go_enter Tryd.func3, Tryd.ntmps3
      go_wp2_with fail
      refine cW.mono ?_
      rintro e w1 ⟨rfl, b1⟩
      have B1 := hid b1
      clear b1
      have cA := after_any s w1 (by omega)
      go_wp2_with fail
      refine cA.mono ?_
      rintro e w2 ⟨rfl, b2⟩
      have B2 := hid (B1.out.trans (b2.mono B1.out.size))
      clear b2 cA
      by_cases hE : K.afterL s.data.toList = []
      · have hall := hid (K.after_nil s.data.toList.length s.data.toList (Nat.le_refl _) hE)
        rw [hE]
        clear hE
        go_wp2_with fail
        go_loop [6] (fun i => ∃ k : Nat, k ≤ s.size ∧ i = .int .i64 k) (fun i => s.size - (intOf i).toNat)
        case atStart => exact ⟨0, by omega, rfl⟩
        case round =>
          obtain ⟨i, hi, rfl⟩ := hrel
          by_cases hlt : i < s.size
          · have hl : decide ((i : Int) < (s.size : Int)) = true := by simp; omega
            have hc : s[i] = 255 := hall.out _ (Array.getElem_mem_toList hlt)
            have p1 : ((s[i].toNat : Int) != 255) = false := by rw [hc]; rfl
            have p2 : ((s[i].toNat : Int) == 255) = true := by rw [hc]; rfl
            clear hc
            go_wp2_with fail
            go_round
            case rel => exact ⟨i + 1, by omega, by go_num⟩
            case measure => simp [intOf]; omega
          · obtain rfl : i = s.size := by omega
            have hl : decide ((s.size : Int) < (s.size : Int)) = false := by simp
            go_wp2_with fail
            go_ret
            exact ⟨rfl, B2.out⟩
      · obtain ⟨l1, l2, l3, l4⟩ := K.after_law s.data.toList t.data.toList hE
        obtain ⟨E, hEE⟩ : ∃ E : ByteArray, (⟨(K.afterL s.data.toList).toArray⟩ : ByteArray) = E := ⟨_, rfl⟩
        have hEl : E.data.toList = K.afterL s.data.toList := by rw [← hEE]
        rw [hEE]
        rw [← hEl] at l1 l2 l3 l4 hE
        have hemp : E.toList.isEmpty = false := by rw [Lib.toList_data]; cases h : E.data.toList with
          | nil => exact absurd h hE
          | cons _ _ => rfl
        have f1 : bytesLess E.toList s.toList = false := by rw [Lib.toList_data, Lib.toList_data]; exact l1
        have f2 : (E.toList == s.toList) = false := by rw [Lib.toList_data, Lib.toList_data]; exact beq_eq_false_iff_ne.2 l2
        have cB := fun X => begins_any t s X (by omega)
        obtain ⟨p, hp⟩ : ∃ p, K.beginsL t.data.toList s.data.toList = p := ⟨_, rfl⟩
        rw [hp] at cB l3 l4
        clear hE hEE hEl l1 l2 hp
        cases p
        · obtain ⟨a, ha⟩ : ∃ a, bytesLess t.toList s.toList = a := ⟨_, rfl⟩
          obtain ⟨b, hb⟩ : ∃ b, (t.toList == s.toList) = b := ⟨_, rfl⟩
          obtain ⟨c, hc⟩ : ∃ c, bytesLess t.toList E.toList = c := ⟨_, rfl⟩
          have hcc : a = false → b = false → c = false := by
            intro h1 h2
            subst h1 h2
            rw [Lib.toList_data, Lib.toList_data] at ha hb
            rw [Lib.toList_data, Lib.toList_data] at hc
            have := K.less_total _ _ ha hb
            cases c
            · rfl
            · exact absurd (l4 this hc) (by decide)
          clear l3 l4
          have HC := hid hcc
          clear hcc
          go_wp2_with fail
          refine (cB w2).mono ?_
          rintro e w3 ⟨rfl, b3⟩
          have B3 := hid (B2.out.trans (b3.mono B2.out.size))
          clear b3
          have key : (a = true ∨ b = true ∨ (a = false ∧ b = false ∧ c = false)) := by
            cases a
            · cases b
              · exact Or.inr (Or.inr ⟨rfl, rfl, HC.out rfl rfl⟩)
              · exact Or.inr (Or.inl rfl)
            · exact Or.inl rfl
          clear HC
          rcases key with rfl | rfl | ⟨rfl, rfl, rfl⟩
          all_goals
            go_wp2_with fail
            go_ret
            exact ⟨rfl, B3.out⟩
        · have f3 : bytesLess t.toList E.toList = true := by rw [Lib.toList_data, Lib.toList_data]; exact l3 rfl
          clear l3 l4
          go_wp2_with fail
          refine (cB w2).mono ?_
          rintro e w3 ⟨rfl, b3⟩
          have B3 := hid (B2.out.trans (b3.mono B2.out.size))
          clear b3
          obtain ⟨a, ha⟩ : ∃ a, bytesLess t.toList s.toList = a := ⟨_, rfl⟩
          obtain ⟨b, hb⟩ : ∃ b, (t.toList == s.toList) = b := ⟨_, rfl⟩
          cases a
          · cases b
            · go_wp2_with fail
              refine (cB w3).mono ?_
              rintro e w4 ⟨rfl, b4⟩
              have B4 := hid (B3.out.trans (b4.mono B3.out.size))
              clear b4
              go_wp2_with fail
              go_ret
              exact ⟨rfl, B4.out⟩
            · go_wp2_with fail
              go_ret
              exact ⟨rfl, B3.out⟩
          · go_wp2_with fail
            go_ret
            exact ⟨rfl, B3.out⟩
    · have s0 : decide ((5000 : Int) < (s.size : Int)) = false := by simp; omega
      have t0 : decide ((5000 : Int) < (t.size : Int)) = true := by simp; omega
      go_enter Tryd.func3, Tryd.ntmps3
      go_wp2_with fail
      refine cW.mono ?_
      rintro e w1 ⟨rfl, b1⟩
      go_wp2_with fail
      go_ret
      exact ⟨rfl, b1⟩
  · have s0 : decide ((5000 : Int) < (s.size : Int)) = true := by simp; omega
    go_enter Tryd.func3, Tryd.ntmps3
    go_wp2_with fail
    refine cW.mono ?_
    rintro e w1 ⟨rfl, b1⟩
    go_wp2_with fail
    go_ret
    exact ⟨rfl, b1⟩
end Go.Proofs.YtfadnhihcobclaaDoor
