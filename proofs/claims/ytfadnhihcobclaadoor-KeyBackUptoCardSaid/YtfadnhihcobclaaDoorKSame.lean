/- The walk of the law's parts, where they are the same. -/
import Derived.Test.YtfadnhihcobclaaDoorKParts
import Derived.Deep.QuietTactic
import Derived.BigQuiet
import Derived.WalkSmall
namespace Go.Proofs.YtfadnhihcobclaaDoor
open Go.RowKit
open Go.Lib (hid)
open K
set_option maxRecDepth 100000 in
set_option maxHeartbeats 4000000 in
theorem parts_same (ps : List Part) (sa sb : Value) (w : World) (ha : PIn w ps sa) (hb : PIn w ps sb) (hl : ps.length ≤ 1000000000) :
    Calls Tryd.prog 29 #[sa, sb] w fun e w' => e = .returned (.bool true) ∧ Below w.heap.size w w' := by
  obtain ⟨n, hn⟩ : ∃ n, ps.length = n := ⟨_, rfl⟩
  obtain ⟨xa, c, hsa⟩ := ha.shape
  obtain ⟨xb, c', hsb⟩ := hb.shape
  rw [hn] at hsa hsb hl
  subst hsa hsb
  have HA := hid ha
  have HB := hid hb
  have HN := hid hn
  clear ha hb hn
  have t0 : ((n : Int) != (n : Int)) = false := by simp
  go_enter Tryd.func29, Tryd.ntmps29
  go_wp2_with fail
  go_loopw [5] (fun i wr => ∃ (k : Nat), k ≤ n ∧ i = .int .i64 k ∧ Hid (Below w.heap.size w wr)) (fun i _ => n - (intOf i).toNat)
  case atStart => exact ⟨0, by omega, rfl, Below.refl _ _⟩
  case round =>
    obtain ⟨k, hk, rfl, hb⟩ := hrel
    by_cases hlt : k < n
    · have hl0 : decide ((k : Int) < (n : Int)) = true := by simp; omega
      have hkp : k < ps.length := by have := HN.out; omega
      obtain ⟨b, o, c2, hsv, hbl, c0, c1, c2⟩ := HA.out.cells hkp
      rw [HN.out] at hsv
      simp only [Value.slice.injEq, true_and] at hsv
      obtain ⟨rfl, rfl⟩ := hsv
      obtain ⟨b', o', c3, hsv, hbl', d0, d1, d2⟩ := HB.out.cells hkp
      rw [HN.out] at hsv
      simp only [Value.slice.injEq, true_and] at hsv
      obtain ⟨rfl, rfl⟩ := hsv
      rw [← hb.out.cell (p := ⟨b, _, none⟩) hbl] at c0 c1 c2
      rw [← hb.out.cell (p := ⟨b', _, none⟩) hbl'] at d0 d1 d2
      obtain ⟨p, hp⟩ : ∃ p, ps[k] = p := ⟨_, rfl⟩
      rw [hp] at c0 c1 c2 d0 d1 d2
      clear hp hkp
      obtain ⟨t, x, s⟩ := p
      simp only at c0 c1 c2 d0 d1 d2
      have hk0 : (0 : Int) ≤ (k : Int) := by omega
      have hk1 : (k : Int) < (n : Int) := by omega
      have q0 : (t != t) = false := by simp
      have q1 : (x != x) = false := by simp
      have q2 : (s.toList == s.toList) = true := by simp
      go_wp2_with fail
      go_quiet (fail)
      go_wp2_with fail
      go_roundw
      case rel => exact ⟨k + 1, by omega, by go_num, below_drewN hb.out _⟩
      case measure => simp [intOf]; omega
    · have hl0 : decide ((k : Int) < (n : Int)) = false := by simp; omega
      go_wp2_with fail
      go_ret
      exact ⟨rfl, hb.out⟩
end Go.Proofs.YtfadnhihcobclaaDoor
