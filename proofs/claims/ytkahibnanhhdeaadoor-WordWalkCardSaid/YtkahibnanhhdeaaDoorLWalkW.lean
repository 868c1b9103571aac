/- The walk of the law WordWalk. -/
import Derived.Test.YtkahibnanhhdeaaDoorLBackW
namespace Go.Proofs.YtkahibnanhhdeaaDoor
open Go.RowKit
open Go.Lib (hid validD)

set_option maxRecDepth 100000 in
set_option maxHeartbeats 4000000 in
theorem walk_walk (s : ByteArray) (w : World) (hs : s.size ≤ 140737488351232) (hA : All w) :
    Calls Tryd.prog 10 #[.string s] w fun e w' => e = .returned (.bool true) ∧ Below w.heap.size w w' := by
  have c0 := works_any w hA
  obtain ⟨V, hV⟩ : ∃ V, validD s.data.toList = V := ⟨_, rfl⟩
  have cV : ∀ X, All X → Calls Tryd.prog 15 #[.string s] X fun e w' => e = .returned (.bool V) ∧ Below X.heap.size X w' := fun X h => by
    have := utf8_any s X (by omega) h.tabs
    rwa [hV] at this
  have HV := hid hV
  clear hV
  go_enter Tryd.func10, Tryd.ntmps10
  go_wp2_with fail
  refine c0.mono ?_
  rintro e w0 ⟨rfl, b0⟩
  go_wp2_with fail
  go_loopw [3] (fun i wr => ∃ k : Nat, k ≤ s.size ∧ i = .int .i64 k ∧ Hid (Below w.heap.size w wr) ∧ Hid (validD (s.data.toList.drop k) = V)) (fun i _ => s.size - (intOf i).toNat)
  case atStart => exact ⟨0, by omega, rfl, b0, HV.out⟩
  case round =>
    obtain ⟨k, hk, rfl, hb, hR⟩ := hrel
    have aR := hA.keep hb.out
    by_cases hlt : k < s.size
    · have hl : decide ((k : Int) < (s.size : Int)) = true := by simp; omega
      have hlen : 0 < (s.data.toList.drop k).length := by rw [List.length_drop, Array.length_toList]; show 0 < s.size - k; omega
      have hA' := at_any s (k : Int) wr aR.tabs
      rw [W.atD_in _ _ (by simpa using hlt)] at hA'
      rcases W.head_cases (s.data.toList.drop k) hlen with ⟨h1, h2⟩ | ⟨c, m, h1, h2, h3, h4, h5, h6⟩
      · rw [h1] at hA'
        have cA : Calls Tryd.prog 19 #[.string s, .int .i64 k] wr fun e w' => e = .returned (.tuple #[.int .i64 0, .int .i64 0, .bool false]) ∧ Below wr.heap.size wr w' := hA'
        have HF : Hid (V = false) := by show _ = _; rw [← hR.out, h2]
        clear h1 h2 hA' hlen
        go_wp2_with fail
        refine cA.mono ?_
        rintro e w1 ⟨rfl, b1⟩
        have b01 := hb.out.trans (b1.mono hb.out.size)
        have a1 := hA.keep b01
        clear b1
        go_wp2_with fail
        refine (cV _ a1).mono ?_
        rintro e w2 ⟨rfl, b2⟩
        have b02 := b01.trans (b2.mono b01.size)
        clear b2 a1 b01
        go_wp2_with fail
        go_ret
        exact ⟨by rw [HF.out]; rfl, b02⟩
      · have hg := W.head_good _ hlen _ _ h1
        rw [h1] at hA'
        have cA : Calls Tryd.prog 19 #[.string s, .int .i64 k] wr fun e w' => e = .returned (.tuple #[.int .i64 c, .int .i64 m, .bool true]) ∧ Below wr.heap.size wr w' := hA'
        have h4' : k + m ≤ s.size := by
          rw [List.length_drop, Array.length_toList] at h4
          have : s.data.size = s.size := rfl
          omega
        have cC : ∀ X, Calls Tryd.prog 17 #[.int .i64 c] X fun e w' => e = .returned (.tuple #[.string (s.extract k (k + m)), .bool true]) ∧ X = w' := fun X => by
          have := char_any c X
          have e1 := hg.2.1
          rw [Int.toNat_natCast] at e1
          rw [hg.1, W.bytes_eq (W.charL c) (s.extract k (k + m)) (by rw [e1, W.extract_cut, show k + m - k = m by omega])] at this
          exact this
        have hsl := slice_at s k m h4'
        have H2 : Hid (validD (s.data.toList.drop (k + m)) = V) := by
          show _ = _
          rw [← hR.out, h5, List.drop_drop]
        clear h1 h4 h5 hA' hlen hg
        have q1 : decide ((m : Int) < 1) = false := by simp; omega
        have q2 : decide ((4 : Int) < (m : Int)) = false := by simp; omega
        have q3 : decide ((s.size : Int) < (k : Int) + (m : Int)) = false := by simp; omega
        go_wp2_with fail
        refine cA.mono ?_
        rintro e w1 ⟨rfl, b1⟩
        have b01 := hb.out.trans (b1.mono hb.out.size)
        clear b1
        go_wp2_with fail
        refine (cC _).mono ?_
        rintro e w2 ⟨rfl, rfl⟩
        go_wp2_with fail
        go_roundw
        case rel => exact ⟨k + m, by omega, by go_num, b01, H2⟩
        case measure => simp [intOf]; omega
    · obtain rfl : k = s.size := by omega
      have hl : decide ((s.size : Int) < (s.size : Int)) = false := by simp
      have HT : Hid (V = true) := by
        show _ = _
        rw [← hR.out, List.drop_of_length_le (by simp)]; rfl
      go_wp2_with fail
      refine (cV _ aR).mono ?_
      rintro e w2 ⟨rfl, b2⟩
      have b02 := hb.out.trans (b2.mono hb.out.size)
      clear b2
      go_wp2_with fail
      go_ret
      exact ⟨by rw [HT.out]; rfl, b02⟩
end Go.Proofs.YtkahibnanhhdeaaDoor
