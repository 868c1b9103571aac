/- The walk of the law WordChars. -/
import Derived.Test.YtkahibnanhhdeaaDoorWChar2
namespace Go.Proofs.YtkahibnanhhdeaaDoor
open Go.RowKit
open Go.Lib (hid)

set_option maxRecDepth 100000 in
set_option maxHeartbeats 1000000 in
theorem chars_walk (c : Int) (s : ByteArray) (i : Int) (w : World) (_hc : -9223372036854775808 ≤ c ∧ c ≤ 9223372036854775807) (hs : s.size ≤ 140737488351232) (_hi : -9223372036854775808 ≤ i ∧ i ≤ 9223372036854775807) (hT : Tabs w) :
    Calls Tryd.prog 4 #[.int .i64 c, .string s, .int .i64 i] w fun e w' => e = .returned (.bool true) ∧ Below w.heap.size w w' := by
  obtain ⟨hz0, hz1⟩ := hT.size
  obtain ⟨L, hL⟩ : ∃ L, W.charL c = L := ⟨_, rfl⟩
  obtain ⟨O, hO⟩ : ∃ O, W.charOk c = O := ⟨_, rfl⟩
  have c1 := char_any c w
  have c2 := fun W => refChar_any c W
  rw [hL, hO] at c1
  simp only [hL, hO] at c2
  clear hL hO
  go_enter Tryd.func4, Tryd.ntmps4
  go_wp2_with fail
  refine c1.mono ?_
  rintro e w1 ⟨rfl, rfl⟩
  go_wp2_with fail
  refine (c2 _).mono ?_
  rintro e w1 ⟨rfl, hb1⟩
  clear c1 c2
  go_wp2_with fail
  go_loopw [11] (fun k wr => ∃ z : Int, -1 ≤ z ∧ z ≤ 64 ∧ k = .int .i64 z ∧ Below w.heap.size w wr) (fun k _ => (64 - intOf k).toNat)
  case atStart => exact ⟨-1, by omega, by omega, rfl, hb1⟩
  case round =>
    obtain ⟨z, h0, h1, rfl, hb⟩ := hrel
    have hTr : Tabs wr := hT.below hb hz0 hz1
    by_cases hz : z < 64
    · have t0 : decide (z < 64) = true := by simpa using hz
      by_cases hn : z < 0
      · have t1 : decide (z < 0) = true := by simp; omega
        have hA := at_any s i wr hTr
        have hB := fun W => refAt_any s i W (by omega)
        obtain ⟨p, hp⟩ : ∃ p, W.atD s.data.toList i = p := ⟨_, rfl⟩
        rw [hp] at hA
        simp only [hp] at hB
        clear hp
        obtain ⟨p1, p2, p3⟩ := p
        simp only [ret3] at hA hB
        go_wp2_with fail
        refine hA.mono ?_
        rintro e w2 ⟨rfl, hb2⟩
        go_wp2_with fail
        refine (hB _).mono ?_
        rintro e w3 ⟨rfl, hb3⟩
        go_wp2_with fail
        have s2 := hb2.size
        have s3 := hb3.size
        have sr := hb.size
        go_roundw
        case rel => exact ⟨z + 1, by omega, by omega, by go_num, (hb.trans (hb2.mono sr)).trans (hb3.mono (by omega))⟩
        case measure => simp [intOf]; omega
      · have t1 : decide (z < 0) = false := by simp; omega
        have hA := at_any s z wr hTr
        have hB := fun W => refAt_any s z W (by omega)
        obtain ⟨p, hp⟩ : ∃ p, W.atD s.data.toList z = p := ⟨_, rfl⟩
        rw [hp] at hA
        simp only [hp] at hB
        clear hp
        obtain ⟨p1, p2, p3⟩ := p
        simp only [ret3] at hA hB
        go_wp2_with fail
        refine hA.mono ?_
        rintro e w2 ⟨rfl, hb2⟩
        go_wp2_with fail
        refine (hB _).mono ?_
        rintro e w3 ⟨rfl, hb3⟩
        go_wp2_with fail
        have s2 := hb2.size
        have s3 := hb3.size
        have sr := hb.size
        go_roundw
        case rel => exact ⟨z + 1, by omega, by omega, by go_num, (hb.trans (hb2.mono sr)).trans (hb3.mono (by omega))⟩
        case measure => simp [intOf]; omega
    · have t0 : decide (z < 64) = false := by simpa using hz
      go_wp2_with fail
      go_ret
      exact ⟨rfl, hb⟩
end Go.Proofs.YtkahibnanhhdeaaDoor
