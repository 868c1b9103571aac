/- The walk of the law WordNames (closed). -/
import Derived.Test.YtkahibnanhhdeaaDoorLBackW
import Derived.Test.YtkahibnanhhdeaaDoorWPlainM
namespace Go.Proofs.YtkahibnanhhdeaaDoor
open Go.RowKit
open Go.Lib (hid itoa validD)

theorem row_keep {g : Nat} {o : Obj} {w w' : World} (h : w.heap[g]? = some o) (b : Below w.heap.size w w') : w'.heap[g]? = some o := by
  have hlt : g < w.heap.size := by
    rcases Nat.lt_or_ge g w.heap.size with h' | h'
    · exact h'
    · simp [Array.getElem?_eq_none h'] at h
  rw [b.block g hlt]; exact h
theorem row_str {g : Nat} {w : World} (l : List ByteArray) (h : w.heap[g]? = some (.cells (l.map Value.string).toArray 9 (0, 0))) (k : Nat) (hk : k < l.length) : w.cell? ⟨g, k, none⟩ = some (.string l[k]) := by
  rw [cell_of_row _ _ _ _ _ _ h]; simp [hk]
theorem row_int {g : Nat} {w : World} (l : List Int) (h : w.heap[g]? = some (.cells (l.map (Value.int .i64)).toArray 3 (0, 0))) (k : Nat) (hk : k < l.length) : w.cell? ⟨g, k, none⟩ = some (.int .i64 l[k]) := by
  rw [cell_of_row _ _ _ _ _ _ h]; simp [hk]
theorem badN_size : ∀ s ∈ W.badN, s.size ≤ 100 := by decide +kernel
theorem badU_size : ∀ s ∈ W.badU, s.size ≤ 100 := by decide +kernel
theorem badQ_size : ∀ s ∈ W.badQ, s.size ≤ 100 := by decide +kernel

theorem nm (s : ByteArray) (b : Bool) (hs : s.size ≤ 9223372036854775807) (h : W.nameB s.data.toList = b) (X : World) :
    Calls Tryd.prog 13 #[.string s] X fun e w' => e = .returned (.bool b) ∧ Below X.heap.size X w' := by
  have := name_any s X hs
  rwa [h] at this

set_option maxRecDepth 100000 in
set_option maxHeartbeats 4000000 in
theorem names_walk (w : World) (hA : All w) :
    Calls Tryd.prog 7 #[] w fun e w' => e = .returned (.bool true) ∧ Below w.heap.size w w' := by
  have c0 := works_any w hA
  have p1 : ∀ X, All X → Calls Tryd.prog 21 #[.string ⟨#[45, 57, 50, 50, 51, 51, 55, 50, 48, 51, 54, 56, 53, 52, 55, 55, 53, 56, 48, 56]⟩] X fun e w' => e = .returned (.tuple #[.int .i64 (-9223372036854775808), .bool true]) ∧ Below X.heap.size X w' := fun X h => by
    have := parse_all ⟨#[45, 57, 50, 50, 51, 51, 55, 50, 48, 51, 54, 56, 53, 52, 55, 55, 53, 56, 48, 56]⟩ X (by decide) h
    rw [show (⟨#[45, 57, 50, 50, 51, 51, 55, 50, 48, 51, 54, 56, 53, 52, 55, 55, 53, 56, 48, 56]⟩ : ByteArray).data.toList = itoa (-9223372036854775808) from W.itoa_least.symm, W.parse_itoa _ (by unfold W.Fits; omega)] at this
    exact this
  have p2 : ∀ X, All X → Calls Tryd.prog 21 #[.string ⟨#[57, 50, 50, 51, 51, 55, 50, 48, 51, 54, 56, 53, 52, 55, 55, 53, 56, 48, 55]⟩] X fun e w' => e = .returned (.tuple #[.int .i64 9223372036854775807, .bool true]) ∧ Below X.heap.size X w' := fun X h => by
    have := parse_all ⟨#[57, 50, 50, 51, 51, 55, 50, 48, 51, 54, 56, 53, 52, 55, 55, 53, 56, 48, 55]⟩ X (by decide) h
    rw [show (⟨#[57, 50, 50, 51, 51, 55, 50, 48, 51, 54, 56, 53, 52, 55, 55, 53, 56, 48, 55]⟩ : ByteArray).data.toList = itoa 9223372036854775807 from W.itoa_most.symm, W.parse_itoa _ (by unfold W.Fits; omega)] at this
    exact this
  have p3 : ∀ X, All X → Calls Tryd.prog 23 #[.int .i64 (-9223372036854775808)] X fun e w' => e = .returned (.string ⟨#[45, 57, 50, 50, 51, 51, 55, 50, 48, 51, 54, 56, 53, 52, 55, 55, 53, 56, 48, 56]⟩) ∧ Below X.heap.size X w' := fun X h => by
    have := number_any (-9223372036854775808) X (by omega) (by omega) h.nums.pows
    rwa [W.itoa_least] at this
  have a1 : ∀ X, All X → Calls Tryd.prog 19 #[.string ⟨#[97]⟩, .int .i64 1] X fun e w' => e = .returned (.tuple #[.int .i64 0, .int .i64 0, .bool false]) ∧ Below X.heap.size X w' := fun X h => by
    have := at_any ⟨#[97]⟩ 1 X h.tabs
    rw [show W.atD (⟨#[97]⟩ : ByteArray).data.toList 1 = (0, 0, false) by decide +kernel] at this
    exact this
  have a2 : ∀ X, All X → Calls Tryd.prog 19 #[.string ⟨#[97]⟩, .int .i64 (-1)] X fun e w' => e = .returned (.tuple #[.int .i64 0, .int .i64 0, .bool false]) ∧ Below X.heap.size X w' := fun X h => by
    have := at_any ⟨#[97]⟩ (-1) X h.tabs
    rw [show W.atD (⟨#[97]⟩ : ByteArray).data.toList (-1) = (0, 0, false) by decide +kernel] at this
    exact this
  have a3 : ∀ X, All X → Calls Tryd.prog 19 #[.string ⟨#[239, 191, 189]⟩, .int .i64 0] X fun e w' => e = .returned (.tuple #[.int .i64 65533, .int .i64 3, .bool true]) ∧ Below X.heap.size X w' := fun X h => by
    have := at_any ⟨#[239, 191, 189]⟩ 0 X h.tabs
    rw [show W.atD (⟨#[239, 191, 189]⟩ : ByteArray).data.toList 0 = (65533, 3, true) by decide +kernel] at this
    exact this
  have q1 : ∀ X, Calls Tryd.prog 27 #[.string ⟨#[97, 34, 10, 0]⟩] X fun e w' => e = .returned (.string ⟨#[34, 97, 92, 34, 92, 110, 92, 120, 48, 48, 34]⟩) ∧ Below X.heap.size X w' := fun X => by
    have := quote_any ⟨#[97, 34, 10, 0]⟩ X (by decide)
    rw [show W.quoteL _ = [34, 97, 92, 34, 92, 110, 92, 120, 48, 48, 34] by decide +kernel] at this
    exact this
  have n1 := nm ⟨#[97, 98, 99, 100, 101, 102, 103, 104, 105, 106, 107, 108, 109, 110, 111, 112, 113, 114, 115, 116, 117, 118, 119, 120, 121, 122, 65, 66, 67, 68, 69, 70]⟩ true (by decide) (by decide +kernel)
  have n2 := nm ⟨#[97, 98, 99, 100, 101, 102, 103, 104, 105, 106, 107, 108, 109, 110, 111, 112, 113, 114, 115, 116, 117, 118, 119, 120, 121, 122, 65, 66, 67, 68, 69, 70, 103]⟩ false (by decide) (by decide +kernel)
  have n3 := nm ⟨#[]⟩ false (by decide) (by decide +kernel)
  have n4 := nm ⟨#[97, 32, 98]⟩ false (by decide) (by decide +kernel)
  have n5 := nm ⟨#[45, 97]⟩ false (by decide) (by decide +kernel)
  have n6 := nm ⟨#[65, 45, 49, 46, 95]⟩ true (by decide) (by decide +kernel)
  go_enter Tryd.func7, Tryd.ntmps7
  go_wp2_with fail
  refine c0.mono ?_
  rintro e w0 ⟨rfl, b0⟩
  go_wp2_with fail
  refine (n1 _).mono ?_
  rintro e w1 ⟨rfl, b1⟩
  have b01 := b0.trans (b1.mono b0.size)
  clear b1 b0
  go_wp2_with fail
  refine (n2 _).mono ?_
  rintro e w2 ⟨rfl, b2⟩
  have b02 := b01.trans (b2.mono b01.size)
  clear b2 b01
  go_wp2_with fail
  refine (n3 _).mono ?_
  rintro e w3 ⟨rfl, b3⟩
  have b03 := b02.trans (b3.mono b02.size)
  clear b3 b02
  go_wp2_with fail
  refine (n4 _).mono ?_
  rintro e w4 ⟨rfl, b4⟩
  have b04 := b03.trans (b4.mono b03.size)
  clear b4 b03
  go_wp2_with fail
  refine (n5 _).mono ?_
  rintro e w5 ⟨rfl, b5⟩
  have b05 := b04.trans (b5.mono b04.size)
  clear b5 b04
  go_wp2_with fail
  refine (n6 _).mono ?_
  rintro e w6 ⟨rfl, b6⟩
  have b06 := b05.trans (b6.mono b05.size)
  clear b6 b05 n1 n2 n3 n4 n5 n6
  go_wp2_with fail
  obtain ⟨g1, hg1⟩ : ∃ g, w6.heap.size = g := ⟨_, rfl⟩
  have hr1 : (w6.alloc (.cells (W.badN.map Value.string).toArray 9)).heap[g1]? = some (.cells (W.badN.map Value.string).toArray 9 (0, 0)) := by rw [← hg1]; exact heap_alloc_new w6 _
  have bb1 := b06.alloc b06.size (.cells (W.badN.map Value.string).toArray 9)
  have HR1 := hid hr1
  have HB1 := hid bb1
  rw [hg1]
  clear hr1 bb1
  go_loopw [56] (fun i wr => ∃ k : Nat, k ≤ 9 ∧ i = .int .i64 k ∧ Hid (Below w.heap.size w wr) ∧ Hid (wr.heap[g1]? = some (.cells (W.badN.map Value.string).toArray 9 (0, 0)))) (fun i _ => 9 - (intOf i).toNat)
  case atStart => exact ⟨0, by omega, rfl, HB1, HR1⟩
  case round =>
    obtain ⟨k, hk, rfl, hb, hr⟩ := hrel
    clear HR1 HB1 hg1 b06
    have aR := hA.keep hb.out
    by_cases hlt : k < 9
    · have hl : decide ((k : Int) < 9) = true := by simp; omega
      have hcell := row_str _ hr.out k (by show k < 9; exact hlt)
      have hmem : W.badN[k]'(by show k < 9; exact hlt) ∈ W.badN := List.getElem_mem _
      obtain ⟨x, hx⟩ : ∃ x, W.badN[k]'(by show k < 9; exact hlt) = x := ⟨_, rfl⟩
      rw [hx] at hcell hmem
      have h2 := W.badN_all x hmem
      have hs := badN_size x hmem
      obtain ⟨⟨pv, pb⟩, hP⟩ : ∃ P, W.parseW x.data.toList = P := ⟨_, rfl⟩
      rw [hP] at h2
      simp only at h2
      subst h2
      have cP := parse_all x wr (by omega) aR
      rw [hP] at cP
      simp only at cP
      clear hP hs hmem hx
      go_wp2_with fail
      refine cP.mono ?_
      rintro e w7 ⟨rfl, b7⟩
      have HB := hid (hb.out.trans (b7.mono hb.out.size))
      have HR := hid (row_keep hr.out b7)
      clear b7
      go_wp2_with fail
      go_roundw
      case rel => exact ⟨k + 1, by omega, by go_num, HB, HR⟩
      case measure => simp [intOf]; omega
    · obtain rfl : k = 9 := by omega
      have hl : decide ((9 : Int) < 9) = false := by decide
      clear hr
      go_wp2_with fail
      refine (p1 _ aR).mono ?_
      rintro e w7 ⟨rfl, b7⟩
      have b07 := hb.out.trans (b7.mono hb.out.size)
      have aS := hA.keep b07
      clear b7 hb aR
      go_wp2_with fail
      refine (p2 _ aS).mono ?_
      rintro e w8 ⟨rfl, b8⟩
      have b08 := b07.trans (b8.mono b07.size)
      have aT := hA.keep b08
      clear b8 b07 aS
      go_wp2_with fail
      refine (p3 _ aT).mono ?_
      rintro e w9 ⟨rfl, b9⟩
      have b09 := b08.trans (b9.mono b08.size)
      clear b9 b08 aT p1 p2 p3
      go_wp2_with fail
      obtain ⟨g2, hg2⟩ : ∃ g, w9.heap.size = g := ⟨_, rfl⟩
      have hr2 : (w9.alloc (.cells (W.badC.map (Value.int .i64)).toArray 3)).heap[g2]? = some (.cells (W.badC.map (Value.int .i64)).toArray 3 (0, 0)) := by rw [← hg2]; exact heap_alloc_new w9 _
      have bb2 := b09.alloc b09.size (.cells (W.badC.map (Value.int .i64)).toArray 3)
      have HR2 := hid hr2
      have HB2 := hid bb2
      rw [hg2]
      clear hr2 bb2 hl hlt hk
      go_loopw [96] (fun i wr => ∃ k : Nat, k ≤ 5 ∧ i = .int .i64 k ∧ Hid (Below w.heap.size w wr) ∧ Hid (wr.heap[g2]? = some (.cells (W.badC.map (Value.int .i64)).toArray 3 (0, 0)))) (fun i _ => 5 - (intOf i).toNat)
      case atStart => exact ⟨0, by omega, rfl, HB2, HR2⟩
      case round =>
        obtain ⟨k, hk, rfl, hb, hr⟩ := hrel
        clear HR2 HB2 hg2 b09
        by_cases hlt : k < 5
        · have hl : decide ((k : Int) < 5) = true := by simp; omega
          have hcell := row_int _ hr.out k (by show k < 5; exact hlt)
          have hmem : W.badC[k]'(by show k < 5; exact hlt) ∈ W.badC := List.getElem_mem _
          obtain ⟨x, hx⟩ : ∃ x, W.badC[k]'(by show k < 5; exact hlt) = x := ⟨_, rfl⟩
          rw [hx] at hcell hmem
          have h2 := W.badC_all x hmem
          have cC := char_any x wr
          rw [h2] at cC
          obtain ⟨L, hL⟩ : ∃ L : ByteArray, (⟨(W.charL x).toArray⟩ : ByteArray) = L := ⟨_, rfl⟩
          rw [hL] at cC
          clear hmem hx h2 hL
          go_wp2_with fail
          refine cC.mono ?_
          rintro e w10 ⟨rfl, rfl⟩
          go_wp2_with fail
          go_roundw
          case rel => exact ⟨k + 1, by omega, by go_num, hb, hr⟩
          case measure => simp [intOf]; omega
        · obtain rfl : k = 5 := by omega
          have hl : decide ((5 : Int) < 5) = false := by decide
          clear hr
          go_wp2_with fail
          obtain ⟨g3, hg3⟩ : ∃ g, wr.heap.size = g := ⟨_, rfl⟩
          have hr3 : (wr.alloc (.cells (W.badU.map Value.string).toArray 9)).heap[g3]? = some (.cells (W.badU.map Value.string).toArray 9 (0, 0)) := by rw [← hg3]; exact heap_alloc_new wr _
          have bb3 := hb.out.alloc hb.out.size (.cells (W.badU.map Value.string).toArray 9)
          have HR3 := hid hr3
          have HB3 := hid bb3
          rw [hg3]
          have e5 : ((5 : Nat) : Int) = 5 := rfl
          simp only [e5]
          clear hr3 bb3 hl hlt hk
          go_loopw [109] (fun i wr => ∃ k : Nat, k ≤ 6 ∧ i = .int .i64 k ∧ Hid (Below w.heap.size w wr) ∧ Hid (wr.heap[g3]? = some (.cells (W.badU.map Value.string).toArray 9 (0, 0)))) (fun i _ => 6 - (intOf i).toNat)
          case atStart => exact ⟨0, by omega, rfl, HB3, HR3⟩
          case round =>
            obtain ⟨k, hk, rfl, hb, hr⟩ := hrel
            clear HR3 HB3 hg3
            have aR := hA.keep hb.out
            by_cases hlt : k < 6
            · have hl : decide ((k : Int) < 6) = true := by simp; omega
              have hcell := row_str _ hr.out k (by show k < 6; exact hlt)
              have hmem : W.badU[k]'(by show k < 6; exact hlt) ∈ W.badU := List.getElem_mem _
              obtain ⟨x, hx⟩ : ∃ x, W.badU[k]'(by show k < 6; exact hlt) = x := ⟨_, rfl⟩
              rw [hx] at hcell hmem
              have h2 := W.badU_all x hmem
              have hs := badU_size x hmem
              have cV := utf8_any x _ (by omega) aR.tabs
              rw [h2] at cV
              clear hmem hx h2 hs
              go_wp2_with fail
              refine cV.mono ?_
              rintro e w11 ⟨rfl, b11⟩
              have HB := hid (hb.out.trans (b11.mono hb.out.size))
              have HR := hid (row_keep hr.out b11)
              clear b11
              go_wp2_with fail
              go_roundw
              case rel => exact ⟨k + 1, by omega, by go_num, HB, HR⟩
              case measure => simp [intOf]; omega
            · obtain rfl : k = 6 := by omega
              have hl : decide ((6 : Int) < 6) = false := by decide
              clear hr
              go_wp2_with fail
              obtain ⟨g4, hg4⟩ : ∃ g, wr.heap.size = g := ⟨_, rfl⟩
              have hr4 : (wr.alloc (.cells (W.badQ.map Value.string).toArray 9)).heap[g4]? = some (.cells (W.badQ.map Value.string).toArray 9 (0, 0)) := by rw [← hg4]; exact heap_alloc_new wr _
              have bb4 := hb.out.alloc hb.out.size (.cells (W.badQ.map Value.string).toArray 9)
              have HR4 := hid hr4
              have HB4 := hid bb4
              rw [hg4]
              have e6 : ((6 : Nat) : Int) = 6 := rfl
              simp only [e6]
              clear hr4 bb4 hl hlt hk
              go_loopw [118] (fun i wr => ∃ k : Nat, k ≤ 11 ∧ i = .int .i64 k ∧ Hid (Below w.heap.size w wr) ∧ Hid (wr.heap[g4]? = some (.cells (W.badQ.map Value.string).toArray 9 (0, 0)))) (fun i _ => 11 - (intOf i).toNat)
              case atStart => exact ⟨0, by omega, rfl, HB4, HR4⟩
              case round =>
                obtain ⟨k, hk, rfl, hb, hr⟩ := hrel
                clear HR4 HB4 hg4
                have aR := hA.keep hb.out
                by_cases hlt : k < 11
                · have hl : decide ((k : Int) < 11) = true := by simp; omega
                  have hcell := row_str _ hr.out k (by show k < 11; exact hlt)
                  have hmem : W.badQ[k]'(by show k < 11; exact hlt) ∈ W.badQ := List.getElem_mem _
                  obtain ⟨x, hx⟩ : ∃ x, W.badQ[k]'(by show k < 11; exact hlt) = x := ⟨_, rfl⟩
                  rw [hx] at hcell hmem
                  have h2 := W.badQ_all x hmem
                  have hs := badQ_size x hmem
                  obtain ⟨⟨pv, pb⟩, hP⟩ : ∃ P, W.unqL x.data.toList = P := ⟨_, rfl⟩
                  rw [hP] at h2
                  simp only at h2
                  subst h2
                  have cU := unquote_any x _ (by omega) aR.nums.errs
                  rw [hP] at cU
                  simp only at cU
                  obtain ⟨L, hL⟩ : ∃ L : ByteArray, (⟨pv.toArray⟩ : ByteArray) = L := ⟨_, rfl⟩
                  rw [hL] at cU
                  clear hP hs hmem hx hL
                  go_wp2_with fail
                  refine cU.mono ?_
                  rintro e w12 ⟨rfl, b12⟩
                  have HB := hid (hb.out.trans (b12.mono hb.out.size))
                  have HR := hid (row_keep hr.out b12)
                  clear b12
                  go_wp2_with fail
                  go_roundw
                  case rel => exact ⟨k + 1, by omega, by go_num, HB, HR⟩
                  case measure => simp [intOf]; omega
                · obtain rfl : k = 11 := by omega
                  have hl : decide ((11 : Int) < 11) = false := by decide
                  clear hr
                  go_wp2_with fail
                  refine (a1 _ aR).mono ?_
                  rintro e w13 ⟨rfl, b13⟩
                  have b013 := hb.out.trans (b13.mono hb.out.size)
                  have aS := hA.keep b013
                  clear b13 hb aR
                  go_wp2_with fail
                  refine (a2 _ aS).mono ?_
                  rintro e w14 ⟨rfl, b14⟩
                  have b014 := b013.trans (b14.mono b013.size)
                  have aT := hA.keep b014
                  clear b14 b013 aS
                  go_wp2_with fail
                  refine (a3 _ aT).mono ?_
                  rintro e w15 ⟨rfl, b15⟩
                  have b015 := b014.trans (b15.mono b014.size)
                  clear b15 b014 aT
                  go_wp2_with fail
                  refine (q1 _).mono ?_
                  rintro e w16 ⟨rfl, b16⟩
                  have b016 := b015.trans (b16.mono b015.size)
                  clear b16 b015
                  go_wp2_with fail
                  go_ret
                  exact ⟨rfl, b016⟩
end Go.Proofs.YtkahibnanhhdeaaDoor
