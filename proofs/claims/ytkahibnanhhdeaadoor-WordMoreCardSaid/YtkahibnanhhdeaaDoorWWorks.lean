/- The walk of works(): what the outright laws ask first. -/
import Derived.Test.YtkahibnanhhdeaaDoorWUnq
import Derived.Test.YtkahibnanhhdeaaDoorLNumbersW
import Derived.Test.YtkahibnanhhdeaaDoorWTable
import Derived.Test.YtkahibnanhhdeaaDoorWChar2
namespace Go.Proofs.YtkahibnanhhdeaaDoor
open Go.RowKit
open Go.Lib (hid itoa)

/-- what the outright laws ask of the world -/
structure All (w : World) : Prop where
  tabs : Tabs w
  nums : Nums w
theorem All.keep {w w' : World} (h : All w) (hb : Below w.heap.size w w') : All w' := by
  obtain ⟨h0, h1⟩ := h.tabs.size
  obtain ⟨g0, g1, g2⟩ := h.nums.lts
  exact ⟨h.tabs.below hb h0 h1, h.nums.below hb g0 g1 g2⟩

theorem parse_all (s : ByteArray) (X : World) (hs : s.size ≤ 281474976710656) (h : All X) :
    Calls Tryd.prog 21 #[.string s] X fun e w' => e = .returned (.tuple #[.int .i64 (W.parseW s.data.toList).1, .bool (W.parseW s.data.toList).2]) ∧ Below X.heap.size X w' :=
  parse_any s X hs h.nums.errs h.nums.pows h.nums.lts.1

namespace W
theorem itoa_12 : itoa (-12) = [45, 49, 50] := by
  unfold Go.Lib.itoa
  rw [if_pos (by decide)]
  show 45 :: Go.Lib.decDigits 12 = _
  rw [Go.Lib.decDigits, dif_neg (by decide), show 12 / 10 = 1 from rfl, Go.Lib.decDigits, dif_pos (by decide)]
  rfl
theorem parse_12 : parseW [45, 49, 50] = (-12, true) := by
  rw [← itoa_12, ← refP_eq]; exact ref_itoa _ (by unfold Fits; omega)
end W

set_option maxRecDepth 100000 in
set_option maxHeartbeats 4000000 in
theorem works_any (w : World) (hA : All w) :
    Calls Tryd.prog 29 #[] w fun e w' => e = .returned (.bool true) ∧ Below w.heap.size w w' := by
  have c1 : ∀ X, All X → Calls Tryd.prog 21 #[.string ⟨#[45, 49, 50]⟩] X fun e w' => e = .returned (.tuple #[.int .i64 (-12), .bool true]) ∧ Below X.heap.size X w' := fun X h => by
    have := parse_all ⟨#[45, 49, 50]⟩ X (by decide) h
    rw [show W.parseW _ = (-12, true) from W.parse_12] at this
    exact this
  have c2 : ∀ X, Calls Tryd.prog 17 #[.int .i64 233] X fun e w' => e = .returned (.tuple #[.string ⟨#[195, 169]⟩, .bool true]) ∧ X = w' := fun X => by
    have := char_any 233 X
    rw [show W.charL 233 = [195, 169] by decide +kernel, show W.charOk 233 = true by decide +kernel] at this
    exact this
  have c3 : ∀ X, All X → Calls Tryd.prog 19 #[.string ⟨#[97, 195, 169]⟩, .int .i64 1] X fun e w' => e = .returned (.tuple #[.int .i64 233, .int .i64 2, .bool true]) ∧ Below X.heap.size X w' := fun X h => by
    have := at_any ⟨#[97, 195, 169]⟩ 1 X h.tabs
    rw [show W.atD (⟨#[97, 195, 169]⟩ : ByteArray).data.toList 1 = (233, 2, true) by decide +kernel] at this
    exact this
  have c4 : ∀ X, All X → Calls Tryd.prog 25 #[.string ⟨#[34, 97, 92, 110, 34]⟩] X fun e w' => e = .returned (.tuple #[.string ⟨#[97, 10]⟩, .bool true]) ∧ Below X.heap.size X w' := fun X h => by
    have := unquote_any ⟨#[34, 97, 92, 110, 34]⟩ X (by decide) h.nums.errs
    rw [show W.unqL _ = ([97, 10], true) from W.unqL_of (by decide +kernel)] at this
    exact this
  have c5 : ∀ X, Calls Tryd.prog 13 #[.string ⟨#[97, 45, 49]⟩] X fun e w' => e = .returned (.bool true) ∧ Below X.heap.size X w' := fun X => by
    have := name_any ⟨#[97, 45, 49]⟩ X (by decide)
    rw [show W.nameB _ = true by decide +kernel] at this
    exact this
  have c6 : ∀ X, Calls Tryd.prog 13 #[.string ⟨#[49, 97]⟩] X fun e w' => e = .returned (.bool false) ∧ Below X.heap.size X w' := fun X => by
    have := name_any ⟨#[49, 97]⟩ X (by decide)
    rw [show W.nameB _ = false by decide +kernel] at this
    exact this
  have c7 : ∀ X, All X → Calls Tryd.prog 23 #[.int .i64 (-12)] X fun e w' => e = .returned (.string ⟨#[45, 49, 50]⟩) ∧ Below X.heap.size X w' := fun X h => by
    have := number_any (-12) X (by decide) (by decide) h.nums.pows
    rw [W.itoa_12] at this
    exact this
  have c8 : ∀ X, All X → Calls Tryd.prog 15 #[.string ⟨#[97, 195, 169]⟩] X fun e w' => e = .returned (.bool true) ∧ Below X.heap.size X w' := fun X h => by
    have := utf8_any ⟨#[97, 195, 169]⟩ X (by decide) h.tabs
    rw [show Go.Lib.validD _ = true by decide +kernel] at this
    exact this
  have c9 : ∀ X, All X → Calls Tryd.prog 15 #[.string ⟨#[233]⟩] X fun e w' => e = .returned (.bool false) ∧ Below X.heap.size X w' := fun X h => by
    have := utf8_any ⟨#[233]⟩ X (by decide) h.tabs
    rw [show Go.Lib.validD _ = false by decide +kernel] at this
    exact this
  have c10 : ∀ X, Calls Tryd.prog 27 #[.string ⟨#[97, 10]⟩] X fun e w' => e = .returned (.string ⟨#[34, 97, 92, 110, 34]⟩) ∧ Below X.heap.size X w' := fun X => by
    have := quote_any ⟨#[97, 10]⟩ X (by decide)
    rw [show W.quoteL _ = [34, 97, 92, 110, 34] by decide +kernel] at this
    exact this
  go_enter Tryd.func29, Tryd.ntmps29
  go_wp2_with fail
  refine (c1 _ hA).mono ?_
  rintro e w1 ⟨rfl, b1⟩
  go_wp2_with fail
  refine (c2 _).mono ?_
  rintro e w2 ⟨rfl, rfl⟩
  have a1 := hA.keep b1
  go_wp2_with fail
  refine (c3 _ a1).mono ?_
  rintro e w3 ⟨rfl, b3⟩
  have b03 := b1.trans (b3.mono b1.size)
  have a3 := hA.keep b03
  clear a1 b1 b3
  go_wp2_with fail
  refine (c4 _ a3).mono ?_
  rintro e w4 ⟨rfl, b4⟩
  have b04 := b03.trans (b4.mono b03.size)
  have a4 := hA.keep b04
  clear a3 b03 b4
  go_wp2_with fail
  refine (c5 _).mono ?_
  rintro e w5 ⟨rfl, b5⟩
  have b05 := b04.trans (b5.mono b04.size)
  clear a4 b04 b5
  go_wp2_with fail
  refine (c6 _).mono ?_
  rintro e w6 ⟨rfl, b6⟩
  have b06 := b05.trans (b6.mono b05.size)
  have a6 := hA.keep b06
  clear b05 b6
  go_wp2_with fail
  refine (c7 _ a6).mono ?_
  rintro e w7 ⟨rfl, b7⟩
  have b07 := b06.trans (b7.mono b06.size)
  have a7 := hA.keep b07
  clear a6 b06 b7
  go_wp2_with fail
  refine (c8 _ a7).mono ?_
  rintro e w8 ⟨rfl, b8⟩
  have b08 := b07.trans (b8.mono b07.size)
  have a8 := hA.keep b08
  clear a7 b07 b8
  go_wp2_with fail
  refine (c9 _ a8).mono ?_
  rintro e w9 ⟨rfl, b9⟩
  have b09 := b08.trans (b9.mono b08.size)
  clear a8 b08 b9
  go_wp2_with fail
  refine (c10 _).mono ?_
  rintro e w10 ⟨rfl, b10⟩
  have b010 := b09.trans (b10.mono b09.size)
  clear b09 b10
  go_wp2_with fail
  go_ret
  exact ⟨rfl, b010⟩
end Go.Proofs.YtkahibnanhhdeaaDoor
