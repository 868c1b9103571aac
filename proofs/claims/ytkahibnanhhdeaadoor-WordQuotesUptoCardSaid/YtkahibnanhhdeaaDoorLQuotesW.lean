/- The walk of the law WordQuotes. -/
import Derived.Test.YtkahibnanhhdeaaDoorWRefU
import Derived.Test.YtkahibnanhhdeaaDoorLNumbersW
namespace Go.Proofs.YtkahibnanhhdeaaDoor
open Go.RowKit
open Go.Lib (hid)

set_option maxRecDepth 100000 in
set_option maxHeartbeats 1000000 in
theorem quotes_walk (s t : ByteArray) (w : World) (_ : s.size ≤ 140737488351232) (_ : t.size ≤ 140737488351232) (hE : Errs w) (hc : s.size + t.size ≤ 1048576) :
    Calls Tryd.prog 6 #[.string s, .string t] w fun e w' => e = .returned (.bool true) ∧ Below w.heap.size w w' := by
  have c1 := unquote_any t w (by omega) hE
  have c2 := fun X => refUnquote_any t X (by omega)
  have c3 := fun X => quote_any s X (by omega)
  have c4 := fun X => refQuote_any s X (by omega)
  obtain ⟨P, hP⟩ : ∃ P, W.unqL t.data.toList = P := ⟨_, rfl⟩
  rw [hP] at c1
  simp only [hP] at c2
  obtain ⟨D, hD⟩ : ∃ D, W.quoteL s.data.toList = D := ⟨_, rfl⟩
  simp only [hD] at c3 c4
  clear hP hD hc hE
  obtain ⟨p1, p2⟩ := P
  go_enter Tryd.func6, Tryd.ntmps6
  go_wp2_with fail
  refine c1.mono ?_
  rintro e w1 ⟨rfl, hb1⟩
  go_wp2_with fail
  refine (c2 _).mono ?_
  rintro e w2 ⟨rfl, hb2⟩
  have s1 := hb1.size
  have s2 := hb2.size
  have b12 := hb1.trans (hb2.mono s1)
  go_wp2_with fail
  refine (c3 _).mono ?_
  rintro e w3 ⟨rfl, hb3⟩
  have s3 := hb3.size
  have b13 := b12.trans (hb3.mono (by omega))
  go_wp2_with fail
  refine (c4 _).mono ?_
  rintro e w4 ⟨rfl, hb4⟩
  have b14 := b13.trans (hb4.mono (by omega))
  go_wp2_with fail
  go_ret
  exact ⟨by simp, b14⟩
end Go.Proofs.YtkahibnanhhdeaaDoor
