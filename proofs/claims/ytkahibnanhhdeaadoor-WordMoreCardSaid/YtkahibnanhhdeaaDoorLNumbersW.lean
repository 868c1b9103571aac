/- The walk of the law WordNumbers. -/
import Derived.Test.YtkahibnanhhdeaaDoorWParse
namespace Go.Proofs.YtkahibnanhhdeaaDoor
open Go.RowKit
open Go.Lib (hid itoa)

/-- what numbers ask of the world -/
structure Nums (w : World) : Prop where
  pows : Pows w
  errs : Errs w
theorem Errs.below {B : Nat} {w w' : World} (h : Errs w) (hb : Below B w w') (h0 : 2 < B) (h1 : 3 < B) : Errs w' := by
  obtain ⟨⟨t1, p1, e1⟩, ⟨t2, p2, e2⟩⟩ := h
  exact ⟨⟨t1, p1, var?_below hb (show Tryd.prog.globalNamed "strconv.ErrSyntax" = some 2 by kernel_rfl) h0 e1⟩, ⟨t2, p2, var?_below hb (show Tryd.prog.globalNamed "strconv.ErrRange" = some 3 by kernel_rfl) h1 e2⟩⟩
theorem lt_of_var {w : World} {n : String} {g : Nat} {cs : Array Value} (hg : Tryd.prog.globalNamed n = some g) (h : w.var? Tryd.prog n = some cs) : g < w.heap.size := by
  unfold World.var? at h
  rw [hg] at h
  simp only [Option.bind_some] at h
  rcases Nat.lt_or_ge g w.heap.size with h' | h'
  · exact h'
  · simp [Array.getElem?_eq_none h'] at h
theorem Nums.lts {w : World} (h : Nums w) : 4 < w.heap.size ∧ 2 < w.heap.size ∧ 3 < w.heap.size := by
  obtain ⟨hp, ⟨_, _, e1⟩, ⟨_, _, e2⟩⟩ := h
  exact ⟨lt_of_var (by kernel_rfl) hp, lt_of_var (by kernel_rfl) e1, lt_of_var (by kernel_rfl) e2⟩
theorem Nums.below {B : Nat} {w w' : World} (h : Nums w) (hb : Below B w w') (h0 : 4 < B) (h1 : 2 < B) (h2 : 3 < B) : Nums w' :=
  ⟨h.pows.below hb h0, h.errs.below hb h1 h2⟩

set_option maxRecDepth 100000 in
set_option maxHeartbeats 1000000 in
theorem numbers_walk (n : Int) (s : ByteArray) (w : World) (hn : -9223372036854775808 ≤ n ∧ n ≤ 9223372036854775807) (hs : s.size ≤ 140737488351232) (hE : Nums w) :
    Calls Tryd.prog 5 #[.int .i64 n, .string s] w fun e w' => e = .returned (.bool true) ∧ Below w.heap.size w w' := by
  obtain ⟨hz0, hz1, hz2⟩ := hE.lts
  have c1 := parse_any s w (by omega) hE.errs hE.pows hz0
  have c2 := fun W => refParse_any s W (by omega)
  simp only [W.refP_eq] at c2
  obtain ⟨P, hP⟩ : ∃ P, W.parseW s.data.toList = P := ⟨_, rfl⟩
  rw [hP] at c1
  simp only [hP] at c2
  have c3 := fun W h => number_any n W hn.1 hn.2 h
  have c4 := fun W => refNumber_any n W hn.1 hn.2
  obtain ⟨D, hD⟩ : ∃ D, itoa n = D := ⟨_, rfl⟩
  simp only [hD] at c3 c4
  clear hP hD hn
  obtain ⟨p1, p2⟩ := P
  go_enter Tryd.func5, Tryd.ntmps5
  go_wp2_with fail
  refine c1.mono ?_
  rintro e w1 ⟨rfl, hb1⟩
  go_wp2_with fail
  refine (c2 _).mono ?_
  rintro e w2 ⟨rfl, hb2⟩
  have s1 := hb1.size
  have s2 := hb2.size
  have b12 := hb1.trans (hb2.mono s1)
  go_wp2_with fail
  refine (c3 _ (hE.pows.below b12 hz0)).mono ?_
  rintro e w3 ⟨rfl, hb3⟩
  have s3 := hb3.size
  have b13 := b12.trans (hb3.mono (by omega))
  go_wp2_with fail
  refine (c4 _).mono ?_
  rintro e w4 ⟨rfl, hb4⟩
  have b14 := b13.trans (hb4.mono (by omega))
  go_wp2_with fail
  go_ret
  exact ⟨by simp, b14⟩
end Go.Proofs.YtkahibnanhhdeaaDoor
