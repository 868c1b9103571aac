/- What numbers ask of the world. -/
import Derived.Test.YtohdifffdgoaaaaDoorWParse
namespace Go.Proofs.YtohdifffdgoaaaaDoor
open Go.RowKit
open Go.Lib (hid itoa)

/-- what numbers ask of the world -/
structure Nums (w : World) : Prop where
  pows : Pows w
  errs : Errs w
theorem Errs.below {B : Nat} {w w' : World} (h : Errs w) (hb : Below B w w') (h0 : 3 < B) (h1 : 4 < B) : Errs w' := by
  obtain ⟨⟨t1, p1, e1⟩, ⟨t2, p2, e2⟩⟩ := h
  exact ⟨⟨t1, p1, var?_below hb (show Tryd.prog.globalNamed "strconv.ErrSyntax" = some 3 by kernel_rfl) h0 e1⟩, ⟨t2, p2, var?_below hb (show Tryd.prog.globalNamed "strconv.ErrRange" = some 4 by kernel_rfl) h1 e2⟩⟩
theorem lt_of_var {w : World} {n : String} {g : Nat} {cs : Array Value} (hg : Tryd.prog.globalNamed n = some g) (h : w.var? Tryd.prog n = some cs) : g < w.heap.size := by
  unfold World.var? at h
  rw [hg] at h
  simp only [Option.bind_some] at h
  rcases Nat.lt_or_ge g w.heap.size with h' | h'
  · exact h'
  · simp [Array.getElem?_eq_none h'] at h
theorem Nums.lts {w : World} (h : Nums w) : 5 < w.heap.size ∧ 3 < w.heap.size ∧ 4 < w.heap.size := by
  obtain ⟨hp, ⟨_, _, e1⟩, ⟨_, _, e2⟩⟩ := h
  exact ⟨lt_of_var (by kernel_rfl) hp, lt_of_var (by kernel_rfl) e1, lt_of_var (by kernel_rfl) e2⟩
theorem Nums.below {B : Nat} {w w' : World} (h : Nums w) (hb : Below B w w') (h0 : 5 < B) (h1 : 3 < B) (h2 : 4 < B) : Nums w' :=
  ⟨h.pows.below hb h0, h.errs.below hb h1 h2⟩

end Go.Proofs.YtohdifffdgoaaaaDoor
