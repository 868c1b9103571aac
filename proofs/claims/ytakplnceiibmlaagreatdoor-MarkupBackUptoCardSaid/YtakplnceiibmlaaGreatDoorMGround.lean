/- What the library's tables and sentinels hold, below a block: it stays. -/
import Derived.Test.YtakplnceiibmlaaGreatDoorMRd
import Derived.Test.YtakplnceiibmlaaGreatDoorShelf
namespace Go.Proofs.YtakplnceiibmlaaGreatDoor
open Go.RowKit
open Go.Lib (hid)
/-- what the library's two sentinels hold: a value of an interface's type each -/
def Errs (w : World) : Prop := (∃ tp p, w.var? Tryz.prog "strconv.ErrSyntax" = some #[.iface tp p]) ∧ (∃ tp p, w.var? Tryz.prog "strconv.ErrRange" = some #[.iface tp p])

theorem Errs.keep {w w' : World} (h : Errs w) (hb : Below w.heap.size w w') : Errs w' := by
  obtain ⟨⟨t1, p1, h1⟩, ⟨t2, p2, h2⟩⟩ := h
  have c1 : w.cell? ⟨3, 0, none⟩ = some (.iface t1 p1) := by
    have h0 := World.var?_cell (show Tryz.prog.globalNamed "strconv.ErrSyntax" = some 3 by kernel_rfl) h1 0
    simpa using h0
  have c2 : w.cell? ⟨4, 0, none⟩ = some (.iface t2 p2) := by
    have h0 := World.var?_cell (show Tryz.prog.globalNamed "strconv.ErrRange" = some 4 by kernel_rfl) h2 0
    simpa using h0
  exact ⟨⟨t1, p1, var?_below hb (show Tryz.prog.globalNamed "strconv.ErrSyntax" = some 3 by kernel_rfl) (Lib.lt_of_cell c1) h1⟩,
    ⟨t2, p2, var?_below hb (show Tryz.prog.globalNamed "strconv.ErrRange" = some 4 by kernel_rfl) (Lib.lt_of_cell c2) h2⟩⟩
theorem cut_list (s : ByteArray) (n m : Nat) : (s.extract n m).data.toList = (s.data.toList.drop n).take (m - n) := by
  rw [ByteArray.data_extract, Array.toList_extract]
/-- the tables of unicode/utf8, as the row lists them -/
def Tabs (w : World) : Prop := Lib.Utf8Tabs 0 1 w
theorem Tabs.below {B : Nat} {w w' : World} (h : Tabs w) (hb : Below B w w') (h0 : 0 < B) (h1 : 1 < B) : Tabs w' := by
  refine ⟨fun c hc => ?_, fun i hi => ?_⟩
  · rw [hb.cell (p := ⟨0, c, none⟩) h0]; exact h.1 c hc
  · rw [hb.cell (p := ⟨1, 2 * i, none⟩) h1, hb.cell (p := ⟨1, 2 * i + 1, none⟩) h1]; exact h.2 i hi
theorem Tabs.size {w : World} (h : Tabs w) : 0 < w.heap.size ∧ 1 < w.heap.size :=
  ⟨block_lt_of_cell (h.1 0 (by omega)), block_lt_of_cell (h.2 0 (by omega)).1⟩
/-- as long as what lies below B stands, the tables and the sentinels hold what they do -/
structure Ground (B : Nat) (w : World) : Prop where
  errs : ∀ X, Below B w X → Errs X
  tabs : ∀ X, Below B w X → Tabs X
theorem Ground.keep {B : Nat} {w w' : World} (h : Ground B w) (hb : Below B w w') : Ground B w' := ⟨fun X hX => h.errs X (hb.trans hX), fun X hX => h.tabs X (hb.trans hX)⟩
theorem Ground.first {w : World} (hE : Errs w) (hT : Tabs w) : Ground w.heap.size w := ⟨fun _ h => hE.keep h, fun _ h => hT.below h hT.size.1 hT.size.2⟩
theorem Rd.base {w W : World} {R p c B : Nat} {s : ByteArray} (h : Rd w R s p c W) (hB : B ≤ R) : Below B w W :=
  ⟨h.g.os, h.g.tape, h.g.output, by have := h.g.size; have := h.lt; omega, fun k hk => h.g.block k (by have := h.lt; omega) (fun e => by have := Option.some.inj e; omega)⟩
theorem Ground.rd {w W : World} {R p c B : Nat} {s : ByteArray} (g : Ground B w) (h : Rd w R s p c W) (hB : B ≤ R) : Ground B W := g.keep (h.base hB)
theorem Tabs.under {w W : World} (h : Tabs w) (hb : Below w.heap.size w W) : Tabs W := h.below hb h.size.1 h.size.2
theorem Ground.now {B : Nat} {w : World} (g : Ground B w) : Tabs w := g.tabs w (Below.refl _ w)
theorem Ground.below {B : Nat} {w w' : World} (g : Ground B w) (h : Below w.heap.size w w') (hB : B ≤ w.heap.size) : Ground B w' := g.keep (h.mono hB)
end Go.Proofs.YtakplnceiibmlaaGreatDoor
