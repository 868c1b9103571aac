/- The environment: what a row's world gives the walks; a world for the witness. -/
import Derived.Test.YtfadnhihcobclaaDoorRows
import Derived.Test.YtfadnhihcobclaaDoorKAwake
import Derived.LaidMore
import Derived.PinnedBridge
import Derived.Lib.LaidU8T
import Derived.Lib.LaidIn
import Derived.Deep.DeepHandedRow
import Derived.Deep.DeepWitnessRowRef
import Derived.ProofKit
import Derived.OpenShut
import Derived.Shelf.Vars
namespace Go.Proofs.YtfadnhihcobclaaDoor
open Go.RowKit Go.ChangeShapes Go.ChangeAt
open Go.Shelf Go.Lib

theorem laidOut : laidOutB Tryd.prog = true := by kernel_rfl
theorem own : ownKnob Tryd.prog.godebug = none := by kernel_rfl

/-- A WORLD FOR THE WITNESS: what the door's own run leaves, and the pinned table. -/
noncomputable def laidWorld (os : Os) : World :=
  { World.doorLaid Tryd.prog 200 os with heap := (World.doorLaid Tryd.prog 200 os).heap.modify 1 fun
      | .cells _ t frozen => .cells (Lib.firstTab.map fun z => Value.int .u8 z).toArray t frozen
      | o => o }

theorem bd_i {n : Int} (h : (Lit.int .i64 n).wf = true) : -9223372036854775808 ≤ n ∧ n ≤ 9223372036854775807 := bounds_i64 h
theorem max_of {W : World} (h : W.ShapedOpen Tryd.prog) : Max W :=
  cell_of_shapedOpen_int (zero := #[.int .i64 0]) (t := 3) h (of_decide_eq_true (by kernel_rfl)) (by kernel_rfl) rfl (by kernel_rfl) (by kernel_rfl) Tryd.underlying3
end Go.Proofs.YtfadnhihcobclaaDoor
