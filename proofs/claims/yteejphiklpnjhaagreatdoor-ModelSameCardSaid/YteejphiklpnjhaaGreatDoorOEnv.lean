/- The environment: what the rows' lists of package-level variables give the walks; a world for the witness. -/
import Derived.Test.YteejphiklpnjhaaGreatDoorRows
import Derived.Test.YteejphiklpnjhaaGreatDoorOA2
import Derived.LaidMore
import Derived.PinnedBridge
import Derived.Lib.LaidU8T
import Derived.Lib.LaidIn
import Derived.Deep.DeepHandedRow
import Derived.Deep.DeepWitnessRowRef
import Derived.ProofKit
import Derived.OpenShut
namespace Go.Proofs.YteejphiklpnjhaaGreatDoor
set_option maxRecDepth 100000
set_option maxHeartbeats 16000000
open Go.RowKit Go.ChangeShapes Go.ChangeAt
open Go.Shelf Go.Lib
theorem own : ownKnob Tryz.prog.godebug = none := by kernel_rfl
noncomputable def laidWorld (os : Os) : World :=
 { World.doorLaid Tryz.prog 200 os with heap := (World.doorLaid Tryz.prog 200 os).heap.modify 1 fun
  | .cells _ t frozen => .cells (Lib.firstTab.map fun z => Value.int .u8 z).toArray t frozen
  | o => o }
theorem first_eq : Rows.laid_unicode_utf8_first = Lib.firstData := by unfold Rows.laid_unicode_utf8_first; exact Pinned.utf8First_eq
theorem accept_eq : (Rows.laid_unicode_utf8_acceptRanges : DataW Unit) = Lib.acceptData := by kernel_rfl
theorem tabs_of {W : World} (h3 : Lib.VarReads Tryz.prog W "unicode/utf8.first" Rows.laid_unicode_utf8_first) (h4 : Lib.VarReads Tryz.prog W "unicode/utf8.acceptRanges" Rows.laid_unicode_utf8_acceptRanges) : Tabs W :=
 utf8Tabs_of_readsT (show U8Types Tryz.prog Tryz.lays197_ren from { Tryz.lays197 with }) ⟨by kernel_rfl, by kernel_rfl, by kernel_rfl, by kernel_rfl, by kernel_rfl, by kernel_rfl, by kernel_rfl⟩ (first_eq ▸ h3) (accept_eq ▸ h4)
theorem iface_var {W : World} {n nm : String} {d : DataW Unit} {g : Nat} (hg : Tryz.prog.globalNamed n = some g) (ht : (Tryz.prog.globals[g]?).map (·.type) = some 132) (h : Lib.VarReads Tryz.prog W n (.iface nm d)) : ∃ tp p, W.var? Tryz.prog n = some #[.iface tp p] := by
 obtain ⟨g0, t0, cs, fuel, p, hg0, ht0, hv, hd⟩ := h
 obtain rfl := Option.some.inj (hg.symm.trans hg0)
 obtain rfl := Option.some.inj (ht.symm.trans ht0)
 obtain ⟨f1, u, v, hcs, _, _⟩ := iface_of_trod Tryz.underlying132 hd
 obtain ⟨l0⟩ := cs
 simp only at hcs
 subst hcs
 exact ⟨u, v, hv⟩
theorem errs_of {W : World} (h1 : Lib.VarReads Tryz.prog W "strconv.ErrSyntax" Rows.laid_strconv_ErrSyntax) (h2 : Lib.VarReads Tryz.prog W "strconv.ErrRange" Rows.laid_strconv_ErrRange) : Errs W :=
 ⟨iface_var (g := 3) (by kernel_rfl) (by kernel_rfl) h1, iface_var (g := 4) (by kernel_rfl) (by kernel_rfl) h2⟩
theorem pow_eq : (Rows.laid_internal_strconv_uint64pow10 : DataW Unit) = Lib.tabData .u64 Lib.pow10Tab := by kernel_rfl
theorem pows_of {W : World} (h : Lib.VarReads Tryz.prog W "internal/strconv.uint64pow10" Rows.laid_internal_strconv_uint64pow10) : Pows W := by
 obtain ⟨g0, t0, cs, fuel, p, hg0, ht0, hv, hd⟩ := h
 obtain rfl := Option.some.inj ((show Tryz.prog.globalNamed "internal/strconv.uint64pow10" = some 5 by kernel_rfl).symm.trans hg0)
 obtain rfl := Option.some.inj ((show (Tryz.prog.globals[5]?).map (·.type) = some 234 by kernel_rfl).symm.trans ht0)
 rw [pow_eq] at hd
 have hcs := Lib.cells_of_tab Tryz.underlying234 Tryz.underlying192 (by kernel_rfl) (by kernel_rfl) hd
 unfold Pows Lib.TabIs
 rw [hv, ← hcs]
theorem pows_lt {W : World} (h : Pows W) : 5 < W.heap.size :=
 Lib.lt_of_cell (Lib.TabIs.cell h (g := 5) (by kernel_rfl) 1 (by decide))
theorem env_modelSameRow {W : World} (hL : laidMetH Tryz.prog Rows.modelSameRow.laid W) : EnvO W := by
 rw [MakeChecks.laidMetH_plain _ _ _ (by kernel_rfl)] at hL
 have hp := pows_of (Lib.laidMet.reads hL (.tail _ (.tail _ (.head _))))
 exact ⟨errs_of (Lib.laidMet.reads hL (.tail _ (.tail _ (.tail _ (.tail _ (.tail _ (.head _))))))) (Lib.laidMet.reads hL (.tail _ (.tail _ (.tail _ (.tail _ (.head _)))))), tabs_of (Lib.laidMet.reads hL (.tail _ (.tail _ (.tail _ (.tail _ (.tail _ (.tail _ (.head _)))))))) (Lib.laidMet.reads hL (.tail _ (.tail _ (.tail _ (.head _))))), hp, pows_lt hp⟩
end Go.Proofs.YteejphiklpnjhaaGreatDoor
