/- The environment of the laws that ask for numbers' and quotes' variables. -/
import Derived.Test.YtohdifffdgoaaaaDoorEnv
import Derived.Test.YtohdifffdgoaaaaDoorVText
namespace Go.Proofs.YtohdifffdgoaaaaDoor
open Go.RowKit Go.ChangeShapes Go.ChangeAt
open Go.Shelf Go.Lib

theorem iface_var {W : World} {n nm : String} {d : DataW Unit} {g : Nat} (hg : Tryd.prog.globalNamed n = some g) (ht : (Tryd.prog.globals[g]?).map (·.type) = some 103) (h : Lib.VarReads Tryd.prog W n (.iface nm d)) : ∃ tp p, W.var? Tryd.prog n = some #[.iface tp p] := by
  obtain ⟨g0, t0, cs, fuel, p, hg0, ht0, hv, hd⟩ := h
  obtain rfl := Option.some.inj (hg.symm.trans hg0)
  obtain rfl := Option.some.inj (ht.symm.trans ht0)
  obtain ⟨f1, u, v, hcs, _, _⟩ := iface_of_trod Tryd.underlying103 hd
  obtain ⟨l0⟩ := cs
  simp only at hcs
  subst hcs
  exact ⟨u, v, hv⟩
theorem errs_of {W : World} (h1 : Lib.VarReads Tryd.prog W "strconv.ErrSyntax" Rows.laid_strconv_ErrSyntax) (h2 : Lib.VarReads Tryd.prog W "strconv.ErrRange" Rows.laid_strconv_ErrRange) : Errs W :=
  ⟨iface_var (g := 3) (by kernel_rfl) (by kernel_rfl) h1, iface_var (g := 4) (by kernel_rfl) (by kernel_rfl) h2⟩
theorem pow_eq : (Rows.laid_internal_strconv_uint64pow10 : DataW Unit) = Lib.tabData .u64 Lib.pow10Tab := by kernel_rfl
theorem pows_of {W : World} (h : Lib.VarReads Tryd.prog W "internal/strconv.uint64pow10" Rows.laid_internal_strconv_uint64pow10) : Pows W := by
  obtain ⟨g0, t0, cs, fuel, p, hg0, ht0, hv, hd⟩ := h
  obtain rfl := Option.some.inj ((show Tryd.prog.globalNamed "internal/strconv.uint64pow10" = some 5 by kernel_rfl).symm.trans hg0)
  obtain rfl := Option.some.inj ((show (Tryd.prog.globals[5]?).map (·.type) = some 149 by kernel_rfl).symm.trans ht0)
  rw [pow_eq] at hd
  have hcs := Lib.cells_of_tab Tryd.underlying149 Tryd.underlying54 (by kernel_rfl) (by kernel_rfl) hd
  unfold Pows Lib.TabIs
  rw [hv, ← hcs]
theorem env_valueTellsRow {W : World} (hL : laidMetH Tryd.prog Rows.valueTellsRow.laid W) : VEnv W := by
  rw [MakeChecks.laidMetH_plain _ _ _ (by kernel_rfl)] at hL
  exact ⟨tabs_of (Lib.laidMet.reads hL (.tail _ (.tail _ (.tail _ (.tail _ (.tail _ (.tail _ (.head _)))))))) (Lib.laidMet.reads hL (.tail _ (.tail _ (.tail _ (.head _))))), ⟨pows_of (Lib.laidMet.reads hL (.tail _ (.tail _ (.head _)))), errs_of (Lib.laidMet.reads hL (.tail _ (.tail _ (.tail _ (.tail _ (.tail _ (.head _))))))) (Lib.laidMet.reads hL (.tail _ (.tail _ (.tail _ (.tail _ (.head _))))))⟩⟩
theorem env_valuePatchedRow {W : World} (hL : laidMetH Tryd.prog Rows.valuePatchedRow.laid W) : VEnv W := by
  rw [MakeChecks.laidMetH_plain _ _ _ (by kernel_rfl)] at hL
  exact ⟨tabs_of (Lib.laidMet.reads hL (.tail _ (.tail _ (.tail _ (.tail _ (.tail _ (.tail _ (.head _)))))))) (Lib.laidMet.reads hL (.tail _ (.tail _ (.tail _ (.head _))))), ⟨pows_of (Lib.laidMet.reads hL (.tail _ (.tail _ (.head _)))), errs_of (Lib.laidMet.reads hL (.tail _ (.tail _ (.tail _ (.tail _ (.tail _ (.head _))))))) (Lib.laidMet.reads hL (.tail _ (.tail _ (.tail _ (.tail _ (.head _))))))⟩⟩
theorem env_valueTwoPatchesRow {W : World} (hL : laidMetH Tryd.prog Rows.valueTwoPatchesRow.laid W) : VEnv W := by
  rw [MakeChecks.laidMetH_plain _ _ _ (by kernel_rfl)] at hL
  exact ⟨tabs_of (Lib.laidMet.reads hL (.tail _ (.tail _ (.tail _ (.tail _ (.tail _ (.tail _ (.head _)))))))) (Lib.laidMet.reads hL (.tail _ (.tail _ (.tail _ (.head _))))), ⟨pows_of (Lib.laidMet.reads hL (.tail _ (.tail _ (.head _)))), errs_of (Lib.laidMet.reads hL (.tail _ (.tail _ (.tail _ (.tail _ (.tail _ (.head _))))))) (Lib.laidMet.reads hL (.tail _ (.tail _ (.tail _ (.tail _ (.head _))))))⟩⟩
theorem env_valueOrderRow {W : World} (hL : laidMetH Tryd.prog Rows.valueOrderRow.laid W) : VEnv W := by
  rw [MakeChecks.laidMetH_plain _ _ _ (by kernel_rfl)] at hL
  exact ⟨tabs_of (Lib.laidMet.reads hL (.tail _ (.tail _ (.tail _ (.tail _ (.tail _ (.tail _ (.head _)))))))) (Lib.laidMet.reads hL (.tail _ (.tail _ (.tail _ (.head _))))), ⟨pows_of (Lib.laidMet.reads hL (.tail _ (.tail _ (.head _)))), errs_of (Lib.laidMet.reads hL (.tail _ (.tail _ (.tail _ (.tail _ (.tail _ (.head _))))))) (Lib.laidMet.reads hL (.tail _ (.tail _ (.tail _ (.tail _ (.head _))))))⟩⟩
theorem env_valueRingsRow {W : World} (hL : laidMetH Tryd.prog Rows.valueRingsRow.laid W) : VEnv W := by
  rw [MakeChecks.laidMetH_plain _ _ _ (by kernel_rfl)] at hL
  exact ⟨tabs_of (Lib.laidMet.reads hL (.tail _ (.tail _ (.tail _ (.tail _ (.tail _ (.tail _ (.head _)))))))) (Lib.laidMet.reads hL (.tail _ (.tail _ (.tail _ (.head _))))), ⟨pows_of (Lib.laidMet.reads hL (.tail _ (.tail _ (.head _)))), errs_of (Lib.laidMet.reads hL (.tail _ (.tail _ (.tail _ (.tail _ (.tail _ (.head _))))))) (Lib.laidMet.reads hL (.tail _ (.tail _ (.tail _ (.tail _ (.head _))))))⟩⟩
theorem env_valueNamesRow {W : World} (hL : laidMetH Tryd.prog Rows.valueNamesRow.laid W) : VEnv W := by
  rw [MakeChecks.laidMetH_plain _ _ _ (by kernel_rfl)] at hL
  exact ⟨tabs_of (Lib.laidMet.reads hL (.tail _ (.tail _ (.tail _ (.tail _ (.tail _ (.tail _ (.head _)))))))) (Lib.laidMet.reads hL (.tail _ (.tail _ (.tail _ (.head _))))), ⟨pows_of (Lib.laidMet.reads hL (.tail _ (.tail _ (.head _)))), errs_of (Lib.laidMet.reads hL (.tail _ (.tail _ (.tail _ (.tail _ (.tail _ (.head _))))))) (Lib.laidMet.reads hL (.tail _ (.tail _ (.tail _ (.tail _ (.head _))))))⟩⟩
theorem env_valueSortedRow {W : World} (hL : laidMetH Tryd.prog Rows.valueSortedRow.laid W) : VEnv W := by
  rw [MakeChecks.laidMetH_plain _ _ _ (by kernel_rfl)] at hL
  exact ⟨tabs_of (Lib.laidMet.reads hL (.tail _ (.tail _ (.tail _ (.tail _ (.tail _ (.tail _ (.head _)))))))) (Lib.laidMet.reads hL (.tail _ (.tail _ (.tail _ (.head _))))), ⟨pows_of (Lib.laidMet.reads hL (.tail _ (.tail _ (.head _)))), errs_of (Lib.laidMet.reads hL (.tail _ (.tail _ (.tail _ (.tail _ (.tail _ (.head _))))))) (Lib.laidMet.reads hL (.tail _ (.tail _ (.tail _ (.tail _ (.head _))))))⟩⟩
theorem env_valueTellsUptoRow {W : World} (hL : laidMetH Tryd.prog Rows.valueTellsUptoRow.laid W) : VEnv W := by
  rw [MakeChecks.laidMetH_plain _ _ _ (by kernel_rfl)] at hL
  exact ⟨tabs_of (Lib.laidMet.reads hL (.tail _ (.tail _ (.tail _ (.tail _ (.tail _ (.tail _ (.head _)))))))) (Lib.laidMet.reads hL (.tail _ (.tail _ (.tail _ (.head _))))), ⟨pows_of (Lib.laidMet.reads hL (.tail _ (.tail _ (.head _)))), errs_of (Lib.laidMet.reads hL (.tail _ (.tail _ (.tail _ (.tail _ (.tail _ (.head _))))))) (Lib.laidMet.reads hL (.tail _ (.tail _ (.tail _ (.tail _ (.head _))))))⟩⟩
theorem env_valuePatchedUptoRow {W : World} (hL : laidMetH Tryd.prog Rows.valuePatchedUptoRow.laid W) : VEnv W := by
  rw [MakeChecks.laidMetH_plain _ _ _ (by kernel_rfl)] at hL
  exact ⟨tabs_of (Lib.laidMet.reads hL (.tail _ (.tail _ (.tail _ (.tail _ (.tail _ (.tail _ (.head _)))))))) (Lib.laidMet.reads hL (.tail _ (.tail _ (.tail _ (.head _))))), ⟨pows_of (Lib.laidMet.reads hL (.tail _ (.tail _ (.head _)))), errs_of (Lib.laidMet.reads hL (.tail _ (.tail _ (.tail _ (.tail _ (.tail _ (.head _))))))) (Lib.laidMet.reads hL (.tail _ (.tail _ (.tail _ (.tail _ (.head _))))))⟩⟩
theorem env_valueTwoPatchesUptoRow {W : World} (hL : laidMetH Tryd.prog Rows.valueTwoPatchesUptoRow.laid W) : VEnv W := by
  rw [MakeChecks.laidMetH_plain _ _ _ (by kernel_rfl)] at hL
  exact ⟨tabs_of (Lib.laidMet.reads hL (.tail _ (.tail _ (.tail _ (.tail _ (.tail _ (.tail _ (.head _)))))))) (Lib.laidMet.reads hL (.tail _ (.tail _ (.tail _ (.head _))))), ⟨pows_of (Lib.laidMet.reads hL (.tail _ (.tail _ (.head _)))), errs_of (Lib.laidMet.reads hL (.tail _ (.tail _ (.tail _ (.tail _ (.tail _ (.head _))))))) (Lib.laidMet.reads hL (.tail _ (.tail _ (.tail _ (.tail _ (.head _))))))⟩⟩
theorem env_valueOrderUptoRow {W : World} (hL : laidMetH Tryd.prog Rows.valueOrderUptoRow.laid W) : VEnv W := by
  rw [MakeChecks.laidMetH_plain _ _ _ (by kernel_rfl)] at hL
  exact ⟨tabs_of (Lib.laidMet.reads hL (.tail _ (.tail _ (.tail _ (.tail _ (.tail _ (.tail _ (.head _)))))))) (Lib.laidMet.reads hL (.tail _ (.tail _ (.tail _ (.head _))))), ⟨pows_of (Lib.laidMet.reads hL (.tail _ (.tail _ (.head _)))), errs_of (Lib.laidMet.reads hL (.tail _ (.tail _ (.tail _ (.tail _ (.tail _ (.head _))))))) (Lib.laidMet.reads hL (.tail _ (.tail _ (.tail _ (.tail _ (.head _))))))⟩⟩
theorem env_valueRingsUptoRow {W : World} (hL : laidMetH Tryd.prog Rows.valueRingsUptoRow.laid W) : VEnv W := by
  rw [MakeChecks.laidMetH_plain _ _ _ (by kernel_rfl)] at hL
  exact ⟨tabs_of (Lib.laidMet.reads hL (.tail _ (.tail _ (.tail _ (.tail _ (.tail _ (.tail _ (.head _)))))))) (Lib.laidMet.reads hL (.tail _ (.tail _ (.tail _ (.head _))))), ⟨pows_of (Lib.laidMet.reads hL (.tail _ (.tail _ (.head _)))), errs_of (Lib.laidMet.reads hL (.tail _ (.tail _ (.tail _ (.tail _ (.tail _ (.head _))))))) (Lib.laidMet.reads hL (.tail _ (.tail _ (.tail _ (.tail _ (.head _))))))⟩⟩
theorem env_valueNamesUptoRow {W : World} (hL : laidMetH Tryd.prog Rows.valueNamesUptoRow.laid W) : VEnv W := by
  rw [MakeChecks.laidMetH_plain _ _ _ (by kernel_rfl)] at hL
  exact ⟨tabs_of (Lib.laidMet.reads hL (.tail _ (.tail _ (.tail _ (.tail _ (.tail _ (.tail _ (.head _)))))))) (Lib.laidMet.reads hL (.tail _ (.tail _ (.tail _ (.head _))))), ⟨pows_of (Lib.laidMet.reads hL (.tail _ (.tail _ (.head _)))), errs_of (Lib.laidMet.reads hL (.tail _ (.tail _ (.tail _ (.tail _ (.tail _ (.head _))))))) (Lib.laidMet.reads hL (.tail _ (.tail _ (.tail _ (.tail _ (.head _))))))⟩⟩
theorem env_valueSortedUptoRow {W : World} (hL : laidMetH Tryd.prog Rows.valueSortedUptoRow.laid W) : VEnv W := by
  rw [MakeChecks.laidMetH_plain _ _ _ (by kernel_rfl)] at hL
  exact ⟨tabs_of (Lib.laidMet.reads hL (.tail _ (.tail _ (.tail _ (.tail _ (.tail _ (.tail _ (.head _)))))))) (Lib.laidMet.reads hL (.tail _ (.tail _ (.tail _ (.head _))))), ⟨pows_of (Lib.laidMet.reads hL (.tail _ (.tail _ (.head _)))), errs_of (Lib.laidMet.reads hL (.tail _ (.tail _ (.tail _ (.tail _ (.tail _ (.head _))))))) (Lib.laidMet.reads hL (.tail _ (.tail _ (.tail _ (.tail _ (.head _))))))⟩⟩
end Go.Proofs.YtohdifffdgoaaaaDoor
