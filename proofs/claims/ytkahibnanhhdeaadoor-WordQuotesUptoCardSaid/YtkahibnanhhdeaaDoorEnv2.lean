/- The environment of the laws on quoting and of the outright laws. -/
import Derived.Test.YtkahibnanhhdeaaDoorEnv
namespace Go.Proofs.YtkahibnanhhdeaaDoor
open Go.RowKit Go.ChangeShapes Go.ChangeAt
open Go.Shelf Go.Lib

theorem env_wordQuotes {W : World} (hL : laidMetH Tryd.prog Rows.wordQuotesUptoRow.laid W) : Errs W := by
  rw [MakeChecks.laidMetH_plain _ _ _ (by kernel_rfl)] at hL
  exact errs_of (Lib.laidMet.reads hL (.tail _ (.tail _ (.tail _ (.tail _ (.head _)))))) (Lib.laidMet.reads hL (.tail _ (.tail _ (.tail _ (.head _)))))
end Go.Proofs.YtkahibnanhhdeaaDoor
