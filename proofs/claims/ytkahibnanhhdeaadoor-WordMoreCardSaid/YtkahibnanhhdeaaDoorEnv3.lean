/- The environment of the outright laws. -/
import Derived.Test.YtkahibnanhhdeaaDoorEnv
import Derived.Test.YtkahibnanhhdeaaDoorWWorks
namespace Go.Proofs.YtkahibnanhhdeaaDoor
open Go.RowKit Go.ChangeShapes Go.ChangeAt
open Go.Shelf Go.Lib

theorem env_wordNames {W : World} (hL : laidMetH Tryd.prog Rows.wordNamesRow.laid W) : All W := by
  rw [MakeChecks.laidMetH_plain _ _ _ (by kernel_rfl)] at hL
  exact ⟨tabs_of (Lib.laidMet.reads hL (.tail _ (.tail _ (.tail _ (.tail _ (.tail _ (.tail _ (.head _)))))))) (Lib.laidMet.reads hL (.tail _ (.tail _ (.tail _ (.head _))))),
    pows_of (Lib.laidMet.reads hL (.tail _ (.tail _ (.head _)))), errs_of (Lib.laidMet.reads hL (.tail _ (.tail _ (.tail _ (.tail _ (.tail _ (.head _))))))) (Lib.laidMet.reads hL (.tail _ (.tail _ (.tail _ (.tail _ (.head _))))))⟩
theorem env_wordBack {W : World} (hL : laidMetH Tryd.prog Rows.wordBackUptoRow.laid W) : All W := by
  rw [MakeChecks.laidMetH_plain _ _ _ (by kernel_rfl)] at hL
  exact ⟨tabs_of (Lib.laidMet.reads hL (.tail _ (.tail _ (.tail _ (.tail _ (.tail _ (.tail _ (.head _)))))))) (Lib.laidMet.reads hL (.tail _ (.tail _ (.tail _ (.head _))))),
    pows_of (Lib.laidMet.reads hL (.tail _ (.tail _ (.head _)))), errs_of (Lib.laidMet.reads hL (.tail _ (.tail _ (.tail _ (.tail _ (.tail _ (.head _))))))) (Lib.laidMet.reads hL (.tail _ (.tail _ (.tail _ (.tail _ (.head _))))))⟩
theorem env_wordPlain {W : World} (hL : laidMetH Tryd.prog Rows.wordPlainUptoRow.laid W) : All W := by
  rw [MakeChecks.laidMetH_plain _ _ _ (by kernel_rfl)] at hL
  exact ⟨tabs_of (Lib.laidMet.reads hL (.tail _ (.tail _ (.tail _ (.tail _ (.tail _ (.tail _ (.head _)))))))) (Lib.laidMet.reads hL (.tail _ (.tail _ (.tail _ (.head _))))),
    pows_of (Lib.laidMet.reads hL (.tail _ (.tail _ (.head _)))), errs_of (Lib.laidMet.reads hL (.tail _ (.tail _ (.tail _ (.tail _ (.tail _ (.head _))))))) (Lib.laidMet.reads hL (.tail _ (.tail _ (.tail _ (.tail _ (.head _))))))⟩
theorem env_wordWalk {W : World} (hL : laidMetH Tryd.prog Rows.wordWalkRow.laid W) : All W := by
  rw [MakeChecks.laidMetH_plain _ _ _ (by kernel_rfl)] at hL
  exact ⟨tabs_of (Lib.laidMet.reads hL (.tail _ (.tail _ (.tail _ (.tail _ (.tail _ (.tail _ (.head _)))))))) (Lib.laidMet.reads hL (.tail _ (.tail _ (.tail _ (.head _))))),
    pows_of (Lib.laidMet.reads hL (.tail _ (.tail _ (.head _)))), errs_of (Lib.laidMet.reads hL (.tail _ (.tail _ (.tail _ (.tail _ (.tail _ (.head _))))))) (Lib.laidMet.reads hL (.tail _ (.tail _ (.tail _ (.tail _ (.head _))))))⟩
theorem env_wordTogether {W : World} (hL : laidMetH Tryd.prog Rows.wordTogetherUptoRow.laid W) : All W := by
  rw [MakeChecks.laidMetH_plain _ _ _ (by kernel_rfl)] at hL
  exact ⟨tabs_of (Lib.laidMet.reads hL (.tail _ (.tail _ (.tail _ (.tail _ (.tail _ (.tail _ (.head _)))))))) (Lib.laidMet.reads hL (.tail _ (.tail _ (.tail _ (.head _))))),
    pows_of (Lib.laidMet.reads hL (.tail _ (.tail _ (.head _)))), errs_of (Lib.laidMet.reads hL (.tail _ (.tail _ (.tail _ (.tail _ (.tail _ (.head _))))))) (Lib.laidMet.reads hL (.tail _ (.tail _ (.tail _ (.tail _ (.head _))))))⟩
theorem env_wordMore {W : World} (hL : laidMetH Tryd.prog Rows.wordMoreRow.laid W) : All W := by
  rw [MakeChecks.laidMetH_plain _ _ _ (by kernel_rfl)] at hL
  exact ⟨tabs_of (Lib.laidMet.reads hL (.tail _ (.tail _ (.tail _ (.tail _ (.tail _ (.tail _ (.head _)))))))) (Lib.laidMet.reads hL (.tail _ (.tail _ (.tail _ (.head _))))),
    pows_of (Lib.laidMet.reads hL (.tail _ (.tail _ (.head _)))), errs_of (Lib.laidMet.reads hL (.tail _ (.tail _ (.tail _ (.tail _ (.tail _ (.head _))))))) (Lib.laidMet.reads hL (.tail _ (.tail _ (.tail _ (.tail _ (.head _))))))⟩
end Go.Proofs.YtkahibnanhhdeaaDoor
