/- For all strings the plain function of the LessString law answers true. -/
import Derived.Test.YtpmilnjjgcohhaaPFnExactLessStringx1
import Derived.Test.YtpmilnjjgcohhaaLib
set_option linter.unusedVariables false
set_option linter.unusedSimpArgs false
namespace Go.Proofs.Ytpmilnjjgcohhaa.Pure
open Go.RowKit Go.Proofs.Ytpmilnjjgcohhaa.PFnExactLessString Go.Proofs.YtpmilnjjgcohhaaW.PrintWords Go.Proofs.YtpmilnjjgcohhaaW.PrintLast Go.Proofs.Ytpmilnjjgcohhaa.Lib

theorem FnExactLessString : laws_FnExactLessString.Pure := by
  intro a b _ _
  unfold laws_FnExactLessString.f
  split
  · rfl
  · split
    · rfl
    · simp [spec_LessString.f, impl_LessString.f]


end Go.Proofs.Ytpmilnjjgcohhaa.Pure

