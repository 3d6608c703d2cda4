/- The program's Constants law holds: the law's plain function answers true. -/
import Derived.Test.YtpmilnjjgcohhaaPFnExactConstantsx1
import Derived.Test.YtpmilnjjgcohhaaLib
set_option linter.unusedVariables false
set_option linter.unusedSimpArgs false
namespace Go.Proofs.Ytpmilnjjgcohhaa.Pure
open Go.RowKit Go.Proofs.Ytpmilnjjgcohhaa.PFnExactConstants Go.Proofs.YtpmilnjjgcohhaaW.PrintWords Go.Proofs.YtpmilnjjgcohhaaW.PrintLast Go.Proofs.Ytpmilnjjgcohhaa.Lib

theorem FnExactConstants : laws_FnExactConstants.Pure := rfl


end Go.Proofs.Ytpmilnjjgcohhaa.Pure

