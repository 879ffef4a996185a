/- In one sentence: the program's Constants and the reference's Constants return the same for all arguments, and what the law marks stays marked. Conditions: none. -/
import Derived.Test.YtglgikhmiijdcaaPFnExactConstantsx1
namespace Go.Proofs.Ytglgikhmiijdcaa.Pure
open Go.RowKit Go.Proofs.Ytglgikhmiijdcaa.PFnExactConstants Go.Proofs.YtglgikhmiijdcaaW.PrintWords Go.Proofs.YtglgikhmiijdcaaW.PrintLast
set_option linter.unusedVariables false
set_option linter.unusedSimpArgs false


theorem FnExactConstants : laws_FnExactConstants.Pure := rfl

end Go.Proofs.Ytglgikhmiijdcaa.Pure
