/- FnExactConstants, the plain law: the program's constants are the document's, so the law answers true. No condition. -/
import Derived.Test.YtedichhlamiigaaPFnExactConstantsx1
import Derived.Test.YtedichhlamiigaaBits
namespace Go.Proofs.Ytedichhlamiigaa.Pure
open Go.RowKit Go.Proofs.Ytedichhlamiigaa.PFnExactConstants Go.Proofs.YtedichhlamiigaaW.PrintWords Go.Proofs.YtedichhlamiigaaW.PrintLast Go.Proofs.Ytedichhlamiigaa.Bt
set_option linter.unusedVariables false
set_option linter.unusedSimpArgs false


theorem FnExactConstants : laws_FnExactConstants.Pure := rfl
end Go.Proofs.Ytedichhlamiigaa.Pure
