-- out of hprint.py, this session's own program over the kit's print (see NOTES.md); Lean checks it
import Derived.Test.YtahdahfafmpanaaHFnExactGoodDevicex0
import Derived.Test.YtahdahfafmpanaaHFnExactGoodDevicex1
import Derived.Test.YtahdahfafmpanaaHFnExactGoodDevicex2
namespace Go.Proofs.Ytahdahfafmpanaa.HFnExactGoodDevice
open Go.RowKit Go.Proofs.YtahdahfafmpanaaW.PrintWords Go.Proofs.YtahdahfafmpanaaW.PrintLast Go.Proofs.YtahdahfafmpanaaW.PrintMore
attribute [local go_sem] max2_int min2_int max_two min_two max_three min_three max_four min_four   -- for this text's walks alone
set_option linter.unusedVariables false
set_option linter.unusedSimpArgs false

end Go.Proofs.Ytahdahfafmpanaa.HFnExactGoodDevice
