-- out of hprint.py, this session's own program over the kit's print (see NOTES.md); Lean checks it
import Derived.Test.YtpcocklckalkmaaHFnExactSameMemoryx0
import Derived.Test.YtpcocklckalkmaaHFnExactSameMemoryx1
import Derived.Test.YtpcocklckalkmaaHFnExactSameMemoryx2
import Derived.Test.YtpcocklckalkmaaHFnExactSameMemoryx3
import Derived.Test.YtpcocklckalkmaaHFnExactSameMemoryx4
import Derived.Test.YtpcocklckalkmaaHFnExactSameMemoryx5
namespace Go.Proofs.Ytpcocklckalkmaa.HFnExactSameMemory
open Go.RowKit Go.Proofs.YtpcocklckalkmaaW.PrintWords Go.Proofs.YtpcocklckalkmaaW.PrintLast Go.Proofs.YtpcocklckalkmaaW.PrintMore
attribute [local go_sem] max2_int min2_int max_two min_two max_three min_three max_four min_four   -- for this text's walks alone
set_option linter.unusedVariables false
set_option linter.unusedSimpArgs false

end Go.Proofs.Ytpcocklckalkmaa.HFnExactSameMemory
