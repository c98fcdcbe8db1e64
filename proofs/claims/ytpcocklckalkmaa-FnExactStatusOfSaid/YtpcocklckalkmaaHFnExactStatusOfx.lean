-- out of hprint.py, this session's own program over the kit's print (see NOTES.md); Lean checks it
import Derived.Test.YtpcocklckalkmaaHFnExactStatusOfx0
import Derived.Test.YtpcocklckalkmaaHFnExactStatusOfx1
import Derived.Test.YtpcocklckalkmaaHFnExactStatusOfx2
import Derived.Test.YtpcocklckalkmaaHFnExactStatusOfx3
namespace Go.Proofs.Ytpcocklckalkmaa.HFnExactStatusOf
open Go.RowKit Go.Proofs.YtpcocklckalkmaaW.PrintWords Go.Proofs.YtpcocklckalkmaaW.PrintLast Go.Proofs.YtpcocklckalkmaaW.PrintMore
attribute [local go_sem] max2_int min2_int max_two min_two max_three min_three max_four min_four   -- for this text's walks alone
set_option linter.unusedVariables false
set_option linter.unusedSimpArgs false

end Go.Proofs.Ytpcocklckalkmaa.HFnExactStatusOf
