-- out of hprint.py, this session's own program over the kit's print (see NOTES.md); Lean checks it
import Derived.Test.YtpcocklckalkmaaHFnExactEncodeInsx0
import Derived.Test.YtpcocklckalkmaaHFnExactEncodeInsx1
import Derived.Test.YtpcocklckalkmaaHFnExactEncodeInsx2
import Derived.Test.YtpcocklckalkmaaHFnExactEncodeInsx3
import Derived.Test.YtpcocklckalkmaaHFnExactEncodeInsx4
import Derived.Test.YtpcocklckalkmaaHFnExactEncodeInsx5
import Derived.Test.YtpcocklckalkmaaHFnExactEncodeInsx6
namespace Go.Proofs.Ytpcocklckalkmaa.HFnExactEncodeIns
open Go.RowKit Go.Proofs.YtpcocklckalkmaaW.PrintWords Go.Proofs.YtpcocklckalkmaaW.PrintLast Go.Proofs.YtpcocklckalkmaaW.PrintMore
attribute [local go_sem] max2_int min2_int max_two min_two max_three min_three max_four min_four   -- for this text's walks alone
set_option linter.unusedVariables false
set_option linter.unusedSimpArgs false

end Go.Proofs.Ytpcocklckalkmaa.HFnExactEncodeIns
