-- out of hprint.py, this session's own program over the kit's print (see NOTES.md); Lean checks it
import Derived.Test.YtdpbfjcfpgbbjaaHFnExactLogOfx0
import Derived.Test.YtdpbfjcfpgbbjaaHFnExactLogOfx1
import Derived.Test.YtdpbfjcfpgbbjaaHFnExactLogOfx2
import Derived.Test.YtdpbfjcfpgbbjaaHFnExactLogOfx3
import Derived.Test.YtdpbfjcfpgbbjaaHFnExactLogOfx4
import Derived.Test.YtdpbfjcfpgbbjaaHFnExactLogOfx5
import Derived.Test.YtdpbfjcfpgbbjaaHFnExactLogOfx6
namespace Go.Proofs.Ytdpbfjcfpgbbjaa.HFnExactLogOf
open Go.RowKit Go.Proofs.YtdpbfjcfpgbbjaaW.PrintWords Go.Proofs.YtdpbfjcfpgbbjaaW.PrintLast Go.Proofs.YtdpbfjcfpgbbjaaW.PrintMore
attribute [local go_sem] max2_int min2_int max_two min_two max_three min_three max_four min_four   -- for this text's walks alone
set_option linter.unusedVariables false
set_option linter.unusedSimpArgs false

end Go.Proofs.Ytdpbfjcfpgbbjaa.HFnExactLogOf
