-- out of hprint.py, this session's own program over the kit's print (see NOTES.md); Lean checks it
import Derived.Test.YtedichhlamiigaaHFnExactEncodeAllx0
import Derived.Test.YtedichhlamiigaaHFnExactEncodeAllx1
import Derived.Test.YtedichhlamiigaaHFnExactEncodeAllx2
import Derived.Test.YtedichhlamiigaaHFnExactEncodeAllx3
import Derived.Test.YtedichhlamiigaaHFnExactEncodeAllx4
import Derived.Test.YtedichhlamiigaaHFnExactEncodeAllx5
import Derived.Test.YtedichhlamiigaaHFnExactEncodeAllx6
import Derived.Test.YtedichhlamiigaaHFnExactEncodeAllx7
import Derived.Test.YtedichhlamiigaaHFnExactEncodeAllx8
import Derived.Test.YtedichhlamiigaaHFnExactEncodeAllx9
namespace Go.Proofs.Ytedichhlamiigaa.HFnExactEncodeAll
open Go.RowKit Go.Proofs.YtedichhlamiigaaW.PrintWords Go.Proofs.YtedichhlamiigaaW.PrintLast Go.Proofs.YtedichhlamiigaaW.PrintMore
attribute [local go_sem] max2_int min2_int max_two min_two max_three min_three max_four min_four   -- for this text's walks alone
set_option linter.unusedVariables false
set_option linter.unusedSimpArgs false

end Go.Proofs.Ytedichhlamiigaa.HFnExactEncodeAll
