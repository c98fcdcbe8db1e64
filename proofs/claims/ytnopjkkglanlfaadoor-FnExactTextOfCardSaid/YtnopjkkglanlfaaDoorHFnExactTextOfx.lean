-- out of hprint.py, this session's own program over the kit's print (see NOTES.md); Lean checks it
import Derived.Test.YtnopjkkglanlfaaDoorHFnExactTextOfx0
import Derived.Test.YtnopjkkglanlfaaDoorHFnExactTextOfx1
import Derived.Test.YtnopjkkglanlfaaDoorHFnExactTextOfx2
import Derived.Test.YtnopjkkglanlfaaDoorHFnExactTextOfx3
import Derived.Test.YtnopjkkglanlfaaDoorHFnExactTextOfx4
import Derived.Test.YtnopjkkglanlfaaDoorHFnExactTextOfx5
import Derived.Test.YtnopjkkglanlfaaDoorHFnExactTextOfx6
import Derived.Test.YtnopjkkglanlfaaDoorHFnExactTextOfx7
import Derived.Test.YtnopjkkglanlfaaDoorHFnExactTextOfx8
import Derived.Test.YtnopjkkglanlfaaDoorHFnExactTextOfx9
namespace Go.Proofs.YtnopjkkglanlfaaDoor.HFnExactTextOf
open Go.RowKit Go.Proofs.YtnopjkkglanlfaaDoorW.PrintWords Go.Proofs.YtnopjkkglanlfaaDoorW.PrintLast Go.Proofs.YtnopjkkglanlfaaDoorW.PrintMore
attribute [local go_sem] max2_int min2_int max_two min_two max_three min_three max_four min_four   -- for this text's walks alone
set_option linter.unusedVariables false
set_option linter.unusedSimpArgs false

end Go.Proofs.YtnopjkkglanlfaaDoor.HFnExactTextOf
