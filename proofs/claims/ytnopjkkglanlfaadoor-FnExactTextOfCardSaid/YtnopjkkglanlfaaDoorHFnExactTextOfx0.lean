-- out of hprint.py, this session's own program over the kit's print (see NOTES.md); Lean checks it
import Derived.Test.YtnopjkkglanlfaaDoorProg
import Derived.Below
import Derived.Deep.Draws
import Derived.Deep.AppendLies
import Derived.Maps.AppendAt
import Derived.OwnWalk
import Derived.Laws.BytesArg
import Derived.Laws.MakeOwn
import Derived.Laws.OwnMore
import Derived.Deep.OwnRows
import Derived.Tactics
import Derived.Lib.ConvBytes
import Derived.Laws.Slices
import Derived.WalkKit
import Derived.KernelRfl
import Derived.RowKit3
import Derived.Deep.LoopGhost
import Derived.Deep.QuietTactic
import Derived.BigQuiet
import Derived.WideLaws
import Derived.Deep.DeepCutAuto
import Derived.Deep.CutBlock
import Derived.Deep.RegionHeld3
import Derived.Laws.Rows
import Derived.Lib.AppendStr
import Derived.ArgAppend
import Derived.Laws.IdiomCopy
import Derived.OrdersHeld
import Derived.Laws.BitsLemmas
import Derived.RowKit
import Derived.Lib.SliceRun
import Derived.Test.YtnopjkkglanlfaaDoorShelf
import Derived.Lib.AppendIntMem
import Derived.Test.YtnopjkkglanlfaaDoorWWords
import Derived.Test.YtnopjkkglanlfaaDoorWLast
import Derived.Test.YtnopjkkglanlfaaDoorWTab
import Derived.Test.YtnopjkkglanlfaaDoorWFour
import Derived.Test.YtnopjkkglanlfaaDoorWQPut
import Derived.Test.YtnopjkkglanlfaaDoorWApart
import Derived.Test.YtnopjkkglanlfaaDoorWArr
import Derived.Test.YtnopjkkglanlfaaDoorWZeros
import Derived.Test.YtnopjkkglanlfaaDoorWFoot
import Derived.Test.YtnopjkkglanlfaaDoorWKept
import Derived.Test.YtnopjkkglanlfaaDoorWShare
import Derived.Test.YtnopjkkglanlfaaDoorWN
import Derived.Test.YtnopjkkglanlfaaDoorWFootNe
import Derived.Test.YtnopjkkglanlfaaDoorWAt
import Derived.Test.YtnopjkkglanlfaaDoorWEqStruct
import Derived.Test.YtnopjkkglanlfaaDoorWRepsOne
import Derived.Test.YtnopjkkglanlfaaDoorWInv
import Derived.Test.YtnopjkkglanlfaaDoorWInvWords
import Derived.Test.YtnopjkkglanlfaaDoorWGuard
import Derived.Test.YtnopjkkglanlfaaDoorWNEv
import Derived.Test.YtnopjkkglanlfaaDoorWMore
namespace Go.Proofs.YtnopjkkglanlfaaDoor.HFnExactTextOf
open Go.RowKit Go.Proofs.YtnopjkkglanlfaaDoorW.PrintWords Go.Proofs.YtnopjkkglanlfaaDoorW.PrintLast Go.Proofs.YtnopjkkglanlfaaDoorW.PrintMore
attribute [local go_sem] max2_int min2_int max_two min_two max_three min_three max_four min_four   -- for this text's walks alone
set_option linter.unusedVariables false
set_option linter.unusedSimpArgs false



def errW : Option Int → Value
  | none => .nilIface
  | some c => .iface 0 (.int .i64 c)
theorem errW_none : errW none = .nilIface := rfl
theorem errW_some (c : Int) : errW (some c) = .iface 0 (.int .i64 c) := rfl

theorem info5 : (Tryd.prog.info? 5).map (fun i => (i.zero, i.size, i.bytes)) = some (some (.int .u8 0), 1, 1) := by kernel_rfl
-- the values' own types

end Go.Proofs.YtnopjkkglanlfaaDoor.HFnExactTextOf
