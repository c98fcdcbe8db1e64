-- out of hprint.py, this session's own program over the kit's print (see NOTES.md); Lean checks it
import Derived.Test.YtdpbfjcfpgbbjaaProg
import Derived.Below
import Derived.Deep.Draws
import Derived.Deep.AppendLies
import Derived.Maps.AppendAt
import Derived.OwnWalk
import Derived.Laws.BytesArg
import Derived.Laws.MakeOwn
import Derived.Laws.OwnMore
import Derived.Deep.OwnRows
import Derived.Tactics
import Derived.Lib.ConvBytes
import Derived.Laws.Slices
import Derived.WalkKit
import Derived.KernelRfl
import Derived.RowKit3
import Derived.Deep.LoopGhost
import Derived.Deep.QuietTactic
import Derived.BigQuiet
import Derived.WideLaws
import Derived.Deep.DeepCutAuto
import Derived.Deep.CutBlock
import Derived.Deep.RegionHeld3
import Derived.Laws.Rows
import Derived.Lib.AppendStr
import Derived.ArgAppend
import Derived.Laws.IdiomCopy
import Derived.OrdersHeld
import Derived.Laws.BitsLemmas
import Derived.RowKit
import Derived.Test.YtdpbfjcfpgbbjaaWWords
import Derived.Test.YtdpbfjcfpgbbjaaWLast
import Derived.Test.YtdpbfjcfpgbbjaaWTab
import Derived.Test.YtdpbfjcfpgbbjaaWFour
import Derived.Test.YtdpbfjcfpgbbjaaWQPut
import Derived.Test.YtdpbfjcfpgbbjaaWApart
import Derived.Test.YtdpbfjcfpgbbjaaWArr
import Derived.Test.YtdpbfjcfpgbbjaaWZeros
import Derived.Test.YtdpbfjcfpgbbjaaWFoot
import Derived.Test.YtdpbfjcfpgbbjaaWKept
import Derived.Test.YtdpbfjcfpgbbjaaWShare
import Derived.Test.YtdpbfjcfpgbbjaaWN
import Derived.Test.YtdpbfjcfpgbbjaaWFootNe
import Derived.Test.YtdpbfjcfpgbbjaaWAt
import Derived.Test.YtdpbfjcfpgbbjaaWEqStruct
import Derived.Test.YtdpbfjcfpgbbjaaWRepsOne
import Derived.Test.YtdpbfjcfpgbbjaaWInv
import Derived.Test.YtdpbfjcfpgbbjaaWInvWords
import Derived.Test.YtdpbfjcfpgbbjaaWGuard
import Derived.Test.YtdpbfjcfpgbbjaaWNEv
import Derived.Test.YtdpbfjcfpgbbjaaWMore
namespace Go.Proofs.Ytdpbfjcfpgbbjaa.HFnExactDecodeIns
open Go.RowKit Go.Proofs.YtdpbfjcfpgbbjaaW.PrintWords Go.Proofs.YtdpbfjcfpgbbjaaW.PrintLast Go.Proofs.YtdpbfjcfpgbbjaaW.PrintMore
attribute [local go_sem] max2_int min2_int max_two min_two max_three min_three max_four min_four   -- for this text's walks alone
set_option linter.unusedVariables false
set_option linter.unusedSimpArgs false



def errW : Option Int → Value
  | none => .nilIface
  | some c => .iface 0 (.int .i64 c)
theorem errW_none : errW none = .nilIface := rfl
theorem errW_some (c : Int) : errW (some c) = .iface 0 (.int .i64 c) := rfl

-- the values' own types

end Go.Proofs.Ytdpbfjcfpgbbjaa.HFnExactDecodeIns
