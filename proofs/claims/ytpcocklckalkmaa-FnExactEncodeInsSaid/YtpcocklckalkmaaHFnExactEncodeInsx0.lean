-- out of hprint.py, this session's own program over the kit's print (see NOTES.md); Lean checks it
import Derived.Test.YtpcocklckalkmaaProg
import Derived.Below
import Derived.Deep.Draws
import Derived.Deep.AppendLies
import Derived.Maps.AppendAt
import Derived.OwnWalk
import Derived.Laws.BytesArg
import Derived.Laws.MakeOwn
import Derived.Laws.OwnMore
import Derived.Deep.OwnRows
import Derived.Tactics
import Derived.Lib.ConvBytes
import Derived.Laws.Slices
import Derived.WalkKit
import Derived.KernelRfl
import Derived.RowKit3
import Derived.Deep.LoopGhost
import Derived.Deep.QuietTactic
import Derived.BigQuiet
import Derived.WideLaws
import Derived.Deep.DeepCutAuto
import Derived.Deep.CutBlock
import Derived.Deep.RegionHeld3
import Derived.Laws.Rows
import Derived.Lib.AppendStr
import Derived.ArgAppend
import Derived.Laws.IdiomCopy
import Derived.OrdersHeld
import Derived.Laws.BitsLemmas
import Derived.RowKit
import Derived.Test.YtpcocklckalkmaaWWords
import Derived.Test.YtpcocklckalkmaaWLast
import Derived.Test.YtpcocklckalkmaaWTab
import Derived.Test.YtpcocklckalkmaaWFour
import Derived.Test.YtpcocklckalkmaaWQPut
import Derived.Test.YtpcocklckalkmaaWApart
import Derived.Test.YtpcocklckalkmaaWArr
import Derived.Test.YtpcocklckalkmaaWZeros
import Derived.Test.YtpcocklckalkmaaWFoot
import Derived.Test.YtpcocklckalkmaaWKept
import Derived.Test.YtpcocklckalkmaaWShare
import Derived.Test.YtpcocklckalkmaaWN
import Derived.Test.YtpcocklckalkmaaWFootNe
import Derived.Test.YtpcocklckalkmaaWAt
import Derived.Test.YtpcocklckalkmaaWEqStruct
import Derived.Test.YtpcocklckalkmaaWRepsOne
import Derived.Test.YtpcocklckalkmaaWInv
import Derived.Test.YtpcocklckalkmaaWInvWords
import Derived.Test.YtpcocklckalkmaaWGuard
import Derived.Test.YtpcocklckalkmaaWNEv
import Derived.Test.YtpcocklckalkmaaWMore
namespace Go.Proofs.Ytpcocklckalkmaa.HFnExactEncodeIns
open Go.RowKit Go.Proofs.YtpcocklckalkmaaW.PrintWords Go.Proofs.YtpcocklckalkmaaW.PrintLast Go.Proofs.YtpcocklckalkmaaW.PrintMore
attribute [local go_sem] max2_int min2_int max_two min_two max_three min_three max_four min_four   -- for this text's walks alone
set_option linter.unusedVariables false
set_option linter.unusedSimpArgs false



def errW : Option Int → Value
  | none => .nilIface
  | some c => .iface 0 (.int .i64 c)
theorem errW_none : errW none = .nilIface := rfl
theorem errW_some (c : Int) : errW (some c) = .iface 0 (.int .i64 c) := rfl

theorem info3 : (Try.prog.info? 3).map (fun i => (i.zero, i.size, i.bytes)) = some (some (.int .i64 0), 1, 8) := by kernel_rfl
-- the values' own types

end Go.Proofs.Ytpcocklckalkmaa.HFnExactEncodeIns
