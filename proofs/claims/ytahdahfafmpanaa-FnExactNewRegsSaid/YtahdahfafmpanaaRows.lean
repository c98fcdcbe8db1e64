/-
  No cell of these rows narrows 'for every input' (looked for: loops, veiled, ifaces, maps, wideKeys, modest, calm, conditions, laid).
  DERIVED. THE GIVEN ROWS OF THIS SEAT. 12 by the template 'for every input the law returns true; each argument reads behind the call as it read before'; 0 by the template 'total and deterministic' (their statements: YtahdahfafmpanaaTotals.lean).
  GIVEN WITH THE SEED: the statements are not yours to turn. If you find one false, say at which input.
  Laid BY PROGRAM, IN A SANDBOX (cutbox-rows.mjs): the forced cells as the released guide's own fill.sh prints them over the translation af34d42bfe51a3f7… (all of the seat's roots in one cut). By AI agents, Wed Nov 11 2026. No macro, syntax, notation, axiom, sorry.
-/
import Derived.Test.YtahdahfafmpanaaChecked
import GoSem.Claim
import GoSem.ClaimJoined
import GoSem.ClaimMapViews
import Derived.JoinedTies
import Derived.KernelRfl
namespace Go.Proofs.Ytahdahfafmpanaa
/- THE CELL 'sum', in the pinned program and in every row, IS THE sha256 OF THE DUMP (.gsa) THAT YtahdahfafmpanaaProg.lean LOADS. Nothing in Lean hashes anything: it is a label: what it is worth is what the hold of that sum in a sandbox is worth. -/
noncomputable def Try.pinned : Pinned := { name := "ytahdahfafmpanaa", sum := "af34d42bfe51a3f74f20e5ad2303d718e945c860a2c12d4eb2dac67cc7d6c418", checked := Try.checked }
namespace Rows
def none {H : Type} : Left H := { results := [], args := [] }

/-- 'laws.FnExactTestCond': WHATEVER THE INPUT: true; the input reads as it did. -/
def fnExactTestCondSpec : ChangeSpec := { name := "fnExactTestCond", fn := fun _ => fun
  | [d1, d2] => { results := [.lit (.bool true)], args := [d1, d2] }
  | _ => none }
def fnExactTestCondRow : OpenClaim := { program := "ytahdahfafmpanaa", sum := "af34d42bfe51a3f74f20e5ad2303d718e945c860a2c12d4eb2dac67cc7d6c418", func := "loop.example/g00389/laws.FnExactTestCond", spec := "fnExactTestCond", unfollowed := true, recurses := true, apart := false }
def FnExactTestCondSaid : Prop := fnExactTestCondRow.holds Try.pinned (OpenSpec.ofChange fnExactTestCondSpec)

/-- ITS FALSE NEIGHBOUR: 'it returns false'. Refute it at one input. -/
def fnExactTestCondWrong : ChangeSpec := { name := "fnExactTestCond", fn := fun _ => fun
  | [d1, d2] => { results := [.lit (.bool false)], args := [d1, d2] }
  | _ => none }
def FnExactTestCondWrongFalsely : Prop := fnExactTestCondRow.holds Try.pinned (OpenSpec.ofChange fnExactTestCondWrong)

/-- 'laws.FnExactNewDevice': WHATEVER THE INPUT: true; the input reads as it did. -/
def fnExactNewDeviceSpec : ChangeSpec := { name := "fnExactNewDevice", fn := fun _ => fun
  | [] => { results := [.lit (.bool true)], args := [] }
  | _ => none }
def fnExactNewDeviceRow : OpenClaim := { program := "ytahdahfafmpanaa", sum := "af34d42bfe51a3f74f20e5ad2303d718e945c860a2c12d4eb2dac67cc7d6c418", func := "loop.example/g00389/laws.FnExactNewDevice", spec := "fnExactNewDevice", apart := false }
def FnExactNewDeviceSaid : Prop := fnExactNewDeviceRow.holds Try.pinned (OpenSpec.ofChange fnExactNewDeviceSpec)

/-- ITS FALSE NEIGHBOUR: 'it returns false'. Refute it at one input. -/
def fnExactNewDeviceWrong : ChangeSpec := { name := "fnExactNewDevice", fn := fun _ => fun
  | [] => { results := [.lit (.bool false)], args := [] }
  | _ => none }
def FnExactNewDeviceWrongFalsely : Prop := fnExactNewDeviceRow.holds Try.pinned (OpenSpec.ofChange fnExactNewDeviceWrong)

/-- 'laws.FnExactAddFlags': WHATEVER THE INPUT: true; the input reads as it did. -/
def fnExactAddFlagsSpec : ChangeSpec := { name := "fnExactAddFlags", fn := fun _ => fun
  | [d1, d2, d3, d4] => { results := [.lit (.bool true)], args := [d1, d2, d3, d4] }
  | _ => none }
def fnExactAddFlagsRow : OpenClaim := { program := "ytahdahfafmpanaa", sum := "af34d42bfe51a3f74f20e5ad2303d718e945c860a2c12d4eb2dac67cc7d6c418", func := "loop.example/g00389/laws.FnExactAddFlags", spec := "fnExactAddFlags", apart := false }
def FnExactAddFlagsSaid : Prop := fnExactAddFlagsRow.holds Try.pinned (OpenSpec.ofChange fnExactAddFlagsSpec)

/-- ITS FALSE NEIGHBOUR: 'it returns false'. Refute it at one input. -/
def fnExactAddFlagsWrong : ChangeSpec := { name := "fnExactAddFlags", fn := fun _ => fun
  | [d1, d2, d3, d4] => { results := [.lit (.bool false)], args := [d1, d2, d3, d4] }
  | _ => none }
def FnExactAddFlagsWrongFalsely : Prop := fnExactAddFlagsRow.holds Try.pinned (OpenSpec.ofChange fnExactAddFlagsWrong)

/-- 'laws.FnExactSubFlags': WHATEVER THE INPUT: true; the input reads as it did. -/
def fnExactSubFlagsSpec : ChangeSpec := { name := "fnExactSubFlags", fn := fun _ => fun
  | [d1, d2, d3, d4] => { results := [.lit (.bool true)], args := [d1, d2, d3, d4] }
  | _ => none }
def fnExactSubFlagsRow : OpenClaim := { program := "ytahdahfafmpanaa", sum := "af34d42bfe51a3f74f20e5ad2303d718e945c860a2c12d4eb2dac67cc7d6c418", func := "loop.example/g00389/laws.FnExactSubFlags", spec := "fnExactSubFlags", apart := false }
def FnExactSubFlagsSaid : Prop := fnExactSubFlagsRow.holds Try.pinned (OpenSpec.ofChange fnExactSubFlagsSpec)

/-- ITS FALSE NEIGHBOUR: 'it returns false'. Refute it at one input. -/
def fnExactSubFlagsWrong : ChangeSpec := { name := "fnExactSubFlags", fn := fun _ => fun
  | [d1, d2, d3, d4] => { results := [.lit (.bool false)], args := [d1, d2, d3, d4] }
  | _ => none }
def FnExactSubFlagsWrongFalsely : Prop := fnExactSubFlagsRow.holds Try.pinned (OpenSpec.ofChange fnExactSubFlagsWrong)

/-- 'laws.FnExactNegFlags': WHATEVER THE INPUT: true; the input reads as it did. -/
def fnExactNegFlagsSpec : ChangeSpec := { name := "fnExactNegFlags", fn := fun _ => fun
  | [d1, d2] => { results := [.lit (.bool true)], args := [d1, d2] }
  | _ => none }
def fnExactNegFlagsRow : OpenClaim := { program := "ytahdahfafmpanaa", sum := "af34d42bfe51a3f74f20e5ad2303d718e945c860a2c12d4eb2dac67cc7d6c418", func := "loop.example/g00389/laws.FnExactNegFlags", spec := "fnExactNegFlags", apart := false }
def FnExactNegFlagsSaid : Prop := fnExactNegFlagsRow.holds Try.pinned (OpenSpec.ofChange fnExactNegFlagsSpec)

/-- ITS FALSE NEIGHBOUR: 'it returns false'. Refute it at one input. -/
def fnExactNegFlagsWrong : ChangeSpec := { name := "fnExactNegFlags", fn := fun _ => fun
  | [d1, d2] => { results := [.lit (.bool false)], args := [d1, d2] }
  | _ => none }
def FnExactNegFlagsWrongFalsely : Prop := fnExactNegFlagsRow.holds Try.pinned (OpenSpec.ofChange fnExactNegFlagsWrong)

/-- 'laws.FnExactCmpFlags': WHATEVER THE INPUT: true; the input reads as it did. -/
def fnExactCmpFlagsSpec : ChangeSpec := { name := "fnExactCmpFlags", fn := fun _ => fun
  | [d1, d2, d3, d4] => { results := [.lit (.bool true)], args := [d1, d2, d3, d4] }
  | _ => none }
def fnExactCmpFlagsRow : OpenClaim := { program := "ytahdahfafmpanaa", sum := "af34d42bfe51a3f74f20e5ad2303d718e945c860a2c12d4eb2dac67cc7d6c418", func := "loop.example/g00389/laws.FnExactCmpFlags", spec := "fnExactCmpFlags", apart := false }
def FnExactCmpFlagsSaid : Prop := fnExactCmpFlagsRow.holds Try.pinned (OpenSpec.ofChange fnExactCmpFlagsSpec)

/-- ITS FALSE NEIGHBOUR: 'it returns false'. Refute it at one input. -/
def fnExactCmpFlagsWrong : ChangeSpec := { name := "fnExactCmpFlags", fn := fun _ => fun
  | [d1, d2, d3, d4] => { results := [.lit (.bool false)], args := [d1, d2, d3, d4] }
  | _ => none }
def FnExactCmpFlagsWrongFalsely : Prop := fnExactCmpFlagsRow.holds Try.pinned (OpenSpec.ofChange fnExactCmpFlagsWrong)

/-- 'laws.FnExactNewRegs': WHATEVER THE INPUT: true; the input reads as it did. -/
def fnExactNewRegsSpec : ChangeSpec := { name := "fnExactNewRegs", fn := fun _ => fun
  | [] => { results := [.lit (.bool true)], args := [] }
  | _ => none }
def fnExactNewRegsRow : OpenClaim := { program := "ytahdahfafmpanaa", sum := "af34d42bfe51a3f74f20e5ad2303d718e945c860a2c12d4eb2dac67cc7d6c418", func := "loop.example/g00389/laws.FnExactNewRegs", spec := "fnExactNewRegs", apart := false }
def FnExactNewRegsSaid : Prop := fnExactNewRegsRow.holds Try.pinned (OpenSpec.ofChange fnExactNewRegsSpec)

/-- ITS FALSE NEIGHBOUR: 'it returns false'. Refute it at one input. -/
def fnExactNewRegsWrong : ChangeSpec := { name := "fnExactNewRegs", fn := fun _ => fun
  | [] => { results := [.lit (.bool false)], args := [] }
  | _ => none }
def FnExactNewRegsWrongFalsely : Prop := fnExactNewRegsRow.holds Try.pinned (OpenSpec.ofChange fnExactNewRegsWrong)

/-- 'laws.FnExactCountTrue': WHATEVER THE INPUT: true; the input reads as it did. -/
def fnExactCountTrueSpec : ChangeSpec := { name := "fnExactCountTrue", fn := fun _ => fun
  | [d] => { results := [.lit (.bool true)], args := [d] }
  | _ => none }
def fnExactCountTrueRow : OpenClaim := { program := "ytahdahfafmpanaa", sum := "af34d42bfe51a3f74f20e5ad2303d718e945c860a2c12d4eb2dac67cc7d6c418", func := "loop.example/g00389/laws.FnExactCountTrue", spec := "fnExactCountTrue", unfollowed := true, recurses := true, apart := false }
def FnExactCountTrueSaid : Prop := fnExactCountTrueRow.holds Try.pinned (OpenSpec.ofChange fnExactCountTrueSpec)

/-- ITS FALSE NEIGHBOUR: 'it returns false'. Refute it at one input. -/
def fnExactCountTrueWrong : ChangeSpec := { name := "fnExactCountTrue", fn := fun _ => fun
  | [d] => { results := [.lit (.bool false)], args := [d] }
  | _ => none }
def FnExactCountTrueWrongFalsely : Prop := fnExactCountTrueRow.holds Try.pinned (OpenSpec.ofChange fnExactCountTrueWrong)

/-- 'laws.FnExactGoodDevice': WHATEVER THE INPUT: true; the input reads as it did. -/
def fnExactGoodDeviceSpec : ChangeSpec := { name := "fnExactGoodDevice", fn := fun _ => fun
  | [d] => { results := [.lit (.bool true)], args := [d] }
  | _ => none }
def fnExactGoodDeviceRow : OpenClaim := { program := "ytahdahfafmpanaa", sum := "af34d42bfe51a3f74f20e5ad2303d718e945c860a2c12d4eb2dac67cc7d6c418", func := "loop.example/g00389/laws.FnExactGoodDevice", spec := "fnExactGoodDevice", unfollowed := true, recurses := true, apart := false }
def FnExactGoodDeviceSaid : Prop := fnExactGoodDeviceRow.holds Try.pinned (OpenSpec.ofChange fnExactGoodDeviceSpec)

/-- ITS FALSE NEIGHBOUR: 'it returns false'. Refute it at one input. -/
def fnExactGoodDeviceWrong : ChangeSpec := { name := "fnExactGoodDevice", fn := fun _ => fun
  | [d] => { results := [.lit (.bool false)], args := [d] }
  | _ => none }
def FnExactGoodDeviceWrongFalsely : Prop := fnExactGoodDeviceRow.holds Try.pinned (OpenSpec.ofChange fnExactGoodDeviceWrong)

/-- 'laws.FnExactShiftOnce': WHATEVER THE INPUT: true; the input reads as it did. -/
def fnExactShiftOnceSpec : ChangeSpec := { name := "fnExactShiftOnce", fn := fun _ => fun
  | [d1, d2, d3, d4] => { results := [.lit (.bool true)], args := [d1, d2, d3, d4] }
  | _ => none }
def fnExactShiftOnceRow : OpenClaim := { program := "ytahdahfafmpanaa", sum := "af34d42bfe51a3f74f20e5ad2303d718e945c860a2c12d4eb2dac67cc7d6c418", func := "loop.example/g00389/laws.FnExactShiftOnce", spec := "fnExactShiftOnce", apart := false }
def FnExactShiftOnceSaid : Prop := fnExactShiftOnceRow.holds Try.pinned (OpenSpec.ofChange fnExactShiftOnceSpec)

/-- ITS FALSE NEIGHBOUR: 'it returns false'. Refute it at one input. -/
def fnExactShiftOnceWrong : ChangeSpec := { name := "fnExactShiftOnce", fn := fun _ => fun
  | [d1, d2, d3, d4] => { results := [.lit (.bool false)], args := [d1, d2, d3, d4] }
  | _ => none }
def FnExactShiftOnceWrongFalsely : Prop := fnExactShiftOnceRow.holds Try.pinned (OpenSpec.ofChange fnExactShiftOnceWrong)

/-- 'laws.FnExactAddDigits': WHATEVER THE INPUT: true; the input reads as it did. -/
def fnExactAddDigitsSpec : ChangeSpec := { name := "fnExactAddDigits", fn := fun _ => fun
  | [d1, d2] => { results := [.lit (.bool true)], args := [d1, d2] }
  | _ => none }
def fnExactAddDigitsRow : OpenClaim := { program := "ytahdahfafmpanaa", sum := "af34d42bfe51a3f74f20e5ad2303d718e945c860a2c12d4eb2dac67cc7d6c418", func := "loop.example/g00389/laws.FnExactAddDigits", spec := "fnExactAddDigits", apart := false }
def FnExactAddDigitsSaid : Prop := fnExactAddDigitsRow.holds Try.pinned (OpenSpec.ofChange fnExactAddDigitsSpec)

/-- ITS FALSE NEIGHBOUR: 'it returns false'. Refute it at one input. -/
def fnExactAddDigitsWrong : ChangeSpec := { name := "fnExactAddDigits", fn := fun _ => fun
  | [d1, d2] => { results := [.lit (.bool false)], args := [d1, d2] }
  | _ => none }
def FnExactAddDigitsWrongFalsely : Prop := fnExactAddDigitsRow.holds Try.pinned (OpenSpec.ofChange fnExactAddDigitsWrong)

/-- 'laws.FnExactGoodRegs': WHATEVER THE INPUT: true; the input reads as it did. -/
def fnExactGoodRegsSpec : ChangeSpec := { name := "fnExactGoodRegs", fn := fun _ => fun
  | [d] => { results := [.lit (.bool true)], args := [d] }
  | _ => none }
def fnExactGoodRegsRow : OpenClaim := { program := "ytahdahfafmpanaa", sum := "af34d42bfe51a3f74f20e5ad2303d718e945c860a2c12d4eb2dac67cc7d6c418", func := "loop.example/g00389/laws.FnExactGoodRegs", spec := "fnExactGoodRegs", unfollowed := true, recurses := true, apart := false }
def FnExactGoodRegsSaid : Prop := fnExactGoodRegsRow.holds Try.pinned (OpenSpec.ofChange fnExactGoodRegsSpec)

/-- ITS FALSE NEIGHBOUR: 'it returns false'. Refute it at one input. -/
def fnExactGoodRegsWrong : ChangeSpec := { name := "fnExactGoodRegs", fn := fun _ => fun
  | [d] => { results := [.lit (.bool false)], args := [d] }
  | _ => none }
def FnExactGoodRegsWrongFalsely : Prop := fnExactGoodRegsRow.holds Try.pinned (OpenSpec.ofChange fnExactGoodRegsWrong)

/- THE SECOND FORM. 'bulk': how many values and letters a reading holds, each counted each time it is reached (what is shared counts as often as it is met; a slice's spare places count too). A statement '..UptoSaid' is the law's where the arguments, and the package variables that the reading takes, are together of bulk at most 1048576: NARROWER than '..Said'. Prove '..Said' where nothing that the law and all that it calls make is longer than what came in: it says more and counts as full. Else prove '..UptoSaid'. A law counts once. -/
mutual
def uptoBulk {H : Type} : DataW H → Nat
  | .lit (.string bytes) => bytes.length + 1
  | .lit _ => 1
  | .nil => 1
  | .ptr d => uptoBulk d + 1
  | .slice elems spare => uptoBulkAll elems + uptoBulkAll spare + 1
  | .agg parts => uptoBulkAll parts + 1
  | .iface _ d => uptoBulk d + 1
  | .map entries => uptoBulkEntries entries + 1
  | .held _ => 1
def uptoBulkAll {H : Type} : List (DataW H) → Nat
  | [] => 0
  | d :: r => uptoBulk d + uptoBulkAll r
def uptoBulkEntries {H : Type} : List (Lit × DataW H) → Nat
  | [] => 0
  | x :: r => uptoBulkEntry x + uptoBulkEntries r
def uptoBulkEntry {H : Type} : Lit × DataW H → Nat
  | (.string bytes, d) => bytes.length + uptoBulk d + 1
  | (_, d) => uptoBulk d + 1
 end
def uptoSmall : (H : Type) → List (DataW H) → Bool := fun _ ds => decide (uptoBulkAll ds ≤ 1048576)
def OpenSpec.upto (s : _root_.Go.ChangeSpec) : _root_.Go.OpenSpec := { _root_.Go.OpenSpec.ofChange s with cond := some uptoSmall }

/-- 'laws.FnExactTestCond', WHERE WHAT IT READS IS OF BULK AT MOST 1048576: true; the input reads as it did. -/
def fnExactTestCondUptoRow : OpenClaim := { program := "ytahdahfafmpanaa", sum := "af34d42bfe51a3f74f20e5ad2303d718e945c860a2c12d4eb2dac67cc7d6c418", func := "loop.example/g00389/laws.FnExactTestCond", spec := "fnExactTestCond", unfollowed := true, recurses := true, apart := false, narrowed := true }
def FnExactTestCondUptoSaid : Prop := fnExactTestCondUptoRow.holds Try.pinned (OpenSpec.upto fnExactTestCondSpec)

/-- 'laws.FnExactNewDevice', WHERE WHAT IT READS IS OF BULK AT MOST 1048576: true; the input reads as it did. -/
def fnExactNewDeviceUptoRow : OpenClaim := { program := "ytahdahfafmpanaa", sum := "af34d42bfe51a3f74f20e5ad2303d718e945c860a2c12d4eb2dac67cc7d6c418", func := "loop.example/g00389/laws.FnExactNewDevice", spec := "fnExactNewDevice", apart := false, narrowed := true }
def FnExactNewDeviceUptoSaid : Prop := fnExactNewDeviceUptoRow.holds Try.pinned (OpenSpec.upto fnExactNewDeviceSpec)

/-- 'laws.FnExactAddFlags', WHERE WHAT IT READS IS OF BULK AT MOST 1048576: true; the input reads as it did. -/
def fnExactAddFlagsUptoRow : OpenClaim := { program := "ytahdahfafmpanaa", sum := "af34d42bfe51a3f74f20e5ad2303d718e945c860a2c12d4eb2dac67cc7d6c418", func := "loop.example/g00389/laws.FnExactAddFlags", spec := "fnExactAddFlags", apart := false, narrowed := true }
def FnExactAddFlagsUptoSaid : Prop := fnExactAddFlagsUptoRow.holds Try.pinned (OpenSpec.upto fnExactAddFlagsSpec)

/-- 'laws.FnExactSubFlags', WHERE WHAT IT READS IS OF BULK AT MOST 1048576: true; the input reads as it did. -/
def fnExactSubFlagsUptoRow : OpenClaim := { program := "ytahdahfafmpanaa", sum := "af34d42bfe51a3f74f20e5ad2303d718e945c860a2c12d4eb2dac67cc7d6c418", func := "loop.example/g00389/laws.FnExactSubFlags", spec := "fnExactSubFlags", apart := false, narrowed := true }
def FnExactSubFlagsUptoSaid : Prop := fnExactSubFlagsUptoRow.holds Try.pinned (OpenSpec.upto fnExactSubFlagsSpec)

/-- 'laws.FnExactNegFlags', WHERE WHAT IT READS IS OF BULK AT MOST 1048576: true; the input reads as it did. -/
def fnExactNegFlagsUptoRow : OpenClaim := { program := "ytahdahfafmpanaa", sum := "af34d42bfe51a3f74f20e5ad2303d718e945c860a2c12d4eb2dac67cc7d6c418", func := "loop.example/g00389/laws.FnExactNegFlags", spec := "fnExactNegFlags", apart := false, narrowed := true }
def FnExactNegFlagsUptoSaid : Prop := fnExactNegFlagsUptoRow.holds Try.pinned (OpenSpec.upto fnExactNegFlagsSpec)

/-- 'laws.FnExactCmpFlags', WHERE WHAT IT READS IS OF BULK AT MOST 1048576: true; the input reads as it did. -/
def fnExactCmpFlagsUptoRow : OpenClaim := { program := "ytahdahfafmpanaa", sum := "af34d42bfe51a3f74f20e5ad2303d718e945c860a2c12d4eb2dac67cc7d6c418", func := "loop.example/g00389/laws.FnExactCmpFlags", spec := "fnExactCmpFlags", apart := false, narrowed := true }
def FnExactCmpFlagsUptoSaid : Prop := fnExactCmpFlagsUptoRow.holds Try.pinned (OpenSpec.upto fnExactCmpFlagsSpec)

/-- 'laws.FnExactNewRegs', WHERE WHAT IT READS IS OF BULK AT MOST 1048576: true; the input reads as it did. -/
def fnExactNewRegsUptoRow : OpenClaim := { program := "ytahdahfafmpanaa", sum := "af34d42bfe51a3f74f20e5ad2303d718e945c860a2c12d4eb2dac67cc7d6c418", func := "loop.example/g00389/laws.FnExactNewRegs", spec := "fnExactNewRegs", apart := false, narrowed := true }
def FnExactNewRegsUptoSaid : Prop := fnExactNewRegsUptoRow.holds Try.pinned (OpenSpec.upto fnExactNewRegsSpec)

/-- 'laws.FnExactCountTrue', WHERE WHAT IT READS IS OF BULK AT MOST 1048576: true; the input reads as it did. -/
def fnExactCountTrueUptoRow : OpenClaim := { program := "ytahdahfafmpanaa", sum := "af34d42bfe51a3f74f20e5ad2303d718e945c860a2c12d4eb2dac67cc7d6c418", func := "loop.example/g00389/laws.FnExactCountTrue", spec := "fnExactCountTrue", unfollowed := true, recurses := true, apart := false, narrowed := true }
def FnExactCountTrueUptoSaid : Prop := fnExactCountTrueUptoRow.holds Try.pinned (OpenSpec.upto fnExactCountTrueSpec)

/-- 'laws.FnExactGoodDevice', WHERE WHAT IT READS IS OF BULK AT MOST 1048576: true; the input reads as it did. -/
def fnExactGoodDeviceUptoRow : OpenClaim := { program := "ytahdahfafmpanaa", sum := "af34d42bfe51a3f74f20e5ad2303d718e945c860a2c12d4eb2dac67cc7d6c418", func := "loop.example/g00389/laws.FnExactGoodDevice", spec := "fnExactGoodDevice", unfollowed := true, recurses := true, apart := false, narrowed := true }
def FnExactGoodDeviceUptoSaid : Prop := fnExactGoodDeviceUptoRow.holds Try.pinned (OpenSpec.upto fnExactGoodDeviceSpec)

/-- 'laws.FnExactShiftOnce', WHERE WHAT IT READS IS OF BULK AT MOST 1048576: true; the input reads as it did. -/
def fnExactShiftOnceUptoRow : OpenClaim := { program := "ytahdahfafmpanaa", sum := "af34d42bfe51a3f74f20e5ad2303d718e945c860a2c12d4eb2dac67cc7d6c418", func := "loop.example/g00389/laws.FnExactShiftOnce", spec := "fnExactShiftOnce", apart := false, narrowed := true }
def FnExactShiftOnceUptoSaid : Prop := fnExactShiftOnceUptoRow.holds Try.pinned (OpenSpec.upto fnExactShiftOnceSpec)

/-- 'laws.FnExactAddDigits', WHERE WHAT IT READS IS OF BULK AT MOST 1048576: true; the input reads as it did. -/
def fnExactAddDigitsUptoRow : OpenClaim := { program := "ytahdahfafmpanaa", sum := "af34d42bfe51a3f74f20e5ad2303d718e945c860a2c12d4eb2dac67cc7d6c418", func := "loop.example/g00389/laws.FnExactAddDigits", spec := "fnExactAddDigits", apart := false, narrowed := true }
def FnExactAddDigitsUptoSaid : Prop := fnExactAddDigitsUptoRow.holds Try.pinned (OpenSpec.upto fnExactAddDigitsSpec)

/-- 'laws.FnExactGoodRegs', WHERE WHAT IT READS IS OF BULK AT MOST 1048576: true; the input reads as it did. -/
def fnExactGoodRegsUptoRow : OpenClaim := { program := "ytahdahfafmpanaa", sum := "af34d42bfe51a3f74f20e5ad2303d718e945c860a2c12d4eb2dac67cc7d6c418", func := "loop.example/g00389/laws.FnExactGoodRegs", spec := "fnExactGoodRegs", unfollowed := true, recurses := true, apart := false, narrowed := true }
def FnExactGoodRegsUptoSaid : Prop := fnExactGoodRegsUptoRow.holds Try.pinned (OpenSpec.upto fnExactGoodRegsSpec)

end Rows
end Go.Proofs.Ytahdahfafmpanaa
