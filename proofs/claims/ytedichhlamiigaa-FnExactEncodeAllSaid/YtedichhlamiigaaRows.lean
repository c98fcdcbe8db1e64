/-
  No cell of these rows narrows 'for every input' (looked for: loops, veiled, ifaces, maps, wideKeys, modest, calm, conditions, laid).
  DERIVED. THE GIVEN ROWS OF THIS SEAT. 12 by the template 'for every input the law returns true; each argument reads behind the call as it read before'; 0 by the template 'total and deterministic' (their statements: YtedichhlamiigaaTotals.lean).
  GIVEN WITH THE SEED: the statements are not yours to turn. If you find one false, say at which input.
  Laid BY PROGRAM, IN A SANDBOX (cutbox-rows.mjs): the forced cells as the released guide's own fill.sh prints them over the translation 38584b58e12fddfa… (all of the seat's roots in one cut). By AI agents, Wed Nov 11 2026. No macro, syntax, notation, axiom, sorry.
-/
import Derived.Test.YtedichhlamiigaaChecked
import GoSem.Claim
import GoSem.ClaimJoined
import GoSem.ClaimMapViews
import Derived.JoinedTies
import Derived.KernelRfl
namespace Go.Proofs.Ytedichhlamiigaa
/- THE CELL 'sum', in the pinned program and in every row, IS THE sha256 OF THE DUMP (.gsa) THAT YtedichhlamiigaaProg.lean LOADS. Nothing in Lean hashes anything: it is a label: what it is worth is what the hold of that sum in a sandbox is worth. -/
noncomputable def Try.pinned : Pinned := { name := "ytedichhlamiigaa", sum := "38584b58e12fddfadde08807403ead7d2a1f6b1e8a1208069813a0625d5dccba", checked := Try.checked }
namespace Rows
def none {H : Type} : Left H := { results := [], args := [] }

/-- 'laws.FnExactConstants': WHATEVER THE INPUT: true; the input reads as it did. -/
def fnExactConstantsSpec : ChangeSpec := { name := "fnExactConstants", fn := fun _ => fun
  | [] => { results := [.lit (.bool true)], args := [] }
  | _ => none }
def fnExactConstantsRow : OpenClaim := { program := "ytedichhlamiigaa", sum := "38584b58e12fddfadde08807403ead7d2a1f6b1e8a1208069813a0625d5dccba", func := "loop.example/g00389/laws.FnExactConstants", spec := "fnExactConstants", apart := false }
def FnExactConstantsSaid : Prop := fnExactConstantsRow.holds Try.pinned (OpenSpec.ofChange fnExactConstantsSpec)

/-- ITS FALSE NEIGHBOUR: 'it returns false'. Refute it at one input. -/
def fnExactConstantsWrong : ChangeSpec := { name := "fnExactConstants", fn := fun _ => fun
  | [] => { results := [.lit (.bool false)], args := [] }
  | _ => none }
def FnExactConstantsWrongFalsely : Prop := fnExactConstantsRow.holds Try.pinned (OpenSpec.ofChange fnExactConstantsWrong)

/-- 'laws.FnExactIsBcd': WHATEVER THE INPUT: true; the input reads as it did. -/
def fnExactIsBcdSpec : ChangeSpec := { name := "fnExactIsBcd", fn := fun _ => fun
  | [d] => { results := [.lit (.bool true)], args := [d] }
  | _ => none }
def fnExactIsBcdRow : OpenClaim := { program := "ytedichhlamiigaa", sum := "38584b58e12fddfadde08807403ead7d2a1f6b1e8a1208069813a0625d5dccba", func := "loop.example/g00389/laws.FnExactIsBcd", spec := "fnExactIsBcd", apart := false }
def FnExactIsBcdSaid : Prop := fnExactIsBcdRow.holds Try.pinned (OpenSpec.ofChange fnExactIsBcdSpec)

/-- ITS FALSE NEIGHBOUR: 'it returns false'. Refute it at one input. -/
def fnExactIsBcdWrong : ChangeSpec := { name := "fnExactIsBcd", fn := fun _ => fun
  | [d] => { results := [.lit (.bool false)], args := [d] }
  | _ => none }
def FnExactIsBcdWrongFalsely : Prop := fnExactIsBcdRow.holds Try.pinned (OpenSpec.ofChange fnExactIsBcdWrong)

/-- 'laws.FnExactBcdOf': WHATEVER THE INPUT: true; the input reads as it did. -/
def fnExactBcdOfSpec : ChangeSpec := { name := "fnExactBcdOf", fn := fun _ => fun
  | [d] => { results := [.lit (.bool true)], args := [d] }
  | _ => none }
def fnExactBcdOfRow : OpenClaim := { program := "ytedichhlamiigaa", sum := "38584b58e12fddfadde08807403ead7d2a1f6b1e8a1208069813a0625d5dccba", func := "loop.example/g00389/laws.FnExactBcdOf", spec := "fnExactBcdOf", apart := false }
def FnExactBcdOfSaid : Prop := fnExactBcdOfRow.holds Try.pinned (OpenSpec.ofChange fnExactBcdOfSpec)

/-- ITS FALSE NEIGHBOUR: 'it returns false'. Refute it at one input. -/
def fnExactBcdOfWrong : ChangeSpec := { name := "fnExactBcdOf", fn := fun _ => fun
  | [d] => { results := [.lit (.bool false)], args := [d] }
  | _ => none }
def FnExactBcdOfWrongFalsely : Prop := fnExactBcdOfRow.holds Try.pinned (OpenSpec.ofChange fnExactBcdOfWrong)

/-- 'laws.FnExactContraryOf': WHATEVER THE INPUT: true; the input reads as it did. -/
def fnExactContraryOfSpec : ChangeSpec := { name := "fnExactContraryOf", fn := fun _ => fun
  | [d] => { results := [.lit (.bool true)], args := [d] }
  | _ => none }
def fnExactContraryOfRow : OpenClaim := { program := "ytedichhlamiigaa", sum := "38584b58e12fddfadde08807403ead7d2a1f6b1e8a1208069813a0625d5dccba", func := "loop.example/g00389/laws.FnExactContraryOf", spec := "fnExactContraryOf", apart := false }
def FnExactContraryOfSaid : Prop := fnExactContraryOfRow.holds Try.pinned (OpenSpec.ofChange fnExactContraryOfSpec)

/-- ITS FALSE NEIGHBOUR: 'it returns false'. Refute it at one input. -/
def fnExactContraryOfWrong : ChangeSpec := { name := "fnExactContraryOf", fn := fun _ => fun
  | [d] => { results := [.lit (.bool false)], args := [d] }
  | _ => none }
def FnExactContraryOfWrongFalsely : Prop := fnExactContraryOfRow.holds Try.pinned (OpenSpec.ofChange fnExactContraryOfWrong)

/-- 'laws.FnExactNeedsExt': WHATEVER THE INPUT: true; the input reads as it did. -/
def fnExactNeedsExtSpec : ChangeSpec := { name := "fnExactNeedsExt", fn := fun _ => fun
  | [d] => { results := [.lit (.bool true)], args := [d] }
  | _ => none }
def fnExactNeedsExtRow : OpenClaim := { program := "ytedichhlamiigaa", sum := "38584b58e12fddfadde08807403ead7d2a1f6b1e8a1208069813a0625d5dccba", func := "loop.example/g00389/laws.FnExactNeedsExt", spec := "fnExactNeedsExt", apart := false }
def FnExactNeedsExtSaid : Prop := fnExactNeedsExtRow.holds Try.pinned (OpenSpec.ofChange fnExactNeedsExtSpec)

/-- ITS FALSE NEIGHBOUR: 'it returns false'. Refute it at one input. -/
def fnExactNeedsExtWrong : ChangeSpec := { name := "fnExactNeedsExt", fn := fun _ => fun
  | [d] => { results := [.lit (.bool false)], args := [d] }
  | _ => none }
def FnExactNeedsExtWrongFalsely : Prop := fnExactNeedsExtRow.holds Try.pinned (OpenSpec.ofChange fnExactNeedsExtWrong)

/-- 'laws.FnExactIsLeft': WHATEVER THE INPUT: true; the input reads as it did. -/
def fnExactIsLeftSpec : ChangeSpec := { name := "fnExactIsLeft", fn := fun _ => fun
  | [d] => { results := [.lit (.bool true)], args := [d] }
  | _ => none }
def fnExactIsLeftRow : OpenClaim := { program := "ytedichhlamiigaa", sum := "38584b58e12fddfadde08807403ead7d2a1f6b1e8a1208069813a0625d5dccba", func := "loop.example/g00389/laws.FnExactIsLeft", spec := "fnExactIsLeft", apart := false }
def FnExactIsLeftSaid : Prop := fnExactIsLeftRow.holds Try.pinned (OpenSpec.ofChange fnExactIsLeftSpec)

/-- ITS FALSE NEIGHBOUR: 'it returns false'. Refute it at one input. -/
def fnExactIsLeftWrong : ChangeSpec := { name := "fnExactIsLeft", fn := fun _ => fun
  | [d] => { results := [.lit (.bool false)], args := [d] }
  | _ => none }
def FnExactIsLeftWrongFalsely : Prop := fnExactIsLeftRow.holds Try.pinned (OpenSpec.ofChange fnExactIsLeftWrong)

/-- 'laws.FnExactEncodeAll': WHATEVER THE INPUT: true; the input reads as it did. -/
def fnExactEncodeAllSpec : ChangeSpec := { name := "fnExactEncodeAll", fn := fun _ => fun
  | [d] => { results := [.lit (.bool true)], args := [d] }
  | _ => none }
def fnExactEncodeAllRow : OpenClaim := { program := "ytedichhlamiigaa", sum := "38584b58e12fddfadde08807403ead7d2a1f6b1e8a1208069813a0625d5dccba", func := "loop.example/g00389/laws.FnExactEncodeAll", spec := "fnExactEncodeAll", unfollowed := true, recurses := true, apart := false }
def FnExactEncodeAllSaid : Prop := fnExactEncodeAllRow.holds Try.pinned (OpenSpec.ofChange fnExactEncodeAllSpec)

/-- ITS FALSE NEIGHBOUR: 'it returns false'. Refute it at one input. -/
def fnExactEncodeAllWrong : ChangeSpec := { name := "fnExactEncodeAll", fn := fun _ => fun
  | [d] => { results := [.lit (.bool false)], args := [d] }
  | _ => none }
def FnExactEncodeAllWrongFalsely : Prop := fnExactEncodeAllRow.holds Try.pinned (OpenSpec.ofChange fnExactEncodeAllWrong)

/-- 'laws.FnExactNumberOf': WHATEVER THE INPUT: true; the input reads as it did. -/
def fnExactNumberOfSpec : ChangeSpec := { name := "fnExactNumberOf", fn := fun _ => fun
  | [d] => { results := [.lit (.bool true)], args := [d] }
  | _ => none }
def fnExactNumberOfRow : OpenClaim := { program := "ytedichhlamiigaa", sum := "38584b58e12fddfadde08807403ead7d2a1f6b1e8a1208069813a0625d5dccba", func := "loop.example/g00389/laws.FnExactNumberOf", spec := "fnExactNumberOf", apart := false }
def FnExactNumberOfSaid : Prop := fnExactNumberOfRow.holds Try.pinned (OpenSpec.ofChange fnExactNumberOfSpec)

/-- ITS FALSE NEIGHBOUR: 'it returns false'. Refute it at one input. -/
def fnExactNumberOfWrong : ChangeSpec := { name := "fnExactNumberOf", fn := fun _ => fun
  | [d] => { results := [.lit (.bool false)], args := [d] }
  | _ => none }
def FnExactNumberOfWrongFalsely : Prop := fnExactNumberOfRow.holds Try.pinned (OpenSpec.ofChange fnExactNumberOfWrong)

/-- 'laws.FnExactSwapBytes': WHATEVER THE INPUT: true; the input reads as it did. -/
def fnExactSwapBytesSpec : ChangeSpec := { name := "fnExactSwapBytes", fn := fun _ => fun
  | [d] => { results := [.lit (.bool true)], args := [d] }
  | _ => none }
def fnExactSwapBytesRow : OpenClaim := { program := "ytedichhlamiigaa", sum := "38584b58e12fddfadde08807403ead7d2a1f6b1e8a1208069813a0625d5dccba", func := "loop.example/g00389/laws.FnExactSwapBytes", spec := "fnExactSwapBytes", apart := false }
def FnExactSwapBytesSaid : Prop := fnExactSwapBytesRow.holds Try.pinned (OpenSpec.ofChange fnExactSwapBytesSpec)

/-- ITS FALSE NEIGHBOUR: 'it returns false'. Refute it at one input. -/
def fnExactSwapBytesWrong : ChangeSpec := { name := "fnExactSwapBytes", fn := fun _ => fun
  | [d] => { results := [.lit (.bool false)], args := [d] }
  | _ => none }
def FnExactSwapBytesWrongFalsely : Prop := fnExactSwapBytesRow.holds Try.pinned (OpenSpec.ofChange fnExactSwapBytesWrong)

/-- 'laws.FnExactComplementBcd': WHATEVER THE INPUT: true; the input reads as it did. -/
def fnExactComplementBcdSpec : ChangeSpec := { name := "fnExactComplementBcd", fn := fun _ => fun
  | [d] => { results := [.lit (.bool true)], args := [d] }
  | _ => none }
def fnExactComplementBcdRow : OpenClaim := { program := "ytedichhlamiigaa", sum := "38584b58e12fddfadde08807403ead7d2a1f6b1e8a1208069813a0625d5dccba", func := "loop.example/g00389/laws.FnExactComplementBcd", spec := "fnExactComplementBcd", apart := false }
def FnExactComplementBcdSaid : Prop := fnExactComplementBcdRow.holds Try.pinned (OpenSpec.ofChange fnExactComplementBcdSpec)

/-- ITS FALSE NEIGHBOUR: 'it returns false'. Refute it at one input. -/
def fnExactComplementBcdWrong : ChangeSpec := { name := "fnExactComplementBcd", fn := fun _ => fun
  | [d] => { results := [.lit (.bool false)], args := [d] }
  | _ => none }
def FnExactComplementBcdWrongFalsely : Prop := fnExactComplementBcdRow.holds Try.pinned (OpenSpec.ofChange fnExactComplementBcdWrong)

/-- 'laws.FnExactGoodOperand': WHATEVER THE INPUT: true; the input reads as it did. -/
def fnExactGoodOperandSpec : ChangeSpec := { name := "fnExactGoodOperand", fn := fun _ => fun
  | [d] => { results := [.lit (.bool true)], args := [d] }
  | _ => none }
def fnExactGoodOperandRow : OpenClaim := { program := "ytedichhlamiigaa", sum := "38584b58e12fddfadde08807403ead7d2a1f6b1e8a1208069813a0625d5dccba", func := "loop.example/g00389/laws.FnExactGoodOperand", spec := "fnExactGoodOperand", apart := false }
def FnExactGoodOperandSaid : Prop := fnExactGoodOperandRow.holds Try.pinned (OpenSpec.ofChange fnExactGoodOperandSpec)

/-- ITS FALSE NEIGHBOUR: 'it returns false'. Refute it at one input. -/
def fnExactGoodOperandWrong : ChangeSpec := { name := "fnExactGoodOperand", fn := fun _ => fun
  | [d] => { results := [.lit (.bool false)], args := [d] }
  | _ => none }
def FnExactGoodOperandWrongFalsely : Prop := fnExactGoodOperandRow.holds Try.pinned (OpenSpec.ofChange fnExactGoodOperandWrong)

/-- 'laws.FnExactCountOnes': WHATEVER THE INPUT: true; the input reads as it did. -/
def fnExactCountOnesSpec : ChangeSpec := { name := "fnExactCountOnes", fn := fun _ => fun
  | [d1, d2] => { results := [.lit (.bool true)], args := [d1, d2] }
  | _ => none }
def fnExactCountOnesRow : OpenClaim := { program := "ytedichhlamiigaa", sum := "38584b58e12fddfadde08807403ead7d2a1f6b1e8a1208069813a0625d5dccba", func := "loop.example/g00389/laws.FnExactCountOnes", spec := "fnExactCountOnes", apart := false }
def FnExactCountOnesSaid : Prop := fnExactCountOnesRow.holds Try.pinned (OpenSpec.ofChange fnExactCountOnesSpec)

/-- ITS FALSE NEIGHBOUR: 'it returns false'. Refute it at one input. -/
def fnExactCountOnesWrong : ChangeSpec := { name := "fnExactCountOnes", fn := fun _ => fun
  | [d1, d2] => { results := [.lit (.bool false)], args := [d1, d2] }
  | _ => none }
def FnExactCountOnesWrongFalsely : Prop := fnExactCountOnesRow.holds Try.pinned (OpenSpec.ofChange fnExactCountOnesWrong)

/- THE SECOND FORM. 'bulk': how many values and letters a reading holds, each counted each time it is reached (what is shared counts as often as it is met; a slice's spare places count too). A statement '..UptoSaid' is the law's where the arguments, and the package variables that the reading takes, are together of bulk at most 1048576: NARROWER than '..Said'. Prove '..Said' where nothing that the law and all that it calls make is longer than what came in: it says more and counts as full. Else prove '..UptoSaid'. A law counts once. -/
mutual
def uptoBulk {H : Type} : DataW H → Nat
  | .lit (.string bytes) => bytes.length + 1
  | .lit _ => 1
  | .nil => 1
  | .ptr d => uptoBulk d + 1
  | .slice elems spare => uptoBulkAll elems + uptoBulkAll spare + 1
  | .agg parts => uptoBulkAll parts + 1
  | .iface _ d => uptoBulk d + 1
  | .map entries => uptoBulkEntries entries + 1
  | .held _ => 1
def uptoBulkAll {H : Type} : List (DataW H) → Nat
  | [] => 0
  | d :: r => uptoBulk d + uptoBulkAll r
def uptoBulkEntries {H : Type} : List (Lit × DataW H) → Nat
  | [] => 0
  | x :: r => uptoBulkEntry x + uptoBulkEntries r
def uptoBulkEntry {H : Type} : Lit × DataW H → Nat
  | (.string bytes, d) => bytes.length + uptoBulk d + 1
  | (_, d) => uptoBulk d + 1
 end
def uptoSmall : (H : Type) → List (DataW H) → Bool := fun _ ds => decide (uptoBulkAll ds ≤ 1048576)
def OpenSpec.upto (s : _root_.Go.ChangeSpec) : _root_.Go.OpenSpec := { _root_.Go.OpenSpec.ofChange s with cond := some uptoSmall }

/-- 'laws.FnExactConstants', WHERE WHAT IT READS IS OF BULK AT MOST 1048576: true; the input reads as it did. -/
def fnExactConstantsUptoRow : OpenClaim := { program := "ytedichhlamiigaa", sum := "38584b58e12fddfadde08807403ead7d2a1f6b1e8a1208069813a0625d5dccba", func := "loop.example/g00389/laws.FnExactConstants", spec := "fnExactConstants", apart := false, narrowed := true }
def FnExactConstantsUptoSaid : Prop := fnExactConstantsUptoRow.holds Try.pinned (OpenSpec.upto fnExactConstantsSpec)

/-- 'laws.FnExactIsBcd', WHERE WHAT IT READS IS OF BULK AT MOST 1048576: true; the input reads as it did. -/
def fnExactIsBcdUptoRow : OpenClaim := { program := "ytedichhlamiigaa", sum := "38584b58e12fddfadde08807403ead7d2a1f6b1e8a1208069813a0625d5dccba", func := "loop.example/g00389/laws.FnExactIsBcd", spec := "fnExactIsBcd", apart := false, narrowed := true }
def FnExactIsBcdUptoSaid : Prop := fnExactIsBcdUptoRow.holds Try.pinned (OpenSpec.upto fnExactIsBcdSpec)

/-- 'laws.FnExactBcdOf', WHERE WHAT IT READS IS OF BULK AT MOST 1048576: true; the input reads as it did. -/
def fnExactBcdOfUptoRow : OpenClaim := { program := "ytedichhlamiigaa", sum := "38584b58e12fddfadde08807403ead7d2a1f6b1e8a1208069813a0625d5dccba", func := "loop.example/g00389/laws.FnExactBcdOf", spec := "fnExactBcdOf", apart := false, narrowed := true }
def FnExactBcdOfUptoSaid : Prop := fnExactBcdOfUptoRow.holds Try.pinned (OpenSpec.upto fnExactBcdOfSpec)

/-- 'laws.FnExactContraryOf', WHERE WHAT IT READS IS OF BULK AT MOST 1048576: true; the input reads as it did. -/
def fnExactContraryOfUptoRow : OpenClaim := { program := "ytedichhlamiigaa", sum := "38584b58e12fddfadde08807403ead7d2a1f6b1e8a1208069813a0625d5dccba", func := "loop.example/g00389/laws.FnExactContraryOf", spec := "fnExactContraryOf", apart := false, narrowed := true }
def FnExactContraryOfUptoSaid : Prop := fnExactContraryOfUptoRow.holds Try.pinned (OpenSpec.upto fnExactContraryOfSpec)

/-- 'laws.FnExactNeedsExt', WHERE WHAT IT READS IS OF BULK AT MOST 1048576: true; the input reads as it did. -/
def fnExactNeedsExtUptoRow : OpenClaim := { program := "ytedichhlamiigaa", sum := "38584b58e12fddfadde08807403ead7d2a1f6b1e8a1208069813a0625d5dccba", func := "loop.example/g00389/laws.FnExactNeedsExt", spec := "fnExactNeedsExt", apart := false, narrowed := true }
def FnExactNeedsExtUptoSaid : Prop := fnExactNeedsExtUptoRow.holds Try.pinned (OpenSpec.upto fnExactNeedsExtSpec)

/-- 'laws.FnExactIsLeft', WHERE WHAT IT READS IS OF BULK AT MOST 1048576: true; the input reads as it did. -/
def fnExactIsLeftUptoRow : OpenClaim := { program := "ytedichhlamiigaa", sum := "38584b58e12fddfadde08807403ead7d2a1f6b1e8a1208069813a0625d5dccba", func := "loop.example/g00389/laws.FnExactIsLeft", spec := "fnExactIsLeft", apart := false, narrowed := true }
def FnExactIsLeftUptoSaid : Prop := fnExactIsLeftUptoRow.holds Try.pinned (OpenSpec.upto fnExactIsLeftSpec)

/-- 'laws.FnExactEncodeAll', WHERE WHAT IT READS IS OF BULK AT MOST 1048576: true; the input reads as it did. -/
def fnExactEncodeAllUptoRow : OpenClaim := { program := "ytedichhlamiigaa", sum := "38584b58e12fddfadde08807403ead7d2a1f6b1e8a1208069813a0625d5dccba", func := "loop.example/g00389/laws.FnExactEncodeAll", spec := "fnExactEncodeAll", unfollowed := true, recurses := true, apart := false, narrowed := true }
def FnExactEncodeAllUptoSaid : Prop := fnExactEncodeAllUptoRow.holds Try.pinned (OpenSpec.upto fnExactEncodeAllSpec)

/-- 'laws.FnExactNumberOf', WHERE WHAT IT READS IS OF BULK AT MOST 1048576: true; the input reads as it did. -/
def fnExactNumberOfUptoRow : OpenClaim := { program := "ytedichhlamiigaa", sum := "38584b58e12fddfadde08807403ead7d2a1f6b1e8a1208069813a0625d5dccba", func := "loop.example/g00389/laws.FnExactNumberOf", spec := "fnExactNumberOf", apart := false, narrowed := true }
def FnExactNumberOfUptoSaid : Prop := fnExactNumberOfUptoRow.holds Try.pinned (OpenSpec.upto fnExactNumberOfSpec)

/-- 'laws.FnExactSwapBytes', WHERE WHAT IT READS IS OF BULK AT MOST 1048576: true; the input reads as it did. -/
def fnExactSwapBytesUptoRow : OpenClaim := { program := "ytedichhlamiigaa", sum := "38584b58e12fddfadde08807403ead7d2a1f6b1e8a1208069813a0625d5dccba", func := "loop.example/g00389/laws.FnExactSwapBytes", spec := "fnExactSwapBytes", apart := false, narrowed := true }
def FnExactSwapBytesUptoSaid : Prop := fnExactSwapBytesUptoRow.holds Try.pinned (OpenSpec.upto fnExactSwapBytesSpec)

/-- 'laws.FnExactComplementBcd', WHERE WHAT IT READS IS OF BULK AT MOST 1048576: true; the input reads as it did. -/
def fnExactComplementBcdUptoRow : OpenClaim := { program := "ytedichhlamiigaa", sum := "38584b58e12fddfadde08807403ead7d2a1f6b1e8a1208069813a0625d5dccba", func := "loop.example/g00389/laws.FnExactComplementBcd", spec := "fnExactComplementBcd", apart := false, narrowed := true }
def FnExactComplementBcdUptoSaid : Prop := fnExactComplementBcdUptoRow.holds Try.pinned (OpenSpec.upto fnExactComplementBcdSpec)

/-- 'laws.FnExactGoodOperand', WHERE WHAT IT READS IS OF BULK AT MOST 1048576: true; the input reads as it did. -/
def fnExactGoodOperandUptoRow : OpenClaim := { program := "ytedichhlamiigaa", sum := "38584b58e12fddfadde08807403ead7d2a1f6b1e8a1208069813a0625d5dccba", func := "loop.example/g00389/laws.FnExactGoodOperand", spec := "fnExactGoodOperand", apart := false, narrowed := true }
def FnExactGoodOperandUptoSaid : Prop := fnExactGoodOperandUptoRow.holds Try.pinned (OpenSpec.upto fnExactGoodOperandSpec)

/-- 'laws.FnExactCountOnes', WHERE WHAT IT READS IS OF BULK AT MOST 1048576: true; the input reads as it did. -/
def fnExactCountOnesUptoRow : OpenClaim := { program := "ytedichhlamiigaa", sum := "38584b58e12fddfadde08807403ead7d2a1f6b1e8a1208069813a0625d5dccba", func := "loop.example/g00389/laws.FnExactCountOnes", spec := "fnExactCountOnes", apart := false, narrowed := true }
def FnExactCountOnesUptoSaid : Prop := fnExactCountOnesUptoRow.holds Try.pinned (OpenSpec.upto fnExactCountOnesSpec)

end Rows
end Go.Proofs.Ytedichhlamiigaa
