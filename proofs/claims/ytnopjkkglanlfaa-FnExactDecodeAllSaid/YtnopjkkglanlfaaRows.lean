/-
  No cell of these rows narrows 'for every input' (looked for: loops, veiled, ifaces, maps, wideKeys, modest, calm, conditions, laid).
  DERIVED. THE GIVEN ROWS OF THIS SEAT. 11 by the template 'for every input the law returns true; each argument reads behind the call as it read before'; 0 by the template 'total and deterministic' (their statements: YtnopjkkglanlfaaTotals.lean).
  GIVEN WITH THE SEED: the statements are not yours to turn. If you find one false, say at which input.
  Laid BY PROGRAM, IN A SANDBOX (cutbox-rows.mjs): the forced cells as the released guide's own fill.sh prints them over the translation 6b0e28be6243f5c7… (all of the seat's roots in one cut). By AI agents, Wed Nov 11 2026. No macro, syntax, notation, axiom, sorry.
-/
import Derived.Test.YtnopjkkglanlfaaChecked
import GoSem.Claim
import GoSem.ClaimJoined
import GoSem.ClaimMapViews
import Derived.JoinedTies
import Derived.KernelRfl
namespace Go.Proofs.Ytnopjkkglanlfaa
/- THE CELL 'sum', in the pinned program and in every row, IS THE sha256 OF THE DUMP (.gsa) THAT YtnopjkkglanlfaaProg.lean LOADS. Nothing in Lean hashes anything: it is a label: what it is worth is what the hold of that sum in a sandbox is worth. -/
noncomputable def Try.pinned : Pinned := { name := "ytnopjkkglanlfaa", sum := "6b0e28be6243f5c7fed949799155438309c05741365aec6dc5cfb527c204dab8", checked := Try.checked }
namespace Rows
def none {H : Type} : Left H := { results := [], args := [] }

/-- 'laws.FnExactReverseBits': WHATEVER THE INPUT: true; the input reads as it did. -/
def fnExactReverseBitsSpec : ChangeSpec := { name := "fnExactReverseBits", fn := fun _ => fun
  | [d1, d2] => { results := [.lit (.bool true)], args := [d1, d2] }
  | _ => none }
def fnExactReverseBitsRow : OpenClaim := { program := "ytnopjkkglanlfaa", sum := "6b0e28be6243f5c7fed949799155438309c05741365aec6dc5cfb527c204dab8", func := "loop.example/g00389/laws.FnExactReverseBits", spec := "fnExactReverseBits", apart := false }
def FnExactReverseBitsSaid : Prop := fnExactReverseBitsRow.holds Try.pinned (OpenSpec.ofChange fnExactReverseBitsSpec)

/-- ITS FALSE NEIGHBOUR: 'it returns false'. Refute it at one input. -/
def fnExactReverseBitsWrong : ChangeSpec := { name := "fnExactReverseBits", fn := fun _ => fun
  | [d1, d2] => { results := [.lit (.bool false)], args := [d1, d2] }
  | _ => none }
def FnExactReverseBitsWrongFalsely : Prop := fnExactReverseBitsRow.holds Try.pinned (OpenSpec.ofChange fnExactReverseBitsWrong)

/-- 'laws.FnExactDecodeAll': WHATEVER THE INPUT: true; the input reads as it did. -/
def fnExactDecodeAllSpec : ChangeSpec := { name := "fnExactDecodeAll", fn := fun _ => fun
  | [d] => { results := [.lit (.bool true)], args := [d] }
  | _ => none }
def fnExactDecodeAllRow : OpenClaim := { program := "ytnopjkkglanlfaa", sum := "6b0e28be6243f5c7fed949799155438309c05741365aec6dc5cfb527c204dab8", func := "loop.example/g00389/laws.FnExactDecodeAll", spec := "fnExactDecodeAll", unfollowed := true, recurses := true, apart := false }
def FnExactDecodeAllSaid : Prop := fnExactDecodeAllRow.holds Try.pinned (OpenSpec.ofChange fnExactDecodeAllSpec)

/-- ITS FALSE NEIGHBOUR: 'it returns false'. Refute it at one input. -/
def fnExactDecodeAllWrong : ChangeSpec := { name := "fnExactDecodeAll", fn := fun _ => fun
  | [d] => { results := [.lit (.bool false)], args := [d] }
  | _ => none }
def FnExactDecodeAllWrongFalsely : Prop := fnExactDecodeAllRow.holds Try.pinned (OpenSpec.ofChange fnExactDecodeAllWrong)

/-- 'laws.FnExactLongIns': WHATEVER THE INPUT: true; the input reads as it did. -/
def fnExactLongInsSpec : ChangeSpec := { name := "fnExactLongIns", fn := fun _ => fun
  | [d] => { results := [.lit (.bool true)], args := [d] }
  | _ => none }
def fnExactLongInsRow : OpenClaim := { program := "ytnopjkkglanlfaa", sum := "6b0e28be6243f5c7fed949799155438309c05741365aec6dc5cfb527c204dab8", func := "loop.example/g00389/laws.FnExactLongIns", spec := "fnExactLongIns", apart := false }
def FnExactLongInsSaid : Prop := fnExactLongInsRow.holds Try.pinned (OpenSpec.ofChange fnExactLongInsSpec)

/-- ITS FALSE NEIGHBOUR: 'it returns false'. Refute it at one input. -/
def fnExactLongInsWrong : ChangeSpec := { name := "fnExactLongIns", fn := fun _ => fun
  | [d] => { results := [.lit (.bool false)], args := [d] }
  | _ => none }
def FnExactLongInsWrongFalsely : Prop := fnExactLongInsRow.holds Try.pinned (OpenSpec.ofChange fnExactLongInsWrong)

/-- 'laws.FnExactExtendWord': WHATEVER THE INPUT: true; the input reads as it did. -/
def fnExactExtendWordSpec : ChangeSpec := { name := "fnExactExtendWord", fn := fun _ => fun
  | [d] => { results := [.lit (.bool true)], args := [d] }
  | _ => none }
def fnExactExtendWordRow : OpenClaim := { program := "ytnopjkkglanlfaa", sum := "6b0e28be6243f5c7fed949799155438309c05741365aec6dc5cfb527c204dab8", func := "loop.example/g00389/laws.FnExactExtendWord", spec := "fnExactExtendWord", apart := false }
def FnExactExtendWordSaid : Prop := fnExactExtendWordRow.holds Try.pinned (OpenSpec.ofChange fnExactExtendWordSpec)

/-- ITS FALSE NEIGHBOUR: 'it returns false'. Refute it at one input. -/
def fnExactExtendWordWrong : ChangeSpec := { name := "fnExactExtendWord", fn := fun _ => fun
  | [d] => { results := [.lit (.bool false)], args := [d] }
  | _ => none }
def FnExactExtendWordWrongFalsely : Prop := fnExactExtendWordRow.holds Try.pinned (OpenSpec.ofChange fnExactExtendWordWrong)

/-- 'laws.FnExactSignedOf': WHATEVER THE INPUT: true; the input reads as it did. -/
def fnExactSignedOfSpec : ChangeSpec := { name := "fnExactSignedOf", fn := fun _ => fun
  | [d1, d2] => { results := [.lit (.bool true)], args := [d1, d2] }
  | _ => none }
def fnExactSignedOfRow : OpenClaim := { program := "ytnopjkkglanlfaa", sum := "6b0e28be6243f5c7fed949799155438309c05741365aec6dc5cfb527c204dab8", func := "loop.example/g00389/laws.FnExactSignedOf", spec := "fnExactSignedOf", apart := false }
def FnExactSignedOfSaid : Prop := fnExactSignedOfRow.holds Try.pinned (OpenSpec.ofChange fnExactSignedOfSpec)

/-- ITS FALSE NEIGHBOUR: 'it returns false'. Refute it at one input. -/
def fnExactSignedOfWrong : ChangeSpec := { name := "fnExactSignedOf", fn := fun _ => fun
  | [d1, d2] => { results := [.lit (.bool false)], args := [d1, d2] }
  | _ => none }
def FnExactSignedOfWrongFalsely : Prop := fnExactSignedOfRow.holds Try.pinned (OpenSpec.ofChange fnExactSignedOfWrong)

/-- 'laws.FnExactKindOf': WHATEVER THE INPUT: true; the input reads as it did. -/
def fnExactKindOfSpec : ChangeSpec := { name := "fnExactKindOf", fn := fun _ => fun
  | [d] => { results := [.lit (.bool true)], args := [d] }
  | _ => none }
def fnExactKindOfRow : OpenClaim := { program := "ytnopjkkglanlfaa", sum := "6b0e28be6243f5c7fed949799155438309c05741365aec6dc5cfb527c204dab8", func := "loop.example/g00389/laws.FnExactKindOf", spec := "fnExactKindOf", apart := false }
def FnExactKindOfSaid : Prop := fnExactKindOfRow.holds Try.pinned (OpenSpec.ofChange fnExactKindOfSpec)

/-- ITS FALSE NEIGHBOUR: 'it returns false'. Refute it at one input. -/
def fnExactKindOfWrong : ChangeSpec := { name := "fnExactKindOf", fn := fun _ => fun
  | [d] => { results := [.lit (.bool false)], args := [d] }
  | _ => none }
def FnExactKindOfWrongFalsely : Prop := fnExactKindOfRow.holds Try.pinned (OpenSpec.ofChange fnExactKindOfWrong)

/-- 'laws.FnExactNeedsOf': WHATEVER THE INPUT: true; the input reads as it did. -/
def fnExactNeedsOfSpec : ChangeSpec := { name := "fnExactNeedsOf", fn := fun _ => fun
  | [d] => { results := [.lit (.bool true)], args := [d] }
  | _ => none }
def fnExactNeedsOfRow : OpenClaim := { program := "ytnopjkkglanlfaa", sum := "6b0e28be6243f5c7fed949799155438309c05741365aec6dc5cfb527c204dab8", func := "loop.example/g00389/laws.FnExactNeedsOf", spec := "fnExactNeedsOf", apart := false }
def FnExactNeedsOfSaid : Prop := fnExactNeedsOfRow.holds Try.pinned (OpenSpec.ofChange fnExactNeedsOfSpec)

/-- ITS FALSE NEIGHBOUR: 'it returns false'. Refute it at one input. -/
def fnExactNeedsOfWrong : ChangeSpec := { name := "fnExactNeedsOf", fn := fun _ => fun
  | [d] => { results := [.lit (.bool false)], args := [d] }
  | _ => none }
def FnExactNeedsOfWrongFalsely : Prop := fnExactNeedsOfRow.holds Try.pinned (OpenSpec.ofChange fnExactNeedsOfWrong)

/-- 'laws.FnExactAddBcd': WHATEVER THE INPUT: true; the input reads as it did. -/
def fnExactAddBcdSpec : ChangeSpec := { name := "fnExactAddBcd", fn := fun _ => fun
  | [d1, d2, d3] => { results := [.lit (.bool true)], args := [d1, d2, d3] }
  | _ => none }
def fnExactAddBcdRow : OpenClaim := { program := "ytnopjkkglanlfaa", sum := "6b0e28be6243f5c7fed949799155438309c05741365aec6dc5cfb527c204dab8", func := "loop.example/g00389/laws.FnExactAddBcd", spec := "fnExactAddBcd", apart := false }
def FnExactAddBcdSaid : Prop := fnExactAddBcdRow.holds Try.pinned (OpenSpec.ofChange fnExactAddBcdSpec)

/-- ITS FALSE NEIGHBOUR: 'it returns false'. Refute it at one input. -/
def fnExactAddBcdWrong : ChangeSpec := { name := "fnExactAddBcd", fn := fun _ => fun
  | [d1, d2, d3] => { results := [.lit (.bool false)], args := [d1, d2, d3] }
  | _ => none }
def FnExactAddBcdWrongFalsely : Prop := fnExactAddBcdRow.holds Try.pinned (OpenSpec.ofChange fnExactAddBcdWrong)

/-- 'laws.FnExactLogicFlags': WHATEVER THE INPUT: true; the input reads as it did. -/
def fnExactLogicFlagsSpec : ChangeSpec := { name := "fnExactLogicFlags", fn := fun _ => fun
  | [d1, d2, d3] => { results := [.lit (.bool true)], args := [d1, d2, d3] }
  | _ => none }
def fnExactLogicFlagsRow : OpenClaim := { program := "ytnopjkkglanlfaa", sum := "6b0e28be6243f5c7fed949799155438309c05741365aec6dc5cfb527c204dab8", func := "loop.example/g00389/laws.FnExactLogicFlags", spec := "fnExactLogicFlags", apart := false }
def FnExactLogicFlagsSaid : Prop := fnExactLogicFlagsRow.holds Try.pinned (OpenSpec.ofChange fnExactLogicFlagsSpec)

/-- ITS FALSE NEIGHBOUR: 'it returns false'. Refute it at one input. -/
def fnExactLogicFlagsWrong : ChangeSpec := { name := "fnExactLogicFlags", fn := fun _ => fun
  | [d1, d2, d3] => { results := [.lit (.bool false)], args := [d1, d2, d3] }
  | _ => none }
def FnExactLogicFlagsWrongFalsely : Prop := fnExactLogicFlagsRow.holds Try.pinned (OpenSpec.ofChange fnExactLogicFlagsWrong)

/-- 'laws.FnExactSubBcd': WHATEVER THE INPUT: true; the input reads as it did. -/
def fnExactSubBcdSpec : ChangeSpec := { name := "fnExactSubBcd", fn := fun _ => fun
  | [d1, d2, d3] => { results := [.lit (.bool true)], args := [d1, d2, d3] }
  | _ => none }
def fnExactSubBcdRow : OpenClaim := { program := "ytnopjkkglanlfaa", sum := "6b0e28be6243f5c7fed949799155438309c05741365aec6dc5cfb527c204dab8", func := "loop.example/g00389/laws.FnExactSubBcd", spec := "fnExactSubBcd", apart := false }
def FnExactSubBcdSaid : Prop := fnExactSubBcdRow.holds Try.pinned (OpenSpec.ofChange fnExactSubBcdSpec)

/-- ITS FALSE NEIGHBOUR: 'it returns false'. Refute it at one input. -/
def fnExactSubBcdWrong : ChangeSpec := { name := "fnExactSubBcd", fn := fun _ => fun
  | [d1, d2, d3] => { results := [.lit (.bool false)], args := [d1, d2, d3] }
  | _ => none }
def FnExactSubBcdWrongFalsely : Prop := fnExactSubBcdRow.holds Try.pinned (OpenSpec.ofChange fnExactSubBcdWrong)

/-- 'laws.FnExactNegBcd': WHATEVER THE INPUT: true; the input reads as it did. -/
def fnExactNegBcdSpec : ChangeSpec := { name := "fnExactNegBcd", fn := fun _ => fun
  | [d1, d2] => { results := [.lit (.bool true)], args := [d1, d2] }
  | _ => none }
def fnExactNegBcdRow : OpenClaim := { program := "ytnopjkkglanlfaa", sum := "6b0e28be6243f5c7fed949799155438309c05741365aec6dc5cfb527c204dab8", func := "loop.example/g00389/laws.FnExactNegBcd", spec := "fnExactNegBcd", apart := false }
def FnExactNegBcdSaid : Prop := fnExactNegBcdRow.holds Try.pinned (OpenSpec.ofChange fnExactNegBcdSpec)

/-- ITS FALSE NEIGHBOUR: 'it returns false'. Refute it at one input. -/
def fnExactNegBcdWrong : ChangeSpec := { name := "fnExactNegBcd", fn := fun _ => fun
  | [d1, d2] => { results := [.lit (.bool false)], args := [d1, d2] }
  | _ => none }
def FnExactNegBcdWrongFalsely : Prop := fnExactNegBcdRow.holds Try.pinned (OpenSpec.ofChange fnExactNegBcdWrong)

/- THE SECOND FORM. 'bulk': how many values and letters a reading holds, each counted each time it is reached (what is shared counts as often as it is met; a slice's spare places count too). A statement '..UptoSaid' is the law's where the arguments, and the package variables that the reading takes, are together of bulk at most 1048576: NARROWER than '..Said'. Prove '..Said' where nothing that the law and all that it calls make is longer than what came in: it says more and counts as full. Else prove '..UptoSaid'. A law counts once. -/
mutual
def uptoBulk {H : Type} : DataW H → Nat
  | .lit (.string bytes) => bytes.length + 1
  | .lit _ => 1
  | .nil => 1
  | .ptr d => uptoBulk d + 1
  | .slice elems spare => uptoBulkAll elems + uptoBulkAll spare + 1
  | .agg parts => uptoBulkAll parts + 1
  | .iface _ d => uptoBulk d + 1
  | .map entries => uptoBulkEntries entries + 1
  | .held _ => 1
def uptoBulkAll {H : Type} : List (DataW H) → Nat
  | [] => 0
  | d :: r => uptoBulk d + uptoBulkAll r
def uptoBulkEntries {H : Type} : List (Lit × DataW H) → Nat
  | [] => 0
  | x :: r => uptoBulkEntry x + uptoBulkEntries r
def uptoBulkEntry {H : Type} : Lit × DataW H → Nat
  | (.string bytes, d) => bytes.length + uptoBulk d + 1
  | (_, d) => uptoBulk d + 1
 end
def uptoSmall : (H : Type) → List (DataW H) → Bool := fun _ ds => decide (uptoBulkAll ds ≤ 1048576)
def OpenSpec.upto (s : _root_.Go.ChangeSpec) : _root_.Go.OpenSpec := { _root_.Go.OpenSpec.ofChange s with cond := some uptoSmall }

/-- 'laws.FnExactReverseBits', WHERE WHAT IT READS IS OF BULK AT MOST 1048576: true; the input reads as it did. -/
def fnExactReverseBitsUptoRow : OpenClaim := { program := "ytnopjkkglanlfaa", sum := "6b0e28be6243f5c7fed949799155438309c05741365aec6dc5cfb527c204dab8", func := "loop.example/g00389/laws.FnExactReverseBits", spec := "fnExactReverseBits", apart := false, narrowed := true }
def FnExactReverseBitsUptoSaid : Prop := fnExactReverseBitsUptoRow.holds Try.pinned (OpenSpec.upto fnExactReverseBitsSpec)

/-- 'laws.FnExactDecodeAll', WHERE WHAT IT READS IS OF BULK AT MOST 1048576: true; the input reads as it did. -/
def fnExactDecodeAllUptoRow : OpenClaim := { program := "ytnopjkkglanlfaa", sum := "6b0e28be6243f5c7fed949799155438309c05741365aec6dc5cfb527c204dab8", func := "loop.example/g00389/laws.FnExactDecodeAll", spec := "fnExactDecodeAll", unfollowed := true, recurses := true, apart := false, narrowed := true }
def FnExactDecodeAllUptoSaid : Prop := fnExactDecodeAllUptoRow.holds Try.pinned (OpenSpec.upto fnExactDecodeAllSpec)

/-- 'laws.FnExactLongIns', WHERE WHAT IT READS IS OF BULK AT MOST 1048576: true; the input reads as it did. -/
def fnExactLongInsUptoRow : OpenClaim := { program := "ytnopjkkglanlfaa", sum := "6b0e28be6243f5c7fed949799155438309c05741365aec6dc5cfb527c204dab8", func := "loop.example/g00389/laws.FnExactLongIns", spec := "fnExactLongIns", apart := false, narrowed := true }
def FnExactLongInsUptoSaid : Prop := fnExactLongInsUptoRow.holds Try.pinned (OpenSpec.upto fnExactLongInsSpec)

/-- 'laws.FnExactExtendWord', WHERE WHAT IT READS IS OF BULK AT MOST 1048576: true; the input reads as it did. -/
def fnExactExtendWordUptoRow : OpenClaim := { program := "ytnopjkkglanlfaa", sum := "6b0e28be6243f5c7fed949799155438309c05741365aec6dc5cfb527c204dab8", func := "loop.example/g00389/laws.FnExactExtendWord", spec := "fnExactExtendWord", apart := false, narrowed := true }
def FnExactExtendWordUptoSaid : Prop := fnExactExtendWordUptoRow.holds Try.pinned (OpenSpec.upto fnExactExtendWordSpec)

/-- 'laws.FnExactSignedOf', WHERE WHAT IT READS IS OF BULK AT MOST 1048576: true; the input reads as it did. -/
def fnExactSignedOfUptoRow : OpenClaim := { program := "ytnopjkkglanlfaa", sum := "6b0e28be6243f5c7fed949799155438309c05741365aec6dc5cfb527c204dab8", func := "loop.example/g00389/laws.FnExactSignedOf", spec := "fnExactSignedOf", apart := false, narrowed := true }
def FnExactSignedOfUptoSaid : Prop := fnExactSignedOfUptoRow.holds Try.pinned (OpenSpec.upto fnExactSignedOfSpec)

/-- 'laws.FnExactKindOf', WHERE WHAT IT READS IS OF BULK AT MOST 1048576: true; the input reads as it did. -/
def fnExactKindOfUptoRow : OpenClaim := { program := "ytnopjkkglanlfaa", sum := "6b0e28be6243f5c7fed949799155438309c05741365aec6dc5cfb527c204dab8", func := "loop.example/g00389/laws.FnExactKindOf", spec := "fnExactKindOf", apart := false, narrowed := true }
def FnExactKindOfUptoSaid : Prop := fnExactKindOfUptoRow.holds Try.pinned (OpenSpec.upto fnExactKindOfSpec)

/-- 'laws.FnExactNeedsOf', WHERE WHAT IT READS IS OF BULK AT MOST 1048576: true; the input reads as it did. -/
def fnExactNeedsOfUptoRow : OpenClaim := { program := "ytnopjkkglanlfaa", sum := "6b0e28be6243f5c7fed949799155438309c05741365aec6dc5cfb527c204dab8", func := "loop.example/g00389/laws.FnExactNeedsOf", spec := "fnExactNeedsOf", apart := false, narrowed := true }
def FnExactNeedsOfUptoSaid : Prop := fnExactNeedsOfUptoRow.holds Try.pinned (OpenSpec.upto fnExactNeedsOfSpec)

/-- 'laws.FnExactAddBcd', WHERE WHAT IT READS IS OF BULK AT MOST 1048576: true; the input reads as it did. -/
def fnExactAddBcdUptoRow : OpenClaim := { program := "ytnopjkkglanlfaa", sum := "6b0e28be6243f5c7fed949799155438309c05741365aec6dc5cfb527c204dab8", func := "loop.example/g00389/laws.FnExactAddBcd", spec := "fnExactAddBcd", apart := false, narrowed := true }
def FnExactAddBcdUptoSaid : Prop := fnExactAddBcdUptoRow.holds Try.pinned (OpenSpec.upto fnExactAddBcdSpec)

/-- 'laws.FnExactLogicFlags', WHERE WHAT IT READS IS OF BULK AT MOST 1048576: true; the input reads as it did. -/
def fnExactLogicFlagsUptoRow : OpenClaim := { program := "ytnopjkkglanlfaa", sum := "6b0e28be6243f5c7fed949799155438309c05741365aec6dc5cfb527c204dab8", func := "loop.example/g00389/laws.FnExactLogicFlags", spec := "fnExactLogicFlags", apart := false, narrowed := true }
def FnExactLogicFlagsUptoSaid : Prop := fnExactLogicFlagsUptoRow.holds Try.pinned (OpenSpec.upto fnExactLogicFlagsSpec)

/-- 'laws.FnExactSubBcd', WHERE WHAT IT READS IS OF BULK AT MOST 1048576: true; the input reads as it did. -/
def fnExactSubBcdUptoRow : OpenClaim := { program := "ytnopjkkglanlfaa", sum := "6b0e28be6243f5c7fed949799155438309c05741365aec6dc5cfb527c204dab8", func := "loop.example/g00389/laws.FnExactSubBcd", spec := "fnExactSubBcd", apart := false, narrowed := true }
def FnExactSubBcdUptoSaid : Prop := fnExactSubBcdUptoRow.holds Try.pinned (OpenSpec.upto fnExactSubBcdSpec)

/-- 'laws.FnExactNegBcd', WHERE WHAT IT READS IS OF BULK AT MOST 1048576: true; the input reads as it did. -/
def fnExactNegBcdUptoRow : OpenClaim := { program := "ytnopjkkglanlfaa", sum := "6b0e28be6243f5c7fed949799155438309c05741365aec6dc5cfb527c204dab8", func := "loop.example/g00389/laws.FnExactNegBcd", spec := "fnExactNegBcd", apart := false, narrowed := true }
def FnExactNegBcdUptoSaid : Prop := fnExactNegBcdUptoRow.holds Try.pinned (OpenSpec.upto fnExactNegBcdSpec)

end Rows
end Go.Proofs.Ytnopjkkglanlfaa
