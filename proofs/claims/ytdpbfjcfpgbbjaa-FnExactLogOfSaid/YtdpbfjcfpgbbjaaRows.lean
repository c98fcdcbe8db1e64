/-
  No cell of these rows narrows 'for every input' (looked for: loops, veiled, ifaces, maps, wideKeys, modest, calm, conditions, laid).
  DERIVED. THE GIVEN ROWS OF THIS SEAT. 6 by the template 'for every input the law returns true; each argument reads behind the call as it read before'; 0 by the template 'total and deterministic' (their statements: YtdpbfjcfpgbbjaaTotals.lean).
  GIVEN WITH THE SEED: the statements are not yours to turn. If you find one false, say at which input.
  Laid BY PROGRAM, IN A SANDBOX (cutbox-rows.mjs): the forced cells as the released guide's own fill.sh prints them over the translation 79853c71df0952e8… (all of the seat's roots in one cut). By AI agents, Wed Nov 11 2026. No macro, syntax, notation, axiom, sorry.
-/
import Derived.Test.YtdpbfjcfpgbbjaaChecked
import GoSem.Claim
import GoSem.ClaimJoined
import GoSem.ClaimMapViews
import Derived.JoinedTies
import Derived.KernelRfl
namespace Go.Proofs.Ytdpbfjcfpgbbjaa
/- THE CELL 'sum', in the pinned program and in every row, IS THE sha256 OF THE DUMP (.gsa) THAT YtdpbfjcfpgbbjaaProg.lean LOADS. Nothing in Lean hashes anything: it is a label: what it is worth is what the hold of that sum in a sandbox is worth. -/
noncomputable def Try.pinned : Pinned := { name := "ytdpbfjcfpgbbjaa", sum := "79853c71df0952e8cea559449b7d3e1f517e6d0c84432bd3ec95fa2e3f9b3694", checked := Try.checked }
namespace Rows
def none {H : Type} : Left H := { results := [], args := [] }

/-- 'laws.FnExactDecodeIns': WHATEVER THE INPUT: true; the input reads as it did. -/
def fnExactDecodeInsSpec : ChangeSpec := { name := "fnExactDecodeIns", fn := fun _ => fun
  | [d1, d2] => { results := [.lit (.bool true)], args := [d1, d2] }
  | _ => none }
def fnExactDecodeInsRow : OpenClaim := { program := "ytdpbfjcfpgbbjaa", sum := "79853c71df0952e8cea559449b7d3e1f517e6d0c84432bd3ec95fa2e3f9b3694", func := "loop.example/g00389/laws.FnExactDecodeIns", spec := "fnExactDecodeIns", apart := false }
def FnExactDecodeInsSaid : Prop := fnExactDecodeInsRow.holds Try.pinned (OpenSpec.ofChange fnExactDecodeInsSpec)

/-- ITS FALSE NEIGHBOUR: 'it returns false'. Refute it at one input. -/
def fnExactDecodeInsWrong : ChangeSpec := { name := "fnExactDecodeIns", fn := fun _ => fun
  | [d1, d2] => { results := [.lit (.bool false)], args := [d1, d2] }
  | _ => none }
def FnExactDecodeInsWrongFalsely : Prop := fnExactDecodeInsRow.holds Try.pinned (OpenSpec.ofChange fnExactDecodeInsWrong)

/-- 'laws.FnExactWithStatus': WHATEVER THE INPUT: true; the input reads as it did. -/
def fnExactWithStatusSpec : ChangeSpec := { name := "fnExactWithStatus", fn := fun _ => fun
  | [d1, d2] => { results := [.lit (.bool true)], args := [d1, d2] }
  | _ => none }
def fnExactWithStatusRow : OpenClaim := { program := "ytdpbfjcfpgbbjaa", sum := "79853c71df0952e8cea559449b7d3e1f517e6d0c84432bd3ec95fa2e3f9b3694", func := "loop.example/g00389/laws.FnExactWithStatus", spec := "fnExactWithStatus", unfollowed := true, recurses := true, apart := false }
def FnExactWithStatusSaid : Prop := fnExactWithStatusRow.holds Try.pinned (OpenSpec.ofChange fnExactWithStatusSpec)

/-- ITS FALSE NEIGHBOUR: 'it returns false'. Refute it at one input. -/
def fnExactWithStatusWrong : ChangeSpec := { name := "fnExactWithStatus", fn := fun _ => fun
  | [d1, d2] => { results := [.lit (.bool false)], args := [d1, d2] }
  | _ => none }
def FnExactWithStatusWrongFalsely : Prop := fnExactWithStatusRow.holds Try.pinned (OpenSpec.ofChange fnExactWithStatusWrong)

/-- 'laws.FnExactPutData': WHATEVER THE INPUT: true; the input reads as it did. -/
def fnExactPutDataSpec : ChangeSpec := { name := "fnExactPutData", fn := fun _ => fun
  | [d1, d2, d3, d4] => { results := [.lit (.bool true)], args := [d1, d2, d3, d4] }
  | _ => none }
def fnExactPutDataRow : OpenClaim := { program := "ytdpbfjcfpgbbjaa", sum := "79853c71df0952e8cea559449b7d3e1f517e6d0c84432bd3ec95fa2e3f9b3694", func := "loop.example/g00389/laws.FnExactPutData", spec := "fnExactPutData", unfollowed := true, recurses := true, apart := false }
def FnExactPutDataSaid : Prop := fnExactPutDataRow.holds Try.pinned (OpenSpec.ofChange fnExactPutDataSpec)

/-- ITS FALSE NEIGHBOUR: 'it returns false'. Refute it at one input. -/
def fnExactPutDataWrong : ChangeSpec := { name := "fnExactPutData", fn := fun _ => fun
  | [d1, d2, d3, d4] => { results := [.lit (.bool false)], args := [d1, d2, d3, d4] }
  | _ => none }
def FnExactPutDataWrongFalsely : Prop := fnExactPutDataRow.holds Try.pinned (OpenSpec.ofChange fnExactPutDataWrong)

/-- 'laws.FnExactPeekWord': WHATEVER THE INPUT: true; the input reads as it did. -/
def fnExactPeekWordSpec : ChangeSpec := { name := "fnExactPeekWord", fn := fun _ => fun
  | [d1, d2] => { results := [.lit (.bool true)], args := [d1, d2] }
  | _ => none }
def fnExactPeekWordRow : OpenClaim := { program := "ytdpbfjcfpgbbjaa", sum := "79853c71df0952e8cea559449b7d3e1f517e6d0c84432bd3ec95fa2e3f9b3694", func := "loop.example/g00389/laws.FnExactPeekWord", spec := "fnExactPeekWord", unfollowed := true, recurses := true, apart := false }
def FnExactPeekWordSaid : Prop := fnExactPeekWordRow.holds Try.pinned (OpenSpec.ofChange fnExactPeekWordSpec)

/-- ITS FALSE NEIGHBOUR: 'it returns false'. Refute it at one input. -/
def fnExactPeekWordWrong : ChangeSpec := { name := "fnExactPeekWord", fn := fun _ => fun
  | [d1, d2] => { results := [.lit (.bool false)], args := [d1, d2] }
  | _ => none }
def FnExactPeekWordWrongFalsely : Prop := fnExactPeekWordRow.holds Try.pinned (OpenSpec.ofChange fnExactPeekWordWrong)

/-- 'laws.FnExactPlaceOf': WHATEVER THE INPUT: true; the input reads as it did. -/
def fnExactPlaceOfSpec : ChangeSpec := { name := "fnExactPlaceOf", fn := fun _ => fun
  | [d1, d2, d3] => { results := [.lit (.bool true)], args := [d1, d2, d3] }
  | _ => none }
def fnExactPlaceOfRow : OpenClaim := { program := "ytdpbfjcfpgbbjaa", sum := "79853c71df0952e8cea559449b7d3e1f517e6d0c84432bd3ec95fa2e3f9b3694", func := "loop.example/g00389/laws.FnExactPlaceOf", spec := "fnExactPlaceOf", unfollowed := true, recurses := true, apart := false }
def FnExactPlaceOfSaid : Prop := fnExactPlaceOfRow.holds Try.pinned (OpenSpec.ofChange fnExactPlaceOfSpec)

/-- ITS FALSE NEIGHBOUR: 'it returns false'. Refute it at one input. -/
def fnExactPlaceOfWrong : ChangeSpec := { name := "fnExactPlaceOf", fn := fun _ => fun
  | [d1, d2, d3] => { results := [.lit (.bool false)], args := [d1, d2, d3] }
  | _ => none }
def FnExactPlaceOfWrongFalsely : Prop := fnExactPlaceOfRow.holds Try.pinned (OpenSpec.ofChange fnExactPlaceOfWrong)

/-- 'laws.FnExactLogOf': WHATEVER THE INPUT: true; the input reads as it did. -/
def fnExactLogOfSpec : ChangeSpec := { name := "fnExactLogOf", fn := fun _ => fun
  | [d1, d2] => { results := [.lit (.bool true)], args := [d1, d2] }
  | _ => none }
def fnExactLogOfRow : OpenClaim := { program := "ytdpbfjcfpgbbjaa", sum := "79853c71df0952e8cea559449b7d3e1f517e6d0c84432bd3ec95fa2e3f9b3694", func := "loop.example/g00389/laws.FnExactLogOf", spec := "fnExactLogOf", unfollowed := true, recurses := true, apart := false }
def FnExactLogOfSaid : Prop := fnExactLogOfRow.holds Try.pinned (OpenSpec.ofChange fnExactLogOfSpec)

/-- ITS FALSE NEIGHBOUR: 'it returns false'. Refute it at one input. -/
def fnExactLogOfWrong : ChangeSpec := { name := "fnExactLogOf", fn := fun _ => fun
  | [d1, d2] => { results := [.lit (.bool false)], args := [d1, d2] }
  | _ => none }
def FnExactLogOfWrongFalsely : Prop := fnExactLogOfRow.holds Try.pinned (OpenSpec.ofChange fnExactLogOfWrong)

/- THE SECOND FORM. 'bulk': how many values and letters a reading holds, each counted each time it is reached (what is shared counts as often as it is met; a slice's spare places count too). A statement '..UptoSaid' is the law's where the arguments, and the package variables that the reading takes, are together of bulk at most 1048576: NARROWER than '..Said'. Prove '..Said' where nothing that the law and all that it calls make is longer than what came in: it says more and counts as full. Else prove '..UptoSaid'. A law counts once. -/
mutual
def uptoBulk {H : Type} : DataW H → Nat
  | .lit (.string bytes) => bytes.length + 1
  | .lit _ => 1
  | .nil => 1
  | .ptr d => uptoBulk d + 1
  | .slice elems spare => uptoBulkAll elems + uptoBulkAll spare + 1
  | .agg parts => uptoBulkAll parts + 1
  | .iface _ d => uptoBulk d + 1
  | .map entries => uptoBulkEntries entries + 1
  | .held _ => 1
def uptoBulkAll {H : Type} : List (DataW H) → Nat
  | [] => 0
  | d :: r => uptoBulk d + uptoBulkAll r
def uptoBulkEntries {H : Type} : List (Lit × DataW H) → Nat
  | [] => 0
  | x :: r => uptoBulkEntry x + uptoBulkEntries r
def uptoBulkEntry {H : Type} : Lit × DataW H → Nat
  | (.string bytes, d) => bytes.length + uptoBulk d + 1
  | (_, d) => uptoBulk d + 1
 end
def uptoSmall : (H : Type) → List (DataW H) → Bool := fun _ ds => decide (uptoBulkAll ds ≤ 1048576)
def OpenSpec.upto (s : _root_.Go.ChangeSpec) : _root_.Go.OpenSpec := { _root_.Go.OpenSpec.ofChange s with cond := some uptoSmall }

/-- 'laws.FnExactDecodeIns', WHERE WHAT IT READS IS OF BULK AT MOST 1048576: true; the input reads as it did. -/
def fnExactDecodeInsUptoRow : OpenClaim := { program := "ytdpbfjcfpgbbjaa", sum := "79853c71df0952e8cea559449b7d3e1f517e6d0c84432bd3ec95fa2e3f9b3694", func := "loop.example/g00389/laws.FnExactDecodeIns", spec := "fnExactDecodeIns", apart := false, narrowed := true }
def FnExactDecodeInsUptoSaid : Prop := fnExactDecodeInsUptoRow.holds Try.pinned (OpenSpec.upto fnExactDecodeInsSpec)

/-- 'laws.FnExactWithStatus', WHERE WHAT IT READS IS OF BULK AT MOST 1048576: true; the input reads as it did. -/
def fnExactWithStatusUptoRow : OpenClaim := { program := "ytdpbfjcfpgbbjaa", sum := "79853c71df0952e8cea559449b7d3e1f517e6d0c84432bd3ec95fa2e3f9b3694", func := "loop.example/g00389/laws.FnExactWithStatus", spec := "fnExactWithStatus", unfollowed := true, recurses := true, apart := false, narrowed := true }
def FnExactWithStatusUptoSaid : Prop := fnExactWithStatusUptoRow.holds Try.pinned (OpenSpec.upto fnExactWithStatusSpec)

/-- 'laws.FnExactPutData', WHERE WHAT IT READS IS OF BULK AT MOST 1048576: true; the input reads as it did. -/
def fnExactPutDataUptoRow : OpenClaim := { program := "ytdpbfjcfpgbbjaa", sum := "79853c71df0952e8cea559449b7d3e1f517e6d0c84432bd3ec95fa2e3f9b3694", func := "loop.example/g00389/laws.FnExactPutData", spec := "fnExactPutData", unfollowed := true, recurses := true, apart := false, narrowed := true }
def FnExactPutDataUptoSaid : Prop := fnExactPutDataUptoRow.holds Try.pinned (OpenSpec.upto fnExactPutDataSpec)

/-- 'laws.FnExactPeekWord', WHERE WHAT IT READS IS OF BULK AT MOST 1048576: true; the input reads as it did. -/
def fnExactPeekWordUptoRow : OpenClaim := { program := "ytdpbfjcfpgbbjaa", sum := "79853c71df0952e8cea559449b7d3e1f517e6d0c84432bd3ec95fa2e3f9b3694", func := "loop.example/g00389/laws.FnExactPeekWord", spec := "fnExactPeekWord", unfollowed := true, recurses := true, apart := false, narrowed := true }
def FnExactPeekWordUptoSaid : Prop := fnExactPeekWordUptoRow.holds Try.pinned (OpenSpec.upto fnExactPeekWordSpec)

/-- 'laws.FnExactPlaceOf', WHERE WHAT IT READS IS OF BULK AT MOST 1048576: true; the input reads as it did. -/
def fnExactPlaceOfUptoRow : OpenClaim := { program := "ytdpbfjcfpgbbjaa", sum := "79853c71df0952e8cea559449b7d3e1f517e6d0c84432bd3ec95fa2e3f9b3694", func := "loop.example/g00389/laws.FnExactPlaceOf", spec := "fnExactPlaceOf", unfollowed := true, recurses := true, apart := false, narrowed := true }
def FnExactPlaceOfUptoSaid : Prop := fnExactPlaceOfUptoRow.holds Try.pinned (OpenSpec.upto fnExactPlaceOfSpec)

/-- 'laws.FnExactLogOf', WHERE WHAT IT READS IS OF BULK AT MOST 1048576: true; the input reads as it did. -/
def fnExactLogOfUptoRow : OpenClaim := { program := "ytdpbfjcfpgbbjaa", sum := "79853c71df0952e8cea559449b7d3e1f517e6d0c84432bd3ec95fa2e3f9b3694", func := "loop.example/g00389/laws.FnExactLogOf", spec := "fnExactLogOf", unfollowed := true, recurses := true, apart := false, narrowed := true }
def FnExactLogOfUptoSaid : Prop := fnExactLogOfUptoRow.holds Try.pinned (OpenSpec.upto fnExactLogOfSpec)

end Rows
end Go.Proofs.Ytdpbfjcfpgbbjaa
