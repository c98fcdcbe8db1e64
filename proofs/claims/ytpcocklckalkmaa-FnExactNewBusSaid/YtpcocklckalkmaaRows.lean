/-
  No cell of these rows narrows 'for every input' (looked for: loops, veiled, ifaces, maps, wideKeys, modest, calm, conditions, laid).
  DERIVED. THE GIVEN ROWS OF THIS SEAT. 12 by the template 'for every input the law returns true; each argument reads behind the call as it read before'; 0 by the template 'total and deterministic' (their statements: YtpcocklckalkmaaTotals.lean).
  GIVEN WITH THE SEED: the statements are not yours to turn. If you find one false, say at which input.
  Laid BY PROGRAM, IN A SANDBOX (cutbox-rows.mjs): the forced cells as the released guide's own fill.sh prints them over the translation bb63e1167d47da53… (all of the seat's roots in one cut). By AI agents, Wed Nov 11 2026. No macro, syntax, notation, axiom, sorry.
-/
import Derived.Test.YtpcocklckalkmaaChecked
import GoSem.Claim
import GoSem.ClaimJoined
import GoSem.ClaimMapViews
import Derived.JoinedTies
import Derived.KernelRfl
namespace Go.Proofs.Ytpcocklckalkmaa
/- THE CELL 'sum', in the pinned program and in every row, IS THE sha256 OF THE DUMP (.gsa) THAT YtpcocklckalkmaaProg.lean LOADS. Nothing in Lean hashes anything: it is a label: what it is worth is what the hold of that sum in a sandbox is worth. -/
noncomputable def Try.pinned : Pinned := { name := "ytpcocklckalkmaa", sum := "bb63e1167d47da53246cb2a6ae121310a7deb12cb48a17231f8e660056c1db7d", checked := Try.checked }
namespace Rows
def none {H : Type} : Left H := { results := [], args := [] }

/-- 'laws.FnExactLevelOf': WHATEVER THE INPUT: true; the input reads as it did. -/
def fnExactLevelOfSpec : ChangeSpec := { name := "fnExactLevelOf", fn := fun _ => fun
  | [d] => { results := [.lit (.bool true)], args := [d] }
  | _ => none }
def fnExactLevelOfRow : OpenClaim := { program := "ytpcocklckalkmaa", sum := "bb63e1167d47da53246cb2a6ae121310a7deb12cb48a17231f8e660056c1db7d", func := "loop.example/g00389/laws.FnExactLevelOf", spec := "fnExactLevelOf", unfollowed := true, recurses := true, apart := false }
def FnExactLevelOfSaid : Prop := fnExactLevelOfRow.holds Try.pinned (OpenSpec.ofChange fnExactLevelOfSpec)

/-- ITS FALSE NEIGHBOUR: 'it returns false'. Refute it at one input. -/
def fnExactLevelOfWrong : ChangeSpec := { name := "fnExactLevelOf", fn := fun _ => fun
  | [d] => { results := [.lit (.bool false)], args := [d] }
  | _ => none }
def FnExactLevelOfWrongFalsely : Prop := fnExactLevelOfRow.holds Try.pinned (OpenSpec.ofChange fnExactLevelOfWrong)

/-- 'laws.FnExactGoodIns': WHATEVER THE INPUT: true; the input reads as it did. -/
def fnExactGoodInsSpec : ChangeSpec := { name := "fnExactGoodIns", fn := fun _ => fun
  | [d] => { results := [.lit (.bool true)], args := [d] }
  | _ => none }
def fnExactGoodInsRow : OpenClaim := { program := "ytpcocklckalkmaa", sum := "bb63e1167d47da53246cb2a6ae121310a7deb12cb48a17231f8e660056c1db7d", func := "loop.example/g00389/laws.FnExactGoodIns", spec := "fnExactGoodIns", apart := false }
def FnExactGoodInsSaid : Prop := fnExactGoodInsRow.holds Try.pinned (OpenSpec.ofChange fnExactGoodInsSpec)

/-- ITS FALSE NEIGHBOUR: 'it returns false'. Refute it at one input. -/
def fnExactGoodInsWrong : ChangeSpec := { name := "fnExactGoodIns", fn := fun _ => fun
  | [d] => { results := [.lit (.bool false)], args := [d] }
  | _ => none }
def FnExactGoodInsWrongFalsely : Prop := fnExactGoodInsRow.holds Try.pinned (OpenSpec.ofChange fnExactGoodInsWrong)

/-- 'laws.FnExactShiftBy': WHATEVER THE INPUT: true; the input reads as it did. -/
def fnExactShiftBySpec : ChangeSpec := { name := "fnExactShiftBy", fn := fun _ => fun
  | [d1, d2, d3, d4, d5] => { results := [.lit (.bool true)], args := [d1, d2, d3, d4, d5] }
  | _ => none }
def fnExactShiftByRow : OpenClaim := { program := "ytpcocklckalkmaa", sum := "bb63e1167d47da53246cb2a6ae121310a7deb12cb48a17231f8e660056c1db7d", func := "loop.example/g00389/laws.FnExactShiftBy", spec := "fnExactShiftBy", apart := false }
def FnExactShiftBySaid : Prop := fnExactShiftByRow.holds Try.pinned (OpenSpec.ofChange fnExactShiftBySpec)

/-- ITS FALSE NEIGHBOUR: 'it returns false'. Refute it at one input. -/
def fnExactShiftByWrong : ChangeSpec := { name := "fnExactShiftBy", fn := fun _ => fun
  | [d1, d2, d3, d4, d5] => { results := [.lit (.bool false)], args := [d1, d2, d3, d4, d5] }
  | _ => none }
def FnExactShiftByWrongFalsely : Prop := fnExactShiftByRow.holds Try.pinned (OpenSpec.ofChange fnExactShiftByWrong)

/-- 'laws.FnExactRotateBack': WHATEVER THE INPUT: true; the input reads as it did. -/
def fnExactRotateBackSpec : ChangeSpec := { name := "fnExactRotateBack", fn := fun _ => fun
  | [d1, d2, d3, d4, d5] => { results := [.lit (.bool true)], args := [d1, d2, d3, d4, d5] }
  | _ => none }
def fnExactRotateBackRow : OpenClaim := { program := "ytpcocklckalkmaa", sum := "bb63e1167d47da53246cb2a6ae121310a7deb12cb48a17231f8e660056c1db7d", func := "loop.example/g00389/laws.FnExactRotateBack", spec := "fnExactRotateBack", apart := false }
def FnExactRotateBackSaid : Prop := fnExactRotateBackRow.holds Try.pinned (OpenSpec.ofChange fnExactRotateBackSpec)

/-- ITS FALSE NEIGHBOUR: 'it returns false'. Refute it at one input. -/
def fnExactRotateBackWrong : ChangeSpec := { name := "fnExactRotateBack", fn := fun _ => fun
  | [d1, d2, d3, d4, d5] => { results := [.lit (.bool false)], args := [d1, d2, d3, d4, d5] }
  | _ => none }
def FnExactRotateBackWrongFalsely : Prop := fnExactRotateBackRow.holds Try.pinned (OpenSpec.ofChange fnExactRotateBackWrong)

/-- 'laws.FnExactStatusOf': WHATEVER THE INPUT: true; the input reads as it did. -/
def fnExactStatusOfSpec : ChangeSpec := { name := "fnExactStatusOf", fn := fun _ => fun
  | [d] => { results := [.lit (.bool true)], args := [d] }
  | _ => none }
def fnExactStatusOfRow : OpenClaim := { program := "ytpcocklckalkmaa", sum := "bb63e1167d47da53246cb2a6ae121310a7deb12cb48a17231f8e660056c1db7d", func := "loop.example/g00389/laws.FnExactStatusOf", spec := "fnExactStatusOf", unfollowed := true, recurses := true, apart := false }
def FnExactStatusOfSaid : Prop := fnExactStatusOfRow.holds Try.pinned (OpenSpec.ofChange fnExactStatusOfSpec)

/-- ITS FALSE NEIGHBOUR: 'it returns false'. Refute it at one input. -/
def fnExactStatusOfWrong : ChangeSpec := { name := "fnExactStatusOf", fn := fun _ => fun
  | [d] => { results := [.lit (.bool false)], args := [d] }
  | _ => none }
def FnExactStatusOfWrongFalsely : Prop := fnExactStatusOfRow.holds Try.pinned (OpenSpec.ofChange fnExactStatusOfWrong)

/-- 'laws.FnExactAddMany': WHATEVER THE INPUT: true; the input reads as it did. -/
def fnExactAddManySpec : ChangeSpec := { name := "fnExactAddMany", fn := fun _ => fun
  | [d1, d2, d3] => { results := [.lit (.bool true)], args := [d1, d2, d3] }
  | _ => none }
def fnExactAddManyRow : OpenClaim := { program := "ytpcocklckalkmaa", sum := "bb63e1167d47da53246cb2a6ae121310a7deb12cb48a17231f8e660056c1db7d", func := "loop.example/g00389/laws.FnExactAddMany", spec := "fnExactAddMany", apart := false }
def FnExactAddManySaid : Prop := fnExactAddManyRow.holds Try.pinned (OpenSpec.ofChange fnExactAddManySpec)

/-- ITS FALSE NEIGHBOUR: 'it returns false'. Refute it at one input. -/
def fnExactAddManyWrong : ChangeSpec := { name := "fnExactAddMany", fn := fun _ => fun
  | [d1, d2, d3] => { results := [.lit (.bool false)], args := [d1, d2, d3] }
  | _ => none }
def FnExactAddManyWrongFalsely : Prop := fnExactAddManyRow.holds Try.pinned (OpenSpec.ofChange fnExactAddManyWrong)

/-- 'laws.FnExactIsPrivileged': WHATEVER THE INPUT: true; the input reads as it did. -/
def fnExactIsPrivilegedSpec : ChangeSpec := { name := "fnExactIsPrivileged", fn := fun _ => fun
  | [d] => { results := [.lit (.bool true)], args := [d] }
  | _ => none }
def fnExactIsPrivilegedRow : OpenClaim := { program := "ytpcocklckalkmaa", sum := "bb63e1167d47da53246cb2a6ae121310a7deb12cb48a17231f8e660056c1db7d", func := "loop.example/g00389/laws.FnExactIsPrivileged", spec := "fnExactIsPrivileged", apart := false }
def FnExactIsPrivilegedSaid : Prop := fnExactIsPrivilegedRow.holds Try.pinned (OpenSpec.ofChange fnExactIsPrivilegedSpec)

/-- ITS FALSE NEIGHBOUR: 'it returns false'. Refute it at one input. -/
def fnExactIsPrivilegedWrong : ChangeSpec := { name := "fnExactIsPrivileged", fn := fun _ => fun
  | [d] => { results := [.lit (.bool false)], args := [d] }
  | _ => none }
def FnExactIsPrivilegedWrongFalsely : Prop := fnExactIsPrivilegedRow.holds Try.pinned (OpenSpec.ofChange fnExactIsPrivilegedWrong)

/-- 'laws.FnExactGoodBus': WHATEVER THE INPUT: true; the input reads as it did. -/
def fnExactGoodBusSpec : ChangeSpec := { name := "fnExactGoodBus", fn := fun _ => fun
  | [d] => { results := [.lit (.bool true)], args := [d] }
  | _ => none }
def fnExactGoodBusRow : OpenClaim := { program := "ytpcocklckalkmaa", sum := "bb63e1167d47da53246cb2a6ae121310a7deb12cb48a17231f8e660056c1db7d", func := "loop.example/g00389/laws.FnExactGoodBus", spec := "fnExactGoodBus", unfollowed := true, recurses := true, apart := false }
def FnExactGoodBusSaid : Prop := fnExactGoodBusRow.holds Try.pinned (OpenSpec.ofChange fnExactGoodBusSpec)

/-- ITS FALSE NEIGHBOUR: 'it returns false'. Refute it at one input. -/
def fnExactGoodBusWrong : ChangeSpec := { name := "fnExactGoodBus", fn := fun _ => fun
  | [d] => { results := [.lit (.bool false)], args := [d] }
  | _ => none }
def FnExactGoodBusWrongFalsely : Prop := fnExactGoodBusRow.holds Try.pinned (OpenSpec.ofChange fnExactGoodBusWrong)

/-- 'laws.FnExactCondFor': WHATEVER THE INPUT: true; the input reads as it did. -/
def fnExactCondForSpec : ChangeSpec := { name := "fnExactCondFor", fn := fun _ => fun
  | [d1, d2, d3] => { results := [.lit (.bool true)], args := [d1, d2, d3] }
  | _ => none }
def fnExactCondForRow : OpenClaim := { program := "ytpcocklckalkmaa", sum := "bb63e1167d47da53246cb2a6ae121310a7deb12cb48a17231f8e660056c1db7d", func := "loop.example/g00389/laws.FnExactCondFor", spec := "fnExactCondFor", unfollowed := true, recurses := true, apart := false }
def FnExactCondForSaid : Prop := fnExactCondForRow.holds Try.pinned (OpenSpec.ofChange fnExactCondForSpec)

/-- ITS FALSE NEIGHBOUR: 'it returns false'. Refute it at one input. -/
def fnExactCondForWrong : ChangeSpec := { name := "fnExactCondFor", fn := fun _ => fun
  | [d1, d2, d3] => { results := [.lit (.bool false)], args := [d1, d2, d3] }
  | _ => none }
def FnExactCondForWrongFalsely : Prop := fnExactCondForRow.holds Try.pinned (OpenSpec.ofChange fnExactCondForWrong)

/-- 'laws.FnExactNewBus': WHATEVER THE INPUT: true; the input reads as it did. -/
def fnExactNewBusSpec : ChangeSpec := { name := "fnExactNewBus", fn := fun _ => fun
  | [d1, d2] => { results := [.lit (.bool true)], args := [d1, d2] }
  | _ => none }
def fnExactNewBusRow : OpenClaim := { program := "ytpcocklckalkmaa", sum := "bb63e1167d47da53246cb2a6ae121310a7deb12cb48a17231f8e660056c1db7d", func := "loop.example/g00389/laws.FnExactNewBus", spec := "fnExactNewBus", unfollowed := true, recurses := true, apart := false }
def FnExactNewBusSaid : Prop := fnExactNewBusRow.holds Try.pinned (OpenSpec.ofChange fnExactNewBusSpec)

/-- ITS FALSE NEIGHBOUR: 'it returns false'. Refute it at one input. -/
def fnExactNewBusWrong : ChangeSpec := { name := "fnExactNewBus", fn := fun _ => fun
  | [d1, d2] => { results := [.lit (.bool false)], args := [d1, d2] }
  | _ => none }
def FnExactNewBusWrongFalsely : Prop := fnExactNewBusRow.holds Try.pinned (OpenSpec.ofChange fnExactNewBusWrong)

/-- 'laws.FnExactEncodeIns': WHATEVER THE INPUT: true; the input reads as it did. -/
def fnExactEncodeInsSpec : ChangeSpec := { name := "fnExactEncodeIns", fn := fun _ => fun
  | [d] => { results := [.lit (.bool true)], args := [d] }
  | _ => none }
def fnExactEncodeInsRow : OpenClaim := { program := "ytpcocklckalkmaa", sum := "bb63e1167d47da53246cb2a6ae121310a7deb12cb48a17231f8e660056c1db7d", func := "loop.example/g00389/laws.FnExactEncodeIns", spec := "fnExactEncodeIns", apart := false }
def FnExactEncodeInsSaid : Prop := fnExactEncodeInsRow.holds Try.pinned (OpenSpec.ofChange fnExactEncodeInsSpec)

/-- ITS FALSE NEIGHBOUR: 'it returns false'. Refute it at one input. -/
def fnExactEncodeInsWrong : ChangeSpec := { name := "fnExactEncodeIns", fn := fun _ => fun
  | [d] => { results := [.lit (.bool false)], args := [d] }
  | _ => none }
def FnExactEncodeInsWrongFalsely : Prop := fnExactEncodeInsRow.holds Try.pinned (OpenSpec.ofChange fnExactEncodeInsWrong)

/-- 'laws.FnExactSameMemory': WHATEVER THE INPUT: true; the input reads as it did. -/
def fnExactSameMemorySpec : ChangeSpec := { name := "fnExactSameMemory", fn := fun _ => fun
  | [d1, d2] => { results := [.lit (.bool true)], args := [d1, d2] }
  | _ => none }
def fnExactSameMemoryRow : OpenClaim := { program := "ytpcocklckalkmaa", sum := "bb63e1167d47da53246cb2a6ae121310a7deb12cb48a17231f8e660056c1db7d", func := "loop.example/g00389/laws.FnExactSameMemory", spec := "fnExactSameMemory", unfollowed := true, recurses := true, apart := false }
def FnExactSameMemorySaid : Prop := fnExactSameMemoryRow.holds Try.pinned (OpenSpec.ofChange fnExactSameMemorySpec)

/-- ITS FALSE NEIGHBOUR: 'it returns false'. Refute it at one input. -/
def fnExactSameMemoryWrong : ChangeSpec := { name := "fnExactSameMemory", fn := fun _ => fun
  | [d1, d2] => { results := [.lit (.bool false)], args := [d1, d2] }
  | _ => none }
def FnExactSameMemoryWrongFalsely : Prop := fnExactSameMemoryRow.holds Try.pinned (OpenSpec.ofChange fnExactSameMemoryWrong)

/- THE SECOND FORM. 'bulk': how many values and letters a reading holds, each counted each time it is reached (what is shared counts as often as it is met; a slice's spare places count too). A statement '..UptoSaid' is the law's where the arguments, and the package variables that the reading takes, are together of bulk at most 1048576: NARROWER than '..Said'. Prove '..Said' where nothing that the law and all that it calls make is longer than what came in: it says more and counts as full. Else prove '..UptoSaid'. A law counts once. -/
mutual
def uptoBulk {H : Type} : DataW H → Nat
  | .lit (.string bytes) => bytes.length + 1
  | .lit _ => 1
  | .nil => 1
  | .ptr d => uptoBulk d + 1
  | .slice elems spare => uptoBulkAll elems + uptoBulkAll spare + 1
  | .agg parts => uptoBulkAll parts + 1
  | .iface _ d => uptoBulk d + 1
  | .map entries => uptoBulkEntries entries + 1
  | .held _ => 1
def uptoBulkAll {H : Type} : List (DataW H) → Nat
  | [] => 0
  | d :: r => uptoBulk d + uptoBulkAll r
def uptoBulkEntries {H : Type} : List (Lit × DataW H) → Nat
  | [] => 0
  | x :: r => uptoBulkEntry x + uptoBulkEntries r
def uptoBulkEntry {H : Type} : Lit × DataW H → Nat
  | (.string bytes, d) => bytes.length + uptoBulk d + 1
  | (_, d) => uptoBulk d + 1
 end
def uptoSmall : (H : Type) → List (DataW H) → Bool := fun _ ds => decide (uptoBulkAll ds ≤ 1048576)
def OpenSpec.upto (s : _root_.Go.ChangeSpec) : _root_.Go.OpenSpec := { _root_.Go.OpenSpec.ofChange s with cond := some uptoSmall }

/-- 'laws.FnExactLevelOf', WHERE WHAT IT READS IS OF BULK AT MOST 1048576: true; the input reads as it did. -/
def fnExactLevelOfUptoRow : OpenClaim := { program := "ytpcocklckalkmaa", sum := "bb63e1167d47da53246cb2a6ae121310a7deb12cb48a17231f8e660056c1db7d", func := "loop.example/g00389/laws.FnExactLevelOf", spec := "fnExactLevelOf", unfollowed := true, recurses := true, apart := false, narrowed := true }
def FnExactLevelOfUptoSaid : Prop := fnExactLevelOfUptoRow.holds Try.pinned (OpenSpec.upto fnExactLevelOfSpec)

/-- 'laws.FnExactGoodIns', WHERE WHAT IT READS IS OF BULK AT MOST 1048576: true; the input reads as it did. -/
def fnExactGoodInsUptoRow : OpenClaim := { program := "ytpcocklckalkmaa", sum := "bb63e1167d47da53246cb2a6ae121310a7deb12cb48a17231f8e660056c1db7d", func := "loop.example/g00389/laws.FnExactGoodIns", spec := "fnExactGoodIns", apart := false, narrowed := true }
def FnExactGoodInsUptoSaid : Prop := fnExactGoodInsUptoRow.holds Try.pinned (OpenSpec.upto fnExactGoodInsSpec)

/-- 'laws.FnExactShiftBy', WHERE WHAT IT READS IS OF BULK AT MOST 1048576: true; the input reads as it did. -/
def fnExactShiftByUptoRow : OpenClaim := { program := "ytpcocklckalkmaa", sum := "bb63e1167d47da53246cb2a6ae121310a7deb12cb48a17231f8e660056c1db7d", func := "loop.example/g00389/laws.FnExactShiftBy", spec := "fnExactShiftBy", apart := false, narrowed := true }
def FnExactShiftByUptoSaid : Prop := fnExactShiftByUptoRow.holds Try.pinned (OpenSpec.upto fnExactShiftBySpec)

/-- 'laws.FnExactRotateBack', WHERE WHAT IT READS IS OF BULK AT MOST 1048576: true; the input reads as it did. -/
def fnExactRotateBackUptoRow : OpenClaim := { program := "ytpcocklckalkmaa", sum := "bb63e1167d47da53246cb2a6ae121310a7deb12cb48a17231f8e660056c1db7d", func := "loop.example/g00389/laws.FnExactRotateBack", spec := "fnExactRotateBack", apart := false, narrowed := true }
def FnExactRotateBackUptoSaid : Prop := fnExactRotateBackUptoRow.holds Try.pinned (OpenSpec.upto fnExactRotateBackSpec)

/-- 'laws.FnExactStatusOf', WHERE WHAT IT READS IS OF BULK AT MOST 1048576: true; the input reads as it did. -/
def fnExactStatusOfUptoRow : OpenClaim := { program := "ytpcocklckalkmaa", sum := "bb63e1167d47da53246cb2a6ae121310a7deb12cb48a17231f8e660056c1db7d", func := "loop.example/g00389/laws.FnExactStatusOf", spec := "fnExactStatusOf", unfollowed := true, recurses := true, apart := false, narrowed := true }
def FnExactStatusOfUptoSaid : Prop := fnExactStatusOfUptoRow.holds Try.pinned (OpenSpec.upto fnExactStatusOfSpec)

/-- 'laws.FnExactAddMany', WHERE WHAT IT READS IS OF BULK AT MOST 1048576: true; the input reads as it did. -/
def fnExactAddManyUptoRow : OpenClaim := { program := "ytpcocklckalkmaa", sum := "bb63e1167d47da53246cb2a6ae121310a7deb12cb48a17231f8e660056c1db7d", func := "loop.example/g00389/laws.FnExactAddMany", spec := "fnExactAddMany", apart := false, narrowed := true }
def FnExactAddManyUptoSaid : Prop := fnExactAddManyUptoRow.holds Try.pinned (OpenSpec.upto fnExactAddManySpec)

/-- 'laws.FnExactIsPrivileged', WHERE WHAT IT READS IS OF BULK AT MOST 1048576: true; the input reads as it did. -/
def fnExactIsPrivilegedUptoRow : OpenClaim := { program := "ytpcocklckalkmaa", sum := "bb63e1167d47da53246cb2a6ae121310a7deb12cb48a17231f8e660056c1db7d", func := "loop.example/g00389/laws.FnExactIsPrivileged", spec := "fnExactIsPrivileged", apart := false, narrowed := true }
def FnExactIsPrivilegedUptoSaid : Prop := fnExactIsPrivilegedUptoRow.holds Try.pinned (OpenSpec.upto fnExactIsPrivilegedSpec)

/-- 'laws.FnExactGoodBus', WHERE WHAT IT READS IS OF BULK AT MOST 1048576: true; the input reads as it did. -/
def fnExactGoodBusUptoRow : OpenClaim := { program := "ytpcocklckalkmaa", sum := "bb63e1167d47da53246cb2a6ae121310a7deb12cb48a17231f8e660056c1db7d", func := "loop.example/g00389/laws.FnExactGoodBus", spec := "fnExactGoodBus", unfollowed := true, recurses := true, apart := false, narrowed := true }
def FnExactGoodBusUptoSaid : Prop := fnExactGoodBusUptoRow.holds Try.pinned (OpenSpec.upto fnExactGoodBusSpec)

/-- 'laws.FnExactCondFor', WHERE WHAT IT READS IS OF BULK AT MOST 1048576: true; the input reads as it did. -/
def fnExactCondForUptoRow : OpenClaim := { program := "ytpcocklckalkmaa", sum := "bb63e1167d47da53246cb2a6ae121310a7deb12cb48a17231f8e660056c1db7d", func := "loop.example/g00389/laws.FnExactCondFor", spec := "fnExactCondFor", unfollowed := true, recurses := true, apart := false, narrowed := true }
def FnExactCondForUptoSaid : Prop := fnExactCondForUptoRow.holds Try.pinned (OpenSpec.upto fnExactCondForSpec)

/-- 'laws.FnExactNewBus', WHERE WHAT IT READS IS OF BULK AT MOST 1048576: true; the input reads as it did. -/
def fnExactNewBusUptoRow : OpenClaim := { program := "ytpcocklckalkmaa", sum := "bb63e1167d47da53246cb2a6ae121310a7deb12cb48a17231f8e660056c1db7d", func := "loop.example/g00389/laws.FnExactNewBus", spec := "fnExactNewBus", unfollowed := true, recurses := true, apart := false, narrowed := true }
def FnExactNewBusUptoSaid : Prop := fnExactNewBusUptoRow.holds Try.pinned (OpenSpec.upto fnExactNewBusSpec)

/-- 'laws.FnExactEncodeIns', WHERE WHAT IT READS IS OF BULK AT MOST 1048576: true; the input reads as it did. -/
def fnExactEncodeInsUptoRow : OpenClaim := { program := "ytpcocklckalkmaa", sum := "bb63e1167d47da53246cb2a6ae121310a7deb12cb48a17231f8e660056c1db7d", func := "loop.example/g00389/laws.FnExactEncodeIns", spec := "fnExactEncodeIns", apart := false, narrowed := true }
def FnExactEncodeInsUptoSaid : Prop := fnExactEncodeInsUptoRow.holds Try.pinned (OpenSpec.upto fnExactEncodeInsSpec)

/-- 'laws.FnExactSameMemory', WHERE WHAT IT READS IS OF BULK AT MOST 1048576: true; the input reads as it did. -/
def fnExactSameMemoryUptoRow : OpenClaim := { program := "ytpcocklckalkmaa", sum := "bb63e1167d47da53246cb2a6ae121310a7deb12cb48a17231f8e660056c1db7d", func := "loop.example/g00389/laws.FnExactSameMemory", spec := "fnExactSameMemory", unfollowed := true, recurses := true, apart := false, narrowed := true }
def FnExactSameMemoryUptoSaid : Prop := fnExactSameMemoryUptoRow.holds Try.pinned (OpenSpec.upto fnExactSameMemorySpec)

end Rows
end Go.Proofs.Ytpcocklckalkmaa
