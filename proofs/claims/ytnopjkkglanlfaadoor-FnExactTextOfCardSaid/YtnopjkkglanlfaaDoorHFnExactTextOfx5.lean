-- out of hprint.py, this session's own program over the kit's print (see NOTES.md); Lean checks it
import Derived.Test.YtnopjkkglanlfaaDoorHFnExactTextOfx0
import Derived.Test.YtnopjkkglanlfaaDoorHFnExactTextOfx3
import Derived.Test.YtnopjkkglanlfaaDoorHFnExactTextOfx4
namespace Go.Proofs.YtnopjkkglanlfaaDoor.HFnExactTextOf
open Go.RowKit Go.Proofs.YtnopjkkglanlfaaDoorW.PrintWords Go.Proofs.YtnopjkkglanlfaaDoorW.PrintLast Go.Proofs.YtnopjkkglanlfaaDoorW.PrintMore
attribute [local go_sem] max2_int min2_int max_two min_two max_three min_three max_four min_four   -- for this text's walks alone
set_option linter.unusedVariables false
set_option linter.unusedSimpArgs false

/-! ### spec_TextOf: function 4 -/
def spec_TextOf.f (k : Nat) (a0_0 : Int) (a0_1 : Int) (a0_2 : Int) (a0_3 : Int) (a0_4 : Int) (a0_5 : Int) (a0_6 : Int) : Option (ByteArray × Bool) := (spec_GoodIns.f k a0_0 a0_1 a0_2 a0_3 a0_4 a0_5 a0_6).bind fun t133 => (if t133 = true then ((spec_l1Num.f k a0_0).bind fun t134 => (if 2 + t134.size ≤ 9223372036854775807 then (if ((⟨#[111, 112]⟩ : ByteArray) ++ t134).size + 1 ≤ 9223372036854775807 then ((spec_l1Num.f k a0_1).bind fun t135 => (if (((⟨#[111, 112]⟩ : ByteArray) ++ t134) ++ (⟨#[46]⟩ : ByteArray)).size + t135.size ≤ 9223372036854775807 then (if ((((⟨#[111, 112]⟩ : ByteArray) ++ t134) ++ (⟨#[46]⟩ : ByteArray)) ++ t135).size + 2 ≤ 9223372036854775807 then ((spec_l1Num.f k a0_2).bind fun t136 => (if (((((⟨#[111, 112]⟩ : ByteArray) ++ t134) ++ (⟨#[46]⟩ : ByteArray)) ++ t135) ++ (⟨#[32, 114]⟩ : ByteArray)).size + t136.size ≤ 9223372036854775807 then (if ((((((⟨#[111, 112]⟩ : ByteArray) ++ t134) ++ (⟨#[46]⟩ : ByteArray)) ++ t135) ++ (⟨#[32, 114]⟩ : ByteArray)) ++ t136).size + 2 ≤ 9223372036854775807 then ((spec_l1Num.f k a0_3).bind fun t137 => (if (((((((⟨#[111, 112]⟩ : ByteArray) ++ t134) ++ (⟨#[46]⟩ : ByteArray)) ++ t135) ++ (⟨#[32, 114]⟩ : ByteArray)) ++ t136) ++ (⟨#[32, 109]⟩ : ByteArray)).size + t137.size ≤ 9223372036854775807 then (if ((((((((⟨#[111, 112]⟩ : ByteArray) ++ t134) ++ (⟨#[46]⟩ : ByteArray)) ++ t135) ++ (⟨#[32, 114]⟩ : ByteArray)) ++ t136) ++ (⟨#[32, 109]⟩ : ByteArray)) ++ t137).size + 1 ≤ 9223372036854775807 then ((spec_l1Num.f k a0_4).bind fun t138 => (if (((((((((⟨#[111, 112]⟩ : ByteArray) ++ t134) ++ (⟨#[46]⟩ : ByteArray)) ++ t135) ++ (⟨#[32, 114]⟩ : ByteArray)) ++ t136) ++ (⟨#[32, 109]⟩ : ByteArray)) ++ t137) ++ (⟨#[58]⟩ : ByteArray)).size + t138.size ≤ 9223372036854775807 then (if ((((((((((⟨#[111, 112]⟩ : ByteArray) ++ t134) ++ (⟨#[46]⟩ : ByteArray)) ++ t135) ++ (⟨#[32, 114]⟩ : ByteArray)) ++ t136) ++ (⟨#[32, 109]⟩ : ByteArray)) ++ t137) ++ (⟨#[58]⟩ : ByteArray)) ++ t138).size + 2 ≤ 9223372036854775807 then ((spec_l1Num.f k a0_5).bind fun t139 => (if (((((((((((⟨#[111, 112]⟩ : ByteArray) ++ t134) ++ (⟨#[46]⟩ : ByteArray)) ++ t135) ++ (⟨#[32, 114]⟩ : ByteArray)) ++ t136) ++ (⟨#[32, 109]⟩ : ByteArray)) ++ t137) ++ (⟨#[58]⟩ : ByteArray)) ++ t138) ++ (⟨#[32, 120]⟩ : ByteArray)).size + t139.size ≤ 9223372036854775807 then (if ((((((((((((⟨#[111, 112]⟩ : ByteArray) ++ t134) ++ (⟨#[46]⟩ : ByteArray)) ++ t135) ++ (⟨#[32, 114]⟩ : ByteArray)) ++ t136) ++ (⟨#[32, 109]⟩ : ByteArray)) ++ t137) ++ (⟨#[58]⟩ : ByteArray)) ++ t138) ++ (⟨#[32, 120]⟩ : ByteArray)) ++ t139).size + 2 ≤ 9223372036854775807 then ((spec_l1Num.f k a0_6).bind fun t140 => (if (((((((((((((⟨#[111, 112]⟩ : ByteArray) ++ t134) ++ (⟨#[46]⟩ : ByteArray)) ++ t135) ++ (⟨#[32, 114]⟩ : ByteArray)) ++ t136) ++ (⟨#[32, 109]⟩ : ByteArray)) ++ t137) ++ (⟨#[58]⟩ : ByteArray)) ++ t138) ++ (⟨#[32, 120]⟩ : ByteArray)) ++ t139) ++ (⟨#[32, 115]⟩ : ByteArray)).size + t140.size ≤ 9223372036854775807 then (some ((((((((((((((⟨#[111, 112]⟩ : ByteArray) ++ t134) ++ (⟨#[46]⟩ : ByteArray)) ++ t135) ++ (⟨#[32, 114]⟩ : ByteArray)) ++ t136) ++ (⟨#[32, 109]⟩ : ByteArray)) ++ t137) ++ (⟨#[58]⟩ : ByteArray)) ++ t138) ++ (⟨#[32, 120]⟩ : ByteArray)) ++ t139) ++ (⟨#[32, 115]⟩ : ByteArray)) ++ t140, true)) else (none))) else (none)) else (none))) else (none)) else (none))) else (none)) else (none))) else (none)) else (none))) else (none)) else (none))) else (none)) else (none))) else (some ((⟨#[]⟩ : ByteArray), false)))
theorem spec_TextOf.mono : ∀ a0 a1 a2 a3 a4 a5 a6 k, LeO (spec_TextOf.f k a0 a1 a2 a3 a4 a5 a6) (spec_TextOf.f (k + 1) a0 a1 a2 a3 a4 a5 a6) := by
  intro a0 a1 a2 a3 a4 a5 a6 k
  unfold spec_TextOf.f
  repeat' first
      | (with_reducible exact spec_GoodIns.mono _ _ _ _ _ _ _ _)
      | (with_reducible exact spec_l1Num.mono _ _)
      | (with_reducible exact LeO.refl _)
      | (with_reducible exact LeO.none _)
      | (with_reducible refine LeO.ite ?_ ?_)
      | (with_reducible refine LeO.bind ?_ (fun _ => ?_))
      | exact spec_GoodIns.mono _ _ _ _ _ _ _ _
      | exact spec_l1Num.mono _ _
      | exact LeO.none _
      | refine LeO.ite ?_ ?_
      | refine LeO.bind ?_ (fun _ => ?_)
def spec_TextOf.T3 : Bool × List (List Nat × List Nat) := (true, [([], []), ([0], [0]), ([1], [1]), ([2], [2]), ([3], [3]), ([], []), ([5], [5]), ([6, 2], [6]), ([4, 7], [4, 7]), ([8], [8]), ([], []), ([10], [10]), ([11, 7], [11]), ([9, 12], [9, 12]), ([13], [13]), ([], []), ([15], [15]), ([16], [16]), ([17, 12], [17]), ([14, 18], [14, 18]), ([19], [19]), ([], []), ([21], [21]), ([22], [22]), ([23, 18], [23]), ([20, 24], [20, 24]), ([25], [25]), ([], []), ([27], [27]), ([28], [28]), ([29, 24], [29]), ([26, 30], [26, 30]), ([31], [31]), ([], []), ([33], [33]), ([34, 30], [34]), ([32, 35], [32, 35]), ([36, 35, 0, 1, 2, 3, 4, 5, 6, 7, 8, 9, 10, 11, 12, 13, 14, 15, 16, 17, 18, 19, 20, 21, 22, 23, 24, 25, 26, 27, 28, 29, 30, 31, 32, 33, 34, 35, 36], [36]), ([37, 0, 1, 2, 3, 4, 5, 6, 7, 8, 9, 10, 11, 12, 13, 14, 15, 16, 17, 18, 19, 20, 21, 22, 23, 24, 25, 26, 27, 28, 29, 30, 31, 32, 33, 34, 35, 36, 37], [])])
def spec_TextOf.B3 : List Nat := [0, 1, 3, 7, 15, 0, 32, 103, 255, 511, 0, 1024, 3303, 8191, 16383, 0, 32768, 98304, 236775, 524287, 1048575, 0, 2097152, 6291456, 15178983, 33554431, 67108863, 0, 134217728, 402653184, 971480295, 2147483647, 4294967295, 0, 8589934592, 27815025895, 68719476735, 137438953471, 274877906943]
theorem spec_TextOf.tab3 : rtab .any (opsOf Tryd.f4 3) = spec_TextOf.T3 := by kernel_rfl
theorem spec_TextOf.bits3 : waitsOk spec_TextOf.T3.2 spec_TextOf.B3 = true := by kernel_rfl
set_option maxHeartbeats 8000000 in
set_option maxRecDepth 100000 in
theorem spec_TextOf.calls (k : Nat) (a0_0 : Int) (a0_1 : Int) (a0_2 : Int) (a0_3 : Int) (a0_4 : Int) (a0_5 : Int) (a0_6 : Int) (r1 : ByteArray) (r2 : Bool) (w : World) (h : spec_TextOf.f k a0_0 a0_1 a0_2 a0_3 a0_4 a0_5 a0_6 = some (r1, r2)) :
    Calls Tryd.prog 4 #[.agg #[.int .i64 a0_0, .int .i64 a0_1, .int .i64 a0_2, .int .i64 a0_3, .int .i64 a0_4, .int .i64 a0_5, .int .i64 a0_6]] w fun e w' => e = .returned (.tuple #[.string r1, .bool r2]) ∧ Below w.heap.size w w' := by
  have hu30 := Tryd.underlying30
  have HB := Aside0.mk (Below.refl w.heap.size w)
  have H : ((spec_GoodIns.f k a0_0 a0_1 a0_2 a0_3 a0_4 a0_5 a0_6).bind fun t133 => (if t133 = true then ((spec_l1Num.f k a0_0).bind fun t134 => (if 2 + t134.size ≤ 9223372036854775807 then (if ((⟨#[111, 112]⟩ : ByteArray) ++ t134).size + 1 ≤ 9223372036854775807 then ((spec_l1Num.f k a0_1).bind fun t135 => (if (((⟨#[111, 112]⟩ : ByteArray) ++ t134) ++ (⟨#[46]⟩ : ByteArray)).size + t135.size ≤ 9223372036854775807 then (if ((((⟨#[111, 112]⟩ : ByteArray) ++ t134) ++ (⟨#[46]⟩ : ByteArray)) ++ t135).size + 2 ≤ 9223372036854775807 then ((spec_l1Num.f k a0_2).bind fun t136 => (if (((((⟨#[111, 112]⟩ : ByteArray) ++ t134) ++ (⟨#[46]⟩ : ByteArray)) ++ t135) ++ (⟨#[32, 114]⟩ : ByteArray)).size + t136.size ≤ 9223372036854775807 then (if ((((((⟨#[111, 112]⟩ : ByteArray) ++ t134) ++ (⟨#[46]⟩ : ByteArray)) ++ t135) ++ (⟨#[32, 114]⟩ : ByteArray)) ++ t136).size + 2 ≤ 9223372036854775807 then ((spec_l1Num.f k a0_3).bind fun t137 => (if (((((((⟨#[111, 112]⟩ : ByteArray) ++ t134) ++ (⟨#[46]⟩ : ByteArray)) ++ t135) ++ (⟨#[32, 114]⟩ : ByteArray)) ++ t136) ++ (⟨#[32, 109]⟩ : ByteArray)).size + t137.size ≤ 9223372036854775807 then (if ((((((((⟨#[111, 112]⟩ : ByteArray) ++ t134) ++ (⟨#[46]⟩ : ByteArray)) ++ t135) ++ (⟨#[32, 114]⟩ : ByteArray)) ++ t136) ++ (⟨#[32, 109]⟩ : ByteArray)) ++ t137).size + 1 ≤ 9223372036854775807 then ((spec_l1Num.f k a0_4).bind fun t138 => (if (((((((((⟨#[111, 112]⟩ : ByteArray) ++ t134) ++ (⟨#[46]⟩ : ByteArray)) ++ t135) ++ (⟨#[32, 114]⟩ : ByteArray)) ++ t136) ++ (⟨#[32, 109]⟩ : ByteArray)) ++ t137) ++ (⟨#[58]⟩ : ByteArray)).size + t138.size ≤ 9223372036854775807 then (if ((((((((((⟨#[111, 112]⟩ : ByteArray) ++ t134) ++ (⟨#[46]⟩ : ByteArray)) ++ t135) ++ (⟨#[32, 114]⟩ : ByteArray)) ++ t136) ++ (⟨#[32, 109]⟩ : ByteArray)) ++ t137) ++ (⟨#[58]⟩ : ByteArray)) ++ t138).size + 2 ≤ 9223372036854775807 then ((spec_l1Num.f k a0_5).bind fun t139 => (if (((((((((((⟨#[111, 112]⟩ : ByteArray) ++ t134) ++ (⟨#[46]⟩ : ByteArray)) ++ t135) ++ (⟨#[32, 114]⟩ : ByteArray)) ++ t136) ++ (⟨#[32, 109]⟩ : ByteArray)) ++ t137) ++ (⟨#[58]⟩ : ByteArray)) ++ t138) ++ (⟨#[32, 120]⟩ : ByteArray)).size + t139.size ≤ 9223372036854775807 then (if ((((((((((((⟨#[111, 112]⟩ : ByteArray) ++ t134) ++ (⟨#[46]⟩ : ByteArray)) ++ t135) ++ (⟨#[32, 114]⟩ : ByteArray)) ++ t136) ++ (⟨#[32, 109]⟩ : ByteArray)) ++ t137) ++ (⟨#[58]⟩ : ByteArray)) ++ t138) ++ (⟨#[32, 120]⟩ : ByteArray)) ++ t139).size + 2 ≤ 9223372036854775807 then ((spec_l1Num.f k a0_6).bind fun t140 => (if (((((((((((((⟨#[111, 112]⟩ : ByteArray) ++ t134) ++ (⟨#[46]⟩ : ByteArray)) ++ t135) ++ (⟨#[32, 114]⟩ : ByteArray)) ++ t136) ++ (⟨#[32, 109]⟩ : ByteArray)) ++ t137) ++ (⟨#[58]⟩ : ByteArray)) ++ t138) ++ (⟨#[32, 120]⟩ : ByteArray)) ++ t139) ++ (⟨#[32, 115]⟩ : ByteArray)).size + t140.size ≤ 9223372036854775807 then (some ((((((((((((((⟨#[111, 112]⟩ : ByteArray) ++ t134) ++ (⟨#[46]⟩ : ByteArray)) ++ t135) ++ (⟨#[32, 114]⟩ : ByteArray)) ++ t136) ++ (⟨#[32, 109]⟩ : ByteArray)) ++ t137) ++ (⟨#[58]⟩ : ByteArray)) ++ t138) ++ (⟨#[32, 120]⟩ : ByteArray)) ++ t139) ++ (⟨#[32, 115]⟩ : ByteArray)) ++ t140, true)) else (none))) else (none)) else (none))) else (none)) else (none))) else (none)) else (none))) else (none)) else (none))) else (none)) else (none))) else (none)) else (none))) else (some ((⟨#[]⟩ : ByteArray), false)))) = some (r1, r2) := h
  clear h
  replace H := Option.bind_eq_some_iff.mp H
  obtain ⟨t133, A20, H⟩ := H
  replace H : (if t133 = true then ((spec_l1Num.f k a0_0).bind fun t134 => (if 2 + t134.size ≤ 9223372036854775807 then (if ((⟨#[111, 112]⟩ : ByteArray) ++ t134).size + 1 ≤ 9223372036854775807 then ((spec_l1Num.f k a0_1).bind fun t135 => (if (((⟨#[111, 112]⟩ : ByteArray) ++ t134) ++ (⟨#[46]⟩ : ByteArray)).size + t135.size ≤ 9223372036854775807 then (if ((((⟨#[111, 112]⟩ : ByteArray) ++ t134) ++ (⟨#[46]⟩ : ByteArray)) ++ t135).size + 2 ≤ 9223372036854775807 then ((spec_l1Num.f k a0_2).bind fun t136 => (if (((((⟨#[111, 112]⟩ : ByteArray) ++ t134) ++ (⟨#[46]⟩ : ByteArray)) ++ t135) ++ (⟨#[32, 114]⟩ : ByteArray)).size + t136.size ≤ 9223372036854775807 then (if ((((((⟨#[111, 112]⟩ : ByteArray) ++ t134) ++ (⟨#[46]⟩ : ByteArray)) ++ t135) ++ (⟨#[32, 114]⟩ : ByteArray)) ++ t136).size + 2 ≤ 9223372036854775807 then ((spec_l1Num.f k a0_3).bind fun t137 => (if (((((((⟨#[111, 112]⟩ : ByteArray) ++ t134) ++ (⟨#[46]⟩ : ByteArray)) ++ t135) ++ (⟨#[32, 114]⟩ : ByteArray)) ++ t136) ++ (⟨#[32, 109]⟩ : ByteArray)).size + t137.size ≤ 9223372036854775807 then (if ((((((((⟨#[111, 112]⟩ : ByteArray) ++ t134) ++ (⟨#[46]⟩ : ByteArray)) ++ t135) ++ (⟨#[32, 114]⟩ : ByteArray)) ++ t136) ++ (⟨#[32, 109]⟩ : ByteArray)) ++ t137).size + 1 ≤ 9223372036854775807 then ((spec_l1Num.f k a0_4).bind fun t138 => (if (((((((((⟨#[111, 112]⟩ : ByteArray) ++ t134) ++ (⟨#[46]⟩ : ByteArray)) ++ t135) ++ (⟨#[32, 114]⟩ : ByteArray)) ++ t136) ++ (⟨#[32, 109]⟩ : ByteArray)) ++ t137) ++ (⟨#[58]⟩ : ByteArray)).size + t138.size ≤ 9223372036854775807 then (if ((((((((((⟨#[111, 112]⟩ : ByteArray) ++ t134) ++ (⟨#[46]⟩ : ByteArray)) ++ t135) ++ (⟨#[32, 114]⟩ : ByteArray)) ++ t136) ++ (⟨#[32, 109]⟩ : ByteArray)) ++ t137) ++ (⟨#[58]⟩ : ByteArray)) ++ t138).size + 2 ≤ 9223372036854775807 then ((spec_l1Num.f k a0_5).bind fun t139 => (if (((((((((((⟨#[111, 112]⟩ : ByteArray) ++ t134) ++ (⟨#[46]⟩ : ByteArray)) ++ t135) ++ (⟨#[32, 114]⟩ : ByteArray)) ++ t136) ++ (⟨#[32, 109]⟩ : ByteArray)) ++ t137) ++ (⟨#[58]⟩ : ByteArray)) ++ t138) ++ (⟨#[32, 120]⟩ : ByteArray)).size + t139.size ≤ 9223372036854775807 then (if ((((((((((((⟨#[111, 112]⟩ : ByteArray) ++ t134) ++ (⟨#[46]⟩ : ByteArray)) ++ t135) ++ (⟨#[32, 114]⟩ : ByteArray)) ++ t136) ++ (⟨#[32, 109]⟩ : ByteArray)) ++ t137) ++ (⟨#[58]⟩ : ByteArray)) ++ t138) ++ (⟨#[32, 120]⟩ : ByteArray)) ++ t139).size + 2 ≤ 9223372036854775807 then ((spec_l1Num.f k a0_6).bind fun t140 => (if (((((((((((((⟨#[111, 112]⟩ : ByteArray) ++ t134) ++ (⟨#[46]⟩ : ByteArray)) ++ t135) ++ (⟨#[32, 114]⟩ : ByteArray)) ++ t136) ++ (⟨#[32, 109]⟩ : ByteArray)) ++ t137) ++ (⟨#[58]⟩ : ByteArray)) ++ t138) ++ (⟨#[32, 120]⟩ : ByteArray)) ++ t139) ++ (⟨#[32, 115]⟩ : ByteArray)).size + t140.size ≤ 9223372036854775807 then (some ((((((((((((((⟨#[111, 112]⟩ : ByteArray) ++ t134) ++ (⟨#[46]⟩ : ByteArray)) ++ t135) ++ (⟨#[32, 114]⟩ : ByteArray)) ++ t136) ++ (⟨#[32, 109]⟩ : ByteArray)) ++ t137) ++ (⟨#[58]⟩ : ByteArray)) ++ t138) ++ (⟨#[32, 120]⟩ : ByteArray)) ++ t139) ++ (⟨#[32, 115]⟩ : ByteArray)) ++ t140, true)) else (none))) else (none)) else (none))) else (none)) else (none))) else (none)) else (none))) else (none)) else (none))) else (none)) else (none))) else (none)) else (none))) else (some ((⟨#[]⟩ : ByteArray), false))) = some (r1, r2) := H
  have A2 := Aside0.mk A20
  clear A20
  by_cases c3 : t133 = true
  · subst c3
    have H1 : ((spec_l1Num.f k a0_0).bind fun t134 => (if 2 + t134.size ≤ 9223372036854775807 then (if ((⟨#[111, 112]⟩ : ByteArray) ++ t134).size + 1 ≤ 9223372036854775807 then ((spec_l1Num.f k a0_1).bind fun t135 => (if (((⟨#[111, 112]⟩ : ByteArray) ++ t134) ++ (⟨#[46]⟩ : ByteArray)).size + t135.size ≤ 9223372036854775807 then (if ((((⟨#[111, 112]⟩ : ByteArray) ++ t134) ++ (⟨#[46]⟩ : ByteArray)) ++ t135).size + 2 ≤ 9223372036854775807 then ((spec_l1Num.f k a0_2).bind fun t136 => (if (((((⟨#[111, 112]⟩ : ByteArray) ++ t134) ++ (⟨#[46]⟩ : ByteArray)) ++ t135) ++ (⟨#[32, 114]⟩ : ByteArray)).size + t136.size ≤ 9223372036854775807 then (if ((((((⟨#[111, 112]⟩ : ByteArray) ++ t134) ++ (⟨#[46]⟩ : ByteArray)) ++ t135) ++ (⟨#[32, 114]⟩ : ByteArray)) ++ t136).size + 2 ≤ 9223372036854775807 then ((spec_l1Num.f k a0_3).bind fun t137 => (if (((((((⟨#[111, 112]⟩ : ByteArray) ++ t134) ++ (⟨#[46]⟩ : ByteArray)) ++ t135) ++ (⟨#[32, 114]⟩ : ByteArray)) ++ t136) ++ (⟨#[32, 109]⟩ : ByteArray)).size + t137.size ≤ 9223372036854775807 then (if ((((((((⟨#[111, 112]⟩ : ByteArray) ++ t134) ++ (⟨#[46]⟩ : ByteArray)) ++ t135) ++ (⟨#[32, 114]⟩ : ByteArray)) ++ t136) ++ (⟨#[32, 109]⟩ : ByteArray)) ++ t137).size + 1 ≤ 9223372036854775807 then ((spec_l1Num.f k a0_4).bind fun t138 => (if (((((((((⟨#[111, 112]⟩ : ByteArray) ++ t134) ++ (⟨#[46]⟩ : ByteArray)) ++ t135) ++ (⟨#[32, 114]⟩ : ByteArray)) ++ t136) ++ (⟨#[32, 109]⟩ : ByteArray)) ++ t137) ++ (⟨#[58]⟩ : ByteArray)).size + t138.size ≤ 9223372036854775807 then (if ((((((((((⟨#[111, 112]⟩ : ByteArray) ++ t134) ++ (⟨#[46]⟩ : ByteArray)) ++ t135) ++ (⟨#[32, 114]⟩ : ByteArray)) ++ t136) ++ (⟨#[32, 109]⟩ : ByteArray)) ++ t137) ++ (⟨#[58]⟩ : ByteArray)) ++ t138).size + 2 ≤ 9223372036854775807 then ((spec_l1Num.f k a0_5).bind fun t139 => (if (((((((((((⟨#[111, 112]⟩ : ByteArray) ++ t134) ++ (⟨#[46]⟩ : ByteArray)) ++ t135) ++ (⟨#[32, 114]⟩ : ByteArray)) ++ t136) ++ (⟨#[32, 109]⟩ : ByteArray)) ++ t137) ++ (⟨#[58]⟩ : ByteArray)) ++ t138) ++ (⟨#[32, 120]⟩ : ByteArray)).size + t139.size ≤ 9223372036854775807 then (if ((((((((((((⟨#[111, 112]⟩ : ByteArray) ++ t134) ++ (⟨#[46]⟩ : ByteArray)) ++ t135) ++ (⟨#[32, 114]⟩ : ByteArray)) ++ t136) ++ (⟨#[32, 109]⟩ : ByteArray)) ++ t137) ++ (⟨#[58]⟩ : ByteArray)) ++ t138) ++ (⟨#[32, 120]⟩ : ByteArray)) ++ t139).size + 2 ≤ 9223372036854775807 then ((spec_l1Num.f k a0_6).bind fun t140 => (if (((((((((((((⟨#[111, 112]⟩ : ByteArray) ++ t134) ++ (⟨#[46]⟩ : ByteArray)) ++ t135) ++ (⟨#[32, 114]⟩ : ByteArray)) ++ t136) ++ (⟨#[32, 109]⟩ : ByteArray)) ++ t137) ++ (⟨#[58]⟩ : ByteArray)) ++ t138) ++ (⟨#[32, 120]⟩ : ByteArray)) ++ t139) ++ (⟨#[32, 115]⟩ : ByteArray)).size + t140.size ≤ 9223372036854775807 then (some ((((((((((((((⟨#[111, 112]⟩ : ByteArray) ++ t134) ++ (⟨#[46]⟩ : ByteArray)) ++ t135) ++ (⟨#[32, 114]⟩ : ByteArray)) ++ t136) ++ (⟨#[32, 109]⟩ : ByteArray)) ++ t137) ++ (⟨#[58]⟩ : ByteArray)) ++ t138) ++ (⟨#[32, 120]⟩ : ByteArray)) ++ t139) ++ (⟨#[32, 115]⟩ : ByteArray)) ++ t140, true)) else (none))) else (none)) else (none))) else (none)) else (none))) else (none)) else (none))) else (none)) else (none))) else (none)) else (none))) else (none)) else (none))) = some (r1, r2) := by rw [if_pos rfl] at H; exact H
    clear H
    have H := H1
    clear H1
    replace H := Option.bind_eq_some_iff.mp H
    obtain ⟨t134, A40, H⟩ := H
    replace H : (if 2 + t134.size ≤ 9223372036854775807 then (if ((⟨#[111, 112]⟩ : ByteArray) ++ t134).size + 1 ≤ 9223372036854775807 then ((spec_l1Num.f k a0_1).bind fun t135 => (if (((⟨#[111, 112]⟩ : ByteArray) ++ t134) ++ (⟨#[46]⟩ : ByteArray)).size + t135.size ≤ 9223372036854775807 then (if ((((⟨#[111, 112]⟩ : ByteArray) ++ t134) ++ (⟨#[46]⟩ : ByteArray)) ++ t135).size + 2 ≤ 9223372036854775807 then ((spec_l1Num.f k a0_2).bind fun t136 => (if (((((⟨#[111, 112]⟩ : ByteArray) ++ t134) ++ (⟨#[46]⟩ : ByteArray)) ++ t135) ++ (⟨#[32, 114]⟩ : ByteArray)).size + t136.size ≤ 9223372036854775807 then (if ((((((⟨#[111, 112]⟩ : ByteArray) ++ t134) ++ (⟨#[46]⟩ : ByteArray)) ++ t135) ++ (⟨#[32, 114]⟩ : ByteArray)) ++ t136).size + 2 ≤ 9223372036854775807 then ((spec_l1Num.f k a0_3).bind fun t137 => (if (((((((⟨#[111, 112]⟩ : ByteArray) ++ t134) ++ (⟨#[46]⟩ : ByteArray)) ++ t135) ++ (⟨#[32, 114]⟩ : ByteArray)) ++ t136) ++ (⟨#[32, 109]⟩ : ByteArray)).size + t137.size ≤ 9223372036854775807 then (if ((((((((⟨#[111, 112]⟩ : ByteArray) ++ t134) ++ (⟨#[46]⟩ : ByteArray)) ++ t135) ++ (⟨#[32, 114]⟩ : ByteArray)) ++ t136) ++ (⟨#[32, 109]⟩ : ByteArray)) ++ t137).size + 1 ≤ 9223372036854775807 then ((spec_l1Num.f k a0_4).bind fun t138 => (if (((((((((⟨#[111, 112]⟩ : ByteArray) ++ t134) ++ (⟨#[46]⟩ : ByteArray)) ++ t135) ++ (⟨#[32, 114]⟩ : ByteArray)) ++ t136) ++ (⟨#[32, 109]⟩ : ByteArray)) ++ t137) ++ (⟨#[58]⟩ : ByteArray)).size + t138.size ≤ 9223372036854775807 then (if ((((((((((⟨#[111, 112]⟩ : ByteArray) ++ t134) ++ (⟨#[46]⟩ : ByteArray)) ++ t135) ++ (⟨#[32, 114]⟩ : ByteArray)) ++ t136) ++ (⟨#[32, 109]⟩ : ByteArray)) ++ t137) ++ (⟨#[58]⟩ : ByteArray)) ++ t138).size + 2 ≤ 9223372036854775807 then ((spec_l1Num.f k a0_5).bind fun t139 => (if (((((((((((⟨#[111, 112]⟩ : ByteArray) ++ t134) ++ (⟨#[46]⟩ : ByteArray)) ++ t135) ++ (⟨#[32, 114]⟩ : ByteArray)) ++ t136) ++ (⟨#[32, 109]⟩ : ByteArray)) ++ t137) ++ (⟨#[58]⟩ : ByteArray)) ++ t138) ++ (⟨#[32, 120]⟩ : ByteArray)).size + t139.size ≤ 9223372036854775807 then (if ((((((((((((⟨#[111, 112]⟩ : ByteArray) ++ t134) ++ (⟨#[46]⟩ : ByteArray)) ++ t135) ++ (⟨#[32, 114]⟩ : ByteArray)) ++ t136) ++ (⟨#[32, 109]⟩ : ByteArray)) ++ t137) ++ (⟨#[58]⟩ : ByteArray)) ++ t138) ++ (⟨#[32, 120]⟩ : ByteArray)) ++ t139).size + 2 ≤ 9223372036854775807 then ((spec_l1Num.f k a0_6).bind fun t140 => (if (((((((((((((⟨#[111, 112]⟩ : ByteArray) ++ t134) ++ (⟨#[46]⟩ : ByteArray)) ++ t135) ++ (⟨#[32, 114]⟩ : ByteArray)) ++ t136) ++ (⟨#[32, 109]⟩ : ByteArray)) ++ t137) ++ (⟨#[58]⟩ : ByteArray)) ++ t138) ++ (⟨#[32, 120]⟩ : ByteArray)) ++ t139) ++ (⟨#[32, 115]⟩ : ByteArray)).size + t140.size ≤ 9223372036854775807 then (some ((((((((((((((⟨#[111, 112]⟩ : ByteArray) ++ t134) ++ (⟨#[46]⟩ : ByteArray)) ++ t135) ++ (⟨#[32, 114]⟩ : ByteArray)) ++ t136) ++ (⟨#[32, 109]⟩ : ByteArray)) ++ t137) ++ (⟨#[58]⟩ : ByteArray)) ++ t138) ++ (⟨#[32, 120]⟩ : ByteArray)) ++ t139) ++ (⟨#[32, 115]⟩ : ByteArray)) ++ t140, true)) else (none))) else (none)) else (none))) else (none)) else (none))) else (none)) else (none))) else (none)) else (none))) else (none)) else (none))) else (none)) else (none)) = some (r1, r2) := H
    have A4 := Aside0.mk A40
    clear A40
    by_cases c5 : 2 + t134.size ≤ 9223372036854775807
    · rw [if_pos c5] at H
      have c5b0 := eq_true c5
      have c5b1 : decide (2 + t134.size ≤ 9223372036854775807) = true := decide_eq_true c5
      try have c5b2 : (9223372036854775807 < 2 + t134.size) = False := eq_false (Nat.not_lt.2 c5)
      by_cases c6 : ((⟨#[111, 112]⟩ : ByteArray) ++ t134).size + 1 ≤ 9223372036854775807
      · rw [if_pos c6] at H
        have c6b0 := eq_true c6
        have c6b1 : decide (((⟨#[111, 112]⟩ : ByteArray) ++ t134).size + 1 ≤ 9223372036854775807) = true := decide_eq_true c6
        try have c6b2 : (9223372036854775807 < ((⟨#[111, 112]⟩ : ByteArray) ++ t134).size + 1) = False := eq_false (Nat.not_lt.2 c6)
        have c6s : (9223372036854775807 < 2 + t134.size + 1) = False := eq_false (Nat.not_lt.2 (by have h_ := c6; simp only [ByteArray.size_append] at h_; exact h_))
        replace H := Option.bind_eq_some_iff.mp H
        obtain ⟨t135, A70, H⟩ := H
        replace H : (if (((⟨#[111, 112]⟩ : ByteArray) ++ t134) ++ (⟨#[46]⟩ : ByteArray)).size + t135.size ≤ 9223372036854775807 then (if ((((⟨#[111, 112]⟩ : ByteArray) ++ t134) ++ (⟨#[46]⟩ : ByteArray)) ++ t135).size + 2 ≤ 9223372036854775807 then ((spec_l1Num.f k a0_2).bind fun t136 => (if (((((⟨#[111, 112]⟩ : ByteArray) ++ t134) ++ (⟨#[46]⟩ : ByteArray)) ++ t135) ++ (⟨#[32, 114]⟩ : ByteArray)).size + t136.size ≤ 9223372036854775807 then (if ((((((⟨#[111, 112]⟩ : ByteArray) ++ t134) ++ (⟨#[46]⟩ : ByteArray)) ++ t135) ++ (⟨#[32, 114]⟩ : ByteArray)) ++ t136).size + 2 ≤ 9223372036854775807 then ((spec_l1Num.f k a0_3).bind fun t137 => (if (((((((⟨#[111, 112]⟩ : ByteArray) ++ t134) ++ (⟨#[46]⟩ : ByteArray)) ++ t135) ++ (⟨#[32, 114]⟩ : ByteArray)) ++ t136) ++ (⟨#[32, 109]⟩ : ByteArray)).size + t137.size ≤ 9223372036854775807 then (if ((((((((⟨#[111, 112]⟩ : ByteArray) ++ t134) ++ (⟨#[46]⟩ : ByteArray)) ++ t135) ++ (⟨#[32, 114]⟩ : ByteArray)) ++ t136) ++ (⟨#[32, 109]⟩ : ByteArray)) ++ t137).size + 1 ≤ 9223372036854775807 then ((spec_l1Num.f k a0_4).bind fun t138 => (if (((((((((⟨#[111, 112]⟩ : ByteArray) ++ t134) ++ (⟨#[46]⟩ : ByteArray)) ++ t135) ++ (⟨#[32, 114]⟩ : ByteArray)) ++ t136) ++ (⟨#[32, 109]⟩ : ByteArray)) ++ t137) ++ (⟨#[58]⟩ : ByteArray)).size + t138.size ≤ 9223372036854775807 then (if ((((((((((⟨#[111, 112]⟩ : ByteArray) ++ t134) ++ (⟨#[46]⟩ : ByteArray)) ++ t135) ++ (⟨#[32, 114]⟩ : ByteArray)) ++ t136) ++ (⟨#[32, 109]⟩ : ByteArray)) ++ t137) ++ (⟨#[58]⟩ : ByteArray)) ++ t138).size + 2 ≤ 9223372036854775807 then ((spec_l1Num.f k a0_5).bind fun t139 => (if (((((((((((⟨#[111, 112]⟩ : ByteArray) ++ t134) ++ (⟨#[46]⟩ : ByteArray)) ++ t135) ++ (⟨#[32, 114]⟩ : ByteArray)) ++ t136) ++ (⟨#[32, 109]⟩ : ByteArray)) ++ t137) ++ (⟨#[58]⟩ : ByteArray)) ++ t138) ++ (⟨#[32, 120]⟩ : ByteArray)).size + t139.size ≤ 9223372036854775807 then (if ((((((((((((⟨#[111, 112]⟩ : ByteArray) ++ t134) ++ (⟨#[46]⟩ : ByteArray)) ++ t135) ++ (⟨#[32, 114]⟩ : ByteArray)) ++ t136) ++ (⟨#[32, 109]⟩ : ByteArray)) ++ t137) ++ (⟨#[58]⟩ : ByteArray)) ++ t138) ++ (⟨#[32, 120]⟩ : ByteArray)) ++ t139).size + 2 ≤ 9223372036854775807 then ((spec_l1Num.f k a0_6).bind fun t140 => (if (((((((((((((⟨#[111, 112]⟩ : ByteArray) ++ t134) ++ (⟨#[46]⟩ : ByteArray)) ++ t135) ++ (⟨#[32, 114]⟩ : ByteArray)) ++ t136) ++ (⟨#[32, 109]⟩ : ByteArray)) ++ t137) ++ (⟨#[58]⟩ : ByteArray)) ++ t138) ++ (⟨#[32, 120]⟩ : ByteArray)) ++ t139) ++ (⟨#[32, 115]⟩ : ByteArray)).size + t140.size ≤ 9223372036854775807 then (some ((((((((((((((⟨#[111, 112]⟩ : ByteArray) ++ t134) ++ (⟨#[46]⟩ : ByteArray)) ++ t135) ++ (⟨#[32, 114]⟩ : ByteArray)) ++ t136) ++ (⟨#[32, 109]⟩ : ByteArray)) ++ t137) ++ (⟨#[58]⟩ : ByteArray)) ++ t138) ++ (⟨#[32, 120]⟩ : ByteArray)) ++ t139) ++ (⟨#[32, 115]⟩ : ByteArray)) ++ t140, true)) else (none))) else (none)) else (none))) else (none)) else (none))) else (none)) else (none))) else (none)) else (none))) else (none)) else (none)) = some (r1, r2) := H
        have A7 := Aside0.mk A70
        clear A70
        by_cases c8 : (((⟨#[111, 112]⟩ : ByteArray) ++ t134) ++ (⟨#[46]⟩ : ByteArray)).size + t135.size ≤ 9223372036854775807
        · rw [if_pos c8] at H
          have c8b0 := eq_true c8
          have c8b1 : decide ((((⟨#[111, 112]⟩ : ByteArray) ++ t134) ++ (⟨#[46]⟩ : ByteArray)).size + t135.size ≤ 9223372036854775807) = true := decide_eq_true c8
          try have c8b2 : (9223372036854775807 < (((⟨#[111, 112]⟩ : ByteArray) ++ t134) ++ (⟨#[46]⟩ : ByteArray)).size + t135.size) = False := eq_false (Nat.not_lt.2 c8)
          have c8s : (9223372036854775807 < 2 + t134.size + 1 + t135.size) = False := eq_false (Nat.not_lt.2 (by have h_ := c8; simp only [ByteArray.size_append] at h_; exact h_))
          by_cases c9 : ((((⟨#[111, 112]⟩ : ByteArray) ++ t134) ++ (⟨#[46]⟩ : ByteArray)) ++ t135).size + 2 ≤ 9223372036854775807
          · rw [if_pos c9] at H
            have c9b0 := eq_true c9
            have c9b1 : decide (((((⟨#[111, 112]⟩ : ByteArray) ++ t134) ++ (⟨#[46]⟩ : ByteArray)) ++ t135).size + 2 ≤ 9223372036854775807) = true := decide_eq_true c9
            try have c9b2 : (9223372036854775807 < ((((⟨#[111, 112]⟩ : ByteArray) ++ t134) ++ (⟨#[46]⟩ : ByteArray)) ++ t135).size + 2) = False := eq_false (Nat.not_lt.2 c9)
            have c9s : (9223372036854775807 < 2 + t134.size + 1 + t135.size + 2) = False := eq_false (Nat.not_lt.2 (by have h_ := c9; simp only [ByteArray.size_append] at h_; exact h_))
            replace H := Option.bind_eq_some_iff.mp H
            obtain ⟨t136, A100, H⟩ := H
            replace H : (if (((((⟨#[111, 112]⟩ : ByteArray) ++ t134) ++ (⟨#[46]⟩ : ByteArray)) ++ t135) ++ (⟨#[32, 114]⟩ : ByteArray)).size + t136.size ≤ 9223372036854775807 then (if ((((((⟨#[111, 112]⟩ : ByteArray) ++ t134) ++ (⟨#[46]⟩ : ByteArray)) ++ t135) ++ (⟨#[32, 114]⟩ : ByteArray)) ++ t136).size + 2 ≤ 9223372036854775807 then ((spec_l1Num.f k a0_3).bind fun t137 => (if (((((((⟨#[111, 112]⟩ : ByteArray) ++ t134) ++ (⟨#[46]⟩ : ByteArray)) ++ t135) ++ (⟨#[32, 114]⟩ : ByteArray)) ++ t136) ++ (⟨#[32, 109]⟩ : ByteArray)).size + t137.size ≤ 9223372036854775807 then (if ((((((((⟨#[111, 112]⟩ : ByteArray) ++ t134) ++ (⟨#[46]⟩ : ByteArray)) ++ t135) ++ (⟨#[32, 114]⟩ : ByteArray)) ++ t136) ++ (⟨#[32, 109]⟩ : ByteArray)) ++ t137).size + 1 ≤ 9223372036854775807 then ((spec_l1Num.f k a0_4).bind fun t138 => (if (((((((((⟨#[111, 112]⟩ : ByteArray) ++ t134) ++ (⟨#[46]⟩ : ByteArray)) ++ t135) ++ (⟨#[32, 114]⟩ : ByteArray)) ++ t136) ++ (⟨#[32, 109]⟩ : ByteArray)) ++ t137) ++ (⟨#[58]⟩ : ByteArray)).size + t138.size ≤ 9223372036854775807 then (if ((((((((((⟨#[111, 112]⟩ : ByteArray) ++ t134) ++ (⟨#[46]⟩ : ByteArray)) ++ t135) ++ (⟨#[32, 114]⟩ : ByteArray)) ++ t136) ++ (⟨#[32, 109]⟩ : ByteArray)) ++ t137) ++ (⟨#[58]⟩ : ByteArray)) ++ t138).size + 2 ≤ 9223372036854775807 then ((spec_l1Num.f k a0_5).bind fun t139 => (if (((((((((((⟨#[111, 112]⟩ : ByteArray) ++ t134) ++ (⟨#[46]⟩ : ByteArray)) ++ t135) ++ (⟨#[32, 114]⟩ : ByteArray)) ++ t136) ++ (⟨#[32, 109]⟩ : ByteArray)) ++ t137) ++ (⟨#[58]⟩ : ByteArray)) ++ t138) ++ (⟨#[32, 120]⟩ : ByteArray)).size + t139.size ≤ 9223372036854775807 then (if ((((((((((((⟨#[111, 112]⟩ : ByteArray) ++ t134) ++ (⟨#[46]⟩ : ByteArray)) ++ t135) ++ (⟨#[32, 114]⟩ : ByteArray)) ++ t136) ++ (⟨#[32, 109]⟩ : ByteArray)) ++ t137) ++ (⟨#[58]⟩ : ByteArray)) ++ t138) ++ (⟨#[32, 120]⟩ : ByteArray)) ++ t139).size + 2 ≤ 9223372036854775807 then ((spec_l1Num.f k a0_6).bind fun t140 => (if (((((((((((((⟨#[111, 112]⟩ : ByteArray) ++ t134) ++ (⟨#[46]⟩ : ByteArray)) ++ t135) ++ (⟨#[32, 114]⟩ : ByteArray)) ++ t136) ++ (⟨#[32, 109]⟩ : ByteArray)) ++ t137) ++ (⟨#[58]⟩ : ByteArray)) ++ t138) ++ (⟨#[32, 120]⟩ : ByteArray)) ++ t139) ++ (⟨#[32, 115]⟩ : ByteArray)).size + t140.size ≤ 9223372036854775807 then (some ((((((((((((((⟨#[111, 112]⟩ : ByteArray) ++ t134) ++ (⟨#[46]⟩ : ByteArray)) ++ t135) ++ (⟨#[32, 114]⟩ : ByteArray)) ++ t136) ++ (⟨#[32, 109]⟩ : ByteArray)) ++ t137) ++ (⟨#[58]⟩ : ByteArray)) ++ t138) ++ (⟨#[32, 120]⟩ : ByteArray)) ++ t139) ++ (⟨#[32, 115]⟩ : ByteArray)) ++ t140, true)) else (none))) else (none)) else (none))) else (none)) else (none))) else (none)) else (none))) else (none)) else (none)) = some (r1, r2) := H
            have A10 := Aside0.mk A100
            clear A100
            by_cases c11 : (((((⟨#[111, 112]⟩ : ByteArray) ++ t134) ++ (⟨#[46]⟩ : ByteArray)) ++ t135) ++ (⟨#[32, 114]⟩ : ByteArray)).size + t136.size ≤ 9223372036854775807
            · rw [if_pos c11] at H
              have c11b0 := eq_true c11
              have c11b1 : decide ((((((⟨#[111, 112]⟩ : ByteArray) ++ t134) ++ (⟨#[46]⟩ : ByteArray)) ++ t135) ++ (⟨#[32, 114]⟩ : ByteArray)).size + t136.size ≤ 9223372036854775807) = true := decide_eq_true c11
              try have c11b2 : (9223372036854775807 < (((((⟨#[111, 112]⟩ : ByteArray) ++ t134) ++ (⟨#[46]⟩ : ByteArray)) ++ t135) ++ (⟨#[32, 114]⟩ : ByteArray)).size + t136.size) = False := eq_false (Nat.not_lt.2 c11)
              have c11s : (9223372036854775807 < 2 + t134.size + 1 + t135.size + 2 + t136.size) = False := eq_false (Nat.not_lt.2 (by have h_ := c11; simp only [ByteArray.size_append] at h_; exact h_))
              by_cases c12 : ((((((⟨#[111, 112]⟩ : ByteArray) ++ t134) ++ (⟨#[46]⟩ : ByteArray)) ++ t135) ++ (⟨#[32, 114]⟩ : ByteArray)) ++ t136).size + 2 ≤ 9223372036854775807
              · rw [if_pos c12] at H
                have c12b0 := eq_true c12
                have c12b1 : decide (((((((⟨#[111, 112]⟩ : ByteArray) ++ t134) ++ (⟨#[46]⟩ : ByteArray)) ++ t135) ++ (⟨#[32, 114]⟩ : ByteArray)) ++ t136).size + 2 ≤ 9223372036854775807) = true := decide_eq_true c12
                try have c12b2 : (9223372036854775807 < ((((((⟨#[111, 112]⟩ : ByteArray) ++ t134) ++ (⟨#[46]⟩ : ByteArray)) ++ t135) ++ (⟨#[32, 114]⟩ : ByteArray)) ++ t136).size + 2) = False := eq_false (Nat.not_lt.2 c12)
                have c12s : (9223372036854775807 < 2 + t134.size + 1 + t135.size + 2 + t136.size + 2) = False := eq_false (Nat.not_lt.2 (by have h_ := c12; simp only [ByteArray.size_append] at h_; exact h_))
                replace H := Option.bind_eq_some_iff.mp H
                obtain ⟨t137, A130, H⟩ := H
                replace H : (if (((((((⟨#[111, 112]⟩ : ByteArray) ++ t134) ++ (⟨#[46]⟩ : ByteArray)) ++ t135) ++ (⟨#[32, 114]⟩ : ByteArray)) ++ t136) ++ (⟨#[32, 109]⟩ : ByteArray)).size + t137.size ≤ 9223372036854775807 then (if ((((((((⟨#[111, 112]⟩ : ByteArray) ++ t134) ++ (⟨#[46]⟩ : ByteArray)) ++ t135) ++ (⟨#[32, 114]⟩ : ByteArray)) ++ t136) ++ (⟨#[32, 109]⟩ : ByteArray)) ++ t137).size + 1 ≤ 9223372036854775807 then ((spec_l1Num.f k a0_4).bind fun t138 => (if (((((((((⟨#[111, 112]⟩ : ByteArray) ++ t134) ++ (⟨#[46]⟩ : ByteArray)) ++ t135) ++ (⟨#[32, 114]⟩ : ByteArray)) ++ t136) ++ (⟨#[32, 109]⟩ : ByteArray)) ++ t137) ++ (⟨#[58]⟩ : ByteArray)).size + t138.size ≤ 9223372036854775807 then (if ((((((((((⟨#[111, 112]⟩ : ByteArray) ++ t134) ++ (⟨#[46]⟩ : ByteArray)) ++ t135) ++ (⟨#[32, 114]⟩ : ByteArray)) ++ t136) ++ (⟨#[32, 109]⟩ : ByteArray)) ++ t137) ++ (⟨#[58]⟩ : ByteArray)) ++ t138).size + 2 ≤ 9223372036854775807 then ((spec_l1Num.f k a0_5).bind fun t139 => (if (((((((((((⟨#[111, 112]⟩ : ByteArray) ++ t134) ++ (⟨#[46]⟩ : ByteArray)) ++ t135) ++ (⟨#[32, 114]⟩ : ByteArray)) ++ t136) ++ (⟨#[32, 109]⟩ : ByteArray)) ++ t137) ++ (⟨#[58]⟩ : ByteArray)) ++ t138) ++ (⟨#[32, 120]⟩ : ByteArray)).size + t139.size ≤ 9223372036854775807 then (if ((((((((((((⟨#[111, 112]⟩ : ByteArray) ++ t134) ++ (⟨#[46]⟩ : ByteArray)) ++ t135) ++ (⟨#[32, 114]⟩ : ByteArray)) ++ t136) ++ (⟨#[32, 109]⟩ : ByteArray)) ++ t137) ++ (⟨#[58]⟩ : ByteArray)) ++ t138) ++ (⟨#[32, 120]⟩ : ByteArray)) ++ t139).size + 2 ≤ 9223372036854775807 then ((spec_l1Num.f k a0_6).bind fun t140 => (if (((((((((((((⟨#[111, 112]⟩ : ByteArray) ++ t134) ++ (⟨#[46]⟩ : ByteArray)) ++ t135) ++ (⟨#[32, 114]⟩ : ByteArray)) ++ t136) ++ (⟨#[32, 109]⟩ : ByteArray)) ++ t137) ++ (⟨#[58]⟩ : ByteArray)) ++ t138) ++ (⟨#[32, 120]⟩ : ByteArray)) ++ t139) ++ (⟨#[32, 115]⟩ : ByteArray)).size + t140.size ≤ 9223372036854775807 then (some ((((((((((((((⟨#[111, 112]⟩ : ByteArray) ++ t134) ++ (⟨#[46]⟩ : ByteArray)) ++ t135) ++ (⟨#[32, 114]⟩ : ByteArray)) ++ t136) ++ (⟨#[32, 109]⟩ : ByteArray)) ++ t137) ++ (⟨#[58]⟩ : ByteArray)) ++ t138) ++ (⟨#[32, 120]⟩ : ByteArray)) ++ t139) ++ (⟨#[32, 115]⟩ : ByteArray)) ++ t140, true)) else (none))) else (none)) else (none))) else (none)) else (none))) else (none)) else (none)) = some (r1, r2) := H
                have A13 := Aside0.mk A130
                clear A130
                by_cases c14 : (((((((⟨#[111, 112]⟩ : ByteArray) ++ t134) ++ (⟨#[46]⟩ : ByteArray)) ++ t135) ++ (⟨#[32, 114]⟩ : ByteArray)) ++ t136) ++ (⟨#[32, 109]⟩ : ByteArray)).size + t137.size ≤ 9223372036854775807
                · rw [if_pos c14] at H
                  have c14b0 := eq_true c14
                  have c14b1 : decide ((((((((⟨#[111, 112]⟩ : ByteArray) ++ t134) ++ (⟨#[46]⟩ : ByteArray)) ++ t135) ++ (⟨#[32, 114]⟩ : ByteArray)) ++ t136) ++ (⟨#[32, 109]⟩ : ByteArray)).size + t137.size ≤ 9223372036854775807) = true := decide_eq_true c14
                  try have c14b2 : (9223372036854775807 < (((((((⟨#[111, 112]⟩ : ByteArray) ++ t134) ++ (⟨#[46]⟩ : ByteArray)) ++ t135) ++ (⟨#[32, 114]⟩ : ByteArray)) ++ t136) ++ (⟨#[32, 109]⟩ : ByteArray)).size + t137.size) = False := eq_false (Nat.not_lt.2 c14)
                  have c14s : (9223372036854775807 < 2 + t134.size + 1 + t135.size + 2 + t136.size + 2 + t137.size) = False := eq_false (Nat.not_lt.2 (by have h_ := c14; simp only [ByteArray.size_append] at h_; exact h_))
                  by_cases c15 : ((((((((⟨#[111, 112]⟩ : ByteArray) ++ t134) ++ (⟨#[46]⟩ : ByteArray)) ++ t135) ++ (⟨#[32, 114]⟩ : ByteArray)) ++ t136) ++ (⟨#[32, 109]⟩ : ByteArray)) ++ t137).size + 1 ≤ 9223372036854775807
                  · rw [if_pos c15] at H
                    have c15b0 := eq_true c15
                    have c15b1 : decide (((((((((⟨#[111, 112]⟩ : ByteArray) ++ t134) ++ (⟨#[46]⟩ : ByteArray)) ++ t135) ++ (⟨#[32, 114]⟩ : ByteArray)) ++ t136) ++ (⟨#[32, 109]⟩ : ByteArray)) ++ t137).size + 1 ≤ 9223372036854775807) = true := decide_eq_true c15
                    try have c15b2 : (9223372036854775807 < ((((((((⟨#[111, 112]⟩ : ByteArray) ++ t134) ++ (⟨#[46]⟩ : ByteArray)) ++ t135) ++ (⟨#[32, 114]⟩ : ByteArray)) ++ t136) ++ (⟨#[32, 109]⟩ : ByteArray)) ++ t137).size + 1) = False := eq_false (Nat.not_lt.2 c15)
                    have c15s : (9223372036854775807 < 2 + t134.size + 1 + t135.size + 2 + t136.size + 2 + t137.size + 1) = False := eq_false (Nat.not_lt.2 (by have h_ := c15; simp only [ByteArray.size_append] at h_; exact h_))
                    replace H := Option.bind_eq_some_iff.mp H
                    obtain ⟨t138, A160, H⟩ := H
                    replace H : (if (((((((((⟨#[111, 112]⟩ : ByteArray) ++ t134) ++ (⟨#[46]⟩ : ByteArray)) ++ t135) ++ (⟨#[32, 114]⟩ : ByteArray)) ++ t136) ++ (⟨#[32, 109]⟩ : ByteArray)) ++ t137) ++ (⟨#[58]⟩ : ByteArray)).size + t138.size ≤ 9223372036854775807 then (if ((((((((((⟨#[111, 112]⟩ : ByteArray) ++ t134) ++ (⟨#[46]⟩ : ByteArray)) ++ t135) ++ (⟨#[32, 114]⟩ : ByteArray)) ++ t136) ++ (⟨#[32, 109]⟩ : ByteArray)) ++ t137) ++ (⟨#[58]⟩ : ByteArray)) ++ t138).size + 2 ≤ 9223372036854775807 then ((spec_l1Num.f k a0_5).bind fun t139 => (if (((((((((((⟨#[111, 112]⟩ : ByteArray) ++ t134) ++ (⟨#[46]⟩ : ByteArray)) ++ t135) ++ (⟨#[32, 114]⟩ : ByteArray)) ++ t136) ++ (⟨#[32, 109]⟩ : ByteArray)) ++ t137) ++ (⟨#[58]⟩ : ByteArray)) ++ t138) ++ (⟨#[32, 120]⟩ : ByteArray)).size + t139.size ≤ 9223372036854775807 then (if ((((((((((((⟨#[111, 112]⟩ : ByteArray) ++ t134) ++ (⟨#[46]⟩ : ByteArray)) ++ t135) ++ (⟨#[32, 114]⟩ : ByteArray)) ++ t136) ++ (⟨#[32, 109]⟩ : ByteArray)) ++ t137) ++ (⟨#[58]⟩ : ByteArray)) ++ t138) ++ (⟨#[32, 120]⟩ : ByteArray)) ++ t139).size + 2 ≤ 9223372036854775807 then ((spec_l1Num.f k a0_6).bind fun t140 => (if (((((((((((((⟨#[111, 112]⟩ : ByteArray) ++ t134) ++ (⟨#[46]⟩ : ByteArray)) ++ t135) ++ (⟨#[32, 114]⟩ : ByteArray)) ++ t136) ++ (⟨#[32, 109]⟩ : ByteArray)) ++ t137) ++ (⟨#[58]⟩ : ByteArray)) ++ t138) ++ (⟨#[32, 120]⟩ : ByteArray)) ++ t139) ++ (⟨#[32, 115]⟩ : ByteArray)).size + t140.size ≤ 9223372036854775807 then (some ((((((((((((((⟨#[111, 112]⟩ : ByteArray) ++ t134) ++ (⟨#[46]⟩ : ByteArray)) ++ t135) ++ (⟨#[32, 114]⟩ : ByteArray)) ++ t136) ++ (⟨#[32, 109]⟩ : ByteArray)) ++ t137) ++ (⟨#[58]⟩ : ByteArray)) ++ t138) ++ (⟨#[32, 120]⟩ : ByteArray)) ++ t139) ++ (⟨#[32, 115]⟩ : ByteArray)) ++ t140, true)) else (none))) else (none)) else (none))) else (none)) else (none)) = some (r1, r2) := H
                    have A16 := Aside0.mk A160
                    clear A160
                    by_cases c17 : (((((((((⟨#[111, 112]⟩ : ByteArray) ++ t134) ++ (⟨#[46]⟩ : ByteArray)) ++ t135) ++ (⟨#[32, 114]⟩ : ByteArray)) ++ t136) ++ (⟨#[32, 109]⟩ : ByteArray)) ++ t137) ++ (⟨#[58]⟩ : ByteArray)).size + t138.size ≤ 9223372036854775807
                    · rw [if_pos c17] at H
                      have c17b0 := eq_true c17
                      have c17b1 : decide ((((((((((⟨#[111, 112]⟩ : ByteArray) ++ t134) ++ (⟨#[46]⟩ : ByteArray)) ++ t135) ++ (⟨#[32, 114]⟩ : ByteArray)) ++ t136) ++ (⟨#[32, 109]⟩ : ByteArray)) ++ t137) ++ (⟨#[58]⟩ : ByteArray)).size + t138.size ≤ 9223372036854775807) = true := decide_eq_true c17
                      try have c17b2 : (9223372036854775807 < (((((((((⟨#[111, 112]⟩ : ByteArray) ++ t134) ++ (⟨#[46]⟩ : ByteArray)) ++ t135) ++ (⟨#[32, 114]⟩ : ByteArray)) ++ t136) ++ (⟨#[32, 109]⟩ : ByteArray)) ++ t137) ++ (⟨#[58]⟩ : ByteArray)).size + t138.size) = False := eq_false (Nat.not_lt.2 c17)
                      have c17s : (9223372036854775807 < 2 + t134.size + 1 + t135.size + 2 + t136.size + 2 + t137.size + 1 + t138.size) = False := eq_false (Nat.not_lt.2 (by have h_ := c17; simp only [ByteArray.size_append] at h_; exact h_))
                      by_cases c18 : ((((((((((⟨#[111, 112]⟩ : ByteArray) ++ t134) ++ (⟨#[46]⟩ : ByteArray)) ++ t135) ++ (⟨#[32, 114]⟩ : ByteArray)) ++ t136) ++ (⟨#[32, 109]⟩ : ByteArray)) ++ t137) ++ (⟨#[58]⟩ : ByteArray)) ++ t138).size + 2 ≤ 9223372036854775807
                      · rw [if_pos c18] at H
                        have c18b0 := eq_true c18
                        have c18b1 : decide (((((((((((⟨#[111, 112]⟩ : ByteArray) ++ t134) ++ (⟨#[46]⟩ : ByteArray)) ++ t135) ++ (⟨#[32, 114]⟩ : ByteArray)) ++ t136) ++ (⟨#[32, 109]⟩ : ByteArray)) ++ t137) ++ (⟨#[58]⟩ : ByteArray)) ++ t138).size + 2 ≤ 9223372036854775807) = true := decide_eq_true c18
                        try have c18b2 : (9223372036854775807 < ((((((((((⟨#[111, 112]⟩ : ByteArray) ++ t134) ++ (⟨#[46]⟩ : ByteArray)) ++ t135) ++ (⟨#[32, 114]⟩ : ByteArray)) ++ t136) ++ (⟨#[32, 109]⟩ : ByteArray)) ++ t137) ++ (⟨#[58]⟩ : ByteArray)) ++ t138).size + 2) = False := eq_false (Nat.not_lt.2 c18)
                        have c18s : (9223372036854775807 < 2 + t134.size + 1 + t135.size + 2 + t136.size + 2 + t137.size + 1 + t138.size + 2) = False := eq_false (Nat.not_lt.2 (by have h_ := c18; simp only [ByteArray.size_append] at h_; exact h_))
                        replace H := Option.bind_eq_some_iff.mp H
                        obtain ⟨t139, A190, H⟩ := H
                        replace H : (if (((((((((((⟨#[111, 112]⟩ : ByteArray) ++ t134) ++ (⟨#[46]⟩ : ByteArray)) ++ t135) ++ (⟨#[32, 114]⟩ : ByteArray)) ++ t136) ++ (⟨#[32, 109]⟩ : ByteArray)) ++ t137) ++ (⟨#[58]⟩ : ByteArray)) ++ t138) ++ (⟨#[32, 120]⟩ : ByteArray)).size + t139.size ≤ 9223372036854775807 then (if ((((((((((((⟨#[111, 112]⟩ : ByteArray) ++ t134) ++ (⟨#[46]⟩ : ByteArray)) ++ t135) ++ (⟨#[32, 114]⟩ : ByteArray)) ++ t136) ++ (⟨#[32, 109]⟩ : ByteArray)) ++ t137) ++ (⟨#[58]⟩ : ByteArray)) ++ t138) ++ (⟨#[32, 120]⟩ : ByteArray)) ++ t139).size + 2 ≤ 9223372036854775807 then ((spec_l1Num.f k a0_6).bind fun t140 => (if (((((((((((((⟨#[111, 112]⟩ : ByteArray) ++ t134) ++ (⟨#[46]⟩ : ByteArray)) ++ t135) ++ (⟨#[32, 114]⟩ : ByteArray)) ++ t136) ++ (⟨#[32, 109]⟩ : ByteArray)) ++ t137) ++ (⟨#[58]⟩ : ByteArray)) ++ t138) ++ (⟨#[32, 120]⟩ : ByteArray)) ++ t139) ++ (⟨#[32, 115]⟩ : ByteArray)).size + t140.size ≤ 9223372036854775807 then (some ((((((((((((((⟨#[111, 112]⟩ : ByteArray) ++ t134) ++ (⟨#[46]⟩ : ByteArray)) ++ t135) ++ (⟨#[32, 114]⟩ : ByteArray)) ++ t136) ++ (⟨#[32, 109]⟩ : ByteArray)) ++ t137) ++ (⟨#[58]⟩ : ByteArray)) ++ t138) ++ (⟨#[32, 120]⟩ : ByteArray)) ++ t139) ++ (⟨#[32, 115]⟩ : ByteArray)) ++ t140, true)) else (none))) else (none)) else (none)) = some (r1, r2) := H
                        have A19 := Aside0.mk A190
                        clear A190
                        by_cases c20 : (((((((((((⟨#[111, 112]⟩ : ByteArray) ++ t134) ++ (⟨#[46]⟩ : ByteArray)) ++ t135) ++ (⟨#[32, 114]⟩ : ByteArray)) ++ t136) ++ (⟨#[32, 109]⟩ : ByteArray)) ++ t137) ++ (⟨#[58]⟩ : ByteArray)) ++ t138) ++ (⟨#[32, 120]⟩ : ByteArray)).size + t139.size ≤ 9223372036854775807
                        · rw [if_pos c20] at H
                          have c20b0 := eq_true c20
                          have c20b1 : decide ((((((((((((⟨#[111, 112]⟩ : ByteArray) ++ t134) ++ (⟨#[46]⟩ : ByteArray)) ++ t135) ++ (⟨#[32, 114]⟩ : ByteArray)) ++ t136) ++ (⟨#[32, 109]⟩ : ByteArray)) ++ t137) ++ (⟨#[58]⟩ : ByteArray)) ++ t138) ++ (⟨#[32, 120]⟩ : ByteArray)).size + t139.size ≤ 9223372036854775807) = true := decide_eq_true c20
                          try have c20b2 : (9223372036854775807 < (((((((((((⟨#[111, 112]⟩ : ByteArray) ++ t134) ++ (⟨#[46]⟩ : ByteArray)) ++ t135) ++ (⟨#[32, 114]⟩ : ByteArray)) ++ t136) ++ (⟨#[32, 109]⟩ : ByteArray)) ++ t137) ++ (⟨#[58]⟩ : ByteArray)) ++ t138) ++ (⟨#[32, 120]⟩ : ByteArray)).size + t139.size) = False := eq_false (Nat.not_lt.2 c20)
                          have c20s : (9223372036854775807 < 2 + t134.size + 1 + t135.size + 2 + t136.size + 2 + t137.size + 1 + t138.size + 2 + t139.size) = False := eq_false (Nat.not_lt.2 (by have h_ := c20; simp only [ByteArray.size_append] at h_; exact h_))
                          by_cases c21 : ((((((((((((⟨#[111, 112]⟩ : ByteArray) ++ t134) ++ (⟨#[46]⟩ : ByteArray)) ++ t135) ++ (⟨#[32, 114]⟩ : ByteArray)) ++ t136) ++ (⟨#[32, 109]⟩ : ByteArray)) ++ t137) ++ (⟨#[58]⟩ : ByteArray)) ++ t138) ++ (⟨#[32, 120]⟩ : ByteArray)) ++ t139).size + 2 ≤ 9223372036854775807
                          · rw [if_pos c21] at H
                            have c21b0 := eq_true c21
                            have c21b1 : decide (((((((((((((⟨#[111, 112]⟩ : ByteArray) ++ t134) ++ (⟨#[46]⟩ : ByteArray)) ++ t135) ++ (⟨#[32, 114]⟩ : ByteArray)) ++ t136) ++ (⟨#[32, 109]⟩ : ByteArray)) ++ t137) ++ (⟨#[58]⟩ : ByteArray)) ++ t138) ++ (⟨#[32, 120]⟩ : ByteArray)) ++ t139).size + 2 ≤ 9223372036854775807) = true := decide_eq_true c21
                            try have c21b2 : (9223372036854775807 < ((((((((((((⟨#[111, 112]⟩ : ByteArray) ++ t134) ++ (⟨#[46]⟩ : ByteArray)) ++ t135) ++ (⟨#[32, 114]⟩ : ByteArray)) ++ t136) ++ (⟨#[32, 109]⟩ : ByteArray)) ++ t137) ++ (⟨#[58]⟩ : ByteArray)) ++ t138) ++ (⟨#[32, 120]⟩ : ByteArray)) ++ t139).size + 2) = False := eq_false (Nat.not_lt.2 c21)
                            have c21s : (9223372036854775807 < 2 + t134.size + 1 + t135.size + 2 + t136.size + 2 + t137.size + 1 + t138.size + 2 + t139.size + 2) = False := eq_false (Nat.not_lt.2 (by have h_ := c21; simp only [ByteArray.size_append] at h_; exact h_))
                            replace H := Option.bind_eq_some_iff.mp H
                            obtain ⟨t140, A220, H⟩ := H
                            replace H : (if (((((((((((((⟨#[111, 112]⟩ : ByteArray) ++ t134) ++ (⟨#[46]⟩ : ByteArray)) ++ t135) ++ (⟨#[32, 114]⟩ : ByteArray)) ++ t136) ++ (⟨#[32, 109]⟩ : ByteArray)) ++ t137) ++ (⟨#[58]⟩ : ByteArray)) ++ t138) ++ (⟨#[32, 120]⟩ : ByteArray)) ++ t139) ++ (⟨#[32, 115]⟩ : ByteArray)).size + t140.size ≤ 9223372036854775807 then (some ((((((((((((((⟨#[111, 112]⟩ : ByteArray) ++ t134) ++ (⟨#[46]⟩ : ByteArray)) ++ t135) ++ (⟨#[32, 114]⟩ : ByteArray)) ++ t136) ++ (⟨#[32, 109]⟩ : ByteArray)) ++ t137) ++ (⟨#[58]⟩ : ByteArray)) ++ t138) ++ (⟨#[32, 120]⟩ : ByteArray)) ++ t139) ++ (⟨#[32, 115]⟩ : ByteArray)) ++ t140, true)) else (none)) = some (r1, r2) := H
                            have A22 := Aside0.mk A220
                            clear A220
                            by_cases c23 : (((((((((((((⟨#[111, 112]⟩ : ByteArray) ++ t134) ++ (⟨#[46]⟩ : ByteArray)) ++ t135) ++ (⟨#[32, 114]⟩ : ByteArray)) ++ t136) ++ (⟨#[32, 109]⟩ : ByteArray)) ++ t137) ++ (⟨#[58]⟩ : ByteArray)) ++ t138) ++ (⟨#[32, 120]⟩ : ByteArray)) ++ t139) ++ (⟨#[32, 115]⟩ : ByteArray)).size + t140.size ≤ 9223372036854775807
                            · rw [if_pos c23] at H
                              have c23b0 := eq_true c23
                              have c23b1 : decide ((((((((((((((⟨#[111, 112]⟩ : ByteArray) ++ t134) ++ (⟨#[46]⟩ : ByteArray)) ++ t135) ++ (⟨#[32, 114]⟩ : ByteArray)) ++ t136) ++ (⟨#[32, 109]⟩ : ByteArray)) ++ t137) ++ (⟨#[58]⟩ : ByteArray)) ++ t138) ++ (⟨#[32, 120]⟩ : ByteArray)) ++ t139) ++ (⟨#[32, 115]⟩ : ByteArray)).size + t140.size ≤ 9223372036854775807) = true := decide_eq_true c23
                              try have c23b2 : (9223372036854775807 < (((((((((((((⟨#[111, 112]⟩ : ByteArray) ++ t134) ++ (⟨#[46]⟩ : ByteArray)) ++ t135) ++ (⟨#[32, 114]⟩ : ByteArray)) ++ t136) ++ (⟨#[32, 109]⟩ : ByteArray)) ++ t137) ++ (⟨#[58]⟩ : ByteArray)) ++ t138) ++ (⟨#[32, 120]⟩ : ByteArray)) ++ t139) ++ (⟨#[32, 115]⟩ : ByteArray)).size + t140.size) = False := eq_false (Nat.not_lt.2 c23)
                              have c23s : (9223372036854775807 < 2 + t134.size + 1 + t135.size + 2 + t136.size + 2 + t137.size + 1 + t138.size + 2 + t139.size + 2 + t140.size) = False := eq_false (Nat.not_lt.2 (by have h_ := c23; simp only [ByteArray.size_append] at h_; exact h_))
                              simp only [Option.some.injEq, Prod.mk.injEq] at H
                              obtain ⟨rfl, rfl⟩ := H
                              go_enter Tryd.func4, Tryd.ntmps4
                              try go_wp2_with (first | ((with_reducible refine gate_dst (N := 1) rfl ?_); refine box_event ?hg (N := 1) ?hd (cs := #[.int .i64 a0_0, .int .i64 a0_1, .int .i64 a0_2, .int .i64 a0_3, .int .i64 a0_4, .int .i64 a0_5, .int .i64 a0_6]) (t := 30) ?hr ?_; (case hd => rfl); (case hg => rfl); (case hr => first | (go_simp; done) | (go_simp; rfl)); intro gb132 hg w24 hbox hb; have n0_ := Aside0.mk (below_step (by repeat (first | (with_reducible first | exact HB.out | apply below_alloc | apply pw_below_drewN | apply below_drew1) | exact HB.out)) hb); have n1_ := Aside0.mk (hbox); have n2_ := Aside0.mk ((by rw [hg]; exact (below_size (by repeat (first | (with_reducible first | exact HB.out | apply below_alloc | apply pw_below_drewN | apply below_drew1) | exact HB.out))) : w.heap.size ≤ gb132)); have n3_ := Aside0.mk ((by rw [hg]; exact (below_size (by repeat (first | (with_reducible first | exact HB.out | apply below_alloc | apply pw_below_drewN | apply below_drew1) | exact HB.out))) : w.heap.size ≤ gb132)); clear HB; have HB := n0_; have BK132 := n1_; have GW132 := n2_; have GE132 := n3_; clear n0_ n1_ n2_ n3_; clear hb hbox hg; have hcz25_0 : w24.cell? ⟨gb132, 0, none⟩ = some (.int .i64 a0_0) := (blk_cell BK132.out 0).trans rfl; have hcz25_1 : w24.cell? ⟨gb132, 1, none⟩ = some (.int .i64 a0_1) := (blk_cell BK132.out 1).trans rfl; have hcz25_2 : w24.cell? ⟨gb132, 2, none⟩ = some (.int .i64 a0_2) := (blk_cell BK132.out 2).trans rfl; have hcz25_3 : w24.cell? ⟨gb132, 3, none⟩ = some (.int .i64 a0_3) := (blk_cell BK132.out 3).trans rfl; have hcz25_4 : w24.cell? ⟨gb132, 4, none⟩ = some (.int .i64 a0_4) := (blk_cell BK132.out 4).trans rfl; have hcz25_5 : w24.cell? ⟨gb132, 5, none⟩ = some (.int .i64 a0_5) := (blk_cell BK132.out 5).trans rfl; have hcz25_6 : w24.cell? ⟨gb132, 6, none⟩ = some (.int .i64 a0_6) := (blk_cell BK132.out 6).trans rfl; have hfz25_0 := blk_frozen BK132.out 0; have hfz25_1 := blk_frozen BK132.out 1; have hfz25_2 := blk_frozen BK132.out 2; have hfz25_3 := blk_frozen BK132.out 3; have hfz25_4 := blk_frozen BK132.out 4; have hfz25_5 := blk_frozen BK132.out 5; have hfz25_6 := blk_frozen BK132.out 6) | ((with_reducible refine gate_callee (f := 7) rfl ?_); refine goesL_ (some 5) rfl rfl Tryd.func7 (by kernel_rfl) rfl #[.agg #[.int .i64 a0_0, .int .i64 a0_1, .int .i64 a0_2, .int .i64 a0_3, .int .i64 a0_4, .int .i64 a0_5, .int .i64 a0_6]] rfl (by (try simp only [List.map_toArray, List.map_cons, List.map_nil]); first | done | rfl | (simp only [List.length_drop, List.length_take]; rfl)) ?_; (with_reducible refine (spec_GoodIns.calls k a0_0 a0_1 a0_2 a0_3 a0_4 a0_5 a0_6 true _ A2.out).mono ?_); rintro e w26 ⟨rfl, hb⟩; refine ⟨_, rfl, ?_⟩; have n0_ := Aside0.mk (blk_below (g := gb132) (o := .cells #[.int .i64 a0_0, .int .i64 a0_1, .int .i64 a0_2, .int .i64 a0_3, .int .i64 a0_4, .int .i64 a0_5, .int .i64 a0_6] 30 (0, 0)) (by (with_reducible repeat (first | refine blk_drewN ?_ _ | refine blk_drew ?_ | refine blk_alloc ?_ _)); exact BK132.out) hb); have n1_ := Aside0.mk (below_step (by repeat (first | (with_reducible first | exact HB.out | apply below_alloc | apply pw_below_drewN | apply below_drew1 | refine below_set ?_ GE132.out) | exact HB.out)) hb); clear BK132; clear HB; have BK132 := n0_; have HB := n1_; clear n0_ n1_; (try clear hb); (try clear hb2); (try clear hk); (try clear hi)))
                              have n0_ := Aside0.mk (blk_drew BK132.out)
                              have n1_ := Aside0.mk (below_drew1 HB.out)
                              clear BK132
                              clear HB
                              have BK132 := n0_
                              have HB := n1_
                              clear n0_ n1_
                              refine start_ (n := 39) (S := fun w' => w'.cell? ⟨gb132, 0, none⟩ = some (.int .i64 a0_0) ∧ w'.cell? ⟨gb132, 1, none⟩ = some (.int .i64 a0_1) ∧ w'.cell? ⟨gb132, 2, none⟩ = some (.int .i64 a0_2) ∧ w'.cell? ⟨gb132, 3, none⟩ = some (.int .i64 a0_3) ∧ w'.cell? ⟨gb132, 4, none⟩ = some (.int .i64 a0_4) ∧ w'.cell? ⟨gb132, 5, none⟩ = some (.int .i64 a0_5) ∧ w'.cell? ⟨gb132, 6, none⟩ = some (.int .i64 a0_6)) (ds := []) #[false, false, false, false, false, false, false, false, false, false, false, false, false, false, false, false, false, false, false, false, false, false, false, false, false, false, false, false, false, false, false, false, false, false, false, false, false, false, false] (by kernel_rfl) rfl rfl ⟨(blk_cell BK132.out 0).trans rfl, (blk_cell BK132.out 1).trans rfl, (blk_cell BK132.out 2).trans rfl, (blk_cell BK132.out 3).trans rfl, (blk_cell BK132.out 4).trans rfl, (blk_cell BK132.out 5).trans rfl, (blk_cell BK132.out 6).trans rfl⟩ (fun hHeld => ?_); refine with_tabW spec_TextOf.tab3 spec_TextOf.bits3 (fun HT_ HW_ => ?_)
                              generalize w26.drew = w27 at BK132 HB hHeld ⊢
                              refine pure_ (i := 0) (N := some 7) (v := ?_) (a' := ?_) #[true, false, false, false, false, false, false, false, false, false, false, false, false, false, false, false, false, false, false, false, false, false, false, false, false, false, false, false, false, false, false, false, false, false, false, false, false, false, false] rfl rfl (any_of HT_.out (by kernel_rfl)) (fun _ _ _ h => h) (Or.inl ⟨by rfl, ?_⟩) ?_ ?_
                              rotate_left
                              · intro w'
                                go_simp
                                with_reducible rfl
                              rotate_left
                              · simp only [Act.put, List.setIfInBounds_toArray, List.set_cons_zero, List.set_cons_succ, i64_w, i32_w]
                                rfl
                              refine pure_ (i := 5) (N := some 12) (v := ?_) (a' := ?_) #[true, false, false, false, false, true, false, false, false, false, false, false, false, false, false, false, false, false, false, false, false, false, false, false, false, false, false, false, false, false, false, false, false, false, false, false, false, false, false] rfl rfl (any_of HT_.out (by kernel_rfl)) (fun _ _ _ h => h) (Or.inl ⟨by rfl, ?_⟩) ?_ ?_
                              rotate_left
                              · intro w'
                                go_simp
                                with_reducible rfl
                              rotate_left
                              · simp only [Act.put, List.setIfInBounds_toArray, List.set_cons_zero, List.set_cons_succ, i64_w, i32_w]
                                rfl
                              refine pure_ (i := 10) (N := some 17) (v := ?_) (a' := ?_) #[true, false, false, false, false, true, false, false, false, false, true, false, false, false, false, false, false, false, false, false, false, false, false, false, false, false, false, false, false, false, false, false, false, false, false, false, false, false, false] rfl rfl (any_of HT_.out (by kernel_rfl)) (fun _ _ _ h => h) (Or.inl ⟨by rfl, ?_⟩) ?_ ?_
                              rotate_left
                              · intro w'
                                go_simp
                                with_reducible rfl
                              rotate_left
                              · simp only [Act.put, List.setIfInBounds_toArray, List.set_cons_zero, List.set_cons_succ, i64_w, i32_w]
                                rfl
                              refine pure_ (i := 15) (N := some 22) (v := ?_) (a' := ?_) #[true, false, false, false, false, true, false, false, false, false, true, false, false, false, false, true, false, false, false, false, false, false, false, false, false, false, false, false, false, false, false, false, false, false, false, false, false, false, false] rfl rfl (any_of HT_.out (by kernel_rfl)) (fun _ _ _ h => h) (Or.inl ⟨by rfl, ?_⟩) ?_ ?_
                              rotate_left
                              · intro w'
                                go_simp
                                with_reducible rfl
                              rotate_left
                              · simp only [Act.put, List.setIfInBounds_toArray, List.set_cons_zero, List.set_cons_succ, i64_w, i32_w]
                                rfl
                              refine pure_ (i := 16) (N := some 23) (v := ?_) (a' := ?_) #[true, false, false, false, false, true, false, false, false, false, true, false, false, false, false, true, true, false, false, false, false, false, false, false, false, false, false, false, false, false, false, false, false, false, false, false, false, false, false] rfl rfl (any_of HT_.out (by kernel_rfl)) (fun _ _ _ h => h) (Or.inl ⟨by rfl, ?_⟩) ?_ ?_
                              rotate_left
                              · intro w'
                                go_simp
                                with_reducible rfl
                              rotate_left
                              · simp only [Act.put, List.setIfInBounds_toArray, List.set_cons_zero, List.set_cons_succ, i64_w, i32_w]
                                rfl
                              refine pure_ (i := 21) (N := some 28) (v := ?_) (a' := ?_) #[true, false, false, false, false, true, false, false, false, false, true, false, false, false, false, true, true, false, false, false, false, true, false, false, false, false, false, false, false, false, false, false, false, false, false, false, false, false, false] rfl rfl (any_of HT_.out (by kernel_rfl)) (fun _ _ _ h => h) (Or.inl ⟨by rfl, ?_⟩) ?_ ?_
                              rotate_left
                              · intro w'
                                go_simp
                                with_reducible rfl
                              rotate_left
                              · simp only [Act.put, List.setIfInBounds_toArray, List.set_cons_zero, List.set_cons_succ, i64_w, i32_w]
                                rfl
                              refine pure_ (i := 22) (N := some 29) (v := ?_) (a' := ?_) #[true, false, false, false, false, true, false, false, false, false, true, false, false, false, false, true, true, false, false, false, false, true, true, false, false, false, false, false, false, false, false, false, false, false, false, false, false, false, false] rfl rfl (any_of HT_.out (by kernel_rfl)) (fun _ _ _ h => h) (Or.inl ⟨by rfl, ?_⟩) ?_ ?_
                              rotate_left
                              · intro w'
                                go_simp
                                with_reducible rfl
                              rotate_left
                              · simp only [Act.put, List.setIfInBounds_toArray, List.set_cons_zero, List.set_cons_succ, i64_w, i32_w]
                                rfl
                              refine pure_ (i := 27) (N := some 34) (v := ?_) (a' := ?_) #[true, false, false, false, false, true, false, false, false, false, true, false, false, false, false, true, true, false, false, false, false, true, true, false, false, false, false, true, false, false, false, false, false, false, false, false, false, false, false] rfl rfl (any_of HT_.out (by kernel_rfl)) (fun _ _ _ h => h) (Or.inl ⟨by rfl, ?_⟩) ?_ ?_
                              rotate_left
                              · intro w'
                                go_simp
                                with_reducible rfl
                              rotate_left
                              · simp only [Act.put, List.setIfInBounds_toArray, List.set_cons_zero, List.set_cons_succ, i64_w, i32_w]
                                rfl
                              refine pure_ (i := 28) (N := some 35) (v := ?_) (a' := ?_) #[true, false, false, false, false, true, false, false, false, false, true, false, false, false, false, true, true, false, false, false, false, true, true, false, false, false, false, true, true, false, false, false, false, false, false, false, false, false, false] rfl rfl (any_of HT_.out (by kernel_rfl)) (fun _ _ _ h => h) (Or.inl ⟨by rfl, ?_⟩) ?_ ?_
                              rotate_left
                              · intro w'
                                go_simp
                                with_reducible rfl
                              rotate_left
                              · simp only [Act.put, List.setIfInBounds_toArray, List.set_cons_zero, List.set_cons_succ, i64_w, i32_w]
                                rfl
                              refine pure_ (i := 33) (N := some 40) (v := ?_) (a' := ?_) #[true, false, false, false, false, true, false, false, false, false, true, false, false, false, false, true, true, false, false, false, false, true, true, false, false, false, false, true, true, false, false, false, false, true, false, false, false, false, false] rfl rfl (any_of HT_.out (by kernel_rfl)) (fun _ _ _ h => h) (Or.inl ⟨by rfl, ?_⟩) ?_ ?_
                              rotate_left
                              · intro w'
                                go_simp
                                with_reducible rfl
                              rotate_left
                              · simp only [Act.put, List.setIfInBounds_toArray, List.set_cons_zero, List.set_cons_succ, i64_w, i32_w]
                                rfl
                              refine take_ (i := 1) (N := some 8) (v := ?_) (a' := ?_) #[true, true, false, false, false, true, false, false, false, false, true, false, false, false, false, true, true, false, false, false, false, true, true, false, false, false, false, true, true, false, false, false, false, true, false, false, false, false, false] rfl rfl (take_ofW HT_.out HW_.out (by kernel_rfl)) (fun _ _ _ h => h) (Or.inl ⟨by rfl, ?_⟩) hHeld ?_ ?_
                              rotate_left
                              · rintro w' ⟨s0, s1, s2, s3, s4, s5, s6⟩
                                go_simp
                                with_reducible rfl
                              rotate_left
                              · simp only [Act.put, List.setIfInBounds_toArray, List.set_cons_zero, List.set_cons_succ, i64_w, i32_w]
                                rfl
                              refine take_ (i := 6) (N := some 13) (v := ?_) (a' := ?_) #[true, true, false, false, false, true, true, false, false, false, true, false, false, false, false, true, true, false, false, false, false, true, true, false, false, false, false, true, true, false, false, false, false, true, false, false, false, false, false] rfl rfl (take_ofW HT_.out HW_.out (by kernel_rfl)) (fun _ _ _ h => h) (Or.inl ⟨by rfl, ?_⟩) hHeld ?_ ?_
                              rotate_left
                              · rintro w' ⟨s0, s1, s2, s3, s4, s5, s6⟩
                                go_simp
                                with_reducible rfl
                              rotate_left
                              · simp only [Act.put, List.setIfInBounds_toArray, List.set_cons_zero, List.set_cons_succ, i64_w, i32_w]
                                rfl
                              refine take_ (i := 11) (N := some 18) (v := ?_) (a' := ?_) #[true, true, false, false, false, true, true, false, false, false, true, true, false, false, false, true, true, false, false, false, false, true, true, false, false, false, false, true, true, false, false, false, false, true, false, false, false, false, false] rfl rfl (take_ofW HT_.out HW_.out (by kernel_rfl)) (fun _ _ _ h => h) (Or.inl ⟨by rfl, ?_⟩) hHeld ?_ ?_
                              rotate_left
                              · rintro w' ⟨s0, s1, s2, s3, s4, s5, s6⟩
                                go_simp
                                with_reducible rfl
                              rotate_left
                              · simp only [Act.put, List.setIfInBounds_toArray, List.set_cons_zero, List.set_cons_succ, i64_w, i32_w]
                                rfl
                              refine take_ (i := 17) (N := some 24) (v := ?_) (a' := ?_) #[true, true, false, false, false, true, true, false, false, false, true, true, false, false, false, true, true, true, false, false, false, true, true, false, false, false, false, true, true, false, false, false, false, true, false, false, false, false, false] rfl rfl (take_ofW HT_.out HW_.out (by kernel_rfl)) (fun _ _ _ h => h) (Or.inl ⟨by rfl, ?_⟩) hHeld ?_ ?_
                              rotate_left
                              · rintro w' ⟨s0, s1, s2, s3, s4, s5, s6⟩
                                go_simp
                                with_reducible rfl
                              rotate_left
                              · simp only [Act.put, List.setIfInBounds_toArray, List.set_cons_zero, List.set_cons_succ, i64_w, i32_w]
                                rfl
                              refine take_ (i := 23) (N := some 30) (v := ?_) (a' := ?_) #[true, true, false, false, false, true, true, false, false, false, true, true, false, false, false, true, true, true, false, false, false, true, true, true, false, false, false, true, true, false, false, false, false, true, false, false, false, false, false] rfl rfl (take_ofW HT_.out HW_.out (by kernel_rfl)) (fun _ _ _ h => h) (Or.inl ⟨by rfl, ?_⟩) hHeld ?_ ?_
                              rotate_left
                              · rintro w' ⟨s0, s1, s2, s3, s4, s5, s6⟩
                                go_simp
                                with_reducible rfl
                              rotate_left
                              · simp only [Act.put, List.setIfInBounds_toArray, List.set_cons_zero, List.set_cons_succ, i64_w, i32_w]
                                rfl
                              refine take_ (i := 29) (N := some 36) (v := ?_) (a' := ?_) #[true, true, false, false, false, true, true, false, false, false, true, true, false, false, false, true, true, true, false, false, false, true, true, true, false, false, false, true, true, true, false, false, false, true, false, false, false, false, false] rfl rfl (take_ofW HT_.out HW_.out (by kernel_rfl)) (fun _ _ _ h => h) (Or.inl ⟨by rfl, ?_⟩) hHeld ?_ ?_
                              rotate_left
                              · rintro w' ⟨s0, s1, s2, s3, s4, s5, s6⟩
                                go_simp
                                with_reducible rfl
                              rotate_left
                              · simp only [Act.put, List.setIfInBounds_toArray, List.set_cons_zero, List.set_cons_succ, i64_w, i32_w]
                                rfl
                              refine take_ (i := 34) (N := some 41) (v := ?_) (a' := ?_) #[true, true, false, false, false, true, true, false, false, false, true, true, false, false, false, true, true, true, false, false, false, true, true, true, false, false, false, true, true, true, false, false, false, true, true, false, false, false, false] rfl rfl (take_ofW HT_.out HW_.out (by kernel_rfl)) (fun _ _ _ h => h) (Or.inl ⟨by rfl, ?_⟩) hHeld ?_ ?_
                              rotate_left
                              · rintro w' ⟨s0, s1, s2, s3, s4, s5, s6⟩
                                go_simp
                                with_reducible rfl
                              rotate_left
                              · simp only [Act.put, List.setIfInBounds_toArray, List.set_cons_zero, List.set_cons_succ, i64_w, i32_w]
                                rfl
                              refine one_ (i := 2) (N := some 9) #[true, true, true, false, false, true, true, false, false, false, true, true, false, false, false, true, true, true, false, false, false, true, true, true, false, false, false, true, true, true, false, false, false, true, true, false, false, false, false] rfl rfl (one_of HT_.out (by kernel_rfl)) (by decide) (fun K hK => ?_)
                              refine goes_ Tryd.func8 (by kernel_rfl) rfl #[.int .i64 a0_0] (by rfl) rfl rfl (by (try simp only [List.map_toArray, List.map_cons, List.map_nil]); first | done | rfl | (simp only [List.length_drop, List.length_take]; rfl)) ?_
                              with_reducible refine (spec_l1Num.calls k a0_0 t134 _ A4.out).mono ?_
                              rintro e w28 ⟨rfl, hb⟩
                              refine ⟨_, rfl, ?_⟩
                              have n0_ := Aside0.mk (blk_below (g := gb132) (o := .cells #[.int .i64 a0_0, .int .i64 a0_1, .int .i64 a0_2, .int .i64 a0_3, .int .i64 a0_4, .int .i64 a0_5, .int .i64 a0_6] 30 (0, 0)) (by (with_reducible repeat (first | refine blk_drewN ?_ _ | refine blk_drew ?_ | refine blk_alloc ?_ _)); exact BK132.out) hb)
                              have n1_ := Aside0.mk (below_step (by repeat (first | (with_reducible first | exact HB.out | apply below_alloc | apply pw_below_drewN | apply below_drew1 | refine below_set ?_ GE132.out) | exact HB.out)) hb)
                              clear BK132
                              clear HB
                              have BK132 := n0_
                              have HB := n1_
                              clear n0_ n1_
                              (try clear hb)
                              (try clear hb2)
                              (try clear hk)
                              (try clear hi)
                              refine hK.out _ _ ⟨(blk_cell BK132.out 0).trans rfl, (blk_cell BK132.out 1).trans rfl, (blk_cell BK132.out 2).trans rfl, (blk_cell BK132.out 3).trans rfl, (blk_cell BK132.out 4).trans rfl, (blk_cell BK132.out 5).trans rfl, (blk_cell BK132.out 6).trans rfl⟩ (fun hHeld => ?_)
                              clear hK K
                              refine norm_ (a' := ?_) ?_ ?_
                              rotate_left
                              · show Act.put _ (some 9) _ = _
                                simp only [Act.put, List.setIfInBounds_toArray, List.set_cons_zero, List.set_cons_succ, i64_w, i32_w]
                                rfl
                              refine pure_ (i := 3) (N := some 10) (v := ?_) (a' := ?_) #[true, true, true, true, false, true, true, false, false, false, true, true, false, false, false, true, true, true, false, false, false, true, true, true, false, false, false, true, true, true, false, false, false, true, true, false, false, false, false] rfl rfl (any_of HT_.out (by kernel_rfl)) (fun _ _ _ h => h) (Or.inl ⟨by rfl, ?_⟩) ?_ ?_
                              rotate_left
                              · intro w'
                                go_simp
                                with_reducible rfl
                              rotate_left
                              · simp only [Act.put, List.setIfInBounds_toArray, List.set_cons_zero, List.set_cons_succ, i64_w, i32_w]
                                rfl
                              refine pure_ (i := 4) (N := some 11) (v := ?_) (a' := ?_) #[true, true, true, true, true, true, true, false, false, false, true, true, false, false, false, true, true, true, false, false, false, true, true, true, false, false, false, true, true, true, false, false, false, true, true, false, false, false, false] rfl rfl (any_of HT_.out (by kernel_rfl)) (fun _ _ _ h => h) (Or.inl ⟨by rfl, ?_⟩) ?_ ?_
                              rotate_left
                              · intro w'
                                go_simp
                                with_reducible rfl
                              rotate_left
                              · simp only [Act.put, List.setIfInBounds_toArray, List.set_cons_zero, List.set_cons_succ, i64_w, i32_w]
                                rfl
                              refine one_ (i := 7) (N := some 14) #[true, true, true, true, true, true, true, true, false, false, true, true, false, false, false, true, true, true, false, false, false, true, true, true, false, false, false, true, true, true, false, false, false, true, true, false, false, false, false] rfl rfl (one_of HT_.out (by kernel_rfl)) (by decide) (fun K hK => ?_)
                              refine goes_ Tryd.func8 (by kernel_rfl) rfl #[.int .i64 a0_1] (by rfl) rfl rfl (by (try simp only [List.map_toArray, List.map_cons, List.map_nil]); first | done | rfl | (simp only [List.length_drop, List.length_take]; rfl)) ?_
                              with_reducible refine (spec_l1Num.calls k a0_1 t135 _ A7.out).mono ?_
                              rintro e w29 ⟨rfl, hb⟩
                              refine ⟨_, rfl, ?_⟩
                              have n0_ := Aside0.mk (blk_below (g := gb132) (o := .cells #[.int .i64 a0_0, .int .i64 a0_1, .int .i64 a0_2, .int .i64 a0_3, .int .i64 a0_4, .int .i64 a0_5, .int .i64 a0_6] 30 (0, 0)) (by (with_reducible repeat (first | refine blk_drewN ?_ _ | refine blk_drew ?_ | refine blk_alloc ?_ _)); exact BK132.out) hb)
                              have n1_ := Aside0.mk (below_step (by repeat (first | (with_reducible first | exact HB.out | apply below_alloc | apply pw_below_drewN | apply below_drew1 | refine below_set ?_ GE132.out) | exact HB.out)) hb)
                              clear BK132
                              clear HB
                              have BK132 := n0_
                              have HB := n1_
                              clear n0_ n1_
                              (try clear hb)
                              (try clear hb2)
                              (try clear hk)
                              (try clear hi)
                              refine hK.out _ _ ⟨(blk_cell BK132.out 0).trans rfl, (blk_cell BK132.out 1).trans rfl, (blk_cell BK132.out 2).trans rfl, (blk_cell BK132.out 3).trans rfl, (blk_cell BK132.out 4).trans rfl, (blk_cell BK132.out 5).trans rfl, (blk_cell BK132.out 6).trans rfl⟩ (fun hHeld => ?_)
                              clear hK K
                              refine norm_ (a' := ?_) ?_ ?_
                              rotate_left
                              · show Act.put _ (some 14) _ = _
                                simp only [Act.put, List.setIfInBounds_toArray, List.set_cons_zero, List.set_cons_succ, i64_w, i32_w]
                                rfl
                              refine pure_ (i := 8) (N := some 15) (v := ?_) (a' := ?_) #[true, true, true, true, true, true, true, true, true, false, true, true, false, false, false, true, true, true, false, false, false, true, true, true, false, false, false, true, true, true, false, false, false, true, true, false, false, false, false] rfl rfl (any_of HT_.out (by kernel_rfl)) (fun _ _ _ h => h) (Or.inl ⟨by rfl, ?_⟩) ?_ ?_
                              rotate_left
                              · intro w'
                                go_simp
                                with_reducible rfl
                              rotate_left
                              · simp only [Act.put, List.setIfInBounds_toArray, List.set_cons_zero, List.set_cons_succ, i64_w, i32_w]
                                rfl
                              refine pure_ (i := 9) (N := some 16) (v := ?_) (a' := ?_) #[true, true, true, true, true, true, true, true, true, true, true, true, false, false, false, true, true, true, false, false, false, true, true, true, false, false, false, true, true, true, false, false, false, true, true, false, false, false, false] rfl rfl (any_of HT_.out (by kernel_rfl)) (fun _ _ _ h => h) (Or.inl ⟨by rfl, ?_⟩) ?_ ?_
                              rotate_left
                              · intro w'
                                go_simp
                                with_reducible rfl
                              rotate_left
                              · simp only [Act.put, List.setIfInBounds_toArray, List.set_cons_zero, List.set_cons_succ, i64_w, i32_w]
                                rfl
                              refine one_ (i := 12) (N := some 19) #[true, true, true, true, true, true, true, true, true, true, true, true, true, false, false, true, true, true, false, false, false, true, true, true, false, false, false, true, true, true, false, false, false, true, true, false, false, false, false] rfl rfl (one_of HT_.out (by kernel_rfl)) (by decide) (fun K hK => ?_)
                              refine goes_ Tryd.func8 (by kernel_rfl) rfl #[.int .i64 a0_2] (by rfl) rfl rfl (by (try simp only [List.map_toArray, List.map_cons, List.map_nil]); first | done | rfl | (simp only [List.length_drop, List.length_take]; rfl)) ?_
                              with_reducible refine (spec_l1Num.calls k a0_2 t136 _ A10.out).mono ?_
                              rintro e w30 ⟨rfl, hb⟩
                              refine ⟨_, rfl, ?_⟩
                              have n0_ := Aside0.mk (blk_below (g := gb132) (o := .cells #[.int .i64 a0_0, .int .i64 a0_1, .int .i64 a0_2, .int .i64 a0_3, .int .i64 a0_4, .int .i64 a0_5, .int .i64 a0_6] 30 (0, 0)) (by (with_reducible repeat (first | refine blk_drewN ?_ _ | refine blk_drew ?_ | refine blk_alloc ?_ _)); exact BK132.out) hb)
                              have n1_ := Aside0.mk (below_step (by repeat (first | (with_reducible first | exact HB.out | apply below_alloc | apply pw_below_drewN | apply below_drew1 | refine below_set ?_ GE132.out) | exact HB.out)) hb)
                              clear BK132
                              clear HB
                              have BK132 := n0_
                              have HB := n1_
                              clear n0_ n1_
                              (try clear hb)
                              (try clear hb2)
                              (try clear hk)
                              (try clear hi)
                              refine hK.out _ _ ⟨(blk_cell BK132.out 0).trans rfl, (blk_cell BK132.out 1).trans rfl, (blk_cell BK132.out 2).trans rfl, (blk_cell BK132.out 3).trans rfl, (blk_cell BK132.out 4).trans rfl, (blk_cell BK132.out 5).trans rfl, (blk_cell BK132.out 6).trans rfl⟩ (fun hHeld => ?_)
                              clear hK K
                              refine norm_ (a' := ?_) ?_ ?_
                              rotate_left
                              · show Act.put _ (some 19) _ = _
                                simp only [Act.put, List.setIfInBounds_toArray, List.set_cons_zero, List.set_cons_succ, i64_w, i32_w]
                                rfl
                              refine pure_ (i := 13) (N := some 20) (v := ?_) (a' := ?_) #[true, true, true, true, true, true, true, true, true, true, true, true, true, true, false, true, true, true, false, false, false, true, true, true, false, false, false, true, true, true, false, false, false, true, true, false, false, false, false] rfl rfl (any_of HT_.out (by kernel_rfl)) (fun _ _ _ h => h) (Or.inl ⟨by rfl, ?_⟩) ?_ ?_
                              rotate_left
                              · intro w'
                                go_simp
                                with_reducible rfl
                              rotate_left
                              · simp only [Act.put, List.setIfInBounds_toArray, List.set_cons_zero, List.set_cons_succ, i64_w, i32_w]
                                rfl
                              refine pure_ (i := 14) (N := some 21) (v := ?_) (a' := ?_) #[true, true, true, true, true, true, true, true, true, true, true, true, true, true, true, true, true, true, false, false, false, true, true, true, false, false, false, true, true, true, false, false, false, true, true, false, false, false, false] rfl rfl (any_of HT_.out (by kernel_rfl)) (fun _ _ _ h => h) (Or.inl ⟨by rfl, ?_⟩) ?_ ?_
                              rotate_left
                              · intro w'
                                go_simp
                                with_reducible rfl
                              rotate_left
                              · simp only [Act.put, List.setIfInBounds_toArray, List.set_cons_zero, List.set_cons_succ, i64_w, i32_w]
                                rfl
                              refine one_ (i := 18) (N := some 25) #[true, true, true, true, true, true, true, true, true, true, true, true, true, true, true, true, true, true, true, false, false, true, true, true, false, false, false, true, true, true, false, false, false, true, true, false, false, false, false] rfl rfl (one_of HT_.out (by kernel_rfl)) (by decide) (fun K hK => ?_)
                              refine goes_ Tryd.func8 (by kernel_rfl) rfl #[.int .i64 a0_3] (by rfl) rfl rfl (by (try simp only [List.map_toArray, List.map_cons, List.map_nil]); first | done | rfl | (simp only [List.length_drop, List.length_take]; rfl)) ?_
                              with_reducible refine (spec_l1Num.calls k a0_3 t137 _ A13.out).mono ?_
                              rintro e w31 ⟨rfl, hb⟩
                              refine ⟨_, rfl, ?_⟩
                              have n0_ := Aside0.mk (blk_below (g := gb132) (o := .cells #[.int .i64 a0_0, .int .i64 a0_1, .int .i64 a0_2, .int .i64 a0_3, .int .i64 a0_4, .int .i64 a0_5, .int .i64 a0_6] 30 (0, 0)) (by (with_reducible repeat (first | refine blk_drewN ?_ _ | refine blk_drew ?_ | refine blk_alloc ?_ _)); exact BK132.out) hb)
                              have n1_ := Aside0.mk (below_step (by repeat (first | (with_reducible first | exact HB.out | apply below_alloc | apply pw_below_drewN | apply below_drew1 | refine below_set ?_ GE132.out) | exact HB.out)) hb)
                              clear BK132
                              clear HB
                              have BK132 := n0_
                              have HB := n1_
                              clear n0_ n1_
                              (try clear hb)
                              (try clear hb2)
                              (try clear hk)
                              (try clear hi)
                              refine hK.out _ _ ⟨(blk_cell BK132.out 0).trans rfl, (blk_cell BK132.out 1).trans rfl, (blk_cell BK132.out 2).trans rfl, (blk_cell BK132.out 3).trans rfl, (blk_cell BK132.out 4).trans rfl, (blk_cell BK132.out 5).trans rfl, (blk_cell BK132.out 6).trans rfl⟩ (fun hHeld => ?_)
                              clear hK K
                              refine norm_ (a' := ?_) ?_ ?_
                              rotate_left
                              · show Act.put _ (some 25) _ = _
                                simp only [Act.put, List.setIfInBounds_toArray, List.set_cons_zero, List.set_cons_succ, i64_w, i32_w]
                                rfl
                              refine pure_ (i := 19) (N := some 26) (v := ?_) (a' := ?_) #[true, true, true, true, true, true, true, true, true, true, true, true, true, true, true, true, true, true, true, true, false, true, true, true, false, false, false, true, true, true, false, false, false, true, true, false, false, false, false] rfl rfl (any_of HT_.out (by kernel_rfl)) (fun _ _ _ h => h) (Or.inl ⟨by rfl, ?_⟩) ?_ ?_
                              rotate_left
                              · intro w'
                                go_simp
                                with_reducible rfl
                              rotate_left
                              · simp only [Act.put, List.setIfInBounds_toArray, List.set_cons_zero, List.set_cons_succ, i64_w, i32_w]
                                rfl
                              refine pure_ (i := 20) (N := some 27) (v := ?_) (a' := ?_) #[true, true, true, true, true, true, true, true, true, true, true, true, true, true, true, true, true, true, true, true, true, true, true, true, false, false, false, true, true, true, false, false, false, true, true, false, false, false, false] rfl rfl (any_of HT_.out (by kernel_rfl)) (fun _ _ _ h => h) (Or.inl ⟨by rfl, ?_⟩) ?_ ?_
                              rotate_left
                              · intro w'
                                go_simp
                                with_reducible rfl
                              rotate_left
                              · simp only [Act.put, List.setIfInBounds_toArray, List.set_cons_zero, List.set_cons_succ, i64_w, i32_w]
                                rfl
                              refine one_ (i := 24) (N := some 31) #[true, true, true, true, true, true, true, true, true, true, true, true, true, true, true, true, true, true, true, true, true, true, true, true, true, false, false, true, true, true, false, false, false, true, true, false, false, false, false] rfl rfl (one_of HT_.out (by kernel_rfl)) (by decide) (fun K hK => ?_)
                              refine goes_ Tryd.func8 (by kernel_rfl) rfl #[.int .i64 a0_4] (by rfl) rfl rfl (by (try simp only [List.map_toArray, List.map_cons, List.map_nil]); first | done | rfl | (simp only [List.length_drop, List.length_take]; rfl)) ?_
                              with_reducible refine (spec_l1Num.calls k a0_4 t138 _ A16.out).mono ?_
                              rintro e w32 ⟨rfl, hb⟩
                              refine ⟨_, rfl, ?_⟩
                              have n0_ := Aside0.mk (blk_below (g := gb132) (o := .cells #[.int .i64 a0_0, .int .i64 a0_1, .int .i64 a0_2, .int .i64 a0_3, .int .i64 a0_4, .int .i64 a0_5, .int .i64 a0_6] 30 (0, 0)) (by (with_reducible repeat (first | refine blk_drewN ?_ _ | refine blk_drew ?_ | refine blk_alloc ?_ _)); exact BK132.out) hb)
                              have n1_ := Aside0.mk (below_step (by repeat (first | (with_reducible first | exact HB.out | apply below_alloc | apply pw_below_drewN | apply below_drew1 | refine below_set ?_ GE132.out) | exact HB.out)) hb)
                              clear BK132
                              clear HB
                              have BK132 := n0_
                              have HB := n1_
                              clear n0_ n1_
                              (try clear hb)
                              (try clear hb2)
                              (try clear hk)
                              (try clear hi)
                              refine hK.out _ _ ⟨(blk_cell BK132.out 0).trans rfl, (blk_cell BK132.out 1).trans rfl, (blk_cell BK132.out 2).trans rfl, (blk_cell BK132.out 3).trans rfl, (blk_cell BK132.out 4).trans rfl, (blk_cell BK132.out 5).trans rfl, (blk_cell BK132.out 6).trans rfl⟩ (fun hHeld => ?_)
                              clear hK K
                              refine norm_ (a' := ?_) ?_ ?_
                              rotate_left
                              · show Act.put _ (some 31) _ = _
                                simp only [Act.put, List.setIfInBounds_toArray, List.set_cons_zero, List.set_cons_succ, i64_w, i32_w]
                                rfl
                              refine pure_ (i := 25) (N := some 32) (v := ?_) (a' := ?_) #[true, true, true, true, true, true, true, true, true, true, true, true, true, true, true, true, true, true, true, true, true, true, true, true, true, true, false, true, true, true, false, false, false, true, true, false, false, false, false] rfl rfl (any_of HT_.out (by kernel_rfl)) (fun _ _ _ h => h) (Or.inl ⟨by rfl, ?_⟩) ?_ ?_
                              rotate_left
                              · intro w'
                                go_simp
                                with_reducible rfl
                              rotate_left
                              · simp only [Act.put, List.setIfInBounds_toArray, List.set_cons_zero, List.set_cons_succ, i64_w, i32_w]
                                rfl
                              refine pure_ (i := 26) (N := some 33) (v := ?_) (a' := ?_) #[true, true, true, true, true, true, true, true, true, true, true, true, true, true, true, true, true, true, true, true, true, true, true, true, true, true, true, true, true, true, false, false, false, true, true, false, false, false, false] rfl rfl (any_of HT_.out (by kernel_rfl)) (fun _ _ _ h => h) (Or.inl ⟨by rfl, ?_⟩) ?_ ?_
                              rotate_left
                              · intro w'
                                go_simp
                                with_reducible rfl
                              rotate_left
                              · simp only [Act.put, List.setIfInBounds_toArray, List.set_cons_zero, List.set_cons_succ, i64_w, i32_w]
                                rfl
                              refine one_ (i := 30) (N := some 37) #[true, true, true, true, true, true, true, true, true, true, true, true, true, true, true, true, true, true, true, true, true, true, true, true, true, true, true, true, true, true, true, false, false, true, true, false, false, false, false] rfl rfl (one_of HT_.out (by kernel_rfl)) (by decide) (fun K hK => ?_)
                              refine goes_ Tryd.func8 (by kernel_rfl) rfl #[.int .i64 a0_5] (by rfl) rfl rfl (by (try simp only [List.map_toArray, List.map_cons, List.map_nil]); first | done | rfl | (simp only [List.length_drop, List.length_take]; rfl)) ?_
                              with_reducible refine (spec_l1Num.calls k a0_5 t139 _ A19.out).mono ?_
                              rintro e w33 ⟨rfl, hb⟩
                              refine ⟨_, rfl, ?_⟩
                              have n0_ := Aside0.mk (blk_below (g := gb132) (o := .cells #[.int .i64 a0_0, .int .i64 a0_1, .int .i64 a0_2, .int .i64 a0_3, .int .i64 a0_4, .int .i64 a0_5, .int .i64 a0_6] 30 (0, 0)) (by (with_reducible repeat (first | refine blk_drewN ?_ _ | refine blk_drew ?_ | refine blk_alloc ?_ _)); exact BK132.out) hb)
                              have n1_ := Aside0.mk (below_step (by repeat (first | (with_reducible first | exact HB.out | apply below_alloc | apply pw_below_drewN | apply below_drew1 | refine below_set ?_ GE132.out) | exact HB.out)) hb)
                              clear BK132
                              clear HB
                              have BK132 := n0_
                              have HB := n1_
                              clear n0_ n1_
                              (try clear hb)
                              (try clear hb2)
                              (try clear hk)
                              (try clear hi)
                              refine hK.out _ _ ⟨(blk_cell BK132.out 0).trans rfl, (blk_cell BK132.out 1).trans rfl, (blk_cell BK132.out 2).trans rfl, (blk_cell BK132.out 3).trans rfl, (blk_cell BK132.out 4).trans rfl, (blk_cell BK132.out 5).trans rfl, (blk_cell BK132.out 6).trans rfl⟩ (fun hHeld => ?_)
                              clear hK K
                              refine norm_ (a' := ?_) ?_ ?_
                              rotate_left
                              · show Act.put _ (some 37) _ = _
                                simp only [Act.put, List.setIfInBounds_toArray, List.set_cons_zero, List.set_cons_succ, i64_w, i32_w]
                                rfl
                              refine pure_ (i := 31) (N := some 38) (v := ?_) (a' := ?_) #[true, true, true, true, true, true, true, true, true, true, true, true, true, true, true, true, true, true, true, true, true, true, true, true, true, true, true, true, true, true, true, true, false, true, true, false, false, false, false] rfl rfl (any_of HT_.out (by kernel_rfl)) (fun _ _ _ h => h) (Or.inl ⟨by rfl, ?_⟩) ?_ ?_
                              rotate_left
                              · intro w'
                                go_simp
                                with_reducible rfl
                              rotate_left
                              · simp only [Act.put, List.setIfInBounds_toArray, List.set_cons_zero, List.set_cons_succ, i64_w, i32_w]
                                rfl
                              refine pure_ (i := 32) (N := some 39) (v := ?_) (a' := ?_) #[true, true, true, true, true, true, true, true, true, true, true, true, true, true, true, true, true, true, true, true, true, true, true, true, true, true, true, true, true, true, true, true, true, true, true, false, false, false, false] rfl rfl (any_of HT_.out (by kernel_rfl)) (fun _ _ _ h => h) (Or.inl ⟨by rfl, ?_⟩) ?_ ?_
                              rotate_left
                              · intro w'
                                go_simp
                                with_reducible rfl
                              rotate_left
                              · simp only [Act.put, List.setIfInBounds_toArray, List.set_cons_zero, List.set_cons_succ, i64_w, i32_w]
                                rfl
                              refine one_ (i := 35) (N := some 42) #[true, true, true, true, true, true, true, true, true, true, true, true, true, true, true, true, true, true, true, true, true, true, true, true, true, true, true, true, true, true, true, true, true, true, true, true, false, false, false] rfl rfl (one_of HT_.out (by kernel_rfl)) (by decide) (fun K hK => ?_)
                              refine goes_ Tryd.func8 (by kernel_rfl) rfl #[.int .i64 a0_6] (by rfl) rfl rfl (by (try simp only [List.map_toArray, List.map_cons, List.map_nil]); first | done | rfl | (simp only [List.length_drop, List.length_take]; rfl)) ?_
                              with_reducible refine (spec_l1Num.calls k a0_6 t140 _ A22.out).mono ?_
                              rintro e w34 ⟨rfl, hb⟩
                              refine ⟨_, rfl, ?_⟩
                              have n0_ := Aside0.mk (blk_below (g := gb132) (o := .cells #[.int .i64 a0_0, .int .i64 a0_1, .int .i64 a0_2, .int .i64 a0_3, .int .i64 a0_4, .int .i64 a0_5, .int .i64 a0_6] 30 (0, 0)) (by (with_reducible repeat (first | refine blk_drewN ?_ _ | refine blk_drew ?_ | refine blk_alloc ?_ _)); exact BK132.out) hb)
                              have n1_ := Aside0.mk (below_step (by repeat (first | (with_reducible first | exact HB.out | apply below_alloc | apply pw_below_drewN | apply below_drew1 | refine below_set ?_ GE132.out) | exact HB.out)) hb)
                              clear BK132
                              clear HB
                              have BK132 := n0_
                              have HB := n1_
                              clear n0_ n1_
                              (try clear hb)
                              (try clear hb2)
                              (try clear hk)
                              (try clear hi)
                              refine hK.out _ _ ⟨(blk_cell BK132.out 0).trans rfl, (blk_cell BK132.out 1).trans rfl, (blk_cell BK132.out 2).trans rfl, (blk_cell BK132.out 3).trans rfl, (blk_cell BK132.out 4).trans rfl, (blk_cell BK132.out 5).trans rfl, (blk_cell BK132.out 6).trans rfl⟩ (fun hHeld => ?_)
                              clear hK K
                              refine norm_ (a' := ?_) ?_ ?_
                              rotate_left
                              · show Act.put _ (some 42) _ = _
                                simp only [Act.put, List.setIfInBounds_toArray, List.set_cons_zero, List.set_cons_succ, i64_w, i32_w]
                                rfl
                              refine pure_ (i := 36) (N := some 43) (v := ?_) (a' := ?_) #[true, true, true, true, true, true, true, true, true, true, true, true, true, true, true, true, true, true, true, true, true, true, true, true, true, true, true, true, true, true, true, true, true, true, true, true, true, false, false] rfl rfl (any_of HT_.out (by kernel_rfl)) (fun _ _ _ h => h) (Or.inl ⟨by rfl, ?_⟩) ?_ ?_
                              rotate_left
                              · intro w'
                                go_simp
                                with_reducible rfl
                              rotate_left
                              · simp only [Act.put, List.setIfInBounds_toArray, List.set_cons_zero, List.set_cons_succ, i64_w, i32_w]
                                rfl
                              refine pure_ (i := 37) (N := some 2) (v := ?_) (a' := ?_) #[true, true, true, true, true, true, true, true, true, true, true, true, true, true, true, true, true, true, true, true, true, true, true, true, true, true, true, true, true, true, true, true, true, true, true, true, true, true, false] rfl rfl (any_of HT_.out (by kernel_rfl)) (fun _ _ _ h => h) (Or.inl ⟨by rfl, ?_⟩) ?_ ?_
                              rotate_left
                              · intro w'
                                go_simp
                                with_reducible rfl
                              rotate_left
                              · simp only [Act.put, List.setIfInBounds_toArray, List.set_cons_zero, List.set_cons_succ, i64_w, i32_w]
                                rfl
                              refine pure_ (i := 38) (N := some 3) (v := ?_) (a' := ?_) #[true, true, true, true, true, true, true, true, true, true, true, true, true, true, true, true, true, true, true, true, true, true, true, true, true, true, true, true, true, true, true, true, true, true, true, true, true, true, true] rfl rfl (any_of HT_.out (by kernel_rfl)) (fun _ _ _ h => h) (Or.inl ⟨by rfl, ?_⟩) ?_ ?_
                              rotate_left
                              · intro w'
                                go_simp
                                with_reducible rfl
                              rotate_left
                              · simp only [Act.put, List.setIfInBounds_toArray, List.set_cons_zero, List.set_cons_succ, i64_w, i32_w]
                                rfl
                              refine done_ (done_of HT_.out (by kernel_rfl)) ?_
                              try go_wp2
                              go_ret2
                              exact ⟨by first | rfl | (simp [errW_none, errW_some] <;> rfl) | (simp [*, errW_none, errW_some] <;> rfl), by repeat (first | (with_reducible first | exact HB.out | apply below_alloc | apply pw_below_drewN | apply below_drew1 | refine below_set ?_ GE132.out) | exact HB.out)⟩
                            · rw [if_neg c23] at H
                              exact absurd H (by simp)
                          · rw [if_neg c21] at H
                            exact absurd H (by simp)
                        · rw [if_neg c20] at H
                          exact absurd H (by simp)
                      · rw [if_neg c18] at H
                        exact absurd H (by simp)
                    · rw [if_neg c17] at H
                      exact absurd H (by simp)
                  · rw [if_neg c15] at H
                    exact absurd H (by simp)
                · rw [if_neg c14] at H
                  exact absurd H (by simp)
              · rw [if_neg c12] at H
                exact absurd H (by simp)
            · rw [if_neg c11] at H
              exact absurd H (by simp)
          · rw [if_neg c9] at H
            exact absurd H (by simp)
        · rw [if_neg c8] at H
          exact absurd H (by simp)
      · rw [if_neg c6] at H
        exact absurd H (by simp)
    · rw [if_neg c5] at H
      exact absurd H (by simp)
  · replace c3 := Bool.eq_false_iff.mpr c3
    subst c3
    have H1 : (some ((⟨#[]⟩ : ByteArray), false)) = some (r1, r2) := by rw [if_neg (show ¬ (false = true) by decide)] at H; exact H
    clear H
    have H := H1
    clear H1
    simp only [Option.some.injEq, Prod.mk.injEq] at H
    obtain ⟨rfl, rfl⟩ := H
    go_enter Tryd.func4, Tryd.ntmps4
    go_wp2_with (first | ((with_reducible refine gate_dst (N := 1) rfl ?_); refine box_event ?hg (N := 1) ?hd (cs := #[.int .i64 a0_0, .int .i64 a0_1, .int .i64 a0_2, .int .i64 a0_3, .int .i64 a0_4, .int .i64 a0_5, .int .i64 a0_6]) (t := 30) ?hr ?_; (case hd => rfl); (case hg => rfl); (case hr => first | (go_simp; done) | (go_simp; rfl)); intro gb132 hg w35 hbox hb; have n0_ := Aside0.mk (below_step (by repeat (first | (with_reducible first | exact HB.out | apply below_alloc | apply pw_below_drewN | apply below_drew1) | exact HB.out)) hb); have n1_ := Aside0.mk (hbox); have n2_ := Aside0.mk ((by rw [hg]; exact (below_size (by repeat (first | (with_reducible first | exact HB.out | apply below_alloc | apply pw_below_drewN | apply below_drew1) | exact HB.out))) : w.heap.size ≤ gb132)); have n3_ := Aside0.mk ((by rw [hg]; exact (below_size (by repeat (first | (with_reducible first | exact HB.out | apply below_alloc | apply pw_below_drewN | apply below_drew1) | exact HB.out))) : w.heap.size ≤ gb132)); clear HB; have HB := n0_; have BK132 := n1_; have GW132 := n2_; have GE132 := n3_; clear n0_ n1_ n2_ n3_; clear hb hbox hg; have hcz36_0 : w35.cell? ⟨gb132, 0, none⟩ = some (.int .i64 a0_0) := (blk_cell BK132.out 0).trans rfl; have hcz36_1 : w35.cell? ⟨gb132, 1, none⟩ = some (.int .i64 a0_1) := (blk_cell BK132.out 1).trans rfl; have hcz36_2 : w35.cell? ⟨gb132, 2, none⟩ = some (.int .i64 a0_2) := (blk_cell BK132.out 2).trans rfl; have hcz36_3 : w35.cell? ⟨gb132, 3, none⟩ = some (.int .i64 a0_3) := (blk_cell BK132.out 3).trans rfl; have hcz36_4 : w35.cell? ⟨gb132, 4, none⟩ = some (.int .i64 a0_4) := (blk_cell BK132.out 4).trans rfl; have hcz36_5 : w35.cell? ⟨gb132, 5, none⟩ = some (.int .i64 a0_5) := (blk_cell BK132.out 5).trans rfl; have hcz36_6 : w35.cell? ⟨gb132, 6, none⟩ = some (.int .i64 a0_6) := (blk_cell BK132.out 6).trans rfl; have hfz36_0 := blk_frozen BK132.out 0; have hfz36_1 := blk_frozen BK132.out 1; have hfz36_2 := blk_frozen BK132.out 2; have hfz36_3 := blk_frozen BK132.out 3; have hfz36_4 := blk_frozen BK132.out 4; have hfz36_5 := blk_frozen BK132.out 5; have hfz36_6 := blk_frozen BK132.out 6) | ((with_reducible refine gate_callee (f := 7) rfl ?_); refine goesL_ (some 5) rfl rfl Tryd.func7 (by kernel_rfl) rfl #[.agg #[.int .i64 a0_0, .int .i64 a0_1, .int .i64 a0_2, .int .i64 a0_3, .int .i64 a0_4, .int .i64 a0_5, .int .i64 a0_6]] rfl (by (try simp only [List.map_toArray, List.map_cons, List.map_nil]); first | done | rfl | (simp only [List.length_drop, List.length_take]; rfl)) ?_; (with_reducible refine (spec_GoodIns.calls k a0_0 a0_1 a0_2 a0_3 a0_4 a0_5 a0_6 false _ A2.out).mono ?_); rintro e w37 ⟨rfl, hb⟩; refine ⟨_, rfl, ?_⟩; have n0_ := Aside0.mk (blk_below (g := gb132) (o := .cells #[.int .i64 a0_0, .int .i64 a0_1, .int .i64 a0_2, .int .i64 a0_3, .int .i64 a0_4, .int .i64 a0_5, .int .i64 a0_6] 30 (0, 0)) (by (with_reducible repeat (first | refine blk_drewN ?_ _ | refine blk_drew ?_ | refine blk_alloc ?_ _)); exact BK132.out) hb); have n1_ := Aside0.mk (below_step (by repeat (first | (with_reducible first | exact HB.out | apply below_alloc | apply pw_below_drewN | apply below_drew1 | refine below_set ?_ GE132.out) | exact HB.out)) hb); clear BK132; clear HB; have BK132 := n0_; have HB := n1_; clear n0_ n1_; (try clear hb); (try clear hb2); (try clear hk); (try clear hi)))
    go_ret2
    exact ⟨by first | rfl | (simp [errW_none, errW_some] <;> rfl) | (simp [*, errW_none, errW_some] <;> rfl), by repeat (first | (with_reducible first | exact HB.out | apply below_alloc | apply pw_below_drewN | apply below_drew1 | refine below_set ?_ GE132.out) | exact HB.out)⟩

/-! ### laws_toOperand: function 9 -/
def laws_toOperand.f (a0_0 : Int) (a0_1 : Int) (a0_2 : Int) : Option (Int × Int × Int) := some (a0_0, a0_1, a0_2)
set_option maxHeartbeats 8000000 in
set_option maxRecDepth 100000 in
theorem laws_toOperand.calls (a0_0 : Int) (a0_1 : Int) (a0_2 : Int) (r1 : Int) (r2 : Int) (r3 : Int) (w : World) (h : laws_toOperand.f a0_0 a0_1 a0_2 = some (r1, r2, r3)) :
    Calls Tryd.prog 9 #[.agg #[.int .i64 a0_0, .int .i64 a0_1, .int .i64 a0_2]] w fun e w' => e = .returned (.agg #[.int .i64 r1, .int .i64 r2, .int .i64 r3]) ∧ Below w.heap.size w w' := by
  have hu23 := Tryd.underlying23
  have hu28 := Tryd.underlying28
  have HB := Aside0.mk (Below.refl w.heap.size w)
  have H : (some (a0_0, a0_1, a0_2)) = some (r1, r2, r3) := h
  clear h
  simp only [Option.some.injEq, Prod.mk.injEq] at H
  obtain ⟨rfl, rfl, rfl⟩ := H
  go_enter Tryd.func9, Tryd.ntmps9
  go_wp2_with (first | ((with_reducible refine gate_dst (N := 1) rfl ?_); refine box_event ?hg (N := 1) ?hd (cs := #[.int .i64 a0_0, .int .i64 a0_1, .int .i64 a0_2]) (t := 23) ?hr ?_; (case hd => rfl); (case hg => rfl); (case hr => first | (go_simp; done) | (go_simp; rfl)); intro gb141 hg w2 hbox hb; have n0_ := Aside0.mk (below_step (by repeat (first | (with_reducible first | exact HB.out | apply below_alloc | apply pw_below_drewN | apply below_drew1) | exact HB.out)) hb); have n1_ := Aside0.mk (hbox); have n2_ := Aside0.mk ((by rw [hg]; exact (below_size (by repeat (first | (with_reducible first | exact HB.out | apply below_alloc | apply pw_below_drewN | apply below_drew1) | exact HB.out))) : w.heap.size ≤ gb141)); have n3_ := Aside0.mk ((by rw [hg]; exact (below_size (by repeat (first | (with_reducible first | exact HB.out | apply below_alloc | apply pw_below_drewN | apply below_drew1) | exact HB.out))) : w.heap.size ≤ gb141)); clear HB; have HB := n0_; have BK141 := n1_; have GW141 := n2_; have GE141 := n3_; clear n0_ n1_ n2_ n3_; clear hb hbox hg) | ((with_reducible refine gate_dst (N := 2) rfl ?_); refine box_event ?hg (N := 2) ?hd (cs := #[.int .i64 0, .int .i64 0, .int .i64 0]) (t := 28) ?hr ?_; (case hd => rfl); (case hg => rfl); (case hr => first | (go_simp; done) | (go_simp; rfl)); intro gb142 hg w3 hbox hb; have n0_ := Aside0.mk (blk_below (g := gb141) (o := .cells #[.int .i64 a0_0, .int .i64 a0_1, .int .i64 a0_2] 23 (0, 0)) (by (with_reducible repeat (first | refine blk_drewN ?_ _ | refine blk_drew ?_ | refine blk_alloc ?_ _)); exact BK141.out) hb); have n1_ := Aside0.mk (below_step (by repeat (first | (with_reducible first | exact HB.out | apply below_alloc | apply pw_below_drewN | apply below_drew1 | refine below_set ?_ GE141.out) | exact HB.out)) hb); have n2_ := Aside0.mk (hbox); have n3_ := Aside0.mk ((by rw [hg]; exact (below_size (by repeat (first | (with_reducible first | exact HB.out | apply below_alloc | apply pw_below_drewN | apply below_drew1 | refine below_set ?_ GE141.out) | exact HB.out))) : w.heap.size ≤ gb142)); have n4_ := Aside0.mk ((by rw [hg]; exact (below_size (by repeat (first | (with_reducible first | exact HB.out | apply below_alloc | apply pw_below_drewN | apply below_drew1 | refine below_set ?_ GE141.out) | exact HB.out))) : w.heap.size ≤ gb142)); have n5_ := Aside0.mk ((by rw [hg]; exact Nat.ne_of_lt (blk_lt (g := gb141) (o := .cells #[.int .i64 a0_0, .int .i64 a0_1, .int .i64 a0_2] 23 (0, 0)) (by (with_reducible repeat (first | refine blk_drewN ?_ _ | refine blk_drew ?_ | refine blk_alloc ?_ _)); exact BK141.out)) : gb141 ≠ gb142)); have n6_ := Aside0.mk ((by rw [hg]; exact Nat.ne_of_gt (blk_lt (g := gb141) (o := .cells #[.int .i64 a0_0, .int .i64 a0_1, .int .i64 a0_2] 23 (0, 0)) (by (with_reducible repeat (first | refine blk_drewN ?_ _ | refine blk_drew ?_ | refine blk_alloc ?_ _)); exact BK141.out)) : gb142 ≠ gb141)); clear BK141; clear HB; have BK141 := n0_; have HB := n1_; have BK142 := n2_; have GW142 := n3_; have GE142 := n4_; have NB141_142 := n5_; have NB142_141 := n6_; clear n0_ n1_ n2_ n3_ n4_ n5_ n6_; clear hb hbox hg) | ((with_reducible refine gate_dst (N := 3) rfl ?_); refine box_event ?hg (N := 3) ?hd (cs := #[.int .i64 0, .int .i64 0, .int .i64 0]) (t := 28) ?hr ?_; (case hd => rfl); (case hg => rfl); (case hr => first | (go_simp; done) | (go_simp; rfl)); intro gb143 hg w4 hbox hb; have n0_ := Aside0.mk (blk_below (g := gb141) (o := .cells #[.int .i64 a0_0, .int .i64 a0_1, .int .i64 a0_2] 23 (0, 0)) (by (with_reducible repeat (first | refine blk_drewN ?_ _ | refine blk_drew ?_ | refine blk_alloc ?_ _)); exact BK141.out) hb); have n1_ := Aside0.mk (blk_below (g := gb142) (o := .cells #[.int .i64 0, .int .i64 0, .int .i64 0] 28 (0, 0)) (by (with_reducible repeat (first | refine blk_drewN ?_ _ | refine blk_drew ?_ | refine blk_alloc ?_ _)); exact BK142.out) hb); have n2_ := Aside0.mk (below_step (by repeat (first | (with_reducible first | exact HB.out | apply below_alloc | apply pw_below_drewN | apply below_drew1 | refine below_set ?_ GE141.out | refine below_set ?_ GE142.out) | exact HB.out)) hb); have n3_ := Aside0.mk (hbox); have n4_ := Aside0.mk ((by rw [hg]; exact (below_size (by repeat (first | (with_reducible first | exact HB.out | apply below_alloc | apply pw_below_drewN | apply below_drew1 | refine below_set ?_ GE141.out | refine below_set ?_ GE142.out) | exact HB.out))) : w.heap.size ≤ gb143)); have n5_ := Aside0.mk ((by rw [hg]; exact (below_size (by repeat (first | (with_reducible first | exact HB.out | apply below_alloc | apply pw_below_drewN | apply below_drew1 | refine below_set ?_ GE141.out | refine below_set ?_ GE142.out) | exact HB.out))) : w.heap.size ≤ gb143)); have n6_ := Aside0.mk ((by rw [hg]; exact Nat.ne_of_lt (blk_lt (g := gb141) (o := .cells #[.int .i64 a0_0, .int .i64 a0_1, .int .i64 a0_2] 23 (0, 0)) (by (with_reducible repeat (first | refine blk_drewN ?_ _ | refine blk_drew ?_ | refine blk_alloc ?_ _)); exact BK141.out)) : gb141 ≠ gb143)); have n7_ := Aside0.mk ((by rw [hg]; exact Nat.ne_of_gt (blk_lt (g := gb141) (o := .cells #[.int .i64 a0_0, .int .i64 a0_1, .int .i64 a0_2] 23 (0, 0)) (by (with_reducible repeat (first | refine blk_drewN ?_ _ | refine blk_drew ?_ | refine blk_alloc ?_ _)); exact BK141.out)) : gb143 ≠ gb141)); have n8_ := Aside0.mk ((by rw [hg]; exact Nat.ne_of_lt (blk_lt (g := gb142) (o := .cells #[.int .i64 0, .int .i64 0, .int .i64 0] 28 (0, 0)) (by (with_reducible repeat (first | refine blk_drewN ?_ _ | refine blk_drew ?_ | refine blk_alloc ?_ _)); exact BK142.out)) : gb142 ≠ gb143)); have n9_ := Aside0.mk ((by rw [hg]; exact Nat.ne_of_gt (blk_lt (g := gb142) (o := .cells #[.int .i64 0, .int .i64 0, .int .i64 0] 28 (0, 0)) (by (with_reducible repeat (first | refine blk_drewN ?_ _ | refine blk_drew ?_ | refine blk_alloc ?_ _)); exact BK142.out)) : gb143 ≠ gb142)); clear BK141; clear BK142; clear HB; have BK141 := n0_; have BK142 := n1_; have HB := n2_; have BK143 := n3_; have GW143 := n4_; have GE143 := n5_; have NB141_143 := n6_; have NB143_141 := n7_; have NB142_143 := n8_; have NB143_142 := n9_; clear n0_ n1_ n2_ n3_ n4_ n5_ n6_ n7_ n8_ n9_; clear hb hbox hg; have hnb5 := NB141_142.out; have hnc5 := NB142_141.out; have hnb6 := NB141_143.out; have hnc6 := NB143_141.out; have hcz7_0 : w4.cell? ⟨gb141, 0, none⟩ = some (.int .i64 a0_0) := (blk_cell BK141.out 0).trans rfl; have hcz7_1 : w4.cell? ⟨gb141, 1, none⟩ = some (.int .i64 a0_1) := (blk_cell BK141.out 1).trans rfl; have hcz7_2 : w4.cell? ⟨gb141, 2, none⟩ = some (.int .i64 a0_2) := (blk_cell BK141.out 2).trans rfl; have hfz7_0 := blk_frozen BK141.out 0; have hfz7_1 := blk_frozen BK141.out 1; have hfz7_2 := blk_frozen BK141.out 2; have hnb8 := NB143_142.out; have hnc8 := NB142_143.out; have hcz9_0 : w4.cell? ⟨gb143, 0, none⟩ = some (.int .i64 0) := (blk_cell BK143.out 0).trans rfl; have hcz9_1 : w4.cell? ⟨gb143, 1, none⟩ = some (.int .i64 0) := (blk_cell BK143.out 1).trans rfl; have hcz9_2 : w4.cell? ⟨gb143, 2, none⟩ = some (.int .i64 0) := (blk_cell BK143.out 2).trans rfl; have hfz9_0 := blk_frozen BK143.out 0; have hfz9_1 := blk_frozen BK143.out 1; have hfz9_2 := blk_frozen BK143.out 2; have hcz10_0 : w4.cell? ⟨gb142, 0, none⟩ = some (.int .i64 0) := (blk_cell BK142.out 0).trans rfl; have hcz10_1 : w4.cell? ⟨gb142, 1, none⟩ = some (.int .i64 0) := (blk_cell BK142.out 1).trans rfl; have hcz10_2 : w4.cell? ⟨gb142, 2, none⟩ = some (.int .i64 0) := (blk_cell BK142.out 2).trans rfl; have hfz10_0 := blk_frozen BK142.out 0; have hfz10_1 := blk_frozen BK142.out 1; have hfz10_2 := blk_frozen BK142.out 2))
  refine bodyPost_ret (results_cell_row rfl _ _ gb142 28 #[.int .i64 a0_0, .int .i64 a0_1, .int .i64 a0_2] (0, 0) _ rfl (by (with_reducible repeat (first | refine blk_drewN ?_ _ | refine blk_drew ?_ | refine blk_alloc ?_ _)); refine blk_put (cs := #[.int .i64 a0_0, .int .i64 a0_1, .int .i64 0]) ?_ 2 _ rfl; (with_reducible repeat (first | refine blk_drewN ?_ _ | refine blk_drew ?_ | refine blk_alloc ?_ _)); refine blk_put (cs := #[.int .i64 a0_0, .int .i64 0, .int .i64 0]) ?_ 1 _ rfl; (with_reducible repeat (first | refine blk_drewN ?_ _ | refine blk_drew ?_ | refine blk_alloc ?_ _)); refine blk_put (cs := #[.int .i64 0, .int .i64 0, .int .i64 0]) ?_ 0 _ rfl; (with_reducible repeat (first | refine blk_drewN ?_ _ | refine blk_drew ?_ | refine blk_alloc ?_ _)); refine blk_far ?_ NB142_143.out _; (with_reducible repeat (first | refine blk_drewN ?_ _ | refine blk_drew ?_ | refine blk_alloc ?_ _)); refine blk_far ?_ NB142_143.out _; (with_reducible repeat (first | refine blk_drewN ?_ _ | refine blk_drew ?_ | refine blk_alloc ?_ _)); refine blk_far ?_ NB142_143.out _; (with_reducible repeat (first | refine blk_drewN ?_ _ | refine blk_drew ?_ | refine blk_alloc ?_ _)); exact BK142.out) Tryd.underlying28 rfl (by kernel_rfl)) rfl ?_
  exact ⟨by first | rfl | (simp [errW_none, errW_some] <;> rfl) | (simp [*, errW_none, errW_some] <;> rfl), by repeat (first | (with_reducible first | exact HB.out | apply below_alloc | apply pw_below_drewN | apply below_drew1 | refine below_set ?_ GE141.out | refine below_set ?_ GE142.out | refine below_set ?_ GE143.out) | exact HB.out)⟩

/-! ### laws_toIns: function 5 -/
def laws_toIns.f (a0_0 : Int) (a0_1 : Int) (a0_2 : Int) (a0_3 : Int) (a0_4 : Int) (a0_5 : Int) (a0_6 : Int) : Option (Int × Int × Int × Int × Int × Int × Int) := (laws_toOperand.f a0_3 a0_4 a0_5).bind fun bt147 => (some (a0_0, a0_1, a0_2, bt147.1, bt147.2.1, bt147.2.2, a0_6))
set_option maxHeartbeats 8000000 in
set_option maxRecDepth 100000 in
theorem laws_toIns.calls (a0_0 : Int) (a0_1 : Int) (a0_2 : Int) (a0_3 : Int) (a0_4 : Int) (a0_5 : Int) (a0_6 : Int) (r1 : Int) (r2 : Int) (r3 : Int) (r4 : Int) (r5 : Int) (r6 : Int) (r7 : Int) (w : World) (h : laws_toIns.f a0_0 a0_1 a0_2 a0_3 a0_4 a0_5 a0_6 = some (r1, r2, r3, r4, r5, r6, r7)) :
    Calls Tryd.prog 5 #[.agg #[.int .i64 a0_0, .int .i64 a0_1, .int .i64 a0_2, .int .i64 a0_3, .int .i64 a0_4, .int .i64 a0_5, .int .i64 a0_6]] w fun e w' => e = .returned (.agg #[.int .i64 r1, .int .i64 r2, .int .i64 r3, .int .i64 r4, .int .i64 r5, .int .i64 r6, .int .i64 r7]) ∧ Below w.heap.size w w' := by
  have hu25 := Tryd.underlying25
  have hu30 := Tryd.underlying30
  have hu23 := Tryd.underlying23
  have hu28 := Tryd.underlying28
  have HB := Aside0.mk (Below.refl w.heap.size w)
  have H : ((laws_toOperand.f a0_3 a0_4 a0_5).bind fun bt147 => (some (a0_0, a0_1, a0_2, bt147.1, bt147.2.1, bt147.2.2, a0_6))) = some (r1, r2, r3, r4, r5, r6, r7) := h
  clear h
  replace H := Option.bind_eq_some_iff.mp H
  obtain ⟨⟨t147, t148, t149⟩, A20, H⟩ := H
  replace H : (some (a0_0, a0_1, a0_2, t147, t148, t149, a0_6)) = some (r1, r2, r3, r4, r5, r6, r7) := H
  have A2 := Aside0.mk A20
  clear A20
  simp only [Option.some.injEq, Prod.mk.injEq] at H
  obtain ⟨rfl, rfl, rfl, rfl, rfl, rfl, rfl⟩ := H
  go_enter Tryd.func5, Tryd.ntmps5
  go_wp2_with (first | ((with_reducible refine gate_dst (N := 1) rfl ?_); refine box_event ?hg (N := 1) ?hd (cs := #[.int .i64 a0_0, .int .i64 a0_1, .int .i64 a0_2, .int .i64 a0_3, .int .i64 a0_4, .int .i64 a0_5, .int .i64 a0_6]) (t := 25) ?hr ?_; (case hd => rfl); (case hg => rfl); (case hr => first | (go_simp; done) | (go_simp; rfl)); intro gb144 hg w3 hbox hb; have n0_ := Aside0.mk (below_step (by repeat (first | (with_reducible first | exact HB.out | apply below_alloc | apply pw_below_drewN | apply below_drew1) | exact HB.out)) hb); have n1_ := Aside0.mk (hbox); have n2_ := Aside0.mk ((by rw [hg]; exact (below_size (by repeat (first | (with_reducible first | exact HB.out | apply below_alloc | apply pw_below_drewN | apply below_drew1) | exact HB.out))) : w.heap.size ≤ gb144)); have n3_ := Aside0.mk ((by rw [hg]; exact (below_size (by repeat (first | (with_reducible first | exact HB.out | apply below_alloc | apply pw_below_drewN | apply below_drew1) | exact HB.out))) : w.heap.size ≤ gb144)); clear HB; have HB := n0_; have BK144 := n1_; have GW144 := n2_; have GE144 := n3_; clear n0_ n1_ n2_ n3_; clear hb hbox hg) | ((with_reducible refine gate_dst (N := 2) rfl ?_); refine box_event ?hg (N := 2) ?hd (cs := #[.int .i64 0, .int .i64 0, .int .i64 0, .int .i64 0, .int .i64 0, .int .i64 0, .int .i64 0]) (t := 30) ?hr ?_; (case hd => rfl); (case hg => rfl); (case hr => first | (go_simp; done) | (go_simp; rfl)); intro gb145 hg w4 hbox hb; have n0_ := Aside0.mk (blk_below (g := gb144) (o := .cells #[.int .i64 a0_0, .int .i64 a0_1, .int .i64 a0_2, .int .i64 a0_3, .int .i64 a0_4, .int .i64 a0_5, .int .i64 a0_6] 25 (0, 0)) (by (with_reducible repeat (first | refine blk_drewN ?_ _ | refine blk_drew ?_ | refine blk_alloc ?_ _)); exact BK144.out) hb); have n1_ := Aside0.mk (below_step (by repeat (first | (with_reducible first | exact HB.out | apply below_alloc | apply pw_below_drewN | apply below_drew1 | refine below_set ?_ GE144.out) | exact HB.out)) hb); have n2_ := Aside0.mk (hbox); have n3_ := Aside0.mk ((by rw [hg]; exact (below_size (by repeat (first | (with_reducible first | exact HB.out | apply below_alloc | apply pw_below_drewN | apply below_drew1 | refine below_set ?_ GE144.out) | exact HB.out))) : w.heap.size ≤ gb145)); have n4_ := Aside0.mk ((by rw [hg]; exact (below_size (by repeat (first | (with_reducible first | exact HB.out | apply below_alloc | apply pw_below_drewN | apply below_drew1 | refine below_set ?_ GE144.out) | exact HB.out))) : w.heap.size ≤ gb145)); have n5_ := Aside0.mk ((by rw [hg]; exact Nat.ne_of_lt (blk_lt (g := gb144) (o := .cells #[.int .i64 a0_0, .int .i64 a0_1, .int .i64 a0_2, .int .i64 a0_3, .int .i64 a0_4, .int .i64 a0_5, .int .i64 a0_6] 25 (0, 0)) (by (with_reducible repeat (first | refine blk_drewN ?_ _ | refine blk_drew ?_ | refine blk_alloc ?_ _)); exact BK144.out)) : gb144 ≠ gb145)); have n6_ := Aside0.mk ((by rw [hg]; exact Nat.ne_of_gt (blk_lt (g := gb144) (o := .cells #[.int .i64 a0_0, .int .i64 a0_1, .int .i64 a0_2, .int .i64 a0_3, .int .i64 a0_4, .int .i64 a0_5, .int .i64 a0_6] 25 (0, 0)) (by (with_reducible repeat (first | refine blk_drewN ?_ _ | refine blk_drew ?_ | refine blk_alloc ?_ _)); exact BK144.out)) : gb145 ≠ gb144)); clear BK144; clear HB; have BK144 := n0_; have HB := n1_; have BK145 := n2_; have GW145 := n3_; have GE145 := n4_; have NB144_145 := n5_; have NB145_144 := n6_; clear n0_ n1_ n2_ n3_ n4_ n5_ n6_; clear hb hbox hg) | ((with_reducible refine gate_dst (N := 3) rfl ?_); refine box_event ?hg (N := 3) ?hd (cs := #[.int .i64 0, .int .i64 0, .int .i64 0, .int .i64 0, .int .i64 0, .int .i64 0, .int .i64 0]) (t := 30) ?hr ?_; (case hd => rfl); (case hg => rfl); (case hr => first | (go_simp; done) | (go_simp; rfl)); intro gb146 hg w5 hbox hb; have n0_ := Aside0.mk (blk_below (g := gb144) (o := .cells #[.int .i64 a0_0, .int .i64 a0_1, .int .i64 a0_2, .int .i64 a0_3, .int .i64 a0_4, .int .i64 a0_5, .int .i64 a0_6] 25 (0, 0)) (by (with_reducible repeat (first | refine blk_drewN ?_ _ | refine blk_drew ?_ | refine blk_alloc ?_ _)); exact BK144.out) hb); have n1_ := Aside0.mk (blk_below (g := gb145) (o := .cells #[.int .i64 0, .int .i64 0, .int .i64 0, .int .i64 0, .int .i64 0, .int .i64 0, .int .i64 0] 30 (0, 0)) (by (with_reducible repeat (first | refine blk_drewN ?_ _ | refine blk_drew ?_ | refine blk_alloc ?_ _)); exact BK145.out) hb); have n2_ := Aside0.mk (below_step (by repeat (first | (with_reducible first | exact HB.out | apply below_alloc | apply pw_below_drewN | apply below_drew1 | refine below_set ?_ GE144.out | refine below_set ?_ GE145.out) | exact HB.out)) hb); have n3_ := Aside0.mk (hbox); have n4_ := Aside0.mk ((by rw [hg]; exact (below_size (by repeat (first | (with_reducible first | exact HB.out | apply below_alloc | apply pw_below_drewN | apply below_drew1 | refine below_set ?_ GE144.out | refine below_set ?_ GE145.out) | exact HB.out))) : w.heap.size ≤ gb146)); have n5_ := Aside0.mk ((by rw [hg]; exact (below_size (by repeat (first | (with_reducible first | exact HB.out | apply below_alloc | apply pw_below_drewN | apply below_drew1 | refine below_set ?_ GE144.out | refine below_set ?_ GE145.out) | exact HB.out))) : w.heap.size ≤ gb146)); have n6_ := Aside0.mk ((by rw [hg]; exact Nat.ne_of_lt (blk_lt (g := gb144) (o := .cells #[.int .i64 a0_0, .int .i64 a0_1, .int .i64 a0_2, .int .i64 a0_3, .int .i64 a0_4, .int .i64 a0_5, .int .i64 a0_6] 25 (0, 0)) (by (with_reducible repeat (first | refine blk_drewN ?_ _ | refine blk_drew ?_ | refine blk_alloc ?_ _)); exact BK144.out)) : gb144 ≠ gb146)); have n7_ := Aside0.mk ((by rw [hg]; exact Nat.ne_of_gt (blk_lt (g := gb144) (o := .cells #[.int .i64 a0_0, .int .i64 a0_1, .int .i64 a0_2, .int .i64 a0_3, .int .i64 a0_4, .int .i64 a0_5, .int .i64 a0_6] 25 (0, 0)) (by (with_reducible repeat (first | refine blk_drewN ?_ _ | refine blk_drew ?_ | refine blk_alloc ?_ _)); exact BK144.out)) : gb146 ≠ gb144)); have n8_ := Aside0.mk ((by rw [hg]; exact Nat.ne_of_lt (blk_lt (g := gb145) (o := .cells #[.int .i64 0, .int .i64 0, .int .i64 0, .int .i64 0, .int .i64 0, .int .i64 0, .int .i64 0] 30 (0, 0)) (by (with_reducible repeat (first | refine blk_drewN ?_ _ | refine blk_drew ?_ | refine blk_alloc ?_ _)); exact BK145.out)) : gb145 ≠ gb146)); have n9_ := Aside0.mk ((by rw [hg]; exact Nat.ne_of_gt (blk_lt (g := gb145) (o := .cells #[.int .i64 0, .int .i64 0, .int .i64 0, .int .i64 0, .int .i64 0, .int .i64 0, .int .i64 0] 30 (0, 0)) (by (with_reducible repeat (first | refine blk_drewN ?_ _ | refine blk_drew ?_ | refine blk_alloc ?_ _)); exact BK145.out)) : gb146 ≠ gb145)); clear BK144; clear BK145; clear HB; have BK144 := n0_; have BK145 := n1_; have HB := n2_; have BK146 := n3_; have GW146 := n4_; have GE146 := n5_; have NB144_146 := n6_; have NB146_144 := n7_; have NB145_146 := n8_; have NB146_145 := n9_; clear n0_ n1_ n2_ n3_ n4_ n5_ n6_ n7_ n8_ n9_; clear hb hbox hg; have hnb6 := NB144_145.out; have hnc6 := NB145_144.out; have hnb7 := NB144_146.out; have hnc7 := NB146_144.out; have hcz8_0 : w5.cell? ⟨gb144, 0, none⟩ = some (.int .i64 a0_0) := (blk_cell BK144.out 0).trans rfl; have hcz8_1 : w5.cell? ⟨gb144, 1, none⟩ = some (.int .i64 a0_1) := (blk_cell BK144.out 1).trans rfl; have hcz8_2 : w5.cell? ⟨gb144, 2, none⟩ = some (.int .i64 a0_2) := (blk_cell BK144.out 2).trans rfl; have hcz8_3 : w5.cell? ⟨gb144, 3, none⟩ = some (.int .i64 a0_3) := (blk_cell BK144.out 3).trans rfl; have hcz8_4 : w5.cell? ⟨gb144, 4, none⟩ = some (.int .i64 a0_4) := (blk_cell BK144.out 4).trans rfl; have hcz8_5 : w5.cell? ⟨gb144, 5, none⟩ = some (.int .i64 a0_5) := (blk_cell BK144.out 5).trans rfl; have hcz8_6 : w5.cell? ⟨gb144, 6, none⟩ = some (.int .i64 a0_6) := (blk_cell BK144.out 6).trans rfl; have hfz8_0 := blk_frozen BK144.out 0; have hfz8_1 := blk_frozen BK144.out 1; have hfz8_2 := blk_frozen BK144.out 2; have hfz8_3 := blk_frozen BK144.out 3; have hfz8_4 := blk_frozen BK144.out 4; have hfz8_5 := blk_frozen BK144.out 5; have hfz8_6 := blk_frozen BK144.out 6; have hnb9 := NB146_145.out; have hnc9 := NB145_146.out; have hcz10_0 : w5.cell? ⟨gb146, 0, none⟩ = some (.int .i64 0) := (blk_cell BK146.out 0).trans rfl; have hcz10_1 : w5.cell? ⟨gb146, 1, none⟩ = some (.int .i64 0) := (blk_cell BK146.out 1).trans rfl; have hcz10_2 : w5.cell? ⟨gb146, 2, none⟩ = some (.int .i64 0) := (blk_cell BK146.out 2).trans rfl; have hcz10_3 : w5.cell? ⟨gb146, 3, none⟩ = some (.int .i64 0) := (blk_cell BK146.out 3).trans rfl; have hcz10_4 : w5.cell? ⟨gb146, 4, none⟩ = some (.int .i64 0) := (blk_cell BK146.out 4).trans rfl; have hcz10_5 : w5.cell? ⟨gb146, 5, none⟩ = some (.int .i64 0) := (blk_cell BK146.out 5).trans rfl; have hcz10_6 : w5.cell? ⟨gb146, 6, none⟩ = some (.int .i64 0) := (blk_cell BK146.out 6).trans rfl; have hfz10_0 := blk_frozen BK146.out 0; have hfz10_1 := blk_frozen BK146.out 1; have hfz10_2 := blk_frozen BK146.out 2; have hfz10_3 := blk_frozen BK146.out 3; have hfz10_4 := blk_frozen BK146.out 4; have hfz10_5 := blk_frozen BK146.out 5; have hfz10_6 := blk_frozen BK146.out 6) | ((with_reducible refine gate_callee (f := 9) rfl ?_); refine goesL_ (some 15) rfl rfl Tryd.func9 (by kernel_rfl) rfl #[.agg #[.int .i64 a0_3, .int .i64 a0_4, .int .i64 a0_5]] rfl (by (try simp only [List.map_toArray, List.map_cons, List.map_nil]); first | done | rfl | (simp only [List.length_drop, List.length_take]; rfl)) ?_; (with_reducible refine (laws_toOperand.calls a0_3 a0_4 a0_5 t147 t148 t149 _ A2.out).mono ?_); rintro e w11 ⟨rfl, hb⟩; refine ⟨_, rfl, ?_⟩; have n0_ := Aside0.mk (blk_below (g := gb144) (o := .cells #[.int .i64 a0_0, .int .i64 a0_1, .int .i64 a0_2, .int .i64 a0_3, .int .i64 a0_4, .int .i64 a0_5, .int .i64 a0_6] 25 (0, 0)) (by (with_reducible repeat (first | refine blk_drewN ?_ _ | refine blk_drew ?_ | refine blk_alloc ?_ _)); refine blk_far ?_ NB144_146.out _; (with_reducible repeat (first | refine blk_drewN ?_ _ | refine blk_drew ?_ | refine blk_alloc ?_ _)); refine blk_far ?_ NB144_146.out _; (with_reducible repeat (first | refine blk_drewN ?_ _ | refine blk_drew ?_ | refine blk_alloc ?_ _)); refine blk_far ?_ NB144_146.out _; (with_reducible repeat (first | refine blk_drewN ?_ _ | refine blk_drew ?_ | refine blk_alloc ?_ _)); exact BK144.out) hb); have n1_ := Aside0.mk (blk_below (g := gb145) (o := .cells #[.int .i64 0, .int .i64 0, .int .i64 0, .int .i64 0, .int .i64 0, .int .i64 0, .int .i64 0] 30 (0, 0)) (by (with_reducible repeat (first | refine blk_drewN ?_ _ | refine blk_drew ?_ | refine blk_alloc ?_ _)); refine blk_far ?_ NB145_146.out _; (with_reducible repeat (first | refine blk_drewN ?_ _ | refine blk_drew ?_ | refine blk_alloc ?_ _)); refine blk_far ?_ NB145_146.out _; (with_reducible repeat (first | refine blk_drewN ?_ _ | refine blk_drew ?_ | refine blk_alloc ?_ _)); refine blk_far ?_ NB145_146.out _; (with_reducible repeat (first | refine blk_drewN ?_ _ | refine blk_drew ?_ | refine blk_alloc ?_ _)); exact BK145.out) hb); have n2_ := Aside0.mk (blk_below (g := gb146) (o := .cells #[.int .i64 a0_0, .int .i64 a0_1, .int .i64 a0_2, .int .i64 0, .int .i64 0, .int .i64 0, .int .i64 0] 30 (0, 0)) (by (with_reducible repeat (first | refine blk_drewN ?_ _ | refine blk_drew ?_ | refine blk_alloc ?_ _)); refine blk_put (cs := #[.int .i64 a0_0, .int .i64 a0_1, .int .i64 0, .int .i64 0, .int .i64 0, .int .i64 0, .int .i64 0]) ?_ 2 _ rfl; (with_reducible repeat (first | refine blk_drewN ?_ _ | refine blk_drew ?_ | refine blk_alloc ?_ _)); refine blk_put (cs := #[.int .i64 a0_0, .int .i64 0, .int .i64 0, .int .i64 0, .int .i64 0, .int .i64 0, .int .i64 0]) ?_ 1 _ rfl; (with_reducible repeat (first | refine blk_drewN ?_ _ | refine blk_drew ?_ | refine blk_alloc ?_ _)); refine blk_put (cs := #[.int .i64 0, .int .i64 0, .int .i64 0, .int .i64 0, .int .i64 0, .int .i64 0, .int .i64 0]) ?_ 0 _ rfl; (with_reducible repeat (first | refine blk_drewN ?_ _ | refine blk_drew ?_ | refine blk_alloc ?_ _)); exact BK146.out) hb); have n3_ := Aside0.mk (below_step (by repeat (first | (with_reducible first | exact HB.out | apply below_alloc | apply pw_below_drewN | apply below_drew1 | refine below_set ?_ GE144.out | refine below_set ?_ GE145.out | refine below_set ?_ GE146.out) | exact HB.out)) hb); clear BK144; clear BK145; clear BK146; clear HB; have BK144 := n0_; have BK145 := n1_; have BK146 := n2_; have HB := n3_; clear n0_ n1_ n2_ n3_; (try clear hb); (try clear hb2); (try clear hk); (try clear hi); have hcz12_0 : w11.cell? ⟨gb146, 0, none⟩ = some (.int .i64 a0_0) := (blk_cell BK146.out 0).trans rfl; have hcz12_1 : w11.cell? ⟨gb146, 1, none⟩ = some (.int .i64 a0_1) := (blk_cell BK146.out 1).trans rfl; have hcz12_2 : w11.cell? ⟨gb146, 2, none⟩ = some (.int .i64 a0_2) := (blk_cell BK146.out 2).trans rfl; have hcz12_3 : w11.cell? ⟨gb146, 3, none⟩ = some (.int .i64 0) := (blk_cell BK146.out 3).trans rfl; have hcz12_4 : w11.cell? ⟨gb146, 4, none⟩ = some (.int .i64 0) := (blk_cell BK146.out 4).trans rfl; have hcz12_5 : w11.cell? ⟨gb146, 5, none⟩ = some (.int .i64 0) := (blk_cell BK146.out 5).trans rfl; have hcz12_6 : w11.cell? ⟨gb146, 6, none⟩ = some (.int .i64 0) := (blk_cell BK146.out 6).trans rfl; have hfz12_0 := blk_frozen BK146.out 0; have hfz12_1 := blk_frozen BK146.out 1; have hfz12_2 := blk_frozen BK146.out 2; have hfz12_3 := blk_frozen BK146.out 3; have hfz12_4 := blk_frozen BK146.out 4; have hfz12_5 := blk_frozen BK146.out 5; have hfz12_6 := blk_frozen BK146.out 6; have hcz13_0 : w11.cell? ⟨gb144, 0, none⟩ = some (.int .i64 a0_0) := (blk_cell BK144.out 0).trans rfl; have hcz13_1 : w11.cell? ⟨gb144, 1, none⟩ = some (.int .i64 a0_1) := (blk_cell BK144.out 1).trans rfl; have hcz13_2 : w11.cell? ⟨gb144, 2, none⟩ = some (.int .i64 a0_2) := (blk_cell BK144.out 2).trans rfl; have hcz13_3 : w11.cell? ⟨gb144, 3, none⟩ = some (.int .i64 a0_3) := (blk_cell BK144.out 3).trans rfl; have hcz13_4 : w11.cell? ⟨gb144, 4, none⟩ = some (.int .i64 a0_4) := (blk_cell BK144.out 4).trans rfl; have hcz13_5 : w11.cell? ⟨gb144, 5, none⟩ = some (.int .i64 a0_5) := (blk_cell BK144.out 5).trans rfl; have hcz13_6 : w11.cell? ⟨gb144, 6, none⟩ = some (.int .i64 a0_6) := (blk_cell BK144.out 6).trans rfl; have hfz13_0 := blk_frozen BK144.out 0; have hfz13_1 := blk_frozen BK144.out 1; have hfz13_2 := blk_frozen BK144.out 2; have hfz13_3 := blk_frozen BK144.out 3; have hfz13_4 := blk_frozen BK144.out 4; have hfz13_5 := blk_frozen BK144.out 5; have hfz13_6 := blk_frozen BK144.out 6; have hcz14_0 : w11.cell? ⟨gb145, 0, none⟩ = some (.int .i64 0) := (blk_cell BK145.out 0).trans rfl; have hcz14_1 : w11.cell? ⟨gb145, 1, none⟩ = some (.int .i64 0) := (blk_cell BK145.out 1).trans rfl; have hcz14_2 : w11.cell? ⟨gb145, 2, none⟩ = some (.int .i64 0) := (blk_cell BK145.out 2).trans rfl; have hcz14_3 : w11.cell? ⟨gb145, 3, none⟩ = some (.int .i64 0) := (blk_cell BK145.out 3).trans rfl; have hcz14_4 : w11.cell? ⟨gb145, 4, none⟩ = some (.int .i64 0) := (blk_cell BK145.out 4).trans rfl; have hcz14_5 : w11.cell? ⟨gb145, 5, none⟩ = some (.int .i64 0) := (blk_cell BK145.out 5).trans rfl; have hcz14_6 : w11.cell? ⟨gb145, 6, none⟩ = some (.int .i64 0) := (blk_cell BK145.out 6).trans rfl; have hfz14_0 := blk_frozen BK145.out 0; have hfz14_1 := blk_frozen BK145.out 1; have hfz14_2 := blk_frozen BK145.out 2; have hfz14_3 := blk_frozen BK145.out 3; have hfz14_4 := blk_frozen BK145.out 4; have hfz14_5 := blk_frozen BK145.out 5; have hfz14_6 := blk_frozen BK145.out 6))
  refine bodyPost_ret (results_cell_row rfl _ _ gb145 30 #[.int .i64 a0_0, .int .i64 a0_1, .int .i64 a0_2, .int .i64 t147, .int .i64 t148, .int .i64 t149, .int .i64 a0_6] (0, 0) _ rfl (by (with_reducible repeat (first | refine blk_drewN ?_ _ | refine blk_drew ?_ | refine blk_alloc ?_ _)); refine blk_put (cs := #[.int .i64 a0_0, .int .i64 a0_1, .int .i64 a0_2, .int .i64 t147, .int .i64 t148, .int .i64 t149, .int .i64 0]) ?_ 6 _ rfl; (with_reducible repeat (first | refine blk_drewN ?_ _ | refine blk_drew ?_ | refine blk_alloc ?_ _)); refine blk_put (cs := #[.int .i64 a0_0, .int .i64 a0_1, .int .i64 a0_2, .int .i64 t147, .int .i64 t148, .int .i64 0, .int .i64 0]) ?_ 5 _ rfl; (with_reducible repeat (first | refine blk_drewN ?_ _ | refine blk_drew ?_ | refine blk_alloc ?_ _)); refine blk_put (cs := #[.int .i64 a0_0, .int .i64 a0_1, .int .i64 a0_2, .int .i64 t147, .int .i64 0, .int .i64 0, .int .i64 0]) ?_ 4 _ rfl; (with_reducible repeat (first | refine blk_drewN ?_ _ | refine blk_drew ?_ | refine blk_alloc ?_ _)); refine blk_put (cs := #[.int .i64 a0_0, .int .i64 a0_1, .int .i64 a0_2, .int .i64 0, .int .i64 0, .int .i64 0, .int .i64 0]) ?_ 3 _ rfl; (with_reducible repeat (first | refine blk_drewN ?_ _ | refine blk_drew ?_ | refine blk_alloc ?_ _)); refine blk_put (cs := #[.int .i64 a0_0, .int .i64 a0_1, .int .i64 0, .int .i64 0, .int .i64 0, .int .i64 0, .int .i64 0]) ?_ 2 _ rfl; (with_reducible repeat (first | refine blk_drewN ?_ _ | refine blk_drew ?_ | refine blk_alloc ?_ _)); refine blk_put (cs := #[.int .i64 a0_0, .int .i64 0, .int .i64 0, .int .i64 0, .int .i64 0, .int .i64 0, .int .i64 0]) ?_ 1 _ rfl; (with_reducible repeat (first | refine blk_drewN ?_ _ | refine blk_drew ?_ | refine blk_alloc ?_ _)); refine blk_put (cs := #[.int .i64 0, .int .i64 0, .int .i64 0, .int .i64 0, .int .i64 0, .int .i64 0, .int .i64 0]) ?_ 0 _ rfl; (with_reducible repeat (first | refine blk_drewN ?_ _ | refine blk_drew ?_ | refine blk_alloc ?_ _)); refine blk_far ?_ NB145_146.out _; (with_reducible repeat (first | refine blk_drewN ?_ _ | refine blk_drew ?_ | refine blk_alloc ?_ _)); refine blk_far ?_ NB145_146.out _; (with_reducible repeat (first | refine blk_drewN ?_ _ | refine blk_drew ?_ | refine blk_alloc ?_ _)); refine blk_far ?_ NB145_146.out _; (with_reducible repeat (first | refine blk_drewN ?_ _ | refine blk_drew ?_ | refine blk_alloc ?_ _)); refine blk_far ?_ NB145_146.out _; (with_reducible repeat (first | refine blk_drewN ?_ _ | refine blk_drew ?_ | refine blk_alloc ?_ _)); exact BK145.out) Tryd.underlying30 rfl (by kernel_rfl)) rfl ?_
  exact ⟨by first | rfl | (simp [errW_none, errW_some] <;> rfl) | (simp [*, errW_none, errW_some] <;> rfl), by repeat (first | (with_reducible first | exact HB.out | apply below_alloc | apply pw_below_drewN | apply below_drew1 | refine below_set ?_ GE144.out | refine below_set ?_ GE145.out | refine below_set ?_ GE146.out) | exact HB.out)⟩

/-! ### impl_isSize: function 19 -/
def impl_isSize.f (a0 : Int) : Option (Bool) := if a0 = 1 then (some true) else (some (a0 == 2))
set_option maxHeartbeats 8000000 in
set_option maxRecDepth 100000 in
theorem impl_isSize.calls (a0 : Int) (r : Bool) (w : World) (h : impl_isSize.f a0 = some r) :
    Calls Tryd.prog 19 #[.int .i64 a0] w fun e w' => e = .returned (.bool r) ∧ Drawn0 w w' := by
  have H : (if a0 = 1 then (some true) else (some (a0 == 2))) = some r := h
  clear h
  by_cases c2 : a0 = 1
  · rw [if_pos c2] at H
    have c2b0 : (a0 == 1) = true := beq_iff_eq.mpr c2
    have c2b1 : (a0 != 1) = false := bne_eq_false_iff_eq.mpr c2
    clear c2
    obtain rfl := Option.some.inj H
    go_enter Tryd.func19, Tryd.ntmps19
    go_wp2
    go_ret
    exact ⟨by first | rfl | (simp; done) | (simp [*]; done), by repeat (first | exact Drawn0.refl _ | apply Drawn0.step)⟩
  · rw [if_neg c2] at H
    have c2b0 : (a0 == 1) = false := beq_eq_false_iff_ne.mpr c2
    have c2b1 : (a0 != 1) = true := bne_iff_ne.mpr c2
    obtain rfl := Option.some.inj H
    go_enter Tryd.func19, Tryd.ntmps19
    go_wp2
    go_ret
    exact ⟨by first | rfl | (simp; done) | (simp [*]; done), by repeat (first | exact Drawn0.refl _ | apply Drawn0.step)⟩

/-! ### impl_within: function 20 -/
def impl_within.f (a0 : Int) (a1 : Int) (a2 : Int) : Option (Bool) := if a0 ≥ a1 then (some (decide (a0 ≤ a2))) else (some false)
set_option maxHeartbeats 8000000 in
set_option maxRecDepth 100000 in
theorem impl_within.calls (a0 : Int) (a1 : Int) (a2 : Int) (r : Bool) (w : World) (h : impl_within.f a0 a1 a2 = some r) :
    Calls Tryd.prog 20 #[.int .i64 a0, .int .i64 a1, .int .i64 a2] w fun e w' => e = .returned (.bool r) ∧ Drawn0 w w' := by
  have H : (if a0 ≥ a1 then (some (decide (a0 ≤ a2))) else (some false)) = some r := h
  clear h
  by_cases c4 : a0 ≥ a1
  · rw [if_pos c4] at H
    have c4b0 : decide (a1 ≤ a0) = true := decide_eq_true c4
    clear c4
    obtain rfl := Option.some.inj H
    go_enter Tryd.func20, Tryd.ntmps20
    go_wp2
    go_ret
    exact ⟨by first | rfl | (simp; done) | (simp [*]; done), by repeat (first | exact Drawn0.refl _ | apply Drawn0.step)⟩
  · rw [if_neg c4] at H
    have c4b0 : decide (a1 ≤ a0) = false := decide_eq_false c4
    clear c4
    obtain rfl := Option.some.inj H
    go_enter Tryd.func20, Tryd.ntmps20
    go_wp2
    go_ret
    exact ⟨by first | rfl | (simp; done) | (simp [*]; done), by repeat (first | exact Drawn0.refl _ | apply Drawn0.step)⟩

/-! ### impl_isWord: function 26 -/
def impl_isWord.f (a0 : Int) : Option (Bool) := (impl_within.f a0 0 65535).bind fun t150 => (some t150)
set_option maxHeartbeats 8000000 in
set_option maxRecDepth 100000 in
theorem impl_isWord.calls (a0 : Int) (r : Bool) (w : World) (h : impl_isWord.f a0 = some r) :
    Calls Tryd.prog 26 #[.int .i64 a0] w fun e w' => e = .returned (.bool r) ∧ Drawn0 w w' := by
  have H : ((impl_within.f a0 0 65535).bind fun t150 => (some t150)) = some r := h
  clear h
  replace H := Option.bind_eq_some_iff.mp H
  obtain ⟨t150, A20, H⟩ := H
  replace H : (some t150) = some r := H
  have A2 := Aside0.mk A20
  clear A20
  obtain rfl := Option.some.inj H
  go_enter Tryd.func26, Tryd.ntmps26
  go_wp2_with (first | ((with_reducible refine gate_callee (f := 20) rfl ?_); refine goesL_ (some 4) rfl rfl Tryd.func20 (by kernel_rfl) rfl #[.int .i64 a0, .int .i64 0, .int .i64 65535] rfl (by (try simp only [List.map_toArray, List.map_cons, List.map_nil]); first | done | rfl | (simp only [List.length_drop, List.length_take]; rfl)) ?_; (with_reducible refine (impl_within.calls a0 0 65535 t150 _ A2.out).mono ?_); rintro e w' ⟨rfl, ⟨nd, rfl⟩⟩; refine ⟨_, rfl, ?_⟩))
  go_ret
  exact ⟨by first | rfl | (simp; done) | (simp [*]; done), by repeat (first | exact Drawn0.refl _ | apply Drawn0.step)⟩

/-! ### impl_needsExt: function 27 -/
def impl_needsExt.f (a0 : Int) : Option (Bool) := if a0 = 5 then (some true) else (if a0 = 6 then (some true) else (some (a0 == 7)))
set_option maxHeartbeats 8000000 in
set_option maxRecDepth 100000 in
theorem impl_needsExt.calls (a0 : Int) (r : Bool) (w : World) (h : impl_needsExt.f a0 = some r) :
    Calls Tryd.prog 27 #[.int .i64 a0] w fun e w' => e = .returned (.bool r) ∧ Drawn0 w w' := by
  have H : (if a0 = 5 then (some true) else (if a0 = 6 then (some true) else (some (a0 == 7)))) = some r := h
  clear h
  by_cases c2 : a0 = 5
  · rw [if_pos c2] at H
    have c2b0 : (a0 == 5) = true := beq_iff_eq.mpr c2
    have c2b1 : (a0 != 5) = false := bne_eq_false_iff_eq.mpr c2
    clear c2
    obtain rfl := Option.some.inj H
    go_enter Tryd.func27, Tryd.ntmps27
    go_wp2
    go_ret
    exact ⟨by first | rfl | (simp; done) | (simp [*]; done), by repeat (first | exact Drawn0.refl _ | apply Drawn0.step)⟩
  · rw [if_neg c2] at H
    have c2b0 : (a0 == 5) = false := beq_eq_false_iff_ne.mpr c2
    have c2b1 : (a0 != 5) = true := bne_iff_ne.mpr c2
    by_cases c3 : a0 = 6
    · rw [if_pos c3] at H
      have c3b0 : (a0 == 6) = true := beq_iff_eq.mpr c3
      have c3b1 : (a0 != 6) = false := bne_eq_false_iff_eq.mpr c3
      clear c3
      obtain rfl := Option.some.inj H
      go_enter Tryd.func27, Tryd.ntmps27
      go_wp2
      go_ret
      exact ⟨by first | rfl | (simp; done) | (simp [*]; done), by repeat (first | exact Drawn0.refl _ | apply Drawn0.step)⟩
    · rw [if_neg c3] at H
      have c3b0 : (a0 == 6) = false := beq_eq_false_iff_ne.mpr c3
      have c3b1 : (a0 != 6) = true := bne_iff_ne.mpr c3
      obtain rfl := Option.some.inj H
      go_enter Tryd.func27, Tryd.ntmps27
      go_wp2
      go_ret
      exact ⟨by first | rfl | (simp; done) | (simp [*]; done), by repeat (first | exact Drawn0.refl _ | apply Drawn0.step)⟩

end Go.Proofs.YtnopjkkglanlfaaDoor.HFnExactTextOf
