/- FnExactKindOf, the plain law: the program's and the reference's KindOf answer alike at every int. -/
import Derived.Test.YtnopjkkglanlfaaPFnExactKindOfx1
import Derived.Test.YtnopjkkglanlfaaBits
namespace Go.Proofs.Ytnopjkkglanlfaa.Pure
open Go.RowKit Go.Proofs.Ytnopjkkglanlfaa.PFnExactKindOf Go.Proofs.YtnopjkkglanlfaaW.PrintWords Go.Proofs.YtnopjkkglanlfaaW.PrintLast Go.Proofs.Ytnopjkkglanlfaa.Bt
set_option linter.unusedVariables false
set_option linter.unusedSimpArgs false

theorem sin (a b c : Int) : spec_l1In.f a b c = some (decide (b ≤ a ∧ a ≤ c)) := by
  unfold spec_l1In.f
  by_cases h : b ≤ a <;> simp [h]
theorem iin (a b c : Int) : impl_within.f a b c = some (decide (b ≤ a ∧ a ≤ c)) := by
  unfold impl_within.f
  by_cases h : b ≤ a <;> simp [h]

theorem FnExactKindOf : laws_FnExactKindOf.Pure := by
  intro a h
  refine ⟨1, ?_⟩
  unfold laws_FnExactKindOf.f impl_KindOf.f spec_KindOf.f impl_isWord.f spec_l4Addr.f impl_kindOf.f spec_l4Kind.f
  simp only [sin, iin, Option.bind_some, impl_kindOf.j0, spec_l4Kind.j0, decide_eq_true_eq, if_true]
  by_cases c : 0 ≤ a ∧ a ≤ 65535
  · simp only [c, and_self, if_true]
    by_cases c1 : a ≥ 512
    · by_cases c2 : 448 ≤ a ∧ a ≤ 495
      · omega
      · simp [c1, c2]
    · by_cases c2 : 448 ≤ a ∧ a ≤ 495
      · simp [c1, c2]
      · by_cases c3 : 384 ≤ a ∧ a ≤ 447 <;> simp [c1, c2, c3]
  · simp [c]
end Go.Proofs.Ytnopjkkglanlfaa.Pure
