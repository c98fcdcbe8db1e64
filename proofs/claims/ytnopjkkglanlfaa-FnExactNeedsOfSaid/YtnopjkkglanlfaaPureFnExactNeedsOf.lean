/- FnExactNeedsOf, the plain law: the program's and the reference's NeedsOf answer alike at every int. -/
import Derived.Test.YtnopjkkglanlfaaPFnExactNeedsOfx1
import Derived.Test.YtnopjkkglanlfaaBits
namespace Go.Proofs.Ytnopjkkglanlfaa.Pure
open Go.RowKit Go.Proofs.Ytnopjkkglanlfaa.PFnExactNeedsOf Go.Proofs.YtnopjkkglanlfaaW.PrintWords Go.Proofs.YtnopjkkglanlfaaW.PrintLast Go.Proofs.Ytnopjkkglanlfaa.Bt
set_option linter.unusedVariables false
set_option linter.unusedSimpArgs false

theorem sin (a b c : Int) : spec_l1In.f a b c = some (decide (b ≤ a ∧ a ≤ c)) := by
  unfold spec_l1In.f
  by_cases h : b ≤ a <;> simp [h]
theorem iin (a b c : Int) : impl_within.f a b c = some (decide (b ≤ a ∧ a ≤ c)) := by
  unfold impl_within.f
  by_cases h : b ≤ a <;> simp [h]

theorem FnExactNeedsOf : laws_FnExactNeedsOf.Pure := by
  intro a h
  by_cases c : 0 ≤ a ∧ a ≤ 15
  · have : a = 0 ∨ a = 1 ∨ a = 2 ∨ a = 3 ∨ a = 4 ∨ a = 5 ∨ a = 6 ∨ a = 7 ∨ a = 8 ∨ a = 9 ∨ a = 10 ∨ a = 11 ∨ a = 12 ∨ a = 13 ∨ a = 14 ∨ a = 15 := by omega
    rcases this with rfl | rfl | rfl | rfl | rfl | rfl | rfl | rfl | rfl | rfl | rfl | rfl | rfl | rfl | rfl | rfl <;> decide +kernel
  · unfold laws_FnExactNeedsOf.f impl_NeedsOf.f spec_NeedsOf.f impl_isCond.f spec_l8Cond.f
    simp [sin, iin, c]
end Go.Proofs.Ytnopjkkglanlfaa.Pure
