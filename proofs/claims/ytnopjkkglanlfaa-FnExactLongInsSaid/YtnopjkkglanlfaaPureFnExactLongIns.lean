/- FnExactLongIns, the plain law: the program's and the reference's LongIns answer alike at every int. -/
import Derived.Test.YtnopjkkglanlfaaPFnExactLongInsx1
import Derived.Test.YtnopjkkglanlfaaBits
namespace Go.Proofs.Ytnopjkkglanlfaa.Pure
open Go.RowKit Go.Proofs.Ytnopjkkglanlfaa.PFnExactLongIns Go.Proofs.YtnopjkkglanlfaaW.PrintWords Go.Proofs.YtnopjkkglanlfaaW.PrintLast Go.Proofs.Ytnopjkkglanlfaa.Bt
set_option linter.unusedVariables false
set_option linter.unusedSimpArgs false

theorem sin (a b c : Int) : spec_l1In.f a b c = some (decide (b ≤ a ∧ a ≤ c)) := by
  unfold spec_l1In.f
  by_cases h : b ≤ a <;> simp [h]
theorem iin (a b c : Int) : impl_within.f a b c = some (decide (b ≤ a ∧ a ≤ c)) := by
  unfold impl_within.f
  by_cases h : b ≤ a <;> simp [h]

theorem long_eq (a : Int) : impl_longOf.f a = spec_l7Long.f a := by
  unfold impl_longOf.f spec_l7Long.f impl_needsExt.f spec_l6Ext.f impl_flag.f
  rw [and7]
  have h0 : 0 ≤ a / 32 % 8 := by omega
  have h1 : a / 32 % 8 ≤ 7 := by omega
  generalize a / 32 % 8 = q at h0 h1
  have : q = 0 ∨ q = 1 ∨ q = 2 ∨ q = 3 ∨ q = 4 ∨ q = 5 ∨ q = 6 ∨ q = 7 := by omega
  rcases this with rfl | rfl | rfl | rfl | rfl | rfl | rfl | rfl <;> decide +kernel
theorem long_some (a : Int) : ∃ r, spec_l7Long.f a = some r := by
  unfold spec_l7Long.f spec_l6Ext.f
  simp only [Option.bind_some]
  split <;> exact ⟨_, rfl⟩
theorem FnExactLongIns : laws_FnExactLongIns.Pure := by
  intro a h
  obtain ⟨r, hr⟩ := long_some a
  unfold laws_FnExactLongIns.f impl_LongIns.f spec_LongIns.f impl_isWord.f spec_l6Word.f
  rw [long_eq, sin, iin, hr]
  by_cases c : 0 ≤ a ∧ a ≤ 65535 <;> simp [c]
end Go.Proofs.Ytnopjkkglanlfaa.Pure
