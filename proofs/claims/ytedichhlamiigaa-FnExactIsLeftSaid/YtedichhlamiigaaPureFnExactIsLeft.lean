/- FnExactIsLeft, the plain law: the program's and the reference's IsLeft answer alike at every int. -/
import Derived.Test.YtedichhlamiigaaPFnExactIsLeftx1
import Derived.Test.YtedichhlamiigaaBits
namespace Go.Proofs.Ytedichhlamiigaa.Pure
open Go.RowKit Go.Proofs.Ytedichhlamiigaa.PFnExactIsLeft Go.Proofs.YtedichhlamiigaaW.PrintWords Go.Proofs.YtedichhlamiigaaW.PrintLast Go.Proofs.Ytedichhlamiigaa.Bt
set_option linter.unusedVariables false
set_option linter.unusedSimpArgs false


theorem isLeft_eq (a : Int) : impl_IsLeft.f a = spec_IsLeft.f a := by
  unfold impl_IsLeft.f spec_IsLeft.f spec_l3Kind.f impl_within.f spec_l1In.f impl_isLeft.f spec_l3Left.f
  simp only [and1, ite_bind, Option.bind_some, decide_eq_true_eq, Bool.false_eq_true, if_false]
  repeat' split
  all_goals first | rfl | (exfalso; omega) | (rw [Int.tmod_eq_emod_of_nonneg (by omega)])
theorem isLeft_some (a : Int) : ∃ r, spec_IsLeft.f a = some r := by
  unfold spec_IsLeft.f spec_l3Kind.f spec_l3Left.f spec_l1In.f
  simp only [ite_bind, Option.bind_some]
  repeat' split
  all_goals exact ⟨_, rfl⟩
theorem FnExactIsLeft : laws_FnExactIsLeft.Pure := by
  intro a h
  obtain ⟨r, hr⟩ := isLeft_some a
  unfold laws_FnExactIsLeft.f
  rw [isLeft_eq, hr]; simp
end Go.Proofs.Ytedichhlamiigaa.Pure
