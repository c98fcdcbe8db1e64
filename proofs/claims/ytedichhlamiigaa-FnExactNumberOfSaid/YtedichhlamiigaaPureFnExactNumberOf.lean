/- FnExactNumberOf, the plain law: the program's and the reference's NumberOf answer alike at every int. -/
import Derived.Test.YtedichhlamiigaaPFnExactNumberOfx1
import Derived.Test.YtedichhlamiigaaBits
namespace Go.Proofs.Ytedichhlamiigaa.Pure
open Go.RowKit Go.Proofs.Ytedichhlamiigaa.PFnExactNumberOf Go.Proofs.YtedichhlamiigaaW.PrintWords Go.Proofs.YtedichhlamiigaaW.PrintLast Go.Proofs.Ytedichhlamiigaa.Bt
set_option linter.unusedVariables false
set_option linter.unusedSimpArgs false

theorem isBcd_eq (a : Int) : impl_IsBcd.f a = spec_IsBcd.f a := by
  unfold spec_IsBcd.f impl_IsBcd.f spec_l1In.f impl_within.f
  simp only [and15, ite_bind, Option.bind_some, decide_eq_true_eq, Bool.false_eq_true, if_false]
  repeat' split
  all_goals first | rfl | (exfalso; omega) | (congr 1; simp; omega)
theorem isBcd_some (a : Int) : ∃ r, spec_IsBcd.f a = some r := by
  unfold spec_IsBcd.f spec_l1In.f
  simp only [ite_bind, Option.bind_some]
  repeat' split
  all_goals exact ⟨_, rfl⟩

theorem numberOf_eq (a : Int) : impl_NumberOf.f a = spec_NumberOf.f a := by
  unfold impl_NumberOf.f spec_NumberOf.f
  rw [isBcd_eq]; rfl
theorem numberOf_some (a : Int) : ∃ r, spec_NumberOf.f a = some r := by
  unfold spec_NumberOf.f spec_l2Number.f
  obtain ⟨r, hr⟩ := isBcd_some a
  rw [hr]
  simp only [ite_bind, Option.bind_some]
  repeat' split
  all_goals exact ⟨_, rfl⟩
theorem FnExactNumberOf : laws_FnExactNumberOf.Pure := by
  intro a h
  obtain ⟨r, hr⟩ := numberOf_some a
  unfold laws_FnExactNumberOf.f
  rw [numberOf_eq, hr]; simp
end Go.Proofs.Ytedichhlamiigaa.Pure
