/- FnExactContraryOf, the plain law: the program's and the reference's ContraryOf answer alike at every int. -/
import Derived.Test.YtedichhlamiigaaPFnExactContraryOfx1
import Derived.Test.YtedichhlamiigaaBits
namespace Go.Proofs.Ytedichhlamiigaa.Pure
open Go.RowKit Go.Proofs.Ytedichhlamiigaa.PFnExactContraryOf Go.Proofs.YtedichhlamiigaaW.PrintWords Go.Proofs.YtedichhlamiigaaW.PrintLast Go.Proofs.Ytedichhlamiigaa.Bt
set_option linter.unusedVariables false
set_option linter.unusedSimpArgs false


theorem contraryOf_eq : impl_ContraryOf.f = spec_ContraryOf.f := rfl
theorem contraryOf_some (a : Int) : ∃ r, spec_ContraryOf.f a = some r := by
  unfold spec_ContraryOf.f spec_l8Cond.f spec_l1In.f
  simp only [ite_bind, Option.bind_some]
  repeat' split
  all_goals exact ⟨_, rfl⟩
theorem FnExactContraryOf : laws_FnExactContraryOf.Pure := by
  intro a h
  obtain ⟨r, hr⟩ := contraryOf_some a
  unfold laws_FnExactContraryOf.f
  rw [contraryOf_eq, hr]; simp
end Go.Proofs.Ytedichhlamiigaa.Pure
