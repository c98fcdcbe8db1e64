/- FnExactBcdOf, the plain law: the program's and the reference's BcdOf answer alike at every int. -/
import Derived.Test.YtedichhlamiigaaPFnExactBcdOfx1
import Derived.Test.YtedichhlamiigaaBits
namespace Go.Proofs.Ytedichhlamiigaa.Pure
open Go.RowKit Go.Proofs.Ytedichhlamiigaa.PFnExactBcdOf Go.Proofs.YtedichhlamiigaaW.PrintWords Go.Proofs.YtedichhlamiigaaW.PrintLast Go.Proofs.Ytedichhlamiigaa.Bt
set_option linter.unusedVariables false
set_option linter.unusedSimpArgs false


theorem bcdOf_eq : impl_BcdOf.f = spec_BcdOf.f := rfl
theorem bcdOf_some (a : Int) : ∃ r, spec_BcdOf.f a = some r := by
  unfold spec_BcdOf.f spec_l1In.f spec_l2Of.f
  simp only [ite_bind, Option.bind_some]
  repeat' split
  all_goals exact ⟨_, rfl⟩
theorem FnExactBcdOf : laws_FnExactBcdOf.Pure := by
  intro a h
  obtain ⟨r, hr⟩ := bcdOf_some a
  unfold laws_FnExactBcdOf.f
  rw [bcdOf_eq, hr]; simp
end Go.Proofs.Ytedichhlamiigaa.Pure
