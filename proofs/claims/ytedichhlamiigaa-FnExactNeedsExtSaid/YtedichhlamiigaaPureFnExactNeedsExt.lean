/- FnExactNeedsExt, the plain law: the program's and the reference's NeedsExt answer alike at every int. -/
import Derived.Test.YtedichhlamiigaaPFnExactNeedsExtx1
import Derived.Test.YtedichhlamiigaaBits
namespace Go.Proofs.Ytedichhlamiigaa.Pure
open Go.RowKit Go.Proofs.Ytedichhlamiigaa.PFnExactNeedsExt Go.Proofs.YtedichhlamiigaaW.PrintWords Go.Proofs.YtedichhlamiigaaW.PrintLast Go.Proofs.Ytedichhlamiigaa.Bt
set_option linter.unusedVariables false
set_option linter.unusedSimpArgs false


theorem needsExt_eq (a : Int) : impl_NeedsExt.f a = spec_NeedsExt.f a := by
  unfold impl_NeedsExt.f spec_NeedsExt.f impl_within.f spec_l1In.f impl_needsExt.f spec_l6Ext.f
  simp only [ite_bind, Option.bind_some, decide_eq_true_eq, Bool.false_eq_true, if_false]
  repeat' split
  all_goals first | rfl | (exfalso; omega) | (congr 2; rw [Bool.eq_iff_iff]; simp; omega)
theorem needsExt_some (a : Int) : ∃ r, spec_NeedsExt.f a = some r := by
  unfold spec_NeedsExt.f spec_l6Ext.f spec_l1In.f
  simp only [ite_bind, Option.bind_some]
  repeat' split
  all_goals exact ⟨_, rfl⟩
theorem FnExactNeedsExt : laws_FnExactNeedsExt.Pure := by
  intro a h
  obtain ⟨r, hr⟩ := needsExt_some a
  unfold laws_FnExactNeedsExt.f
  rw [needsExt_eq, hr]; simp
end Go.Proofs.Ytedichhlamiigaa.Pure
