/- FnExactSwapBytes, the plain law: the program's and the reference's SwapBytes answer alike at every int. -/
import Derived.Test.YtedichhlamiigaaPFnExactSwapBytesx1
import Derived.Test.YtedichhlamiigaaBits
namespace Go.Proofs.Ytedichhlamiigaa.Pure
open Go.RowKit Go.Proofs.Ytedichhlamiigaa.PFnExactSwapBytes Go.Proofs.YtedichhlamiigaaW.PrintWords Go.Proofs.YtedichhlamiigaaW.PrintLast Go.Proofs.Ytedichhlamiigaa.Bt
set_option linter.unusedVariables false
set_option linter.unusedSimpArgs false


theorem top2 : spec_l1Top.f 2 = some 65536 := by decide +kernel
theorem swapBytes_eq (a : Int) : impl_SwapBytes.f a = spec_SwapBytes.f a := by
  unfold impl_SwapBytes.f spec_SwapBytes.f impl_isWord.f spec_l1Value.f
  rw [show spec_l1Size.f 2 = some true from by decide +kernel, top2]
  simp only [Option.bind_some, if_true, show wrap64 (65536 - 1) = 65535 from by decide +kernel]
  rfl
theorem swapBytes_some (a : Int) : ∃ r, impl_SwapBytes.f a = some r := by
  unfold impl_SwapBytes.f impl_isWord.f impl_within.f
  simp only [ite_bind, Option.bind_some]
  repeat' split
  all_goals exact ⟨_, rfl⟩
theorem FnExactSwapBytes : laws_FnExactSwapBytes.Pure := by
  intro a h
  obtain ⟨r, hr⟩ := swapBytes_some a
  unfold laws_FnExactSwapBytes.f
  rw [← swapBytes_eq, hr]; simp
end Go.Proofs.Ytedichhlamiigaa.Pure
