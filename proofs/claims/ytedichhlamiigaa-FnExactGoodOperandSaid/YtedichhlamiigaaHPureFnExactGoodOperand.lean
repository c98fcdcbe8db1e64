/- FnExactGoodOperand, the plain law: the program's and the reference's GoodOperand answer alike at every operand. -/
import Derived.Test.YtedichhlamiigaaPFnExactGoodOperandx
import Derived.Test.YtedichhlamiigaaBits
namespace Go.Proofs.Ytedichhlamiigaa.Pure
open Go.RowKit Go.Proofs.Ytedichhlamiigaa.PFnExactGoodOperand Go.Proofs.YtedichhlamiigaaW.PrintWords Go.Proofs.YtedichhlamiigaaW.PrintLast Go.Proofs.Ytedichhlamiigaa.Bt
set_option linter.unusedVariables false
set_option linter.unusedSimpArgs false

theorem sin (a b c : Int) : spec_l1In.f a b c = some (decide (b ≤ a ∧ a ≤ c)) := by
  unfold spec_l1In.f
  by_cases h : b ≤ a <;> simp [h]
theorem iin (a b c : Int) : impl_within.f a b c = some (decide (b ≤ a ∧ a ≤ c)) := by
  unfold impl_within.f
  by_cases h : b ≤ a <;> simp [h]

def gop (m r e : Int) : Bool := decide ((0 ≤ m ∧ m ≤ 7) ∧ (0 ≤ r ∧ r ≤ 3) ∧ (m ≥ 6 → r = 0) ∧ (0 ≤ e ∧ e ≤ 65535) ∧ (m ≥ 5 ∨ e = 0))
theorem gop_of {m r e : Int} (h : gop m r e = true) : (0 ≤ m ∧ m ≤ 7) ∧ (0 ≤ r ∧ r ≤ 3) ∧ (m ≥ 6 → r = 0) ∧ (0 ≤ e ∧ e ≤ 65535) ∧ (m ≥ 5 ∨ e = 0) := of_decide_eq_true h
theorem sgop (k : Nat) (m r e : Int) : spec_GoodOperand.f (k + 1) m r e = some (gop m r e) := by
  unfold spec_GoodOperand.f
  simp only [sin, Option.bind_some, spec_GoodOperand.j0, spec_l6Word.f, spec_l6Ext.f, decide_eq_true_eq, bne_iff_ne, ne_eq, if_true, if_false, Bool.false_eq_true]
  repeat' split
  all_goals
    refine congrArg some ?_
    rw [Bool.eq_iff_iff]
    simp only [gop, decide_eq_true_eq, beq_iff_eq, Bool.false_eq_true, false_iff, true_iff]
    omega
theorem igop (m r e : Int) : impl_GoodOperand.f m r e = some (gop m r e) := by
  unfold impl_GoodOperand.f
  simp only [iin, Option.bind_some, impl_isWord.f, impl_needsExt.f, ite_bind, decide_eq_true_eq, bne_iff_ne, ne_eq, beq_iff_eq, if_true, if_false, Bool.false_eq_true]
  repeat' split
  all_goals
    refine congrArg some ?_
    rw [Bool.eq_iff_iff]
    simp only [gop, decide_eq_true_eq, beq_iff_eq, Bool.false_eq_true, false_iff, true_iff]
    omega

theorem FnExactGoodOperand (m r e : Int) (_ : (Lit.int .i64 m).wf = true) (_ : (Lit.int .i64 r).wf = true) (_ : (Lit.int .i64 e).wf = true) : ∃ k, laws_FnExactGoodOperand.f k m r e = some true := by
  refine ⟨1, ?_⟩
  unfold laws_FnExactGoodOperand.f laws_toOperand.f
  simp only [Option.bind_some, sgop 0, igop]
  simp
end Go.Proofs.Ytedichhlamiigaa.Pure
