/- The row of FnExactEncodeIns: at every input the law answers true and its arguments read as before. No condition. Written by this session's program mkrow.py. -/
import Derived.Test.YtpcocklckalkmaaRows
import Derived.Test.YtpcocklckalkmaaHFnExactEncodeInsx
import Derived.Test.YtpcocklckalkmaaHPureFnExactEncodeIns
import Derived.Test.YtpcocklckalkmaaOpen
import Derived.WalkKit
import Derived.ProofKit
import Derived.OpenShut
import Derived.ShutString
import Derived.ChangeOld
import Derived.Below
import Derived.SizedLaws
import Derived.Carry
namespace Go.Proofs.Ytpcocklckalkmaa.fnExactEncodeIns
open Go.ChangeShapes Go.WideShapes Go.ChangeAt Go.RowKit Go.Proofs.YtpcocklckalkmaaW.PrintWords Go.Proofs.Ytpcocklckalkmaa.HFnExactEncodeIns
set_option linter.unusedVariables false
theorem own : ownKnob Try.prog.godebug = none := by kernel_rfl
theorem laidOut : laidOutB Try.prog = true := by kernel_rfl
set_option maxRecDepth 100000 in
theorem lifted (os : Os) (started : os.Started) (H : Type) (enc : TypeId × Value → H) :
    ReturnsInHanded {} Try.checked os 13 .any (Rows.fnExactEncodeInsSpec.pre6 enc Try.prog Try.f13 Rows.fnExactEncodeInsRow.domain false) (Rows.fnExactEncodeInsSpec.post enc Try.prog Try.f13 false true false false) := by
  refine returnsInHanded_of_change_sized (C := Try.checked) own started (by kernel_rfl) Try.func13
    (ChangeSpec.witness6 (enc := enc) (C := Try.checked) false ⟨#[], #[.agg #[.int .i64 0, .int .i64 0, .int .i64 0, .int .i64 0, .int .i64 0, .int .i64 0, .int .i64 0]], []⟩ 8 (by kernel_rfl) (by kernel_rfl) (by kernel_rfl) (by kernel_rfl)) ?_
  intro W base args ds gs before hval0 hW hcnd hsz0 _
  have hval : ∀ (j : Nat) t v, Try.f13.params[j]? = some t → args[j]? = some v → Value.okWide Try.prog W .any base t v := hval0
  have hW' := hW
  obtain ⟨p, q, hA0, hV, rfl, hfz, hnd⟩ := hW
  have hA : DataW.TrodAll enc Try.prog W 0 (fun _ => true) true Try.f13.params.toList args.toList ds p := hA0
  rw [Try.params13] at hA hval
  obtain ⟨v0, vs0, d0, ds0, p0, q0, hargs, rfl, rfl, h0, r0⟩ := trodAll_cons hA
  obtain ⟨rfl, rfl, rfl⟩ := trodAll_nil r0
  obtain rfl : args = #[v0] := by cases args; simp_all
  obtain ⟨rfl, rfl⟩ := trodVars_none hV
  have k0 := h0
  have lt0 : ∀ x ∈ p0, x.block < W.heap.size := by obtain ⟨m, hm⟩ := k0; exact DataW.trod_lt m _ _ _ hm
  obtain ⟨x0, cs0, rfl, K0, g0⟩ := Op.open_value Try.underlying35 (hval 0 35 v0 rfl rfl) h0 (Op.opens_struct Try.underlying35 (by kernel_rfl) (Op.row_cons rfl (by kernel_rfl) (Op.opens_int Try.underlying3) (Op.row_cons rfl (by kernel_rfl) (Op.opens_int Try.underlying3) (Op.row_cons rfl (by kernel_rfl) (Op.opens_int Try.underlying3) (Op.row_cons rfl (by kernel_rfl) (Op.opens_struct Try.underlying33 (by kernel_rfl) (Op.row_cons rfl (by kernel_rfl) (Op.opens_int Try.underlying3) (Op.row_cons rfl (by kernel_rfl) (Op.opens_int Try.underlying3) (Op.row_one rfl (by kernel_rfl) (Op.opens_int Try.underlying3))))) (Op.row_one rfl (by kernel_rfl) (Op.opens_int Try.underlying3)))))))
  obtain ⟨_, _, rfl, rfl, ⟨_, _, rfl, rfl, ⟨_, _, rfl, rfl, ⟨_, _, rfl, ⟨_, _, rfl, rfl, ⟨_, _, rfl, rfl, rfl⟩⟩, rfl⟩⟩⟩⟩ := K0
  clear hA0 hval0 hsz0
  obtain ⟨k, h⟩ := Pure.FnExactEncodeIns x0.1 x0.2.1 x0.2.2.1 x0.2.2.2.1.1 x0.2.2.2.1.2.1 x0.2.2.2.1.2.2 x0.2.2.2.2 g0.1 g0.2.1 g0.2.2.1 g0.2.2.2.1.1 g0.2.2.2.1.2.1 g0.2.2.2.1.2.2 g0.2.2.2.2
  refine calls_of_args (args' := #[.agg #[.int .i64 x0.1, .int .i64 x0.2.1, .int .i64 x0.2.2.1, .int .i64 x0.2.2.2.1.1, .int .i64 x0.2.2.2.1.2.1, .int .i64 x0.2.2.2.1.2.2, .int .i64 x0.2.2.2.2]]) rfl ?_
  refine (laws_FnExactEncodeIns.calls k x0.1 x0.2.1 x0.2.2.1 x0.2.2.2.1.1 x0.2.2.2.1.2.1 x0.2.2.2.1.2.2 x0.2.2.2.2 true W  h).mono fun e W' ⟨he, bel0⟩ => ?_
  have bel : Below W.heap.size W W' := bel0
  subst he
  exact ⟨_, rfl, _, _, _, [], _, [], hW', trodAll_mk1 (shut_bool Try.underlying4 _), (trodAll_cons_mk (Below.trod laidOut (by kernel_rfl) (of_decide_eq_true (by kernel_rfl)) k0 bel lt0) trodAll_mk0), rfl, bel.frame _, fun h => by cases h⟩
theorem over : Rows.fnExactEncodeInsRow.holds Try.pinned (OpenSpec.ofChange Rows.fnExactEncodeInsSpec) :=
  OpenClaim.holds_of_wide 13 Try.f13 rfl rfl rfl rfl rfl rfl rfl ⟨rfl, rfl, rfl, rfl, rfl⟩ rfl rfl rfl rfl rfl (by kernel_rfl) Try.func13 (by kernel_rfl)
    (of_decide_eq_true (by kernel_rfl)) (by unfold Func.isWrapper; first | (rw [if_pos (by decide +kernel)]; kernel_rfl) | (rw [if_neg (by decide +kernel)]; exact ⟨rfl, rfl⟩))
    (fun os started H enc _ => lifted os started H enc)
theorem proved : Rows.FnExactEncodeInsSaid := over
#print axioms proved
end Go.Proofs.Ytpcocklckalkmaa.fnExactEncodeIns
namespace Go.Proofs.Ytpcocklckalkmaa
theorem fnExactEncodeIns_holds : Rows.FnExactEncodeInsSaid := fnExactEncodeIns.proved
end Go.Proofs.Ytpcocklckalkmaa
