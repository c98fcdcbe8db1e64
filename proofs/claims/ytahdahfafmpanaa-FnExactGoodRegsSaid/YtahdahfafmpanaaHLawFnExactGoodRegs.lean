/- The row of FnExactGoodRegs: at every input the law answers true and its arguments read as before. No condition. Written by this session's program mkrow.py. -/
import Derived.Test.YtahdahfafmpanaaRows
import Derived.Test.YtahdahfafmpanaaHFnExactGoodRegsx
import Derived.Test.YtahdahfafmpanaaHPureFnExactGoodRegs
import Derived.Test.YtahdahfafmpanaaOpen
import Derived.WalkKit
import Derived.ProofKit
import Derived.OpenShut
import Derived.ShutString
import Derived.ChangeOld
import Derived.Below
import Derived.SizedLaws
import Derived.Carry
namespace Go.Proofs.Ytahdahfafmpanaa.fnExactGoodRegs
open Go.ChangeShapes Go.WideShapes Go.ChangeAt Go.RowKit Go.Proofs.YtahdahfafmpanaaW.PrintWords Go.Proofs.Ytahdahfafmpanaa.HFnExactGoodRegs
set_option linter.unusedVariables false
theorem own : ownKnob Try.prog.godebug = none := by kernel_rfl
theorem laidOut : laidOutB Try.prog = true := by kernel_rfl
set_option maxRecDepth 100000 in
theorem lifted (os : Os) (started : os.Started) (H : Type) (enc : TypeId × Value → H) :
    ReturnsInHanded {} Try.checked os 14 .any (Rows.fnExactGoodRegsSpec.pre6 enc Try.prog Try.f14 Rows.fnExactGoodRegsRow.domain false) (Rows.fnExactGoodRegsSpec.post enc Try.prog Try.f14 false true false false) := by
  refine returnsInHanded_of_change_sized (C := Try.checked) own started (by kernel_rfl) Try.func14
    (ChangeSpec.witness6 (enc := enc) (C := Try.checked) false ⟨#[], #[.agg #[.slice none 0 0, .slice none 0 0, .int .i64 0, .int .i64 0, .int .i64 0, .int .i64 0, .bool false, .bool false]], []⟩ 8 (by kernel_rfl) (by kernel_rfl) (by kernel_rfl) (by kernel_rfl)) ?_
  intro W base args ds gs before hval0 hW hcnd hsz0 _
  have hval : ∀ (j : Nat) t v, Try.f14.params[j]? = some t → args[j]? = some v → Value.okWide Try.prog W .any base t v := hval0
  have hW' := hW
  obtain ⟨p, q, hA0, hV, rfl, hfz, hnd⟩ := hW
  have hA : DataW.TrodAll enc Try.prog W 0 (fun _ => true) true Try.f14.params.toList args.toList ds p := hA0
  rw [Try.params14] at hA hval
  obtain ⟨v0, vs0, d0, ds0, p0, q0, hargs, rfl, rfl, h0, r0⟩ := trodAll_cons hA
  obtain ⟨rfl, rfl, rfl⟩ := trodAll_nil r0
  obtain rfl : args = #[v0] := by cases args; simp_all
  obtain ⟨rfl, rfl⟩ := trodVars_none hV
  have k0 := h0
  have lt0 : ∀ x ∈ p0, x.block < W.heap.size := by obtain ⟨m, hm⟩ := k0; exact DataW.trod_lt m _ _ _ hm
  obtain ⟨x0, cs0, rfl, K0, g0⟩ := Op.open_value Try.underlying55 (hval 0 55 v0 rfl rfl) h0 (Op.opens_struct Try.underlying55 (by kernel_rfl) (Op.row_cons rfl (by kernel_rfl) (Op.opens_slice 3 Try.underlying25 (by kernel_rfl) (Op.opens_int Try.underlying3)) (Op.row_cons rfl (by kernel_rfl) (Op.opens_slice 3 Try.underlying25 (by kernel_rfl) (Op.opens_int Try.underlying3)) (Op.row_cons rfl (by kernel_rfl) (Op.opens_int Try.underlying3) (Op.row_cons rfl (by kernel_rfl) (Op.opens_int Try.underlying3) (Op.row_cons rfl (by kernel_rfl) (Op.opens_int Try.underlying3) (Op.row_cons rfl (by kernel_rfl) (Op.opens_int Try.underlying3) (Op.row_cons rfl (by kernel_rfl) (Op.opens_bool Try.underlying4) (Op.row_one rfl (by kernel_rfl) (Op.opens_bool Try.underlying4))))))))))
  obtain ⟨_, _, rfl, ⟨A0_0, c0_0, rfl, l0_0, C0_0⟩, ⟨_, _, rfl, ⟨A0_1, c0_1, rfl, l0_1, C0_1⟩, ⟨_, _, rfl, rfl, ⟨_, _, rfl, rfl, ⟨_, _, rfl, rfl, ⟨_, _, rfl, rfl, ⟨_, _, rfl, rfl, rfl⟩⟩⟩⟩⟩⟩⟩ := K0
  clear hA0 hval0 hsz0
  obtain ⟨k, h⟩ := Pure.FnExactGoodRegs x0.1 x0.2.1 x0.2.2.1 x0.2.2.2.1 x0.2.2.2.2.1 x0.2.2.2.2.2.1 x0.2.2.2.2.2.2.1 x0.2.2.2.2.2.2.2 g0.1 g0.2.1 g0.2.2.1 g0.2.2.2.1 g0.2.2.2.2.1 g0.2.2.2.2.2.1
  refine calls_of_args (args' := #[.agg #[.slice A0_0 (x0.1).length c0_0, .slice A0_1 (x0.2.1).length c0_1, .int .i64 x0.2.2.1, .int .i64 x0.2.2.2.1, .int .i64 x0.2.2.2.2.1, .int .i64 x0.2.2.2.2.2.1, .bool x0.2.2.2.2.2.2.1, .bool x0.2.2.2.2.2.2.2]]) rfl ?_
  refine (laws_FnExactGoodRegs.calls k _ _ x0.1 _ _ x0.2.1 x0.2.2.1 x0.2.2.2.1 x0.2.2.2.2.1 x0.2.2.2.2.2.1 x0.2.2.2.2.2.2.1 x0.2.2.2.2.2.2.2 true W C0_0 l0_0 C0_1 l0_1 h).mono fun e W' ⟨he, bel0⟩ => ?_
  have bel : Below W.heap.size W W' := bel0
  subst he
  exact ⟨_, rfl, _, _, _, [], _, [], hW', trodAll_mk1 (shut_bool Try.underlying4 _), (trodAll_cons_mk (Below.trod laidOut (by kernel_rfl) (of_decide_eq_true (by kernel_rfl)) k0 bel lt0) trodAll_mk0), rfl, bel.frame _, fun h => by cases h⟩
theorem over : Rows.fnExactGoodRegsRow.holds Try.pinned (OpenSpec.ofChange Rows.fnExactGoodRegsSpec) :=
  OpenClaim.holds_of_wide 14 Try.f14 rfl rfl rfl rfl rfl rfl rfl ⟨rfl, rfl, rfl, rfl, rfl⟩ rfl rfl rfl rfl rfl (by kernel_rfl) Try.func14 (by kernel_rfl)
    (of_decide_eq_true (by kernel_rfl)) (by unfold Func.isWrapper; first | (rw [if_pos (by decide +kernel)]; kernel_rfl) | (rw [if_neg (by decide +kernel)]; exact ⟨rfl, rfl⟩))
    (fun os started H enc _ => lifted os started H enc)
theorem proved : Rows.FnExactGoodRegsSaid := over
#print axioms proved
end Go.Proofs.Ytahdahfafmpanaa.fnExactGoodRegs
namespace Go.Proofs.Ytahdahfafmpanaa
theorem fnExactGoodRegs_holds : Rows.FnExactGoodRegsSaid := fnExactGoodRegs.proved
end Go.Proofs.Ytahdahfafmpanaa
