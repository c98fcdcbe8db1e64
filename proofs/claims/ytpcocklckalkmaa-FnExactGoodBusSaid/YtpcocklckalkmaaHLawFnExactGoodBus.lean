/- The row of FnExactGoodBus: at every input the law answers true and its arguments read as before. No condition. Written by this session's program mkrow.py. -/
import Derived.Test.YtpcocklckalkmaaRows
import Derived.Test.YtpcocklckalkmaaHFnExactGoodBusx
import Derived.Test.YtpcocklckalkmaaHPureFnExactGoodBus
import Derived.Test.YtpcocklckalkmaaOpen
import Derived.WalkKit
import Derived.ProofKit
import Derived.OpenShut
import Derived.ShutString
import Derived.ChangeOld
import Derived.Below
import Derived.SizedLaws
import Derived.Carry
namespace Go.Proofs.Ytpcocklckalkmaa.fnExactGoodBus
open Go.ChangeShapes Go.WideShapes Go.ChangeAt Go.RowKit Go.Proofs.YtpcocklckalkmaaW.PrintWords Go.Proofs.Ytpcocklckalkmaa.HFnExactGoodBus
set_option linter.unusedVariables false
theorem own : ownKnob Try.prog.godebug = none := by kernel_rfl
theorem laidOut : laidOutB Try.prog = true := by kernel_rfl
set_option maxRecDepth 100000 in
theorem lifted (os : Os) (started : os.Started) (H : Type) (enc : TypeId × Value → H) :
    ReturnsInHanded {} Try.checked os 10 .any (Rows.fnExactGoodBusSpec.pre6 enc Try.prog Try.f10 Rows.fnExactGoodBusRow.domain false) (Rows.fnExactGoodBusSpec.post enc Try.prog Try.f10 false true false false) := by
  refine returnsInHanded_of_change_sized (C := Try.checked) own started (by kernel_rfl) Try.func10
    (ChangeSpec.witness6 (enc := enc) (C := Try.checked) false ⟨#[], #[.agg #[.slice none 0 0, .slice none 0 0]], []⟩ 8 (by kernel_rfl) (by kernel_rfl) (by kernel_rfl) (by kernel_rfl)) ?_
  intro W base args ds gs before hval0 hW hcnd hsz0 _
  have hval : ∀ (j : Nat) t v, Try.f10.params[j]? = some t → args[j]? = some v → Value.okWide Try.prog W .any base t v := hval0
  have hW' := hW
  obtain ⟨p, q, hA0, hV, rfl, hfz, hnd⟩ := hW
  have hA : DataW.TrodAll enc Try.prog W 0 (fun _ => true) true Try.f10.params.toList args.toList ds p := hA0
  rw [Try.params10] at hA hval
  obtain ⟨v0, vs0, d0, ds0, p0, q0, hargs, rfl, rfl, h0, r0⟩ := trodAll_cons hA
  obtain ⟨rfl, rfl, rfl⟩ := trodAll_nil r0
  obtain rfl : args = #[v0] := by cases args; simp_all
  obtain ⟨rfl, rfl⟩ := trodVars_none hV
  have k0 := h0
  have lt0 : ∀ x ∈ p0, x.block < W.heap.size := by obtain ⟨m, hm⟩ := k0; exact DataW.trod_lt m _ _ _ hm
  obtain ⟨x0, cs0, rfl, K0, g0⟩ := Op.open_value Try.underlying64 (hval 0 64 v0 rfl rfl) h0 (Op.opens_struct Try.underlying64 (by kernel_rfl) (Op.row_cons rfl (by kernel_rfl) (Op.opens_slice 3 Try.underlying22 (by kernel_rfl) (Op.opens_int Try.underlying3)) (Op.row_one rfl (by kernel_rfl) (Op.opens_slice 119 Try.underlying62 (by kernel_rfl) (Op.opens_iso (fun x : S119 => (x.f0, x.f1, x.f2, x.f3, x.f4)) (fun a => ⟨a.1, a.2.1, a.2.2.1, a.2.2.2.1, a.2.2.2.2⟩) (fun _ => rfl) (Op.opens_struct Try.underlying119 (by kernel_rfl) (Op.row_cons rfl (by kernel_rfl) (Op.opens_int Try.underlying3) (Op.row_cons rfl (by kernel_rfl) (Op.opens_int Try.underlying3) (Op.row_cons rfl (by kernel_rfl) (Op.opens_int Try.underlying3) (Op.row_cons rfl (by kernel_rfl) (Op.opens_int Try.underlying3) (Op.row_one rfl (by kernel_rfl) (Op.opens_int Try.underlying3))))))))))))
  obtain ⟨_, _, rfl, ⟨A0_0, c0_0, rfl, l0_0, C0_0⟩, ⟨A0_1, c0_1, rfl, l0_1, C0_1⟩⟩ := K0
  clear hA0 hval0 hsz0
  obtain ⟨k, h⟩ := Pure.FnExactGoodBus x0.1 x0.2 g0.1 g0.2.1
  refine calls_of_args (args' := #[.agg #[.slice A0_0 (x0.1).length c0_0, .slice A0_1 (x0.2).length c0_1]]) rfl ?_
  refine (laws_FnExactGoodBus.calls k _ _ x0.1 _ _ x0.2 true W C0_0 l0_0 C0_1 l0_1 h).mono fun e W' ⟨he, bel0⟩ => ?_
  have bel : Below W.heap.size W W' := bel0
  subst he
  exact ⟨_, rfl, _, _, _, [], _, [], hW', trodAll_mk1 (shut_bool Try.underlying4 _), (trodAll_cons_mk (Below.trod laidOut (by kernel_rfl) (of_decide_eq_true (by kernel_rfl)) k0 bel lt0) trodAll_mk0), rfl, bel.frame _, fun h => by cases h⟩
theorem over : Rows.fnExactGoodBusRow.holds Try.pinned (OpenSpec.ofChange Rows.fnExactGoodBusSpec) :=
  OpenClaim.holds_of_wide 10 Try.f10 rfl rfl rfl rfl rfl rfl rfl ⟨rfl, rfl, rfl, rfl, rfl⟩ rfl rfl rfl rfl rfl (by kernel_rfl) Try.func10 (by kernel_rfl)
    (of_decide_eq_true (by kernel_rfl)) (by unfold Func.isWrapper; first | (rw [if_pos (by decide +kernel)]; kernel_rfl) | (rw [if_neg (by decide +kernel)]; exact ⟨rfl, rfl⟩))
    (fun os started H enc _ => lifted os started H enc)
theorem proved : Rows.FnExactGoodBusSaid := over
#print axioms proved
end Go.Proofs.Ytpcocklckalkmaa.fnExactGoodBus
namespace Go.Proofs.Ytpcocklckalkmaa
theorem fnExactGoodBus_holds : Rows.FnExactGoodBusSaid := fnExactGoodBus.proved
end Go.Proofs.Ytpcocklckalkmaa
