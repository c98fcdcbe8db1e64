/- The row of FnExactEncodeAll: at every input the law answers true and its arguments read as before. No condition. Written by this session's program mkrow.py. -/
import Derived.Test.YtedichhlamiigaaRows
import Derived.Test.YtedichhlamiigaaHFnExactEncodeAllx
import Derived.Test.YtedichhlamiigaaHPureFnExactEncodeAll
import Derived.Test.YtedichhlamiigaaOpen
import Derived.WalkKit
import Derived.ProofKit
import Derived.OpenShut
import Derived.ShutString
import Derived.ChangeOld
import Derived.Below
import Derived.SizedLaws
import Derived.Carry
namespace Go.Proofs.Ytedichhlamiigaa.fnExactEncodeAll
open Go.ChangeShapes Go.WideShapes Go.ChangeAt Go.RowKit Go.Proofs.YtedichhlamiigaaW.PrintWords Go.Proofs.Ytedichhlamiigaa.HFnExactEncodeAll
set_option linter.unusedVariables false
theorem own : ownKnob Try.prog.godebug = none := by kernel_rfl
theorem laidOut : laidOutB Try.prog = true := by kernel_rfl
set_option maxRecDepth 100000 in
theorem lifted (os : Os) (started : os.Started) (H : Type) (enc : TypeId × Value → H) :
    ReturnsInHanded {} Try.checked os 9 .any (Rows.fnExactEncodeAllSpec.pre6 enc Try.prog Try.f9 Rows.fnExactEncodeAllRow.domain false) (Rows.fnExactEncodeAllSpec.post enc Try.prog Try.f9 false true false false) := by
  refine returnsInHanded_of_change_sized (C := Try.checked) own started (by kernel_rfl) Try.func9
    (ChangeSpec.witness6 (enc := enc) (C := Try.checked) false ⟨#[], #[.slice none 0 0], []⟩ 8 (by kernel_rfl) (by kernel_rfl) (by kernel_rfl) (by kernel_rfl)) ?_
  intro W base args ds gs before hval0 hW hcnd hsz0 _
  have hval : ∀ (j : Nat) t v, Try.f9.params[j]? = some t → args[j]? = some v → Value.okWide Try.prog W .any base t v := hval0
  have hW' := hW
  obtain ⟨p, q, hA0, hV, rfl, hfz, hnd⟩ := hW
  have hA : DataW.TrodAll enc Try.prog W 0 (fun _ => true) true Try.f9.params.toList args.toList ds p := hA0
  rw [Try.params9] at hA hval
  obtain ⟨v0, vs0, d0, ds0, p0, q0, hargs, rfl, rfl, h0, r0⟩ := trodAll_cons hA
  obtain ⟨rfl, rfl, rfl⟩ := trodAll_nil r0
  obtain rfl : args = #[v0] := by cases args; simp_all
  obtain ⟨rfl, rfl⟩ := trodVars_none hV
  have k0 := h0
  have lt0 : ∀ x ∈ p0, x.block < W.heap.size := by obtain ⟨m, hm⟩ := k0; exact DataW.trod_lt m _ _ _ hm
  obtain ⟨x0, A0, c0, rfl, l0, C0, g0⟩ := Op.open_slice_value Try.underlying28 (hval 0 28 v0 rfl rfl) h0 (Op.opens_slice 57 Try.underlying28 (by kernel_rfl) (Op.opens_iso (fun x : S57 => (x.f0, x.f1, x.f2, x.f3, x.f4)) (fun a => ⟨a.1, a.2.1, a.2.2.1, a.2.2.2.1, a.2.2.2.2⟩) (fun _ => rfl) (Op.opens_struct Try.underlying57 (by kernel_rfl) (Op.row_cons rfl (by kernel_rfl) (Op.opens_int Try.underlying3) (Op.row_cons rfl (by kernel_rfl) (Op.opens_int Try.underlying3) (Op.row_cons rfl (by kernel_rfl) (Op.opens_int Try.underlying3) (Op.row_cons rfl (by kernel_rfl) (Op.opens_iso (fun x : S41 => (x.f0, x.f1, x.f2)) (fun a => ⟨a.1, a.2.1, a.2.2⟩) (fun _ => rfl) (Op.opens_struct Try.underlying41 (by kernel_rfl) (Op.row_cons rfl (by kernel_rfl) (Op.opens_int Try.underlying3) (Op.row_cons rfl (by kernel_rfl) (Op.opens_int Try.underlying3) (Op.row_one rfl (by kernel_rfl) (Op.opens_int Try.underlying3)))))) (Op.row_one rfl (by kernel_rfl) (Op.opens_int Try.underlying3)))))))))
  clear hA0 hval0 hsz0
  obtain ⟨k, h⟩ := Pure.FnExactEncodeAll x0 g0.1
  refine calls_of_args (args' := #[.slice A0 x0.length c0]) rfl ?_
  refine (laws_FnExactEncodeAll.calls k _ _ x0 true W C0 l0 h).mono fun e W' ⟨he, bel0⟩ => ?_
  have bel : Below W.heap.size W W' := bel0
  subst he
  exact ⟨_, rfl, _, _, _, [], _, [], hW', trodAll_mk1 (shut_bool Try.underlying4 _), (trodAll_cons_mk (Below.trod laidOut (by kernel_rfl) (of_decide_eq_true (by kernel_rfl)) k0 bel lt0) trodAll_mk0), rfl, bel.frame _, fun h => by cases h⟩
theorem over : Rows.fnExactEncodeAllRow.holds Try.pinned (OpenSpec.ofChange Rows.fnExactEncodeAllSpec) :=
  OpenClaim.holds_of_wide 9 Try.f9 rfl rfl rfl rfl rfl rfl rfl ⟨rfl, rfl, rfl, rfl, rfl⟩ rfl rfl rfl rfl rfl (by kernel_rfl) Try.func9 (by kernel_rfl)
    (of_decide_eq_true (by kernel_rfl)) (by unfold Func.isWrapper; first | (rw [if_pos (by decide +kernel)]; kernel_rfl) | (rw [if_neg (by decide +kernel)]; exact ⟨rfl, rfl⟩))
    (fun os started H enc _ => lifted os started H enc)
theorem proved : Rows.FnExactEncodeAllSaid := over
#print axioms proved
end Go.Proofs.Ytedichhlamiigaa.fnExactEncodeAll
namespace Go.Proofs.Ytedichhlamiigaa
theorem fnExactEncodeAll_holds : Rows.FnExactEncodeAllSaid := fnExactEncodeAll.proved
end Go.Proofs.Ytedichhlamiigaa
