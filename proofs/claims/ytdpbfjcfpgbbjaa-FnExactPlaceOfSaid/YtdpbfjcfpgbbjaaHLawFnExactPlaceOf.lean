/- The row of FnExactPlaceOf: at every input the law answers true and its arguments read as before. No condition. Written by this session's program mkrow.py. -/
import Derived.Test.YtdpbfjcfpgbbjaaRows
import Derived.Test.YtdpbfjcfpgbbjaaHFnExactPlaceOfx
import Derived.Test.YtdpbfjcfpgbbjaaHPureFnExactPlaceOf
import Derived.Test.YtdpbfjcfpgbbjaaOpen
import Derived.WalkKit
import Derived.ProofKit
import Derived.OpenShut
import Derived.ShutString
import Derived.ChangeOld
import Derived.Below
import Derived.SizedLaws
import Derived.Carry
namespace Go.Proofs.Ytdpbfjcfpgbbjaa.fnExactPlaceOf
open Go.ChangeShapes Go.WideShapes Go.ChangeAt Go.RowKit Go.Proofs.YtdpbfjcfpgbbjaaW.PrintWords Go.Proofs.Ytdpbfjcfpgbbjaa.HFnExactPlaceOf
set_option linter.unusedVariables false
theorem own : ownKnob Try.prog.godebug = none := by kernel_rfl
theorem laidOut : laidOutB Try.prog = true := by kernel_rfl
set_option maxRecDepth 100000 in
theorem lifted (os : Os) (started : os.Started) (H : Type) (enc : TypeId × Value → H) :
    ReturnsInHanded {} Try.checked os 7 .any (Rows.fnExactPlaceOfSpec.pre6 enc Try.prog Try.f7 Rows.fnExactPlaceOfRow.domain false) (Rows.fnExactPlaceOfSpec.post enc Try.prog Try.f7 false true false false) := by
  refine returnsInHanded_of_change_sized (C := Try.checked) own started (by kernel_rfl) Try.func7
    (ChangeSpec.witness6 (enc := enc) (C := Try.checked) false ⟨#[], #[.agg #[.slice none 0 0, .slice none 0 0, .int .i64 0, .int .i64 0, .int .i64 0, .int .i64 0, .bool false, .bool false], .int .i64 0, .agg #[.int .i64 0, .int .i64 0, .int .i64 0]], []⟩ 8 (by kernel_rfl) (by kernel_rfl) (by kernel_rfl) (by kernel_rfl)) ?_
  intro W base args ds gs before hval0 hW hcnd hsz0 _
  have hval : ∀ (j : Nat) t v, Try.f7.params[j]? = some t → args[j]? = some v → Value.okWide Try.prog W .any base t v := hval0
  have hW' := hW
  obtain ⟨p, q, hA0, hV, rfl, hfz, hnd⟩ := hW
  have hA : DataW.TrodAll enc Try.prog W 0 (fun _ => true) true Try.f7.params.toList args.toList ds p := hA0
  rw [Try.params7] at hA hval
  obtain ⟨v0, vs0, d0, ds0, p0, q0, hargs, rfl, rfl, h0, r0⟩ := trodAll_cons hA
  obtain ⟨v1, vs1, d1, ds1, p1, q1, rfl, rfl, rfl, h1, r1⟩ := trodAll_cons r0
  obtain ⟨v2, vs2, d2, ds2, p2, q2, rfl, rfl, rfl, h2, r2⟩ := trodAll_cons r1
  obtain ⟨rfl, rfl, rfl⟩ := trodAll_nil r2
  obtain rfl : args = #[v0, v1, v2] := by cases args; simp_all
  obtain ⟨rfl, rfl⟩ := trodVars_none hV
  have k0 := h0
  have lt0 : ∀ x ∈ p0, x.block < W.heap.size := by obtain ⟨m, hm⟩ := k0; exact DataW.trod_lt m _ _ _ hm
  obtain ⟨x0, cs0, rfl, K0, g0⟩ := Op.open_value Try.underlying32 (hval 0 32 v0 rfl rfl) h0 (Op.opens_struct Try.underlying32 (by kernel_rfl) (Op.row_cons rfl (by kernel_rfl) (Op.opens_slice 3 Try.underlying30 (by kernel_rfl) (Op.opens_int Try.underlying3)) (Op.row_cons rfl (by kernel_rfl) (Op.opens_slice 3 Try.underlying30 (by kernel_rfl) (Op.opens_int Try.underlying3)) (Op.row_cons rfl (by kernel_rfl) (Op.opens_int Try.underlying3) (Op.row_cons rfl (by kernel_rfl) (Op.opens_int Try.underlying3) (Op.row_cons rfl (by kernel_rfl) (Op.opens_int Try.underlying3) (Op.row_cons rfl (by kernel_rfl) (Op.opens_int Try.underlying3) (Op.row_cons rfl (by kernel_rfl) (Op.opens_bool Try.underlying4) (Op.row_one rfl (by kernel_rfl) (Op.opens_bool Try.underlying4))))))))))
  obtain ⟨_, _, rfl, ⟨A0_0, c0_0, rfl, l0_0, C0_0⟩, ⟨_, _, rfl, ⟨A0_1, c0_1, rfl, l0_1, C0_1⟩, ⟨_, _, rfl, rfl, ⟨_, _, rfl, rfl, ⟨_, _, rfl, rfl, ⟨_, _, rfl, rfl, ⟨_, _, rfl, rfl, rfl⟩⟩⟩⟩⟩⟩⟩ := K0
  obtain ⟨a1, rfl, rfl, rfl, w1⟩ := open_int Try.underlying3 (hval 1 3 v1 rfl rfl) h1
  have k2 := h2
  have lt2 : ∀ x ∈ p2, x.block < W.heap.size := by obtain ⟨m, hm⟩ := k2; exact DataW.trod_lt m _ _ _ hm
  obtain ⟨x2, cs2, rfl, K2, g2⟩ := Op.open_value Try.underlying55 (hval 2 55 v2 rfl rfl) h2 (Op.opens_struct Try.underlying55 (by kernel_rfl) (Op.row_cons rfl (by kernel_rfl) (Op.opens_int Try.underlying3) (Op.row_cons rfl (by kernel_rfl) (Op.opens_int Try.underlying3) (Op.row_one rfl (by kernel_rfl) (Op.opens_int Try.underlying3)))))
  obtain ⟨_, _, rfl, rfl, ⟨_, _, rfl, rfl, rfl⟩⟩ := K2
  clear hA0 hval0 hsz0
  obtain ⟨k, h⟩ := Pure.FnExactPlaceOf x0.1 x0.2.1 x0.2.2.1 x0.2.2.2.1 x0.2.2.2.2.1 x0.2.2.2.2.2.1 x0.2.2.2.2.2.2.1 x0.2.2.2.2.2.2.2 a1 x2.1 x2.2.1 x2.2.2 g0.1 g0.2.1 g0.2.2.1 g0.2.2.2.1 g0.2.2.2.2.1 g0.2.2.2.2.2.1 w1 g2.1 g2.2.1 g2.2.2
  refine calls_of_args (args' := #[.agg #[.slice A0_0 (x0.1).length c0_0, .slice A0_1 (x0.2.1).length c0_1, .int .i64 x0.2.2.1, .int .i64 x0.2.2.2.1, .int .i64 x0.2.2.2.2.1, .int .i64 x0.2.2.2.2.2.1, .bool x0.2.2.2.2.2.2.1, .bool x0.2.2.2.2.2.2.2], .int .i64 a1, .agg #[.int .i64 x2.1, .int .i64 x2.2.1, .int .i64 x2.2.2]]) rfl ?_
  refine (laws_FnExactPlaceOf.calls k _ _ x0.1 _ _ x0.2.1 x0.2.2.1 x0.2.2.2.1 x0.2.2.2.2.1 x0.2.2.2.2.2.1 x0.2.2.2.2.2.2.1 x0.2.2.2.2.2.2.2 a1 x2.1 x2.2.1 x2.2.2 true W C0_0 l0_0 C0_1 l0_1 h).mono fun e W' ⟨he, bel0⟩ => ?_
  have bel : Below W.heap.size W W' := bel0
  subst he
  exact ⟨_, rfl, _, _, _, [], _, [], hW', trodAll_mk1 (shut_bool Try.underlying4 _), (trodAll_cons_mk (Below.trod laidOut (by kernel_rfl) (of_decide_eq_true (by kernel_rfl)) k0 bel lt0) (trodAll_cons_mk (shut_int Try.underlying3 w1) (trodAll_cons_mk (Below.trod laidOut (by kernel_rfl) (of_decide_eq_true (by kernel_rfl)) k2 bel lt2) trodAll_mk0))), rfl, bel.frame _, fun h => by cases h⟩
theorem over : Rows.fnExactPlaceOfRow.holds Try.pinned (OpenSpec.ofChange Rows.fnExactPlaceOfSpec) :=
  OpenClaim.holds_of_wide 7 Try.f7 rfl rfl rfl rfl rfl rfl rfl ⟨rfl, rfl, rfl, rfl, rfl⟩ rfl rfl rfl rfl rfl (by kernel_rfl) Try.func7 (by kernel_rfl)
    (of_decide_eq_true (by kernel_rfl)) (by unfold Func.isWrapper; first | (rw [if_pos (by decide +kernel)]; kernel_rfl) | (rw [if_neg (by decide +kernel)]; exact ⟨rfl, rfl⟩))
    (fun os started H enc _ => lifted os started H enc)
theorem proved : Rows.FnExactPlaceOfSaid := over
#print axioms proved
end Go.Proofs.Ytdpbfjcfpgbbjaa.fnExactPlaceOf
namespace Go.Proofs.Ytdpbfjcfpgbbjaa
theorem fnExactPlaceOf_holds : Rows.FnExactPlaceOfSaid := fnExactPlaceOf.proved
end Go.Proofs.Ytdpbfjcfpgbbjaa
