-- out of hprint.py, this session's own program over the kit's print (see NOTES.md); Lean checks it
import Derived.Test.YtnopjkkglanlfaaDoorHFnExactTextOfx0
import Derived.Test.YtnopjkkglanlfaaDoorHFnExactTextOfx5
import Derived.Test.YtnopjkkglanlfaaDoorHFnExactTextOfx6
import Derived.Test.YtnopjkkglanlfaaDoorHFnExactTextOfx7
namespace Go.Proofs.YtnopjkkglanlfaaDoor.HFnExactTextOf
open Go.RowKit Go.Proofs.YtnopjkkglanlfaaDoorW.PrintWords Go.Proofs.YtnopjkkglanlfaaDoorW.PrintLast Go.Proofs.YtnopjkkglanlfaaDoorW.PrintMore
attribute [local go_sem] max2_int min2_int max_two min_two max_three min_three max_four min_four   -- for this text's walks alone
set_option linter.unusedVariables false
set_option linter.unusedSimpArgs false

/-! ### impl_GoodIns: function 10 -/
def impl_GoodIns.f (k : Nat) (a0_0 : Int) (a0_1 : Int) (a0_2 : Int) (a0_3 : Int) (a0_4 : Int) (a0_5 : Int) (a0_6 : Int) : Option (Bool) := (impl_isSize.f a0_1).bind fun t170 => (if t170 = true then ((impl_within.f a0_2 0 3).bind fun t171 => (if t171 = true then ((impl_within.f a0_6 0 7).bind fun t172 => (if t172 = true then ((impl_GoodOperand.f a0_3 a0_4 a0_5).bind fun t173 => (if t173 = true then (if a0_3 = 7 then (if a0_1 = 1 then (if a0_5 > 255 then (some false) else ((impl_isKind.f k a0_0 a0_1 a0_2 a0_3 a0_4 a0_5 a0_6).bind fun t174 => (some t174))) else ((impl_isKind.f k a0_0 a0_1 a0_2 a0_3 a0_4 a0_5 a0_6).bind fun t175 => (some t175))) else ((impl_isKind.f k a0_0 a0_1 a0_2 a0_3 a0_4 a0_5 a0_6).bind fun t176 => (some t176))) else (some false))) else (some false))) else (some false))) else (some false))
theorem impl_GoodIns.mono : ∀ a0 a1 a2 a3 a4 a5 a6 k, LeO (impl_GoodIns.f k a0 a1 a2 a3 a4 a5 a6) (impl_GoodIns.f (k + 1) a0 a1 a2 a3 a4 a5 a6) := by
  intro a0 a1 a2 a3 a4 a5 a6 k
  unfold impl_GoodIns.f
  repeat' first
      | (with_reducible exact impl_isKind.mono _ _ _ _ _ _ _ _)
      | (with_reducible exact LeO.refl _)
      | (with_reducible exact LeO.none _)
      | (with_reducible refine LeO.ite ?_ ?_)
      | (with_reducible refine LeO.bind ?_ (fun _ => ?_))
      | exact impl_isKind.mono _ _ _ _ _ _ _ _
      | exact LeO.none _
      | refine LeO.ite ?_ ?_
      | refine LeO.bind ?_ (fun _ => ?_)
set_option maxHeartbeats 8000000 in
set_option maxRecDepth 100000 in
theorem impl_GoodIns.calls (k : Nat) (a0_0 : Int) (a0_1 : Int) (a0_2 : Int) (a0_3 : Int) (a0_4 : Int) (a0_5 : Int) (a0_6 : Int) (r : Bool) (w : World) (h : impl_GoodIns.f k a0_0 a0_1 a0_2 a0_3 a0_4 a0_5 a0_6 = some r) :
    Calls Tryd.prog 10 #[.agg #[.int .i64 a0_0, .int .i64 a0_1, .int .i64 a0_2, .int .i64 a0_3, .int .i64 a0_4, .int .i64 a0_5, .int .i64 a0_6]] w fun e w' => e = .returned (.bool r) ∧ Below w.heap.size w w' := by
  have hu30 := Tryd.underlying30
  have hu28 := Tryd.underlying28
  have HB := Aside0.mk (Below.refl w.heap.size w)
  have H : ((impl_isSize.f a0_1).bind fun t170 => (if t170 = true then ((impl_within.f a0_2 0 3).bind fun t171 => (if t171 = true then ((impl_within.f a0_6 0 7).bind fun t172 => (if t172 = true then ((impl_GoodOperand.f a0_3 a0_4 a0_5).bind fun t173 => (if t173 = true then (if a0_3 = 7 then (if a0_1 = 1 then (if a0_5 > 255 then (some false) else ((impl_isKind.f k a0_0 a0_1 a0_2 a0_3 a0_4 a0_5 a0_6).bind fun t174 => (some t174))) else ((impl_isKind.f k a0_0 a0_1 a0_2 a0_3 a0_4 a0_5 a0_6).bind fun t175 => (some t175))) else ((impl_isKind.f k a0_0 a0_1 a0_2 a0_3 a0_4 a0_5 a0_6).bind fun t176 => (some t176))) else (some false))) else (some false))) else (some false))) else (some false))) = some r := h
  clear h
  replace H := Option.bind_eq_some_iff.mp H
  obtain ⟨t170, A20, H⟩ := H
  replace H : (if t170 = true then ((impl_within.f a0_2 0 3).bind fun t171 => (if t171 = true then ((impl_within.f a0_6 0 7).bind fun t172 => (if t172 = true then ((impl_GoodOperand.f a0_3 a0_4 a0_5).bind fun t173 => (if t173 = true then (if a0_3 = 7 then (if a0_1 = 1 then (if a0_5 > 255 then (some false) else ((impl_isKind.f k a0_0 a0_1 a0_2 a0_3 a0_4 a0_5 a0_6).bind fun t174 => (some t174))) else ((impl_isKind.f k a0_0 a0_1 a0_2 a0_3 a0_4 a0_5 a0_6).bind fun t175 => (some t175))) else ((impl_isKind.f k a0_0 a0_1 a0_2 a0_3 a0_4 a0_5 a0_6).bind fun t176 => (some t176))) else (some false))) else (some false))) else (some false))) else (some false)) = some r := H
  have A2 := Aside0.mk A20
  clear A20
  by_cases c3 : t170 = true
  · as_aux_lemma =>
    subst c3
    have H1 : ((impl_within.f a0_2 0 3).bind fun t171 => (if t171 = true then ((impl_within.f a0_6 0 7).bind fun t172 => (if t172 = true then ((impl_GoodOperand.f a0_3 a0_4 a0_5).bind fun t173 => (if t173 = true then (if a0_3 = 7 then (if a0_1 = 1 then (if a0_5 > 255 then (some false) else ((impl_isKind.f k a0_0 a0_1 a0_2 a0_3 a0_4 a0_5 a0_6).bind fun t174 => (some t174))) else ((impl_isKind.f k a0_0 a0_1 a0_2 a0_3 a0_4 a0_5 a0_6).bind fun t175 => (some t175))) else ((impl_isKind.f k a0_0 a0_1 a0_2 a0_3 a0_4 a0_5 a0_6).bind fun t176 => (some t176))) else (some false))) else (some false))) else (some false))) = some r := by rw [if_pos rfl] at H; exact H
    clear H
    have H := H1
    clear H1
    replace H := Option.bind_eq_some_iff.mp H
    obtain ⟨t171, A40, H⟩ := H
    replace H : (if t171 = true then ((impl_within.f a0_6 0 7).bind fun t172 => (if t172 = true then ((impl_GoodOperand.f a0_3 a0_4 a0_5).bind fun t173 => (if t173 = true then (if a0_3 = 7 then (if a0_1 = 1 then (if a0_5 > 255 then (some false) else ((impl_isKind.f k a0_0 a0_1 a0_2 a0_3 a0_4 a0_5 a0_6).bind fun t174 => (some t174))) else ((impl_isKind.f k a0_0 a0_1 a0_2 a0_3 a0_4 a0_5 a0_6).bind fun t175 => (some t175))) else ((impl_isKind.f k a0_0 a0_1 a0_2 a0_3 a0_4 a0_5 a0_6).bind fun t176 => (some t176))) else (some false))) else (some false))) else (some false)) = some r := H
    have A4 := Aside0.mk A40
    clear A40
    by_cases c5 : t171 = true
    · as_aux_lemma =>
      subst c5
      have H1 : ((impl_within.f a0_6 0 7).bind fun t172 => (if t172 = true then ((impl_GoodOperand.f a0_3 a0_4 a0_5).bind fun t173 => (if t173 = true then (if a0_3 = 7 then (if a0_1 = 1 then (if a0_5 > 255 then (some false) else ((impl_isKind.f k a0_0 a0_1 a0_2 a0_3 a0_4 a0_5 a0_6).bind fun t174 => (some t174))) else ((impl_isKind.f k a0_0 a0_1 a0_2 a0_3 a0_4 a0_5 a0_6).bind fun t175 => (some t175))) else ((impl_isKind.f k a0_0 a0_1 a0_2 a0_3 a0_4 a0_5 a0_6).bind fun t176 => (some t176))) else (some false))) else (some false))) = some r := by rw [if_pos rfl] at H; exact H
      clear H
      have H := H1
      clear H1
      replace H := Option.bind_eq_some_iff.mp H
      obtain ⟨t172, A60, H⟩ := H
      replace H : (if t172 = true then ((impl_GoodOperand.f a0_3 a0_4 a0_5).bind fun t173 => (if t173 = true then (if a0_3 = 7 then (if a0_1 = 1 then (if a0_5 > 255 then (some false) else ((impl_isKind.f k a0_0 a0_1 a0_2 a0_3 a0_4 a0_5 a0_6).bind fun t174 => (some t174))) else ((impl_isKind.f k a0_0 a0_1 a0_2 a0_3 a0_4 a0_5 a0_6).bind fun t175 => (some t175))) else ((impl_isKind.f k a0_0 a0_1 a0_2 a0_3 a0_4 a0_5 a0_6).bind fun t176 => (some t176))) else (some false))) else (some false)) = some r := H
      have A6 := Aside0.mk A60
      clear A60
      by_cases c7 : t172 = true
      · as_aux_lemma =>
        subst c7
        have H1 : ((impl_GoodOperand.f a0_3 a0_4 a0_5).bind fun t173 => (if t173 = true then (if a0_3 = 7 then (if a0_1 = 1 then (if a0_5 > 255 then (some false) else ((impl_isKind.f k a0_0 a0_1 a0_2 a0_3 a0_4 a0_5 a0_6).bind fun t174 => (some t174))) else ((impl_isKind.f k a0_0 a0_1 a0_2 a0_3 a0_4 a0_5 a0_6).bind fun t175 => (some t175))) else ((impl_isKind.f k a0_0 a0_1 a0_2 a0_3 a0_4 a0_5 a0_6).bind fun t176 => (some t176))) else (some false))) = some r := by rw [if_pos rfl] at H; exact H
        clear H
        have H := H1
        clear H1
        replace H := Option.bind_eq_some_iff.mp H
        obtain ⟨t173, A80, H⟩ := H
        replace H : (if t173 = true then (if a0_3 = 7 then (if a0_1 = 1 then (if a0_5 > 255 then (some false) else ((impl_isKind.f k a0_0 a0_1 a0_2 a0_3 a0_4 a0_5 a0_6).bind fun t174 => (some t174))) else ((impl_isKind.f k a0_0 a0_1 a0_2 a0_3 a0_4 a0_5 a0_6).bind fun t175 => (some t175))) else ((impl_isKind.f k a0_0 a0_1 a0_2 a0_3 a0_4 a0_5 a0_6).bind fun t176 => (some t176))) else (some false)) = some r := H
        have A8 := Aside0.mk A80
        clear A80
        by_cases c9 : t173 = true
        · as_aux_lemma =>
          subst c9
          have H1 : (if a0_3 = 7 then (if a0_1 = 1 then (if a0_5 > 255 then (some false) else ((impl_isKind.f k a0_0 a0_1 a0_2 a0_3 a0_4 a0_5 a0_6).bind fun t174 => (some t174))) else ((impl_isKind.f k a0_0 a0_1 a0_2 a0_3 a0_4 a0_5 a0_6).bind fun t175 => (some t175))) else ((impl_isKind.f k a0_0 a0_1 a0_2 a0_3 a0_4 a0_5 a0_6).bind fun t176 => (some t176))) = some r := by rw [if_pos rfl] at H; exact H
          clear H
          have H := H1
          clear H1
          by_cases c10 : a0_3 = 7
          · as_aux_lemma =>
            rw [if_pos c10] at H
            have c10b0 : (a0_3 == 7) = true := beq_iff_eq.mpr c10
            have c10b1 : (a0_3 != 7) = false := bne_eq_false_iff_eq.mpr c10
            clear c10
            by_cases c11 : a0_1 = 1
            · as_aux_lemma =>
              rw [if_pos c11] at H
              have c11b0 : (a0_1 == 1) = true := beq_iff_eq.mpr c11
              have c11b1 : (a0_1 != 1) = false := bne_eq_false_iff_eq.mpr c11
              clear c11
              by_cases c12 : a0_5 > 255
              · as_aux_lemma =>
                rw [if_pos c12] at H
                have c12b0 : decide (255 < a0_5) = true := decide_eq_true c12
                clear c12
                obtain rfl := Option.some.inj H
                go_enter Tryd.func10, Tryd.ntmps10
                go_wp2_with (first | ((with_reducible refine gate_dst (N := 1) rfl ?_); refine box_event ?hg (N := 1) ?hd (cs := #[.int .i64 a0_0, .int .i64 a0_1, .int .i64 a0_2, .int .i64 a0_3, .int .i64 a0_4, .int .i64 a0_5, .int .i64 a0_6]) (t := 30) ?hr ?_; (case hd => rfl); (case hg => rfl); (case hr => first | (go_simp; done) | (go_simp; rfl)); intro gb169 hg w13 hbox hb; have n0_ := Aside0.mk (below_step (by repeat (first | (with_reducible first | exact HB.out | apply below_alloc | apply pw_below_drewN | apply below_drew1) | exact HB.out)) hb); have n1_ := Aside0.mk (hbox); have n2_ := Aside0.mk ((by rw [hg]; exact (below_size (by repeat (first | (with_reducible first | exact HB.out | apply below_alloc | apply pw_below_drewN | apply below_drew1) | exact HB.out))) : w.heap.size ≤ gb169)); have n3_ := Aside0.mk ((by rw [hg]; exact (below_size (by repeat (first | (with_reducible first | exact HB.out | apply below_alloc | apply pw_below_drewN | apply below_drew1) | exact HB.out))) : w.heap.size ≤ gb169)); clear HB; have HB := n0_; have BK169 := n1_; have GW169 := n2_; have GE169 := n3_; clear n0_ n1_ n2_ n3_; clear hb hbox hg; have hcz14_0 : w13.cell? ⟨gb169, 0, none⟩ = some (.int .i64 a0_0) := (blk_cell BK169.out 0).trans rfl; have hcz14_1 : w13.cell? ⟨gb169, 1, none⟩ = some (.int .i64 a0_1) := (blk_cell BK169.out 1).trans rfl; have hcz14_2 : w13.cell? ⟨gb169, 2, none⟩ = some (.int .i64 a0_2) := (blk_cell BK169.out 2).trans rfl; have hcz14_3 : w13.cell? ⟨gb169, 3, none⟩ = some (.int .i64 a0_3) := (blk_cell BK169.out 3).trans rfl; have hcz14_4 : w13.cell? ⟨gb169, 4, none⟩ = some (.int .i64 a0_4) := (blk_cell BK169.out 4).trans rfl; have hcz14_5 : w13.cell? ⟨gb169, 5, none⟩ = some (.int .i64 a0_5) := (blk_cell BK169.out 5).trans rfl; have hcz14_6 : w13.cell? ⟨gb169, 6, none⟩ = some (.int .i64 a0_6) := (blk_cell BK169.out 6).trans rfl; have hfz14_0 := blk_frozen BK169.out 0; have hfz14_1 := blk_frozen BK169.out 1; have hfz14_2 := blk_frozen BK169.out 2; have hfz14_3 := blk_frozen BK169.out 3; have hfz14_4 := blk_frozen BK169.out 4; have hfz14_5 := blk_frozen BK169.out 5; have hfz14_6 := blk_frozen BK169.out 6) | ((with_reducible refine gate_callee (f := 19) rfl ?_); refine goesL_ (some 5) rfl rfl Tryd.func19 (by kernel_rfl) rfl #[.int .i64 a0_1] rfl (by (try simp only [List.map_toArray, List.map_cons, List.map_nil]); first | done | rfl | (simp only [List.length_drop, List.length_take]; rfl)) ?_; (with_reducible refine (impl_isSize.calls a0_1 true _ A2.out).mono ?_); rintro e w' ⟨rfl, ⟨nd, rfl⟩⟩; refine ⟨_, rfl, ?_⟩) | (go_at_call 20; (with_reducible refine (impl_within.calls a0_2 0 3 true _ A4.out).mono ?_); rintro e w' ⟨rfl, ⟨nd, rfl⟩⟩) | (go_at_call 20; (with_reducible refine (impl_within.calls a0_6 0 7 true _ A6.out).mono ?_); rintro e w' ⟨rfl, ⟨nd, rfl⟩⟩) | (go_at_call 21; (with_reducible refine (impl_GoodOperand.calls a0_3 a0_4 a0_5 true _ A8.out).mono ?_); rintro e w15 ⟨rfl, hb⟩; have n0_ := Aside0.mk (blk_below (g := gb169) (o := .cells #[.int .i64 a0_0, .int .i64 a0_1, .int .i64 a0_2, .int .i64 a0_3, .int .i64 a0_4, .int .i64 a0_5, .int .i64 a0_6] 30 (0, 0)) (by (with_reducible repeat (first | refine blk_drewN ?_ _ | refine blk_drew ?_ | refine blk_alloc ?_ _)); exact BK169.out) hb); have n1_ := Aside0.mk (below_step (by repeat (first | (with_reducible first | exact HB.out | apply below_alloc | apply pw_below_drewN | apply below_drew1 | refine below_set ?_ GE169.out) | exact HB.out)) hb); clear BK169; clear HB; have BK169 := n0_; have HB := n1_; clear n0_ n1_; (try clear hb); (try clear hb2); (try clear hk); (try clear hi); have hcz16_0 : w15.cell? ⟨gb169, 0, none⟩ = some (.int .i64 a0_0) := (blk_cell BK169.out 0).trans rfl; have hcz16_1 : w15.cell? ⟨gb169, 1, none⟩ = some (.int .i64 a0_1) := (blk_cell BK169.out 1).trans rfl; have hcz16_2 : w15.cell? ⟨gb169, 2, none⟩ = some (.int .i64 a0_2) := (blk_cell BK169.out 2).trans rfl; have hcz16_3 : w15.cell? ⟨gb169, 3, none⟩ = some (.int .i64 a0_3) := (blk_cell BK169.out 3).trans rfl; have hcz16_4 : w15.cell? ⟨gb169, 4, none⟩ = some (.int .i64 a0_4) := (blk_cell BK169.out 4).trans rfl; have hcz16_5 : w15.cell? ⟨gb169, 5, none⟩ = some (.int .i64 a0_5) := (blk_cell BK169.out 5).trans rfl; have hcz16_6 : w15.cell? ⟨gb169, 6, none⟩ = some (.int .i64 a0_6) := (blk_cell BK169.out 6).trans rfl; have hfz16_0 := blk_frozen BK169.out 0; have hfz16_1 := blk_frozen BK169.out 1; have hfz16_2 := blk_frozen BK169.out 2; have hfz16_3 := blk_frozen BK169.out 3; have hfz16_4 := blk_frozen BK169.out 4; have hfz16_5 := blk_frozen BK169.out 5; have hfz16_6 := blk_frozen BK169.out 6))
                go_ret
                exact ⟨by first | rfl | (simp [errW_none, errW_some] <;> rfl) | (simp [*, errW_none, errW_some] <;> rfl), by repeat (first | (with_reducible first | exact HB.out | apply below_alloc | apply pw_below_drewN | apply below_drew1 | refine below_set ?_ GE169.out) | exact HB.out)⟩
              · as_aux_lemma =>
                rw [if_neg c12] at H
                have c12b0 : decide (255 < a0_5) = false := decide_eq_false c12
                clear c12
                replace H := Option.bind_eq_some_iff.mp H
                obtain ⟨t174, A170, H⟩ := H
                replace H : (some t174) = some r := H
                have A17 := Aside0.mk A170
                clear A170
                obtain rfl := Option.some.inj H
                go_enter Tryd.func10, Tryd.ntmps10
                go_wp2_with (first | ((with_reducible refine gate_dst (N := 1) rfl ?_); refine box_event ?hg (N := 1) ?hd (cs := #[.int .i64 a0_0, .int .i64 a0_1, .int .i64 a0_2, .int .i64 a0_3, .int .i64 a0_4, .int .i64 a0_5, .int .i64 a0_6]) (t := 30) ?hr ?_; (case hd => rfl); (case hg => rfl); (case hr => first | (go_simp; done) | (go_simp; rfl)); intro gb169 hg w18 hbox hb; have n0_ := Aside0.mk (below_step (by repeat (first | (with_reducible first | exact HB.out | apply below_alloc | apply pw_below_drewN | apply below_drew1) | exact HB.out)) hb); have n1_ := Aside0.mk (hbox); have n2_ := Aside0.mk ((by rw [hg]; exact (below_size (by repeat (first | (with_reducible first | exact HB.out | apply below_alloc | apply pw_below_drewN | apply below_drew1) | exact HB.out))) : w.heap.size ≤ gb169)); have n3_ := Aside0.mk ((by rw [hg]; exact (below_size (by repeat (first | (with_reducible first | exact HB.out | apply below_alloc | apply pw_below_drewN | apply below_drew1) | exact HB.out))) : w.heap.size ≤ gb169)); clear HB; have HB := n0_; have BK169 := n1_; have GW169 := n2_; have GE169 := n3_; clear n0_ n1_ n2_ n3_; clear hb hbox hg; have hcz19_0 : w18.cell? ⟨gb169, 0, none⟩ = some (.int .i64 a0_0) := (blk_cell BK169.out 0).trans rfl; have hcz19_1 : w18.cell? ⟨gb169, 1, none⟩ = some (.int .i64 a0_1) := (blk_cell BK169.out 1).trans rfl; have hcz19_2 : w18.cell? ⟨gb169, 2, none⟩ = some (.int .i64 a0_2) := (blk_cell BK169.out 2).trans rfl; have hcz19_3 : w18.cell? ⟨gb169, 3, none⟩ = some (.int .i64 a0_3) := (blk_cell BK169.out 3).trans rfl; have hcz19_4 : w18.cell? ⟨gb169, 4, none⟩ = some (.int .i64 a0_4) := (blk_cell BK169.out 4).trans rfl; have hcz19_5 : w18.cell? ⟨gb169, 5, none⟩ = some (.int .i64 a0_5) := (blk_cell BK169.out 5).trans rfl; have hcz19_6 : w18.cell? ⟨gb169, 6, none⟩ = some (.int .i64 a0_6) := (blk_cell BK169.out 6).trans rfl; have hfz19_0 := blk_frozen BK169.out 0; have hfz19_1 := blk_frozen BK169.out 1; have hfz19_2 := blk_frozen BK169.out 2; have hfz19_3 := blk_frozen BK169.out 3; have hfz19_4 := blk_frozen BK169.out 4; have hfz19_5 := blk_frozen BK169.out 5; have hfz19_6 := blk_frozen BK169.out 6) | ((with_reducible refine gate_callee (f := 19) rfl ?_); refine goesL_ (some 5) rfl rfl Tryd.func19 (by kernel_rfl) rfl #[.int .i64 a0_1] rfl (by (try simp only [List.map_toArray, List.map_cons, List.map_nil]); first | done | rfl | (simp only [List.length_drop, List.length_take]; rfl)) ?_; (with_reducible refine (impl_isSize.calls a0_1 true _ A2.out).mono ?_); rintro e w' ⟨rfl, ⟨nd, rfl⟩⟩; refine ⟨_, rfl, ?_⟩) | (go_at_call 20; (with_reducible refine (impl_within.calls a0_2 0 3 true _ A4.out).mono ?_); rintro e w' ⟨rfl, ⟨nd, rfl⟩⟩) | (go_at_call 20; (with_reducible refine (impl_within.calls a0_6 0 7 true _ A6.out).mono ?_); rintro e w' ⟨rfl, ⟨nd, rfl⟩⟩) | (go_at_call 21; (with_reducible refine (impl_GoodOperand.calls a0_3 a0_4 a0_5 true _ A8.out).mono ?_); rintro e w20 ⟨rfl, hb⟩; have n0_ := Aside0.mk (blk_below (g := gb169) (o := .cells #[.int .i64 a0_0, .int .i64 a0_1, .int .i64 a0_2, .int .i64 a0_3, .int .i64 a0_4, .int .i64 a0_5, .int .i64 a0_6] 30 (0, 0)) (by (with_reducible repeat (first | refine blk_drewN ?_ _ | refine blk_drew ?_ | refine blk_alloc ?_ _)); exact BK169.out) hb); have n1_ := Aside0.mk (below_step (by repeat (first | (with_reducible first | exact HB.out | apply below_alloc | apply pw_below_drewN | apply below_drew1 | refine below_set ?_ GE169.out) | exact HB.out)) hb); clear BK169; clear HB; have BK169 := n0_; have HB := n1_; clear n0_ n1_; (try clear hb); (try clear hb2); (try clear hk); (try clear hi); have hcz21_0 : w20.cell? ⟨gb169, 0, none⟩ = some (.int .i64 a0_0) := (blk_cell BK169.out 0).trans rfl; have hcz21_1 : w20.cell? ⟨gb169, 1, none⟩ = some (.int .i64 a0_1) := (blk_cell BK169.out 1).trans rfl; have hcz21_2 : w20.cell? ⟨gb169, 2, none⟩ = some (.int .i64 a0_2) := (blk_cell BK169.out 2).trans rfl; have hcz21_3 : w20.cell? ⟨gb169, 3, none⟩ = some (.int .i64 a0_3) := (blk_cell BK169.out 3).trans rfl; have hcz21_4 : w20.cell? ⟨gb169, 4, none⟩ = some (.int .i64 a0_4) := (blk_cell BK169.out 4).trans rfl; have hcz21_5 : w20.cell? ⟨gb169, 5, none⟩ = some (.int .i64 a0_5) := (blk_cell BK169.out 5).trans rfl; have hcz21_6 : w20.cell? ⟨gb169, 6, none⟩ = some (.int .i64 a0_6) := (blk_cell BK169.out 6).trans rfl; have hfz21_0 := blk_frozen BK169.out 0; have hfz21_1 := blk_frozen BK169.out 1; have hfz21_2 := blk_frozen BK169.out 2; have hfz21_3 := blk_frozen BK169.out 3; have hfz21_4 := blk_frozen BK169.out 4; have hfz21_5 := blk_frozen BK169.out 5; have hfz21_6 := blk_frozen BK169.out 6) | (go_at_call 22; (with_reducible refine (impl_isKind.calls k a0_0 a0_1 a0_2 a0_3 a0_4 a0_5 a0_6 t174 _ A17.out).mono ?_); rintro e w22 ⟨rfl, hb⟩; have n0_ := Aside0.mk (blk_below (g := gb169) (o := .cells #[.int .i64 a0_0, .int .i64 a0_1, .int .i64 a0_2, .int .i64 a0_3, .int .i64 a0_4, .int .i64 a0_5, .int .i64 a0_6] 30 (0, 0)) (by (with_reducible repeat (first | refine blk_drewN ?_ _ | refine blk_drew ?_ | refine blk_alloc ?_ _)); exact BK169.out) hb); have n1_ := Aside0.mk (below_step (by repeat (first | (with_reducible first | exact HB.out | apply below_alloc | apply pw_below_drewN | apply below_drew1 | refine below_set ?_ GE169.out) | exact HB.out)) hb); clear BK169; clear HB; have BK169 := n0_; have HB := n1_; clear n0_ n1_; (try clear hb); (try clear hb2); (try clear hk); (try clear hi)))
                go_ret
                exact ⟨by first | rfl | (simp [errW_none, errW_some] <;> rfl) | (simp [*, errW_none, errW_some] <;> rfl), by repeat (first | (with_reducible first | exact HB.out | apply below_alloc | apply pw_below_drewN | apply below_drew1 | refine below_set ?_ GE169.out) | exact HB.out)⟩
            · as_aux_lemma =>
              rw [if_neg c11] at H
              have c11b0 : (a0_1 == 1) = false := beq_eq_false_iff_ne.mpr c11
              have c11b1 : (a0_1 != 1) = true := bne_iff_ne.mpr c11
              replace H := Option.bind_eq_some_iff.mp H
              obtain ⟨t175, A230, H⟩ := H
              replace H : (some t175) = some r := H
              have A23 := Aside0.mk A230
              clear A230
              obtain rfl := Option.some.inj H
              go_enter Tryd.func10, Tryd.ntmps10
              go_wp2_with (first | ((with_reducible refine gate_dst (N := 1) rfl ?_); refine box_event ?hg (N := 1) ?hd (cs := #[.int .i64 a0_0, .int .i64 a0_1, .int .i64 a0_2, .int .i64 a0_3, .int .i64 a0_4, .int .i64 a0_5, .int .i64 a0_6]) (t := 30) ?hr ?_; (case hd => rfl); (case hg => rfl); (case hr => first | (go_simp; done) | (go_simp; rfl)); intro gb169 hg w24 hbox hb; have n0_ := Aside0.mk (below_step (by repeat (first | (with_reducible first | exact HB.out | apply below_alloc | apply pw_below_drewN | apply below_drew1) | exact HB.out)) hb); have n1_ := Aside0.mk (hbox); have n2_ := Aside0.mk ((by rw [hg]; exact (below_size (by repeat (first | (with_reducible first | exact HB.out | apply below_alloc | apply pw_below_drewN | apply below_drew1) | exact HB.out))) : w.heap.size ≤ gb169)); have n3_ := Aside0.mk ((by rw [hg]; exact (below_size (by repeat (first | (with_reducible first | exact HB.out | apply below_alloc | apply pw_below_drewN | apply below_drew1) | exact HB.out))) : w.heap.size ≤ gb169)); clear HB; have HB := n0_; have BK169 := n1_; have GW169 := n2_; have GE169 := n3_; clear n0_ n1_ n2_ n3_; clear hb hbox hg; have hcz25_0 : w24.cell? ⟨gb169, 0, none⟩ = some (.int .i64 a0_0) := (blk_cell BK169.out 0).trans rfl; have hcz25_1 : w24.cell? ⟨gb169, 1, none⟩ = some (.int .i64 a0_1) := (blk_cell BK169.out 1).trans rfl; have hcz25_2 : w24.cell? ⟨gb169, 2, none⟩ = some (.int .i64 a0_2) := (blk_cell BK169.out 2).trans rfl; have hcz25_3 : w24.cell? ⟨gb169, 3, none⟩ = some (.int .i64 a0_3) := (blk_cell BK169.out 3).trans rfl; have hcz25_4 : w24.cell? ⟨gb169, 4, none⟩ = some (.int .i64 a0_4) := (blk_cell BK169.out 4).trans rfl; have hcz25_5 : w24.cell? ⟨gb169, 5, none⟩ = some (.int .i64 a0_5) := (blk_cell BK169.out 5).trans rfl; have hcz25_6 : w24.cell? ⟨gb169, 6, none⟩ = some (.int .i64 a0_6) := (blk_cell BK169.out 6).trans rfl; have hfz25_0 := blk_frozen BK169.out 0; have hfz25_1 := blk_frozen BK169.out 1; have hfz25_2 := blk_frozen BK169.out 2; have hfz25_3 := blk_frozen BK169.out 3; have hfz25_4 := blk_frozen BK169.out 4; have hfz25_5 := blk_frozen BK169.out 5; have hfz25_6 := blk_frozen BK169.out 6) | ((with_reducible refine gate_callee (f := 19) rfl ?_); refine goesL_ (some 5) rfl rfl Tryd.func19 (by kernel_rfl) rfl #[.int .i64 a0_1] rfl (by (try simp only [List.map_toArray, List.map_cons, List.map_nil]); first | done | rfl | (simp only [List.length_drop, List.length_take]; rfl)) ?_; (with_reducible refine (impl_isSize.calls a0_1 true _ A2.out).mono ?_); rintro e w' ⟨rfl, ⟨nd, rfl⟩⟩; refine ⟨_, rfl, ?_⟩) | (go_at_call 20; (with_reducible refine (impl_within.calls a0_2 0 3 true _ A4.out).mono ?_); rintro e w' ⟨rfl, ⟨nd, rfl⟩⟩) | (go_at_call 20; (with_reducible refine (impl_within.calls a0_6 0 7 true _ A6.out).mono ?_); rintro e w' ⟨rfl, ⟨nd, rfl⟩⟩) | (go_at_call 21; (with_reducible refine (impl_GoodOperand.calls a0_3 a0_4 a0_5 true _ A8.out).mono ?_); rintro e w26 ⟨rfl, hb⟩; have n0_ := Aside0.mk (blk_below (g := gb169) (o := .cells #[.int .i64 a0_0, .int .i64 a0_1, .int .i64 a0_2, .int .i64 a0_3, .int .i64 a0_4, .int .i64 a0_5, .int .i64 a0_6] 30 (0, 0)) (by (with_reducible repeat (first | refine blk_drewN ?_ _ | refine blk_drew ?_ | refine blk_alloc ?_ _)); exact BK169.out) hb); have n1_ := Aside0.mk (below_step (by repeat (first | (with_reducible first | exact HB.out | apply below_alloc | apply pw_below_drewN | apply below_drew1 | refine below_set ?_ GE169.out) | exact HB.out)) hb); clear BK169; clear HB; have BK169 := n0_; have HB := n1_; clear n0_ n1_; (try clear hb); (try clear hb2); (try clear hk); (try clear hi); have hcz27_0 : w26.cell? ⟨gb169, 0, none⟩ = some (.int .i64 a0_0) := (blk_cell BK169.out 0).trans rfl; have hcz27_1 : w26.cell? ⟨gb169, 1, none⟩ = some (.int .i64 a0_1) := (blk_cell BK169.out 1).trans rfl; have hcz27_2 : w26.cell? ⟨gb169, 2, none⟩ = some (.int .i64 a0_2) := (blk_cell BK169.out 2).trans rfl; have hcz27_3 : w26.cell? ⟨gb169, 3, none⟩ = some (.int .i64 a0_3) := (blk_cell BK169.out 3).trans rfl; have hcz27_4 : w26.cell? ⟨gb169, 4, none⟩ = some (.int .i64 a0_4) := (blk_cell BK169.out 4).trans rfl; have hcz27_5 : w26.cell? ⟨gb169, 5, none⟩ = some (.int .i64 a0_5) := (blk_cell BK169.out 5).trans rfl; have hcz27_6 : w26.cell? ⟨gb169, 6, none⟩ = some (.int .i64 a0_6) := (blk_cell BK169.out 6).trans rfl; have hfz27_0 := blk_frozen BK169.out 0; have hfz27_1 := blk_frozen BK169.out 1; have hfz27_2 := blk_frozen BK169.out 2; have hfz27_3 := blk_frozen BK169.out 3; have hfz27_4 := blk_frozen BK169.out 4; have hfz27_5 := blk_frozen BK169.out 5; have hfz27_6 := blk_frozen BK169.out 6) | (go_at_call 22; (with_reducible refine (impl_isKind.calls k a0_0 a0_1 a0_2 a0_3 a0_4 a0_5 a0_6 t175 _ A23.out).mono ?_); rintro e w28 ⟨rfl, hb⟩; have n0_ := Aside0.mk (blk_below (g := gb169) (o := .cells #[.int .i64 a0_0, .int .i64 a0_1, .int .i64 a0_2, .int .i64 a0_3, .int .i64 a0_4, .int .i64 a0_5, .int .i64 a0_6] 30 (0, 0)) (by (with_reducible repeat (first | refine blk_drewN ?_ _ | refine blk_drew ?_ | refine blk_alloc ?_ _)); exact BK169.out) hb); have n1_ := Aside0.mk (below_step (by repeat (first | (with_reducible first | exact HB.out | apply below_alloc | apply pw_below_drewN | apply below_drew1 | refine below_set ?_ GE169.out) | exact HB.out)) hb); clear BK169; clear HB; have BK169 := n0_; have HB := n1_; clear n0_ n1_; (try clear hb); (try clear hb2); (try clear hk); (try clear hi)))
              go_ret
              exact ⟨by first | rfl | (simp [errW_none, errW_some] <;> rfl) | (simp [*, errW_none, errW_some] <;> rfl), by repeat (first | (with_reducible first | exact HB.out | apply below_alloc | apply pw_below_drewN | apply below_drew1 | refine below_set ?_ GE169.out) | exact HB.out)⟩
          · as_aux_lemma =>
            rw [if_neg c10] at H
            have c10b0 : (a0_3 == 7) = false := beq_eq_false_iff_ne.mpr c10
            have c10b1 : (a0_3 != 7) = true := bne_iff_ne.mpr c10
            replace H := Option.bind_eq_some_iff.mp H
            obtain ⟨t176, A290, H⟩ := H
            replace H : (some t176) = some r := H
            have A29 := Aside0.mk A290
            clear A290
            obtain rfl := Option.some.inj H
            go_enter Tryd.func10, Tryd.ntmps10
            go_wp2_with (first | ((with_reducible refine gate_dst (N := 1) rfl ?_); refine box_event ?hg (N := 1) ?hd (cs := #[.int .i64 a0_0, .int .i64 a0_1, .int .i64 a0_2, .int .i64 a0_3, .int .i64 a0_4, .int .i64 a0_5, .int .i64 a0_6]) (t := 30) ?hr ?_; (case hd => rfl); (case hg => rfl); (case hr => first | (go_simp; done) | (go_simp; rfl)); intro gb169 hg w30 hbox hb; have n0_ := Aside0.mk (below_step (by repeat (first | (with_reducible first | exact HB.out | apply below_alloc | apply pw_below_drewN | apply below_drew1) | exact HB.out)) hb); have n1_ := Aside0.mk (hbox); have n2_ := Aside0.mk ((by rw [hg]; exact (below_size (by repeat (first | (with_reducible first | exact HB.out | apply below_alloc | apply pw_below_drewN | apply below_drew1) | exact HB.out))) : w.heap.size ≤ gb169)); have n3_ := Aside0.mk ((by rw [hg]; exact (below_size (by repeat (first | (with_reducible first | exact HB.out | apply below_alloc | apply pw_below_drewN | apply below_drew1) | exact HB.out))) : w.heap.size ≤ gb169)); clear HB; have HB := n0_; have BK169 := n1_; have GW169 := n2_; have GE169 := n3_; clear n0_ n1_ n2_ n3_; clear hb hbox hg; have hcz31_0 : w30.cell? ⟨gb169, 0, none⟩ = some (.int .i64 a0_0) := (blk_cell BK169.out 0).trans rfl; have hcz31_1 : w30.cell? ⟨gb169, 1, none⟩ = some (.int .i64 a0_1) := (blk_cell BK169.out 1).trans rfl; have hcz31_2 : w30.cell? ⟨gb169, 2, none⟩ = some (.int .i64 a0_2) := (blk_cell BK169.out 2).trans rfl; have hcz31_3 : w30.cell? ⟨gb169, 3, none⟩ = some (.int .i64 a0_3) := (blk_cell BK169.out 3).trans rfl; have hcz31_4 : w30.cell? ⟨gb169, 4, none⟩ = some (.int .i64 a0_4) := (blk_cell BK169.out 4).trans rfl; have hcz31_5 : w30.cell? ⟨gb169, 5, none⟩ = some (.int .i64 a0_5) := (blk_cell BK169.out 5).trans rfl; have hcz31_6 : w30.cell? ⟨gb169, 6, none⟩ = some (.int .i64 a0_6) := (blk_cell BK169.out 6).trans rfl; have hfz31_0 := blk_frozen BK169.out 0; have hfz31_1 := blk_frozen BK169.out 1; have hfz31_2 := blk_frozen BK169.out 2; have hfz31_3 := blk_frozen BK169.out 3; have hfz31_4 := blk_frozen BK169.out 4; have hfz31_5 := blk_frozen BK169.out 5; have hfz31_6 := blk_frozen BK169.out 6) | ((with_reducible refine gate_callee (f := 19) rfl ?_); refine goesL_ (some 5) rfl rfl Tryd.func19 (by kernel_rfl) rfl #[.int .i64 a0_1] rfl (by (try simp only [List.map_toArray, List.map_cons, List.map_nil]); first | done | rfl | (simp only [List.length_drop, List.length_take]; rfl)) ?_; (with_reducible refine (impl_isSize.calls a0_1 true _ A2.out).mono ?_); rintro e w' ⟨rfl, ⟨nd, rfl⟩⟩; refine ⟨_, rfl, ?_⟩) | (go_at_call 20; (with_reducible refine (impl_within.calls a0_2 0 3 true _ A4.out).mono ?_); rintro e w' ⟨rfl, ⟨nd, rfl⟩⟩) | (go_at_call 20; (with_reducible refine (impl_within.calls a0_6 0 7 true _ A6.out).mono ?_); rintro e w' ⟨rfl, ⟨nd, rfl⟩⟩) | (go_at_call 21; (with_reducible refine (impl_GoodOperand.calls a0_3 a0_4 a0_5 true _ A8.out).mono ?_); rintro e w32 ⟨rfl, hb⟩; have n0_ := Aside0.mk (blk_below (g := gb169) (o := .cells #[.int .i64 a0_0, .int .i64 a0_1, .int .i64 a0_2, .int .i64 a0_3, .int .i64 a0_4, .int .i64 a0_5, .int .i64 a0_6] 30 (0, 0)) (by (with_reducible repeat (first | refine blk_drewN ?_ _ | refine blk_drew ?_ | refine blk_alloc ?_ _)); exact BK169.out) hb); have n1_ := Aside0.mk (below_step (by repeat (first | (with_reducible first | exact HB.out | apply below_alloc | apply pw_below_drewN | apply below_drew1 | refine below_set ?_ GE169.out) | exact HB.out)) hb); clear BK169; clear HB; have BK169 := n0_; have HB := n1_; clear n0_ n1_; (try clear hb); (try clear hb2); (try clear hk); (try clear hi); have hcz33_0 : w32.cell? ⟨gb169, 0, none⟩ = some (.int .i64 a0_0) := (blk_cell BK169.out 0).trans rfl; have hcz33_1 : w32.cell? ⟨gb169, 1, none⟩ = some (.int .i64 a0_1) := (blk_cell BK169.out 1).trans rfl; have hcz33_2 : w32.cell? ⟨gb169, 2, none⟩ = some (.int .i64 a0_2) := (blk_cell BK169.out 2).trans rfl; have hcz33_3 : w32.cell? ⟨gb169, 3, none⟩ = some (.int .i64 a0_3) := (blk_cell BK169.out 3).trans rfl; have hcz33_4 : w32.cell? ⟨gb169, 4, none⟩ = some (.int .i64 a0_4) := (blk_cell BK169.out 4).trans rfl; have hcz33_5 : w32.cell? ⟨gb169, 5, none⟩ = some (.int .i64 a0_5) := (blk_cell BK169.out 5).trans rfl; have hcz33_6 : w32.cell? ⟨gb169, 6, none⟩ = some (.int .i64 a0_6) := (blk_cell BK169.out 6).trans rfl; have hfz33_0 := blk_frozen BK169.out 0; have hfz33_1 := blk_frozen BK169.out 1; have hfz33_2 := blk_frozen BK169.out 2; have hfz33_3 := blk_frozen BK169.out 3; have hfz33_4 := blk_frozen BK169.out 4; have hfz33_5 := blk_frozen BK169.out 5; have hfz33_6 := blk_frozen BK169.out 6) | (go_at_call 22; (with_reducible refine (impl_isKind.calls k a0_0 a0_1 a0_2 a0_3 a0_4 a0_5 a0_6 t176 _ A29.out).mono ?_); rintro e w34 ⟨rfl, hb⟩; have n0_ := Aside0.mk (blk_below (g := gb169) (o := .cells #[.int .i64 a0_0, .int .i64 a0_1, .int .i64 a0_2, .int .i64 a0_3, .int .i64 a0_4, .int .i64 a0_5, .int .i64 a0_6] 30 (0, 0)) (by (with_reducible repeat (first | refine blk_drewN ?_ _ | refine blk_drew ?_ | refine blk_alloc ?_ _)); exact BK169.out) hb); have n1_ := Aside0.mk (below_step (by repeat (first | (with_reducible first | exact HB.out | apply below_alloc | apply pw_below_drewN | apply below_drew1 | refine below_set ?_ GE169.out) | exact HB.out)) hb); clear BK169; clear HB; have BK169 := n0_; have HB := n1_; clear n0_ n1_; (try clear hb); (try clear hb2); (try clear hk); (try clear hi)))
            go_ret
            exact ⟨by first | rfl | (simp [errW_none, errW_some] <;> rfl) | (simp [*, errW_none, errW_some] <;> rfl), by repeat (first | (with_reducible first | exact HB.out | apply below_alloc | apply pw_below_drewN | apply below_drew1 | refine below_set ?_ GE169.out) | exact HB.out)⟩
        · as_aux_lemma =>
          replace c9 := Bool.eq_false_iff.mpr c9
          subst c9
          have H1 : (some false) = some r := by rw [if_neg (show ¬ (false = true) by decide)] at H; exact H
          clear H
          have H := H1
          clear H1
          obtain rfl := Option.some.inj H
          go_enter Tryd.func10, Tryd.ntmps10
          go_wp2_with (first | ((with_reducible refine gate_dst (N := 1) rfl ?_); refine box_event ?hg (N := 1) ?hd (cs := #[.int .i64 a0_0, .int .i64 a0_1, .int .i64 a0_2, .int .i64 a0_3, .int .i64 a0_4, .int .i64 a0_5, .int .i64 a0_6]) (t := 30) ?hr ?_; (case hd => rfl); (case hg => rfl); (case hr => first | (go_simp; done) | (go_simp; rfl)); intro gb169 hg w35 hbox hb; have n0_ := Aside0.mk (below_step (by repeat (first | (with_reducible first | exact HB.out | apply below_alloc | apply pw_below_drewN | apply below_drew1) | exact HB.out)) hb); have n1_ := Aside0.mk (hbox); have n2_ := Aside0.mk ((by rw [hg]; exact (below_size (by repeat (first | (with_reducible first | exact HB.out | apply below_alloc | apply pw_below_drewN | apply below_drew1) | exact HB.out))) : w.heap.size ≤ gb169)); have n3_ := Aside0.mk ((by rw [hg]; exact (below_size (by repeat (first | (with_reducible first | exact HB.out | apply below_alloc | apply pw_below_drewN | apply below_drew1) | exact HB.out))) : w.heap.size ≤ gb169)); clear HB; have HB := n0_; have BK169 := n1_; have GW169 := n2_; have GE169 := n3_; clear n0_ n1_ n2_ n3_; clear hb hbox hg; have hcz36_0 : w35.cell? ⟨gb169, 0, none⟩ = some (.int .i64 a0_0) := (blk_cell BK169.out 0).trans rfl; have hcz36_1 : w35.cell? ⟨gb169, 1, none⟩ = some (.int .i64 a0_1) := (blk_cell BK169.out 1).trans rfl; have hcz36_2 : w35.cell? ⟨gb169, 2, none⟩ = some (.int .i64 a0_2) := (blk_cell BK169.out 2).trans rfl; have hcz36_3 : w35.cell? ⟨gb169, 3, none⟩ = some (.int .i64 a0_3) := (blk_cell BK169.out 3).trans rfl; have hcz36_4 : w35.cell? ⟨gb169, 4, none⟩ = some (.int .i64 a0_4) := (blk_cell BK169.out 4).trans rfl; have hcz36_5 : w35.cell? ⟨gb169, 5, none⟩ = some (.int .i64 a0_5) := (blk_cell BK169.out 5).trans rfl; have hcz36_6 : w35.cell? ⟨gb169, 6, none⟩ = some (.int .i64 a0_6) := (blk_cell BK169.out 6).trans rfl; have hfz36_0 := blk_frozen BK169.out 0; have hfz36_1 := blk_frozen BK169.out 1; have hfz36_2 := blk_frozen BK169.out 2; have hfz36_3 := blk_frozen BK169.out 3; have hfz36_4 := blk_frozen BK169.out 4; have hfz36_5 := blk_frozen BK169.out 5; have hfz36_6 := blk_frozen BK169.out 6) | ((with_reducible refine gate_callee (f := 19) rfl ?_); refine goesL_ (some 5) rfl rfl Tryd.func19 (by kernel_rfl) rfl #[.int .i64 a0_1] rfl (by (try simp only [List.map_toArray, List.map_cons, List.map_nil]); first | done | rfl | (simp only [List.length_drop, List.length_take]; rfl)) ?_; (with_reducible refine (impl_isSize.calls a0_1 true _ A2.out).mono ?_); rintro e w' ⟨rfl, ⟨nd, rfl⟩⟩; refine ⟨_, rfl, ?_⟩) | (go_at_call 20; (with_reducible refine (impl_within.calls a0_2 0 3 true _ A4.out).mono ?_); rintro e w' ⟨rfl, ⟨nd, rfl⟩⟩) | (go_at_call 20; (with_reducible refine (impl_within.calls a0_6 0 7 true _ A6.out).mono ?_); rintro e w' ⟨rfl, ⟨nd, rfl⟩⟩) | (go_at_call 21; (with_reducible refine (impl_GoodOperand.calls a0_3 a0_4 a0_5 false _ A8.out).mono ?_); rintro e w37 ⟨rfl, hb⟩; have n0_ := Aside0.mk (blk_below (g := gb169) (o := .cells #[.int .i64 a0_0, .int .i64 a0_1, .int .i64 a0_2, .int .i64 a0_3, .int .i64 a0_4, .int .i64 a0_5, .int .i64 a0_6] 30 (0, 0)) (by (with_reducible repeat (first | refine blk_drewN ?_ _ | refine blk_drew ?_ | refine blk_alloc ?_ _)); exact BK169.out) hb); have n1_ := Aside0.mk (below_step (by repeat (first | (with_reducible first | exact HB.out | apply below_alloc | apply pw_below_drewN | apply below_drew1 | refine below_set ?_ GE169.out) | exact HB.out)) hb); clear BK169; clear HB; have BK169 := n0_; have HB := n1_; clear n0_ n1_; (try clear hb); (try clear hb2); (try clear hk); (try clear hi)))
          go_ret
          exact ⟨by first | rfl | (simp [errW_none, errW_some] <;> rfl) | (simp [*, errW_none, errW_some] <;> rfl), by repeat (first | (with_reducible first | exact HB.out | apply below_alloc | apply pw_below_drewN | apply below_drew1 | refine below_set ?_ GE169.out) | exact HB.out)⟩
      · as_aux_lemma =>
        replace c7 := Bool.eq_false_iff.mpr c7
        subst c7
        have H1 : (some false) = some r := by rw [if_neg (show ¬ (false = true) by decide)] at H; exact H
        clear H
        have H := H1
        clear H1
        obtain rfl := Option.some.inj H
        go_enter Tryd.func10, Tryd.ntmps10
        go_wp2_with (first | ((with_reducible refine gate_dst (N := 1) rfl ?_); refine box_event ?hg (N := 1) ?hd (cs := #[.int .i64 a0_0, .int .i64 a0_1, .int .i64 a0_2, .int .i64 a0_3, .int .i64 a0_4, .int .i64 a0_5, .int .i64 a0_6]) (t := 30) ?hr ?_; (case hd => rfl); (case hg => rfl); (case hr => first | (go_simp; done) | (go_simp; rfl)); intro gb169 hg w38 hbox hb; have n0_ := Aside0.mk (below_step (by repeat (first | (with_reducible first | exact HB.out | apply below_alloc | apply pw_below_drewN | apply below_drew1) | exact HB.out)) hb); have n1_ := Aside0.mk (hbox); have n2_ := Aside0.mk ((by rw [hg]; exact (below_size (by repeat (first | (with_reducible first | exact HB.out | apply below_alloc | apply pw_below_drewN | apply below_drew1) | exact HB.out))) : w.heap.size ≤ gb169)); have n3_ := Aside0.mk ((by rw [hg]; exact (below_size (by repeat (first | (with_reducible first | exact HB.out | apply below_alloc | apply pw_below_drewN | apply below_drew1) | exact HB.out))) : w.heap.size ≤ gb169)); clear HB; have HB := n0_; have BK169 := n1_; have GW169 := n2_; have GE169 := n3_; clear n0_ n1_ n2_ n3_; clear hb hbox hg; have hcz39_0 : w38.cell? ⟨gb169, 0, none⟩ = some (.int .i64 a0_0) := (blk_cell BK169.out 0).trans rfl; have hcz39_1 : w38.cell? ⟨gb169, 1, none⟩ = some (.int .i64 a0_1) := (blk_cell BK169.out 1).trans rfl; have hcz39_2 : w38.cell? ⟨gb169, 2, none⟩ = some (.int .i64 a0_2) := (blk_cell BK169.out 2).trans rfl; have hcz39_3 : w38.cell? ⟨gb169, 3, none⟩ = some (.int .i64 a0_3) := (blk_cell BK169.out 3).trans rfl; have hcz39_4 : w38.cell? ⟨gb169, 4, none⟩ = some (.int .i64 a0_4) := (blk_cell BK169.out 4).trans rfl; have hcz39_5 : w38.cell? ⟨gb169, 5, none⟩ = some (.int .i64 a0_5) := (blk_cell BK169.out 5).trans rfl; have hcz39_6 : w38.cell? ⟨gb169, 6, none⟩ = some (.int .i64 a0_6) := (blk_cell BK169.out 6).trans rfl; have hfz39_0 := blk_frozen BK169.out 0; have hfz39_1 := blk_frozen BK169.out 1; have hfz39_2 := blk_frozen BK169.out 2; have hfz39_3 := blk_frozen BK169.out 3; have hfz39_4 := blk_frozen BK169.out 4; have hfz39_5 := blk_frozen BK169.out 5; have hfz39_6 := blk_frozen BK169.out 6) | ((with_reducible refine gate_callee (f := 19) rfl ?_); refine goesL_ (some 5) rfl rfl Tryd.func19 (by kernel_rfl) rfl #[.int .i64 a0_1] rfl (by (try simp only [List.map_toArray, List.map_cons, List.map_nil]); first | done | rfl | (simp only [List.length_drop, List.length_take]; rfl)) ?_; (with_reducible refine (impl_isSize.calls a0_1 true _ A2.out).mono ?_); rintro e w' ⟨rfl, ⟨nd, rfl⟩⟩; refine ⟨_, rfl, ?_⟩) | (go_at_call 20; (with_reducible refine (impl_within.calls a0_2 0 3 true _ A4.out).mono ?_); rintro e w' ⟨rfl, ⟨nd, rfl⟩⟩) | (go_at_call 20; (with_reducible refine (impl_within.calls a0_6 0 7 false _ A6.out).mono ?_); rintro e w' ⟨rfl, ⟨nd, rfl⟩⟩))
        go_ret
        exact ⟨by first | rfl | (simp [errW_none, errW_some] <;> rfl) | (simp [*, errW_none, errW_some] <;> rfl), by repeat (first | (with_reducible first | exact HB.out | apply below_alloc | apply pw_below_drewN | apply below_drew1 | refine below_set ?_ GE169.out) | exact HB.out)⟩
    · as_aux_lemma =>
      replace c5 := Bool.eq_false_iff.mpr c5
      subst c5
      have H1 : (some false) = some r := by rw [if_neg (show ¬ (false = true) by decide)] at H; exact H
      clear H
      have H := H1
      clear H1
      obtain rfl := Option.some.inj H
      go_enter Tryd.func10, Tryd.ntmps10
      go_wp2_with (first | ((with_reducible refine gate_dst (N := 1) rfl ?_); refine box_event ?hg (N := 1) ?hd (cs := #[.int .i64 a0_0, .int .i64 a0_1, .int .i64 a0_2, .int .i64 a0_3, .int .i64 a0_4, .int .i64 a0_5, .int .i64 a0_6]) (t := 30) ?hr ?_; (case hd => rfl); (case hg => rfl); (case hr => first | (go_simp; done) | (go_simp; rfl)); intro gb169 hg w40 hbox hb; have n0_ := Aside0.mk (below_step (by repeat (first | (with_reducible first | exact HB.out | apply below_alloc | apply pw_below_drewN | apply below_drew1) | exact HB.out)) hb); have n1_ := Aside0.mk (hbox); have n2_ := Aside0.mk ((by rw [hg]; exact (below_size (by repeat (first | (with_reducible first | exact HB.out | apply below_alloc | apply pw_below_drewN | apply below_drew1) | exact HB.out))) : w.heap.size ≤ gb169)); have n3_ := Aside0.mk ((by rw [hg]; exact (below_size (by repeat (first | (with_reducible first | exact HB.out | apply below_alloc | apply pw_below_drewN | apply below_drew1) | exact HB.out))) : w.heap.size ≤ gb169)); clear HB; have HB := n0_; have BK169 := n1_; have GW169 := n2_; have GE169 := n3_; clear n0_ n1_ n2_ n3_; clear hb hbox hg; have hcz41_0 : w40.cell? ⟨gb169, 0, none⟩ = some (.int .i64 a0_0) := (blk_cell BK169.out 0).trans rfl; have hcz41_1 : w40.cell? ⟨gb169, 1, none⟩ = some (.int .i64 a0_1) := (blk_cell BK169.out 1).trans rfl; have hcz41_2 : w40.cell? ⟨gb169, 2, none⟩ = some (.int .i64 a0_2) := (blk_cell BK169.out 2).trans rfl; have hcz41_3 : w40.cell? ⟨gb169, 3, none⟩ = some (.int .i64 a0_3) := (blk_cell BK169.out 3).trans rfl; have hcz41_4 : w40.cell? ⟨gb169, 4, none⟩ = some (.int .i64 a0_4) := (blk_cell BK169.out 4).trans rfl; have hcz41_5 : w40.cell? ⟨gb169, 5, none⟩ = some (.int .i64 a0_5) := (blk_cell BK169.out 5).trans rfl; have hcz41_6 : w40.cell? ⟨gb169, 6, none⟩ = some (.int .i64 a0_6) := (blk_cell BK169.out 6).trans rfl; have hfz41_0 := blk_frozen BK169.out 0; have hfz41_1 := blk_frozen BK169.out 1; have hfz41_2 := blk_frozen BK169.out 2; have hfz41_3 := blk_frozen BK169.out 3; have hfz41_4 := blk_frozen BK169.out 4; have hfz41_5 := blk_frozen BK169.out 5; have hfz41_6 := blk_frozen BK169.out 6) | ((with_reducible refine gate_callee (f := 19) rfl ?_); refine goesL_ (some 5) rfl rfl Tryd.func19 (by kernel_rfl) rfl #[.int .i64 a0_1] rfl (by (try simp only [List.map_toArray, List.map_cons, List.map_nil]); first | done | rfl | (simp only [List.length_drop, List.length_take]; rfl)) ?_; (with_reducible refine (impl_isSize.calls a0_1 true _ A2.out).mono ?_); rintro e w' ⟨rfl, ⟨nd, rfl⟩⟩; refine ⟨_, rfl, ?_⟩) | (go_at_call 20; (with_reducible refine (impl_within.calls a0_2 0 3 false _ A4.out).mono ?_); rintro e w' ⟨rfl, ⟨nd, rfl⟩⟩))
      go_ret
      exact ⟨by first | rfl | (simp [errW_none, errW_some] <;> rfl) | (simp [*, errW_none, errW_some] <;> rfl), by repeat (first | (with_reducible first | exact HB.out | apply below_alloc | apply pw_below_drewN | apply below_drew1 | refine below_set ?_ GE169.out) | exact HB.out)⟩
  · as_aux_lemma =>
    replace c3 := Bool.eq_false_iff.mpr c3
    subst c3
    have H1 : (some false) = some r := by rw [if_neg (show ¬ (false = true) by decide)] at H; exact H
    clear H
    have H := H1
    clear H1
    obtain rfl := Option.some.inj H
    go_enter Tryd.func10, Tryd.ntmps10
    go_wp2_with (first | ((with_reducible refine gate_dst (N := 1) rfl ?_); refine box_event ?hg (N := 1) ?hd (cs := #[.int .i64 a0_0, .int .i64 a0_1, .int .i64 a0_2, .int .i64 a0_3, .int .i64 a0_4, .int .i64 a0_5, .int .i64 a0_6]) (t := 30) ?hr ?_; (case hd => rfl); (case hg => rfl); (case hr => first | (go_simp; done) | (go_simp; rfl)); intro gb169 hg w42 hbox hb; have n0_ := Aside0.mk (below_step (by repeat (first | (with_reducible first | exact HB.out | apply below_alloc | apply pw_below_drewN | apply below_drew1) | exact HB.out)) hb); have n1_ := Aside0.mk (hbox); have n2_ := Aside0.mk ((by rw [hg]; exact (below_size (by repeat (first | (with_reducible first | exact HB.out | apply below_alloc | apply pw_below_drewN | apply below_drew1) | exact HB.out))) : w.heap.size ≤ gb169)); have n3_ := Aside0.mk ((by rw [hg]; exact (below_size (by repeat (first | (with_reducible first | exact HB.out | apply below_alloc | apply pw_below_drewN | apply below_drew1) | exact HB.out))) : w.heap.size ≤ gb169)); clear HB; have HB := n0_; have BK169 := n1_; have GW169 := n2_; have GE169 := n3_; clear n0_ n1_ n2_ n3_; clear hb hbox hg; have hcz43_0 : w42.cell? ⟨gb169, 0, none⟩ = some (.int .i64 a0_0) := (blk_cell BK169.out 0).trans rfl; have hcz43_1 : w42.cell? ⟨gb169, 1, none⟩ = some (.int .i64 a0_1) := (blk_cell BK169.out 1).trans rfl; have hcz43_2 : w42.cell? ⟨gb169, 2, none⟩ = some (.int .i64 a0_2) := (blk_cell BK169.out 2).trans rfl; have hcz43_3 : w42.cell? ⟨gb169, 3, none⟩ = some (.int .i64 a0_3) := (blk_cell BK169.out 3).trans rfl; have hcz43_4 : w42.cell? ⟨gb169, 4, none⟩ = some (.int .i64 a0_4) := (blk_cell BK169.out 4).trans rfl; have hcz43_5 : w42.cell? ⟨gb169, 5, none⟩ = some (.int .i64 a0_5) := (blk_cell BK169.out 5).trans rfl; have hcz43_6 : w42.cell? ⟨gb169, 6, none⟩ = some (.int .i64 a0_6) := (blk_cell BK169.out 6).trans rfl; have hfz43_0 := blk_frozen BK169.out 0; have hfz43_1 := blk_frozen BK169.out 1; have hfz43_2 := blk_frozen BK169.out 2; have hfz43_3 := blk_frozen BK169.out 3; have hfz43_4 := blk_frozen BK169.out 4; have hfz43_5 := blk_frozen BK169.out 5; have hfz43_6 := blk_frozen BK169.out 6) | ((with_reducible refine gate_callee (f := 19) rfl ?_); refine goesL_ (some 5) rfl rfl Tryd.func19 (by kernel_rfl) rfl #[.int .i64 a0_1] rfl (by (try simp only [List.map_toArray, List.map_cons, List.map_nil]); first | done | rfl | (simp only [List.length_drop, List.length_take]; rfl)) ?_; (with_reducible refine (impl_isSize.calls a0_1 false _ A2.out).mono ?_); rintro e w' ⟨rfl, ⟨nd, rfl⟩⟩; refine ⟨_, rfl, ?_⟩))
    go_ret
    exact ⟨by first | rfl | (simp [errW_none, errW_some] <;> rfl) | (simp [*, errW_none, errW_some] <;> rfl), by repeat (first | (with_reducible first | exact HB.out | apply below_alloc | apply pw_below_drewN | apply below_drew1 | refine below_set ?_ GE169.out) | exact HB.out)⟩

-- NOT PRINTED: function 34 (strconv_small)

-- NOT PRINTED: function 38 (strconv_log10Pow2)

-- NOT PRINTED: function 39 (bits_Len64)

-- NOT PRINTED: function 40 (strconv_bool2_int)

-- NOT PRINTED: function 35 (strconv_numDigits)

-- NOT PRINTED: function 36 (strconv_formatBase10)

-- NOT PRINTED: function 41 (strconv_isPowerOfTwo)

-- NOT PRINTED: function 43 (bits_TrailingZeros32)

-- NOT PRINTED: function 44 (bits_TrailingZeros64)

-- NOT PRINTED: function 42 (bits_TrailingZeros)

-- NOT PRINTED: function 37 (strconv_formatBits)

-- NOT PRINTED: function 32 (strconv_FormatInt)

-- NOT PRINTED: function 23 (strconv_Itoa_23)

/-! ### strconv_Itoa_11: function 11 -/
/-- A call of a function that stands in a variable (as the words' goes_, where the function is named in place). -/
theorem goesV_ {P : Program} {ops : Array Oper} {Q : Exit → Act → World → Prop} {oi : Oper} {N : Option Tmp} {a : Act} {w : World} {K : Act → World → Prop} {f : FuncId} {fn : Func} {o : Operand} {as_ : Array Operand} {ts : Array TypeId} (hf : P.funcs[f]? = some fn) (hname : (fn.name == "runtime.NumGoroutine") = false) (hb : fn.body.isSome = true) (args : Array Value)
    (hw : Region.wanted oi (yielded ops a.tmps) = true) (hN : oi.dst = N) (hop : oi.op = .call { callee := .value o, args := as_, argTypes := ts }) (ho : a.eval o = .func (.func f) #[] #[]) (hargs : as_.map a.eval = args)
    (h : Calls P f args w fun e w' => ∃ v, e = .returned v ∧ K (a.put N v) w') : if Region.wanted oi (yielded ops a.tmps) = true then Oper.wp P oi a w K Q else K (a.put N undef) w := by
  refine call_ f args hw hN ?_ h
  have he := enters_ hf hname hb args w
  unfold execOp
  simp [hop, ho, resolve, Deferred.ofValue, invoke, hargs, he]
def strconv_Itoa_11.f (a0 : Int) : Option ByteArray := if 0 ≤ a0 ∧ a0 ≤ 65535 then some ⟨(Lib.itoa a0).toArray⟩ else none
/-- The text of a whole number from 0 to 65535: the shelf's contract; it reads the library's table. -/
theorem strconv_Itoa_11.calls (a0 : Int) (r : ByteArray) (w : World) (h : strconv_Itoa_11.f a0 = some r)
    (ht : Lib.TabIs Tryd.prog w "internal/strconv.uint64pow10" .u64 Lib.pow10Tab := by first | exact ((Lib.tabBelow_of_tabIs htab).on (by repeat (first | (with_reducible first | exact HB.out | apply below_alloc | apply pw_below_drewN | apply below_drew1) | exact HB.out))).here) :
    Calls Tryd.prog 11 #[.int .i64 a0] w fun e w' => e = .returned (.string r) ∧ Below w.heap.size w w' := by
  unfold strconv_Itoa_11.f at h
  by_cases c : 0 ≤ a0 ∧ a0 ≤ 65535
  · rw [if_pos c] at h
    obtain rfl := Option.some.inj h
    refine (Tryd.strconv_Itoa a0 (by omega) (by omega) w ht).mono ?_
    rintro e w' ⟨rfl, k, os, rfl⟩
    exact ⟨rfl, Lib.below_grow _ _ (Nat.le_refl _) _ _⟩
  · rw [if_neg c] at h
    cases h

/-! ### impl_TextOf: function 6 -/
def impl_TextOf.f (k : Nat) (a0_0 : Int) (a0_1 : Int) (a0_2 : Int) (a0_3 : Int) (a0_4 : Int) (a0_5 : Int) (a0_6 : Int) : Option (ByteArray × Bool) := (impl_GoodIns.f k a0_0 a0_1 a0_2 a0_3 a0_4 a0_5 a0_6).bind fun t178 => (if t178 = true then ((strconv_Itoa_11.f a0_0).bind fun t179 => (if 2 + t179.size ≤ 9223372036854775807 then (if ((⟨#[111, 112]⟩ : ByteArray) ++ t179).size + 1 ≤ 9223372036854775807 then ((strconv_Itoa_11.f a0_1).bind fun t180 => (if (((⟨#[111, 112]⟩ : ByteArray) ++ t179) ++ (⟨#[46]⟩ : ByteArray)).size + t180.size ≤ 9223372036854775807 then (if ((((⟨#[111, 112]⟩ : ByteArray) ++ t179) ++ (⟨#[46]⟩ : ByteArray)) ++ t180).size + 2 ≤ 9223372036854775807 then ((strconv_Itoa_11.f a0_2).bind fun t181 => (if (((((⟨#[111, 112]⟩ : ByteArray) ++ t179) ++ (⟨#[46]⟩ : ByteArray)) ++ t180) ++ (⟨#[32, 114]⟩ : ByteArray)).size + t181.size ≤ 9223372036854775807 then (if ((((((⟨#[111, 112]⟩ : ByteArray) ++ t179) ++ (⟨#[46]⟩ : ByteArray)) ++ t180) ++ (⟨#[32, 114]⟩ : ByteArray)) ++ t181).size + 2 ≤ 9223372036854775807 then ((strconv_Itoa_11.f a0_3).bind fun t182 => (if (((((((⟨#[111, 112]⟩ : ByteArray) ++ t179) ++ (⟨#[46]⟩ : ByteArray)) ++ t180) ++ (⟨#[32, 114]⟩ : ByteArray)) ++ t181) ++ (⟨#[32, 109]⟩ : ByteArray)).size + t182.size ≤ 9223372036854775807 then (if ((((((((⟨#[111, 112]⟩ : ByteArray) ++ t179) ++ (⟨#[46]⟩ : ByteArray)) ++ t180) ++ (⟨#[32, 114]⟩ : ByteArray)) ++ t181) ++ (⟨#[32, 109]⟩ : ByteArray)) ++ t182).size + 1 ≤ 9223372036854775807 then ((strconv_Itoa_11.f a0_4).bind fun t183 => (if (((((((((⟨#[111, 112]⟩ : ByteArray) ++ t179) ++ (⟨#[46]⟩ : ByteArray)) ++ t180) ++ (⟨#[32, 114]⟩ : ByteArray)) ++ t181) ++ (⟨#[32, 109]⟩ : ByteArray)) ++ t182) ++ (⟨#[58]⟩ : ByteArray)).size + t183.size ≤ 9223372036854775807 then (if ((((((((((⟨#[111, 112]⟩ : ByteArray) ++ t179) ++ (⟨#[46]⟩ : ByteArray)) ++ t180) ++ (⟨#[32, 114]⟩ : ByteArray)) ++ t181) ++ (⟨#[32, 109]⟩ : ByteArray)) ++ t182) ++ (⟨#[58]⟩ : ByteArray)) ++ t183).size + 2 ≤ 9223372036854775807 then ((strconv_Itoa_11.f a0_5).bind fun t184 => (if (((((((((((⟨#[111, 112]⟩ : ByteArray) ++ t179) ++ (⟨#[46]⟩ : ByteArray)) ++ t180) ++ (⟨#[32, 114]⟩ : ByteArray)) ++ t181) ++ (⟨#[32, 109]⟩ : ByteArray)) ++ t182) ++ (⟨#[58]⟩ : ByteArray)) ++ t183) ++ (⟨#[32, 120]⟩ : ByteArray)).size + t184.size ≤ 9223372036854775807 then (if ((((((((((((⟨#[111, 112]⟩ : ByteArray) ++ t179) ++ (⟨#[46]⟩ : ByteArray)) ++ t180) ++ (⟨#[32, 114]⟩ : ByteArray)) ++ t181) ++ (⟨#[32, 109]⟩ : ByteArray)) ++ t182) ++ (⟨#[58]⟩ : ByteArray)) ++ t183) ++ (⟨#[32, 120]⟩ : ByteArray)) ++ t184).size + 2 ≤ 9223372036854775807 then ((strconv_Itoa_11.f a0_6).bind fun t185 => (if (((((((((((((⟨#[111, 112]⟩ : ByteArray) ++ t179) ++ (⟨#[46]⟩ : ByteArray)) ++ t180) ++ (⟨#[32, 114]⟩ : ByteArray)) ++ t181) ++ (⟨#[32, 109]⟩ : ByteArray)) ++ t182) ++ (⟨#[58]⟩ : ByteArray)) ++ t183) ++ (⟨#[32, 120]⟩ : ByteArray)) ++ t184) ++ (⟨#[32, 115]⟩ : ByteArray)).size + t185.size ≤ 9223372036854775807 then (some ((((((((((((((⟨#[111, 112]⟩ : ByteArray) ++ t179) ++ (⟨#[46]⟩ : ByteArray)) ++ t180) ++ (⟨#[32, 114]⟩ : ByteArray)) ++ t181) ++ (⟨#[32, 109]⟩ : ByteArray)) ++ t182) ++ (⟨#[58]⟩ : ByteArray)) ++ t183) ++ (⟨#[32, 120]⟩ : ByteArray)) ++ t184) ++ (⟨#[32, 115]⟩ : ByteArray)) ++ t185, true)) else (none))) else (none)) else (none))) else (none)) else (none))) else (none)) else (none))) else (none)) else (none))) else (none)) else (none))) else (none)) else (none))) else (some ((⟨#[]⟩ : ByteArray), false)))
theorem impl_TextOf.mono : ∀ a0 a1 a2 a3 a4 a5 a6 k, LeO (impl_TextOf.f k a0 a1 a2 a3 a4 a5 a6) (impl_TextOf.f (k + 1) a0 a1 a2 a3 a4 a5 a6) := by
  intro a0 a1 a2 a3 a4 a5 a6 k
  unfold impl_TextOf.f
  repeat' first
      | (with_reducible exact impl_GoodIns.mono _ _ _ _ _ _ _ _)
      | (with_reducible exact LeO.refl _)
      | (with_reducible exact LeO.none _)
      | (with_reducible refine LeO.ite ?_ ?_)
      | (with_reducible refine LeO.bind ?_ (fun _ => ?_))
      | exact impl_GoodIns.mono _ _ _ _ _ _ _ _
      | exact LeO.none _
      | refine LeO.ite ?_ ?_
      | refine LeO.bind ?_ (fun _ => ?_)
def impl_TextOf.T4 : Bool × List (List Nat × List Nat) := (true, [([], []), ([], []), ([1], [1]), ([0, 2], [0, 2]), ([3], [3]), ([4], [4]), ([], []), ([], []), ([7], [7]), ([6, 8, 3], [6, 8]), ([5, 9], [5, 9]), ([10], [10]), ([], []), ([], []), ([13], [13]), ([12, 14, 9], [12, 14]), ([11, 15], [11, 15]), ([16], [16]), ([], []), ([], []), ([19], [19]), ([20], [20]), ([18, 21, 15], [18, 21]), ([17, 22], [17, 22]), ([23], [23]), ([], []), ([], []), ([26], [26]), ([27], [27]), ([25, 28, 22], [25, 28]), ([24, 29], [24, 29]), ([30], [30]), ([], []), ([], []), ([33], [33]), ([34], [34]), ([32, 35, 29], [32, 35]), ([31, 36], [31, 36]), ([37], [37]), ([], []), ([], []), ([40], [40]), ([39, 41, 36], [39, 41]), ([38, 42], [38, 42]), ([43, 42, 0, 1, 2, 3, 4, 5, 6, 7, 8, 9, 10, 11, 12, 13, 14, 15, 16, 17, 18, 19, 20, 21, 22, 23, 24, 25, 26, 27, 28, 29, 30, 31, 32, 33, 34, 35, 36, 37, 38, 39, 40, 41, 42, 43], [43]), ([44, 0, 1, 2, 3, 4, 5, 6, 7, 8, 9, 10, 11, 12, 13, 14, 15, 16, 17, 18, 19, 20, 21, 22, 23, 24, 25, 26, 27, 28, 29, 30, 31, 32, 33, 34, 35, 36, 37, 38, 39, 40, 41, 42, 43, 44], [])])
def impl_TextOf.B4 : List Nat := [0, 0, 2, 7, 15, 31, 0, 0, 128, 463, 1023, 2047, 0, 0, 8192, 29647, 65535, 131071, 0, 0, 524288, 1572864, 3994575, 8388607, 16777215, 0, 0, 67108864, 201326592, 511505359, 1073741823, 2147483647, 0, 0, 8589934592, 25769803776, 65472885711, 137438953471, 274877906943, 0, 0, 1099511627776, 3982483059663, 8796093022207, 17592186044415, 35184372088831]
theorem impl_TextOf.tab4 : rtab .any (opsOf Tryd.f6 4) = impl_TextOf.T4 := by kernel_rfl
theorem impl_TextOf.bits4 : waitsOk impl_TextOf.T4.2 impl_TextOf.B4 = true := by kernel_rfl
set_option maxHeartbeats 8000000 in
set_option maxRecDepth 100000 in
theorem impl_TextOf.calls (k : Nat) (a0_0 : Int) (a0_1 : Int) (a0_2 : Int) (a0_3 : Int) (a0_4 : Int) (a0_5 : Int) (a0_6 : Int) (r1 : ByteArray) (r2 : Bool) (w : World) (h : impl_TextOf.f k a0_0 a0_1 a0_2 a0_3 a0_4 a0_5 a0_6 = some (r1, r2)) (htab : Lib.TabIs Tryd.prog w "internal/strconv.uint64pow10" .u64 Lib.pow10Tab := by exact ((Lib.tabBelow_of_tabIs htab).on (by repeat (first | (with_reducible first | exact HB.out | apply below_alloc | apply pw_below_drewN | apply below_drew1) | exact HB.out))).here) :
    Calls Tryd.prog 6 #[.agg #[.int .i64 a0_0, .int .i64 a0_1, .int .i64 a0_2, .int .i64 a0_3, .int .i64 a0_4, .int .i64 a0_5, .int .i64 a0_6]] w fun e w' => e = .returned (.tuple #[.string r1, .bool r2]) ∧ Below w.heap.size w w' := by
  have hu30 := Tryd.underlying30
  have HB := Aside0.mk (Below.refl w.heap.size w)
  have H : ((impl_GoodIns.f k a0_0 a0_1 a0_2 a0_3 a0_4 a0_5 a0_6).bind fun t178 => (if t178 = true then ((strconv_Itoa_11.f a0_0).bind fun t179 => (if 2 + t179.size ≤ 9223372036854775807 then (if ((⟨#[111, 112]⟩ : ByteArray) ++ t179).size + 1 ≤ 9223372036854775807 then ((strconv_Itoa_11.f a0_1).bind fun t180 => (if (((⟨#[111, 112]⟩ : ByteArray) ++ t179) ++ (⟨#[46]⟩ : ByteArray)).size + t180.size ≤ 9223372036854775807 then (if ((((⟨#[111, 112]⟩ : ByteArray) ++ t179) ++ (⟨#[46]⟩ : ByteArray)) ++ t180).size + 2 ≤ 9223372036854775807 then ((strconv_Itoa_11.f a0_2).bind fun t181 => (if (((((⟨#[111, 112]⟩ : ByteArray) ++ t179) ++ (⟨#[46]⟩ : ByteArray)) ++ t180) ++ (⟨#[32, 114]⟩ : ByteArray)).size + t181.size ≤ 9223372036854775807 then (if ((((((⟨#[111, 112]⟩ : ByteArray) ++ t179) ++ (⟨#[46]⟩ : ByteArray)) ++ t180) ++ (⟨#[32, 114]⟩ : ByteArray)) ++ t181).size + 2 ≤ 9223372036854775807 then ((strconv_Itoa_11.f a0_3).bind fun t182 => (if (((((((⟨#[111, 112]⟩ : ByteArray) ++ t179) ++ (⟨#[46]⟩ : ByteArray)) ++ t180) ++ (⟨#[32, 114]⟩ : ByteArray)) ++ t181) ++ (⟨#[32, 109]⟩ : ByteArray)).size + t182.size ≤ 9223372036854775807 then (if ((((((((⟨#[111, 112]⟩ : ByteArray) ++ t179) ++ (⟨#[46]⟩ : ByteArray)) ++ t180) ++ (⟨#[32, 114]⟩ : ByteArray)) ++ t181) ++ (⟨#[32, 109]⟩ : ByteArray)) ++ t182).size + 1 ≤ 9223372036854775807 then ((strconv_Itoa_11.f a0_4).bind fun t183 => (if (((((((((⟨#[111, 112]⟩ : ByteArray) ++ t179) ++ (⟨#[46]⟩ : ByteArray)) ++ t180) ++ (⟨#[32, 114]⟩ : ByteArray)) ++ t181) ++ (⟨#[32, 109]⟩ : ByteArray)) ++ t182) ++ (⟨#[58]⟩ : ByteArray)).size + t183.size ≤ 9223372036854775807 then (if ((((((((((⟨#[111, 112]⟩ : ByteArray) ++ t179) ++ (⟨#[46]⟩ : ByteArray)) ++ t180) ++ (⟨#[32, 114]⟩ : ByteArray)) ++ t181) ++ (⟨#[32, 109]⟩ : ByteArray)) ++ t182) ++ (⟨#[58]⟩ : ByteArray)) ++ t183).size + 2 ≤ 9223372036854775807 then ((strconv_Itoa_11.f a0_5).bind fun t184 => (if (((((((((((⟨#[111, 112]⟩ : ByteArray) ++ t179) ++ (⟨#[46]⟩ : ByteArray)) ++ t180) ++ (⟨#[32, 114]⟩ : ByteArray)) ++ t181) ++ (⟨#[32, 109]⟩ : ByteArray)) ++ t182) ++ (⟨#[58]⟩ : ByteArray)) ++ t183) ++ (⟨#[32, 120]⟩ : ByteArray)).size + t184.size ≤ 9223372036854775807 then (if ((((((((((((⟨#[111, 112]⟩ : ByteArray) ++ t179) ++ (⟨#[46]⟩ : ByteArray)) ++ t180) ++ (⟨#[32, 114]⟩ : ByteArray)) ++ t181) ++ (⟨#[32, 109]⟩ : ByteArray)) ++ t182) ++ (⟨#[58]⟩ : ByteArray)) ++ t183) ++ (⟨#[32, 120]⟩ : ByteArray)) ++ t184).size + 2 ≤ 9223372036854775807 then ((strconv_Itoa_11.f a0_6).bind fun t185 => (if (((((((((((((⟨#[111, 112]⟩ : ByteArray) ++ t179) ++ (⟨#[46]⟩ : ByteArray)) ++ t180) ++ (⟨#[32, 114]⟩ : ByteArray)) ++ t181) ++ (⟨#[32, 109]⟩ : ByteArray)) ++ t182) ++ (⟨#[58]⟩ : ByteArray)) ++ t183) ++ (⟨#[32, 120]⟩ : ByteArray)) ++ t184) ++ (⟨#[32, 115]⟩ : ByteArray)).size + t185.size ≤ 9223372036854775807 then (some ((((((((((((((⟨#[111, 112]⟩ : ByteArray) ++ t179) ++ (⟨#[46]⟩ : ByteArray)) ++ t180) ++ (⟨#[32, 114]⟩ : ByteArray)) ++ t181) ++ (⟨#[32, 109]⟩ : ByteArray)) ++ t182) ++ (⟨#[58]⟩ : ByteArray)) ++ t183) ++ (⟨#[32, 120]⟩ : ByteArray)) ++ t184) ++ (⟨#[32, 115]⟩ : ByteArray)) ++ t185, true)) else (none))) else (none)) else (none))) else (none)) else (none))) else (none)) else (none))) else (none)) else (none))) else (none)) else (none))) else (none)) else (none))) else (some ((⟨#[]⟩ : ByteArray), false)))) = some (r1, r2) := h
  clear h
  replace H := Option.bind_eq_some_iff.mp H
  obtain ⟨t178, A20, H⟩ := H
  replace H : (if t178 = true then ((strconv_Itoa_11.f a0_0).bind fun t179 => (if 2 + t179.size ≤ 9223372036854775807 then (if ((⟨#[111, 112]⟩ : ByteArray) ++ t179).size + 1 ≤ 9223372036854775807 then ((strconv_Itoa_11.f a0_1).bind fun t180 => (if (((⟨#[111, 112]⟩ : ByteArray) ++ t179) ++ (⟨#[46]⟩ : ByteArray)).size + t180.size ≤ 9223372036854775807 then (if ((((⟨#[111, 112]⟩ : ByteArray) ++ t179) ++ (⟨#[46]⟩ : ByteArray)) ++ t180).size + 2 ≤ 9223372036854775807 then ((strconv_Itoa_11.f a0_2).bind fun t181 => (if (((((⟨#[111, 112]⟩ : ByteArray) ++ t179) ++ (⟨#[46]⟩ : ByteArray)) ++ t180) ++ (⟨#[32, 114]⟩ : ByteArray)).size + t181.size ≤ 9223372036854775807 then (if ((((((⟨#[111, 112]⟩ : ByteArray) ++ t179) ++ (⟨#[46]⟩ : ByteArray)) ++ t180) ++ (⟨#[32, 114]⟩ : ByteArray)) ++ t181).size + 2 ≤ 9223372036854775807 then ((strconv_Itoa_11.f a0_3).bind fun t182 => (if (((((((⟨#[111, 112]⟩ : ByteArray) ++ t179) ++ (⟨#[46]⟩ : ByteArray)) ++ t180) ++ (⟨#[32, 114]⟩ : ByteArray)) ++ t181) ++ (⟨#[32, 109]⟩ : ByteArray)).size + t182.size ≤ 9223372036854775807 then (if ((((((((⟨#[111, 112]⟩ : ByteArray) ++ t179) ++ (⟨#[46]⟩ : ByteArray)) ++ t180) ++ (⟨#[32, 114]⟩ : ByteArray)) ++ t181) ++ (⟨#[32, 109]⟩ : ByteArray)) ++ t182).size + 1 ≤ 9223372036854775807 then ((strconv_Itoa_11.f a0_4).bind fun t183 => (if (((((((((⟨#[111, 112]⟩ : ByteArray) ++ t179) ++ (⟨#[46]⟩ : ByteArray)) ++ t180) ++ (⟨#[32, 114]⟩ : ByteArray)) ++ t181) ++ (⟨#[32, 109]⟩ : ByteArray)) ++ t182) ++ (⟨#[58]⟩ : ByteArray)).size + t183.size ≤ 9223372036854775807 then (if ((((((((((⟨#[111, 112]⟩ : ByteArray) ++ t179) ++ (⟨#[46]⟩ : ByteArray)) ++ t180) ++ (⟨#[32, 114]⟩ : ByteArray)) ++ t181) ++ (⟨#[32, 109]⟩ : ByteArray)) ++ t182) ++ (⟨#[58]⟩ : ByteArray)) ++ t183).size + 2 ≤ 9223372036854775807 then ((strconv_Itoa_11.f a0_5).bind fun t184 => (if (((((((((((⟨#[111, 112]⟩ : ByteArray) ++ t179) ++ (⟨#[46]⟩ : ByteArray)) ++ t180) ++ (⟨#[32, 114]⟩ : ByteArray)) ++ t181) ++ (⟨#[32, 109]⟩ : ByteArray)) ++ t182) ++ (⟨#[58]⟩ : ByteArray)) ++ t183) ++ (⟨#[32, 120]⟩ : ByteArray)).size + t184.size ≤ 9223372036854775807 then (if ((((((((((((⟨#[111, 112]⟩ : ByteArray) ++ t179) ++ (⟨#[46]⟩ : ByteArray)) ++ t180) ++ (⟨#[32, 114]⟩ : ByteArray)) ++ t181) ++ (⟨#[32, 109]⟩ : ByteArray)) ++ t182) ++ (⟨#[58]⟩ : ByteArray)) ++ t183) ++ (⟨#[32, 120]⟩ : ByteArray)) ++ t184).size + 2 ≤ 9223372036854775807 then ((strconv_Itoa_11.f a0_6).bind fun t185 => (if (((((((((((((⟨#[111, 112]⟩ : ByteArray) ++ t179) ++ (⟨#[46]⟩ : ByteArray)) ++ t180) ++ (⟨#[32, 114]⟩ : ByteArray)) ++ t181) ++ (⟨#[32, 109]⟩ : ByteArray)) ++ t182) ++ (⟨#[58]⟩ : ByteArray)) ++ t183) ++ (⟨#[32, 120]⟩ : ByteArray)) ++ t184) ++ (⟨#[32, 115]⟩ : ByteArray)).size + t185.size ≤ 9223372036854775807 then (some ((((((((((((((⟨#[111, 112]⟩ : ByteArray) ++ t179) ++ (⟨#[46]⟩ : ByteArray)) ++ t180) ++ (⟨#[32, 114]⟩ : ByteArray)) ++ t181) ++ (⟨#[32, 109]⟩ : ByteArray)) ++ t182) ++ (⟨#[58]⟩ : ByteArray)) ++ t183) ++ (⟨#[32, 120]⟩ : ByteArray)) ++ t184) ++ (⟨#[32, 115]⟩ : ByteArray)) ++ t185, true)) else (none))) else (none)) else (none))) else (none)) else (none))) else (none)) else (none))) else (none)) else (none))) else (none)) else (none))) else (none)) else (none))) else (some ((⟨#[]⟩ : ByteArray), false))) = some (r1, r2) := H
  have A2 := Aside0.mk A20
  clear A20
  by_cases c3 : t178 = true
  · subst c3
    have H1 : ((strconv_Itoa_11.f a0_0).bind fun t179 => (if 2 + t179.size ≤ 9223372036854775807 then (if ((⟨#[111, 112]⟩ : ByteArray) ++ t179).size + 1 ≤ 9223372036854775807 then ((strconv_Itoa_11.f a0_1).bind fun t180 => (if (((⟨#[111, 112]⟩ : ByteArray) ++ t179) ++ (⟨#[46]⟩ : ByteArray)).size + t180.size ≤ 9223372036854775807 then (if ((((⟨#[111, 112]⟩ : ByteArray) ++ t179) ++ (⟨#[46]⟩ : ByteArray)) ++ t180).size + 2 ≤ 9223372036854775807 then ((strconv_Itoa_11.f a0_2).bind fun t181 => (if (((((⟨#[111, 112]⟩ : ByteArray) ++ t179) ++ (⟨#[46]⟩ : ByteArray)) ++ t180) ++ (⟨#[32, 114]⟩ : ByteArray)).size + t181.size ≤ 9223372036854775807 then (if ((((((⟨#[111, 112]⟩ : ByteArray) ++ t179) ++ (⟨#[46]⟩ : ByteArray)) ++ t180) ++ (⟨#[32, 114]⟩ : ByteArray)) ++ t181).size + 2 ≤ 9223372036854775807 then ((strconv_Itoa_11.f a0_3).bind fun t182 => (if (((((((⟨#[111, 112]⟩ : ByteArray) ++ t179) ++ (⟨#[46]⟩ : ByteArray)) ++ t180) ++ (⟨#[32, 114]⟩ : ByteArray)) ++ t181) ++ (⟨#[32, 109]⟩ : ByteArray)).size + t182.size ≤ 9223372036854775807 then (if ((((((((⟨#[111, 112]⟩ : ByteArray) ++ t179) ++ (⟨#[46]⟩ : ByteArray)) ++ t180) ++ (⟨#[32, 114]⟩ : ByteArray)) ++ t181) ++ (⟨#[32, 109]⟩ : ByteArray)) ++ t182).size + 1 ≤ 9223372036854775807 then ((strconv_Itoa_11.f a0_4).bind fun t183 => (if (((((((((⟨#[111, 112]⟩ : ByteArray) ++ t179) ++ (⟨#[46]⟩ : ByteArray)) ++ t180) ++ (⟨#[32, 114]⟩ : ByteArray)) ++ t181) ++ (⟨#[32, 109]⟩ : ByteArray)) ++ t182) ++ (⟨#[58]⟩ : ByteArray)).size + t183.size ≤ 9223372036854775807 then (if ((((((((((⟨#[111, 112]⟩ : ByteArray) ++ t179) ++ (⟨#[46]⟩ : ByteArray)) ++ t180) ++ (⟨#[32, 114]⟩ : ByteArray)) ++ t181) ++ (⟨#[32, 109]⟩ : ByteArray)) ++ t182) ++ (⟨#[58]⟩ : ByteArray)) ++ t183).size + 2 ≤ 9223372036854775807 then ((strconv_Itoa_11.f a0_5).bind fun t184 => (if (((((((((((⟨#[111, 112]⟩ : ByteArray) ++ t179) ++ (⟨#[46]⟩ : ByteArray)) ++ t180) ++ (⟨#[32, 114]⟩ : ByteArray)) ++ t181) ++ (⟨#[32, 109]⟩ : ByteArray)) ++ t182) ++ (⟨#[58]⟩ : ByteArray)) ++ t183) ++ (⟨#[32, 120]⟩ : ByteArray)).size + t184.size ≤ 9223372036854775807 then (if ((((((((((((⟨#[111, 112]⟩ : ByteArray) ++ t179) ++ (⟨#[46]⟩ : ByteArray)) ++ t180) ++ (⟨#[32, 114]⟩ : ByteArray)) ++ t181) ++ (⟨#[32, 109]⟩ : ByteArray)) ++ t182) ++ (⟨#[58]⟩ : ByteArray)) ++ t183) ++ (⟨#[32, 120]⟩ : ByteArray)) ++ t184).size + 2 ≤ 9223372036854775807 then ((strconv_Itoa_11.f a0_6).bind fun t185 => (if (((((((((((((⟨#[111, 112]⟩ : ByteArray) ++ t179) ++ (⟨#[46]⟩ : ByteArray)) ++ t180) ++ (⟨#[32, 114]⟩ : ByteArray)) ++ t181) ++ (⟨#[32, 109]⟩ : ByteArray)) ++ t182) ++ (⟨#[58]⟩ : ByteArray)) ++ t183) ++ (⟨#[32, 120]⟩ : ByteArray)) ++ t184) ++ (⟨#[32, 115]⟩ : ByteArray)).size + t185.size ≤ 9223372036854775807 then (some ((((((((((((((⟨#[111, 112]⟩ : ByteArray) ++ t179) ++ (⟨#[46]⟩ : ByteArray)) ++ t180) ++ (⟨#[32, 114]⟩ : ByteArray)) ++ t181) ++ (⟨#[32, 109]⟩ : ByteArray)) ++ t182) ++ (⟨#[58]⟩ : ByteArray)) ++ t183) ++ (⟨#[32, 120]⟩ : ByteArray)) ++ t184) ++ (⟨#[32, 115]⟩ : ByteArray)) ++ t185, true)) else (none))) else (none)) else (none))) else (none)) else (none))) else (none)) else (none))) else (none)) else (none))) else (none)) else (none))) else (none)) else (none))) = some (r1, r2) := by rw [if_pos rfl] at H; exact H
    clear H
    have H := H1
    clear H1
    replace H := Option.bind_eq_some_iff.mp H
    obtain ⟨t179, A40, H⟩ := H
    replace H : (if 2 + t179.size ≤ 9223372036854775807 then (if ((⟨#[111, 112]⟩ : ByteArray) ++ t179).size + 1 ≤ 9223372036854775807 then ((strconv_Itoa_11.f a0_1).bind fun t180 => (if (((⟨#[111, 112]⟩ : ByteArray) ++ t179) ++ (⟨#[46]⟩ : ByteArray)).size + t180.size ≤ 9223372036854775807 then (if ((((⟨#[111, 112]⟩ : ByteArray) ++ t179) ++ (⟨#[46]⟩ : ByteArray)) ++ t180).size + 2 ≤ 9223372036854775807 then ((strconv_Itoa_11.f a0_2).bind fun t181 => (if (((((⟨#[111, 112]⟩ : ByteArray) ++ t179) ++ (⟨#[46]⟩ : ByteArray)) ++ t180) ++ (⟨#[32, 114]⟩ : ByteArray)).size + t181.size ≤ 9223372036854775807 then (if ((((((⟨#[111, 112]⟩ : ByteArray) ++ t179) ++ (⟨#[46]⟩ : ByteArray)) ++ t180) ++ (⟨#[32, 114]⟩ : ByteArray)) ++ t181).size + 2 ≤ 9223372036854775807 then ((strconv_Itoa_11.f a0_3).bind fun t182 => (if (((((((⟨#[111, 112]⟩ : ByteArray) ++ t179) ++ (⟨#[46]⟩ : ByteArray)) ++ t180) ++ (⟨#[32, 114]⟩ : ByteArray)) ++ t181) ++ (⟨#[32, 109]⟩ : ByteArray)).size + t182.size ≤ 9223372036854775807 then (if ((((((((⟨#[111, 112]⟩ : ByteArray) ++ t179) ++ (⟨#[46]⟩ : ByteArray)) ++ t180) ++ (⟨#[32, 114]⟩ : ByteArray)) ++ t181) ++ (⟨#[32, 109]⟩ : ByteArray)) ++ t182).size + 1 ≤ 9223372036854775807 then ((strconv_Itoa_11.f a0_4).bind fun t183 => (if (((((((((⟨#[111, 112]⟩ : ByteArray) ++ t179) ++ (⟨#[46]⟩ : ByteArray)) ++ t180) ++ (⟨#[32, 114]⟩ : ByteArray)) ++ t181) ++ (⟨#[32, 109]⟩ : ByteArray)) ++ t182) ++ (⟨#[58]⟩ : ByteArray)).size + t183.size ≤ 9223372036854775807 then (if ((((((((((⟨#[111, 112]⟩ : ByteArray) ++ t179) ++ (⟨#[46]⟩ : ByteArray)) ++ t180) ++ (⟨#[32, 114]⟩ : ByteArray)) ++ t181) ++ (⟨#[32, 109]⟩ : ByteArray)) ++ t182) ++ (⟨#[58]⟩ : ByteArray)) ++ t183).size + 2 ≤ 9223372036854775807 then ((strconv_Itoa_11.f a0_5).bind fun t184 => (if (((((((((((⟨#[111, 112]⟩ : ByteArray) ++ t179) ++ (⟨#[46]⟩ : ByteArray)) ++ t180) ++ (⟨#[32, 114]⟩ : ByteArray)) ++ t181) ++ (⟨#[32, 109]⟩ : ByteArray)) ++ t182) ++ (⟨#[58]⟩ : ByteArray)) ++ t183) ++ (⟨#[32, 120]⟩ : ByteArray)).size + t184.size ≤ 9223372036854775807 then (if ((((((((((((⟨#[111, 112]⟩ : ByteArray) ++ t179) ++ (⟨#[46]⟩ : ByteArray)) ++ t180) ++ (⟨#[32, 114]⟩ : ByteArray)) ++ t181) ++ (⟨#[32, 109]⟩ : ByteArray)) ++ t182) ++ (⟨#[58]⟩ : ByteArray)) ++ t183) ++ (⟨#[32, 120]⟩ : ByteArray)) ++ t184).size + 2 ≤ 9223372036854775807 then ((strconv_Itoa_11.f a0_6).bind fun t185 => (if (((((((((((((⟨#[111, 112]⟩ : ByteArray) ++ t179) ++ (⟨#[46]⟩ : ByteArray)) ++ t180) ++ (⟨#[32, 114]⟩ : ByteArray)) ++ t181) ++ (⟨#[32, 109]⟩ : ByteArray)) ++ t182) ++ (⟨#[58]⟩ : ByteArray)) ++ t183) ++ (⟨#[32, 120]⟩ : ByteArray)) ++ t184) ++ (⟨#[32, 115]⟩ : ByteArray)).size + t185.size ≤ 9223372036854775807 then (some ((((((((((((((⟨#[111, 112]⟩ : ByteArray) ++ t179) ++ (⟨#[46]⟩ : ByteArray)) ++ t180) ++ (⟨#[32, 114]⟩ : ByteArray)) ++ t181) ++ (⟨#[32, 109]⟩ : ByteArray)) ++ t182) ++ (⟨#[58]⟩ : ByteArray)) ++ t183) ++ (⟨#[32, 120]⟩ : ByteArray)) ++ t184) ++ (⟨#[32, 115]⟩ : ByteArray)) ++ t185, true)) else (none))) else (none)) else (none))) else (none)) else (none))) else (none)) else (none))) else (none)) else (none))) else (none)) else (none))) else (none)) else (none)) = some (r1, r2) := H
    have A4 := Aside0.mk A40
    clear A40
    by_cases c5 : 2 + t179.size ≤ 9223372036854775807
    · rw [if_pos c5] at H
      have c5b0 := eq_true c5
      have c5b1 : decide (2 + t179.size ≤ 9223372036854775807) = true := decide_eq_true c5
      try have c5b2 : (9223372036854775807 < 2 + t179.size) = False := eq_false (Nat.not_lt.2 c5)
      by_cases c6 : ((⟨#[111, 112]⟩ : ByteArray) ++ t179).size + 1 ≤ 9223372036854775807
      · rw [if_pos c6] at H
        have c6b0 := eq_true c6
        have c6b1 : decide (((⟨#[111, 112]⟩ : ByteArray) ++ t179).size + 1 ≤ 9223372036854775807) = true := decide_eq_true c6
        try have c6b2 : (9223372036854775807 < ((⟨#[111, 112]⟩ : ByteArray) ++ t179).size + 1) = False := eq_false (Nat.not_lt.2 c6)
        have c6s : (9223372036854775807 < 2 + t179.size + 1) = False := eq_false (Nat.not_lt.2 (by have h_ := c6; simp only [ByteArray.size_append] at h_; exact h_))
        replace H := Option.bind_eq_some_iff.mp H
        obtain ⟨t180, A70, H⟩ := H
        replace H : (if (((⟨#[111, 112]⟩ : ByteArray) ++ t179) ++ (⟨#[46]⟩ : ByteArray)).size + t180.size ≤ 9223372036854775807 then (if ((((⟨#[111, 112]⟩ : ByteArray) ++ t179) ++ (⟨#[46]⟩ : ByteArray)) ++ t180).size + 2 ≤ 9223372036854775807 then ((strconv_Itoa_11.f a0_2).bind fun t181 => (if (((((⟨#[111, 112]⟩ : ByteArray) ++ t179) ++ (⟨#[46]⟩ : ByteArray)) ++ t180) ++ (⟨#[32, 114]⟩ : ByteArray)).size + t181.size ≤ 9223372036854775807 then (if ((((((⟨#[111, 112]⟩ : ByteArray) ++ t179) ++ (⟨#[46]⟩ : ByteArray)) ++ t180) ++ (⟨#[32, 114]⟩ : ByteArray)) ++ t181).size + 2 ≤ 9223372036854775807 then ((strconv_Itoa_11.f a0_3).bind fun t182 => (if (((((((⟨#[111, 112]⟩ : ByteArray) ++ t179) ++ (⟨#[46]⟩ : ByteArray)) ++ t180) ++ (⟨#[32, 114]⟩ : ByteArray)) ++ t181) ++ (⟨#[32, 109]⟩ : ByteArray)).size + t182.size ≤ 9223372036854775807 then (if ((((((((⟨#[111, 112]⟩ : ByteArray) ++ t179) ++ (⟨#[46]⟩ : ByteArray)) ++ t180) ++ (⟨#[32, 114]⟩ : ByteArray)) ++ t181) ++ (⟨#[32, 109]⟩ : ByteArray)) ++ t182).size + 1 ≤ 9223372036854775807 then ((strconv_Itoa_11.f a0_4).bind fun t183 => (if (((((((((⟨#[111, 112]⟩ : ByteArray) ++ t179) ++ (⟨#[46]⟩ : ByteArray)) ++ t180) ++ (⟨#[32, 114]⟩ : ByteArray)) ++ t181) ++ (⟨#[32, 109]⟩ : ByteArray)) ++ t182) ++ (⟨#[58]⟩ : ByteArray)).size + t183.size ≤ 9223372036854775807 then (if ((((((((((⟨#[111, 112]⟩ : ByteArray) ++ t179) ++ (⟨#[46]⟩ : ByteArray)) ++ t180) ++ (⟨#[32, 114]⟩ : ByteArray)) ++ t181) ++ (⟨#[32, 109]⟩ : ByteArray)) ++ t182) ++ (⟨#[58]⟩ : ByteArray)) ++ t183).size + 2 ≤ 9223372036854775807 then ((strconv_Itoa_11.f a0_5).bind fun t184 => (if (((((((((((⟨#[111, 112]⟩ : ByteArray) ++ t179) ++ (⟨#[46]⟩ : ByteArray)) ++ t180) ++ (⟨#[32, 114]⟩ : ByteArray)) ++ t181) ++ (⟨#[32, 109]⟩ : ByteArray)) ++ t182) ++ (⟨#[58]⟩ : ByteArray)) ++ t183) ++ (⟨#[32, 120]⟩ : ByteArray)).size + t184.size ≤ 9223372036854775807 then (if ((((((((((((⟨#[111, 112]⟩ : ByteArray) ++ t179) ++ (⟨#[46]⟩ : ByteArray)) ++ t180) ++ (⟨#[32, 114]⟩ : ByteArray)) ++ t181) ++ (⟨#[32, 109]⟩ : ByteArray)) ++ t182) ++ (⟨#[58]⟩ : ByteArray)) ++ t183) ++ (⟨#[32, 120]⟩ : ByteArray)) ++ t184).size + 2 ≤ 9223372036854775807 then ((strconv_Itoa_11.f a0_6).bind fun t185 => (if (((((((((((((⟨#[111, 112]⟩ : ByteArray) ++ t179) ++ (⟨#[46]⟩ : ByteArray)) ++ t180) ++ (⟨#[32, 114]⟩ : ByteArray)) ++ t181) ++ (⟨#[32, 109]⟩ : ByteArray)) ++ t182) ++ (⟨#[58]⟩ : ByteArray)) ++ t183) ++ (⟨#[32, 120]⟩ : ByteArray)) ++ t184) ++ (⟨#[32, 115]⟩ : ByteArray)).size + t185.size ≤ 9223372036854775807 then (some ((((((((((((((⟨#[111, 112]⟩ : ByteArray) ++ t179) ++ (⟨#[46]⟩ : ByteArray)) ++ t180) ++ (⟨#[32, 114]⟩ : ByteArray)) ++ t181) ++ (⟨#[32, 109]⟩ : ByteArray)) ++ t182) ++ (⟨#[58]⟩ : ByteArray)) ++ t183) ++ (⟨#[32, 120]⟩ : ByteArray)) ++ t184) ++ (⟨#[32, 115]⟩ : ByteArray)) ++ t185, true)) else (none))) else (none)) else (none))) else (none)) else (none))) else (none)) else (none))) else (none)) else (none))) else (none)) else (none)) = some (r1, r2) := H
        have A7 := Aside0.mk A70
        clear A70
        by_cases c8 : (((⟨#[111, 112]⟩ : ByteArray) ++ t179) ++ (⟨#[46]⟩ : ByteArray)).size + t180.size ≤ 9223372036854775807
        · rw [if_pos c8] at H
          have c8b0 := eq_true c8
          have c8b1 : decide ((((⟨#[111, 112]⟩ : ByteArray) ++ t179) ++ (⟨#[46]⟩ : ByteArray)).size + t180.size ≤ 9223372036854775807) = true := decide_eq_true c8
          try have c8b2 : (9223372036854775807 < (((⟨#[111, 112]⟩ : ByteArray) ++ t179) ++ (⟨#[46]⟩ : ByteArray)).size + t180.size) = False := eq_false (Nat.not_lt.2 c8)
          have c8s : (9223372036854775807 < 2 + t179.size + 1 + t180.size) = False := eq_false (Nat.not_lt.2 (by have h_ := c8; simp only [ByteArray.size_append] at h_; exact h_))
          by_cases c9 : ((((⟨#[111, 112]⟩ : ByteArray) ++ t179) ++ (⟨#[46]⟩ : ByteArray)) ++ t180).size + 2 ≤ 9223372036854775807
          · rw [if_pos c9] at H
            have c9b0 := eq_true c9
            have c9b1 : decide (((((⟨#[111, 112]⟩ : ByteArray) ++ t179) ++ (⟨#[46]⟩ : ByteArray)) ++ t180).size + 2 ≤ 9223372036854775807) = true := decide_eq_true c9
            try have c9b2 : (9223372036854775807 < ((((⟨#[111, 112]⟩ : ByteArray) ++ t179) ++ (⟨#[46]⟩ : ByteArray)) ++ t180).size + 2) = False := eq_false (Nat.not_lt.2 c9)
            have c9s : (9223372036854775807 < 2 + t179.size + 1 + t180.size + 2) = False := eq_false (Nat.not_lt.2 (by have h_ := c9; simp only [ByteArray.size_append] at h_; exact h_))
            replace H := Option.bind_eq_some_iff.mp H
            obtain ⟨t181, A100, H⟩ := H
            replace H : (if (((((⟨#[111, 112]⟩ : ByteArray) ++ t179) ++ (⟨#[46]⟩ : ByteArray)) ++ t180) ++ (⟨#[32, 114]⟩ : ByteArray)).size + t181.size ≤ 9223372036854775807 then (if ((((((⟨#[111, 112]⟩ : ByteArray) ++ t179) ++ (⟨#[46]⟩ : ByteArray)) ++ t180) ++ (⟨#[32, 114]⟩ : ByteArray)) ++ t181).size + 2 ≤ 9223372036854775807 then ((strconv_Itoa_11.f a0_3).bind fun t182 => (if (((((((⟨#[111, 112]⟩ : ByteArray) ++ t179) ++ (⟨#[46]⟩ : ByteArray)) ++ t180) ++ (⟨#[32, 114]⟩ : ByteArray)) ++ t181) ++ (⟨#[32, 109]⟩ : ByteArray)).size + t182.size ≤ 9223372036854775807 then (if ((((((((⟨#[111, 112]⟩ : ByteArray) ++ t179) ++ (⟨#[46]⟩ : ByteArray)) ++ t180) ++ (⟨#[32, 114]⟩ : ByteArray)) ++ t181) ++ (⟨#[32, 109]⟩ : ByteArray)) ++ t182).size + 1 ≤ 9223372036854775807 then ((strconv_Itoa_11.f a0_4).bind fun t183 => (if (((((((((⟨#[111, 112]⟩ : ByteArray) ++ t179) ++ (⟨#[46]⟩ : ByteArray)) ++ t180) ++ (⟨#[32, 114]⟩ : ByteArray)) ++ t181) ++ (⟨#[32, 109]⟩ : ByteArray)) ++ t182) ++ (⟨#[58]⟩ : ByteArray)).size + t183.size ≤ 9223372036854775807 then (if ((((((((((⟨#[111, 112]⟩ : ByteArray) ++ t179) ++ (⟨#[46]⟩ : ByteArray)) ++ t180) ++ (⟨#[32, 114]⟩ : ByteArray)) ++ t181) ++ (⟨#[32, 109]⟩ : ByteArray)) ++ t182) ++ (⟨#[58]⟩ : ByteArray)) ++ t183).size + 2 ≤ 9223372036854775807 then ((strconv_Itoa_11.f a0_5).bind fun t184 => (if (((((((((((⟨#[111, 112]⟩ : ByteArray) ++ t179) ++ (⟨#[46]⟩ : ByteArray)) ++ t180) ++ (⟨#[32, 114]⟩ : ByteArray)) ++ t181) ++ (⟨#[32, 109]⟩ : ByteArray)) ++ t182) ++ (⟨#[58]⟩ : ByteArray)) ++ t183) ++ (⟨#[32, 120]⟩ : ByteArray)).size + t184.size ≤ 9223372036854775807 then (if ((((((((((((⟨#[111, 112]⟩ : ByteArray) ++ t179) ++ (⟨#[46]⟩ : ByteArray)) ++ t180) ++ (⟨#[32, 114]⟩ : ByteArray)) ++ t181) ++ (⟨#[32, 109]⟩ : ByteArray)) ++ t182) ++ (⟨#[58]⟩ : ByteArray)) ++ t183) ++ (⟨#[32, 120]⟩ : ByteArray)) ++ t184).size + 2 ≤ 9223372036854775807 then ((strconv_Itoa_11.f a0_6).bind fun t185 => (if (((((((((((((⟨#[111, 112]⟩ : ByteArray) ++ t179) ++ (⟨#[46]⟩ : ByteArray)) ++ t180) ++ (⟨#[32, 114]⟩ : ByteArray)) ++ t181) ++ (⟨#[32, 109]⟩ : ByteArray)) ++ t182) ++ (⟨#[58]⟩ : ByteArray)) ++ t183) ++ (⟨#[32, 120]⟩ : ByteArray)) ++ t184) ++ (⟨#[32, 115]⟩ : ByteArray)).size + t185.size ≤ 9223372036854775807 then (some ((((((((((((((⟨#[111, 112]⟩ : ByteArray) ++ t179) ++ (⟨#[46]⟩ : ByteArray)) ++ t180) ++ (⟨#[32, 114]⟩ : ByteArray)) ++ t181) ++ (⟨#[32, 109]⟩ : ByteArray)) ++ t182) ++ (⟨#[58]⟩ : ByteArray)) ++ t183) ++ (⟨#[32, 120]⟩ : ByteArray)) ++ t184) ++ (⟨#[32, 115]⟩ : ByteArray)) ++ t185, true)) else (none))) else (none)) else (none))) else (none)) else (none))) else (none)) else (none))) else (none)) else (none)) = some (r1, r2) := H
            have A10 := Aside0.mk A100
            clear A100
            by_cases c11 : (((((⟨#[111, 112]⟩ : ByteArray) ++ t179) ++ (⟨#[46]⟩ : ByteArray)) ++ t180) ++ (⟨#[32, 114]⟩ : ByteArray)).size + t181.size ≤ 9223372036854775807
            · rw [if_pos c11] at H
              have c11b0 := eq_true c11
              have c11b1 : decide ((((((⟨#[111, 112]⟩ : ByteArray) ++ t179) ++ (⟨#[46]⟩ : ByteArray)) ++ t180) ++ (⟨#[32, 114]⟩ : ByteArray)).size + t181.size ≤ 9223372036854775807) = true := decide_eq_true c11
              try have c11b2 : (9223372036854775807 < (((((⟨#[111, 112]⟩ : ByteArray) ++ t179) ++ (⟨#[46]⟩ : ByteArray)) ++ t180) ++ (⟨#[32, 114]⟩ : ByteArray)).size + t181.size) = False := eq_false (Nat.not_lt.2 c11)
              have c11s : (9223372036854775807 < 2 + t179.size + 1 + t180.size + 2 + t181.size) = False := eq_false (Nat.not_lt.2 (by have h_ := c11; simp only [ByteArray.size_append] at h_; exact h_))
              by_cases c12 : ((((((⟨#[111, 112]⟩ : ByteArray) ++ t179) ++ (⟨#[46]⟩ : ByteArray)) ++ t180) ++ (⟨#[32, 114]⟩ : ByteArray)) ++ t181).size + 2 ≤ 9223372036854775807
              · rw [if_pos c12] at H
                have c12b0 := eq_true c12
                have c12b1 : decide (((((((⟨#[111, 112]⟩ : ByteArray) ++ t179) ++ (⟨#[46]⟩ : ByteArray)) ++ t180) ++ (⟨#[32, 114]⟩ : ByteArray)) ++ t181).size + 2 ≤ 9223372036854775807) = true := decide_eq_true c12
                try have c12b2 : (9223372036854775807 < ((((((⟨#[111, 112]⟩ : ByteArray) ++ t179) ++ (⟨#[46]⟩ : ByteArray)) ++ t180) ++ (⟨#[32, 114]⟩ : ByteArray)) ++ t181).size + 2) = False := eq_false (Nat.not_lt.2 c12)
                have c12s : (9223372036854775807 < 2 + t179.size + 1 + t180.size + 2 + t181.size + 2) = False := eq_false (Nat.not_lt.2 (by have h_ := c12; simp only [ByteArray.size_append] at h_; exact h_))
                replace H := Option.bind_eq_some_iff.mp H
                obtain ⟨t182, A130, H⟩ := H
                replace H : (if (((((((⟨#[111, 112]⟩ : ByteArray) ++ t179) ++ (⟨#[46]⟩ : ByteArray)) ++ t180) ++ (⟨#[32, 114]⟩ : ByteArray)) ++ t181) ++ (⟨#[32, 109]⟩ : ByteArray)).size + t182.size ≤ 9223372036854775807 then (if ((((((((⟨#[111, 112]⟩ : ByteArray) ++ t179) ++ (⟨#[46]⟩ : ByteArray)) ++ t180) ++ (⟨#[32, 114]⟩ : ByteArray)) ++ t181) ++ (⟨#[32, 109]⟩ : ByteArray)) ++ t182).size + 1 ≤ 9223372036854775807 then ((strconv_Itoa_11.f a0_4).bind fun t183 => (if (((((((((⟨#[111, 112]⟩ : ByteArray) ++ t179) ++ (⟨#[46]⟩ : ByteArray)) ++ t180) ++ (⟨#[32, 114]⟩ : ByteArray)) ++ t181) ++ (⟨#[32, 109]⟩ : ByteArray)) ++ t182) ++ (⟨#[58]⟩ : ByteArray)).size + t183.size ≤ 9223372036854775807 then (if ((((((((((⟨#[111, 112]⟩ : ByteArray) ++ t179) ++ (⟨#[46]⟩ : ByteArray)) ++ t180) ++ (⟨#[32, 114]⟩ : ByteArray)) ++ t181) ++ (⟨#[32, 109]⟩ : ByteArray)) ++ t182) ++ (⟨#[58]⟩ : ByteArray)) ++ t183).size + 2 ≤ 9223372036854775807 then ((strconv_Itoa_11.f a0_5).bind fun t184 => (if (((((((((((⟨#[111, 112]⟩ : ByteArray) ++ t179) ++ (⟨#[46]⟩ : ByteArray)) ++ t180) ++ (⟨#[32, 114]⟩ : ByteArray)) ++ t181) ++ (⟨#[32, 109]⟩ : ByteArray)) ++ t182) ++ (⟨#[58]⟩ : ByteArray)) ++ t183) ++ (⟨#[32, 120]⟩ : ByteArray)).size + t184.size ≤ 9223372036854775807 then (if ((((((((((((⟨#[111, 112]⟩ : ByteArray) ++ t179) ++ (⟨#[46]⟩ : ByteArray)) ++ t180) ++ (⟨#[32, 114]⟩ : ByteArray)) ++ t181) ++ (⟨#[32, 109]⟩ : ByteArray)) ++ t182) ++ (⟨#[58]⟩ : ByteArray)) ++ t183) ++ (⟨#[32, 120]⟩ : ByteArray)) ++ t184).size + 2 ≤ 9223372036854775807 then ((strconv_Itoa_11.f a0_6).bind fun t185 => (if (((((((((((((⟨#[111, 112]⟩ : ByteArray) ++ t179) ++ (⟨#[46]⟩ : ByteArray)) ++ t180) ++ (⟨#[32, 114]⟩ : ByteArray)) ++ t181) ++ (⟨#[32, 109]⟩ : ByteArray)) ++ t182) ++ (⟨#[58]⟩ : ByteArray)) ++ t183) ++ (⟨#[32, 120]⟩ : ByteArray)) ++ t184) ++ (⟨#[32, 115]⟩ : ByteArray)).size + t185.size ≤ 9223372036854775807 then (some ((((((((((((((⟨#[111, 112]⟩ : ByteArray) ++ t179) ++ (⟨#[46]⟩ : ByteArray)) ++ t180) ++ (⟨#[32, 114]⟩ : ByteArray)) ++ t181) ++ (⟨#[32, 109]⟩ : ByteArray)) ++ t182) ++ (⟨#[58]⟩ : ByteArray)) ++ t183) ++ (⟨#[32, 120]⟩ : ByteArray)) ++ t184) ++ (⟨#[32, 115]⟩ : ByteArray)) ++ t185, true)) else (none))) else (none)) else (none))) else (none)) else (none))) else (none)) else (none)) = some (r1, r2) := H
                have A13 := Aside0.mk A130
                clear A130
                by_cases c14 : (((((((⟨#[111, 112]⟩ : ByteArray) ++ t179) ++ (⟨#[46]⟩ : ByteArray)) ++ t180) ++ (⟨#[32, 114]⟩ : ByteArray)) ++ t181) ++ (⟨#[32, 109]⟩ : ByteArray)).size + t182.size ≤ 9223372036854775807
                · rw [if_pos c14] at H
                  have c14b0 := eq_true c14
                  have c14b1 : decide ((((((((⟨#[111, 112]⟩ : ByteArray) ++ t179) ++ (⟨#[46]⟩ : ByteArray)) ++ t180) ++ (⟨#[32, 114]⟩ : ByteArray)) ++ t181) ++ (⟨#[32, 109]⟩ : ByteArray)).size + t182.size ≤ 9223372036854775807) = true := decide_eq_true c14
                  try have c14b2 : (9223372036854775807 < (((((((⟨#[111, 112]⟩ : ByteArray) ++ t179) ++ (⟨#[46]⟩ : ByteArray)) ++ t180) ++ (⟨#[32, 114]⟩ : ByteArray)) ++ t181) ++ (⟨#[32, 109]⟩ : ByteArray)).size + t182.size) = False := eq_false (Nat.not_lt.2 c14)
                  have c14s : (9223372036854775807 < 2 + t179.size + 1 + t180.size + 2 + t181.size + 2 + t182.size) = False := eq_false (Nat.not_lt.2 (by have h_ := c14; simp only [ByteArray.size_append] at h_; exact h_))
                  by_cases c15 : ((((((((⟨#[111, 112]⟩ : ByteArray) ++ t179) ++ (⟨#[46]⟩ : ByteArray)) ++ t180) ++ (⟨#[32, 114]⟩ : ByteArray)) ++ t181) ++ (⟨#[32, 109]⟩ : ByteArray)) ++ t182).size + 1 ≤ 9223372036854775807
                  · rw [if_pos c15] at H
                    have c15b0 := eq_true c15
                    have c15b1 : decide (((((((((⟨#[111, 112]⟩ : ByteArray) ++ t179) ++ (⟨#[46]⟩ : ByteArray)) ++ t180) ++ (⟨#[32, 114]⟩ : ByteArray)) ++ t181) ++ (⟨#[32, 109]⟩ : ByteArray)) ++ t182).size + 1 ≤ 9223372036854775807) = true := decide_eq_true c15
                    try have c15b2 : (9223372036854775807 < ((((((((⟨#[111, 112]⟩ : ByteArray) ++ t179) ++ (⟨#[46]⟩ : ByteArray)) ++ t180) ++ (⟨#[32, 114]⟩ : ByteArray)) ++ t181) ++ (⟨#[32, 109]⟩ : ByteArray)) ++ t182).size + 1) = False := eq_false (Nat.not_lt.2 c15)
                    have c15s : (9223372036854775807 < 2 + t179.size + 1 + t180.size + 2 + t181.size + 2 + t182.size + 1) = False := eq_false (Nat.not_lt.2 (by have h_ := c15; simp only [ByteArray.size_append] at h_; exact h_))
                    replace H := Option.bind_eq_some_iff.mp H
                    obtain ⟨t183, A160, H⟩ := H
                    replace H : (if (((((((((⟨#[111, 112]⟩ : ByteArray) ++ t179) ++ (⟨#[46]⟩ : ByteArray)) ++ t180) ++ (⟨#[32, 114]⟩ : ByteArray)) ++ t181) ++ (⟨#[32, 109]⟩ : ByteArray)) ++ t182) ++ (⟨#[58]⟩ : ByteArray)).size + t183.size ≤ 9223372036854775807 then (if ((((((((((⟨#[111, 112]⟩ : ByteArray) ++ t179) ++ (⟨#[46]⟩ : ByteArray)) ++ t180) ++ (⟨#[32, 114]⟩ : ByteArray)) ++ t181) ++ (⟨#[32, 109]⟩ : ByteArray)) ++ t182) ++ (⟨#[58]⟩ : ByteArray)) ++ t183).size + 2 ≤ 9223372036854775807 then ((strconv_Itoa_11.f a0_5).bind fun t184 => (if (((((((((((⟨#[111, 112]⟩ : ByteArray) ++ t179) ++ (⟨#[46]⟩ : ByteArray)) ++ t180) ++ (⟨#[32, 114]⟩ : ByteArray)) ++ t181) ++ (⟨#[32, 109]⟩ : ByteArray)) ++ t182) ++ (⟨#[58]⟩ : ByteArray)) ++ t183) ++ (⟨#[32, 120]⟩ : ByteArray)).size + t184.size ≤ 9223372036854775807 then (if ((((((((((((⟨#[111, 112]⟩ : ByteArray) ++ t179) ++ (⟨#[46]⟩ : ByteArray)) ++ t180) ++ (⟨#[32, 114]⟩ : ByteArray)) ++ t181) ++ (⟨#[32, 109]⟩ : ByteArray)) ++ t182) ++ (⟨#[58]⟩ : ByteArray)) ++ t183) ++ (⟨#[32, 120]⟩ : ByteArray)) ++ t184).size + 2 ≤ 9223372036854775807 then ((strconv_Itoa_11.f a0_6).bind fun t185 => (if (((((((((((((⟨#[111, 112]⟩ : ByteArray) ++ t179) ++ (⟨#[46]⟩ : ByteArray)) ++ t180) ++ (⟨#[32, 114]⟩ : ByteArray)) ++ t181) ++ (⟨#[32, 109]⟩ : ByteArray)) ++ t182) ++ (⟨#[58]⟩ : ByteArray)) ++ t183) ++ (⟨#[32, 120]⟩ : ByteArray)) ++ t184) ++ (⟨#[32, 115]⟩ : ByteArray)).size + t185.size ≤ 9223372036854775807 then (some ((((((((((((((⟨#[111, 112]⟩ : ByteArray) ++ t179) ++ (⟨#[46]⟩ : ByteArray)) ++ t180) ++ (⟨#[32, 114]⟩ : ByteArray)) ++ t181) ++ (⟨#[32, 109]⟩ : ByteArray)) ++ t182) ++ (⟨#[58]⟩ : ByteArray)) ++ t183) ++ (⟨#[32, 120]⟩ : ByteArray)) ++ t184) ++ (⟨#[32, 115]⟩ : ByteArray)) ++ t185, true)) else (none))) else (none)) else (none))) else (none)) else (none)) = some (r1, r2) := H
                    have A16 := Aside0.mk A160
                    clear A160
                    by_cases c17 : (((((((((⟨#[111, 112]⟩ : ByteArray) ++ t179) ++ (⟨#[46]⟩ : ByteArray)) ++ t180) ++ (⟨#[32, 114]⟩ : ByteArray)) ++ t181) ++ (⟨#[32, 109]⟩ : ByteArray)) ++ t182) ++ (⟨#[58]⟩ : ByteArray)).size + t183.size ≤ 9223372036854775807
                    · rw [if_pos c17] at H
                      have c17b0 := eq_true c17
                      have c17b1 : decide ((((((((((⟨#[111, 112]⟩ : ByteArray) ++ t179) ++ (⟨#[46]⟩ : ByteArray)) ++ t180) ++ (⟨#[32, 114]⟩ : ByteArray)) ++ t181) ++ (⟨#[32, 109]⟩ : ByteArray)) ++ t182) ++ (⟨#[58]⟩ : ByteArray)).size + t183.size ≤ 9223372036854775807) = true := decide_eq_true c17
                      try have c17b2 : (9223372036854775807 < (((((((((⟨#[111, 112]⟩ : ByteArray) ++ t179) ++ (⟨#[46]⟩ : ByteArray)) ++ t180) ++ (⟨#[32, 114]⟩ : ByteArray)) ++ t181) ++ (⟨#[32, 109]⟩ : ByteArray)) ++ t182) ++ (⟨#[58]⟩ : ByteArray)).size + t183.size) = False := eq_false (Nat.not_lt.2 c17)
                      have c17s : (9223372036854775807 < 2 + t179.size + 1 + t180.size + 2 + t181.size + 2 + t182.size + 1 + t183.size) = False := eq_false (Nat.not_lt.2 (by have h_ := c17; simp only [ByteArray.size_append] at h_; exact h_))
                      by_cases c18 : ((((((((((⟨#[111, 112]⟩ : ByteArray) ++ t179) ++ (⟨#[46]⟩ : ByteArray)) ++ t180) ++ (⟨#[32, 114]⟩ : ByteArray)) ++ t181) ++ (⟨#[32, 109]⟩ : ByteArray)) ++ t182) ++ (⟨#[58]⟩ : ByteArray)) ++ t183).size + 2 ≤ 9223372036854775807
                      · rw [if_pos c18] at H
                        have c18b0 := eq_true c18
                        have c18b1 : decide (((((((((((⟨#[111, 112]⟩ : ByteArray) ++ t179) ++ (⟨#[46]⟩ : ByteArray)) ++ t180) ++ (⟨#[32, 114]⟩ : ByteArray)) ++ t181) ++ (⟨#[32, 109]⟩ : ByteArray)) ++ t182) ++ (⟨#[58]⟩ : ByteArray)) ++ t183).size + 2 ≤ 9223372036854775807) = true := decide_eq_true c18
                        try have c18b2 : (9223372036854775807 < ((((((((((⟨#[111, 112]⟩ : ByteArray) ++ t179) ++ (⟨#[46]⟩ : ByteArray)) ++ t180) ++ (⟨#[32, 114]⟩ : ByteArray)) ++ t181) ++ (⟨#[32, 109]⟩ : ByteArray)) ++ t182) ++ (⟨#[58]⟩ : ByteArray)) ++ t183).size + 2) = False := eq_false (Nat.not_lt.2 c18)
                        have c18s : (9223372036854775807 < 2 + t179.size + 1 + t180.size + 2 + t181.size + 2 + t182.size + 1 + t183.size + 2) = False := eq_false (Nat.not_lt.2 (by have h_ := c18; simp only [ByteArray.size_append] at h_; exact h_))
                        replace H := Option.bind_eq_some_iff.mp H
                        obtain ⟨t184, A190, H⟩ := H
                        replace H : (if (((((((((((⟨#[111, 112]⟩ : ByteArray) ++ t179) ++ (⟨#[46]⟩ : ByteArray)) ++ t180) ++ (⟨#[32, 114]⟩ : ByteArray)) ++ t181) ++ (⟨#[32, 109]⟩ : ByteArray)) ++ t182) ++ (⟨#[58]⟩ : ByteArray)) ++ t183) ++ (⟨#[32, 120]⟩ : ByteArray)).size + t184.size ≤ 9223372036854775807 then (if ((((((((((((⟨#[111, 112]⟩ : ByteArray) ++ t179) ++ (⟨#[46]⟩ : ByteArray)) ++ t180) ++ (⟨#[32, 114]⟩ : ByteArray)) ++ t181) ++ (⟨#[32, 109]⟩ : ByteArray)) ++ t182) ++ (⟨#[58]⟩ : ByteArray)) ++ t183) ++ (⟨#[32, 120]⟩ : ByteArray)) ++ t184).size + 2 ≤ 9223372036854775807 then ((strconv_Itoa_11.f a0_6).bind fun t185 => (if (((((((((((((⟨#[111, 112]⟩ : ByteArray) ++ t179) ++ (⟨#[46]⟩ : ByteArray)) ++ t180) ++ (⟨#[32, 114]⟩ : ByteArray)) ++ t181) ++ (⟨#[32, 109]⟩ : ByteArray)) ++ t182) ++ (⟨#[58]⟩ : ByteArray)) ++ t183) ++ (⟨#[32, 120]⟩ : ByteArray)) ++ t184) ++ (⟨#[32, 115]⟩ : ByteArray)).size + t185.size ≤ 9223372036854775807 then (some ((((((((((((((⟨#[111, 112]⟩ : ByteArray) ++ t179) ++ (⟨#[46]⟩ : ByteArray)) ++ t180) ++ (⟨#[32, 114]⟩ : ByteArray)) ++ t181) ++ (⟨#[32, 109]⟩ : ByteArray)) ++ t182) ++ (⟨#[58]⟩ : ByteArray)) ++ t183) ++ (⟨#[32, 120]⟩ : ByteArray)) ++ t184) ++ (⟨#[32, 115]⟩ : ByteArray)) ++ t185, true)) else (none))) else (none)) else (none)) = some (r1, r2) := H
                        have A19 := Aside0.mk A190
                        clear A190
                        by_cases c20 : (((((((((((⟨#[111, 112]⟩ : ByteArray) ++ t179) ++ (⟨#[46]⟩ : ByteArray)) ++ t180) ++ (⟨#[32, 114]⟩ : ByteArray)) ++ t181) ++ (⟨#[32, 109]⟩ : ByteArray)) ++ t182) ++ (⟨#[58]⟩ : ByteArray)) ++ t183) ++ (⟨#[32, 120]⟩ : ByteArray)).size + t184.size ≤ 9223372036854775807
                        · rw [if_pos c20] at H
                          have c20b0 := eq_true c20
                          have c20b1 : decide ((((((((((((⟨#[111, 112]⟩ : ByteArray) ++ t179) ++ (⟨#[46]⟩ : ByteArray)) ++ t180) ++ (⟨#[32, 114]⟩ : ByteArray)) ++ t181) ++ (⟨#[32, 109]⟩ : ByteArray)) ++ t182) ++ (⟨#[58]⟩ : ByteArray)) ++ t183) ++ (⟨#[32, 120]⟩ : ByteArray)).size + t184.size ≤ 9223372036854775807) = true := decide_eq_true c20
                          try have c20b2 : (9223372036854775807 < (((((((((((⟨#[111, 112]⟩ : ByteArray) ++ t179) ++ (⟨#[46]⟩ : ByteArray)) ++ t180) ++ (⟨#[32, 114]⟩ : ByteArray)) ++ t181) ++ (⟨#[32, 109]⟩ : ByteArray)) ++ t182) ++ (⟨#[58]⟩ : ByteArray)) ++ t183) ++ (⟨#[32, 120]⟩ : ByteArray)).size + t184.size) = False := eq_false (Nat.not_lt.2 c20)
                          have c20s : (9223372036854775807 < 2 + t179.size + 1 + t180.size + 2 + t181.size + 2 + t182.size + 1 + t183.size + 2 + t184.size) = False := eq_false (Nat.not_lt.2 (by have h_ := c20; simp only [ByteArray.size_append] at h_; exact h_))
                          by_cases c21 : ((((((((((((⟨#[111, 112]⟩ : ByteArray) ++ t179) ++ (⟨#[46]⟩ : ByteArray)) ++ t180) ++ (⟨#[32, 114]⟩ : ByteArray)) ++ t181) ++ (⟨#[32, 109]⟩ : ByteArray)) ++ t182) ++ (⟨#[58]⟩ : ByteArray)) ++ t183) ++ (⟨#[32, 120]⟩ : ByteArray)) ++ t184).size + 2 ≤ 9223372036854775807
                          · rw [if_pos c21] at H
                            have c21b0 := eq_true c21
                            have c21b1 : decide (((((((((((((⟨#[111, 112]⟩ : ByteArray) ++ t179) ++ (⟨#[46]⟩ : ByteArray)) ++ t180) ++ (⟨#[32, 114]⟩ : ByteArray)) ++ t181) ++ (⟨#[32, 109]⟩ : ByteArray)) ++ t182) ++ (⟨#[58]⟩ : ByteArray)) ++ t183) ++ (⟨#[32, 120]⟩ : ByteArray)) ++ t184).size + 2 ≤ 9223372036854775807) = true := decide_eq_true c21
                            try have c21b2 : (9223372036854775807 < ((((((((((((⟨#[111, 112]⟩ : ByteArray) ++ t179) ++ (⟨#[46]⟩ : ByteArray)) ++ t180) ++ (⟨#[32, 114]⟩ : ByteArray)) ++ t181) ++ (⟨#[32, 109]⟩ : ByteArray)) ++ t182) ++ (⟨#[58]⟩ : ByteArray)) ++ t183) ++ (⟨#[32, 120]⟩ : ByteArray)) ++ t184).size + 2) = False := eq_false (Nat.not_lt.2 c21)
                            have c21s : (9223372036854775807 < 2 + t179.size + 1 + t180.size + 2 + t181.size + 2 + t182.size + 1 + t183.size + 2 + t184.size + 2) = False := eq_false (Nat.not_lt.2 (by have h_ := c21; simp only [ByteArray.size_append] at h_; exact h_))
                            replace H := Option.bind_eq_some_iff.mp H
                            obtain ⟨t185, A220, H⟩ := H
                            replace H : (if (((((((((((((⟨#[111, 112]⟩ : ByteArray) ++ t179) ++ (⟨#[46]⟩ : ByteArray)) ++ t180) ++ (⟨#[32, 114]⟩ : ByteArray)) ++ t181) ++ (⟨#[32, 109]⟩ : ByteArray)) ++ t182) ++ (⟨#[58]⟩ : ByteArray)) ++ t183) ++ (⟨#[32, 120]⟩ : ByteArray)) ++ t184) ++ (⟨#[32, 115]⟩ : ByteArray)).size + t185.size ≤ 9223372036854775807 then (some ((((((((((((((⟨#[111, 112]⟩ : ByteArray) ++ t179) ++ (⟨#[46]⟩ : ByteArray)) ++ t180) ++ (⟨#[32, 114]⟩ : ByteArray)) ++ t181) ++ (⟨#[32, 109]⟩ : ByteArray)) ++ t182) ++ (⟨#[58]⟩ : ByteArray)) ++ t183) ++ (⟨#[32, 120]⟩ : ByteArray)) ++ t184) ++ (⟨#[32, 115]⟩ : ByteArray)) ++ t185, true)) else (none)) = some (r1, r2) := H
                            have A22 := Aside0.mk A220
                            clear A220
                            by_cases c23 : (((((((((((((⟨#[111, 112]⟩ : ByteArray) ++ t179) ++ (⟨#[46]⟩ : ByteArray)) ++ t180) ++ (⟨#[32, 114]⟩ : ByteArray)) ++ t181) ++ (⟨#[32, 109]⟩ : ByteArray)) ++ t182) ++ (⟨#[58]⟩ : ByteArray)) ++ t183) ++ (⟨#[32, 120]⟩ : ByteArray)) ++ t184) ++ (⟨#[32, 115]⟩ : ByteArray)).size + t185.size ≤ 9223372036854775807
                            · rw [if_pos c23] at H
                              have c23b0 := eq_true c23
                              have c23b1 : decide ((((((((((((((⟨#[111, 112]⟩ : ByteArray) ++ t179) ++ (⟨#[46]⟩ : ByteArray)) ++ t180) ++ (⟨#[32, 114]⟩ : ByteArray)) ++ t181) ++ (⟨#[32, 109]⟩ : ByteArray)) ++ t182) ++ (⟨#[58]⟩ : ByteArray)) ++ t183) ++ (⟨#[32, 120]⟩ : ByteArray)) ++ t184) ++ (⟨#[32, 115]⟩ : ByteArray)).size + t185.size ≤ 9223372036854775807) = true := decide_eq_true c23
                              try have c23b2 : (9223372036854775807 < (((((((((((((⟨#[111, 112]⟩ : ByteArray) ++ t179) ++ (⟨#[46]⟩ : ByteArray)) ++ t180) ++ (⟨#[32, 114]⟩ : ByteArray)) ++ t181) ++ (⟨#[32, 109]⟩ : ByteArray)) ++ t182) ++ (⟨#[58]⟩ : ByteArray)) ++ t183) ++ (⟨#[32, 120]⟩ : ByteArray)) ++ t184) ++ (⟨#[32, 115]⟩ : ByteArray)).size + t185.size) = False := eq_false (Nat.not_lt.2 c23)
                              have c23s : (9223372036854775807 < 2 + t179.size + 1 + t180.size + 2 + t181.size + 2 + t182.size + 1 + t183.size + 2 + t184.size + 2 + t185.size) = False := eq_false (Nat.not_lt.2 (by have h_ := c23; simp only [ByteArray.size_append] at h_; exact h_))
                              simp only [Option.some.injEq, Prod.mk.injEq] at H
                              obtain ⟨rfl, rfl⟩ := H
                              go_enter Tryd.func6, Tryd.ntmps6
                              try go_wp2_with (first | ((with_reducible refine gate_dst (N := 1) rfl ?_); refine box_event ?hg (N := 1) ?hd (cs := #[.int .i64 a0_0, .int .i64 a0_1, .int .i64 a0_2, .int .i64 a0_3, .int .i64 a0_4, .int .i64 a0_5, .int .i64 a0_6]) (t := 30) ?hr ?_; (case hd => rfl); (case hg => rfl); (case hr => first | (go_simp; done) | (go_simp; rfl)); intro gb177 hg w24 hbox hb; have n0_ := Aside0.mk (below_step (by repeat (first | (with_reducible first | exact HB.out | apply below_alloc | apply pw_below_drewN | apply below_drew1) | exact HB.out)) hb); have n1_ := Aside0.mk (hbox); have n2_ := Aside0.mk ((by rw [hg]; exact (below_size (by repeat (first | (with_reducible first | exact HB.out | apply below_alloc | apply pw_below_drewN | apply below_drew1) | exact HB.out))) : w.heap.size ≤ gb177)); have n3_ := Aside0.mk ((by rw [hg]; exact (below_size (by repeat (first | (with_reducible first | exact HB.out | apply below_alloc | apply pw_below_drewN | apply below_drew1) | exact HB.out))) : w.heap.size ≤ gb177)); clear HB; have HB := n0_; have BK177 := n1_; have GW177 := n2_; have GE177 := n3_; clear n0_ n1_ n2_ n3_; clear hb hbox hg; have hcz25_0 : w24.cell? ⟨gb177, 0, none⟩ = some (.int .i64 a0_0) := (blk_cell BK177.out 0).trans rfl; have hcz25_1 : w24.cell? ⟨gb177, 1, none⟩ = some (.int .i64 a0_1) := (blk_cell BK177.out 1).trans rfl; have hcz25_2 : w24.cell? ⟨gb177, 2, none⟩ = some (.int .i64 a0_2) := (blk_cell BK177.out 2).trans rfl; have hcz25_3 : w24.cell? ⟨gb177, 3, none⟩ = some (.int .i64 a0_3) := (blk_cell BK177.out 3).trans rfl; have hcz25_4 : w24.cell? ⟨gb177, 4, none⟩ = some (.int .i64 a0_4) := (blk_cell BK177.out 4).trans rfl; have hcz25_5 : w24.cell? ⟨gb177, 5, none⟩ = some (.int .i64 a0_5) := (blk_cell BK177.out 5).trans rfl; have hcz25_6 : w24.cell? ⟨gb177, 6, none⟩ = some (.int .i64 a0_6) := (blk_cell BK177.out 6).trans rfl; have hfz25_0 := blk_frozen BK177.out 0; have hfz25_1 := blk_frozen BK177.out 1; have hfz25_2 := blk_frozen BK177.out 2; have hfz25_3 := blk_frozen BK177.out 3; have hfz25_4 := blk_frozen BK177.out 4; have hfz25_5 := blk_frozen BK177.out 5; have hfz25_6 := blk_frozen BK177.out 6) | ((with_reducible refine gate_callee (f := 10) rfl ?_); refine goesL_ (some 6) rfl rfl Tryd.func10 (by kernel_rfl) rfl #[.agg #[.int .i64 a0_0, .int .i64 a0_1, .int .i64 a0_2, .int .i64 a0_3, .int .i64 a0_4, .int .i64 a0_5, .int .i64 a0_6]] rfl (by (try simp only [List.map_toArray, List.map_cons, List.map_nil]); first | done | rfl | (simp only [List.length_drop, List.length_take]; rfl)) ?_; (with_reducible refine (impl_GoodIns.calls k a0_0 a0_1 a0_2 a0_3 a0_4 a0_5 a0_6 true _ A2.out).mono ?_); rintro e w26 ⟨rfl, hb⟩; refine ⟨_, rfl, ?_⟩; have n0_ := Aside0.mk (blk_below (g := gb177) (o := .cells #[.int .i64 a0_0, .int .i64 a0_1, .int .i64 a0_2, .int .i64 a0_3, .int .i64 a0_4, .int .i64 a0_5, .int .i64 a0_6] 30 (0, 0)) (by (with_reducible repeat (first | refine blk_drewN ?_ _ | refine blk_drew ?_ | refine blk_alloc ?_ _)); exact BK177.out) hb); have n1_ := Aside0.mk (below_step (by repeat (first | (with_reducible first | exact HB.out | apply below_alloc | apply pw_below_drewN | apply below_drew1 | refine below_set ?_ GE177.out) | exact HB.out)) hb); clear BK177; clear HB; have BK177 := n0_; have HB := n1_; clear n0_ n1_; (try clear hb); (try clear hb2); (try clear hk); (try clear hi)))
                              have n0_ := Aside0.mk (blk_drew BK177.out)
                              have n1_ := Aside0.mk (below_drew1 HB.out)
                              clear BK177
                              clear HB
                              have BK177 := n0_
                              have HB := n1_
                              clear n0_ n1_
                              refine start_ (n := 46) (S := fun w' => w'.cell? ⟨gb177, 0, none⟩ = some (.int .i64 a0_0) ∧ w'.cell? ⟨gb177, 1, none⟩ = some (.int .i64 a0_1) ∧ w'.cell? ⟨gb177, 2, none⟩ = some (.int .i64 a0_2) ∧ w'.cell? ⟨gb177, 3, none⟩ = some (.int .i64 a0_3) ∧ w'.cell? ⟨gb177, 4, none⟩ = some (.int .i64 a0_4) ∧ w'.cell? ⟨gb177, 5, none⟩ = some (.int .i64 a0_5) ∧ w'.cell? ⟨gb177, 6, none⟩ = some (.int .i64 a0_6)) (ds := []) #[false, false, false, false, false, false, false, false, false, false, false, false, false, false, false, false, false, false, false, false, false, false, false, false, false, false, false, false, false, false, false, false, false, false, false, false, false, false, false, false, false, false, false, false, false, false] (by kernel_rfl) rfl rfl ⟨(blk_cell BK177.out 0).trans rfl, (blk_cell BK177.out 1).trans rfl, (blk_cell BK177.out 2).trans rfl, (blk_cell BK177.out 3).trans rfl, (blk_cell BK177.out 4).trans rfl, (blk_cell BK177.out 5).trans rfl, (blk_cell BK177.out 6).trans rfl⟩ (fun hHeld => ?_); refine with_tabW impl_TextOf.tab4 impl_TextOf.bits4 (fun HT_ HW_ => ?_)
                              generalize w26.drew = w27 at BK177 HB hHeld ⊢
                              refine pure_ (i := 0) (N := some 8) (v := ?_) (a' := ?_) #[true, false, false, false, false, false, false, false, false, false, false, false, false, false, false, false, false, false, false, false, false, false, false, false, false, false, false, false, false, false, false, false, false, false, false, false, false, false, false, false, false, false, false, false, false, false] rfl rfl (any_of HT_.out (by kernel_rfl)) (fun _ _ _ h => h) (Or.inl ⟨by rfl, ?_⟩) ?_ ?_
                              rotate_left
                              · intro w'
                                go_simp
                                with_reducible rfl
                              rotate_left
                              · simp only [Act.put, List.setIfInBounds_toArray, List.set_cons_zero, List.set_cons_succ, i64_w, i32_w]
                                rfl
                              refine pure_ (i := 1) (N := some 9) (v := ?_) (a' := ?_) #[true, true, false, false, false, false, false, false, false, false, false, false, false, false, false, false, false, false, false, false, false, false, false, false, false, false, false, false, false, false, false, false, false, false, false, false, false, false, false, false, false, false, false, false, false, false] rfl rfl (any_of HT_.out (by kernel_rfl)) (fun _ _ _ h => h) (Or.inl ⟨by rfl, ?_⟩) ?_ ?_
                              rotate_left
                              · intro w'
                                go_simp
                                with_reducible rfl
                              rotate_left
                              · simp only [Act.put, List.setIfInBounds_toArray, List.set_cons_zero, List.set_cons_succ, i64_w, i32_w]
                                rfl
                              refine pure_ (i := 6) (N := some 14) (v := ?_) (a' := ?_) #[true, true, false, false, false, false, true, false, false, false, false, false, false, false, false, false, false, false, false, false, false, false, false, false, false, false, false, false, false, false, false, false, false, false, false, false, false, false, false, false, false, false, false, false, false, false] rfl rfl (any_of HT_.out (by kernel_rfl)) (fun _ _ _ h => h) (Or.inl ⟨by rfl, ?_⟩) ?_ ?_
                              rotate_left
                              · intro w'
                                go_simp
                                with_reducible rfl
                              rotate_left
                              · simp only [Act.put, List.setIfInBounds_toArray, List.set_cons_zero, List.set_cons_succ, i64_w, i32_w]
                                rfl
                              refine pure_ (i := 7) (N := some 15) (v := ?_) (a' := ?_) #[true, true, false, false, false, false, true, true, false, false, false, false, false, false, false, false, false, false, false, false, false, false, false, false, false, false, false, false, false, false, false, false, false, false, false, false, false, false, false, false, false, false, false, false, false, false] rfl rfl (any_of HT_.out (by kernel_rfl)) (fun _ _ _ h => h) (Or.inl ⟨by rfl, ?_⟩) ?_ ?_
                              rotate_left
                              · intro w'
                                go_simp
                                with_reducible rfl
                              rotate_left
                              · simp only [Act.put, List.setIfInBounds_toArray, List.set_cons_zero, List.set_cons_succ, i64_w, i32_w]
                                rfl
                              refine pure_ (i := 12) (N := some 20) (v := ?_) (a' := ?_) #[true, true, false, false, false, false, true, true, false, false, false, false, true, false, false, false, false, false, false, false, false, false, false, false, false, false, false, false, false, false, false, false, false, false, false, false, false, false, false, false, false, false, false, false, false, false] rfl rfl (any_of HT_.out (by kernel_rfl)) (fun _ _ _ h => h) (Or.inl ⟨by rfl, ?_⟩) ?_ ?_
                              rotate_left
                              · intro w'
                                go_simp
                                with_reducible rfl
                              rotate_left
                              · simp only [Act.put, List.setIfInBounds_toArray, List.set_cons_zero, List.set_cons_succ, i64_w, i32_w]
                                rfl
                              refine pure_ (i := 13) (N := some 21) (v := ?_) (a' := ?_) #[true, true, false, false, false, false, true, true, false, false, false, false, true, true, false, false, false, false, false, false, false, false, false, false, false, false, false, false, false, false, false, false, false, false, false, false, false, false, false, false, false, false, false, false, false, false] rfl rfl (any_of HT_.out (by kernel_rfl)) (fun _ _ _ h => h) (Or.inl ⟨by rfl, ?_⟩) ?_ ?_
                              rotate_left
                              · intro w'
                                go_simp
                                with_reducible rfl
                              rotate_left
                              · simp only [Act.put, List.setIfInBounds_toArray, List.set_cons_zero, List.set_cons_succ, i64_w, i32_w]
                                rfl
                              refine pure_ (i := 18) (N := some 26) (v := ?_) (a' := ?_) #[true, true, false, false, false, false, true, true, false, false, false, false, true, true, false, false, false, false, true, false, false, false, false, false, false, false, false, false, false, false, false, false, false, false, false, false, false, false, false, false, false, false, false, false, false, false] rfl rfl (any_of HT_.out (by kernel_rfl)) (fun _ _ _ h => h) (Or.inl ⟨by rfl, ?_⟩) ?_ ?_
                              rotate_left
                              · intro w'
                                go_simp
                                with_reducible rfl
                              rotate_left
                              · simp only [Act.put, List.setIfInBounds_toArray, List.set_cons_zero, List.set_cons_succ, i64_w, i32_w]
                                rfl
                              refine pure_ (i := 19) (N := some 27) (v := ?_) (a' := ?_) #[true, true, false, false, false, false, true, true, false, false, false, false, true, true, false, false, false, false, true, true, false, false, false, false, false, false, false, false, false, false, false, false, false, false, false, false, false, false, false, false, false, false, false, false, false, false] rfl rfl (any_of HT_.out (by kernel_rfl)) (fun _ _ _ h => h) (Or.inl ⟨by rfl, ?_⟩) ?_ ?_
                              rotate_left
                              · intro w'
                                go_simp
                                with_reducible rfl
                              rotate_left
                              · simp only [Act.put, List.setIfInBounds_toArray, List.set_cons_zero, List.set_cons_succ, i64_w, i32_w]
                                rfl
                              refine pure_ (i := 20) (N := some 28) (v := ?_) (a' := ?_) #[true, true, false, false, false, false, true, true, false, false, false, false, true, true, false, false, false, false, true, true, true, false, false, false, false, false, false, false, false, false, false, false, false, false, false, false, false, false, false, false, false, false, false, false, false, false] rfl rfl (any_of HT_.out (by kernel_rfl)) (fun _ _ _ h => h) (Or.inl ⟨by rfl, ?_⟩) ?_ ?_
                              rotate_left
                              · intro w'
                                go_simp
                                with_reducible rfl
                              rotate_left
                              · simp only [Act.put, List.setIfInBounds_toArray, List.set_cons_zero, List.set_cons_succ, i64_w, i32_w]
                                rfl
                              refine pure_ (i := 25) (N := some 33) (v := ?_) (a' := ?_) #[true, true, false, false, false, false, true, true, false, false, false, false, true, true, false, false, false, false, true, true, true, false, false, false, false, true, false, false, false, false, false, false, false, false, false, false, false, false, false, false, false, false, false, false, false, false] rfl rfl (any_of HT_.out (by kernel_rfl)) (fun _ _ _ h => h) (Or.inl ⟨by rfl, ?_⟩) ?_ ?_
                              rotate_left
                              · intro w'
                                go_simp
                                with_reducible rfl
                              rotate_left
                              · simp only [Act.put, List.setIfInBounds_toArray, List.set_cons_zero, List.set_cons_succ, i64_w, i32_w]
                                rfl
                              refine pure_ (i := 26) (N := some 34) (v := ?_) (a' := ?_) #[true, true, false, false, false, false, true, true, false, false, false, false, true, true, false, false, false, false, true, true, true, false, false, false, false, true, true, false, false, false, false, false, false, false, false, false, false, false, false, false, false, false, false, false, false, false] rfl rfl (any_of HT_.out (by kernel_rfl)) (fun _ _ _ h => h) (Or.inl ⟨by rfl, ?_⟩) ?_ ?_
                              rotate_left
                              · intro w'
                                go_simp
                                with_reducible rfl
                              rotate_left
                              · simp only [Act.put, List.setIfInBounds_toArray, List.set_cons_zero, List.set_cons_succ, i64_w, i32_w]
                                rfl
                              refine pure_ (i := 27) (N := some 35) (v := ?_) (a' := ?_) #[true, true, false, false, false, false, true, true, false, false, false, false, true, true, false, false, false, false, true, true, true, false, false, false, false, true, true, true, false, false, false, false, false, false, false, false, false, false, false, false, false, false, false, false, false, false] rfl rfl (any_of HT_.out (by kernel_rfl)) (fun _ _ _ h => h) (Or.inl ⟨by rfl, ?_⟩) ?_ ?_
                              rotate_left
                              · intro w'
                                go_simp
                                with_reducible rfl
                              rotate_left
                              · simp only [Act.put, List.setIfInBounds_toArray, List.set_cons_zero, List.set_cons_succ, i64_w, i32_w]
                                rfl
                              refine pure_ (i := 32) (N := some 40) (v := ?_) (a' := ?_) #[true, true, false, false, false, false, true, true, false, false, false, false, true, true, false, false, false, false, true, true, true, false, false, false, false, true, true, true, false, false, false, false, true, false, false, false, false, false, false, false, false, false, false, false, false, false] rfl rfl (any_of HT_.out (by kernel_rfl)) (fun _ _ _ h => h) (Or.inl ⟨by rfl, ?_⟩) ?_ ?_
                              rotate_left
                              · intro w'
                                go_simp
                                with_reducible rfl
                              rotate_left
                              · simp only [Act.put, List.setIfInBounds_toArray, List.set_cons_zero, List.set_cons_succ, i64_w, i32_w]
                                rfl
                              refine pure_ (i := 33) (N := some 41) (v := ?_) (a' := ?_) #[true, true, false, false, false, false, true, true, false, false, false, false, true, true, false, false, false, false, true, true, true, false, false, false, false, true, true, true, false, false, false, false, true, true, false, false, false, false, false, false, false, false, false, false, false, false] rfl rfl (any_of HT_.out (by kernel_rfl)) (fun _ _ _ h => h) (Or.inl ⟨by rfl, ?_⟩) ?_ ?_
                              rotate_left
                              · intro w'
                                go_simp
                                with_reducible rfl
                              rotate_left
                              · simp only [Act.put, List.setIfInBounds_toArray, List.set_cons_zero, List.set_cons_succ, i64_w, i32_w]
                                rfl
                              refine pure_ (i := 34) (N := some 42) (v := ?_) (a' := ?_) #[true, true, false, false, false, false, true, true, false, false, false, false, true, true, false, false, false, false, true, true, true, false, false, false, false, true, true, true, false, false, false, false, true, true, true, false, false, false, false, false, false, false, false, false, false, false] rfl rfl (any_of HT_.out (by kernel_rfl)) (fun _ _ _ h => h) (Or.inl ⟨by rfl, ?_⟩) ?_ ?_
                              rotate_left
                              · intro w'
                                go_simp
                                with_reducible rfl
                              rotate_left
                              · simp only [Act.put, List.setIfInBounds_toArray, List.set_cons_zero, List.set_cons_succ, i64_w, i32_w]
                                rfl
                              refine pure_ (i := 39) (N := some 47) (v := ?_) (a' := ?_) #[true, true, false, false, false, false, true, true, false, false, false, false, true, true, false, false, false, false, true, true, true, false, false, false, false, true, true, true, false, false, false, false, true, true, true, false, false, false, false, true, false, false, false, false, false, false] rfl rfl (any_of HT_.out (by kernel_rfl)) (fun _ _ _ h => h) (Or.inl ⟨by rfl, ?_⟩) ?_ ?_
                              rotate_left
                              · intro w'
                                go_simp
                                with_reducible rfl
                              rotate_left
                              · simp only [Act.put, List.setIfInBounds_toArray, List.set_cons_zero, List.set_cons_succ, i64_w, i32_w]
                                rfl
                              refine pure_ (i := 40) (N := some 48) (v := ?_) (a' := ?_) #[true, true, false, false, false, false, true, true, false, false, false, false, true, true, false, false, false, false, true, true, true, false, false, false, false, true, true, true, false, false, false, false, true, true, true, false, false, false, false, true, true, false, false, false, false, false] rfl rfl (any_of HT_.out (by kernel_rfl)) (fun _ _ _ h => h) (Or.inl ⟨by rfl, ?_⟩) ?_ ?_
                              rotate_left
                              · intro w'
                                go_simp
                                with_reducible rfl
                              rotate_left
                              · simp only [Act.put, List.setIfInBounds_toArray, List.set_cons_zero, List.set_cons_succ, i64_w, i32_w]
                                rfl
                              refine take_ (i := 2) (N := some 10) (v := ?_) (a' := ?_) #[true, true, true, false, false, false, true, true, false, false, false, false, true, true, false, false, false, false, true, true, true, false, false, false, false, true, true, true, false, false, false, false, true, true, true, false, false, false, false, true, true, false, false, false, false, false] rfl rfl (take_ofW HT_.out HW_.out (by kernel_rfl)) (fun _ _ _ h => h) (Or.inl ⟨by rfl, ?_⟩) hHeld ?_ ?_
                              rotate_left
                              · rintro w' ⟨s0, s1, s2, s3, s4, s5, s6⟩
                                go_simp
                                with_reducible rfl
                              rotate_left
                              · simp only [Act.put, List.setIfInBounds_toArray, List.set_cons_zero, List.set_cons_succ, i64_w, i32_w]
                                rfl
                              refine take_ (i := 8) (N := some 16) (v := ?_) (a' := ?_) #[true, true, true, false, false, false, true, true, true, false, false, false, true, true, false, false, false, false, true, true, true, false, false, false, false, true, true, true, false, false, false, false, true, true, true, false, false, false, false, true, true, false, false, false, false, false] rfl rfl (take_ofW HT_.out HW_.out (by kernel_rfl)) (fun _ _ _ h => h) (Or.inl ⟨by rfl, ?_⟩) hHeld ?_ ?_
                              rotate_left
                              · rintro w' ⟨s0, s1, s2, s3, s4, s5, s6⟩
                                go_simp
                                with_reducible rfl
                              rotate_left
                              · simp only [Act.put, List.setIfInBounds_toArray, List.set_cons_zero, List.set_cons_succ, i64_w, i32_w]
                                rfl
                              refine take_ (i := 14) (N := some 22) (v := ?_) (a' := ?_) #[true, true, true, false, false, false, true, true, true, false, false, false, true, true, true, false, false, false, true, true, true, false, false, false, false, true, true, true, false, false, false, false, true, true, true, false, false, false, false, true, true, false, false, false, false, false] rfl rfl (take_ofW HT_.out HW_.out (by kernel_rfl)) (fun _ _ _ h => h) (Or.inl ⟨by rfl, ?_⟩) hHeld ?_ ?_
                              rotate_left
                              · rintro w' ⟨s0, s1, s2, s3, s4, s5, s6⟩
                                go_simp
                                with_reducible rfl
                              rotate_left
                              · simp only [Act.put, List.setIfInBounds_toArray, List.set_cons_zero, List.set_cons_succ, i64_w, i32_w]
                                rfl
                              refine take_ (i := 21) (N := some 29) (v := ?_) (a' := ?_) #[true, true, true, false, false, false, true, true, true, false, false, false, true, true, true, false, false, false, true, true, true, true, false, false, false, true, true, true, false, false, false, false, true, true, true, false, false, false, false, true, true, false, false, false, false, false] rfl rfl (take_ofW HT_.out HW_.out (by kernel_rfl)) (fun _ _ _ h => h) (Or.inl ⟨by rfl, ?_⟩) hHeld ?_ ?_
                              rotate_left
                              · rintro w' ⟨s0, s1, s2, s3, s4, s5, s6⟩
                                go_simp
                                with_reducible rfl
                              rotate_left
                              · simp only [Act.put, List.setIfInBounds_toArray, List.set_cons_zero, List.set_cons_succ, i64_w, i32_w]
                                rfl
                              refine take_ (i := 28) (N := some 36) (v := ?_) (a' := ?_) #[true, true, true, false, false, false, true, true, true, false, false, false, true, true, true, false, false, false, true, true, true, true, false, false, false, true, true, true, true, false, false, false, true, true, true, false, false, false, false, true, true, false, false, false, false, false] rfl rfl (take_ofW HT_.out HW_.out (by kernel_rfl)) (fun _ _ _ h => h) (Or.inl ⟨by rfl, ?_⟩) hHeld ?_ ?_
                              rotate_left
                              · rintro w' ⟨s0, s1, s2, s3, s4, s5, s6⟩
                                go_simp
                                with_reducible rfl
                              rotate_left
                              · simp only [Act.put, List.setIfInBounds_toArray, List.set_cons_zero, List.set_cons_succ, i64_w, i32_w]
                                rfl
                              refine take_ (i := 35) (N := some 43) (v := ?_) (a' := ?_) #[true, true, true, false, false, false, true, true, true, false, false, false, true, true, true, false, false, false, true, true, true, true, false, false, false, true, true, true, true, false, false, false, true, true, true, true, false, false, false, true, true, false, false, false, false, false] rfl rfl (take_ofW HT_.out HW_.out (by kernel_rfl)) (fun _ _ _ h => h) (Or.inl ⟨by rfl, ?_⟩) hHeld ?_ ?_
                              rotate_left
                              · rintro w' ⟨s0, s1, s2, s3, s4, s5, s6⟩
                                go_simp
                                with_reducible rfl
                              rotate_left
                              · simp only [Act.put, List.setIfInBounds_toArray, List.set_cons_zero, List.set_cons_succ, i64_w, i32_w]
                                rfl
                              refine take_ (i := 41) (N := some 49) (v := ?_) (a' := ?_) #[true, true, true, false, false, false, true, true, true, false, false, false, true, true, true, false, false, false, true, true, true, true, false, false, false, true, true, true, true, false, false, false, true, true, true, true, false, false, false, true, true, true, false, false, false, false] rfl rfl (take_ofW HT_.out HW_.out (by kernel_rfl)) (fun _ _ _ h => h) (Or.inl ⟨by rfl, ?_⟩) hHeld ?_ ?_
                              rotate_left
                              · rintro w' ⟨s0, s1, s2, s3, s4, s5, s6⟩
                                go_simp
                                with_reducible rfl
                              rotate_left
                              · simp only [Act.put, List.setIfInBounds_toArray, List.set_cons_zero, List.set_cons_succ, i64_w, i32_w]
                                rfl
                              refine one_ (i := 3) (N := some 11) #[true, true, true, true, false, false, true, true, true, false, false, false, true, true, true, false, false, false, true, true, true, true, false, false, false, true, true, true, true, false, false, false, true, true, true, true, false, false, false, true, true, true, false, false, false, false] rfl rfl (one_of HT_.out (by kernel_rfl)) (by decide) (fun K hK => ?_)
                              refine goesV_ Tryd.func11 (by kernel_rfl) rfl #[.int .i64 a0_0] (by rfl) rfl rfl rfl (by (try simp only [List.map_toArray, List.map_cons, List.map_nil]); first | done | rfl | (simp only [List.length_drop, List.length_take]; rfl)) ?_
                              with_reducible refine (strconv_Itoa_11.calls a0_0 t179 _ A4.out).mono ?_
                              rintro e w28 ⟨rfl, hb⟩
                              refine ⟨_, rfl, ?_⟩
                              have n0_ := Aside0.mk (blk_below (g := gb177) (o := .cells #[.int .i64 a0_0, .int .i64 a0_1, .int .i64 a0_2, .int .i64 a0_3, .int .i64 a0_4, .int .i64 a0_5, .int .i64 a0_6] 30 (0, 0)) (by (with_reducible repeat (first | refine blk_drewN ?_ _ | refine blk_drew ?_ | refine blk_alloc ?_ _)); exact BK177.out) hb)
                              have n1_ := Aside0.mk (below_step (by repeat (first | (with_reducible first | exact HB.out | apply below_alloc | apply pw_below_drewN | apply below_drew1 | refine below_set ?_ GE177.out) | exact HB.out)) hb)
                              clear BK177
                              clear HB
                              have BK177 := n0_
                              have HB := n1_
                              clear n0_ n1_
                              (try clear hb)
                              (try clear hb2)
                              (try clear hk)
                              (try clear hi)
                              refine hK.out _ _ ⟨(blk_cell BK177.out 0).trans rfl, (blk_cell BK177.out 1).trans rfl, (blk_cell BK177.out 2).trans rfl, (blk_cell BK177.out 3).trans rfl, (blk_cell BK177.out 4).trans rfl, (blk_cell BK177.out 5).trans rfl, (blk_cell BK177.out 6).trans rfl⟩ (fun hHeld => ?_)
                              clear hK K
                              refine norm_ (a' := ?_) ?_ ?_
                              rotate_left
                              · show Act.put _ (some 11) _ = _
                                simp only [Act.put, List.setIfInBounds_toArray, List.set_cons_zero, List.set_cons_succ, i64_w, i32_w]
                                rfl
                              refine pure_ (i := 4) (N := some 12) (v := ?_) (a' := ?_) #[true, true, true, true, true, false, true, true, true, false, false, false, true, true, true, false, false, false, true, true, true, true, false, false, false, true, true, true, true, false, false, false, true, true, true, true, false, false, false, true, true, true, false, false, false, false] rfl rfl (any_of HT_.out (by kernel_rfl)) (fun _ _ _ h => h) (Or.inl ⟨by rfl, ?_⟩) ?_ ?_
                              rotate_left
                              · intro w'
                                go_simp
                                with_reducible rfl
                              rotate_left
                              · simp only [Act.put, List.setIfInBounds_toArray, List.set_cons_zero, List.set_cons_succ, i64_w, i32_w]
                                rfl
                              refine pure_ (i := 5) (N := some 13) (v := ?_) (a' := ?_) #[true, true, true, true, true, true, true, true, true, false, false, false, true, true, true, false, false, false, true, true, true, true, false, false, false, true, true, true, true, false, false, false, true, true, true, true, false, false, false, true, true, true, false, false, false, false] rfl rfl (any_of HT_.out (by kernel_rfl)) (fun _ _ _ h => h) (Or.inl ⟨by rfl, ?_⟩) ?_ ?_
                              rotate_left
                              · intro w'
                                go_simp
                                with_reducible rfl
                              rotate_left
                              · simp only [Act.put, List.setIfInBounds_toArray, List.set_cons_zero, List.set_cons_succ, i64_w, i32_w]
                                rfl
                              refine one_ (i := 9) (N := some 17) #[true, true, true, true, true, true, true, true, true, true, false, false, true, true, true, false, false, false, true, true, true, true, false, false, false, true, true, true, true, false, false, false, true, true, true, true, false, false, false, true, true, true, false, false, false, false] rfl rfl (one_of HT_.out (by kernel_rfl)) (by decide) (fun K hK => ?_)
                              refine goesV_ Tryd.func11 (by kernel_rfl) rfl #[.int .i64 a0_1] (by rfl) rfl rfl rfl (by (try simp only [List.map_toArray, List.map_cons, List.map_nil]); first | done | rfl | (simp only [List.length_drop, List.length_take]; rfl)) ?_
                              with_reducible refine (strconv_Itoa_11.calls a0_1 t180 _ A7.out).mono ?_
                              rintro e w29 ⟨rfl, hb⟩
                              refine ⟨_, rfl, ?_⟩
                              have n0_ := Aside0.mk (blk_below (g := gb177) (o := .cells #[.int .i64 a0_0, .int .i64 a0_1, .int .i64 a0_2, .int .i64 a0_3, .int .i64 a0_4, .int .i64 a0_5, .int .i64 a0_6] 30 (0, 0)) (by (with_reducible repeat (first | refine blk_drewN ?_ _ | refine blk_drew ?_ | refine blk_alloc ?_ _)); exact BK177.out) hb)
                              have n1_ := Aside0.mk (below_step (by repeat (first | (with_reducible first | exact HB.out | apply below_alloc | apply pw_below_drewN | apply below_drew1 | refine below_set ?_ GE177.out) | exact HB.out)) hb)
                              clear BK177
                              clear HB
                              have BK177 := n0_
                              have HB := n1_
                              clear n0_ n1_
                              (try clear hb)
                              (try clear hb2)
                              (try clear hk)
                              (try clear hi)
                              refine hK.out _ _ ⟨(blk_cell BK177.out 0).trans rfl, (blk_cell BK177.out 1).trans rfl, (blk_cell BK177.out 2).trans rfl, (blk_cell BK177.out 3).trans rfl, (blk_cell BK177.out 4).trans rfl, (blk_cell BK177.out 5).trans rfl, (blk_cell BK177.out 6).trans rfl⟩ (fun hHeld => ?_)
                              clear hK K
                              refine norm_ (a' := ?_) ?_ ?_
                              rotate_left
                              · show Act.put _ (some 17) _ = _
                                simp only [Act.put, List.setIfInBounds_toArray, List.set_cons_zero, List.set_cons_succ, i64_w, i32_w]
                                rfl
                              refine pure_ (i := 10) (N := some 18) (v := ?_) (a' := ?_) #[true, true, true, true, true, true, true, true, true, true, true, false, true, true, true, false, false, false, true, true, true, true, false, false, false, true, true, true, true, false, false, false, true, true, true, true, false, false, false, true, true, true, false, false, false, false] rfl rfl (any_of HT_.out (by kernel_rfl)) (fun _ _ _ h => h) (Or.inl ⟨by rfl, ?_⟩) ?_ ?_
                              rotate_left
                              · intro w'
                                go_simp
                                with_reducible rfl
                              rotate_left
                              · simp only [Act.put, List.setIfInBounds_toArray, List.set_cons_zero, List.set_cons_succ, i64_w, i32_w]
                                rfl
                              refine pure_ (i := 11) (N := some 19) (v := ?_) (a' := ?_) #[true, true, true, true, true, true, true, true, true, true, true, true, true, true, true, false, false, false, true, true, true, true, false, false, false, true, true, true, true, false, false, false, true, true, true, true, false, false, false, true, true, true, false, false, false, false] rfl rfl (any_of HT_.out (by kernel_rfl)) (fun _ _ _ h => h) (Or.inl ⟨by rfl, ?_⟩) ?_ ?_
                              rotate_left
                              · intro w'
                                go_simp
                                with_reducible rfl
                              rotate_left
                              · simp only [Act.put, List.setIfInBounds_toArray, List.set_cons_zero, List.set_cons_succ, i64_w, i32_w]
                                rfl
                              refine one_ (i := 15) (N := some 23) #[true, true, true, true, true, true, true, true, true, true, true, true, true, true, true, true, false, false, true, true, true, true, false, false, false, true, true, true, true, false, false, false, true, true, true, true, false, false, false, true, true, true, false, false, false, false] rfl rfl (one_of HT_.out (by kernel_rfl)) (by decide) (fun K hK => ?_)
                              refine goesV_ Tryd.func11 (by kernel_rfl) rfl #[.int .i64 a0_2] (by rfl) rfl rfl rfl (by (try simp only [List.map_toArray, List.map_cons, List.map_nil]); first | done | rfl | (simp only [List.length_drop, List.length_take]; rfl)) ?_
                              with_reducible refine (strconv_Itoa_11.calls a0_2 t181 _ A10.out).mono ?_
                              rintro e w30 ⟨rfl, hb⟩
                              refine ⟨_, rfl, ?_⟩
                              have n0_ := Aside0.mk (blk_below (g := gb177) (o := .cells #[.int .i64 a0_0, .int .i64 a0_1, .int .i64 a0_2, .int .i64 a0_3, .int .i64 a0_4, .int .i64 a0_5, .int .i64 a0_6] 30 (0, 0)) (by (with_reducible repeat (first | refine blk_drewN ?_ _ | refine blk_drew ?_ | refine blk_alloc ?_ _)); exact BK177.out) hb)
                              have n1_ := Aside0.mk (below_step (by repeat (first | (with_reducible first | exact HB.out | apply below_alloc | apply pw_below_drewN | apply below_drew1 | refine below_set ?_ GE177.out) | exact HB.out)) hb)
                              clear BK177
                              clear HB
                              have BK177 := n0_
                              have HB := n1_
                              clear n0_ n1_
                              (try clear hb)
                              (try clear hb2)
                              (try clear hk)
                              (try clear hi)
                              refine hK.out _ _ ⟨(blk_cell BK177.out 0).trans rfl, (blk_cell BK177.out 1).trans rfl, (blk_cell BK177.out 2).trans rfl, (blk_cell BK177.out 3).trans rfl, (blk_cell BK177.out 4).trans rfl, (blk_cell BK177.out 5).trans rfl, (blk_cell BK177.out 6).trans rfl⟩ (fun hHeld => ?_)
                              clear hK K
                              refine norm_ (a' := ?_) ?_ ?_
                              rotate_left
                              · show Act.put _ (some 23) _ = _
                                simp only [Act.put, List.setIfInBounds_toArray, List.set_cons_zero, List.set_cons_succ, i64_w, i32_w]
                                rfl
                              refine pure_ (i := 16) (N := some 24) (v := ?_) (a' := ?_) #[true, true, true, true, true, true, true, true, true, true, true, true, true, true, true, true, true, false, true, true, true, true, false, false, false, true, true, true, true, false, false, false, true, true, true, true, false, false, false, true, true, true, false, false, false, false] rfl rfl (any_of HT_.out (by kernel_rfl)) (fun _ _ _ h => h) (Or.inl ⟨by rfl, ?_⟩) ?_ ?_
                              rotate_left
                              · intro w'
                                go_simp
                                with_reducible rfl
                              rotate_left
                              · simp only [Act.put, List.setIfInBounds_toArray, List.set_cons_zero, List.set_cons_succ, i64_w, i32_w]
                                rfl
                              refine pure_ (i := 17) (N := some 25) (v := ?_) (a' := ?_) #[true, true, true, true, true, true, true, true, true, true, true, true, true, true, true, true, true, true, true, true, true, true, false, false, false, true, true, true, true, false, false, false, true, true, true, true, false, false, false, true, true, true, false, false, false, false] rfl rfl (any_of HT_.out (by kernel_rfl)) (fun _ _ _ h => h) (Or.inl ⟨by rfl, ?_⟩) ?_ ?_
                              rotate_left
                              · intro w'
                                go_simp
                                with_reducible rfl
                              rotate_left
                              · simp only [Act.put, List.setIfInBounds_toArray, List.set_cons_zero, List.set_cons_succ, i64_w, i32_w]
                                rfl
                              refine one_ (i := 22) (N := some 30) #[true, true, true, true, true, true, true, true, true, true, true, true, true, true, true, true, true, true, true, true, true, true, true, false, false, true, true, true, true, false, false, false, true, true, true, true, false, false, false, true, true, true, false, false, false, false] rfl rfl (one_of HT_.out (by kernel_rfl)) (by decide) (fun K hK => ?_)
                              refine goesV_ Tryd.func11 (by kernel_rfl) rfl #[.int .i64 a0_3] (by rfl) rfl rfl rfl (by (try simp only [List.map_toArray, List.map_cons, List.map_nil]); first | done | rfl | (simp only [List.length_drop, List.length_take]; rfl)) ?_
                              with_reducible refine (strconv_Itoa_11.calls a0_3 t182 _ A13.out).mono ?_
                              rintro e w31 ⟨rfl, hb⟩
                              refine ⟨_, rfl, ?_⟩
                              have n0_ := Aside0.mk (blk_below (g := gb177) (o := .cells #[.int .i64 a0_0, .int .i64 a0_1, .int .i64 a0_2, .int .i64 a0_3, .int .i64 a0_4, .int .i64 a0_5, .int .i64 a0_6] 30 (0, 0)) (by (with_reducible repeat (first | refine blk_drewN ?_ _ | refine blk_drew ?_ | refine blk_alloc ?_ _)); exact BK177.out) hb)
                              have n1_ := Aside0.mk (below_step (by repeat (first | (with_reducible first | exact HB.out | apply below_alloc | apply pw_below_drewN | apply below_drew1 | refine below_set ?_ GE177.out) | exact HB.out)) hb)
                              clear BK177
                              clear HB
                              have BK177 := n0_
                              have HB := n1_
                              clear n0_ n1_
                              (try clear hb)
                              (try clear hb2)
                              (try clear hk)
                              (try clear hi)
                              refine hK.out _ _ ⟨(blk_cell BK177.out 0).trans rfl, (blk_cell BK177.out 1).trans rfl, (blk_cell BK177.out 2).trans rfl, (blk_cell BK177.out 3).trans rfl, (blk_cell BK177.out 4).trans rfl, (blk_cell BK177.out 5).trans rfl, (blk_cell BK177.out 6).trans rfl⟩ (fun hHeld => ?_)
                              clear hK K
                              refine norm_ (a' := ?_) ?_ ?_
                              rotate_left
                              · show Act.put _ (some 30) _ = _
                                simp only [Act.put, List.setIfInBounds_toArray, List.set_cons_zero, List.set_cons_succ, i64_w, i32_w]
                                rfl
                              refine pure_ (i := 23) (N := some 31) (v := ?_) (a' := ?_) #[true, true, true, true, true, true, true, true, true, true, true, true, true, true, true, true, true, true, true, true, true, true, true, true, false, true, true, true, true, false, false, false, true, true, true, true, false, false, false, true, true, true, false, false, false, false] rfl rfl (any_of HT_.out (by kernel_rfl)) (fun _ _ _ h => h) (Or.inl ⟨by rfl, ?_⟩) ?_ ?_
                              rotate_left
                              · intro w'
                                go_simp
                                with_reducible rfl
                              rotate_left
                              · simp only [Act.put, List.setIfInBounds_toArray, List.set_cons_zero, List.set_cons_succ, i64_w, i32_w]
                                rfl
                              refine pure_ (i := 24) (N := some 32) (v := ?_) (a' := ?_) #[true, true, true, true, true, true, true, true, true, true, true, true, true, true, true, true, true, true, true, true, true, true, true, true, true, true, true, true, true, false, false, false, true, true, true, true, false, false, false, true, true, true, false, false, false, false] rfl rfl (any_of HT_.out (by kernel_rfl)) (fun _ _ _ h => h) (Or.inl ⟨by rfl, ?_⟩) ?_ ?_
                              rotate_left
                              · intro w'
                                go_simp
                                with_reducible rfl
                              rotate_left
                              · simp only [Act.put, List.setIfInBounds_toArray, List.set_cons_zero, List.set_cons_succ, i64_w, i32_w]
                                rfl
                              refine one_ (i := 29) (N := some 37) #[true, true, true, true, true, true, true, true, true, true, true, true, true, true, true, true, true, true, true, true, true, true, true, true, true, true, true, true, true, true, false, false, true, true, true, true, false, false, false, true, true, true, false, false, false, false] rfl rfl (one_of HT_.out (by kernel_rfl)) (by decide) (fun K hK => ?_)
                              refine goesV_ Tryd.func11 (by kernel_rfl) rfl #[.int .i64 a0_4] (by rfl) rfl rfl rfl (by (try simp only [List.map_toArray, List.map_cons, List.map_nil]); first | done | rfl | (simp only [List.length_drop, List.length_take]; rfl)) ?_
                              with_reducible refine (strconv_Itoa_11.calls a0_4 t183 _ A16.out).mono ?_
                              rintro e w32 ⟨rfl, hb⟩
                              refine ⟨_, rfl, ?_⟩
                              have n0_ := Aside0.mk (blk_below (g := gb177) (o := .cells #[.int .i64 a0_0, .int .i64 a0_1, .int .i64 a0_2, .int .i64 a0_3, .int .i64 a0_4, .int .i64 a0_5, .int .i64 a0_6] 30 (0, 0)) (by (with_reducible repeat (first | refine blk_drewN ?_ _ | refine blk_drew ?_ | refine blk_alloc ?_ _)); exact BK177.out) hb)
                              have n1_ := Aside0.mk (below_step (by repeat (first | (with_reducible first | exact HB.out | apply below_alloc | apply pw_below_drewN | apply below_drew1 | refine below_set ?_ GE177.out) | exact HB.out)) hb)
                              clear BK177
                              clear HB
                              have BK177 := n0_
                              have HB := n1_
                              clear n0_ n1_
                              (try clear hb)
                              (try clear hb2)
                              (try clear hk)
                              (try clear hi)
                              refine hK.out _ _ ⟨(blk_cell BK177.out 0).trans rfl, (blk_cell BK177.out 1).trans rfl, (blk_cell BK177.out 2).trans rfl, (blk_cell BK177.out 3).trans rfl, (blk_cell BK177.out 4).trans rfl, (blk_cell BK177.out 5).trans rfl, (blk_cell BK177.out 6).trans rfl⟩ (fun hHeld => ?_)
                              clear hK K
                              refine norm_ (a' := ?_) ?_ ?_
                              rotate_left
                              · show Act.put _ (some 37) _ = _
                                simp only [Act.put, List.setIfInBounds_toArray, List.set_cons_zero, List.set_cons_succ, i64_w, i32_w]
                                rfl
                              refine pure_ (i := 30) (N := some 38) (v := ?_) (a' := ?_) #[true, true, true, true, true, true, true, true, true, true, true, true, true, true, true, true, true, true, true, true, true, true, true, true, true, true, true, true, true, true, true, false, true, true, true, true, false, false, false, true, true, true, false, false, false, false] rfl rfl (any_of HT_.out (by kernel_rfl)) (fun _ _ _ h => h) (Or.inl ⟨by rfl, ?_⟩) ?_ ?_
                              rotate_left
                              · intro w'
                                go_simp
                                with_reducible rfl
                              rotate_left
                              · simp only [Act.put, List.setIfInBounds_toArray, List.set_cons_zero, List.set_cons_succ, i64_w, i32_w]
                                rfl
                              refine pure_ (i := 31) (N := some 39) (v := ?_) (a' := ?_) #[true, true, true, true, true, true, true, true, true, true, true, true, true, true, true, true, true, true, true, true, true, true, true, true, true, true, true, true, true, true, true, true, true, true, true, true, false, false, false, true, true, true, false, false, false, false] rfl rfl (any_of HT_.out (by kernel_rfl)) (fun _ _ _ h => h) (Or.inl ⟨by rfl, ?_⟩) ?_ ?_
                              rotate_left
                              · intro w'
                                go_simp
                                with_reducible rfl
                              rotate_left
                              · simp only [Act.put, List.setIfInBounds_toArray, List.set_cons_zero, List.set_cons_succ, i64_w, i32_w]
                                rfl
                              refine one_ (i := 36) (N := some 44) #[true, true, true, true, true, true, true, true, true, true, true, true, true, true, true, true, true, true, true, true, true, true, true, true, true, true, true, true, true, true, true, true, true, true, true, true, true, false, false, true, true, true, false, false, false, false] rfl rfl (one_of HT_.out (by kernel_rfl)) (by decide) (fun K hK => ?_)
                              refine goesV_ Tryd.func11 (by kernel_rfl) rfl #[.int .i64 a0_5] (by rfl) rfl rfl rfl (by (try simp only [List.map_toArray, List.map_cons, List.map_nil]); first | done | rfl | (simp only [List.length_drop, List.length_take]; rfl)) ?_
                              with_reducible refine (strconv_Itoa_11.calls a0_5 t184 _ A19.out).mono ?_
                              rintro e w33 ⟨rfl, hb⟩
                              refine ⟨_, rfl, ?_⟩
                              have n0_ := Aside0.mk (blk_below (g := gb177) (o := .cells #[.int .i64 a0_0, .int .i64 a0_1, .int .i64 a0_2, .int .i64 a0_3, .int .i64 a0_4, .int .i64 a0_5, .int .i64 a0_6] 30 (0, 0)) (by (with_reducible repeat (first | refine blk_drewN ?_ _ | refine blk_drew ?_ | refine blk_alloc ?_ _)); exact BK177.out) hb)
                              have n1_ := Aside0.mk (below_step (by repeat (first | (with_reducible first | exact HB.out | apply below_alloc | apply pw_below_drewN | apply below_drew1 | refine below_set ?_ GE177.out) | exact HB.out)) hb)
                              clear BK177
                              clear HB
                              have BK177 := n0_
                              have HB := n1_
                              clear n0_ n1_
                              (try clear hb)
                              (try clear hb2)
                              (try clear hk)
                              (try clear hi)
                              refine hK.out _ _ ⟨(blk_cell BK177.out 0).trans rfl, (blk_cell BK177.out 1).trans rfl, (blk_cell BK177.out 2).trans rfl, (blk_cell BK177.out 3).trans rfl, (blk_cell BK177.out 4).trans rfl, (blk_cell BK177.out 5).trans rfl, (blk_cell BK177.out 6).trans rfl⟩ (fun hHeld => ?_)
                              clear hK K
                              refine norm_ (a' := ?_) ?_ ?_
                              rotate_left
                              · show Act.put _ (some 44) _ = _
                                simp only [Act.put, List.setIfInBounds_toArray, List.set_cons_zero, List.set_cons_succ, i64_w, i32_w]
                                rfl
                              refine pure_ (i := 37) (N := some 45) (v := ?_) (a' := ?_) #[true, true, true, true, true, true, true, true, true, true, true, true, true, true, true, true, true, true, true, true, true, true, true, true, true, true, true, true, true, true, true, true, true, true, true, true, true, true, false, true, true, true, false, false, false, false] rfl rfl (any_of HT_.out (by kernel_rfl)) (fun _ _ _ h => h) (Or.inl ⟨by rfl, ?_⟩) ?_ ?_
                              rotate_left
                              · intro w'
                                go_simp
                                with_reducible rfl
                              rotate_left
                              · simp only [Act.put, List.setIfInBounds_toArray, List.set_cons_zero, List.set_cons_succ, i64_w, i32_w]
                                rfl
                              refine pure_ (i := 38) (N := some 46) (v := ?_) (a' := ?_) #[true, true, true, true, true, true, true, true, true, true, true, true, true, true, true, true, true, true, true, true, true, true, true, true, true, true, true, true, true, true, true, true, true, true, true, true, true, true, true, true, true, true, false, false, false, false] rfl rfl (any_of HT_.out (by kernel_rfl)) (fun _ _ _ h => h) (Or.inl ⟨by rfl, ?_⟩) ?_ ?_
                              rotate_left
                              · intro w'
                                go_simp
                                with_reducible rfl
                              rotate_left
                              · simp only [Act.put, List.setIfInBounds_toArray, List.set_cons_zero, List.set_cons_succ, i64_w, i32_w]
                                rfl
                              refine one_ (i := 42) (N := some 50) #[true, true, true, true, true, true, true, true, true, true, true, true, true, true, true, true, true, true, true, true, true, true, true, true, true, true, true, true, true, true, true, true, true, true, true, true, true, true, true, true, true, true, true, false, false, false] rfl rfl (one_of HT_.out (by kernel_rfl)) (by decide) (fun K hK => ?_)
                              refine goesV_ Tryd.func11 (by kernel_rfl) rfl #[.int .i64 a0_6] (by rfl) rfl rfl rfl (by (try simp only [List.map_toArray, List.map_cons, List.map_nil]); first | done | rfl | (simp only [List.length_drop, List.length_take]; rfl)) ?_
                              with_reducible refine (strconv_Itoa_11.calls a0_6 t185 _ A22.out).mono ?_
                              rintro e w34 ⟨rfl, hb⟩
                              refine ⟨_, rfl, ?_⟩
                              have n0_ := Aside0.mk (blk_below (g := gb177) (o := .cells #[.int .i64 a0_0, .int .i64 a0_1, .int .i64 a0_2, .int .i64 a0_3, .int .i64 a0_4, .int .i64 a0_5, .int .i64 a0_6] 30 (0, 0)) (by (with_reducible repeat (first | refine blk_drewN ?_ _ | refine blk_drew ?_ | refine blk_alloc ?_ _)); exact BK177.out) hb)
                              have n1_ := Aside0.mk (below_step (by repeat (first | (with_reducible first | exact HB.out | apply below_alloc | apply pw_below_drewN | apply below_drew1 | refine below_set ?_ GE177.out) | exact HB.out)) hb)
                              clear BK177
                              clear HB
                              have BK177 := n0_
                              have HB := n1_
                              clear n0_ n1_
                              (try clear hb)
                              (try clear hb2)
                              (try clear hk)
                              (try clear hi)
                              refine hK.out _ _ ⟨(blk_cell BK177.out 0).trans rfl, (blk_cell BK177.out 1).trans rfl, (blk_cell BK177.out 2).trans rfl, (blk_cell BK177.out 3).trans rfl, (blk_cell BK177.out 4).trans rfl, (blk_cell BK177.out 5).trans rfl, (blk_cell BK177.out 6).trans rfl⟩ (fun hHeld => ?_)
                              clear hK K
                              refine norm_ (a' := ?_) ?_ ?_
                              rotate_left
                              · show Act.put _ (some 50) _ = _
                                simp only [Act.put, List.setIfInBounds_toArray, List.set_cons_zero, List.set_cons_succ, i64_w, i32_w]
                                rfl
                              refine pure_ (i := 43) (N := some 51) (v := ?_) (a' := ?_) #[true, true, true, true, true, true, true, true, true, true, true, true, true, true, true, true, true, true, true, true, true, true, true, true, true, true, true, true, true, true, true, true, true, true, true, true, true, true, true, true, true, true, true, true, false, false] rfl rfl (any_of HT_.out (by kernel_rfl)) (fun _ _ _ h => h) (Or.inl ⟨by rfl, ?_⟩) ?_ ?_
                              rotate_left
                              · intro w'
                                go_simp
                                with_reducible rfl
                              rotate_left
                              · simp only [Act.put, List.setIfInBounds_toArray, List.set_cons_zero, List.set_cons_succ, i64_w, i32_w]
                                rfl
                              refine pure_ (i := 44) (N := some 2) (v := ?_) (a' := ?_) #[true, true, true, true, true, true, true, true, true, true, true, true, true, true, true, true, true, true, true, true, true, true, true, true, true, true, true, true, true, true, true, true, true, true, true, true, true, true, true, true, true, true, true, true, true, false] rfl rfl (any_of HT_.out (by kernel_rfl)) (fun _ _ _ h => h) (Or.inl ⟨by rfl, ?_⟩) ?_ ?_
                              rotate_left
                              · intro w'
                                go_simp
                                with_reducible rfl
                              rotate_left
                              · simp only [Act.put, List.setIfInBounds_toArray, List.set_cons_zero, List.set_cons_succ, i64_w, i32_w]
                                rfl
                              refine pure_ (i := 45) (N := some 3) (v := ?_) (a' := ?_) #[true, true, true, true, true, true, true, true, true, true, true, true, true, true, true, true, true, true, true, true, true, true, true, true, true, true, true, true, true, true, true, true, true, true, true, true, true, true, true, true, true, true, true, true, true, true] rfl rfl (any_of HT_.out (by kernel_rfl)) (fun _ _ _ h => h) (Or.inl ⟨by rfl, ?_⟩) ?_ ?_
                              rotate_left
                              · intro w'
                                go_simp
                                with_reducible rfl
                              rotate_left
                              · simp only [Act.put, List.setIfInBounds_toArray, List.set_cons_zero, List.set_cons_succ, i64_w, i32_w]
                                rfl
                              refine done_ (done_of HT_.out (by kernel_rfl)) ?_
                              try go_wp2
                              go_ret2
                              exact ⟨by first | rfl | (simp [errW_none, errW_some] <;> rfl) | (simp [*, errW_none, errW_some] <;> rfl), by repeat (first | (with_reducible first | exact HB.out | apply below_alloc | apply pw_below_drewN | apply below_drew1 | refine below_set ?_ GE177.out) | exact HB.out)⟩
                            · rw [if_neg c23] at H
                              exact absurd H (by simp)
                          · rw [if_neg c21] at H
                            exact absurd H (by simp)
                        · rw [if_neg c20] at H
                          exact absurd H (by simp)
                      · rw [if_neg c18] at H
                        exact absurd H (by simp)
                    · rw [if_neg c17] at H
                      exact absurd H (by simp)
                  · rw [if_neg c15] at H
                    exact absurd H (by simp)
                · rw [if_neg c14] at H
                  exact absurd H (by simp)
              · rw [if_neg c12] at H
                exact absurd H (by simp)
            · rw [if_neg c11] at H
              exact absurd H (by simp)
          · rw [if_neg c9] at H
            exact absurd H (by simp)
        · rw [if_neg c8] at H
          exact absurd H (by simp)
      · rw [if_neg c6] at H
        exact absurd H (by simp)
    · rw [if_neg c5] at H
      exact absurd H (by simp)
  · replace c3 := Bool.eq_false_iff.mpr c3
    subst c3
    have H1 : (some ((⟨#[]⟩ : ByteArray), false)) = some (r1, r2) := by rw [if_neg (show ¬ (false = true) by decide)] at H; exact H
    clear H
    have H := H1
    clear H1
    simp only [Option.some.injEq, Prod.mk.injEq] at H
    obtain ⟨rfl, rfl⟩ := H
    go_enter Tryd.func6, Tryd.ntmps6
    go_wp2_with (first | ((with_reducible refine gate_dst (N := 1) rfl ?_); refine box_event ?hg (N := 1) ?hd (cs := #[.int .i64 a0_0, .int .i64 a0_1, .int .i64 a0_2, .int .i64 a0_3, .int .i64 a0_4, .int .i64 a0_5, .int .i64 a0_6]) (t := 30) ?hr ?_; (case hd => rfl); (case hg => rfl); (case hr => first | (go_simp; done) | (go_simp; rfl)); intro gb177 hg w35 hbox hb; have n0_ := Aside0.mk (below_step (by repeat (first | (with_reducible first | exact HB.out | apply below_alloc | apply pw_below_drewN | apply below_drew1) | exact HB.out)) hb); have n1_ := Aside0.mk (hbox); have n2_ := Aside0.mk ((by rw [hg]; exact (below_size (by repeat (first | (with_reducible first | exact HB.out | apply below_alloc | apply pw_below_drewN | apply below_drew1) | exact HB.out))) : w.heap.size ≤ gb177)); have n3_ := Aside0.mk ((by rw [hg]; exact (below_size (by repeat (first | (with_reducible first | exact HB.out | apply below_alloc | apply pw_below_drewN | apply below_drew1) | exact HB.out))) : w.heap.size ≤ gb177)); clear HB; have HB := n0_; have BK177 := n1_; have GW177 := n2_; have GE177 := n3_; clear n0_ n1_ n2_ n3_; clear hb hbox hg; have hcz36_0 : w35.cell? ⟨gb177, 0, none⟩ = some (.int .i64 a0_0) := (blk_cell BK177.out 0).trans rfl; have hcz36_1 : w35.cell? ⟨gb177, 1, none⟩ = some (.int .i64 a0_1) := (blk_cell BK177.out 1).trans rfl; have hcz36_2 : w35.cell? ⟨gb177, 2, none⟩ = some (.int .i64 a0_2) := (blk_cell BK177.out 2).trans rfl; have hcz36_3 : w35.cell? ⟨gb177, 3, none⟩ = some (.int .i64 a0_3) := (blk_cell BK177.out 3).trans rfl; have hcz36_4 : w35.cell? ⟨gb177, 4, none⟩ = some (.int .i64 a0_4) := (blk_cell BK177.out 4).trans rfl; have hcz36_5 : w35.cell? ⟨gb177, 5, none⟩ = some (.int .i64 a0_5) := (blk_cell BK177.out 5).trans rfl; have hcz36_6 : w35.cell? ⟨gb177, 6, none⟩ = some (.int .i64 a0_6) := (blk_cell BK177.out 6).trans rfl; have hfz36_0 := blk_frozen BK177.out 0; have hfz36_1 := blk_frozen BK177.out 1; have hfz36_2 := blk_frozen BK177.out 2; have hfz36_3 := blk_frozen BK177.out 3; have hfz36_4 := blk_frozen BK177.out 4; have hfz36_5 := blk_frozen BK177.out 5; have hfz36_6 := blk_frozen BK177.out 6) | ((with_reducible refine gate_callee (f := 10) rfl ?_); refine goesL_ (some 6) rfl rfl Tryd.func10 (by kernel_rfl) rfl #[.agg #[.int .i64 a0_0, .int .i64 a0_1, .int .i64 a0_2, .int .i64 a0_3, .int .i64 a0_4, .int .i64 a0_5, .int .i64 a0_6]] rfl (by (try simp only [List.map_toArray, List.map_cons, List.map_nil]); first | done | rfl | (simp only [List.length_drop, List.length_take]; rfl)) ?_; (with_reducible refine (impl_GoodIns.calls k a0_0 a0_1 a0_2 a0_3 a0_4 a0_5 a0_6 false _ A2.out).mono ?_); rintro e w37 ⟨rfl, hb⟩; refine ⟨_, rfl, ?_⟩; have n0_ := Aside0.mk (blk_below (g := gb177) (o := .cells #[.int .i64 a0_0, .int .i64 a0_1, .int .i64 a0_2, .int .i64 a0_3, .int .i64 a0_4, .int .i64 a0_5, .int .i64 a0_6] 30 (0, 0)) (by (with_reducible repeat (first | refine blk_drewN ?_ _ | refine blk_drew ?_ | refine blk_alloc ?_ _)); exact BK177.out) hb); have n1_ := Aside0.mk (below_step (by repeat (first | (with_reducible first | exact HB.out | apply below_alloc | apply pw_below_drewN | apply below_drew1 | refine below_set ?_ GE177.out) | exact HB.out)) hb); clear BK177; clear HB; have BK177 := n0_; have HB := n1_; clear n0_ n1_; (try clear hb); (try clear hb2); (try clear hk); (try clear hi)))
    go_ret2
    exact ⟨by first | rfl | (simp [errW_none, errW_some] <;> rfl) | (simp [*, errW_none, errW_some] <;> rfl), by repeat (first | (with_reducible first | exact HB.out | apply below_alloc | apply pw_below_drewN | apply below_drew1 | refine below_set ?_ GE177.out) | exact HB.out)⟩

end Go.Proofs.YtnopjkkglanlfaaDoor.HFnExactTextOf
