-- out of hprint.py, this session's own program over the kit's print (see NOTES.md); Lean checks it
import Derived.Test.YtnopjkkglanlfaaDoorHFnExactTextOfx0
import Derived.Test.YtnopjkkglanlfaaDoorHFnExactTextOfx1
import Derived.Test.YtnopjkkglanlfaaDoorHFnExactTextOfx6
namespace Go.Proofs.YtnopjkkglanlfaaDoor.HFnExactTextOf
open Go.RowKit Go.Proofs.YtnopjkkglanlfaaDoorW.PrintWords Go.Proofs.YtnopjkkglanlfaaDoorW.PrintLast Go.Proofs.YtnopjkkglanlfaaDoorW.PrintMore
attribute [local go_sem] max2_int min2_int max_two min_two max_three min_three max_four min_four   -- for this text's walks alone
set_option linter.unusedVariables false
set_option linter.unusedSimpArgs false

attribute [local go_sem high] eqA28
/-! ### impl_isKind: function 22 -/
mutual
def impl_isKind.j0 : Nat → Int → Bool → Int → Bool → Int → Int → Int → Int → Int → Int → Int → Option (Bool)
  | 0, _, _, _, _, _, _, _, _, _, _, _ => none
  | k + 1, x3, x4, x12, x13, x163000, x163001, x163002, x163003, x163004, x163005, x163006 => if x13 = true then (if x163006 = 0 then (if x3 = 1 then (some x4) else (some true)) else (some false)) else (if x12 = 2 then (if x163006 = 0 then ((impl_isSettable.f x3).bind fun t163 => (some t163)) else (some false)) else (if x12 = 9 then (if x4 = true then (some (x163006 == 0)) else (some false)) else (if x12 = 10 then (if x4 = true then (if x163006 = 0 then ((impl_isPlain.f x3).bind fun t164 => (some t164)) else (some false)) else (some false)) else (if x12 = 11 then (if x163002 = 0 then (if x163006 ≤ 3 then ((impl_isSettable.f x3).bind fun t165 => (some t165)) else (some false)) else (some false)) else (if x12 = 12 then (some (x3 == 0)) else (if x12 = 13 then (if x4 = true then (if x163002 ≤ 1 then (some (x3 == 7)) else (some false)) else (some false)) else (if x12 = 14 then (if x4 = true then (if x163002 = 0 then (if x163006 ≤ 1 then ((impl_isPlain.f x3).bind fun t166 => (some t166)) else (some false)) else (some false)) else (some false)) else (if x12 = 15 then ((impl_isFlow.f k x163000 x163001 x163002 x163003 x163004 x163005 x163006).bind fun t167 => (some t167)) else (if x12 = 16 then (impl_isKind.j1 k x3 x4 x12 (x12 == 16) x163000 x163001 x163002 x163003 x163004 x163005 x163006) else (impl_isKind.j1 k x3 x4 x12 (x12 == 17) x163000 x163001 x163002 x163003 x163004 x163005 x163006))))))))))
def impl_isKind.j1 : Nat → Int → Bool → Int → Bool → Int → Int → Int → Int → Int → Int → Int → Option (Bool)
  | 0, _, _, _, _, _, _, _, _, _, _, _ => none
  | k + 1, x3, x4, x12, x111, x163000, x163001, x163002, x163003, x163004, x163005, x163006 => if x111 = true then (if x4 = true then (if x163006 = 0 then (some (x3 != 1)) else (some false)) else (some false)) else (if x12 = 18 then (if x4 = true then (some false) else (if x163006 ≤ 1 then (some (x3 == 0)) else (some false))) else (if x12 = 19 then (if x4 = true then (if x163006 = 0 then (if x163002 = 0 then ((impl_isNow.f x163003 x163004 x163005).bind fun t168 => (if t168 = true then (some true) else (if x163006 = 1 then (some (x163003 == 0 && (x163004 == 0 && (x163005 == 0)))) else (some false)))) else (if x163006 = 1 then (some (x163003 == 0 && (x163004 == 0 && (x163005 == 0)))) else (some false))) else (if x163006 = 1 then (some (x163003 == 0 && (x163004 == 0 && (x163005 == 0)))) else (some false))) else (some false)) else (some false)))
end
def impl_isKind.f (k : Nat) (a0_0 : Int) (a0_1 : Int) (a0_2 : Int) (a0_3 : Int) (a0_4 : Int) (a0_5 : Int) (a0_6 : Int) : Option (Bool) := if a0_0 = 1 then (impl_isKind.j0 k a0_3 (a0_1 == 2) a0_0 (a0_0 == 1) a0_0 a0_1 a0_2 a0_3 a0_4 a0_5 a0_6) else (if a0_0 = 3 then (impl_isKind.j0 k a0_3 (a0_1 == 2) a0_0 (a0_0 == 3) a0_0 a0_1 a0_2 a0_3 a0_4 a0_5 a0_6) else (if a0_0 = 4 then (impl_isKind.j0 k a0_3 (a0_1 == 2) a0_0 (a0_0 == 4) a0_0 a0_1 a0_2 a0_3 a0_4 a0_5 a0_6) else (if a0_0 = 5 then (impl_isKind.j0 k a0_3 (a0_1 == 2) a0_0 (a0_0 == 5) a0_0 a0_1 a0_2 a0_3 a0_4 a0_5 a0_6) else (if a0_0 = 6 then (impl_isKind.j0 k a0_3 (a0_1 == 2) a0_0 (a0_0 == 6) a0_0 a0_1 a0_2 a0_3 a0_4 a0_5 a0_6) else (if a0_0 = 7 then (impl_isKind.j0 k a0_3 (a0_1 == 2) a0_0 (a0_0 == 7) a0_0 a0_1 a0_2 a0_3 a0_4 a0_5 a0_6) else (impl_isKind.j0 k a0_3 (a0_1 == 2) a0_0 (a0_0 == 8) a0_0 a0_1 a0_2 a0_3 a0_4 a0_5 a0_6))))))
theorem impl_isKind.mono_l : ∀ k, (∀ y0 y1 y2 y3 y4 y5 y6 y7 y8 y9 y10, LeO (impl_isKind.j0 k y0 y1 y2 y3 y4 y5 y6 y7 y8 y9 y10) (impl_isKind.j0 (k + 1) y0 y1 y2 y3 y4 y5 y6 y7 y8 y9 y10)) ∧ (∀ y0 y1 y2 y3 y4 y5 y6 y7 y8 y9 y10, LeO (impl_isKind.j1 k y0 y1 y2 y3 y4 y5 y6 y7 y8 y9 y10) (impl_isKind.j1 (k + 1) y0 y1 y2 y3 y4 y5 y6 y7 y8 y9 y10))
  | 0 => ⟨fun _ _ _ _ _ _ _ _ _ _ _ r h => by simp [impl_isKind.j0] at h, fun _ _ _ _ _ _ _ _ _ _ _ r h => by simp [impl_isKind.j1] at h⟩
  | k + 1 => by
    obtain ⟨ih0, ih1⟩ := impl_isKind.mono_l k
    refine ⟨?_, ?_⟩
    · intro y0 y1 y2 y3 y4 y5 y6 y7 y8 y9 y10
      unfold impl_isKind.j0
      repeat' first
      | (with_reducible exact ih0 _ _ _ _ _ _ _ _ _ _ _)
      | (with_reducible exact ih1 _ _ _ _ _ _ _ _ _ _ _)
      | (with_reducible exact impl_isFlow.mono _ _ _ _ _ _ _ _)
      | (with_reducible exact LeO.refl _)
      | (with_reducible exact LeO.none _)
      | (with_reducible refine LeO.ite ?_ ?_)
      | (with_reducible refine LeO.bind ?_ (fun _ => ?_))
      | exact ih0 _ _ _ _ _ _ _ _ _ _ _
      | exact ih1 _ _ _ _ _ _ _ _ _ _ _
      | exact impl_isFlow.mono _ _ _ _ _ _ _ _
      | exact LeO.none _
      | refine LeO.ite ?_ ?_
      | refine LeO.bind ?_ (fun _ => ?_)
    · intro y0 y1 y2 y3 y4 y5 y6 y7 y8 y9 y10
      unfold impl_isKind.j1
      repeat' first
      | (with_reducible exact ih0 _ _ _ _ _ _ _ _ _ _ _)
      | (with_reducible exact ih1 _ _ _ _ _ _ _ _ _ _ _)
      | (with_reducible exact impl_isFlow.mono _ _ _ _ _ _ _ _)
      | (with_reducible exact LeO.refl _)
      | (with_reducible exact LeO.none _)
      | (with_reducible refine LeO.ite ?_ ?_)
      | (with_reducible refine LeO.bind ?_ (fun _ => ?_))
      | exact ih0 _ _ _ _ _ _ _ _ _ _ _
      | exact ih1 _ _ _ _ _ _ _ _ _ _ _
      | exact impl_isFlow.mono _ _ _ _ _ _ _ _
      | exact LeO.none _
      | refine LeO.ite ?_ ?_
      | refine LeO.bind ?_ (fun _ => ?_)
theorem impl_isKind.mono : ∀ a0 a1 a2 a3 a4 a5 a6 k, LeO (impl_isKind.f k a0 a1 a2 a3 a4 a5 a6) (impl_isKind.f (k + 1) a0 a1 a2 a3 a4 a5 a6) := by
  intro a0 a1 a2 a3 a4 a5 a6 k
  obtain ⟨ih0, ih1⟩ := impl_isKind.mono_l k
  unfold impl_isKind.f
  repeat' first
      | (with_reducible exact ih0 _ _ _ _ _ _ _ _ _ _ _)
      | (with_reducible exact ih1 _ _ _ _ _ _ _ _ _ _ _)
      | (with_reducible exact impl_isFlow.mono _ _ _ _ _ _ _ _)
      | (with_reducible exact LeO.refl _)
      | (with_reducible exact LeO.none _)
      | (with_reducible refine LeO.ite ?_ ?_)
      | (with_reducible refine LeO.bind ?_ (fun _ => ?_))
      | exact ih0 _ _ _ _ _ _ _ _ _ _ _
      | exact ih1 _ _ _ _ _ _ _ _ _ _ _
      | exact impl_isFlow.mono _ _ _ _ _ _ _ _
      | exact LeO.none _
      | refine LeO.ite ?_ ?_
      | refine LeO.bind ?_ (fun _ => ?_)
set_option maxHeartbeats 8000000 in
set_option maxRecDepth 100000 in
theorem impl_isKind.calls (k : Nat) (a0_0 : Int) (a0_1 : Int) (a0_2 : Int) (a0_3 : Int) (a0_4 : Int) (a0_5 : Int) (a0_6 : Int) (r : Bool) (w : World) (h : impl_isKind.f k a0_0 a0_1 a0_2 a0_3 a0_4 a0_5 a0_6 = some r) :
    Calls Tryd.prog 22 #[.agg #[.int .i64 a0_0, .int .i64 a0_1, .int .i64 a0_2, .int .i64 a0_3, .int .i64 a0_4, .int .i64 a0_5, .int .i64 a0_6]] w fun e w' => e = .returned (.bool r) ∧ Below w.heap.size w w' := by
  have hu30 := Tryd.underlying30
  have hu28 := Tryd.underlying28
  have HB := Aside0.mk (Below.refl w.heap.size w)
  have H : (if a0_0 = 1 then (impl_isKind.j0 k a0_3 (a0_1 == 2) a0_0 (a0_0 == 1) a0_0 a0_1 a0_2 a0_3 a0_4 a0_5 a0_6) else (if a0_0 = 3 then (impl_isKind.j0 k a0_3 (a0_1 == 2) a0_0 (a0_0 == 3) a0_0 a0_1 a0_2 a0_3 a0_4 a0_5 a0_6) else (if a0_0 = 4 then (impl_isKind.j0 k a0_3 (a0_1 == 2) a0_0 (a0_0 == 4) a0_0 a0_1 a0_2 a0_3 a0_4 a0_5 a0_6) else (if a0_0 = 5 then (impl_isKind.j0 k a0_3 (a0_1 == 2) a0_0 (a0_0 == 5) a0_0 a0_1 a0_2 a0_3 a0_4 a0_5 a0_6) else (if a0_0 = 6 then (impl_isKind.j0 k a0_3 (a0_1 == 2) a0_0 (a0_0 == 6) a0_0 a0_1 a0_2 a0_3 a0_4 a0_5 a0_6) else (if a0_0 = 7 then (impl_isKind.j0 k a0_3 (a0_1 == 2) a0_0 (a0_0 == 7) a0_0 a0_1 a0_2 a0_3 a0_4 a0_5 a0_6) else (impl_isKind.j0 k a0_3 (a0_1 == 2) a0_0 (a0_0 == 8) a0_0 a0_1 a0_2 a0_3 a0_4 a0_5 a0_6))))))) = some r := h
  clear h
  have HC2 := Aside0.mk H
  clear H
  go_enter Tryd.func22, Tryd.ntmps22
  go_upto_if 13 with (first | ((with_reducible refine gate_dst (N := 1) rfl ?_); refine box_event ?hg (N := 1) ?hd (cs := #[.int .i64 a0_0, .int .i64 a0_1, .int .i64 a0_2, .int .i64 a0_3, .int .i64 a0_4, .int .i64 a0_5, .int .i64 a0_6]) (t := 30) ?hr ?_; (case hd => rfl); (case hg => rfl); (case hr => first | (go_simp; done) | (go_simp; rfl)); intro gb162 hg w3 hbox hb; have n0_ := Aside0.mk (below_step (by repeat (first | (with_reducible first | exact HB.out | apply below_alloc | apply pw_below_drewN | apply below_drew1) | exact HB.out)) hb); have n1_ := Aside0.mk (hbox); have n2_ := Aside0.mk ((by rw [hg]; exact (below_size (by repeat (first | (with_reducible first | exact HB.out | apply below_alloc | apply pw_below_drewN | apply below_drew1) | exact HB.out))) : w.heap.size ≤ gb162)); have n3_ := Aside0.mk ((by rw [hg]; exact (below_size (by repeat (first | (with_reducible first | exact HB.out | apply below_alloc | apply pw_below_drewN | apply below_drew1) | exact HB.out))) : w.heap.size ≤ gb162)); clear HB; have HB := n0_; have BK162 := n1_; have GW162 := n2_; have GE162 := n3_; clear n0_ n1_ n2_ n3_; clear hb hbox hg; have hcz4_0 : w3.cell? ⟨gb162, 0, none⟩ = some (.int .i64 a0_0) := (blk_cell BK162.out 0).trans rfl; have hcz4_1 : w3.cell? ⟨gb162, 1, none⟩ = some (.int .i64 a0_1) := (blk_cell BK162.out 1).trans rfl; have hcz4_2 : w3.cell? ⟨gb162, 2, none⟩ = some (.int .i64 a0_2) := (blk_cell BK162.out 2).trans rfl; have hcz4_3 : w3.cell? ⟨gb162, 3, none⟩ = some (.int .i64 a0_3) := (blk_cell BK162.out 3).trans rfl; have hcz4_4 : w3.cell? ⟨gb162, 4, none⟩ = some (.int .i64 a0_4) := (blk_cell BK162.out 4).trans rfl; have hcz4_5 : w3.cell? ⟨gb162, 5, none⟩ = some (.int .i64 a0_5) := (blk_cell BK162.out 5).trans rfl; have hcz4_6 : w3.cell? ⟨gb162, 6, none⟩ = some (.int .i64 a0_6) := (blk_cell BK162.out 6).trans rfl; have hfz4_0 := blk_frozen BK162.out 0; have hfz4_1 := blk_frozen BK162.out 1; have hfz4_2 := blk_frozen BK162.out 2; have hfz4_3 := blk_frozen BK162.out 3; have hfz4_4 := blk_frozen BK162.out 4; have hfz4_5 := blk_frozen BK162.out 5; have hfz4_6 := blk_frozen BK162.out 6))
  (try simp only [Act.put, List.setIfInBounds_toArray, List.set_cons_zero, List.set_cons_succ])
  go_cut [13] (fun v13 wc => ∃ (kq : Nat) (x13_1 : Bool), v13 = .bool x13_1 ∧ Aside0 (impl_isKind.j0 kq a0_3 (a0_1 == 2) a0_0 x13_1 a0_0 a0_1 a0_2 a0_3 a0_4 a0_5 a0_6 = some r) ∧ Aside0 (kq ≤ k) ∧ Aside0 (wc.heap[gb162]? = some (.cells #[.int .i64 a0_0, .int .i64 a0_1, .int .i64 a0_2, .int .i64 a0_3, .int .i64 a0_4, .int .i64 a0_5, .int .i64 a0_6] 30 (0, 0))) ∧ Aside0 (Below w.heap.size w wc))
  case first =>
    have H := HC2.out
    clear HC2
    by_cases c5 : a0_0 = 1
    · as_aux_lemma =>
      rw [if_pos c5] at H
      have c5b0 : (a0_0 == 1) = true := beq_iff_eq.mpr c5
      have c5b1 : (a0_0 != 1) = false := bne_eq_false_iff_eq.mpr c5
      clear c5
      (first | rw [c5b0] | (simp only [i64_w, i32_w]; rw [c5b0]) | skip)
      have H' := Aside0.mk H
      clear H
      go_wp2
      go_meet
      case rel => exact ⟨_, ((a0_0 == 1)), (by first | rfl | (simp; done) | (simp [*]; done)), H', ⟨by first | omega | exact Nat.le_refl _⟩, ⟨by (with_reducible repeat (first | refine blk_drewN ?_ _ | refine blk_drew ?_ | refine blk_alloc ?_ _)); exact BK162.out⟩, ⟨by repeat (first | (with_reducible first | exact HB.out | apply below_alloc | apply pw_below_drewN | apply below_drew1 | refine below_set ?_ GE162.out) | exact HB.out)⟩⟩
    · as_aux_lemma =>
      rw [if_neg c5] at H
      have c5b0 : (a0_0 == 1) = false := beq_eq_false_iff_ne.mpr c5
      have c5b1 : (a0_0 != 1) = true := bne_iff_ne.mpr c5
      (first | rw [c5b0] | (simp only [i64_w, i32_w]; rw [c5b0]) | skip)
      by_cases c6 : a0_0 = 3
      · as_aux_lemma =>
        rw [if_pos c6] at H
        have c6b0 : (a0_0 == 3) = true := beq_iff_eq.mpr c6
        have c6b1 : (a0_0 != 3) = false := bne_eq_false_iff_eq.mpr c6
        clear c6
        have H' := Aside0.mk H
        clear H
        go_wp2
        go_meet
        case rel => exact ⟨_, ((a0_0 == 3)), (by first | rfl | (simp; done) | (simp [*]; done)), H', ⟨by first | omega | exact Nat.le_refl _⟩, ⟨by (with_reducible repeat (first | refine blk_drewN ?_ _ | refine blk_drew ?_ | refine blk_alloc ?_ _)); exact BK162.out⟩, ⟨by repeat (first | (with_reducible first | exact HB.out | apply below_alloc | apply pw_below_drewN | apply below_drew1 | refine below_set ?_ GE162.out) | exact HB.out)⟩⟩
      · as_aux_lemma =>
        rw [if_neg c6] at H
        have c6b0 : (a0_0 == 3) = false := beq_eq_false_iff_ne.mpr c6
        have c6b1 : (a0_0 != 3) = true := bne_iff_ne.mpr c6
        by_cases c7 : a0_0 = 4
        · as_aux_lemma =>
          rw [if_pos c7] at H
          have c7b0 : (a0_0 == 4) = true := beq_iff_eq.mpr c7
          have c7b1 : (a0_0 != 4) = false := bne_eq_false_iff_eq.mpr c7
          clear c7
          have H' := Aside0.mk H
          clear H
          go_wp2
          go_meet
          case rel => exact ⟨_, ((a0_0 == 4)), (by first | rfl | (simp; done) | (simp [*]; done)), H', ⟨by first | omega | exact Nat.le_refl _⟩, ⟨by (with_reducible repeat (first | refine blk_drewN ?_ _ | refine blk_drew ?_ | refine blk_alloc ?_ _)); exact BK162.out⟩, ⟨by repeat (first | (with_reducible first | exact HB.out | apply below_alloc | apply pw_below_drewN | apply below_drew1 | refine below_set ?_ GE162.out) | exact HB.out)⟩⟩
        · as_aux_lemma =>
          rw [if_neg c7] at H
          have c7b0 : (a0_0 == 4) = false := beq_eq_false_iff_ne.mpr c7
          have c7b1 : (a0_0 != 4) = true := bne_iff_ne.mpr c7
          by_cases c8 : a0_0 = 5
          · as_aux_lemma =>
            rw [if_pos c8] at H
            have c8b0 : (a0_0 == 5) = true := beq_iff_eq.mpr c8
            have c8b1 : (a0_0 != 5) = false := bne_eq_false_iff_eq.mpr c8
            clear c8
            have H' := Aside0.mk H
            clear H
            go_wp2
            go_meet
            case rel => exact ⟨_, ((a0_0 == 5)), (by first | rfl | (simp; done) | (simp [*]; done)), H', ⟨by first | omega | exact Nat.le_refl _⟩, ⟨by (with_reducible repeat (first | refine blk_drewN ?_ _ | refine blk_drew ?_ | refine blk_alloc ?_ _)); exact BK162.out⟩, ⟨by repeat (first | (with_reducible first | exact HB.out | apply below_alloc | apply pw_below_drewN | apply below_drew1 | refine below_set ?_ GE162.out) | exact HB.out)⟩⟩
          · as_aux_lemma =>
            rw [if_neg c8] at H
            have c8b0 : (a0_0 == 5) = false := beq_eq_false_iff_ne.mpr c8
            have c8b1 : (a0_0 != 5) = true := bne_iff_ne.mpr c8
            by_cases c9 : a0_0 = 6
            · as_aux_lemma =>
              rw [if_pos c9] at H
              have c9b0 : (a0_0 == 6) = true := beq_iff_eq.mpr c9
              have c9b1 : (a0_0 != 6) = false := bne_eq_false_iff_eq.mpr c9
              clear c9
              have H' := Aside0.mk H
              clear H
              go_wp2
              go_meet
              case rel => exact ⟨_, ((a0_0 == 6)), (by first | rfl | (simp; done) | (simp [*]; done)), H', ⟨by first | omega | exact Nat.le_refl _⟩, ⟨by (with_reducible repeat (first | refine blk_drewN ?_ _ | refine blk_drew ?_ | refine blk_alloc ?_ _)); exact BK162.out⟩, ⟨by repeat (first | (with_reducible first | exact HB.out | apply below_alloc | apply pw_below_drewN | apply below_drew1 | refine below_set ?_ GE162.out) | exact HB.out)⟩⟩
            · as_aux_lemma =>
              rw [if_neg c9] at H
              have c9b0 : (a0_0 == 6) = false := beq_eq_false_iff_ne.mpr c9
              have c9b1 : (a0_0 != 6) = true := bne_iff_ne.mpr c9
              by_cases c10 : a0_0 = 7
              · as_aux_lemma =>
                rw [if_pos c10] at H
                have c10b0 : (a0_0 == 7) = true := beq_iff_eq.mpr c10
                have c10b1 : (a0_0 != 7) = false := bne_eq_false_iff_eq.mpr c10
                clear c10
                have H' := Aside0.mk H
                clear H
                go_wp2
                go_meet
                case rel => exact ⟨_, ((a0_0 == 7)), (by first | rfl | (simp; done) | (simp [*]; done)), H', ⟨by first | omega | exact Nat.le_refl _⟩, ⟨by (with_reducible repeat (first | refine blk_drewN ?_ _ | refine blk_drew ?_ | refine blk_alloc ?_ _)); exact BK162.out⟩, ⟨by repeat (first | (with_reducible first | exact HB.out | apply below_alloc | apply pw_below_drewN | apply below_drew1 | refine below_set ?_ GE162.out) | exact HB.out)⟩⟩
              · as_aux_lemma =>
                rw [if_neg c10] at H
                have c10b0 : (a0_0 == 7) = false := beq_eq_false_iff_ne.mpr c10
                have c10b1 : (a0_0 != 7) = true := bne_iff_ne.mpr c10
                have H' := Aside0.mk H
                clear H
                go_wp2
                go_meet
                case rel => exact ⟨_, ((a0_0 == 8)), (by first | rfl | (simp; done) | (simp [*]; done)), H', ⟨by first | omega | exact Nat.le_refl _⟩, ⟨by (with_reducible repeat (first | refine blk_drewN ?_ _ | refine blk_drew ?_ | refine blk_alloc ?_ _)); exact BK162.out⟩, ⟨by repeat (first | (with_reducible first | exact HB.out | apply below_alloc | apply pw_below_drewN | apply below_drew1 | refine below_set ?_ GE162.out) | exact HB.out)⟩⟩
  case rest =>
    clear HC2
    try clear c1
    try clear c2
    try clear p2
    try clear c5
    try clear c5b0
    try clear c5b1
    try clear c6
    try clear c6b0
    try clear c6b1
    try clear c7
    try clear c7b0
    try clear c7b1
    try clear c8
    try clear c8b0
    try clear c8b1
    try clear c9
    try clear c9b0
    try clear c9b1
    try clear c10
    try clear c10b0
    try clear c10b1
    try clear hcz4_0
    try clear hcz4_1
    try clear hcz4_2
    try clear hcz4_3
    try clear hcz4_4
    try clear hcz4_5
    try clear hcz4_6
    try clear hfz4_0
    try clear hfz4_1
    try clear hfz4_2
    try clear hfz4_3
    try clear hfz4_4
    try clear hfz4_5
    try clear hfz4_6
    obtain ⟨kq, x13_1, rfl, HA, HJ1, BK162, HB⟩ := hcut
    cases kq with
    | zero => exact absurd HA.out (by simp [impl_isKind.j0])
    | succ kj1 =>
      have H := HA.out
      clear HA
      simp only [impl_isKind.j0] at H
      by_cases c11 : x13_1 = true
      · as_aux_lemma =>
        subst c11
        have H1 : (if a0_6 = 0 then (if a0_3 = 1 then (some (a0_1 == 2)) else (some true)) else (some false)) = some r := by rw [if_pos rfl] at H; exact H
        clear H
        have H := H1
        clear H1
        by_cases c12 : a0_6 = 0
        · as_aux_lemma =>
          rw [if_pos c12] at H
          have c12b0 : (a0_6 == 0) = true := beq_iff_eq.mpr c12
          have c12b1 : (a0_6 != 0) = false := bne_eq_false_iff_eq.mpr c12
          clear c12
          by_cases c13 : a0_3 = 1
          · as_aux_lemma =>
            rw [if_pos c13] at H
            have c13b0 : (a0_3 == 1) = true := beq_iff_eq.mpr c13
            have c13b1 : (a0_3 != 1) = false := bne_eq_false_iff_eq.mpr c13
            clear c13
            obtain rfl := Option.some.inj H
            have hcz14_0 : wc.cell? ⟨gb162, 0, none⟩ = some (.int .i64 a0_0) := (blk_cell BK162.out 0).trans rfl
            have hcz14_1 : wc.cell? ⟨gb162, 1, none⟩ = some (.int .i64 a0_1) := (blk_cell BK162.out 1).trans rfl
            have hcz14_2 : wc.cell? ⟨gb162, 2, none⟩ = some (.int .i64 a0_2) := (blk_cell BK162.out 2).trans rfl
            have hcz14_3 : wc.cell? ⟨gb162, 3, none⟩ = some (.int .i64 a0_3) := (blk_cell BK162.out 3).trans rfl
            have hcz14_4 : wc.cell? ⟨gb162, 4, none⟩ = some (.int .i64 a0_4) := (blk_cell BK162.out 4).trans rfl
            have hcz14_5 : wc.cell? ⟨gb162, 5, none⟩ = some (.int .i64 a0_5) := (blk_cell BK162.out 5).trans rfl
            have hcz14_6 : wc.cell? ⟨gb162, 6, none⟩ = some (.int .i64 a0_6) := (blk_cell BK162.out 6).trans rfl
            have hfz14_0 := blk_frozen BK162.out 0
            have hfz14_1 := blk_frozen BK162.out 1
            have hfz14_2 := blk_frozen BK162.out 2
            have hfz14_3 := blk_frozen BK162.out 3
            have hfz14_4 := blk_frozen BK162.out 4
            have hfz14_5 := blk_frozen BK162.out 5
            have hfz14_6 := blk_frozen BK162.out 6
            go_wp2
            go_ret
            exact ⟨by first | rfl | (simp [errW_none, errW_some] <;> rfl) | (simp [*, errW_none, errW_some] <;> rfl), by repeat (first | (with_reducible first | exact HB.out | apply below_alloc | apply pw_below_drewN | apply below_drew1 | refine below_set ?_ GE162.out) | exact HB.out)⟩
          · as_aux_lemma =>
            rw [if_neg c13] at H
            have c13b0 : (a0_3 == 1) = false := beq_eq_false_iff_ne.mpr c13
            have c13b1 : (a0_3 != 1) = true := bne_iff_ne.mpr c13
            obtain rfl := Option.some.inj H
            have hcz15_0 : wc.cell? ⟨gb162, 0, none⟩ = some (.int .i64 a0_0) := (blk_cell BK162.out 0).trans rfl
            have hcz15_1 : wc.cell? ⟨gb162, 1, none⟩ = some (.int .i64 a0_1) := (blk_cell BK162.out 1).trans rfl
            have hcz15_2 : wc.cell? ⟨gb162, 2, none⟩ = some (.int .i64 a0_2) := (blk_cell BK162.out 2).trans rfl
            have hcz15_3 : wc.cell? ⟨gb162, 3, none⟩ = some (.int .i64 a0_3) := (blk_cell BK162.out 3).trans rfl
            have hcz15_4 : wc.cell? ⟨gb162, 4, none⟩ = some (.int .i64 a0_4) := (blk_cell BK162.out 4).trans rfl
            have hcz15_5 : wc.cell? ⟨gb162, 5, none⟩ = some (.int .i64 a0_5) := (blk_cell BK162.out 5).trans rfl
            have hcz15_6 : wc.cell? ⟨gb162, 6, none⟩ = some (.int .i64 a0_6) := (blk_cell BK162.out 6).trans rfl
            have hfz15_0 := blk_frozen BK162.out 0
            have hfz15_1 := blk_frozen BK162.out 1
            have hfz15_2 := blk_frozen BK162.out 2
            have hfz15_3 := blk_frozen BK162.out 3
            have hfz15_4 := blk_frozen BK162.out 4
            have hfz15_5 := blk_frozen BK162.out 5
            have hfz15_6 := blk_frozen BK162.out 6
            go_wp2
            go_ret
            exact ⟨by first | rfl | (simp [errW_none, errW_some] <;> rfl) | (simp [*, errW_none, errW_some] <;> rfl), by repeat (first | (with_reducible first | exact HB.out | apply below_alloc | apply pw_below_drewN | apply below_drew1 | refine below_set ?_ GE162.out) | exact HB.out)⟩
        · as_aux_lemma =>
          rw [if_neg c12] at H
          have c12b0 : (a0_6 == 0) = false := beq_eq_false_iff_ne.mpr c12
          have c12b1 : (a0_6 != 0) = true := bne_iff_ne.mpr c12
          obtain rfl := Option.some.inj H
          have hcz16_0 : wc.cell? ⟨gb162, 0, none⟩ = some (.int .i64 a0_0) := (blk_cell BK162.out 0).trans rfl
          have hcz16_1 : wc.cell? ⟨gb162, 1, none⟩ = some (.int .i64 a0_1) := (blk_cell BK162.out 1).trans rfl
          have hcz16_2 : wc.cell? ⟨gb162, 2, none⟩ = some (.int .i64 a0_2) := (blk_cell BK162.out 2).trans rfl
          have hcz16_3 : wc.cell? ⟨gb162, 3, none⟩ = some (.int .i64 a0_3) := (blk_cell BK162.out 3).trans rfl
          have hcz16_4 : wc.cell? ⟨gb162, 4, none⟩ = some (.int .i64 a0_4) := (blk_cell BK162.out 4).trans rfl
          have hcz16_5 : wc.cell? ⟨gb162, 5, none⟩ = some (.int .i64 a0_5) := (blk_cell BK162.out 5).trans rfl
          have hcz16_6 : wc.cell? ⟨gb162, 6, none⟩ = some (.int .i64 a0_6) := (blk_cell BK162.out 6).trans rfl
          have hfz16_0 := blk_frozen BK162.out 0
          have hfz16_1 := blk_frozen BK162.out 1
          have hfz16_2 := blk_frozen BK162.out 2
          have hfz16_3 := blk_frozen BK162.out 3
          have hfz16_4 := blk_frozen BK162.out 4
          have hfz16_5 := blk_frozen BK162.out 5
          have hfz16_6 := blk_frozen BK162.out 6
          go_wp2
          go_ret
          exact ⟨by first | rfl | (simp [errW_none, errW_some] <;> rfl) | (simp [*, errW_none, errW_some] <;> rfl), by repeat (first | (with_reducible first | exact HB.out | apply below_alloc | apply pw_below_drewN | apply below_drew1 | refine below_set ?_ GE162.out) | exact HB.out)⟩
      · as_aux_lemma =>
        replace c11 := Bool.eq_false_iff.mpr c11
        subst c11
        have H1 : (if a0_0 = 2 then (if a0_6 = 0 then ((impl_isSettable.f a0_3).bind fun t163 => (some t163)) else (some false)) else (if a0_0 = 9 then (if (a0_1 == 2) = true then (some (a0_6 == 0)) else (some false)) else (if a0_0 = 10 then (if (a0_1 == 2) = true then (if a0_6 = 0 then ((impl_isPlain.f a0_3).bind fun t164 => (some t164)) else (some false)) else (some false)) else (if a0_0 = 11 then (if a0_2 = 0 then (if a0_6 ≤ 3 then ((impl_isSettable.f a0_3).bind fun t165 => (some t165)) else (some false)) else (some false)) else (if a0_0 = 12 then (some (a0_3 == 0)) else (if a0_0 = 13 then (if (a0_1 == 2) = true then (if a0_2 ≤ 1 then (some (a0_3 == 7)) else (some false)) else (some false)) else (if a0_0 = 14 then (if (a0_1 == 2) = true then (if a0_2 = 0 then (if a0_6 ≤ 1 then ((impl_isPlain.f a0_3).bind fun t166 => (some t166)) else (some false)) else (some false)) else (some false)) else (if a0_0 = 15 then ((impl_isFlow.f kj1 a0_0 a0_1 a0_2 a0_3 a0_4 a0_5 a0_6).bind fun t167 => (some t167)) else (if a0_0 = 16 then (impl_isKind.j1 kj1 a0_3 (a0_1 == 2) a0_0 (a0_0 == 16) a0_0 a0_1 a0_2 a0_3 a0_4 a0_5 a0_6) else (impl_isKind.j1 kj1 a0_3 (a0_1 == 2) a0_0 (a0_0 == 17) a0_0 a0_1 a0_2 a0_3 a0_4 a0_5 a0_6)))))))))) = some r := by rw [if_neg (show ¬ (false = true) by decide)] at H; exact H
        clear H
        have H := H1
        clear H1
        by_cases c17 : a0_0 = 2
        · as_aux_lemma =>
          rw [if_pos c17] at H
          have c17b0 : (a0_0 == 2) = true := beq_iff_eq.mpr c17
          have c17b1 : (a0_0 != 2) = false := bne_eq_false_iff_eq.mpr c17
          clear c17
          by_cases c18 : a0_6 = 0
          · as_aux_lemma =>
            rw [if_pos c18] at H
            have c18b0 : (a0_6 == 0) = true := beq_iff_eq.mpr c18
            have c18b1 : (a0_6 != 0) = false := bne_eq_false_iff_eq.mpr c18
            clear c18
            replace H := Option.bind_eq_some_iff.mp H
            obtain ⟨t163, A190, H⟩ := H
            replace H : (some t163) = some r := H
            have A19 := Aside0.mk A190
            clear A190
            obtain rfl := Option.some.inj H
            have hcz20_0 : wc.cell? ⟨gb162, 0, none⟩ = some (.int .i64 a0_0) := (blk_cell BK162.out 0).trans rfl
            have hcz20_1 : wc.cell? ⟨gb162, 1, none⟩ = some (.int .i64 a0_1) := (blk_cell BK162.out 1).trans rfl
            have hcz20_2 : wc.cell? ⟨gb162, 2, none⟩ = some (.int .i64 a0_2) := (blk_cell BK162.out 2).trans rfl
            have hcz20_3 : wc.cell? ⟨gb162, 3, none⟩ = some (.int .i64 a0_3) := (blk_cell BK162.out 3).trans rfl
            have hcz20_4 : wc.cell? ⟨gb162, 4, none⟩ = some (.int .i64 a0_4) := (blk_cell BK162.out 4).trans rfl
            have hcz20_5 : wc.cell? ⟨gb162, 5, none⟩ = some (.int .i64 a0_5) := (blk_cell BK162.out 5).trans rfl
            have hcz20_6 : wc.cell? ⟨gb162, 6, none⟩ = some (.int .i64 a0_6) := (blk_cell BK162.out 6).trans rfl
            have hfz20_0 := blk_frozen BK162.out 0
            have hfz20_1 := blk_frozen BK162.out 1
            have hfz20_2 := blk_frozen BK162.out 2
            have hfz20_3 := blk_frozen BK162.out 3
            have hfz20_4 := blk_frozen BK162.out 4
            have hfz20_5 := blk_frozen BK162.out 5
            have hfz20_6 := blk_frozen BK162.out 6
            go_wp2_with (first | (go_at_call 28; (with_reducible refine (impl_isSettable.calls a0_3 t163 _ A19.out).mono ?_); rintro e w' ⟨rfl, ⟨nd, rfl⟩⟩))
            go_ret
            exact ⟨by first | rfl | (simp [errW_none, errW_some] <;> rfl) | (simp [*, errW_none, errW_some] <;> rfl), by repeat (first | (with_reducible first | exact HB.out | apply below_alloc | apply pw_below_drewN | apply below_drew1 | refine below_set ?_ GE162.out) | exact HB.out)⟩
          · as_aux_lemma =>
            rw [if_neg c18] at H
            have c18b0 : (a0_6 == 0) = false := beq_eq_false_iff_ne.mpr c18
            have c18b1 : (a0_6 != 0) = true := bne_iff_ne.mpr c18
            obtain rfl := Option.some.inj H
            have hcz21_0 : wc.cell? ⟨gb162, 0, none⟩ = some (.int .i64 a0_0) := (blk_cell BK162.out 0).trans rfl
            have hcz21_1 : wc.cell? ⟨gb162, 1, none⟩ = some (.int .i64 a0_1) := (blk_cell BK162.out 1).trans rfl
            have hcz21_2 : wc.cell? ⟨gb162, 2, none⟩ = some (.int .i64 a0_2) := (blk_cell BK162.out 2).trans rfl
            have hcz21_3 : wc.cell? ⟨gb162, 3, none⟩ = some (.int .i64 a0_3) := (blk_cell BK162.out 3).trans rfl
            have hcz21_4 : wc.cell? ⟨gb162, 4, none⟩ = some (.int .i64 a0_4) := (blk_cell BK162.out 4).trans rfl
            have hcz21_5 : wc.cell? ⟨gb162, 5, none⟩ = some (.int .i64 a0_5) := (blk_cell BK162.out 5).trans rfl
            have hcz21_6 : wc.cell? ⟨gb162, 6, none⟩ = some (.int .i64 a0_6) := (blk_cell BK162.out 6).trans rfl
            have hfz21_0 := blk_frozen BK162.out 0
            have hfz21_1 := blk_frozen BK162.out 1
            have hfz21_2 := blk_frozen BK162.out 2
            have hfz21_3 := blk_frozen BK162.out 3
            have hfz21_4 := blk_frozen BK162.out 4
            have hfz21_5 := blk_frozen BK162.out 5
            have hfz21_6 := blk_frozen BK162.out 6
            go_wp2
            go_ret
            exact ⟨by first | rfl | (simp [errW_none, errW_some] <;> rfl) | (simp [*, errW_none, errW_some] <;> rfl), by repeat (first | (with_reducible first | exact HB.out | apply below_alloc | apply pw_below_drewN | apply below_drew1 | refine below_set ?_ GE162.out) | exact HB.out)⟩
        · as_aux_lemma =>
          rw [if_neg c17] at H
          have c17b0 : (a0_0 == 2) = false := beq_eq_false_iff_ne.mpr c17
          have c17b1 : (a0_0 != 2) = true := bne_iff_ne.mpr c17
          by_cases c22 : a0_0 = 9
          · as_aux_lemma =>
            rw [if_pos c22] at H
            have c22b0 : (a0_0 == 9) = true := beq_iff_eq.mpr c22
            have c22b1 : (a0_0 != 9) = false := bne_eq_false_iff_eq.mpr c22
            clear c22
            by_cases c23 : (a0_1 == 2) = true
            · as_aux_lemma =>
              rw [if_pos c23] at H
              have c23b0 : (a0_1 == 2) = true := c23
              (try (have c23b1 : decide (a0_1 = 2) = true := by simpa using c23))
              (try (have c23b2 : (a0_1 == 2) = true := by simpa using c23))
              clear c23
              obtain rfl := Option.some.inj H
              have hcz24_0 : wc.cell? ⟨gb162, 0, none⟩ = some (.int .i64 a0_0) := (blk_cell BK162.out 0).trans rfl
              have hcz24_1 : wc.cell? ⟨gb162, 1, none⟩ = some (.int .i64 a0_1) := (blk_cell BK162.out 1).trans rfl
              have hcz24_2 : wc.cell? ⟨gb162, 2, none⟩ = some (.int .i64 a0_2) := (blk_cell BK162.out 2).trans rfl
              have hcz24_3 : wc.cell? ⟨gb162, 3, none⟩ = some (.int .i64 a0_3) := (blk_cell BK162.out 3).trans rfl
              have hcz24_4 : wc.cell? ⟨gb162, 4, none⟩ = some (.int .i64 a0_4) := (blk_cell BK162.out 4).trans rfl
              have hcz24_5 : wc.cell? ⟨gb162, 5, none⟩ = some (.int .i64 a0_5) := (blk_cell BK162.out 5).trans rfl
              have hcz24_6 : wc.cell? ⟨gb162, 6, none⟩ = some (.int .i64 a0_6) := (blk_cell BK162.out 6).trans rfl
              have hfz24_0 := blk_frozen BK162.out 0
              have hfz24_1 := blk_frozen BK162.out 1
              have hfz24_2 := blk_frozen BK162.out 2
              have hfz24_3 := blk_frozen BK162.out 3
              have hfz24_4 := blk_frozen BK162.out 4
              have hfz24_5 := blk_frozen BK162.out 5
              have hfz24_6 := blk_frozen BK162.out 6
              go_wp2
              go_ret
              exact ⟨by first | rfl | (simp [errW_none, errW_some] <;> rfl) | (simp [*, errW_none, errW_some] <;> rfl), by repeat (first | (with_reducible first | exact HB.out | apply below_alloc | apply pw_below_drewN | apply below_drew1 | refine below_set ?_ GE162.out) | exact HB.out)⟩
            · as_aux_lemma =>
              rw [if_neg c23] at H
              have c23b0 : (a0_1 == 2) = false := by simpa using c23
              (try (have c23b1 : decide (a0_1 = 2) = false := by simpa using c23))
              (try (have c23b2 : (a0_1 == 2) = false := by simpa using c23))
              (try (have c23b3 : ¬ (a0_1 = 2) := by simpa using c23))
              clear c23
              obtain rfl := Option.some.inj H
              go_wp2
              go_ret
              exact ⟨by first | rfl | (simp [errW_none, errW_some] <;> rfl) | (simp [*, errW_none, errW_some] <;> rfl), by repeat (first | (with_reducible first | exact HB.out | apply below_alloc | apply pw_below_drewN | apply below_drew1 | refine below_set ?_ GE162.out) | exact HB.out)⟩
          · as_aux_lemma =>
            rw [if_neg c22] at H
            have c22b0 : (a0_0 == 9) = false := beq_eq_false_iff_ne.mpr c22
            have c22b1 : (a0_0 != 9) = true := bne_iff_ne.mpr c22
            by_cases c25 : a0_0 = 10
            · as_aux_lemma =>
              rw [if_pos c25] at H
              have c25b0 : (a0_0 == 10) = true := beq_iff_eq.mpr c25
              have c25b1 : (a0_0 != 10) = false := bne_eq_false_iff_eq.mpr c25
              clear c25
              by_cases c26 : (a0_1 == 2) = true
              · as_aux_lemma =>
                rw [if_pos c26] at H
                have c26b0 : (a0_1 == 2) = true := c26
                (try (have c26b1 : decide (a0_1 = 2) = true := by simpa using c26))
                (try (have c26b2 : (a0_1 == 2) = true := by simpa using c26))
                clear c26
                by_cases c27 : a0_6 = 0
                · as_aux_lemma =>
                  rw [if_pos c27] at H
                  have c27b0 : (a0_6 == 0) = true := beq_iff_eq.mpr c27
                  have c27b1 : (a0_6 != 0) = false := bne_eq_false_iff_eq.mpr c27
                  clear c27
                  replace H := Option.bind_eq_some_iff.mp H
                  obtain ⟨t164, A280, H⟩ := H
                  replace H : (some t164) = some r := H
                  have A28 := Aside0.mk A280
                  clear A280
                  obtain rfl := Option.some.inj H
                  have hcz29_0 : wc.cell? ⟨gb162, 0, none⟩ = some (.int .i64 a0_0) := (blk_cell BK162.out 0).trans rfl
                  have hcz29_1 : wc.cell? ⟨gb162, 1, none⟩ = some (.int .i64 a0_1) := (blk_cell BK162.out 1).trans rfl
                  have hcz29_2 : wc.cell? ⟨gb162, 2, none⟩ = some (.int .i64 a0_2) := (blk_cell BK162.out 2).trans rfl
                  have hcz29_3 : wc.cell? ⟨gb162, 3, none⟩ = some (.int .i64 a0_3) := (blk_cell BK162.out 3).trans rfl
                  have hcz29_4 : wc.cell? ⟨gb162, 4, none⟩ = some (.int .i64 a0_4) := (blk_cell BK162.out 4).trans rfl
                  have hcz29_5 : wc.cell? ⟨gb162, 5, none⟩ = some (.int .i64 a0_5) := (blk_cell BK162.out 5).trans rfl
                  have hcz29_6 : wc.cell? ⟨gb162, 6, none⟩ = some (.int .i64 a0_6) := (blk_cell BK162.out 6).trans rfl
                  have hfz29_0 := blk_frozen BK162.out 0
                  have hfz29_1 := blk_frozen BK162.out 1
                  have hfz29_2 := blk_frozen BK162.out 2
                  have hfz29_3 := blk_frozen BK162.out 3
                  have hfz29_4 := blk_frozen BK162.out 4
                  have hfz29_5 := blk_frozen BK162.out 5
                  have hfz29_6 := blk_frozen BK162.out 6
                  go_wp2_with (first | (go_at_call 29; (with_reducible refine (impl_isPlain.calls a0_3 t164 _ A28.out).mono ?_); rintro e w' ⟨rfl, ⟨nd, rfl⟩⟩))
                  go_ret
                  exact ⟨by first | rfl | (simp [errW_none, errW_some] <;> rfl) | (simp [*, errW_none, errW_some] <;> rfl), by repeat (first | (with_reducible first | exact HB.out | apply below_alloc | apply pw_below_drewN | apply below_drew1 | refine below_set ?_ GE162.out) | exact HB.out)⟩
                · as_aux_lemma =>
                  rw [if_neg c27] at H
                  have c27b0 : (a0_6 == 0) = false := beq_eq_false_iff_ne.mpr c27
                  have c27b1 : (a0_6 != 0) = true := bne_iff_ne.mpr c27
                  obtain rfl := Option.some.inj H
                  have hcz30_0 : wc.cell? ⟨gb162, 0, none⟩ = some (.int .i64 a0_0) := (blk_cell BK162.out 0).trans rfl
                  have hcz30_1 : wc.cell? ⟨gb162, 1, none⟩ = some (.int .i64 a0_1) := (blk_cell BK162.out 1).trans rfl
                  have hcz30_2 : wc.cell? ⟨gb162, 2, none⟩ = some (.int .i64 a0_2) := (blk_cell BK162.out 2).trans rfl
                  have hcz30_3 : wc.cell? ⟨gb162, 3, none⟩ = some (.int .i64 a0_3) := (blk_cell BK162.out 3).trans rfl
                  have hcz30_4 : wc.cell? ⟨gb162, 4, none⟩ = some (.int .i64 a0_4) := (blk_cell BK162.out 4).trans rfl
                  have hcz30_5 : wc.cell? ⟨gb162, 5, none⟩ = some (.int .i64 a0_5) := (blk_cell BK162.out 5).trans rfl
                  have hcz30_6 : wc.cell? ⟨gb162, 6, none⟩ = some (.int .i64 a0_6) := (blk_cell BK162.out 6).trans rfl
                  have hfz30_0 := blk_frozen BK162.out 0
                  have hfz30_1 := blk_frozen BK162.out 1
                  have hfz30_2 := blk_frozen BK162.out 2
                  have hfz30_3 := blk_frozen BK162.out 3
                  have hfz30_4 := blk_frozen BK162.out 4
                  have hfz30_5 := blk_frozen BK162.out 5
                  have hfz30_6 := blk_frozen BK162.out 6
                  go_wp2
                  go_ret
                  exact ⟨by first | rfl | (simp [errW_none, errW_some] <;> rfl) | (simp [*, errW_none, errW_some] <;> rfl), by repeat (first | (with_reducible first | exact HB.out | apply below_alloc | apply pw_below_drewN | apply below_drew1 | refine below_set ?_ GE162.out) | exact HB.out)⟩
              · as_aux_lemma =>
                rw [if_neg c26] at H
                have c26b0 : (a0_1 == 2) = false := by simpa using c26
                (try (have c26b1 : decide (a0_1 = 2) = false := by simpa using c26))
                (try (have c26b2 : (a0_1 == 2) = false := by simpa using c26))
                (try (have c26b3 : ¬ (a0_1 = 2) := by simpa using c26))
                clear c26
                obtain rfl := Option.some.inj H
                go_wp2
                go_ret
                exact ⟨by first | rfl | (simp [errW_none, errW_some] <;> rfl) | (simp [*, errW_none, errW_some] <;> rfl), by repeat (first | (with_reducible first | exact HB.out | apply below_alloc | apply pw_below_drewN | apply below_drew1 | refine below_set ?_ GE162.out) | exact HB.out)⟩
            · as_aux_lemma =>
              rw [if_neg c25] at H
              have c25b0 : (a0_0 == 10) = false := beq_eq_false_iff_ne.mpr c25
              have c25b1 : (a0_0 != 10) = true := bne_iff_ne.mpr c25
              by_cases c31 : a0_0 = 11
              · as_aux_lemma =>
                rw [if_pos c31] at H
                have c31b0 : (a0_0 == 11) = true := beq_iff_eq.mpr c31
                have c31b1 : (a0_0 != 11) = false := bne_eq_false_iff_eq.mpr c31
                clear c31
                by_cases c32 : a0_2 = 0
                · as_aux_lemma =>
                  rw [if_pos c32] at H
                  have c32b0 : (a0_2 == 0) = true := beq_iff_eq.mpr c32
                  have c32b1 : (a0_2 != 0) = false := bne_eq_false_iff_eq.mpr c32
                  clear c32
                  by_cases c33 : a0_6 ≤ 3
                  · as_aux_lemma =>
                    rw [if_pos c33] at H
                    have c33b0 : decide (a0_6 ≤ 3) = true := decide_eq_true c33
                    clear c33
                    replace H := Option.bind_eq_some_iff.mp H
                    obtain ⟨t165, A340, H⟩ := H
                    replace H : (some t165) = some r := H
                    have A34 := Aside0.mk A340
                    clear A340
                    obtain rfl := Option.some.inj H
                    have hcz35_0 : wc.cell? ⟨gb162, 0, none⟩ = some (.int .i64 a0_0) := (blk_cell BK162.out 0).trans rfl
                    have hcz35_1 : wc.cell? ⟨gb162, 1, none⟩ = some (.int .i64 a0_1) := (blk_cell BK162.out 1).trans rfl
                    have hcz35_2 : wc.cell? ⟨gb162, 2, none⟩ = some (.int .i64 a0_2) := (blk_cell BK162.out 2).trans rfl
                    have hcz35_3 : wc.cell? ⟨gb162, 3, none⟩ = some (.int .i64 a0_3) := (blk_cell BK162.out 3).trans rfl
                    have hcz35_4 : wc.cell? ⟨gb162, 4, none⟩ = some (.int .i64 a0_4) := (blk_cell BK162.out 4).trans rfl
                    have hcz35_5 : wc.cell? ⟨gb162, 5, none⟩ = some (.int .i64 a0_5) := (blk_cell BK162.out 5).trans rfl
                    have hcz35_6 : wc.cell? ⟨gb162, 6, none⟩ = some (.int .i64 a0_6) := (blk_cell BK162.out 6).trans rfl
                    have hfz35_0 := blk_frozen BK162.out 0
                    have hfz35_1 := blk_frozen BK162.out 1
                    have hfz35_2 := blk_frozen BK162.out 2
                    have hfz35_3 := blk_frozen BK162.out 3
                    have hfz35_4 := blk_frozen BK162.out 4
                    have hfz35_5 := blk_frozen BK162.out 5
                    have hfz35_6 := blk_frozen BK162.out 6
                    go_wp2_with (first | (go_at_call 28; (with_reducible refine (impl_isSettable.calls a0_3 t165 _ A34.out).mono ?_); rintro e w' ⟨rfl, ⟨nd, rfl⟩⟩))
                    go_ret
                    exact ⟨by first | rfl | (simp [errW_none, errW_some] <;> rfl) | (simp [*, errW_none, errW_some] <;> rfl), by repeat (first | (with_reducible first | exact HB.out | apply below_alloc | apply pw_below_drewN | apply below_drew1 | refine below_set ?_ GE162.out) | exact HB.out)⟩
                  · as_aux_lemma =>
                    rw [if_neg c33] at H
                    have c33b0 : decide (a0_6 ≤ 3) = false := decide_eq_false c33
                    clear c33
                    obtain rfl := Option.some.inj H
                    have hcz36_0 : wc.cell? ⟨gb162, 0, none⟩ = some (.int .i64 a0_0) := (blk_cell BK162.out 0).trans rfl
                    have hcz36_1 : wc.cell? ⟨gb162, 1, none⟩ = some (.int .i64 a0_1) := (blk_cell BK162.out 1).trans rfl
                    have hcz36_2 : wc.cell? ⟨gb162, 2, none⟩ = some (.int .i64 a0_2) := (blk_cell BK162.out 2).trans rfl
                    have hcz36_3 : wc.cell? ⟨gb162, 3, none⟩ = some (.int .i64 a0_3) := (blk_cell BK162.out 3).trans rfl
                    have hcz36_4 : wc.cell? ⟨gb162, 4, none⟩ = some (.int .i64 a0_4) := (blk_cell BK162.out 4).trans rfl
                    have hcz36_5 : wc.cell? ⟨gb162, 5, none⟩ = some (.int .i64 a0_5) := (blk_cell BK162.out 5).trans rfl
                    have hcz36_6 : wc.cell? ⟨gb162, 6, none⟩ = some (.int .i64 a0_6) := (blk_cell BK162.out 6).trans rfl
                    have hfz36_0 := blk_frozen BK162.out 0
                    have hfz36_1 := blk_frozen BK162.out 1
                    have hfz36_2 := blk_frozen BK162.out 2
                    have hfz36_3 := blk_frozen BK162.out 3
                    have hfz36_4 := blk_frozen BK162.out 4
                    have hfz36_5 := blk_frozen BK162.out 5
                    have hfz36_6 := blk_frozen BK162.out 6
                    go_wp2
                    go_ret
                    exact ⟨by first | rfl | (simp [errW_none, errW_some] <;> rfl) | (simp [*, errW_none, errW_some] <;> rfl), by repeat (first | (with_reducible first | exact HB.out | apply below_alloc | apply pw_below_drewN | apply below_drew1 | refine below_set ?_ GE162.out) | exact HB.out)⟩
                · as_aux_lemma =>
                  rw [if_neg c32] at H
                  have c32b0 : (a0_2 == 0) = false := beq_eq_false_iff_ne.mpr c32
                  have c32b1 : (a0_2 != 0) = true := bne_iff_ne.mpr c32
                  obtain rfl := Option.some.inj H
                  have hcz37_0 : wc.cell? ⟨gb162, 0, none⟩ = some (.int .i64 a0_0) := (blk_cell BK162.out 0).trans rfl
                  have hcz37_1 : wc.cell? ⟨gb162, 1, none⟩ = some (.int .i64 a0_1) := (blk_cell BK162.out 1).trans rfl
                  have hcz37_2 : wc.cell? ⟨gb162, 2, none⟩ = some (.int .i64 a0_2) := (blk_cell BK162.out 2).trans rfl
                  have hcz37_3 : wc.cell? ⟨gb162, 3, none⟩ = some (.int .i64 a0_3) := (blk_cell BK162.out 3).trans rfl
                  have hcz37_4 : wc.cell? ⟨gb162, 4, none⟩ = some (.int .i64 a0_4) := (blk_cell BK162.out 4).trans rfl
                  have hcz37_5 : wc.cell? ⟨gb162, 5, none⟩ = some (.int .i64 a0_5) := (blk_cell BK162.out 5).trans rfl
                  have hcz37_6 : wc.cell? ⟨gb162, 6, none⟩ = some (.int .i64 a0_6) := (blk_cell BK162.out 6).trans rfl
                  have hfz37_0 := blk_frozen BK162.out 0
                  have hfz37_1 := blk_frozen BK162.out 1
                  have hfz37_2 := blk_frozen BK162.out 2
                  have hfz37_3 := blk_frozen BK162.out 3
                  have hfz37_4 := blk_frozen BK162.out 4
                  have hfz37_5 := blk_frozen BK162.out 5
                  have hfz37_6 := blk_frozen BK162.out 6
                  go_wp2
                  go_ret
                  exact ⟨by first | rfl | (simp [errW_none, errW_some] <;> rfl) | (simp [*, errW_none, errW_some] <;> rfl), by repeat (first | (with_reducible first | exact HB.out | apply below_alloc | apply pw_below_drewN | apply below_drew1 | refine below_set ?_ GE162.out) | exact HB.out)⟩
              · as_aux_lemma =>
                rw [if_neg c31] at H
                have c31b0 : (a0_0 == 11) = false := beq_eq_false_iff_ne.mpr c31
                have c31b1 : (a0_0 != 11) = true := bne_iff_ne.mpr c31
                by_cases c38 : a0_0 = 12
                · as_aux_lemma =>
                  rw [if_pos c38] at H
                  have c38b0 : (a0_0 == 12) = true := beq_iff_eq.mpr c38
                  have c38b1 : (a0_0 != 12) = false := bne_eq_false_iff_eq.mpr c38
                  clear c38
                  obtain rfl := Option.some.inj H
                  go_wp2
                  go_ret
                  exact ⟨by first | rfl | (simp [errW_none, errW_some] <;> rfl) | (simp [*, errW_none, errW_some] <;> rfl), by repeat (first | (with_reducible first | exact HB.out | apply below_alloc | apply pw_below_drewN | apply below_drew1 | refine below_set ?_ GE162.out) | exact HB.out)⟩
                · as_aux_lemma =>
                  rw [if_neg c38] at H
                  have c38b0 : (a0_0 == 12) = false := beq_eq_false_iff_ne.mpr c38
                  have c38b1 : (a0_0 != 12) = true := bne_iff_ne.mpr c38
                  by_cases c39 : a0_0 = 13
                  · as_aux_lemma =>
                    rw [if_pos c39] at H
                    have c39b0 : (a0_0 == 13) = true := beq_iff_eq.mpr c39
                    have c39b1 : (a0_0 != 13) = false := bne_eq_false_iff_eq.mpr c39
                    clear c39
                    by_cases c40 : (a0_1 == 2) = true
                    · as_aux_lemma =>
                      rw [if_pos c40] at H
                      have c40b0 : (a0_1 == 2) = true := c40
                      (try (have c40b1 : decide (a0_1 = 2) = true := by simpa using c40))
                      (try (have c40b2 : (a0_1 == 2) = true := by simpa using c40))
                      clear c40
                      by_cases c41 : a0_2 ≤ 1
                      · as_aux_lemma =>
                        rw [if_pos c41] at H
                        have c41b0 : decide (a0_2 ≤ 1) = true := decide_eq_true c41
                        clear c41
                        obtain rfl := Option.some.inj H
                        have hcz42_0 : wc.cell? ⟨gb162, 0, none⟩ = some (.int .i64 a0_0) := (blk_cell BK162.out 0).trans rfl
                        have hcz42_1 : wc.cell? ⟨gb162, 1, none⟩ = some (.int .i64 a0_1) := (blk_cell BK162.out 1).trans rfl
                        have hcz42_2 : wc.cell? ⟨gb162, 2, none⟩ = some (.int .i64 a0_2) := (blk_cell BK162.out 2).trans rfl
                        have hcz42_3 : wc.cell? ⟨gb162, 3, none⟩ = some (.int .i64 a0_3) := (blk_cell BK162.out 3).trans rfl
                        have hcz42_4 : wc.cell? ⟨gb162, 4, none⟩ = some (.int .i64 a0_4) := (blk_cell BK162.out 4).trans rfl
                        have hcz42_5 : wc.cell? ⟨gb162, 5, none⟩ = some (.int .i64 a0_5) := (blk_cell BK162.out 5).trans rfl
                        have hcz42_6 : wc.cell? ⟨gb162, 6, none⟩ = some (.int .i64 a0_6) := (blk_cell BK162.out 6).trans rfl
                        have hfz42_0 := blk_frozen BK162.out 0
                        have hfz42_1 := blk_frozen BK162.out 1
                        have hfz42_2 := blk_frozen BK162.out 2
                        have hfz42_3 := blk_frozen BK162.out 3
                        have hfz42_4 := blk_frozen BK162.out 4
                        have hfz42_5 := blk_frozen BK162.out 5
                        have hfz42_6 := blk_frozen BK162.out 6
                        go_wp2
                        go_ret
                        exact ⟨by first | rfl | (simp [errW_none, errW_some] <;> rfl) | (simp [*, errW_none, errW_some] <;> rfl), by repeat (first | (with_reducible first | exact HB.out | apply below_alloc | apply pw_below_drewN | apply below_drew1 | refine below_set ?_ GE162.out) | exact HB.out)⟩
                      · as_aux_lemma =>
                        rw [if_neg c41] at H
                        have c41b0 : decide (a0_2 ≤ 1) = false := decide_eq_false c41
                        clear c41
                        obtain rfl := Option.some.inj H
                        have hcz43_0 : wc.cell? ⟨gb162, 0, none⟩ = some (.int .i64 a0_0) := (blk_cell BK162.out 0).trans rfl
                        have hcz43_1 : wc.cell? ⟨gb162, 1, none⟩ = some (.int .i64 a0_1) := (blk_cell BK162.out 1).trans rfl
                        have hcz43_2 : wc.cell? ⟨gb162, 2, none⟩ = some (.int .i64 a0_2) := (blk_cell BK162.out 2).trans rfl
                        have hcz43_3 : wc.cell? ⟨gb162, 3, none⟩ = some (.int .i64 a0_3) := (blk_cell BK162.out 3).trans rfl
                        have hcz43_4 : wc.cell? ⟨gb162, 4, none⟩ = some (.int .i64 a0_4) := (blk_cell BK162.out 4).trans rfl
                        have hcz43_5 : wc.cell? ⟨gb162, 5, none⟩ = some (.int .i64 a0_5) := (blk_cell BK162.out 5).trans rfl
                        have hcz43_6 : wc.cell? ⟨gb162, 6, none⟩ = some (.int .i64 a0_6) := (blk_cell BK162.out 6).trans rfl
                        have hfz43_0 := blk_frozen BK162.out 0
                        have hfz43_1 := blk_frozen BK162.out 1
                        have hfz43_2 := blk_frozen BK162.out 2
                        have hfz43_3 := blk_frozen BK162.out 3
                        have hfz43_4 := blk_frozen BK162.out 4
                        have hfz43_5 := blk_frozen BK162.out 5
                        have hfz43_6 := blk_frozen BK162.out 6
                        go_wp2
                        go_ret
                        exact ⟨by first | rfl | (simp [errW_none, errW_some] <;> rfl) | (simp [*, errW_none, errW_some] <;> rfl), by repeat (first | (with_reducible first | exact HB.out | apply below_alloc | apply pw_below_drewN | apply below_drew1 | refine below_set ?_ GE162.out) | exact HB.out)⟩
                    · as_aux_lemma =>
                      rw [if_neg c40] at H
                      have c40b0 : (a0_1 == 2) = false := by simpa using c40
                      (try (have c40b1 : decide (a0_1 = 2) = false := by simpa using c40))
                      (try (have c40b2 : (a0_1 == 2) = false := by simpa using c40))
                      (try (have c40b3 : ¬ (a0_1 = 2) := by simpa using c40))
                      clear c40
                      obtain rfl := Option.some.inj H
                      go_wp2
                      go_ret
                      exact ⟨by first | rfl | (simp [errW_none, errW_some] <;> rfl) | (simp [*, errW_none, errW_some] <;> rfl), by repeat (first | (with_reducible first | exact HB.out | apply below_alloc | apply pw_below_drewN | apply below_drew1 | refine below_set ?_ GE162.out) | exact HB.out)⟩
                  · as_aux_lemma =>
                    rw [if_neg c39] at H
                    have c39b0 : (a0_0 == 13) = false := beq_eq_false_iff_ne.mpr c39
                    have c39b1 : (a0_0 != 13) = true := bne_iff_ne.mpr c39
                    by_cases c44 : a0_0 = 14
                    · as_aux_lemma =>
                      rw [if_pos c44] at H
                      have c44b0 : (a0_0 == 14) = true := beq_iff_eq.mpr c44
                      have c44b1 : (a0_0 != 14) = false := bne_eq_false_iff_eq.mpr c44
                      clear c44
                      by_cases c45 : (a0_1 == 2) = true
                      · as_aux_lemma =>
                        rw [if_pos c45] at H
                        have c45b0 : (a0_1 == 2) = true := c45
                        (try (have c45b1 : decide (a0_1 = 2) = true := by simpa using c45))
                        (try (have c45b2 : (a0_1 == 2) = true := by simpa using c45))
                        clear c45
                        by_cases c46 : a0_2 = 0
                        · as_aux_lemma =>
                          rw [if_pos c46] at H
                          have c46b0 : (a0_2 == 0) = true := beq_iff_eq.mpr c46
                          have c46b1 : (a0_2 != 0) = false := bne_eq_false_iff_eq.mpr c46
                          clear c46
                          by_cases c47 : a0_6 ≤ 1
                          · as_aux_lemma =>
                            rw [if_pos c47] at H
                            have c47b0 : decide (a0_6 ≤ 1) = true := decide_eq_true c47
                            clear c47
                            replace H := Option.bind_eq_some_iff.mp H
                            obtain ⟨t166, A480, H⟩ := H
                            replace H : (some t166) = some r := H
                            have A48 := Aside0.mk A480
                            clear A480
                            obtain rfl := Option.some.inj H
                            have hcz49_0 : wc.cell? ⟨gb162, 0, none⟩ = some (.int .i64 a0_0) := (blk_cell BK162.out 0).trans rfl
                            have hcz49_1 : wc.cell? ⟨gb162, 1, none⟩ = some (.int .i64 a0_1) := (blk_cell BK162.out 1).trans rfl
                            have hcz49_2 : wc.cell? ⟨gb162, 2, none⟩ = some (.int .i64 a0_2) := (blk_cell BK162.out 2).trans rfl
                            have hcz49_3 : wc.cell? ⟨gb162, 3, none⟩ = some (.int .i64 a0_3) := (blk_cell BK162.out 3).trans rfl
                            have hcz49_4 : wc.cell? ⟨gb162, 4, none⟩ = some (.int .i64 a0_4) := (blk_cell BK162.out 4).trans rfl
                            have hcz49_5 : wc.cell? ⟨gb162, 5, none⟩ = some (.int .i64 a0_5) := (blk_cell BK162.out 5).trans rfl
                            have hcz49_6 : wc.cell? ⟨gb162, 6, none⟩ = some (.int .i64 a0_6) := (blk_cell BK162.out 6).trans rfl
                            have hfz49_0 := blk_frozen BK162.out 0
                            have hfz49_1 := blk_frozen BK162.out 1
                            have hfz49_2 := blk_frozen BK162.out 2
                            have hfz49_3 := blk_frozen BK162.out 3
                            have hfz49_4 := blk_frozen BK162.out 4
                            have hfz49_5 := blk_frozen BK162.out 5
                            have hfz49_6 := blk_frozen BK162.out 6
                            go_wp2_with (first | (go_at_call 29; (with_reducible refine (impl_isPlain.calls a0_3 t166 _ A48.out).mono ?_); rintro e w' ⟨rfl, ⟨nd, rfl⟩⟩))
                            go_ret
                            exact ⟨by first | rfl | (simp [errW_none, errW_some] <;> rfl) | (simp [*, errW_none, errW_some] <;> rfl), by repeat (first | (with_reducible first | exact HB.out | apply below_alloc | apply pw_below_drewN | apply below_drew1 | refine below_set ?_ GE162.out) | exact HB.out)⟩
                          · as_aux_lemma =>
                            rw [if_neg c47] at H
                            have c47b0 : decide (a0_6 ≤ 1) = false := decide_eq_false c47
                            clear c47
                            obtain rfl := Option.some.inj H
                            have hcz50_0 : wc.cell? ⟨gb162, 0, none⟩ = some (.int .i64 a0_0) := (blk_cell BK162.out 0).trans rfl
                            have hcz50_1 : wc.cell? ⟨gb162, 1, none⟩ = some (.int .i64 a0_1) := (blk_cell BK162.out 1).trans rfl
                            have hcz50_2 : wc.cell? ⟨gb162, 2, none⟩ = some (.int .i64 a0_2) := (blk_cell BK162.out 2).trans rfl
                            have hcz50_3 : wc.cell? ⟨gb162, 3, none⟩ = some (.int .i64 a0_3) := (blk_cell BK162.out 3).trans rfl
                            have hcz50_4 : wc.cell? ⟨gb162, 4, none⟩ = some (.int .i64 a0_4) := (blk_cell BK162.out 4).trans rfl
                            have hcz50_5 : wc.cell? ⟨gb162, 5, none⟩ = some (.int .i64 a0_5) := (blk_cell BK162.out 5).trans rfl
                            have hcz50_6 : wc.cell? ⟨gb162, 6, none⟩ = some (.int .i64 a0_6) := (blk_cell BK162.out 6).trans rfl
                            have hfz50_0 := blk_frozen BK162.out 0
                            have hfz50_1 := blk_frozen BK162.out 1
                            have hfz50_2 := blk_frozen BK162.out 2
                            have hfz50_3 := blk_frozen BK162.out 3
                            have hfz50_4 := blk_frozen BK162.out 4
                            have hfz50_5 := blk_frozen BK162.out 5
                            have hfz50_6 := blk_frozen BK162.out 6
                            go_wp2
                            go_ret
                            exact ⟨by first | rfl | (simp [errW_none, errW_some] <;> rfl) | (simp [*, errW_none, errW_some] <;> rfl), by repeat (first | (with_reducible first | exact HB.out | apply below_alloc | apply pw_below_drewN | apply below_drew1 | refine below_set ?_ GE162.out) | exact HB.out)⟩
                        · as_aux_lemma =>
                          rw [if_neg c46] at H
                          have c46b0 : (a0_2 == 0) = false := beq_eq_false_iff_ne.mpr c46
                          have c46b1 : (a0_2 != 0) = true := bne_iff_ne.mpr c46
                          obtain rfl := Option.some.inj H
                          have hcz51_0 : wc.cell? ⟨gb162, 0, none⟩ = some (.int .i64 a0_0) := (blk_cell BK162.out 0).trans rfl
                          have hcz51_1 : wc.cell? ⟨gb162, 1, none⟩ = some (.int .i64 a0_1) := (blk_cell BK162.out 1).trans rfl
                          have hcz51_2 : wc.cell? ⟨gb162, 2, none⟩ = some (.int .i64 a0_2) := (blk_cell BK162.out 2).trans rfl
                          have hcz51_3 : wc.cell? ⟨gb162, 3, none⟩ = some (.int .i64 a0_3) := (blk_cell BK162.out 3).trans rfl
                          have hcz51_4 : wc.cell? ⟨gb162, 4, none⟩ = some (.int .i64 a0_4) := (blk_cell BK162.out 4).trans rfl
                          have hcz51_5 : wc.cell? ⟨gb162, 5, none⟩ = some (.int .i64 a0_5) := (blk_cell BK162.out 5).trans rfl
                          have hcz51_6 : wc.cell? ⟨gb162, 6, none⟩ = some (.int .i64 a0_6) := (blk_cell BK162.out 6).trans rfl
                          have hfz51_0 := blk_frozen BK162.out 0
                          have hfz51_1 := blk_frozen BK162.out 1
                          have hfz51_2 := blk_frozen BK162.out 2
                          have hfz51_3 := blk_frozen BK162.out 3
                          have hfz51_4 := blk_frozen BK162.out 4
                          have hfz51_5 := blk_frozen BK162.out 5
                          have hfz51_6 := blk_frozen BK162.out 6
                          go_wp2
                          go_ret
                          exact ⟨by first | rfl | (simp [errW_none, errW_some] <;> rfl) | (simp [*, errW_none, errW_some] <;> rfl), by repeat (first | (with_reducible first | exact HB.out | apply below_alloc | apply pw_below_drewN | apply below_drew1 | refine below_set ?_ GE162.out) | exact HB.out)⟩
                      · as_aux_lemma =>
                        rw [if_neg c45] at H
                        have c45b0 : (a0_1 == 2) = false := by simpa using c45
                        (try (have c45b1 : decide (a0_1 = 2) = false := by simpa using c45))
                        (try (have c45b2 : (a0_1 == 2) = false := by simpa using c45))
                        (try (have c45b3 : ¬ (a0_1 = 2) := by simpa using c45))
                        clear c45
                        obtain rfl := Option.some.inj H
                        go_wp2
                        go_ret
                        exact ⟨by first | rfl | (simp [errW_none, errW_some] <;> rfl) | (simp [*, errW_none, errW_some] <;> rfl), by repeat (first | (with_reducible first | exact HB.out | apply below_alloc | apply pw_below_drewN | apply below_drew1 | refine below_set ?_ GE162.out) | exact HB.out)⟩
                    · as_aux_lemma =>
                      rw [if_neg c44] at H
                      have c44b0 : (a0_0 == 14) = false := beq_eq_false_iff_ne.mpr c44
                      have c44b1 : (a0_0 != 14) = true := bne_iff_ne.mpr c44
                      by_cases c52 : a0_0 = 15
                      · as_aux_lemma =>
                        rw [if_pos c52] at H
                        have c52b0 : (a0_0 == 15) = true := beq_iff_eq.mpr c52
                        have c52b1 : (a0_0 != 15) = false := bne_eq_false_iff_eq.mpr c52
                        clear c52
                        replace H := Option.bind_eq_some_iff.mp H
                        obtain ⟨t167, A530, H⟩ := H
                        replace H : (some t167) = some r := H
                        have A53 := Aside0.mk A530
                        clear A530
                        obtain rfl := Option.some.inj H
                        have hcz54_0 : wc.cell? ⟨gb162, 0, none⟩ = some (.int .i64 a0_0) := (blk_cell BK162.out 0).trans rfl
                        have hcz54_1 : wc.cell? ⟨gb162, 1, none⟩ = some (.int .i64 a0_1) := (blk_cell BK162.out 1).trans rfl
                        have hcz54_2 : wc.cell? ⟨gb162, 2, none⟩ = some (.int .i64 a0_2) := (blk_cell BK162.out 2).trans rfl
                        have hcz54_3 : wc.cell? ⟨gb162, 3, none⟩ = some (.int .i64 a0_3) := (blk_cell BK162.out 3).trans rfl
                        have hcz54_4 : wc.cell? ⟨gb162, 4, none⟩ = some (.int .i64 a0_4) := (blk_cell BK162.out 4).trans rfl
                        have hcz54_5 : wc.cell? ⟨gb162, 5, none⟩ = some (.int .i64 a0_5) := (blk_cell BK162.out 5).trans rfl
                        have hcz54_6 : wc.cell? ⟨gb162, 6, none⟩ = some (.int .i64 a0_6) := (blk_cell BK162.out 6).trans rfl
                        have hfz54_0 := blk_frozen BK162.out 0
                        have hfz54_1 := blk_frozen BK162.out 1
                        have hfz54_2 := blk_frozen BK162.out 2
                        have hfz54_3 := blk_frozen BK162.out 3
                        have hfz54_4 := blk_frozen BK162.out 4
                        have hfz54_5 := blk_frozen BK162.out 5
                        have hfz54_6 := blk_frozen BK162.out 6
                        go_wp2_with (first | ((with_reducible refine gate_callee (f := 30) rfl ?_); refine goesL_ (some 110) rfl rfl Tryd.func30 (by kernel_rfl) rfl #[.agg #[.int .i64 a0_0, .int .i64 a0_1, .int .i64 a0_2, .int .i64 a0_3, .int .i64 a0_4, .int .i64 a0_5, .int .i64 a0_6]] rfl (by (try simp only [List.map_toArray, List.map_cons, List.map_nil]); first | done | rfl | (simp only [List.length_drop, List.length_take]; rfl)) ?_; (with_reducible refine (impl_isFlow.calls kj1 a0_0 a0_1 a0_2 a0_3 a0_4 a0_5 a0_6 t167 _ A53.out).mono ?_); rintro e w55 ⟨rfl, hb⟩; refine ⟨_, rfl, ?_⟩; have n0_ := Aside0.mk (blk_below (g := gb162) (o := .cells #[.int .i64 a0_0, .int .i64 a0_1, .int .i64 a0_2, .int .i64 a0_3, .int .i64 a0_4, .int .i64 a0_5, .int .i64 a0_6] 30 (0, 0)) (by (with_reducible repeat (first | refine blk_drewN ?_ _ | refine blk_drew ?_ | refine blk_alloc ?_ _)); exact BK162.out) hb); have n1_ := Aside0.mk (below_step (by repeat (first | (with_reducible first | exact HB.out | apply below_alloc | apply pw_below_drewN | apply below_drew1 | refine below_set ?_ GE162.out) | exact HB.out)) hb); clear BK162; clear HB; have BK162 := n0_; have HB := n1_; clear n0_ n1_; (try clear hb); (try clear hb2); (try clear hk); (try clear hi)))
                        go_ret
                        exact ⟨by first | rfl | (simp [errW_none, errW_some] <;> rfl) | (simp [*, errW_none, errW_some] <;> rfl), by repeat (first | (with_reducible first | exact HB.out | apply below_alloc | apply pw_below_drewN | apply below_drew1 | refine below_set ?_ GE162.out) | exact HB.out)⟩
                      · as_aux_lemma =>
                        rw [if_neg c52] at H
                        have c52b0 : (a0_0 == 15) = false := beq_eq_false_iff_ne.mpr c52
                        have c52b1 : (a0_0 != 15) = true := bne_iff_ne.mpr c52
                        have HC56 := Aside0.mk H
                        clear H
                        go_upto_if 111 with (fail)
                        go_cut [111] (fun v111 wc => ∃ (kq : Nat) (x111_55 : Bool), v111 = .bool x111_55 ∧ Aside0 (impl_isKind.j1 kq a0_3 (a0_1 == 2) a0_0 x111_55 a0_0 a0_1 a0_2 a0_3 a0_4 a0_5 a0_6 = some r) ∧ Aside0 (kq ≤ kj1) ∧ Aside0 (wc.heap[gb162]? = some (.cells #[.int .i64 a0_0, .int .i64 a0_1, .int .i64 a0_2, .int .i64 a0_3, .int .i64 a0_4, .int .i64 a0_5, .int .i64 a0_6] 30 (0, 0))) ∧ Aside0 (Below w.heap.size w wc))
                        case first =>
                          have H := HC56.out
                          clear HC56
                          by_cases c57 : a0_0 = 16
                          · as_aux_lemma =>
                            rw [if_pos c57] at H
                            have c57b0 : (a0_0 == 16) = true := beq_iff_eq.mpr c57
                            have c57b1 : (a0_0 != 16) = false := bne_eq_false_iff_eq.mpr c57
                            clear c57
                            (first | rw [c57b0] | (simp only [i64_w, i32_w]; rw [c57b0]) | skip)
                            have H' := Aside0.mk H
                            clear H
                            go_wp2
                            go_meet
                            case rel => exact ⟨_, ((a0_0 == 16)), (by first | rfl | (simp; done) | (simp [*]; done)), H', ⟨by have := HJ1.out; first | omega | exact Nat.le_refl _⟩, ⟨by (with_reducible repeat (first | refine blk_drewN ?_ _ | refine blk_drew ?_ | refine blk_alloc ?_ _)); exact BK162.out⟩, ⟨by repeat (first | (with_reducible first | exact HB.out | apply below_alloc | apply pw_below_drewN | apply below_drew1 | refine below_set ?_ GE162.out) | exact HB.out)⟩⟩
                          · as_aux_lemma =>
                            rw [if_neg c57] at H
                            have c57b0 : (a0_0 == 16) = false := beq_eq_false_iff_ne.mpr c57
                            have c57b1 : (a0_0 != 16) = true := bne_iff_ne.mpr c57
                            (first | rw [c57b0] | (simp only [i64_w, i32_w]; rw [c57b0]) | skip)
                            have H' := Aside0.mk H
                            clear H
                            go_wp2
                            go_meet
                            case rel => exact ⟨_, ((a0_0 == 17)), (by first | rfl | (simp; done) | (simp [*]; done)), H', ⟨by have := HJ1.out; first | omega | exact Nat.le_refl _⟩, ⟨by (with_reducible repeat (first | refine blk_drewN ?_ _ | refine blk_drew ?_ | refine blk_alloc ?_ _)); exact BK162.out⟩, ⟨by repeat (first | (with_reducible first | exact HB.out | apply below_alloc | apply pw_below_drewN | apply below_drew1 | refine below_set ?_ GE162.out) | exact HB.out)⟩⟩
                        case rest =>
                          clear HC56
                          try clear c1
                          try clear c2
                          try clear p2
                          try clear c3
                          try clear c4
                          try clear c5
                          try clear c9
                          try clear c9b0
                          try clear c9b1
                          try clear c10
                          try clear c10b0
                          try clear c10b1
                          try clear c11
                          try clear c12
                          try clear c12b0
                          try clear c12b1
                          try clear c13
                          try clear c13b0
                          try clear c13b1
                          try clear c17
                          try clear c17b0
                          try clear c17b1
                          try clear c18
                          try clear c18b0
                          try clear c18b1
                          try clear c22
                          try clear c22b0
                          try clear c22b1
                          try clear c23
                          try clear c23b0
                          try clear c23b1
                          try clear c23b2
                          try clear c25
                          try clear c25b0
                          try clear c25b1
                          try clear c26
                          try clear c26b0
                          try clear c26b1
                          try clear c26b2
                          try clear c27
                          try clear c27b0
                          try clear c27b1
                          try clear c30
                          try clear c31
                          try clear c31b0
                          try clear c31b1
                          try clear c32
                          try clear c32b0
                          try clear c32b1
                          try clear c33
                          try clear c33b0
                          try clear c38
                          try clear c38b0
                          try clear c38b1
                          try clear c39
                          try clear c39b0
                          try clear c39b1
                          try clear c40
                          try clear c40b0
                          try clear c40b1
                          try clear c40b2
                          try clear c41
                          try clear c41b0
                          try clear c44
                          try clear c44b0
                          try clear c44b1
                          try clear c45
                          try clear c45b0
                          try clear c45b1
                          try clear c45b2
                          try clear c46
                          try clear c46b0
                          try clear c46b1
                          try clear c47
                          try clear c47b0
                          try clear c52
                          try clear c52b0
                          try clear c52b1
                          try clear c57
                          try clear c57b0
                          try clear c57b1
                          try clear hcz14_0
                          try clear hcz14_1
                          try clear hcz14_2
                          try clear hcz14_3
                          try clear hcz14_4
                          try clear hcz14_5
                          try clear hcz14_6
                          try clear hcz15_0
                          try clear hcz15_1
                          try clear hcz15_2
                          try clear hcz15_3
                          try clear hcz15_4
                          try clear hcz15_5
                          try clear hcz15_6
                          try clear hcz16_0
                          try clear hcz16_1
                          try clear hcz16_2
                          try clear hcz16_3
                          try clear hcz16_4
                          try clear hcz16_5
                          try clear hcz16_6
                          try clear hcz20_0
                          try clear hcz20_1
                          try clear hcz20_2
                          try clear hcz20_3
                          try clear hcz20_4
                          try clear hcz20_5
                          try clear hcz20_6
                          try clear hcz21_0
                          try clear hcz21_1
                          try clear hcz21_2
                          try clear hcz21_3
                          try clear hcz21_4
                          try clear hcz21_5
                          try clear hcz21_6
                          try clear hcz24_0
                          try clear hcz24_1
                          try clear hcz24_2
                          try clear hcz24_3
                          try clear hcz24_4
                          try clear hcz24_5
                          try clear hcz24_6
                          try clear hcz29_0
                          try clear hcz29_1
                          try clear hcz29_2
                          try clear hcz29_3
                          try clear hcz29_4
                          try clear hcz29_5
                          try clear hcz29_6
                          try clear hcz30_0
                          try clear hcz30_1
                          try clear hcz30_2
                          try clear hcz30_3
                          try clear hcz30_4
                          try clear hcz30_5
                          try clear hcz30_6
                          try clear hcz35_0
                          try clear hcz35_1
                          try clear hcz35_2
                          try clear hcz35_3
                          try clear hcz35_4
                          try clear hcz35_5
                          try clear hcz35_6
                          try clear hcz36_0
                          try clear hcz36_1
                          try clear hcz36_2
                          try clear hcz36_3
                          try clear hcz36_4
                          try clear hcz36_5
                          try clear hcz36_6
                          try clear hcz37_0
                          try clear hcz37_1
                          try clear hcz37_2
                          try clear hcz37_3
                          try clear hcz37_4
                          try clear hcz37_5
                          try clear hcz37_6
                          try clear hcz42_0
                          try clear hcz42_1
                          try clear hcz42_2
                          try clear hcz42_3
                          try clear hcz42_4
                          try clear hcz42_5
                          try clear hcz42_6
                          try clear hcz43_0
                          try clear hcz43_1
                          try clear hcz43_2
                          try clear hcz43_3
                          try clear hcz43_4
                          try clear hcz43_5
                          try clear hcz43_6
                          try clear hcz49_0
                          try clear hcz49_1
                          try clear hcz49_2
                          try clear hcz49_3
                          try clear hcz49_4
                          try clear hcz49_5
                          try clear hcz49_6
                          try clear hcz4_0
                          try clear hcz4_1
                          try clear hcz4_2
                          try clear hcz4_3
                          try clear hcz4_4
                          try clear hcz4_5
                          try clear hcz4_6
                          try clear hcz50_0
                          try clear hcz50_1
                          try clear hcz50_2
                          try clear hcz50_3
                          try clear hcz50_4
                          try clear hcz50_5
                          try clear hcz50_6
                          try clear hcz51_0
                          try clear hcz51_1
                          try clear hcz51_2
                          try clear hcz51_3
                          try clear hcz51_4
                          try clear hcz51_5
                          try clear hcz51_6
                          try clear hcz54_0
                          try clear hcz54_1
                          try clear hcz54_2
                          try clear hcz54_3
                          try clear hcz54_4
                          try clear hcz54_5
                          try clear hcz54_6
                          try clear hfz14_0
                          try clear hfz14_1
                          try clear hfz14_2
                          try clear hfz14_3
                          try clear hfz14_4
                          try clear hfz14_5
                          try clear hfz14_6
                          try clear hfz15_0
                          try clear hfz15_1
                          try clear hfz15_2
                          try clear hfz15_3
                          try clear hfz15_4
                          try clear hfz15_5
                          try clear hfz15_6
                          try clear hfz16_0
                          try clear hfz16_1
                          try clear hfz16_2
                          try clear hfz16_3
                          try clear hfz16_4
                          try clear hfz16_5
                          try clear hfz16_6
                          try clear hfz20_0
                          try clear hfz20_1
                          try clear hfz20_2
                          try clear hfz20_3
                          try clear hfz20_4
                          try clear hfz20_5
                          try clear hfz20_6
                          try clear hfz21_0
                          try clear hfz21_1
                          try clear hfz21_2
                          try clear hfz21_3
                          try clear hfz21_4
                          try clear hfz21_5
                          try clear hfz21_6
                          try clear hfz24_0
                          try clear hfz24_1
                          try clear hfz24_2
                          try clear hfz24_3
                          try clear hfz24_4
                          try clear hfz24_5
                          try clear hfz24_6
                          try clear hfz29_0
                          try clear hfz29_1
                          try clear hfz29_2
                          try clear hfz29_3
                          try clear hfz29_4
                          try clear hfz29_5
                          try clear hfz29_6
                          try clear hfz30_0
                          try clear hfz30_1
                          try clear hfz30_2
                          try clear hfz30_3
                          try clear hfz30_4
                          try clear hfz30_5
                          try clear hfz30_6
                          try clear hfz35_0
                          try clear hfz35_1
                          try clear hfz35_2
                          try clear hfz35_3
                          try clear hfz35_4
                          try clear hfz35_5
                          try clear hfz35_6
                          try clear hfz36_0
                          try clear hfz36_1
                          try clear hfz36_2
                          try clear hfz36_3
                          try clear hfz36_4
                          try clear hfz36_5
                          try clear hfz36_6
                          try clear hfz37_0
                          try clear hfz37_1
                          try clear hfz37_2
                          try clear hfz37_3
                          try clear hfz37_4
                          try clear hfz37_5
                          try clear hfz37_6
                          try clear hfz42_0
                          try clear hfz42_1
                          try clear hfz42_2
                          try clear hfz42_3
                          try clear hfz42_4
                          try clear hfz42_5
                          try clear hfz42_6
                          try clear hfz43_0
                          try clear hfz43_1
                          try clear hfz43_2
                          try clear hfz43_3
                          try clear hfz43_4
                          try clear hfz43_5
                          try clear hfz43_6
                          try clear hfz49_0
                          try clear hfz49_1
                          try clear hfz49_2
                          try clear hfz49_3
                          try clear hfz49_4
                          try clear hfz49_5
                          try clear hfz49_6
                          try clear hfz4_0
                          try clear hfz4_1
                          try clear hfz4_2
                          try clear hfz4_3
                          try clear hfz4_4
                          try clear hfz4_5
                          try clear hfz4_6
                          try clear hfz50_0
                          try clear hfz50_1
                          try clear hfz50_2
                          try clear hfz50_3
                          try clear hfz50_4
                          try clear hfz50_5
                          try clear hfz50_6
                          try clear hfz51_0
                          try clear hfz51_1
                          try clear hfz51_2
                          try clear hfz51_3
                          try clear hfz51_4
                          try clear hfz51_5
                          try clear hfz51_6
                          try clear hfz54_0
                          try clear hfz54_1
                          try clear hfz54_2
                          try clear hfz54_3
                          try clear hfz54_4
                          try clear hfz54_5
                          try clear hfz54_6
                          obtain ⟨kq, x111_55, rfl, HA, HJ55, BK162, HB⟩ := hcut
                          cases kq with
                          | zero => exact absurd HA.out (by simp [impl_isKind.j1])
                          | succ kj55 =>
                            have H := HA.out
                            clear HA
                            simp only [impl_isKind.j1] at H
                            by_cases c58 : x111_55 = true
                            · as_aux_lemma =>
                              subst c58
                              have H1 : (if (a0_1 == 2) = true then (if a0_6 = 0 then (some (a0_3 != 1)) else (some false)) else (some false)) = some r := by rw [if_pos rfl] at H; exact H
                              clear H
                              have H := H1
                              clear H1
                              by_cases c59 : (a0_1 == 2) = true
                              · as_aux_lemma =>
                                rw [if_pos c59] at H
                                have c59b0 : (a0_1 == 2) = true := c59
                                (try (have c59b1 : decide (a0_1 = 2) = true := by simpa using c59))
                                (try (have c59b2 : (a0_1 == 2) = true := by simpa using c59))
                                clear c59
                                by_cases c60 : a0_6 = 0
                                · as_aux_lemma =>
                                  rw [if_pos c60] at H
                                  have c60b0 : (a0_6 == 0) = true := beq_iff_eq.mpr c60
                                  have c60b1 : (a0_6 != 0) = false := bne_eq_false_iff_eq.mpr c60
                                  clear c60
                                  obtain rfl := Option.some.inj H
                                  have hcz61_0 : wc.cell? ⟨gb162, 0, none⟩ = some (.int .i64 a0_0) := (blk_cell BK162.out 0).trans rfl
                                  have hcz61_1 : wc.cell? ⟨gb162, 1, none⟩ = some (.int .i64 a0_1) := (blk_cell BK162.out 1).trans rfl
                                  have hcz61_2 : wc.cell? ⟨gb162, 2, none⟩ = some (.int .i64 a0_2) := (blk_cell BK162.out 2).trans rfl
                                  have hcz61_3 : wc.cell? ⟨gb162, 3, none⟩ = some (.int .i64 a0_3) := (blk_cell BK162.out 3).trans rfl
                                  have hcz61_4 : wc.cell? ⟨gb162, 4, none⟩ = some (.int .i64 a0_4) := (blk_cell BK162.out 4).trans rfl
                                  have hcz61_5 : wc.cell? ⟨gb162, 5, none⟩ = some (.int .i64 a0_5) := (blk_cell BK162.out 5).trans rfl
                                  have hcz61_6 : wc.cell? ⟨gb162, 6, none⟩ = some (.int .i64 a0_6) := (blk_cell BK162.out 6).trans rfl
                                  have hfz61_0 := blk_frozen BK162.out 0
                                  have hfz61_1 := blk_frozen BK162.out 1
                                  have hfz61_2 := blk_frozen BK162.out 2
                                  have hfz61_3 := blk_frozen BK162.out 3
                                  have hfz61_4 := blk_frozen BK162.out 4
                                  have hfz61_5 := blk_frozen BK162.out 5
                                  have hfz61_6 := blk_frozen BK162.out 6
                                  go_wp2
                                  go_ret
                                  exact ⟨by first | rfl | (simp [errW_none, errW_some] <;> rfl) | (simp [*, errW_none, errW_some] <;> rfl), by repeat (first | (with_reducible first | exact HB.out | apply below_alloc | apply pw_below_drewN | apply below_drew1 | refine below_set ?_ GE162.out) | exact HB.out)⟩
                                · as_aux_lemma =>
                                  rw [if_neg c60] at H
                                  have c60b0 : (a0_6 == 0) = false := beq_eq_false_iff_ne.mpr c60
                                  have c60b1 : (a0_6 != 0) = true := bne_iff_ne.mpr c60
                                  obtain rfl := Option.some.inj H
                                  have hcz62_0 : wc.cell? ⟨gb162, 0, none⟩ = some (.int .i64 a0_0) := (blk_cell BK162.out 0).trans rfl
                                  have hcz62_1 : wc.cell? ⟨gb162, 1, none⟩ = some (.int .i64 a0_1) := (blk_cell BK162.out 1).trans rfl
                                  have hcz62_2 : wc.cell? ⟨gb162, 2, none⟩ = some (.int .i64 a0_2) := (blk_cell BK162.out 2).trans rfl
                                  have hcz62_3 : wc.cell? ⟨gb162, 3, none⟩ = some (.int .i64 a0_3) := (blk_cell BK162.out 3).trans rfl
                                  have hcz62_4 : wc.cell? ⟨gb162, 4, none⟩ = some (.int .i64 a0_4) := (blk_cell BK162.out 4).trans rfl
                                  have hcz62_5 : wc.cell? ⟨gb162, 5, none⟩ = some (.int .i64 a0_5) := (blk_cell BK162.out 5).trans rfl
                                  have hcz62_6 : wc.cell? ⟨gb162, 6, none⟩ = some (.int .i64 a0_6) := (blk_cell BK162.out 6).trans rfl
                                  have hfz62_0 := blk_frozen BK162.out 0
                                  have hfz62_1 := blk_frozen BK162.out 1
                                  have hfz62_2 := blk_frozen BK162.out 2
                                  have hfz62_3 := blk_frozen BK162.out 3
                                  have hfz62_4 := blk_frozen BK162.out 4
                                  have hfz62_5 := blk_frozen BK162.out 5
                                  have hfz62_6 := blk_frozen BK162.out 6
                                  go_wp2
                                  go_ret
                                  exact ⟨by first | rfl | (simp [errW_none, errW_some] <;> rfl) | (simp [*, errW_none, errW_some] <;> rfl), by repeat (first | (with_reducible first | exact HB.out | apply below_alloc | apply pw_below_drewN | apply below_drew1 | refine below_set ?_ GE162.out) | exact HB.out)⟩
                              · as_aux_lemma =>
                                rw [if_neg c59] at H
                                have c59b0 : (a0_1 == 2) = false := by simpa using c59
                                (try (have c59b1 : decide (a0_1 = 2) = false := by simpa using c59))
                                (try (have c59b2 : (a0_1 == 2) = false := by simpa using c59))
                                (try (have c59b3 : ¬ (a0_1 = 2) := by simpa using c59))
                                clear c59
                                obtain rfl := Option.some.inj H
                                go_wp2
                                go_ret
                                exact ⟨by first | rfl | (simp [errW_none, errW_some] <;> rfl) | (simp [*, errW_none, errW_some] <;> rfl), by repeat (first | (with_reducible first | exact HB.out | apply below_alloc | apply pw_below_drewN | apply below_drew1 | refine below_set ?_ GE162.out) | exact HB.out)⟩
                            · as_aux_lemma =>
                              replace c58 := Bool.eq_false_iff.mpr c58
                              subst c58
                              have H1 : (if a0_0 = 18 then (if (a0_1 == 2) = true then (some false) else (if a0_6 ≤ 1 then (some (a0_3 == 0)) else (some false))) else (if a0_0 = 19 then (if (a0_1 == 2) = true then (if a0_6 = 0 then (if a0_2 = 0 then ((impl_isNow.f a0_3 a0_4 a0_5).bind fun t168 => (if t168 = true then (some true) else (if a0_6 = 1 then (some (a0_3 == 0 && (a0_4 == 0 && (a0_5 == 0)))) else (some false)))) else (if a0_6 = 1 then (some (a0_3 == 0 && (a0_4 == 0 && (a0_5 == 0)))) else (some false))) else (if a0_6 = 1 then (some (a0_3 == 0 && (a0_4 == 0 && (a0_5 == 0)))) else (some false))) else (some false)) else (some false))) = some r := by rw [if_neg (show ¬ (false = true) by decide)] at H; exact H
                              clear H
                              have H := H1
                              clear H1
                              by_cases c63 : a0_0 = 18
                              · as_aux_lemma =>
                                rw [if_pos c63] at H
                                have c63b0 : (a0_0 == 18) = true := beq_iff_eq.mpr c63
                                have c63b1 : (a0_0 != 18) = false := bne_eq_false_iff_eq.mpr c63
                                clear c63
                                by_cases c64 : (a0_1 == 2) = true
                                · as_aux_lemma =>
                                  rw [if_pos c64] at H
                                  have c64b0 : (a0_1 == 2) = true := c64
                                  (try (have c64b1 : decide (a0_1 = 2) = true := by simpa using c64))
                                  (try (have c64b2 : (a0_1 == 2) = true := by simpa using c64))
                                  clear c64
                                  obtain rfl := Option.some.inj H
                                  go_wp2
                                  go_ret
                                  exact ⟨by first | rfl | (simp [errW_none, errW_some] <;> rfl) | (simp [*, errW_none, errW_some] <;> rfl), by repeat (first | (with_reducible first | exact HB.out | apply below_alloc | apply pw_below_drewN | apply below_drew1 | refine below_set ?_ GE162.out) | exact HB.out)⟩
                                · as_aux_lemma =>
                                  rw [if_neg c64] at H
                                  have c64b0 : (a0_1 == 2) = false := by simpa using c64
                                  (try (have c64b1 : decide (a0_1 = 2) = false := by simpa using c64))
                                  (try (have c64b2 : (a0_1 == 2) = false := by simpa using c64))
                                  (try (have c64b3 : ¬ (a0_1 = 2) := by simpa using c64))
                                  clear c64
                                  by_cases c65 : a0_6 ≤ 1
                                  · as_aux_lemma =>
                                    rw [if_pos c65] at H
                                    have c65b0 : decide (a0_6 ≤ 1) = true := decide_eq_true c65
                                    clear c65
                                    obtain rfl := Option.some.inj H
                                    have hcz66_0 : wc.cell? ⟨gb162, 0, none⟩ = some (.int .i64 a0_0) := (blk_cell BK162.out 0).trans rfl
                                    have hcz66_1 : wc.cell? ⟨gb162, 1, none⟩ = some (.int .i64 a0_1) := (blk_cell BK162.out 1).trans rfl
                                    have hcz66_2 : wc.cell? ⟨gb162, 2, none⟩ = some (.int .i64 a0_2) := (blk_cell BK162.out 2).trans rfl
                                    have hcz66_3 : wc.cell? ⟨gb162, 3, none⟩ = some (.int .i64 a0_3) := (blk_cell BK162.out 3).trans rfl
                                    have hcz66_4 : wc.cell? ⟨gb162, 4, none⟩ = some (.int .i64 a0_4) := (blk_cell BK162.out 4).trans rfl
                                    have hcz66_5 : wc.cell? ⟨gb162, 5, none⟩ = some (.int .i64 a0_5) := (blk_cell BK162.out 5).trans rfl
                                    have hcz66_6 : wc.cell? ⟨gb162, 6, none⟩ = some (.int .i64 a0_6) := (blk_cell BK162.out 6).trans rfl
                                    have hfz66_0 := blk_frozen BK162.out 0
                                    have hfz66_1 := blk_frozen BK162.out 1
                                    have hfz66_2 := blk_frozen BK162.out 2
                                    have hfz66_3 := blk_frozen BK162.out 3
                                    have hfz66_4 := blk_frozen BK162.out 4
                                    have hfz66_5 := blk_frozen BK162.out 5
                                    have hfz66_6 := blk_frozen BK162.out 6
                                    go_wp2
                                    go_ret
                                    exact ⟨by first | rfl | (simp [errW_none, errW_some] <;> rfl) | (simp [*, errW_none, errW_some] <;> rfl), by repeat (first | (with_reducible first | exact HB.out | apply below_alloc | apply pw_below_drewN | apply below_drew1 | refine below_set ?_ GE162.out) | exact HB.out)⟩
                                  · as_aux_lemma =>
                                    rw [if_neg c65] at H
                                    have c65b0 : decide (a0_6 ≤ 1) = false := decide_eq_false c65
                                    clear c65
                                    obtain rfl := Option.some.inj H
                                    have hcz67_0 : wc.cell? ⟨gb162, 0, none⟩ = some (.int .i64 a0_0) := (blk_cell BK162.out 0).trans rfl
                                    have hcz67_1 : wc.cell? ⟨gb162, 1, none⟩ = some (.int .i64 a0_1) := (blk_cell BK162.out 1).trans rfl
                                    have hcz67_2 : wc.cell? ⟨gb162, 2, none⟩ = some (.int .i64 a0_2) := (blk_cell BK162.out 2).trans rfl
                                    have hcz67_3 : wc.cell? ⟨gb162, 3, none⟩ = some (.int .i64 a0_3) := (blk_cell BK162.out 3).trans rfl
                                    have hcz67_4 : wc.cell? ⟨gb162, 4, none⟩ = some (.int .i64 a0_4) := (blk_cell BK162.out 4).trans rfl
                                    have hcz67_5 : wc.cell? ⟨gb162, 5, none⟩ = some (.int .i64 a0_5) := (blk_cell BK162.out 5).trans rfl
                                    have hcz67_6 : wc.cell? ⟨gb162, 6, none⟩ = some (.int .i64 a0_6) := (blk_cell BK162.out 6).trans rfl
                                    have hfz67_0 := blk_frozen BK162.out 0
                                    have hfz67_1 := blk_frozen BK162.out 1
                                    have hfz67_2 := blk_frozen BK162.out 2
                                    have hfz67_3 := blk_frozen BK162.out 3
                                    have hfz67_4 := blk_frozen BK162.out 4
                                    have hfz67_5 := blk_frozen BK162.out 5
                                    have hfz67_6 := blk_frozen BK162.out 6
                                    go_wp2
                                    go_ret
                                    exact ⟨by first | rfl | (simp [errW_none, errW_some] <;> rfl) | (simp [*, errW_none, errW_some] <;> rfl), by repeat (first | (with_reducible first | exact HB.out | apply below_alloc | apply pw_below_drewN | apply below_drew1 | refine below_set ?_ GE162.out) | exact HB.out)⟩
                              · as_aux_lemma =>
                                rw [if_neg c63] at H
                                have c63b0 : (a0_0 == 18) = false := beq_eq_false_iff_ne.mpr c63
                                have c63b1 : (a0_0 != 18) = true := bne_iff_ne.mpr c63
                                by_cases c68 : a0_0 = 19
                                · as_aux_lemma =>
                                  rw [if_pos c68] at H
                                  have c68b0 : (a0_0 == 19) = true := beq_iff_eq.mpr c68
                                  have c68b1 : (a0_0 != 19) = false := bne_eq_false_iff_eq.mpr c68
                                  clear c68
                                  by_cases c69 : (a0_1 == 2) = true
                                  · as_aux_lemma =>
                                    rw [if_pos c69] at H
                                    have c69b0 : (a0_1 == 2) = true := c69
                                    (try (have c69b1 : decide (a0_1 = 2) = true := by simpa using c69))
                                    (try (have c69b2 : (a0_1 == 2) = true := by simpa using c69))
                                    clear c69
                                    by_cases c70 : a0_6 = 0
                                    · as_aux_lemma =>
                                      rw [if_pos c70] at H
                                      have c70b0 : (a0_6 == 0) = true := beq_iff_eq.mpr c70
                                      have c70b1 : (a0_6 != 0) = false := bne_eq_false_iff_eq.mpr c70
                                      clear c70
                                      by_cases c71 : a0_2 = 0
                                      · as_aux_lemma =>
                                        rw [if_pos c71] at H
                                        have c71b0 : (a0_2 == 0) = true := beq_iff_eq.mpr c71
                                        have c71b1 : (a0_2 != 0) = false := bne_eq_false_iff_eq.mpr c71
                                        clear c71
                                        replace H := Option.bind_eq_some_iff.mp H
                                        obtain ⟨t168, A720, H⟩ := H
                                        replace H : (if t168 = true then (some true) else (if a0_6 = 1 then (some (a0_3 == 0 && (a0_4 == 0 && (a0_5 == 0)))) else (some false))) = some r := H
                                        have A72 := Aside0.mk A720
                                        clear A720
                                        by_cases c73 : t168 = true
                                        · as_aux_lemma =>
                                          subst c73
                                          have H1 : (some true) = some r := by rw [if_pos rfl] at H; exact H
                                          clear H
                                          have H := H1
                                          clear H1
                                          obtain rfl := Option.some.inj H
                                          have hcz74_0 : wc.cell? ⟨gb162, 0, none⟩ = some (.int .i64 a0_0) := (blk_cell BK162.out 0).trans rfl
                                          have hcz74_1 : wc.cell? ⟨gb162, 1, none⟩ = some (.int .i64 a0_1) := (blk_cell BK162.out 1).trans rfl
                                          have hcz74_2 : wc.cell? ⟨gb162, 2, none⟩ = some (.int .i64 a0_2) := (blk_cell BK162.out 2).trans rfl
                                          have hcz74_3 : wc.cell? ⟨gb162, 3, none⟩ = some (.int .i64 a0_3) := (blk_cell BK162.out 3).trans rfl
                                          have hcz74_4 : wc.cell? ⟨gb162, 4, none⟩ = some (.int .i64 a0_4) := (blk_cell BK162.out 4).trans rfl
                                          have hcz74_5 : wc.cell? ⟨gb162, 5, none⟩ = some (.int .i64 a0_5) := (blk_cell BK162.out 5).trans rfl
                                          have hcz74_6 : wc.cell? ⟨gb162, 6, none⟩ = some (.int .i64 a0_6) := (blk_cell BK162.out 6).trans rfl
                                          have hfz74_0 := blk_frozen BK162.out 0
                                          have hfz74_1 := blk_frozen BK162.out 1
                                          have hfz74_2 := blk_frozen BK162.out 2
                                          have hfz74_3 := blk_frozen BK162.out 3
                                          have hfz74_4 := blk_frozen BK162.out 4
                                          have hfz74_5 := blk_frozen BK162.out 5
                                          have hfz74_6 := blk_frozen BK162.out 6
                                          go_wp2_with (first | (go_at_call 31; (with_reducible refine (impl_isNow.calls a0_3 a0_4 a0_5 true _ A72.out).mono ?_); rintro e w75 ⟨rfl, hb⟩; have n0_ := Aside0.mk (blk_below (g := gb162) (o := .cells #[.int .i64 a0_0, .int .i64 a0_1, .int .i64 a0_2, .int .i64 a0_3, .int .i64 a0_4, .int .i64 a0_5, .int .i64 a0_6] 30 (0, 0)) (by (with_reducible repeat (first | refine blk_drewN ?_ _ | refine blk_drew ?_ | refine blk_alloc ?_ _)); exact BK162.out) hb); have n1_ := Aside0.mk (below_step (by repeat (first | (with_reducible first | exact HB.out | apply below_alloc | apply pw_below_drewN | apply below_drew1 | refine below_set ?_ GE162.out) | exact HB.out)) hb); clear BK162; clear HB; have BK162 := n0_; have HB := n1_; clear n0_ n1_; (try clear hb); (try clear hb2); (try clear hk); (try clear hi)))
                                          go_ret
                                          exact ⟨by first | rfl | (simp [errW_none, errW_some] <;> rfl) | (simp [*, errW_none, errW_some] <;> rfl), by repeat (first | (with_reducible first | exact HB.out | apply below_alloc | apply pw_below_drewN | apply below_drew1 | refine below_set ?_ GE162.out) | exact HB.out)⟩
                                        · as_aux_lemma =>
                                          replace c73 := Bool.eq_false_iff.mpr c73
                                          subst c73
                                          have H1 : (if a0_6 = 1 then (some (a0_3 == 0 && (a0_4 == 0 && (a0_5 == 0)))) else (some false)) = some r := by rw [if_neg (show ¬ (false = true) by decide)] at H; exact H
                                          clear H
                                          have H := H1
                                          clear H1
                                          by_cases c76 : a0_6 = 1
                                          · as_aux_lemma =>
                                            rw [if_pos c76] at H
                                            have c76b0 : (a0_6 == 1) = true := beq_iff_eq.mpr c76
                                            have c76b1 : (a0_6 != 1) = false := bne_eq_false_iff_eq.mpr c76
                                            clear c76
                                            obtain rfl := Option.some.inj H
                                            have hcz77_0 : wc.cell? ⟨gb162, 0, none⟩ = some (.int .i64 a0_0) := (blk_cell BK162.out 0).trans rfl
                                            have hcz77_1 : wc.cell? ⟨gb162, 1, none⟩ = some (.int .i64 a0_1) := (blk_cell BK162.out 1).trans rfl
                                            have hcz77_2 : wc.cell? ⟨gb162, 2, none⟩ = some (.int .i64 a0_2) := (blk_cell BK162.out 2).trans rfl
                                            have hcz77_3 : wc.cell? ⟨gb162, 3, none⟩ = some (.int .i64 a0_3) := (blk_cell BK162.out 3).trans rfl
                                            have hcz77_4 : wc.cell? ⟨gb162, 4, none⟩ = some (.int .i64 a0_4) := (blk_cell BK162.out 4).trans rfl
                                            have hcz77_5 : wc.cell? ⟨gb162, 5, none⟩ = some (.int .i64 a0_5) := (blk_cell BK162.out 5).trans rfl
                                            have hcz77_6 : wc.cell? ⟨gb162, 6, none⟩ = some (.int .i64 a0_6) := (blk_cell BK162.out 6).trans rfl
                                            have hfz77_0 := blk_frozen BK162.out 0
                                            have hfz77_1 := blk_frozen BK162.out 1
                                            have hfz77_2 := blk_frozen BK162.out 2
                                            have hfz77_3 := blk_frozen BK162.out 3
                                            have hfz77_4 := blk_frozen BK162.out 4
                                            have hfz77_5 := blk_frozen BK162.out 5
                                            have hfz77_6 := blk_frozen BK162.out 6
                                            go_wp2_with (first | (go_at_call 31; (with_reducible refine (impl_isNow.calls a0_3 a0_4 a0_5 false _ A72.out).mono ?_); rintro e w78 ⟨rfl, hb⟩; have n0_ := Aside0.mk (blk_below (g := gb162) (o := .cells #[.int .i64 a0_0, .int .i64 a0_1, .int .i64 a0_2, .int .i64 a0_3, .int .i64 a0_4, .int .i64 a0_5, .int .i64 a0_6] 30 (0, 0)) (by (with_reducible repeat (first | refine blk_drewN ?_ _ | refine blk_drew ?_ | refine blk_alloc ?_ _)); exact BK162.out) hb); have n1_ := Aside0.mk (below_step (by repeat (first | (with_reducible first | exact HB.out | apply below_alloc | apply pw_below_drewN | apply below_drew1 | refine below_set ?_ GE162.out) | exact HB.out)) hb); clear BK162; clear HB; have BK162 := n0_; have HB := n1_; clear n0_ n1_; (try clear hb); (try clear hb2); (try clear hk); (try clear hi); have hcz79_0 : w78.cell? ⟨gb162, 0, none⟩ = some (.int .i64 a0_0) := (blk_cell BK162.out 0).trans rfl; have hcz79_1 : w78.cell? ⟨gb162, 1, none⟩ = some (.int .i64 a0_1) := (blk_cell BK162.out 1).trans rfl; have hcz79_2 : w78.cell? ⟨gb162, 2, none⟩ = some (.int .i64 a0_2) := (blk_cell BK162.out 2).trans rfl; have hcz79_3 : w78.cell? ⟨gb162, 3, none⟩ = some (.int .i64 a0_3) := (blk_cell BK162.out 3).trans rfl; have hcz79_4 : w78.cell? ⟨gb162, 4, none⟩ = some (.int .i64 a0_4) := (blk_cell BK162.out 4).trans rfl; have hcz79_5 : w78.cell? ⟨gb162, 5, none⟩ = some (.int .i64 a0_5) := (blk_cell BK162.out 5).trans rfl; have hcz79_6 : w78.cell? ⟨gb162, 6, none⟩ = some (.int .i64 a0_6) := (blk_cell BK162.out 6).trans rfl; have hfz79_0 := blk_frozen BK162.out 0; have hfz79_1 := blk_frozen BK162.out 1; have hfz79_2 := blk_frozen BK162.out 2; have hfz79_3 := blk_frozen BK162.out 3; have hfz79_4 := blk_frozen BK162.out 4; have hfz79_5 := blk_frozen BK162.out 5; have hfz79_6 := blk_frozen BK162.out 6))
                                            go_ret
                                            exact ⟨by first | rfl | (simp [errW_none, errW_some] <;> rfl) | (simp [*, errW_none, errW_some] <;> rfl), by repeat (first | (with_reducible first | exact HB.out | apply below_alloc | apply pw_below_drewN | apply below_drew1 | refine below_set ?_ GE162.out) | exact HB.out)⟩
                                          · as_aux_lemma =>
                                            rw [if_neg c76] at H
                                            have c76b0 : (a0_6 == 1) = false := beq_eq_false_iff_ne.mpr c76
                                            have c76b1 : (a0_6 != 1) = true := bne_iff_ne.mpr c76
                                            obtain rfl := Option.some.inj H
                                            have hcz80_0 : wc.cell? ⟨gb162, 0, none⟩ = some (.int .i64 a0_0) := (blk_cell BK162.out 0).trans rfl
                                            have hcz80_1 : wc.cell? ⟨gb162, 1, none⟩ = some (.int .i64 a0_1) := (blk_cell BK162.out 1).trans rfl
                                            have hcz80_2 : wc.cell? ⟨gb162, 2, none⟩ = some (.int .i64 a0_2) := (blk_cell BK162.out 2).trans rfl
                                            have hcz80_3 : wc.cell? ⟨gb162, 3, none⟩ = some (.int .i64 a0_3) := (blk_cell BK162.out 3).trans rfl
                                            have hcz80_4 : wc.cell? ⟨gb162, 4, none⟩ = some (.int .i64 a0_4) := (blk_cell BK162.out 4).trans rfl
                                            have hcz80_5 : wc.cell? ⟨gb162, 5, none⟩ = some (.int .i64 a0_5) := (blk_cell BK162.out 5).trans rfl
                                            have hcz80_6 : wc.cell? ⟨gb162, 6, none⟩ = some (.int .i64 a0_6) := (blk_cell BK162.out 6).trans rfl
                                            have hfz80_0 := blk_frozen BK162.out 0
                                            have hfz80_1 := blk_frozen BK162.out 1
                                            have hfz80_2 := blk_frozen BK162.out 2
                                            have hfz80_3 := blk_frozen BK162.out 3
                                            have hfz80_4 := blk_frozen BK162.out 4
                                            have hfz80_5 := blk_frozen BK162.out 5
                                            have hfz80_6 := blk_frozen BK162.out 6
                                            go_wp2_with (first | (go_at_call 31; (with_reducible refine (impl_isNow.calls a0_3 a0_4 a0_5 false _ A72.out).mono ?_); rintro e w81 ⟨rfl, hb⟩; have n0_ := Aside0.mk (blk_below (g := gb162) (o := .cells #[.int .i64 a0_0, .int .i64 a0_1, .int .i64 a0_2, .int .i64 a0_3, .int .i64 a0_4, .int .i64 a0_5, .int .i64 a0_6] 30 (0, 0)) (by (with_reducible repeat (first | refine blk_drewN ?_ _ | refine blk_drew ?_ | refine blk_alloc ?_ _)); exact BK162.out) hb); have n1_ := Aside0.mk (below_step (by repeat (first | (with_reducible first | exact HB.out | apply below_alloc | apply pw_below_drewN | apply below_drew1 | refine below_set ?_ GE162.out) | exact HB.out)) hb); clear BK162; clear HB; have BK162 := n0_; have HB := n1_; clear n0_ n1_; (try clear hb); (try clear hb2); (try clear hk); (try clear hi); have hcz82_0 : w81.cell? ⟨gb162, 0, none⟩ = some (.int .i64 a0_0) := (blk_cell BK162.out 0).trans rfl; have hcz82_1 : w81.cell? ⟨gb162, 1, none⟩ = some (.int .i64 a0_1) := (blk_cell BK162.out 1).trans rfl; have hcz82_2 : w81.cell? ⟨gb162, 2, none⟩ = some (.int .i64 a0_2) := (blk_cell BK162.out 2).trans rfl; have hcz82_3 : w81.cell? ⟨gb162, 3, none⟩ = some (.int .i64 a0_3) := (blk_cell BK162.out 3).trans rfl; have hcz82_4 : w81.cell? ⟨gb162, 4, none⟩ = some (.int .i64 a0_4) := (blk_cell BK162.out 4).trans rfl; have hcz82_5 : w81.cell? ⟨gb162, 5, none⟩ = some (.int .i64 a0_5) := (blk_cell BK162.out 5).trans rfl; have hcz82_6 : w81.cell? ⟨gb162, 6, none⟩ = some (.int .i64 a0_6) := (blk_cell BK162.out 6).trans rfl; have hfz82_0 := blk_frozen BK162.out 0; have hfz82_1 := blk_frozen BK162.out 1; have hfz82_2 := blk_frozen BK162.out 2; have hfz82_3 := blk_frozen BK162.out 3; have hfz82_4 := blk_frozen BK162.out 4; have hfz82_5 := blk_frozen BK162.out 5; have hfz82_6 := blk_frozen BK162.out 6))
                                            go_ret
                                            exact ⟨by first | rfl | (simp [errW_none, errW_some] <;> rfl) | (simp [*, errW_none, errW_some] <;> rfl), by repeat (first | (with_reducible first | exact HB.out | apply below_alloc | apply pw_below_drewN | apply below_drew1 | refine below_set ?_ GE162.out) | exact HB.out)⟩
                                      · as_aux_lemma =>
                                        rw [if_neg c71] at H
                                        have c71b0 : (a0_2 == 0) = false := beq_eq_false_iff_ne.mpr c71
                                        have c71b1 : (a0_2 != 0) = true := bne_iff_ne.mpr c71
                                        by_cases c83 : a0_6 = 1
                                        · as_aux_lemma =>
                                          rw [if_pos c83] at H
                                          have c83b0 : (a0_6 == 1) = true := beq_iff_eq.mpr c83
                                          have c83b1 : (a0_6 != 1) = false := bne_eq_false_iff_eq.mpr c83
                                          clear c83
                                          obtain rfl := Option.some.inj H
                                          have hcz84_0 : wc.cell? ⟨gb162, 0, none⟩ = some (.int .i64 a0_0) := (blk_cell BK162.out 0).trans rfl
                                          have hcz84_1 : wc.cell? ⟨gb162, 1, none⟩ = some (.int .i64 a0_1) := (blk_cell BK162.out 1).trans rfl
                                          have hcz84_2 : wc.cell? ⟨gb162, 2, none⟩ = some (.int .i64 a0_2) := (blk_cell BK162.out 2).trans rfl
                                          have hcz84_3 : wc.cell? ⟨gb162, 3, none⟩ = some (.int .i64 a0_3) := (blk_cell BK162.out 3).trans rfl
                                          have hcz84_4 : wc.cell? ⟨gb162, 4, none⟩ = some (.int .i64 a0_4) := (blk_cell BK162.out 4).trans rfl
                                          have hcz84_5 : wc.cell? ⟨gb162, 5, none⟩ = some (.int .i64 a0_5) := (blk_cell BK162.out 5).trans rfl
                                          have hcz84_6 : wc.cell? ⟨gb162, 6, none⟩ = some (.int .i64 a0_6) := (blk_cell BK162.out 6).trans rfl
                                          have hfz84_0 := blk_frozen BK162.out 0
                                          have hfz84_1 := blk_frozen BK162.out 1
                                          have hfz84_2 := blk_frozen BK162.out 2
                                          have hfz84_3 := blk_frozen BK162.out 3
                                          have hfz84_4 := blk_frozen BK162.out 4
                                          have hfz84_5 := blk_frozen BK162.out 5
                                          have hfz84_6 := blk_frozen BK162.out 6
                                          go_wp2
                                          go_ret
                                          exact ⟨by first | rfl | (simp [errW_none, errW_some] <;> rfl) | (simp [*, errW_none, errW_some] <;> rfl), by repeat (first | (with_reducible first | exact HB.out | apply below_alloc | apply pw_below_drewN | apply below_drew1 | refine below_set ?_ GE162.out) | exact HB.out)⟩
                                        · as_aux_lemma =>
                                          rw [if_neg c83] at H
                                          have c83b0 : (a0_6 == 1) = false := beq_eq_false_iff_ne.mpr c83
                                          have c83b1 : (a0_6 != 1) = true := bne_iff_ne.mpr c83
                                          obtain rfl := Option.some.inj H
                                          have hcz85_0 : wc.cell? ⟨gb162, 0, none⟩ = some (.int .i64 a0_0) := (blk_cell BK162.out 0).trans rfl
                                          have hcz85_1 : wc.cell? ⟨gb162, 1, none⟩ = some (.int .i64 a0_1) := (blk_cell BK162.out 1).trans rfl
                                          have hcz85_2 : wc.cell? ⟨gb162, 2, none⟩ = some (.int .i64 a0_2) := (blk_cell BK162.out 2).trans rfl
                                          have hcz85_3 : wc.cell? ⟨gb162, 3, none⟩ = some (.int .i64 a0_3) := (blk_cell BK162.out 3).trans rfl
                                          have hcz85_4 : wc.cell? ⟨gb162, 4, none⟩ = some (.int .i64 a0_4) := (blk_cell BK162.out 4).trans rfl
                                          have hcz85_5 : wc.cell? ⟨gb162, 5, none⟩ = some (.int .i64 a0_5) := (blk_cell BK162.out 5).trans rfl
                                          have hcz85_6 : wc.cell? ⟨gb162, 6, none⟩ = some (.int .i64 a0_6) := (blk_cell BK162.out 6).trans rfl
                                          have hfz85_0 := blk_frozen BK162.out 0
                                          have hfz85_1 := blk_frozen BK162.out 1
                                          have hfz85_2 := blk_frozen BK162.out 2
                                          have hfz85_3 := blk_frozen BK162.out 3
                                          have hfz85_4 := blk_frozen BK162.out 4
                                          have hfz85_5 := blk_frozen BK162.out 5
                                          have hfz85_6 := blk_frozen BK162.out 6
                                          go_wp2
                                          go_ret
                                          exact ⟨by first | rfl | (simp [errW_none, errW_some] <;> rfl) | (simp [*, errW_none, errW_some] <;> rfl), by repeat (first | (with_reducible first | exact HB.out | apply below_alloc | apply pw_below_drewN | apply below_drew1 | refine below_set ?_ GE162.out) | exact HB.out)⟩
                                    · as_aux_lemma =>
                                      rw [if_neg c70] at H
                                      have c70b0 : (a0_6 == 0) = false := beq_eq_false_iff_ne.mpr c70
                                      have c70b1 : (a0_6 != 0) = true := bne_iff_ne.mpr c70
                                      by_cases c86 : a0_6 = 1
                                      · as_aux_lemma =>
                                        rw [if_pos c86] at H
                                        have c86b0 : (a0_6 == 1) = true := beq_iff_eq.mpr c86
                                        have c86b1 : (a0_6 != 1) = false := bne_eq_false_iff_eq.mpr c86
                                        clear c86
                                        obtain rfl := Option.some.inj H
                                        have hcz87_0 : wc.cell? ⟨gb162, 0, none⟩ = some (.int .i64 a0_0) := (blk_cell BK162.out 0).trans rfl
                                        have hcz87_1 : wc.cell? ⟨gb162, 1, none⟩ = some (.int .i64 a0_1) := (blk_cell BK162.out 1).trans rfl
                                        have hcz87_2 : wc.cell? ⟨gb162, 2, none⟩ = some (.int .i64 a0_2) := (blk_cell BK162.out 2).trans rfl
                                        have hcz87_3 : wc.cell? ⟨gb162, 3, none⟩ = some (.int .i64 a0_3) := (blk_cell BK162.out 3).trans rfl
                                        have hcz87_4 : wc.cell? ⟨gb162, 4, none⟩ = some (.int .i64 a0_4) := (blk_cell BK162.out 4).trans rfl
                                        have hcz87_5 : wc.cell? ⟨gb162, 5, none⟩ = some (.int .i64 a0_5) := (blk_cell BK162.out 5).trans rfl
                                        have hcz87_6 : wc.cell? ⟨gb162, 6, none⟩ = some (.int .i64 a0_6) := (blk_cell BK162.out 6).trans rfl
                                        have hfz87_0 := blk_frozen BK162.out 0
                                        have hfz87_1 := blk_frozen BK162.out 1
                                        have hfz87_2 := blk_frozen BK162.out 2
                                        have hfz87_3 := blk_frozen BK162.out 3
                                        have hfz87_4 := blk_frozen BK162.out 4
                                        have hfz87_5 := blk_frozen BK162.out 5
                                        have hfz87_6 := blk_frozen BK162.out 6
                                        go_wp2
                                        go_ret
                                        exact ⟨by first | rfl | (simp [errW_none, errW_some] <;> rfl) | (simp [*, errW_none, errW_some] <;> rfl), by repeat (first | (with_reducible first | exact HB.out | apply below_alloc | apply pw_below_drewN | apply below_drew1 | refine below_set ?_ GE162.out) | exact HB.out)⟩
                                      · as_aux_lemma =>
                                        rw [if_neg c86] at H
                                        have c86b0 : (a0_6 == 1) = false := beq_eq_false_iff_ne.mpr c86
                                        have c86b1 : (a0_6 != 1) = true := bne_iff_ne.mpr c86
                                        obtain rfl := Option.some.inj H
                                        have hcz88_0 : wc.cell? ⟨gb162, 0, none⟩ = some (.int .i64 a0_0) := (blk_cell BK162.out 0).trans rfl
                                        have hcz88_1 : wc.cell? ⟨gb162, 1, none⟩ = some (.int .i64 a0_1) := (blk_cell BK162.out 1).trans rfl
                                        have hcz88_2 : wc.cell? ⟨gb162, 2, none⟩ = some (.int .i64 a0_2) := (blk_cell BK162.out 2).trans rfl
                                        have hcz88_3 : wc.cell? ⟨gb162, 3, none⟩ = some (.int .i64 a0_3) := (blk_cell BK162.out 3).trans rfl
                                        have hcz88_4 : wc.cell? ⟨gb162, 4, none⟩ = some (.int .i64 a0_4) := (blk_cell BK162.out 4).trans rfl
                                        have hcz88_5 : wc.cell? ⟨gb162, 5, none⟩ = some (.int .i64 a0_5) := (blk_cell BK162.out 5).trans rfl
                                        have hcz88_6 : wc.cell? ⟨gb162, 6, none⟩ = some (.int .i64 a0_6) := (blk_cell BK162.out 6).trans rfl
                                        have hfz88_0 := blk_frozen BK162.out 0
                                        have hfz88_1 := blk_frozen BK162.out 1
                                        have hfz88_2 := blk_frozen BK162.out 2
                                        have hfz88_3 := blk_frozen BK162.out 3
                                        have hfz88_4 := blk_frozen BK162.out 4
                                        have hfz88_5 := blk_frozen BK162.out 5
                                        have hfz88_6 := blk_frozen BK162.out 6
                                        go_wp2
                                        go_ret
                                        exact ⟨by first | rfl | (simp [errW_none, errW_some] <;> rfl) | (simp [*, errW_none, errW_some] <;> rfl), by repeat (first | (with_reducible first | exact HB.out | apply below_alloc | apply pw_below_drewN | apply below_drew1 | refine below_set ?_ GE162.out) | exact HB.out)⟩
                                  · as_aux_lemma =>
                                    rw [if_neg c69] at H
                                    have c69b0 : (a0_1 == 2) = false := by simpa using c69
                                    (try (have c69b1 : decide (a0_1 = 2) = false := by simpa using c69))
                                    (try (have c69b2 : (a0_1 == 2) = false := by simpa using c69))
                                    (try (have c69b3 : ¬ (a0_1 = 2) := by simpa using c69))
                                    clear c69
                                    obtain rfl := Option.some.inj H
                                    go_wp2
                                    go_ret
                                    exact ⟨by first | rfl | (simp [errW_none, errW_some] <;> rfl) | (simp [*, errW_none, errW_some] <;> rfl), by repeat (first | (with_reducible first | exact HB.out | apply below_alloc | apply pw_below_drewN | apply below_drew1 | refine below_set ?_ GE162.out) | exact HB.out)⟩
                                · as_aux_lemma =>
                                  rw [if_neg c68] at H
                                  have c68b0 : (a0_0 == 19) = false := beq_eq_false_iff_ne.mpr c68
                                  have c68b1 : (a0_0 != 19) = true := bne_iff_ne.mpr c68
                                  obtain rfl := Option.some.inj H
                                  go_wp2
                                  go_ret
                                  exact ⟨by first | rfl | (simp [errW_none, errW_some] <;> rfl) | (simp [*, errW_none, errW_some] <;> rfl), by repeat (first | (with_reducible first | exact HB.out | apply below_alloc | apply pw_below_drewN | apply below_drew1 | refine below_set ?_ GE162.out) | exact HB.out)⟩

end Go.Proofs.YtnopjkkglanlfaaDoor.HFnExactTextOf
