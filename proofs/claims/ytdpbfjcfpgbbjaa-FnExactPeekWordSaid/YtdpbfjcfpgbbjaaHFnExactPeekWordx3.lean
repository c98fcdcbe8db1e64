-- out of hprint.py, this session's own program over the kit's print (see NOTES.md); Lean checks it
import Derived.Test.YtdpbfjcfpgbbjaaHFnExactPeekWordx0
import Derived.Test.YtdpbfjcfpgbbjaaHFnExactPeekWordx2
namespace Go.Proofs.Ytdpbfjcfpgbbjaa.HFnExactPeekWord
open Go.RowKit Go.Proofs.YtdpbfjcfpgbbjaaW.PrintWords Go.Proofs.YtdpbfjcfpgbbjaaW.PrintLast Go.Proofs.YtdpbfjcfpgbbjaaW.PrintMore
attribute [local go_sem] max2_int min2_int max_two min_two max_three min_three max_four min_four   -- for this text's walks alone
set_option linter.unusedVariables false
set_option linter.unusedSimpArgs false

/-! ### impl_isAccess: function 103 -/
def impl_isAccess.f (a0_0 : Int) (a0_1 : Int) (a0_2 : Int) (a0_3 : Int) (a0_4 : Int) : Option (Bool) := (impl_within.f a0_0 1 3).bind fun t164 => (if t164 = true then ((impl_isWord.f a0_2).bind fun t165 => (if t165 = true then ((impl_isValue.f a0_1 a0_3).bind fun t166 => (if t166 = true then ((impl_within.f a0_4 0 3).bind fun t167 => (if t167 = true then (if a0_0 = 3 then (some (!(a0_4 == 0))) else (some (!false))) else (some false))) else (some false))) else (some false))) else (some false))
set_option maxHeartbeats 8000000 in
set_option maxRecDepth 100000 in
theorem impl_isAccess.calls (a0_0 : Int) (a0_1 : Int) (a0_2 : Int) (a0_3 : Int) (a0_4 : Int) (r : Bool) (w : World) (h : impl_isAccess.f a0_0 a0_1 a0_2 a0_3 a0_4 = some r) :
    Calls Try.prog 103 #[.agg #[.int .i64 a0_0, .int .i64 a0_1, .int .i64 a0_2, .int .i64 a0_3, .int .i64 a0_4]] w fun e w' => e = .returned (.bool r) ∧ Below w.heap.size w w' := by
  have hu91 := Try.underlying91
  have HB := Aside0.mk (Below.refl w.heap.size w)
  have H : ((impl_within.f a0_0 1 3).bind fun t164 => (if t164 = true then ((impl_isWord.f a0_2).bind fun t165 => (if t165 = true then ((impl_isValue.f a0_1 a0_3).bind fun t166 => (if t166 = true then ((impl_within.f a0_4 0 3).bind fun t167 => (if t167 = true then (if a0_0 = 3 then (some (!(a0_4 == 0))) else (some (!false))) else (some false))) else (some false))) else (some false))) else (some false))) = some r := h
  clear h
  replace H := Option.bind_eq_some_iff.mp H
  obtain ⟨t164, A20, H⟩ := H
  replace H : (if t164 = true then ((impl_isWord.f a0_2).bind fun t165 => (if t165 = true then ((impl_isValue.f a0_1 a0_3).bind fun t166 => (if t166 = true then ((impl_within.f a0_4 0 3).bind fun t167 => (if t167 = true then (if a0_0 = 3 then (some (!(a0_4 == 0))) else (some (!false))) else (some false))) else (some false))) else (some false))) else (some false)) = some r := H
  have A2 := Aside0.mk A20
  clear A20
  by_cases c3 : t164 = true
  · subst c3
    have H1 : ((impl_isWord.f a0_2).bind fun t165 => (if t165 = true then ((impl_isValue.f a0_1 a0_3).bind fun t166 => (if t166 = true then ((impl_within.f a0_4 0 3).bind fun t167 => (if t167 = true then (if a0_0 = 3 then (some (!(a0_4 == 0))) else (some (!false))) else (some false))) else (some false))) else (some false))) = some r := by rw [if_pos rfl] at H; exact H
    clear H
    have H := H1
    clear H1
    replace H := Option.bind_eq_some_iff.mp H
    obtain ⟨t165, A40, H⟩ := H
    replace H : (if t165 = true then ((impl_isValue.f a0_1 a0_3).bind fun t166 => (if t166 = true then ((impl_within.f a0_4 0 3).bind fun t167 => (if t167 = true then (if a0_0 = 3 then (some (!(a0_4 == 0))) else (some (!false))) else (some false))) else (some false))) else (some false)) = some r := H
    have A4 := Aside0.mk A40
    clear A40
    by_cases c5 : t165 = true
    · subst c5
      have H1 : ((impl_isValue.f a0_1 a0_3).bind fun t166 => (if t166 = true then ((impl_within.f a0_4 0 3).bind fun t167 => (if t167 = true then (if a0_0 = 3 then (some (!(a0_4 == 0))) else (some (!false))) else (some false))) else (some false))) = some r := by rw [if_pos rfl] at H; exact H
      clear H
      have H := H1
      clear H1
      replace H := Option.bind_eq_some_iff.mp H
      obtain ⟨t166, A60, H⟩ := H
      replace H : (if t166 = true then ((impl_within.f a0_4 0 3).bind fun t167 => (if t167 = true then (if a0_0 = 3 then (some (!(a0_4 == 0))) else (some (!false))) else (some false))) else (some false)) = some r := H
      have A6 := Aside0.mk A60
      clear A60
      by_cases c7 : t166 = true
      · subst c7
        have H1 : ((impl_within.f a0_4 0 3).bind fun t167 => (if t167 = true then (if a0_0 = 3 then (some (!(a0_4 == 0))) else (some (!false))) else (some false))) = some r := by rw [if_pos rfl] at H; exact H
        clear H
        have H := H1
        clear H1
        replace H := Option.bind_eq_some_iff.mp H
        obtain ⟨t167, A80, H⟩ := H
        replace H : (if t167 = true then (if a0_0 = 3 then (some (!(a0_4 == 0))) else (some (!false))) else (some false)) = some r := H
        have A8 := Aside0.mk A80
        clear A80
        by_cases c9 : t167 = true
        · subst c9
          have H1 : (if a0_0 = 3 then (some (!(a0_4 == 0))) else (some (!false))) = some r := by rw [if_pos rfl] at H; exact H
          clear H
          have H := H1
          clear H1
          by_cases c10 : a0_0 = 3
          · rw [if_pos c10] at H
            have c10b0 : (a0_0 == 3) = true := beq_iff_eq.mpr c10
            have c10b1 : (a0_0 != 3) = false := bne_eq_false_iff_eq.mpr c10
            clear c10
            obtain rfl := Option.some.inj H
            go_enter Try.func103, Try.ntmps103
            go_wp2_with (first | ((with_reducible refine gate_dst (N := 1) rfl ?_); refine box_event ?hg (N := 1) ?hd (cs := #[.int .i64 a0_0, .int .i64 a0_1, .int .i64 a0_2, .int .i64 a0_3, .int .i64 a0_4]) (t := 91) ?hr ?_; (case hd => rfl); (case hg => rfl); (case hr => first | (go_simp; done) | (go_simp; rfl)); intro gb163 hg w11 hbox hb; have n0_ := Aside0.mk (below_step (by repeat (first | (with_reducible first | exact HB.out | apply below_alloc | apply pw_below_drewN | apply below_drew1) | exact HB.out)) hb); have n1_ := Aside0.mk (hbox); have n2_ := Aside0.mk ((by rw [hg]; exact (below_size (by repeat (first | (with_reducible first | exact HB.out | apply below_alloc | apply pw_below_drewN | apply below_drew1) | exact HB.out))) : w.heap.size ≤ gb163)); have n3_ := Aside0.mk ((by rw [hg]; exact (below_size (by repeat (first | (with_reducible first | exact HB.out | apply below_alloc | apply pw_below_drewN | apply below_drew1) | exact HB.out))) : w.heap.size ≤ gb163)); clear HB; have HB := n0_; have BK163 := n1_; have GW163 := n2_; have GE163 := n3_; clear n0_ n1_ n2_ n3_; clear hb hbox hg; have hcz12_0 : w11.cell? ⟨gb163, 0, none⟩ = some (.int .i64 a0_0) := (blk_cell BK163.out 0).trans rfl; have hcz12_1 : w11.cell? ⟨gb163, 1, none⟩ = some (.int .i64 a0_1) := (blk_cell BK163.out 1).trans rfl; have hcz12_2 : w11.cell? ⟨gb163, 2, none⟩ = some (.int .i64 a0_2) := (blk_cell BK163.out 2).trans rfl; have hcz12_3 : w11.cell? ⟨gb163, 3, none⟩ = some (.int .i64 a0_3) := (blk_cell BK163.out 3).trans rfl; have hcz12_4 : w11.cell? ⟨gb163, 4, none⟩ = some (.int .i64 a0_4) := (blk_cell BK163.out 4).trans rfl; have hfz12_0 := blk_frozen BK163.out 0; have hfz12_1 := blk_frozen BK163.out 1; have hfz12_2 := blk_frozen BK163.out 2; have hfz12_3 := blk_frozen BK163.out 3; have hfz12_4 := blk_frozen BK163.out 4) | ((with_reducible refine gate_callee (f := 51) rfl ?_); refine goesL_ (some 5) rfl rfl Try.func51 (by kernel_rfl) rfl #[.int .i64 a0_0, .int .i64 1, .int .i64 3] rfl (by (try simp only [List.map_toArray, List.map_cons, List.map_nil]); first | done | rfl | (simp only [List.length_drop, List.length_take]; rfl)) ?_; (with_reducible refine (impl_within.calls a0_0 1 3 true _ A2.out).mono ?_); rintro e w' ⟨rfl, ⟨nd, rfl⟩⟩; refine ⟨_, rfl, ?_⟩) | (go_at_call 39; (with_reducible refine (impl_isWord.calls a0_2 true _ A4.out).mono ?_); rintro e w' ⟨rfl, ⟨nd, rfl⟩⟩) | (go_at_call 59; (with_reducible refine (impl_isValue.calls a0_1 a0_3 true _ A6.out).mono ?_); rintro e w' ⟨rfl, ⟨nd, rfl⟩⟩) | (go_at_call 51; (with_reducible refine (impl_within.calls a0_4 0 3 true _ A8.out).mono ?_); rintro e w' ⟨rfl, ⟨nd, rfl⟩⟩))
            go_ret
            exact ⟨by first | rfl | (simp [errW_none, errW_some] <;> rfl) | (simp [*, errW_none, errW_some] <;> rfl), by repeat (first | (with_reducible first | exact HB.out | apply below_alloc | apply pw_below_drewN | apply below_drew1 | refine below_set ?_ GE163.out) | exact HB.out)⟩
          · rw [if_neg c10] at H
            have c10b0 : (a0_0 == 3) = false := beq_eq_false_iff_ne.mpr c10
            have c10b1 : (a0_0 != 3) = true := bne_iff_ne.mpr c10
            obtain rfl := Option.some.inj H
            go_enter Try.func103, Try.ntmps103
            go_wp2_with (first | ((with_reducible refine gate_dst (N := 1) rfl ?_); refine box_event ?hg (N := 1) ?hd (cs := #[.int .i64 a0_0, .int .i64 a0_1, .int .i64 a0_2, .int .i64 a0_3, .int .i64 a0_4]) (t := 91) ?hr ?_; (case hd => rfl); (case hg => rfl); (case hr => first | (go_simp; done) | (go_simp; rfl)); intro gb163 hg w13 hbox hb; have n0_ := Aside0.mk (below_step (by repeat (first | (with_reducible first | exact HB.out | apply below_alloc | apply pw_below_drewN | apply below_drew1) | exact HB.out)) hb); have n1_ := Aside0.mk (hbox); have n2_ := Aside0.mk ((by rw [hg]; exact (below_size (by repeat (first | (with_reducible first | exact HB.out | apply below_alloc | apply pw_below_drewN | apply below_drew1) | exact HB.out))) : w.heap.size ≤ gb163)); have n3_ := Aside0.mk ((by rw [hg]; exact (below_size (by repeat (first | (with_reducible first | exact HB.out | apply below_alloc | apply pw_below_drewN | apply below_drew1) | exact HB.out))) : w.heap.size ≤ gb163)); clear HB; have HB := n0_; have BK163 := n1_; have GW163 := n2_; have GE163 := n3_; clear n0_ n1_ n2_ n3_; clear hb hbox hg; have hcz14_0 : w13.cell? ⟨gb163, 0, none⟩ = some (.int .i64 a0_0) := (blk_cell BK163.out 0).trans rfl; have hcz14_1 : w13.cell? ⟨gb163, 1, none⟩ = some (.int .i64 a0_1) := (blk_cell BK163.out 1).trans rfl; have hcz14_2 : w13.cell? ⟨gb163, 2, none⟩ = some (.int .i64 a0_2) := (blk_cell BK163.out 2).trans rfl; have hcz14_3 : w13.cell? ⟨gb163, 3, none⟩ = some (.int .i64 a0_3) := (blk_cell BK163.out 3).trans rfl; have hcz14_4 : w13.cell? ⟨gb163, 4, none⟩ = some (.int .i64 a0_4) := (blk_cell BK163.out 4).trans rfl; have hfz14_0 := blk_frozen BK163.out 0; have hfz14_1 := blk_frozen BK163.out 1; have hfz14_2 := blk_frozen BK163.out 2; have hfz14_3 := blk_frozen BK163.out 3; have hfz14_4 := blk_frozen BK163.out 4) | ((with_reducible refine gate_callee (f := 51) rfl ?_); refine goesL_ (some 5) rfl rfl Try.func51 (by kernel_rfl) rfl #[.int .i64 a0_0, .int .i64 1, .int .i64 3] rfl (by (try simp only [List.map_toArray, List.map_cons, List.map_nil]); first | done | rfl | (simp only [List.length_drop, List.length_take]; rfl)) ?_; (with_reducible refine (impl_within.calls a0_0 1 3 true _ A2.out).mono ?_); rintro e w' ⟨rfl, ⟨nd, rfl⟩⟩; refine ⟨_, rfl, ?_⟩) | (go_at_call 39; (with_reducible refine (impl_isWord.calls a0_2 true _ A4.out).mono ?_); rintro e w' ⟨rfl, ⟨nd, rfl⟩⟩) | (go_at_call 59; (with_reducible refine (impl_isValue.calls a0_1 a0_3 true _ A6.out).mono ?_); rintro e w' ⟨rfl, ⟨nd, rfl⟩⟩) | (go_at_call 51; (with_reducible refine (impl_within.calls a0_4 0 3 true _ A8.out).mono ?_); rintro e w' ⟨rfl, ⟨nd, rfl⟩⟩))
            go_ret
            exact ⟨by first | rfl | (simp [errW_none, errW_some] <;> rfl) | (simp [*, errW_none, errW_some] <;> rfl), by repeat (first | (with_reducible first | exact HB.out | apply below_alloc | apply pw_below_drewN | apply below_drew1 | refine below_set ?_ GE163.out) | exact HB.out)⟩
        · replace c9 := Bool.eq_false_iff.mpr c9
          subst c9
          have H1 : (some false) = some r := by rw [if_neg (show ¬ (false = true) by decide)] at H; exact H
          clear H
          have H := H1
          clear H1
          obtain rfl := Option.some.inj H
          go_enter Try.func103, Try.ntmps103
          go_wp2_with (first | ((with_reducible refine gate_dst (N := 1) rfl ?_); refine box_event ?hg (N := 1) ?hd (cs := #[.int .i64 a0_0, .int .i64 a0_1, .int .i64 a0_2, .int .i64 a0_3, .int .i64 a0_4]) (t := 91) ?hr ?_; (case hd => rfl); (case hg => rfl); (case hr => first | (go_simp; done) | (go_simp; rfl)); intro gb163 hg w15 hbox hb; have n0_ := Aside0.mk (below_step (by repeat (first | (with_reducible first | exact HB.out | apply below_alloc | apply pw_below_drewN | apply below_drew1) | exact HB.out)) hb); have n1_ := Aside0.mk (hbox); have n2_ := Aside0.mk ((by rw [hg]; exact (below_size (by repeat (first | (with_reducible first | exact HB.out | apply below_alloc | apply pw_below_drewN | apply below_drew1) | exact HB.out))) : w.heap.size ≤ gb163)); have n3_ := Aside0.mk ((by rw [hg]; exact (below_size (by repeat (first | (with_reducible first | exact HB.out | apply below_alloc | apply pw_below_drewN | apply below_drew1) | exact HB.out))) : w.heap.size ≤ gb163)); clear HB; have HB := n0_; have BK163 := n1_; have GW163 := n2_; have GE163 := n3_; clear n0_ n1_ n2_ n3_; clear hb hbox hg; have hcz16_0 : w15.cell? ⟨gb163, 0, none⟩ = some (.int .i64 a0_0) := (blk_cell BK163.out 0).trans rfl; have hcz16_1 : w15.cell? ⟨gb163, 1, none⟩ = some (.int .i64 a0_1) := (blk_cell BK163.out 1).trans rfl; have hcz16_2 : w15.cell? ⟨gb163, 2, none⟩ = some (.int .i64 a0_2) := (blk_cell BK163.out 2).trans rfl; have hcz16_3 : w15.cell? ⟨gb163, 3, none⟩ = some (.int .i64 a0_3) := (blk_cell BK163.out 3).trans rfl; have hcz16_4 : w15.cell? ⟨gb163, 4, none⟩ = some (.int .i64 a0_4) := (blk_cell BK163.out 4).trans rfl; have hfz16_0 := blk_frozen BK163.out 0; have hfz16_1 := blk_frozen BK163.out 1; have hfz16_2 := blk_frozen BK163.out 2; have hfz16_3 := blk_frozen BK163.out 3; have hfz16_4 := blk_frozen BK163.out 4) | ((with_reducible refine gate_callee (f := 51) rfl ?_); refine goesL_ (some 5) rfl rfl Try.func51 (by kernel_rfl) rfl #[.int .i64 a0_0, .int .i64 1, .int .i64 3] rfl (by (try simp only [List.map_toArray, List.map_cons, List.map_nil]); first | done | rfl | (simp only [List.length_drop, List.length_take]; rfl)) ?_; (with_reducible refine (impl_within.calls a0_0 1 3 true _ A2.out).mono ?_); rintro e w' ⟨rfl, ⟨nd, rfl⟩⟩; refine ⟨_, rfl, ?_⟩) | (go_at_call 39; (with_reducible refine (impl_isWord.calls a0_2 true _ A4.out).mono ?_); rintro e w' ⟨rfl, ⟨nd, rfl⟩⟩) | (go_at_call 59; (with_reducible refine (impl_isValue.calls a0_1 a0_3 true _ A6.out).mono ?_); rintro e w' ⟨rfl, ⟨nd, rfl⟩⟩) | (go_at_call 51; (with_reducible refine (impl_within.calls a0_4 0 3 false _ A8.out).mono ?_); rintro e w' ⟨rfl, ⟨nd, rfl⟩⟩))
          go_ret
          exact ⟨by first | rfl | (simp [errW_none, errW_some] <;> rfl) | (simp [*, errW_none, errW_some] <;> rfl), by repeat (first | (with_reducible first | exact HB.out | apply below_alloc | apply pw_below_drewN | apply below_drew1 | refine below_set ?_ GE163.out) | exact HB.out)⟩
      · replace c7 := Bool.eq_false_iff.mpr c7
        subst c7
        have H1 : (some false) = some r := by rw [if_neg (show ¬ (false = true) by decide)] at H; exact H
        clear H
        have H := H1
        clear H1
        obtain rfl := Option.some.inj H
        go_enter Try.func103, Try.ntmps103
        go_wp2_with (first | ((with_reducible refine gate_dst (N := 1) rfl ?_); refine box_event ?hg (N := 1) ?hd (cs := #[.int .i64 a0_0, .int .i64 a0_1, .int .i64 a0_2, .int .i64 a0_3, .int .i64 a0_4]) (t := 91) ?hr ?_; (case hd => rfl); (case hg => rfl); (case hr => first | (go_simp; done) | (go_simp; rfl)); intro gb163 hg w17 hbox hb; have n0_ := Aside0.mk (below_step (by repeat (first | (with_reducible first | exact HB.out | apply below_alloc | apply pw_below_drewN | apply below_drew1) | exact HB.out)) hb); have n1_ := Aside0.mk (hbox); have n2_ := Aside0.mk ((by rw [hg]; exact (below_size (by repeat (first | (with_reducible first | exact HB.out | apply below_alloc | apply pw_below_drewN | apply below_drew1) | exact HB.out))) : w.heap.size ≤ gb163)); have n3_ := Aside0.mk ((by rw [hg]; exact (below_size (by repeat (first | (with_reducible first | exact HB.out | apply below_alloc | apply pw_below_drewN | apply below_drew1) | exact HB.out))) : w.heap.size ≤ gb163)); clear HB; have HB := n0_; have BK163 := n1_; have GW163 := n2_; have GE163 := n3_; clear n0_ n1_ n2_ n3_; clear hb hbox hg; have hcz18_0 : w17.cell? ⟨gb163, 0, none⟩ = some (.int .i64 a0_0) := (blk_cell BK163.out 0).trans rfl; have hcz18_1 : w17.cell? ⟨gb163, 1, none⟩ = some (.int .i64 a0_1) := (blk_cell BK163.out 1).trans rfl; have hcz18_2 : w17.cell? ⟨gb163, 2, none⟩ = some (.int .i64 a0_2) := (blk_cell BK163.out 2).trans rfl; have hcz18_3 : w17.cell? ⟨gb163, 3, none⟩ = some (.int .i64 a0_3) := (blk_cell BK163.out 3).trans rfl; have hcz18_4 : w17.cell? ⟨gb163, 4, none⟩ = some (.int .i64 a0_4) := (blk_cell BK163.out 4).trans rfl; have hfz18_0 := blk_frozen BK163.out 0; have hfz18_1 := blk_frozen BK163.out 1; have hfz18_2 := blk_frozen BK163.out 2; have hfz18_3 := blk_frozen BK163.out 3; have hfz18_4 := blk_frozen BK163.out 4) | ((with_reducible refine gate_callee (f := 51) rfl ?_); refine goesL_ (some 5) rfl rfl Try.func51 (by kernel_rfl) rfl #[.int .i64 a0_0, .int .i64 1, .int .i64 3] rfl (by (try simp only [List.map_toArray, List.map_cons, List.map_nil]); first | done | rfl | (simp only [List.length_drop, List.length_take]; rfl)) ?_; (with_reducible refine (impl_within.calls a0_0 1 3 true _ A2.out).mono ?_); rintro e w' ⟨rfl, ⟨nd, rfl⟩⟩; refine ⟨_, rfl, ?_⟩) | (go_at_call 39; (with_reducible refine (impl_isWord.calls a0_2 true _ A4.out).mono ?_); rintro e w' ⟨rfl, ⟨nd, rfl⟩⟩) | (go_at_call 59; (with_reducible refine (impl_isValue.calls a0_1 a0_3 false _ A6.out).mono ?_); rintro e w' ⟨rfl, ⟨nd, rfl⟩⟩))
        go_ret
        exact ⟨by first | rfl | (simp [errW_none, errW_some] <;> rfl) | (simp [*, errW_none, errW_some] <;> rfl), by repeat (first | (with_reducible first | exact HB.out | apply below_alloc | apply pw_below_drewN | apply below_drew1 | refine below_set ?_ GE163.out) | exact HB.out)⟩
    · replace c5 := Bool.eq_false_iff.mpr c5
      subst c5
      have H1 : (some false) = some r := by rw [if_neg (show ¬ (false = true) by decide)] at H; exact H
      clear H
      have H := H1
      clear H1
      obtain rfl := Option.some.inj H
      go_enter Try.func103, Try.ntmps103
      go_wp2_with (first | ((with_reducible refine gate_dst (N := 1) rfl ?_); refine box_event ?hg (N := 1) ?hd (cs := #[.int .i64 a0_0, .int .i64 a0_1, .int .i64 a0_2, .int .i64 a0_3, .int .i64 a0_4]) (t := 91) ?hr ?_; (case hd => rfl); (case hg => rfl); (case hr => first | (go_simp; done) | (go_simp; rfl)); intro gb163 hg w19 hbox hb; have n0_ := Aside0.mk (below_step (by repeat (first | (with_reducible first | exact HB.out | apply below_alloc | apply pw_below_drewN | apply below_drew1) | exact HB.out)) hb); have n1_ := Aside0.mk (hbox); have n2_ := Aside0.mk ((by rw [hg]; exact (below_size (by repeat (first | (with_reducible first | exact HB.out | apply below_alloc | apply pw_below_drewN | apply below_drew1) | exact HB.out))) : w.heap.size ≤ gb163)); have n3_ := Aside0.mk ((by rw [hg]; exact (below_size (by repeat (first | (with_reducible first | exact HB.out | apply below_alloc | apply pw_below_drewN | apply below_drew1) | exact HB.out))) : w.heap.size ≤ gb163)); clear HB; have HB := n0_; have BK163 := n1_; have GW163 := n2_; have GE163 := n3_; clear n0_ n1_ n2_ n3_; clear hb hbox hg; have hcz20_0 : w19.cell? ⟨gb163, 0, none⟩ = some (.int .i64 a0_0) := (blk_cell BK163.out 0).trans rfl; have hcz20_1 : w19.cell? ⟨gb163, 1, none⟩ = some (.int .i64 a0_1) := (blk_cell BK163.out 1).trans rfl; have hcz20_2 : w19.cell? ⟨gb163, 2, none⟩ = some (.int .i64 a0_2) := (blk_cell BK163.out 2).trans rfl; have hcz20_3 : w19.cell? ⟨gb163, 3, none⟩ = some (.int .i64 a0_3) := (blk_cell BK163.out 3).trans rfl; have hcz20_4 : w19.cell? ⟨gb163, 4, none⟩ = some (.int .i64 a0_4) := (blk_cell BK163.out 4).trans rfl; have hfz20_0 := blk_frozen BK163.out 0; have hfz20_1 := blk_frozen BK163.out 1; have hfz20_2 := blk_frozen BK163.out 2; have hfz20_3 := blk_frozen BK163.out 3; have hfz20_4 := blk_frozen BK163.out 4) | ((with_reducible refine gate_callee (f := 51) rfl ?_); refine goesL_ (some 5) rfl rfl Try.func51 (by kernel_rfl) rfl #[.int .i64 a0_0, .int .i64 1, .int .i64 3] rfl (by (try simp only [List.map_toArray, List.map_cons, List.map_nil]); first | done | rfl | (simp only [List.length_drop, List.length_take]; rfl)) ?_; (with_reducible refine (impl_within.calls a0_0 1 3 true _ A2.out).mono ?_); rintro e w' ⟨rfl, ⟨nd, rfl⟩⟩; refine ⟨_, rfl, ?_⟩) | (go_at_call 39; (with_reducible refine (impl_isWord.calls a0_2 false _ A4.out).mono ?_); rintro e w' ⟨rfl, ⟨nd, rfl⟩⟩))
      go_ret
      exact ⟨by first | rfl | (simp [errW_none, errW_some] <;> rfl) | (simp [*, errW_none, errW_some] <;> rfl), by repeat (first | (with_reducible first | exact HB.out | apply below_alloc | apply pw_below_drewN | apply below_drew1 | refine below_set ?_ GE163.out) | exact HB.out)⟩
  · replace c3 := Bool.eq_false_iff.mpr c3
    subst c3
    have H1 : (some false) = some r := by rw [if_neg (show ¬ (false = true) by decide)] at H; exact H
    clear H
    have H := H1
    clear H1
    obtain rfl := Option.some.inj H
    go_enter Try.func103, Try.ntmps103
    go_wp2_with (first | ((with_reducible refine gate_dst (N := 1) rfl ?_); refine box_event ?hg (N := 1) ?hd (cs := #[.int .i64 a0_0, .int .i64 a0_1, .int .i64 a0_2, .int .i64 a0_3, .int .i64 a0_4]) (t := 91) ?hr ?_; (case hd => rfl); (case hg => rfl); (case hr => first | (go_simp; done) | (go_simp; rfl)); intro gb163 hg w21 hbox hb; have n0_ := Aside0.mk (below_step (by repeat (first | (with_reducible first | exact HB.out | apply below_alloc | apply pw_below_drewN | apply below_drew1) | exact HB.out)) hb); have n1_ := Aside0.mk (hbox); have n2_ := Aside0.mk ((by rw [hg]; exact (below_size (by repeat (first | (with_reducible first | exact HB.out | apply below_alloc | apply pw_below_drewN | apply below_drew1) | exact HB.out))) : w.heap.size ≤ gb163)); have n3_ := Aside0.mk ((by rw [hg]; exact (below_size (by repeat (first | (with_reducible first | exact HB.out | apply below_alloc | apply pw_below_drewN | apply below_drew1) | exact HB.out))) : w.heap.size ≤ gb163)); clear HB; have HB := n0_; have BK163 := n1_; have GW163 := n2_; have GE163 := n3_; clear n0_ n1_ n2_ n3_; clear hb hbox hg; have hcz22_0 : w21.cell? ⟨gb163, 0, none⟩ = some (.int .i64 a0_0) := (blk_cell BK163.out 0).trans rfl; have hcz22_1 : w21.cell? ⟨gb163, 1, none⟩ = some (.int .i64 a0_1) := (blk_cell BK163.out 1).trans rfl; have hcz22_2 : w21.cell? ⟨gb163, 2, none⟩ = some (.int .i64 a0_2) := (blk_cell BK163.out 2).trans rfl; have hcz22_3 : w21.cell? ⟨gb163, 3, none⟩ = some (.int .i64 a0_3) := (blk_cell BK163.out 3).trans rfl; have hcz22_4 : w21.cell? ⟨gb163, 4, none⟩ = some (.int .i64 a0_4) := (blk_cell BK163.out 4).trans rfl; have hfz22_0 := blk_frozen BK163.out 0; have hfz22_1 := blk_frozen BK163.out 1; have hfz22_2 := blk_frozen BK163.out 2; have hfz22_3 := blk_frozen BK163.out 3; have hfz22_4 := blk_frozen BK163.out 4) | ((with_reducible refine gate_callee (f := 51) rfl ?_); refine goesL_ (some 5) rfl rfl Try.func51 (by kernel_rfl) rfl #[.int .i64 a0_0, .int .i64 1, .int .i64 3] rfl (by (try simp only [List.map_toArray, List.map_cons, List.map_nil]); first | done | rfl | (simp only [List.length_drop, List.length_take]; rfl)) ?_; (with_reducible refine (impl_within.calls a0_0 1 3 false _ A2.out).mono ?_); rintro e w' ⟨rfl, ⟨nd, rfl⟩⟩; refine ⟨_, rfl, ?_⟩))
    go_ret
    exact ⟨by first | rfl | (simp [errW_none, errW_some] <;> rfl) | (simp [*, errW_none, errW_some] <;> rfl), by repeat (first | (with_reducible first | exact HB.out | apply below_alloc | apply pw_below_drewN | apply below_drew1 | refine below_set ?_ GE163.out) | exact HB.out)⟩

-- NOT PRINTED: function 102 (impl_GoodBus_2)

/-! ### impl_GoodBus: function 66 -/
/-- Is a number none of the good ones? -/
def impl_GoodBus.bad (v : Int) : Bool := !(decide (0 ≤ v ∧ v ≤ 255))
theorem impl_GoodBus.told (v : Int) : impl_within.f v 0 255 = some (!impl_GoodBus.bad v) := by
  unfold impl_GoodBus.bad impl_within.f
  by_cases h : v ≥ 0 <;> simp [h, Int.not_le]
theorem impl_GoodBus.closure (v : Int) (w : World) : Calls Try.prog 100 #[.int .i64 v] w fun e w' => e = .returned (.bool (impl_GoodBus.bad v)) ∧ Drawn0 w w' := by
  have HT := Aside0.mk (impl_GoodBus.told v)
  obtain ⟨b, hb⟩ : ∃ b, b = impl_GoodBus.bad v := ⟨_, rfl⟩
  rw [← hb] at HT ⊢
  clear hb
  go_enter Try.func100, Try.ntmps100
  go_wp2_with (go_at_call 51; refine (impl_within.calls v 0 255 (!b) _ HT.out).mono ?_; rintro e w' ⟨rfl, ⟨nd, rfl⟩⟩)
  go_ret
  exact ⟨by simp, by repeat (first | exact Drawn0.refl _ | apply Drawn0.step)⟩
/-- The place of the first bad one: at least 0 just where there is one. -/
def impl_GoodBus.Idx (l : List Int) (e : Ending) : Prop := ∃ i : Int, e = .returned (.int .i64 i) ∧ decide (0 ≤ i) = l.any impl_GoodBus.bad
theorem impl_GoodBus.any_true {l : List Int} {i : Nat} (h : i < l.length) (hb : impl_GoodBus.bad (l.getD i 0) = true) : l.any impl_GoodBus.bad = true := by
  rw [List.any_eq_true]
  exact ⟨l[i], List.getElem_mem h, by simpa [List.getD, List.getElem?_eq_getElem h] using hb⟩
theorem impl_GoodBus.any_false {l : List Int} (h : ∀ j, j < l.length → impl_GoodBus.bad (l.getD j 0) = false) : l.any impl_GoodBus.bad = false := by
  rw [List.any_eq_false]
  intro x hx
  obtain ⟨j, hj, rfl⟩ := List.getElem_of_mem hx
  have := h j hj
  simpa [List.getD, List.getElem?_eq_getElem hj] using this
set_option maxHeartbeats 4000000 in
set_option maxRecDepth 100000 in
theorem impl_GoodBus.index (A0 : Option Addr) (c0 : Nat) (l0 : List Int) (w : World) (hr0 : Kd.C (Kd.int .i64) w A0 l0.length l0) (hc0 : l0.length ≤ c0) :
    Calls Try.prog 112 #[.slice A0 l0.length c0, .func (.func 100) #[] #[]] w fun e w' => impl_GoodBus.Idx l0 e ∧ Drawn0 w w' := by
  have HR0 := Aside0.mk hr0
  have HC0 := Aside0.mk hc0
  have hlen := hr0.2.1
  clear hr0 hc0
  go_enter Try.func112, Try.ntmps112
  go_wp2
  go_loopg [8] l0.length (fun d v8 w' => ∃ i : Nat, v8 = .int .i64 (i : Int) ∧ Aside0 (i + d = l0.length) ∧ Aside0 (∀ j, j < i → impl_GoodBus.bad (l0.getD j 0) = false) ∧ Drawn0 w w')
  case atStart => exact ⟨0, (by first | rfl | (simp; done)), ⟨by omega⟩, ⟨fun j hj => absurd hj (by omega)⟩, by repeat (first | exact Drawn0.refl _ | apply Drawn0.step)⟩
  case round =>
    obtain ⟨i, rfl, HA, HB, ⟨m, rfl⟩⟩ := hrel
    cases gk with
    | zero =>
      have hi := HA.out
      have hge : ¬ ((i : Int) < (l0.length : Int)) := by omega
      have c0b : decide ((i : Int) < (l0.length : Int)) = false := decide_eq_false hge
      have c0n : decide (i < l0.length) = false := decide_eq_false (by omega)
      clear hge hi
      go_wp2
      go_ret
      exact ⟨⟨-1, rfl, by rw [impl_GoodBus.any_false (fun j hj => HB.out j (by have := HA.out; omega))]; rfl⟩, by repeat (first | exact Drawn0.refl _ | apply Drawn0.step)⟩
    | succ d =>
      have hi : i < l0.length := by have := HA.out; omega
      have c0b : decide ((i : Int) < (l0.length : Int)) = true := decide_eq_true (by omega)
      have c0n : decide (i < l0.length) = true := decide_eq_true hi
      have p0 : 0 ≤ (i : Int) := by omega
      have q0 : (i : Int) < (l0.length : Int) := by omega
      obtain ⟨ad, e0, hx⟩ := Kd.at_int HR0.out (i : Int) p0 q0
      cases e0
      rw [Int.toNat_natCast] at hx
      have hv : rd l0 (i : Int) = l0.getD i 0 := by unfold rd; rw [Int.toNat_natCast]
      rw [hv] at hx
      clear hv
      replace p0 := eq_true p0
      replace q0 := eq_true q0
      have hcl := Aside0.mk (fun W => impl_GoodBus.closure (l0.getD i 0) W)
      cases hb : impl_GoodBus.bad (l0.getD i 0) with
      | true =>
        have HT := Aside0.mk (impl_GoodBus.any_true hi hb)
        rw [hb] at hcl
        clear hb
        generalize l0.getD i 0 = v at hx hcl
        go_wp2_with (go_at_call 100; refine (hcl.out _).mono ?_; rintro e w' ⟨rfl, ⟨nd, rfl⟩⟩)
        go_ret
        exact ⟨⟨i, rfl, by rw [HT.out]; exact decide_eq_true (by omega)⟩, by repeat (first | exact Drawn0.refl _ | apply Drawn0.step)⟩
      | false =>
        have HN := Aside0.mk hb
        rw [hb] at hcl
        clear hb
        obtain ⟨v, hvv⟩ : ∃ v, v = l0.getD i 0 := ⟨_, rfl⟩
        rw [← hvv] at hx hcl
        have HV := Aside0.mk hvv
        clear hvv
        go_wp2_with (go_at_call 100; refine (hcl.out _).mono ?_; rintro e w' ⟨rfl, ⟨nd, rfl⟩⟩)
        go_roundg d
        case measure => omega
        case rel => exact ⟨i + 1, (by first | rfl | go_num | (simp; done)), ⟨by have := HA.out; omega⟩, ⟨fun j hj => (Nat.lt_succ_iff_lt_or_eq.mp hj).elim (fun h => HB.out j h) (fun h => by rw [h]; exact HN.out)⟩, by repeat (first | exact Drawn0.refl _ | apply Drawn0.step)⟩
set_option maxHeartbeats 4000000 in
set_option maxRecDepth 100000 in
theorem impl_GoodBus.contains (A0 : Option Addr) (c0 : Nat) (l0 : List Int) (w : World) (hr0 : Kd.C (Kd.int .i64) w A0 l0.length l0) (hc0 : l0.length ≤ c0) :
    Calls Try.prog 99 #[.slice A0 l0.length c0, .func (.func 100) #[] #[]] w fun e w' => e = .returned (.bool (l0.any impl_GoodBus.bad)) ∧ Drawn0 w w' := by
  have h := impl_GoodBus.index A0 c0 l0 w hr0 hc0
  have H := Aside0.mk h
  clear h hr0 hc0
  go_enter Try.func99, Try.ntmps99
  go_wp2_with (go_at_call 112; refine H.out.mono ?_; rintro e w' ⟨⟨i, rfl, hi⟩, ⟨nd, rfl⟩⟩; have HI := Aside0.mk hi; clear hi)
  go_ret
  exact ⟨by rw [← HI.out]; first | rfl | (simp; done), by repeat (first | exact Drawn0.refl _ | apply Drawn0.step)⟩
/-- Is an element none of the good ones? -/
def impl_GoodBus.badS (x : S91) : Bool := !((decide (1 ≤ x.f0 ∧ x.f0 ≤ 3) && decide (0 ≤ x.f2 ∧ x.f2 ≤ 65535)) && (decide ((x.f1 = 1 ∧ 0 ≤ x.f3 ∧ x.f3 ≤ 255) ∨ (x.f1 = 2 ∧ 0 ≤ x.f3 ∧ x.f3 ≤ 65535)) && (decide (0 ≤ x.f4 ∧ x.f4 ≤ 3) && !(decide (x.f0 = 3 ∧ x.f4 = 0)))))
theorem impl_GoodBus.within_ (a b c : Int) : impl_within.f a b c = some (decide (b ≤ a ∧ a ≤ c)) := by
  unfold impl_within.f
  by_cases h : b ≤ a <;> simp [h]
theorem impl_GoodBus.lim_1 : impl_limitOf.f 1 = some 256 := by decide +kernel
theorem impl_GoodBus.lim_2 : impl_limitOf.f 2 = some 65536 := by decide +kernel
theorem impl_GoodBus.value_ (s v : Int) : impl_isValue.f s v = some (decide ((s = 1 ∧ 0 ≤ v ∧ v ≤ 255) ∨ (s = 2 ∧ 0 ≤ v ∧ v ≤ 65535))) := by
  unfold impl_isValue.f impl_isSize.f
  by_cases h1 : s = 1
  · subst h1
    rw [if_pos rfl, Option.bind_some, if_pos rfl, impl_GoodBus.lim_1, Option.bind_some, show wrap64 (256 - 1) = 255 from by decide +kernel, impl_GoodBus.within_, Option.bind_some]
    simp
  · by_cases h2 : s = 2
    · subst h2
      rw [if_neg h1, Option.bind_some, if_pos (by decide), impl_GoodBus.lim_2, Option.bind_some, show wrap64 (65536 - 1) = 65535 from by decide +kernel, impl_GoodBus.within_, Option.bind_some]
      simp
    · simp [h1, h2]
theorem impl_GoodBus.toldS (x : S91) : ∃ _k : Unit, impl_isAccess.f x.f0 x.f1 x.f2 x.f3 x.f4 = some (!impl_GoodBus.badS x) := by
  refine ⟨(), ?_⟩
  unfold impl_isAccess.f impl_isWord.f impl_GoodBus.badS
  simp only [impl_GoodBus.within_, impl_GoodBus.value_, Option.bind_some, Bool.not_not]
  by_cases h1 : 1 ≤ x.f0 ∧ x.f0 ≤ 3
  · by_cases h2 : 0 ≤ x.f2 ∧ x.f2 ≤ 65535
    · by_cases h3 : (x.f1 = 1 ∧ 0 ≤ x.f3 ∧ x.f3 ≤ 255) ∨ (x.f1 = 2 ∧ 0 ≤ x.f3 ∧ x.f3 ≤ 65535)
      · by_cases h4 : 0 ≤ x.f4 ∧ x.f4 ≤ 3
        · by_cases h5 : x.f0 = 3
          · by_cases h6 : x.f4 = 0 <;> simp [h1, h2, h3, h4, h5, h6]
          · simp [h1, h2, h3, h4, h5]
        · simp [h1, h2, h3, h4]
      · simp [h1, h2, h3]
    · simp [h1, h2]
  · simp [h1]
theorem impl_GoodBus.closureS (x : S91) (w : World) : Calls Try.prog 102 #[.agg #[.int .i64 x.f0, .int .i64 x.f1, .int .i64 x.f2, .int .i64 x.f3, .int .i64 x.f4]] w fun e w' => e = .returned (.bool (impl_GoodBus.badS x)) ∧ Below w.heap.size w w' := by
  obtain ⟨k_, hk⟩ := impl_GoodBus.toldS x
  have HT := Aside0.mk hk
  clear hk
  obtain ⟨b, hb⟩ : ∃ b, b = impl_GoodBus.badS x := ⟨_, rfl⟩
  rw [← hb] at HT ⊢
  clear hb
  have hu := Try.underlying91
  go_enter Try.func102, Try.ntmps102
  go_wp2_with (go_at_call 103; refine (impl_isAccess.calls x.f0 x.f1 x.f2 x.f3 x.f4 (!b) _ HT.out).mono ?_; rintro e w' ⟨rfl, hb2⟩)
  go_ret
  exact ⟨by simp, below_then (by repeat (with_reducible first | exact Below.refl _ _ | apply below_alloc | apply pw_below_drewN | apply below_drew1)) (by simp <;> omega) hb2⟩
def impl_GoodBus.IdxS (l : List S91) (e : Ending) : Prop := ∃ i : Int, e = .returned (.int .i64 i) ∧ decide (0 ≤ i) = l.any impl_GoodBus.badS
theorem impl_GoodBus.anyS_true {l : List S91} {i : Nat} (h : i < l.length) (hb : impl_GoodBus.badS (l.getD i z91) = true) : l.any impl_GoodBus.badS = true := by
  rw [List.any_eq_true]
  exact ⟨l[i], List.getElem_mem h, by simpa [List.getD, List.getElem?_eq_getElem h] using hb⟩
theorem impl_GoodBus.anyS_false {l : List S91} (h : ∀ j, j < l.length → impl_GoodBus.badS (l.getD j z91) = false) : l.any impl_GoodBus.badS = false := by
  rw [List.any_eq_false]
  intro x hx
  obtain ⟨j, hj, rfl⟩ := List.getElem_of_mem hx
  have := h j hj
  simpa [List.getD, List.getElem?_eq_getElem hj] using this
set_option maxHeartbeats 4000000 in
set_option maxRecDepth 100000 in
theorem impl_GoodBus.indexS (A0 : Option Addr) (c0 : Nat) (l0 : List S91) (w : World) (hr0 : Kd.C k91 w A0 l0.length l0) (hc0 : l0.length ≤ c0) :
    Calls Try.prog 106 #[.slice A0 l0.length c0, .func (.func 102) #[] #[]] w fun e w' => impl_GoodBus.IdxS l0 e ∧ Below w.heap.size w w' := by
  have hu := Try.underlying91
  have HR0 := Aside0.mk hr0
  have HC0 := Aside0.mk hc0
  have hlen := hr0.2.1
  clear hr0 hc0
  go_enter Try.func106, Try.ntmps106
  go_wp2
  go_loopg [8] l0.length (fun d v8 w' => ∃ i : Nat, v8 = .int .i64 (i : Int) ∧ Aside0 (i + d = l0.length) ∧ Aside0 (∀ j, j < i → impl_GoodBus.badS (l0.getD j z91) = false) ∧ Aside0 (Below w.heap.size w w'))
  case atStart => exact ⟨0, (by first | rfl | (simp; done)), ⟨by omega⟩, ⟨fun j hj => absurd hj (by omega)⟩, ⟨by repeat (with_reducible first | exact Below.refl _ _ | apply below_alloc | apply pw_below_drewN | apply below_drew1)⟩⟩
  case round =>
    obtain ⟨i, rfl, HA, HB, HW⟩ := hrel
    cases gk with
    | zero =>
      have hi := HA.out
      have hge : ¬ ((i : Int) < (l0.length : Int)) := by omega
      have c0b : decide ((i : Int) < (l0.length : Int)) = false := decide_eq_false hge
      have c0n : decide (i < l0.length) = false := decide_eq_false (by omega)
      clear hge hi
      go_wp2
      go_ret
      exact ⟨⟨-1, rfl, by rw [impl_GoodBus.anyS_false (fun j hj => HB.out j (by have := HA.out; omega))]; rfl⟩, by repeat (with_reducible first | exact HW.out | apply below_alloc | apply pw_below_drewN | apply below_drew1)⟩
    | succ d =>
      have hi : i < l0.length := by have := HA.out; omega
      have c0b : decide ((i : Int) < (l0.length : Int)) = true := decide_eq_true (by omega)
      have c0n : decide (i < l0.length) = true := decide_eq_true hi
      have p0 : 0 ≤ (i : Int) := by omega
      have q0 : (i : Int) < (l0.length : Int) := by omega
      obtain ⟨ad, e0, hx0, hx1, hx2, hx3, hx4⟩ := at_T91 (Kd.C_below HR0.out HW.out) (i : Int) p0 q0
      cases e0
      have hv : rd_T91 l0 (i : Int) = l0.getD i z91 := by unfold rd_T91; rw [Int.toNat_natCast]
      rw [Int.toNat_natCast] at hx0 hx1 hx2 hx3 hx4
      rw [hv] at hx0 hx1 hx2 hx3 hx4
      clear hv
      replace p0 := eq_true p0
      replace q0 := eq_true q0
      have hcl := Aside0.mk (fun W => impl_GoodBus.closureS (l0.getD i z91) W)
      cases hb : impl_GoodBus.badS (l0.getD i z91) with
      | true =>
        have HT := Aside0.mk (impl_GoodBus.anyS_true hi hb)
        rw [hb] at hcl
        clear hb
        generalize l0.getD i z91 = v at hx0 hx1 hx2 hx3 hx4 hcl
        go_wp2_with (go_at_call 102; refine (hcl.out _).mono ?_; rintro e w2 ⟨rfl, hb2⟩)
        go_ret
        exact ⟨⟨i, rfl, by rw [HT.out]; exact decide_eq_true (by omega)⟩, below_step (by repeat (with_reducible first | exact HW.out | apply below_alloc | apply pw_below_drewN | apply below_drew1)) hb2⟩
      | false =>
        have HN := Aside0.mk hb
        rw [hb] at hcl
        clear hb
        obtain ⟨v, hvv⟩ : ∃ v, v = l0.getD i z91 := ⟨_, rfl⟩
        rw [← hvv] at hx0 hx1 hx2 hx3 hx4 hcl
        have HV := Aside0.mk hvv
        clear hvv
        go_wp2_with (go_at_call 102; refine (hcl.out _).mono ?_; rintro e w2 ⟨rfl, hb2⟩)
        have HW2 := Aside0.mk (below_step (by repeat (with_reducible first | exact HW.out | apply below_alloc | apply pw_below_drewN | apply below_drew1)) hb2)
        clear hb2
        go_roundg d
        case measure => omega
        case rel => exact ⟨i + 1, (by first | rfl | go_num | (simp; done)), ⟨by have := HA.out; omega⟩, ⟨fun j hj => (Nat.lt_succ_iff_lt_or_eq.mp hj).elim (fun h => HB.out j h) (fun h => by rw [h]; exact HN.out)⟩, ⟨by repeat (with_reducible first | exact HW2.out | apply below_alloc | apply pw_below_drewN | apply below_drew1)⟩⟩
set_option maxHeartbeats 4000000 in
set_option maxRecDepth 100000 in
theorem impl_GoodBus.containsS (A0 : Option Addr) (c0 : Nat) (l0 : List S91) (w : World) (hr0 : Kd.C k91 w A0 l0.length l0) (hc0 : l0.length ≤ c0) :
    Calls Try.prog 101 #[.slice A0 l0.length c0, .func (.func 102) #[] #[]] w fun e w' => e = .returned (.bool (l0.any impl_GoodBus.badS)) ∧ Below w.heap.size w w' := by
  have h := impl_GoodBus.indexS A0 c0 l0 w hr0 hc0
  have H := Aside0.mk h
  clear h hr0 hc0
  go_enter Try.func101, Try.ntmps101
  go_wp2_with (go_at_call 106; refine H.out.mono ?_; rintro e w' ⟨⟨i, rfl, hi⟩, hb2⟩; have HI := Aside0.mk hi; clear hi)
  go_ret
  exact ⟨by rw [← HI.out]; first | rfl | (simp; done), hb2⟩
def impl_GoodBus.f (l0_0 : List Int) (l0_1 : List S91) : Option (Bool) := some ((((l0_0.length : Int) == 512) && decide ((l0_1.length : Int) ≤ 400)) && (!(l0_0.any impl_GoodBus.bad) && !(l0_1.any impl_GoodBus.badS)))
set_option maxHeartbeats 4000000 in
set_option maxRecDepth 100000 in
theorem impl_GoodBus.calls (A0_0 : Option Addr) (c0_0 : Nat) (l0_0 : List Int) (A0_1 : Option Addr) (c0_1 : Nat) (l0_1 : List S91) (r : Bool) (w : World) (hr0_0 : Kd.C (Kd.int .i64) w A0_0 l0_0.length l0_0) (hc0_0 : l0_0.length ≤ c0_0) (hr0_1 : Kd.C k91 w A0_1 l0_1.length l0_1) (hc0_1 : l0_1.length ≤ c0_1) (h : impl_GoodBus.f l0_0 l0_1 = some r) :
    Calls Try.prog 66 #[.agg #[.slice A0_0 l0_0.length c0_0, .slice A0_1 l0_1.length c0_1]] w fun e w' => e = .returned (.bool r) ∧ Below w.heap.size w w' := by
  obtain rfl := Option.some.inj h
  clear h
  have hu := Try.underlying51
  have H1 := Aside0.mk (fun (W : World) (hb : Below w.heap.size w W) => impl_GoodBus.contains A0_0 c0_0 l0_0 W (Kd.C_below hr0_0 hb) hc0_0)
  have H2 := Aside0.mk (fun (W : World) (hb : Below w.heap.size w W) => impl_GoodBus.containsS A0_1 c0_1 l0_1 W (Kd.C_below hr0_1 hb) hc0_1)
  clear hr0_0 hc0_0 hr0_1 hc0_1
  obtain ⟨p, hp⟩ : ∃ p, p = l0_0.any impl_GoodBus.bad := ⟨_, rfl⟩
  obtain ⟨q, hq⟩ : ∃ q, q = l0_1.any impl_GoodBus.badS := ⟨_, rfl⟩
  rw [← hp] at H1 ⊢
  rw [← hq] at H2 ⊢
  clear hp hq
  by_cases c1 : (l0_0.length : Int) = 512
  · have e1 : ((l0_0.length : Int) == 512) = true := beq_iff_eq.mpr c1
    clear c1
    rw [e1]
    by_cases c2 : (l0_1.length : Int) ≤ 400
    · have e2 : decide ((l0_1.length : Int) ≤ 400) = true := decide_eq_true c2
      clear c2
      rw [e2]
      cases p with
      | true =>
        clear H2
        go_enter Try.func66, Try.ntmps66
        go_wp2_with (go_at_call 99; refine (H1.out _ ?hB).mono ?_; (case hB => repeat (with_reducible first | exact Below.refl _ _ | apply below_alloc | apply pw_below_drewN | apply below_drew1)); rintro e w' ⟨rfl, ⟨nd, rfl⟩⟩)
        go_ret
        exact ⟨by first | rfl | (simp; done), by repeat (with_reducible first | exact Below.refl _ _ | apply below_alloc | apply pw_below_drewN | apply below_drew1)⟩
      | false =>
        go_enter Try.func66, Try.ntmps66
        go_wp2_with (first | (go_at_call 99; refine (H1.out _ ?hB).mono ?_; (case hB => repeat (with_reducible first | exact Below.refl _ _ | apply below_alloc | apply pw_below_drewN | apply below_drew1)); rintro e w' ⟨rfl, ⟨nd, rfl⟩⟩) | (go_at_call 101; refine (H2.out _ ?hB).mono ?_; (case hB => repeat (with_reducible first | exact Below.refl _ _ | apply below_alloc | apply pw_below_drewN | apply below_drew1)); rintro e w' ⟨rfl, hb2⟩))
        go_ret
        exact ⟨by first | rfl | (simp; done), below_step (by repeat (with_reducible first | exact Below.refl _ _ | apply below_alloc | apply pw_below_drewN | apply below_drew1)) hb2⟩
    · have e2 : decide ((l0_1.length : Int) ≤ 400) = false := decide_eq_false c2
      clear c2 H1 H2
      rw [e2]
      go_enter Try.func66, Try.ntmps66
      go_wp2
      go_ret
      exact ⟨by first | rfl | (simp; done), by repeat (with_reducible first | exact Below.refl _ _ | apply below_alloc | apply pw_below_drewN | apply below_drew1)⟩
  · have e1 : ((l0_0.length : Int) == 512) = false := beq_eq_false_iff_ne.mpr c1
    clear c1 H1 H2
    rw [e1]
    go_enter Try.func66, Try.ntmps66
    go_wp2
    go_ret
    exact ⟨by first | rfl | (simp; done), by repeat (with_reducible first | exact Below.refl _ _ | apply below_alloc | apply pw_below_drewN | apply below_drew1)⟩

/-! ### impl_kindOf: function 104 -/
def impl_kindOf.j0 : Nat → Int → Bool → Option (Int)
  | 0, _, _ => none
  | k + 1, x0, x3 => if x3 = true then (some 1) else ((impl_within.f x0 384 447).bind fun t169 => (if t169 = true then (some 3) else (some 0)))
def impl_kindOf.f (k : Nat) (a0 : Int) : Option (Int) := (impl_within.f a0 448 495).bind fun t168 => (if t168 = true then (impl_kindOf.j0 k a0 true) else (impl_kindOf.j0 k a0 (decide (a0 ≥ 512))))
theorem impl_kindOf.mono_l : ∀ k, (∀ y0 y1, LeO (impl_kindOf.j0 k y0 y1) (impl_kindOf.j0 (k + 1) y0 y1))
  | 0 => fun _ _ r h => by simp [impl_kindOf.j0] at h
  | k + 1 => by
    have ih0 := impl_kindOf.mono_l k
    · intro y0 y1
      unfold impl_kindOf.j0
      repeat' first
      | (with_reducible exact ih0 _ _)
      | (with_reducible exact LeO.refl _)
      | (with_reducible exact LeO.none _)
      | (with_reducible refine LeO.ite ?_ ?_)
      | (with_reducible refine LeO.bind ?_ (fun _ => ?_))
      | exact ih0 _ _
      | exact LeO.none _
      | refine LeO.ite ?_ ?_
      | refine LeO.bind ?_ (fun _ => ?_)
theorem impl_kindOf.mono : ∀ a0 k, LeO (impl_kindOf.f k a0) (impl_kindOf.f (k + 1) a0) := by
  intro a0 k
  have ih0 := impl_kindOf.mono_l k
  unfold impl_kindOf.f
  repeat' first
      | (with_reducible exact ih0 _ _)
      | (with_reducible exact LeO.refl _)
      | (with_reducible exact LeO.none _)
      | (with_reducible refine LeO.ite ?_ ?_)
      | (with_reducible refine LeO.bind ?_ (fun _ => ?_))
      | exact ih0 _ _
      | exact LeO.none _
      | refine LeO.ite ?_ ?_
      | refine LeO.bind ?_ (fun _ => ?_)
set_option maxHeartbeats 8000000 in
set_option maxRecDepth 100000 in
theorem impl_kindOf.calls (k : Nat) (a0 : Int) (r : Int) (w : World) (h : impl_kindOf.f k a0 = some r) :
    Calls Try.prog 104 #[.int .i64 a0] w fun e w' => e = .returned (.int .i64 r) ∧ Drawn0 w w' := by
  have H : ((impl_within.f a0 448 495).bind fun t168 => (if t168 = true then (impl_kindOf.j0 k a0 true) else (impl_kindOf.j0 k a0 (decide (a0 ≥ 512))))) = some r := h
  clear h
  have HC2 := Aside0.mk H
  clear H
  go_enter Try.func104, Try.ntmps104
  go_upto_region 1 with (fail)
  go_cut [3] (fun v3 wc => ∃ (kq : Nat) (x3_1 : Bool), v3 = .bool x3_1 ∧ Aside0 (impl_kindOf.j0 kq a0 x3_1 = some r) ∧ Aside0 (kq ≤ k) ∧ Drawn0 w wc)
  case first =>
    have H := HC2.out
    clear HC2
    replace H := Option.bind_eq_some_iff.mp H
    obtain ⟨t168, A30, H⟩ := H
    replace H : (if t168 = true then (impl_kindOf.j0 k a0 true) else (impl_kindOf.j0 k a0 (decide (a0 ≥ 512)))) = some r := H
    have A3 := Aside0.mk A30
    clear A30
    by_cases c4 : t168 = true
    · subst c4
      have H1 : (impl_kindOf.j0 k a0 true) = some r := by rw [if_pos rfl] at H; exact H
      clear H
      have H := H1
      clear H1
      have H' := Aside0.mk H
      clear H
      go_wp2_with (first | ((with_reducible refine gate_callee (f := 51) rfl ?_); refine goesL_ (some 5) rfl rfl Try.func51 (by kernel_rfl) rfl #[.int .i64 a0, .int .i64 448, .int .i64 495] rfl (by (try simp only [List.map_toArray, List.map_cons, List.map_nil]); first | done | rfl | (simp only [List.length_drop, List.length_take]; rfl)) ?_; (with_reducible refine (impl_within.calls a0 448 495 true _ A3.out).mono ?_); rintro e w' ⟨rfl, ⟨nd, rfl⟩⟩; refine ⟨_, rfl, ?_⟩))
      go_meet
      case rel => exact ⟨_, (true), (by first | rfl | (simp; done) | (simp [*]; done)), H', ⟨by first | omega | exact Nat.le_refl _⟩, by repeat (first | exact Drawn0.refl _ | apply Drawn0.step)⟩
    · replace c4 := Bool.eq_false_iff.mpr c4
      subst c4
      have H1 : (impl_kindOf.j0 k a0 (decide (a0 ≥ 512))) = some r := by rw [if_neg (show ¬ (false = true) by decide)] at H; exact H
      clear H
      have H := H1
      clear H1
      have H' := Aside0.mk H
      clear H
      go_wp2_with (first | ((with_reducible refine gate_callee (f := 51) rfl ?_); refine goesL_ (some 5) rfl rfl Try.func51 (by kernel_rfl) rfl #[.int .i64 a0, .int .i64 448, .int .i64 495] rfl (by (try simp only [List.map_toArray, List.map_cons, List.map_nil]); first | done | rfl | (simp only [List.length_drop, List.length_take]; rfl)) ?_; (with_reducible refine (impl_within.calls a0 448 495 false _ A3.out).mono ?_); rintro e w' ⟨rfl, ⟨nd, rfl⟩⟩; refine ⟨_, rfl, ?_⟩))
      go_meet
      case rel => exact ⟨_, (decide (a0 ≥ 512)), (by first | rfl | (simp; done) | (simp [*]; done)), H', ⟨by first | omega | exact Nat.le_refl _⟩, by repeat (first | exact Drawn0.refl _ | apply Drawn0.step)⟩
  case rest =>
    clear HC2
    try clear c1
    try clear p2
    try clear c4
    obtain ⟨kq, x3_1, rfl, HA, HJ1, ⟨mc1, rfl⟩⟩ := hcut
    cases kq with
    | zero => exact absurd HA.out (by simp [impl_kindOf.j0])
    | succ kj1 =>
      have H := HA.out
      clear HA
      simp only [impl_kindOf.j0] at H
      by_cases c5 : x3_1 = true
      · subst c5
        have H1 : (some 1) = some r := by rw [if_pos rfl] at H; exact H
        clear H
        have H := H1
        clear H1
        obtain rfl := Option.some.inj H
        go_wp2
        go_ret
        exact ⟨by first | rfl | (simp; done) | (simp [*]; done), by repeat (first | exact Drawn0.refl _ | apply Drawn0.step)⟩
      · replace c5 := Bool.eq_false_iff.mpr c5
        subst c5
        have H1 : ((impl_within.f a0 384 447).bind fun t169 => (if t169 = true then (some 3) else (some 0))) = some r := by rw [if_neg (show ¬ (false = true) by decide)] at H; exact H
        clear H
        have H := H1
        clear H1
        replace H := Option.bind_eq_some_iff.mp H
        obtain ⟨t169, A60, H⟩ := H
        replace H : (if t169 = true then (some 3) else (some 0)) = some r := H
        have A6 := Aside0.mk A60
        clear A60
        by_cases c7 : t169 = true
        · subst c7
          have H1 : (some 3) = some r := by rw [if_pos rfl] at H; exact H
          clear H
          have H := H1
          clear H1
          obtain rfl := Option.some.inj H
          go_wp2_with (first | ((with_reducible refine gate_callee (f := 51) rfl ?_); refine goesL_ (some 12) rfl rfl Try.func51 (by kernel_rfl) rfl #[.int .i64 a0, .int .i64 384, .int .i64 447] rfl (by (try simp only [List.map_toArray, List.map_cons, List.map_nil]); first | done | rfl | (simp only [List.length_drop, List.length_take]; rfl)) ?_; (with_reducible refine (impl_within.calls a0 384 447 true _ A6.out).mono ?_); rintro e w' ⟨rfl, ⟨nd, rfl⟩⟩; refine ⟨_, rfl, ?_⟩))
          go_ret
          exact ⟨by first | rfl | (simp; done) | (simp [*]; done), by repeat (first | exact Drawn0.refl _ | apply Drawn0.step)⟩
        · replace c7 := Bool.eq_false_iff.mpr c7
          subst c7
          have H1 : (some 0) = some r := by rw [if_neg (show ¬ (false = true) by decide)] at H; exact H
          clear H
          have H := H1
          clear H1
          obtain rfl := Option.some.inj H
          go_wp2_with (first | ((with_reducible refine gate_callee (f := 51) rfl ?_); refine goesL_ (some 12) rfl rfl Try.func51 (by kernel_rfl) rfl #[.int .i64 a0, .int .i64 384, .int .i64 447] rfl (by (try simp only [List.map_toArray, List.map_cons, List.map_nil]); first | done | rfl | (simp only [List.length_drop, List.length_take]; rfl)) ?_; (with_reducible refine (impl_within.calls a0 384 447 false _ A6.out).mono ?_); rintro e w' ⟨rfl, ⟨nd, rfl⟩⟩; refine ⟨_, rfl, ?_⟩))
          go_ret
          exact ⟨by first | rfl | (simp; done) | (simp [*]; done), by repeat (first | exact Drawn0.refl _ | apply Drawn0.step)⟩

/-! ### impl_codeOf: function 67 -/
mutual
def impl_codeOf.j0 : Nat → Int → Int → Int → Bool → Option (Int)
  | 0, _, _, _, _ => none
  | k + 1, x0, x1, x2, x15 => if x15 = true then (some 2) else ((impl_kindOf.f k x2).bind fun t170 => ((impl_kindOf.f k (wrap64 ((wrap64 (x2 + x1)) - 1))).bind fun t171 => (if t170 = 1 then (impl_codeOf.j1 k x0 t170 t171 true) else (impl_codeOf.j1 k x0 t170 t171 (t171 == 1)))))
def impl_codeOf.j1 : Nat → Int → Int → Int → Bool → Option (Int)
  | 0, _, _, _, _ => none
  | k + 1, x0, x7, x8, x23 => if x23 = true then (some 1) else (if x0 = 2 then (if x7 = 3 then (some 3) else (if x8 = 3 then (some 3) else (some 0))) else (some 0))
end
def impl_codeOf.f (k : Nat) (a0 : Int) (a1 : Int) (a2 : Int) : Option (Int) := if a1 = 2 then (impl_codeOf.j0 k a0 a1 a2 ((Int.tmod a2 2) == 1)) else (impl_codeOf.j0 k a0 a1 a2 false)
theorem impl_codeOf.mono_l : ∀ k, (∀ y0 y1 y2 y3, LeO (impl_codeOf.j0 k y0 y1 y2 y3) (impl_codeOf.j0 (k + 1) y0 y1 y2 y3)) ∧ (∀ y0 y1 y2 y3, LeO (impl_codeOf.j1 k y0 y1 y2 y3) (impl_codeOf.j1 (k + 1) y0 y1 y2 y3))
  | 0 => ⟨fun _ _ _ _ r h => by simp [impl_codeOf.j0] at h, fun _ _ _ _ r h => by simp [impl_codeOf.j1] at h⟩
  | k + 1 => by
    obtain ⟨ih0, ih1⟩ := impl_codeOf.mono_l k
    refine ⟨?_, ?_⟩
    · intro y0 y1 y2 y3
      unfold impl_codeOf.j0
      repeat' first
      | (with_reducible exact ih0 _ _ _ _)
      | (with_reducible exact ih1 _ _ _ _)
      | (with_reducible exact impl_kindOf.mono _ _)
      | (with_reducible exact LeO.refl _)
      | (with_reducible exact LeO.none _)
      | (with_reducible refine LeO.ite ?_ ?_)
      | (with_reducible refine LeO.bind ?_ (fun _ => ?_))
      | exact ih0 _ _ _ _
      | exact ih1 _ _ _ _
      | exact impl_kindOf.mono _ _
      | exact LeO.none _
      | refine LeO.ite ?_ ?_
      | refine LeO.bind ?_ (fun _ => ?_)
    · intro y0 y1 y2 y3
      unfold impl_codeOf.j1
      repeat' first
      | (with_reducible exact ih0 _ _ _ _)
      | (with_reducible exact ih1 _ _ _ _)
      | (with_reducible exact impl_kindOf.mono _ _)
      | (with_reducible exact LeO.refl _)
      | (with_reducible exact LeO.none _)
      | (with_reducible refine LeO.ite ?_ ?_)
      | (with_reducible refine LeO.bind ?_ (fun _ => ?_))
      | exact ih0 _ _ _ _
      | exact ih1 _ _ _ _
      | exact impl_kindOf.mono _ _
      | exact LeO.none _
      | refine LeO.ite ?_ ?_
      | refine LeO.bind ?_ (fun _ => ?_)
theorem impl_codeOf.mono : ∀ a0 a1 a2 k, LeO (impl_codeOf.f k a0 a1 a2) (impl_codeOf.f (k + 1) a0 a1 a2) := by
  intro a0 a1 a2 k
  obtain ⟨ih0, ih1⟩ := impl_codeOf.mono_l k
  unfold impl_codeOf.f
  repeat' first
      | (with_reducible exact ih0 _ _ _ _)
      | (with_reducible exact ih1 _ _ _ _)
      | (with_reducible exact impl_kindOf.mono _ _)
      | (with_reducible exact LeO.refl _)
      | (with_reducible exact LeO.none _)
      | (with_reducible refine LeO.ite ?_ ?_)
      | (with_reducible refine LeO.bind ?_ (fun _ => ?_))
      | exact ih0 _ _ _ _
      | exact ih1 _ _ _ _
      | exact impl_kindOf.mono _ _
      | exact LeO.none _
      | refine LeO.ite ?_ ?_
      | refine LeO.bind ?_ (fun _ => ?_)
set_option maxHeartbeats 8000000 in
set_option maxRecDepth 100000 in
theorem impl_codeOf.calls (k : Nat) (a0 : Int) (a1 : Int) (a2 : Int) (r : Int) (w : World) (h : impl_codeOf.f k a0 a1 a2 = some r) :
    Calls Try.prog 67 #[.int .i64 a0, .int .i64 a1, .int .i64 a2] w fun e w' => e = .returned (.int .i64 r) ∧ Drawn0 w w' := by
  have H : (if a1 = 2 then (impl_codeOf.j0 k a0 a1 a2 ((Int.tmod a2 2) == 1)) else (impl_codeOf.j0 k a0 a1 a2 false)) = some r := h
  clear h
  have HC4 := Aside0.mk H
  clear H
  go_enter Try.func67, Try.ntmps67
  go_upto_region 1 with (fail)
  go_cut [15] (fun v15 wc => ∃ (kq : Nat) (x15_3 : Bool), v15 = .bool x15_3 ∧ Aside0 (impl_codeOf.j0 kq a0 a1 a2 x15_3 = some r) ∧ Aside0 (kq ≤ k) ∧ Drawn0 w wc)
  case first =>
    have H := HC4.out
    clear HC4
    by_cases c5 : a1 = 2
    · rw [if_pos c5] at H
      have c5b0 : (a1 == 2) = true := beq_iff_eq.mpr c5
      have c5b1 : (a1 != 2) = false := bne_eq_false_iff_eq.mpr c5
      clear c5
      (first | rw [c5b0] | (simp only [i64_w, i32_w]; rw [c5b0]) | skip)
      have H' := Aside0.mk H
      clear H
      go_wp2
      go_meet
      case rel => exact ⟨_, (((Int.tmod a2 2) == 1)), (by first | rfl | (simp; done) | (simp [*]; done)), H', ⟨by first | omega | exact Nat.le_refl _⟩, by repeat (first | exact Drawn0.refl _ | apply Drawn0.step)⟩
    · rw [if_neg c5] at H
      have c5b0 : (a1 == 2) = false := beq_eq_false_iff_ne.mpr c5
      have c5b1 : (a1 != 2) = true := bne_iff_ne.mpr c5
      (first | rw [c5b0] | (simp only [i64_w, i32_w]; rw [c5b0]) | skip)
      have H' := Aside0.mk H
      clear H
      go_wp2
      go_meet
      case rel => exact ⟨_, (false), (by first | rfl | (simp; done) | (simp [*]; done)), H', ⟨by first | omega | exact Nat.le_refl _⟩, by repeat (first | exact Drawn0.refl _ | apply Drawn0.step)⟩
  case rest =>
    clear HC4
    try clear p2
    try clear c5
    try clear c5b0
    try clear c5b1
    obtain ⟨kq, x15_3, rfl, HA, HJ3, ⟨mc3, rfl⟩⟩ := hcut
    cases kq with
    | zero => exact absurd HA.out (by simp [impl_codeOf.j0])
    | succ kj3 =>
      have H := HA.out
      clear HA
      simp only [impl_codeOf.j0] at H
      by_cases c6 : x15_3 = true
      · subst c6
        have H1 : (some 2) = some r := by rw [if_pos rfl] at H; exact H
        clear H
        have H := H1
        clear H1
        obtain rfl := Option.some.inj H
        go_wp2
        go_ret
        exact ⟨by first | rfl | (simp; done) | (simp [*]; done), by repeat (first | exact Drawn0.refl _ | apply Drawn0.step)⟩
      · replace c6 := Bool.eq_false_iff.mpr c6
        subst c6
        have H1 : ((impl_kindOf.f kj3 a2).bind fun t170 => ((impl_kindOf.f kj3 (wrap64 ((wrap64 (a2 + a1)) - 1))).bind fun t171 => (if t170 = 1 then (impl_codeOf.j1 kj3 a0 t170 t171 true) else (impl_codeOf.j1 kj3 a0 t170 t171 (t171 == 1))))) = some r := by rw [if_neg (show ¬ (false = true) by decide)] at H; exact H
        clear H
        have H := H1
        clear H1
        replace H := Option.bind_eq_some_iff.mp H
        obtain ⟨t170, A70, H⟩ := H
        replace H : ((impl_kindOf.f kj3 (wrap64 ((wrap64 (a2 + a1)) - 1))).bind fun t171 => (if t170 = 1 then (impl_codeOf.j1 kj3 a0 t170 t171 true) else (impl_codeOf.j1 kj3 a0 t170 t171 (t171 == 1)))) = some r := H
        have A7 := Aside0.mk A70
        clear A70
        replace H := Option.bind_eq_some_iff.mp H
        obtain ⟨t171, A80, H⟩ := H
        replace H : (if t170 = 1 then (impl_codeOf.j1 kj3 a0 t170 t171 true) else (impl_codeOf.j1 kj3 a0 t170 t171 (t171 == 1))) = some r := H
        have A8 := Aside0.mk A80
        clear A80
        have HC9 := Aside0.mk H
        clear H
        go_upto_region 4 with (first | ((with_reducible refine gate_callee (f := 104) rfl ?_); refine goesL_ (some 17) rfl rfl Try.func104 (by kernel_rfl) rfl #[.int .i64 a2] rfl (by (try simp only [List.map_toArray, List.map_cons, List.map_nil]); first | done | rfl | (simp only [List.length_drop, List.length_take]; rfl)) ?_; (with_reducible refine (impl_kindOf.calls kj3 a2 t170 _ A7.out).mono ?_); rintro e w' ⟨rfl, ⟨nd, rfl⟩⟩; refine ⟨_, rfl, ?_⟩) | ((with_reducible refine gate_callee (f := 104) rfl ?_); refine goesL_ (some 22) rfl rfl Try.func104 (by kernel_rfl) rfl #[.int .i64 (wrap64 ((wrap64 (a2 + a1)) - 1))] rfl (by (try simp only [List.map_toArray, List.map_cons, List.map_nil]); first | done | rfl | (simp only [List.length_drop, List.length_take]; rfl)) ?_; (with_reducible refine (impl_kindOf.calls kj3 (wrap64 ((wrap64 (a2 + a1)) - 1)) t171 _ A8.out).mono ?_); rintro e w' ⟨rfl, ⟨nd, rfl⟩⟩; refine ⟨_, rfl, ?_⟩))
        (try simp only [Act.put, List.setIfInBounds_toArray, List.set_cons_zero, List.set_cons_succ])
        go_cut [23] (fun v23 wc => ∃ (kq : Nat) (x23_8 : Bool), v23 = .bool x23_8 ∧ Aside0 (impl_codeOf.j1 kq a0 t170 t171 x23_8 = some r) ∧ Aside0 (kq ≤ kj3) ∧ Drawn0 w wc)
        case first =>
          have H := HC9.out
          clear HC9
          by_cases c10 : t170 = 1
          · rw [if_pos c10] at H
            have c10b0 : (t170 == 1) = true := beq_iff_eq.mpr c10
            have c10b1 : (t170 != 1) = false := bne_eq_false_iff_eq.mpr c10
            clear c10
            (first | rw [c10b0] | (simp only [i64_w, i32_w]; rw [c10b0]) | skip)
            have H' := Aside0.mk H
            clear H
            go_wp2
            go_meet
            case rel => exact ⟨_, (true), (by first | rfl | (simp; done) | (simp [*]; done)), H', ⟨by have := HJ3.out; first | omega | exact Nat.le_refl _⟩, by repeat (first | exact Drawn0.refl _ | apply Drawn0.step)⟩
          · rw [if_neg c10] at H
            have c10b0 : (t170 == 1) = false := beq_eq_false_iff_ne.mpr c10
            have c10b1 : (t170 != 1) = true := bne_iff_ne.mpr c10
            (first | rw [c10b0] | (simp only [i64_w, i32_w]; rw [c10b0]) | skip)
            have H' := Aside0.mk H
            clear H
            go_wp2
            go_meet
            case rel => exact ⟨_, ((t171 == 1)), (by first | rfl | (simp; done) | (simp [*]; done)), H', ⟨by have := HJ3.out; first | omega | exact Nat.le_refl _⟩, by repeat (first | exact Drawn0.refl _ | apply Drawn0.step)⟩
        case rest =>
          clear HC9
          try clear c1
          try clear p2
          try clear c3
          try clear c5
          try clear c5b0
          try clear c5b1
          try clear c6
          try clear p6
          try clear c10
          try clear c10b0
          try clear c10b1
          try clear p2
          obtain ⟨kq, x23_8, rfl, HA, HJ8, ⟨mc8, rfl⟩⟩ := hcut
          cases kq with
          | zero => exact absurd HA.out (by simp [impl_codeOf.j1])
          | succ kj8 =>
            have H := HA.out
            clear HA
            simp only [impl_codeOf.j1] at H
            by_cases c11 : x23_8 = true
            · subst c11
              have H1 : (some 1) = some r := by rw [if_pos rfl] at H; exact H
              clear H
              have H := H1
              clear H1
              obtain rfl := Option.some.inj H
              go_wp2
              go_ret
              exact ⟨by first | rfl | (simp; done) | (simp [*]; done), by repeat (first | exact Drawn0.refl _ | apply Drawn0.step)⟩
            · replace c11 := Bool.eq_false_iff.mpr c11
              subst c11
              have H1 : (if a0 = 2 then (if t170 = 3 then (some 3) else (if t171 = 3 then (some 3) else (some 0))) else (some 0)) = some r := by rw [if_neg (show ¬ (false = true) by decide)] at H; exact H
              clear H
              have H := H1
              clear H1
              by_cases c12 : a0 = 2
              · rw [if_pos c12] at H
                have c12b0 : (a0 == 2) = true := beq_iff_eq.mpr c12
                have c12b1 : (a0 != 2) = false := bne_eq_false_iff_eq.mpr c12
                clear c12
                by_cases c13 : t170 = 3
                · rw [if_pos c13] at H
                  have c13b0 : (t170 == 3) = true := beq_iff_eq.mpr c13
                  have c13b1 : (t170 != 3) = false := bne_eq_false_iff_eq.mpr c13
                  clear c13
                  obtain rfl := Option.some.inj H
                  go_wp2
                  go_ret
                  exact ⟨by first | rfl | (simp; done) | (simp [*]; done), by repeat (first | exact Drawn0.refl _ | apply Drawn0.step)⟩
                · rw [if_neg c13] at H
                  have c13b0 : (t170 == 3) = false := beq_eq_false_iff_ne.mpr c13
                  have c13b1 : (t170 != 3) = true := bne_iff_ne.mpr c13
                  by_cases c14 : t171 = 3
                  · rw [if_pos c14] at H
                    have c14b0 : (t171 == 3) = true := beq_iff_eq.mpr c14
                    have c14b1 : (t171 != 3) = false := bne_eq_false_iff_eq.mpr c14
                    clear c14
                    obtain rfl := Option.some.inj H
                    go_wp2
                    go_ret
                    exact ⟨by first | rfl | (simp; done) | (simp [*]; done), by repeat (first | exact Drawn0.refl _ | apply Drawn0.step)⟩
                  · rw [if_neg c14] at H
                    have c14b0 : (t171 == 3) = false := beq_eq_false_iff_ne.mpr c14
                    have c14b1 : (t171 != 3) = true := bne_iff_ne.mpr c14
                    obtain rfl := Option.some.inj H
                    go_wp2
                    go_ret
                    exact ⟨by first | rfl | (simp; done) | (simp [*]; done), by repeat (first | exact Drawn0.refl _ | apply Drawn0.step)⟩
              · rw [if_neg c12] at H
                have c12b0 : (a0 == 2) = false := beq_eq_false_iff_ne.mpr c12
                have c12b1 : (a0 != 2) = true := bne_iff_ne.mpr c12
                obtain rfl := Option.some.inj H
                go_wp2
                go_ret
                exact ⟨by first | rfl | (simp; done) | (simp [*]; done), by repeat (first | exact Drawn0.refl _ | apply Drawn0.step)⟩

-- NOT PRINTED: function 68 (impl_Bus_at)

/-! ### impl_PeekWord: function 24 -/
theorem impl_PeekWord.bc {W w1 : World} (hb : Below W.heap.size W w1) : (∀ b o, b < W.heap.size → w1.cell? ⟨b, o, none⟩ = W.cell? ⟨b, o, none⟩) ∧ (∀ b o, b < W.heap.size → w1.frozen? ⟨b, o, none⟩ = W.frozen? ⟨b, o, none⟩) :=
  ⟨fun b o h => hb.cell (p := ⟨b, o, none⟩) h, fun b o h => hb.frozen (p := ⟨b, o, none⟩) h⟩
def impl_PeekWord.f (k : Nat) (l0_0 : List Int) (l0_1 : List S91) (a1 : Int) : Option (Int × Bool) := (impl_GoodBus.f l0_0 l0_1).bind fun t => (if t = true then ((impl_isWord.f a1).bind fun u => (if u = true then ((impl_codeOf.f k 1 2 a1).bind fun v => (if v = 0 then (if 0 ≤ a1 ∧ a1 + 1 < (l0_0.length : Int) then (some (Go.bits .or .i64 (wrap64 ((rd l0_0 a1) * 256)) (rd l0_0 (a1 + 1)), true)) else none) else (some (0, false)))) else (some (0, false)))) else (some (0, false)))
theorem impl_PeekWord.mono : ∀ a0 a1 a2 k, LeO (impl_PeekWord.f k a0 a1 a2) (impl_PeekWord.f (k + 1) a0 a1 a2) := by
  intro a0 a1 a2 k
  unfold impl_PeekWord.f
  refine LeO.bind (LeO.refl _) fun t => LeO.ite (LeO.bind (LeO.refl _) fun u => LeO.ite (LeO.bind (impl_codeOf.mono 1 2 a2 k) fun v => LeO.refl _) (LeO.refl _)) (LeO.refl _)
set_option maxHeartbeats 4000000 in
set_option maxRecDepth 100000 in
theorem impl_PeekWord.calls (k : Nat) (A0_0 : Option Addr) (c0_0 : Nat) (l0_0 : List Int) (A0_1 : Option Addr) (c0_1 : Nat) (l0_1 : List S91) (a1 : Int) (r1 : Int) (r2 : Bool) (w : World) (hr0_0 : Kd.C (Kd.int .i64) w A0_0 l0_0.length l0_0) (hc0_0 : l0_0.length ≤ c0_0) (hr0_1 : Kd.C k91 w A0_1 l0_1.length l0_1) (hc0_1 : l0_1.length ≤ c0_1) (h : impl_PeekWord.f k l0_0 l0_1 a1 = some (r1, r2)) :
    Calls Try.prog 24 #[.agg #[.slice A0_0 l0_0.length c0_0, .slice A0_1 l0_1.length c0_1], .int .i64 a1] w fun e w' => e = .returned (.tuple #[.int .i64 r1, .bool r2]) ∧ Below w.heap.size w w' := by
  have hu := Try.underlying51
  unfold impl_PeekWord.f at h
  obtain ⟨t, A0, H⟩ := Option.bind_eq_some_iff.mp h
  clear h
  have HR := Aside0.mk hr0_0
  have HG := Aside0.mk (fun (W : World) (hb : Below w.heap.size w W) => impl_GoodBus.calls A0_0 c0_0 l0_0 A0_1 c0_1 l0_1 t W (Kd.C_below hr0_0 hb) hc0_0 (Kd.C_below hr0_1 hb) hc0_1 A0)
  clear hr0_0 hc0_0 hr0_1 hc0_1 A0
  cases t with
  | false =>
    simp only [Bool.false_eq_true, if_false, Option.some.injEq, Prod.mk.injEq] at H
    obtain ⟨rfl, rfl⟩ := H
    go_enter Try.func24, Try.ntmps24
    go_wp2_with (first | (go_at_call 66; refine (HG.out _ ?hB).mono ?_; (case hB => repeat (with_reducible first | exact Below.refl _ _ | apply below_alloc | apply pw_below_drewN | apply below_drew1)); rintro e w2 ⟨rfl, hb2⟩; obtain ⟨hc2, hf2⟩ := impl_PeekWord.bc hb2; have hz2 : w.heap.size < w2.heap.size := by (have := hb2.size; simp at this; omega)))
    go_ret2
    exact ⟨rfl, by repeat (with_reducible first | exact below_step (by repeat (with_reducible first | exact Below.refl _ _ | apply below_alloc | apply pw_below_drewN | apply below_drew1)) hb2 | apply pw_below_drewN | apply below_drew1)⟩
  | true =>
    rw [if_pos rfl] at H
    obtain ⟨u, U0, H⟩ := Option.bind_eq_some_iff.mp H
    have HU := Aside0.mk U0
    clear U0
    cases u with
    | false =>
      simp only [Bool.false_eq_true, if_false, Option.some.injEq, Prod.mk.injEq] at H
      obtain ⟨rfl, rfl⟩ := H
      go_enter Try.func24, Try.ntmps24
      go_wp2_with (first | (go_at_call 66; refine (HG.out _ ?hB).mono ?_; (case hB => repeat (with_reducible first | exact Below.refl _ _ | apply below_alloc | apply pw_below_drewN | apply below_drew1)); rintro e w2 ⟨rfl, hb2⟩; obtain ⟨hc2, hf2⟩ := impl_PeekWord.bc hb2; have hz2 : w.heap.size < w2.heap.size := by (have := hb2.size; simp at this; omega)) | (go_at_call 39; (with_reducible refine (impl_isWord.calls a1 _ _ HU.out).mono ?_); rintro e w' ⟨rfl, ⟨nd1, rfl⟩⟩))
      go_ret2
      exact ⟨rfl, by repeat (with_reducible first | exact below_step (by repeat (with_reducible first | exact Below.refl _ _ | apply below_alloc | apply pw_below_drewN | apply below_drew1)) hb2 | apply pw_below_drewN | apply below_drew1)⟩
    | true =>
      rw [if_pos rfl] at H
      obtain ⟨v, V0, H⟩ := Option.bind_eq_some_iff.mp H
      have HV := Aside0.mk V0
      clear V0
      by_cases c : v = 0
      · subst c
        rw [if_pos rfl] at H
        by_cases g : 0 ≤ a1 ∧ a1 + 1 < (l0_0.length : Int)
        · rw [if_pos g] at H
          simp only [Option.some.injEq, Prod.mk.injEq] at H
          obtain ⟨rfl, rfl⟩ := H
          obtain ⟨g0, g1⟩ := g
          have hlen := HR.out.2.1
          have hw1 : IntKind.i64.wrap (a1 + 1) = a1 + 1 := by rw [IntKind.wrap_i64]; omega
          obtain ⟨ad, e0, hx0⟩ := Kd.at_int HR.out a1 g0 (by omega)
          cases e0
          obtain ⟨ad', e1, hx1⟩ := Kd.at_int HR.out (a1 + 1) (by omega) g1
          cases e1
          have g2 : a1 < (l0_0.length : Int) := by omega
          have g3 : 0 ≤ a1 + 1 := by omega
          have HX := Aside0.mk (fun (W : World) (hb : Below w.heap.size w W) => (⟨(hb.cell (p := ad.add a1.toNat) (World.block_lt_of_cell? w _ hx0)).trans hx0, (hb.cell (p := ad.add (a1 + 1).toNat) (World.block_lt_of_cell? w _ hx1)).trans hx1⟩ : W.cell? (ad.add a1.toNat) = some (.int .i64 (rd l0_0 a1)) ∧ W.cell? (ad.add (a1 + 1).toNat) = some (.int .i64 (rd l0_0 (a1 + 1)))))
          clear hx0 hx1
          generalize rd l0_0 a1 = x at HX ⊢
          generalize rd l0_0 (a1 + 1) = y at HX ⊢
          replace g0 := eq_true g0
          replace g1 := eq_true g1
          replace g2 := eq_true g2
          replace g3 := eq_true g3
          go_enter Try.func24, Try.ntmps24
          go_wp2_with (first | (go_at_call 66; refine (HG.out _ ?hB).mono ?_; (case hB => repeat (with_reducible first | exact Below.refl _ _ | apply below_alloc | apply pw_below_drewN | apply below_drew1)); rintro e w2 ⟨rfl, hb2⟩; obtain ⟨hc2, hf2⟩ := impl_PeekWord.bc hb2; have q0 : w2.cell? ⟨w.heap.size, 0, none⟩ = some (.slice (some ad) l0_0.length c0_0) := (by rw [hc2 _ _ (by simp)]; simp); obtain ⟨y0, y1⟩ := HX.out w2 (below_step (by repeat (with_reducible first | exact Below.refl _ _ | apply below_alloc | apply pw_below_drewN | apply below_drew1)) hb2); have hz2 : w.heap.size < w2.heap.size := by (have := hb2.size; simp at this; omega)) | (go_at_call 39; (with_reducible refine (impl_isWord.calls a1 _ _ HU.out).mono ?_); rintro e w' ⟨rfl, ⟨nd1, rfl⟩⟩) | (go_at_call 67; (with_reducible refine (impl_codeOf.calls k 1 2 a1 _ _ HV.out).mono ?_); rintro e w' ⟨rfl, ⟨nd2, rfl⟩⟩) | go_in)
          go_quiet (fail)
          go_wp2
          go_ret2
          exact ⟨rfl, by repeat (with_reducible first | exact below_step (by repeat (with_reducible first | exact Below.refl _ _ | apply below_alloc | apply pw_below_drewN | apply below_drew1)) hb2 | apply pw_below_drewN | apply below_drew1)⟩
        · rw [if_neg g] at H
          exact absurd H (by simp)
      · rw [if_neg c] at H
        have c0 : (v == 0) = false := beq_eq_false_iff_ne.mpr c
        have c1 : (v != 0) = true := bne_iff_ne.mpr c
        clear c
        simp only [Option.some.injEq, Prod.mk.injEq] at H
        obtain ⟨rfl, rfl⟩ := H
        go_enter Try.func24, Try.ntmps24
        go_wp2_with (first | (go_at_call 66; refine (HG.out _ ?hB).mono ?_; (case hB => repeat (with_reducible first | exact Below.refl _ _ | apply below_alloc | apply pw_below_drewN | apply below_drew1)); rintro e w2 ⟨rfl, hb2⟩; obtain ⟨hc2, hf2⟩ := impl_PeekWord.bc hb2; have hz2 : w.heap.size < w2.heap.size := by (have := hb2.size; simp at this; omega)) | (go_at_call 39; (with_reducible refine (impl_isWord.calls a1 _ _ HU.out).mono ?_); rintro e w' ⟨rfl, ⟨nd1, rfl⟩⟩) | (go_at_call 67; (with_reducible refine (impl_codeOf.calls k 1 2 a1 _ _ HV.out).mono ?_); rintro e w' ⟨rfl, ⟨nd2, rfl⟩⟩))
        go_ret2
        exact ⟨rfl, by repeat (with_reducible first | exact below_step (by repeat (with_reducible first | exact Below.refl _ _ | apply below_alloc | apply pw_below_drewN | apply below_drew1)) hb2 | apply pw_below_drewN | apply below_drew1)⟩

end Go.Proofs.Ytdpbfjcfpgbbjaa.HFnExactPeekWord
