-- out of hprint.py, this session's own program over the kit's print (see NOTES.md); Lean checks it
import Derived.Test.YtdpbfjcfpgbbjaaHFnExactLogOfx0
import Derived.Test.YtdpbfjcfpgbbjaaHFnExactLogOfx3
namespace Go.Proofs.Ytdpbfjcfpgbbjaa.HFnExactLogOf
open Go.RowKit Go.Proofs.YtdpbfjcfpgbbjaaW.PrintWords Go.Proofs.YtdpbfjcfpgbbjaaW.PrintLast Go.Proofs.YtdpbfjcfpgbbjaaW.PrintMore
attribute [local go_sem] max2_int min2_int max_two min_two max_three min_three max_four min_four   -- for this text's walks alone
set_option linter.unusedVariables false
set_option linter.unusedSimpArgs false

/-! ### impl_isAccess: function 103 -/
def impl_isAccess.f (a0_0 : Int) (a0_1 : Int) (a0_2 : Int) (a0_3 : Int) (a0_4 : Int) : Option (Bool) := (impl_within.f a0_0 1 3).bind fun t171 => (if t171 = true then ((impl_isWord.f a0_2).bind fun t172 => (if t172 = true then ((impl_isValue.f a0_1 a0_3).bind fun t173 => (if t173 = true then ((impl_within.f a0_4 0 3).bind fun t174 => (if t174 = true then (if a0_0 = 3 then (some (!(a0_4 == 0))) else (some (!false))) else (some false))) else (some false))) else (some false))) else (some false))
set_option maxHeartbeats 8000000 in
set_option maxRecDepth 100000 in
theorem impl_isAccess.calls (a0_0 : Int) (a0_1 : Int) (a0_2 : Int) (a0_3 : Int) (a0_4 : Int) (r : Bool) (w : World) (h : impl_isAccess.f a0_0 a0_1 a0_2 a0_3 a0_4 = some r) :
    Calls Try.prog 103 #[.agg #[.int .i64 a0_0, .int .i64 a0_1, .int .i64 a0_2, .int .i64 a0_3, .int .i64 a0_4]] w fun e w' => e = .returned (.bool r) ∧ Below w.heap.size w w' := by
  have hu91 := Try.underlying91
  have HB := Aside0.mk (Below.refl w.heap.size w)
  have H : ((impl_within.f a0_0 1 3).bind fun t171 => (if t171 = true then ((impl_isWord.f a0_2).bind fun t172 => (if t172 = true then ((impl_isValue.f a0_1 a0_3).bind fun t173 => (if t173 = true then ((impl_within.f a0_4 0 3).bind fun t174 => (if t174 = true then (if a0_0 = 3 then (some (!(a0_4 == 0))) else (some (!false))) else (some false))) else (some false))) else (some false))) else (some false))) = some r := h
  clear h
  replace H := Option.bind_eq_some_iff.mp H
  obtain ⟨t171, A20, H⟩ := H
  replace H : (if t171 = true then ((impl_isWord.f a0_2).bind fun t172 => (if t172 = true then ((impl_isValue.f a0_1 a0_3).bind fun t173 => (if t173 = true then ((impl_within.f a0_4 0 3).bind fun t174 => (if t174 = true then (if a0_0 = 3 then (some (!(a0_4 == 0))) else (some (!false))) else (some false))) else (some false))) else (some false))) else (some false)) = some r := H
  have A2 := Aside0.mk A20
  clear A20
  by_cases c3 : t171 = true
  · subst c3
    have H1 : ((impl_isWord.f a0_2).bind fun t172 => (if t172 = true then ((impl_isValue.f a0_1 a0_3).bind fun t173 => (if t173 = true then ((impl_within.f a0_4 0 3).bind fun t174 => (if t174 = true then (if a0_0 = 3 then (some (!(a0_4 == 0))) else (some (!false))) else (some false))) else (some false))) else (some false))) = some r := by rw [if_pos rfl] at H; exact H
    clear H
    have H := H1
    clear H1
    replace H := Option.bind_eq_some_iff.mp H
    obtain ⟨t172, A40, H⟩ := H
    replace H : (if t172 = true then ((impl_isValue.f a0_1 a0_3).bind fun t173 => (if t173 = true then ((impl_within.f a0_4 0 3).bind fun t174 => (if t174 = true then (if a0_0 = 3 then (some (!(a0_4 == 0))) else (some (!false))) else (some false))) else (some false))) else (some false)) = some r := H
    have A4 := Aside0.mk A40
    clear A40
    by_cases c5 : t172 = true
    · subst c5
      have H1 : ((impl_isValue.f a0_1 a0_3).bind fun t173 => (if t173 = true then ((impl_within.f a0_4 0 3).bind fun t174 => (if t174 = true then (if a0_0 = 3 then (some (!(a0_4 == 0))) else (some (!false))) else (some false))) else (some false))) = some r := by rw [if_pos rfl] at H; exact H
      clear H
      have H := H1
      clear H1
      replace H := Option.bind_eq_some_iff.mp H
      obtain ⟨t173, A60, H⟩ := H
      replace H : (if t173 = true then ((impl_within.f a0_4 0 3).bind fun t174 => (if t174 = true then (if a0_0 = 3 then (some (!(a0_4 == 0))) else (some (!false))) else (some false))) else (some false)) = some r := H
      have A6 := Aside0.mk A60
      clear A60
      by_cases c7 : t173 = true
      · subst c7
        have H1 : ((impl_within.f a0_4 0 3).bind fun t174 => (if t174 = true then (if a0_0 = 3 then (some (!(a0_4 == 0))) else (some (!false))) else (some false))) = some r := by rw [if_pos rfl] at H; exact H
        clear H
        have H := H1
        clear H1
        replace H := Option.bind_eq_some_iff.mp H
        obtain ⟨t174, A80, H⟩ := H
        replace H : (if t174 = true then (if a0_0 = 3 then (some (!(a0_4 == 0))) else (some (!false))) else (some false)) = some r := H
        have A8 := Aside0.mk A80
        clear A80
        by_cases c9 : t174 = true
        · subst c9
          have H1 : (if a0_0 = 3 then (some (!(a0_4 == 0))) else (some (!false))) = some r := by rw [if_pos rfl] at H; exact H
          clear H
          have H := H1
          clear H1
          by_cases c10 : a0_0 = 3
          · rw [if_pos c10] at H
            have c10b0 : (a0_0 == 3) = true := beq_iff_eq.mpr c10
            have c10b1 : (a0_0 != 3) = false := bne_eq_false_iff_eq.mpr c10
            clear c10
            obtain rfl := Option.some.inj H
            go_enter Try.func103, Try.ntmps103
            go_wp2_with (first | ((with_reducible refine gate_dst (N := 1) rfl ?_); refine box_event ?hg (N := 1) ?hd (cs := #[.int .i64 a0_0, .int .i64 a0_1, .int .i64 a0_2, .int .i64 a0_3, .int .i64 a0_4]) (t := 91) ?hr ?_; (case hd => rfl); (case hg => rfl); (case hr => first | (go_simp; done) | (go_simp; rfl)); intro gb170 hg w11 hbox hb; have n0_ := Aside0.mk (below_step (by repeat (first | (with_reducible first | exact HB.out | apply below_alloc | apply pw_below_drewN | apply below_drew1) | exact HB.out)) hb); have n1_ := Aside0.mk (hbox); have n2_ := Aside0.mk ((by rw [hg]; exact (below_size (by repeat (first | (with_reducible first | exact HB.out | apply below_alloc | apply pw_below_drewN | apply below_drew1) | exact HB.out))) : w.heap.size ≤ gb170)); have n3_ := Aside0.mk ((by rw [hg]; exact (below_size (by repeat (first | (with_reducible first | exact HB.out | apply below_alloc | apply pw_below_drewN | apply below_drew1) | exact HB.out))) : w.heap.size ≤ gb170)); clear HB; have HB := n0_; have BK170 := n1_; have GW170 := n2_; have GE170 := n3_; clear n0_ n1_ n2_ n3_; clear hb hbox hg; have hcz12_0 : w11.cell? ⟨gb170, 0, none⟩ = some (.int .i64 a0_0) := (blk_cell BK170.out 0).trans rfl; have hcz12_1 : w11.cell? ⟨gb170, 1, none⟩ = some (.int .i64 a0_1) := (blk_cell BK170.out 1).trans rfl; have hcz12_2 : w11.cell? ⟨gb170, 2, none⟩ = some (.int .i64 a0_2) := (blk_cell BK170.out 2).trans rfl; have hcz12_3 : w11.cell? ⟨gb170, 3, none⟩ = some (.int .i64 a0_3) := (blk_cell BK170.out 3).trans rfl; have hcz12_4 : w11.cell? ⟨gb170, 4, none⟩ = some (.int .i64 a0_4) := (blk_cell BK170.out 4).trans rfl; have hfz12_0 := blk_frozen BK170.out 0; have hfz12_1 := blk_frozen BK170.out 1; have hfz12_2 := blk_frozen BK170.out 2; have hfz12_3 := blk_frozen BK170.out 3; have hfz12_4 := blk_frozen BK170.out 4) | ((with_reducible refine gate_callee (f := 51) rfl ?_); refine goesL_ (some 5) rfl rfl Try.func51 (by kernel_rfl) rfl #[.int .i64 a0_0, .int .i64 1, .int .i64 3] rfl (by (try simp only [List.map_toArray, List.map_cons, List.map_nil]); first | done | rfl | (simp only [List.length_drop, List.length_take]; rfl)) ?_; (with_reducible refine (impl_within.calls a0_0 1 3 true _ A2.out).mono ?_); rintro e w' ⟨rfl, ⟨nd, rfl⟩⟩; refine ⟨_, rfl, ?_⟩) | (go_at_call 39; (with_reducible refine (impl_isWord.calls a0_2 true _ A4.out).mono ?_); rintro e w' ⟨rfl, ⟨nd, rfl⟩⟩) | (go_at_call 59; (with_reducible refine (impl_isValue.calls a0_1 a0_3 true _ A6.out).mono ?_); rintro e w' ⟨rfl, ⟨nd, rfl⟩⟩) | (go_at_call 51; (with_reducible refine (impl_within.calls a0_4 0 3 true _ A8.out).mono ?_); rintro e w' ⟨rfl, ⟨nd, rfl⟩⟩))
            go_ret
            exact ⟨by first | rfl | (simp [errW_none, errW_some] <;> rfl) | (simp [*, errW_none, errW_some] <;> rfl), by repeat (first | (with_reducible first | exact HB.out | apply below_alloc | apply pw_below_drewN | apply below_drew1 | refine below_set ?_ GE170.out) | exact HB.out)⟩
          · rw [if_neg c10] at H
            have c10b0 : (a0_0 == 3) = false := beq_eq_false_iff_ne.mpr c10
            have c10b1 : (a0_0 != 3) = true := bne_iff_ne.mpr c10
            obtain rfl := Option.some.inj H
            go_enter Try.func103, Try.ntmps103
            go_wp2_with (first | ((with_reducible refine gate_dst (N := 1) rfl ?_); refine box_event ?hg (N := 1) ?hd (cs := #[.int .i64 a0_0, .int .i64 a0_1, .int .i64 a0_2, .int .i64 a0_3, .int .i64 a0_4]) (t := 91) ?hr ?_; (case hd => rfl); (case hg => rfl); (case hr => first | (go_simp; done) | (go_simp; rfl)); intro gb170 hg w13 hbox hb; have n0_ := Aside0.mk (below_step (by repeat (first | (with_reducible first | exact HB.out | apply below_alloc | apply pw_below_drewN | apply below_drew1) | exact HB.out)) hb); have n1_ := Aside0.mk (hbox); have n2_ := Aside0.mk ((by rw [hg]; exact (below_size (by repeat (first | (with_reducible first | exact HB.out | apply below_alloc | apply pw_below_drewN | apply below_drew1) | exact HB.out))) : w.heap.size ≤ gb170)); have n3_ := Aside0.mk ((by rw [hg]; exact (below_size (by repeat (first | (with_reducible first | exact HB.out | apply below_alloc | apply pw_below_drewN | apply below_drew1) | exact HB.out))) : w.heap.size ≤ gb170)); clear HB; have HB := n0_; have BK170 := n1_; have GW170 := n2_; have GE170 := n3_; clear n0_ n1_ n2_ n3_; clear hb hbox hg; have hcz14_0 : w13.cell? ⟨gb170, 0, none⟩ = some (.int .i64 a0_0) := (blk_cell BK170.out 0).trans rfl; have hcz14_1 : w13.cell? ⟨gb170, 1, none⟩ = some (.int .i64 a0_1) := (blk_cell BK170.out 1).trans rfl; have hcz14_2 : w13.cell? ⟨gb170, 2, none⟩ = some (.int .i64 a0_2) := (blk_cell BK170.out 2).trans rfl; have hcz14_3 : w13.cell? ⟨gb170, 3, none⟩ = some (.int .i64 a0_3) := (blk_cell BK170.out 3).trans rfl; have hcz14_4 : w13.cell? ⟨gb170, 4, none⟩ = some (.int .i64 a0_4) := (blk_cell BK170.out 4).trans rfl; have hfz14_0 := blk_frozen BK170.out 0; have hfz14_1 := blk_frozen BK170.out 1; have hfz14_2 := blk_frozen BK170.out 2; have hfz14_3 := blk_frozen BK170.out 3; have hfz14_4 := blk_frozen BK170.out 4) | ((with_reducible refine gate_callee (f := 51) rfl ?_); refine goesL_ (some 5) rfl rfl Try.func51 (by kernel_rfl) rfl #[.int .i64 a0_0, .int .i64 1, .int .i64 3] rfl (by (try simp only [List.map_toArray, List.map_cons, List.map_nil]); first | done | rfl | (simp only [List.length_drop, List.length_take]; rfl)) ?_; (with_reducible refine (impl_within.calls a0_0 1 3 true _ A2.out).mono ?_); rintro e w' ⟨rfl, ⟨nd, rfl⟩⟩; refine ⟨_, rfl, ?_⟩) | (go_at_call 39; (with_reducible refine (impl_isWord.calls a0_2 true _ A4.out).mono ?_); rintro e w' ⟨rfl, ⟨nd, rfl⟩⟩) | (go_at_call 59; (with_reducible refine (impl_isValue.calls a0_1 a0_3 true _ A6.out).mono ?_); rintro e w' ⟨rfl, ⟨nd, rfl⟩⟩) | (go_at_call 51; (with_reducible refine (impl_within.calls a0_4 0 3 true _ A8.out).mono ?_); rintro e w' ⟨rfl, ⟨nd, rfl⟩⟩))
            go_ret
            exact ⟨by first | rfl | (simp [errW_none, errW_some] <;> rfl) | (simp [*, errW_none, errW_some] <;> rfl), by repeat (first | (with_reducible first | exact HB.out | apply below_alloc | apply pw_below_drewN | apply below_drew1 | refine below_set ?_ GE170.out) | exact HB.out)⟩
        · replace c9 := Bool.eq_false_iff.mpr c9
          subst c9
          have H1 : (some false) = some r := by rw [if_neg (show ¬ (false = true) by decide)] at H; exact H
          clear H
          have H := H1
          clear H1
          obtain rfl := Option.some.inj H
          go_enter Try.func103, Try.ntmps103
          go_wp2_with (first | ((with_reducible refine gate_dst (N := 1) rfl ?_); refine box_event ?hg (N := 1) ?hd (cs := #[.int .i64 a0_0, .int .i64 a0_1, .int .i64 a0_2, .int .i64 a0_3, .int .i64 a0_4]) (t := 91) ?hr ?_; (case hd => rfl); (case hg => rfl); (case hr => first | (go_simp; done) | (go_simp; rfl)); intro gb170 hg w15 hbox hb; have n0_ := Aside0.mk (below_step (by repeat (first | (with_reducible first | exact HB.out | apply below_alloc | apply pw_below_drewN | apply below_drew1) | exact HB.out)) hb); have n1_ := Aside0.mk (hbox); have n2_ := Aside0.mk ((by rw [hg]; exact (below_size (by repeat (first | (with_reducible first | exact HB.out | apply below_alloc | apply pw_below_drewN | apply below_drew1) | exact HB.out))) : w.heap.size ≤ gb170)); have n3_ := Aside0.mk ((by rw [hg]; exact (below_size (by repeat (first | (with_reducible first | exact HB.out | apply below_alloc | apply pw_below_drewN | apply below_drew1) | exact HB.out))) : w.heap.size ≤ gb170)); clear HB; have HB := n0_; have BK170 := n1_; have GW170 := n2_; have GE170 := n3_; clear n0_ n1_ n2_ n3_; clear hb hbox hg; have hcz16_0 : w15.cell? ⟨gb170, 0, none⟩ = some (.int .i64 a0_0) := (blk_cell BK170.out 0).trans rfl; have hcz16_1 : w15.cell? ⟨gb170, 1, none⟩ = some (.int .i64 a0_1) := (blk_cell BK170.out 1).trans rfl; have hcz16_2 : w15.cell? ⟨gb170, 2, none⟩ = some (.int .i64 a0_2) := (blk_cell BK170.out 2).trans rfl; have hcz16_3 : w15.cell? ⟨gb170, 3, none⟩ = some (.int .i64 a0_3) := (blk_cell BK170.out 3).trans rfl; have hcz16_4 : w15.cell? ⟨gb170, 4, none⟩ = some (.int .i64 a0_4) := (blk_cell BK170.out 4).trans rfl; have hfz16_0 := blk_frozen BK170.out 0; have hfz16_1 := blk_frozen BK170.out 1; have hfz16_2 := blk_frozen BK170.out 2; have hfz16_3 := blk_frozen BK170.out 3; have hfz16_4 := blk_frozen BK170.out 4) | ((with_reducible refine gate_callee (f := 51) rfl ?_); refine goesL_ (some 5) rfl rfl Try.func51 (by kernel_rfl) rfl #[.int .i64 a0_0, .int .i64 1, .int .i64 3] rfl (by (try simp only [List.map_toArray, List.map_cons, List.map_nil]); first | done | rfl | (simp only [List.length_drop, List.length_take]; rfl)) ?_; (with_reducible refine (impl_within.calls a0_0 1 3 true _ A2.out).mono ?_); rintro e w' ⟨rfl, ⟨nd, rfl⟩⟩; refine ⟨_, rfl, ?_⟩) | (go_at_call 39; (with_reducible refine (impl_isWord.calls a0_2 true _ A4.out).mono ?_); rintro e w' ⟨rfl, ⟨nd, rfl⟩⟩) | (go_at_call 59; (with_reducible refine (impl_isValue.calls a0_1 a0_3 true _ A6.out).mono ?_); rintro e w' ⟨rfl, ⟨nd, rfl⟩⟩) | (go_at_call 51; (with_reducible refine (impl_within.calls a0_4 0 3 false _ A8.out).mono ?_); rintro e w' ⟨rfl, ⟨nd, rfl⟩⟩))
          go_ret
          exact ⟨by first | rfl | (simp [errW_none, errW_some] <;> rfl) | (simp [*, errW_none, errW_some] <;> rfl), by repeat (first | (with_reducible first | exact HB.out | apply below_alloc | apply pw_below_drewN | apply below_drew1 | refine below_set ?_ GE170.out) | exact HB.out)⟩
      · replace c7 := Bool.eq_false_iff.mpr c7
        subst c7
        have H1 : (some false) = some r := by rw [if_neg (show ¬ (false = true) by decide)] at H; exact H
        clear H
        have H := H1
        clear H1
        obtain rfl := Option.some.inj H
        go_enter Try.func103, Try.ntmps103
        go_wp2_with (first | ((with_reducible refine gate_dst (N := 1) rfl ?_); refine box_event ?hg (N := 1) ?hd (cs := #[.int .i64 a0_0, .int .i64 a0_1, .int .i64 a0_2, .int .i64 a0_3, .int .i64 a0_4]) (t := 91) ?hr ?_; (case hd => rfl); (case hg => rfl); (case hr => first | (go_simp; done) | (go_simp; rfl)); intro gb170 hg w17 hbox hb; have n0_ := Aside0.mk (below_step (by repeat (first | (with_reducible first | exact HB.out | apply below_alloc | apply pw_below_drewN | apply below_drew1) | exact HB.out)) hb); have n1_ := Aside0.mk (hbox); have n2_ := Aside0.mk ((by rw [hg]; exact (below_size (by repeat (first | (with_reducible first | exact HB.out | apply below_alloc | apply pw_below_drewN | apply below_drew1) | exact HB.out))) : w.heap.size ≤ gb170)); have n3_ := Aside0.mk ((by rw [hg]; exact (below_size (by repeat (first | (with_reducible first | exact HB.out | apply below_alloc | apply pw_below_drewN | apply below_drew1) | exact HB.out))) : w.heap.size ≤ gb170)); clear HB; have HB := n0_; have BK170 := n1_; have GW170 := n2_; have GE170 := n3_; clear n0_ n1_ n2_ n3_; clear hb hbox hg; have hcz18_0 : w17.cell? ⟨gb170, 0, none⟩ = some (.int .i64 a0_0) := (blk_cell BK170.out 0).trans rfl; have hcz18_1 : w17.cell? ⟨gb170, 1, none⟩ = some (.int .i64 a0_1) := (blk_cell BK170.out 1).trans rfl; have hcz18_2 : w17.cell? ⟨gb170, 2, none⟩ = some (.int .i64 a0_2) := (blk_cell BK170.out 2).trans rfl; have hcz18_3 : w17.cell? ⟨gb170, 3, none⟩ = some (.int .i64 a0_3) := (blk_cell BK170.out 3).trans rfl; have hcz18_4 : w17.cell? ⟨gb170, 4, none⟩ = some (.int .i64 a0_4) := (blk_cell BK170.out 4).trans rfl; have hfz18_0 := blk_frozen BK170.out 0; have hfz18_1 := blk_frozen BK170.out 1; have hfz18_2 := blk_frozen BK170.out 2; have hfz18_3 := blk_frozen BK170.out 3; have hfz18_4 := blk_frozen BK170.out 4) | ((with_reducible refine gate_callee (f := 51) rfl ?_); refine goesL_ (some 5) rfl rfl Try.func51 (by kernel_rfl) rfl #[.int .i64 a0_0, .int .i64 1, .int .i64 3] rfl (by (try simp only [List.map_toArray, List.map_cons, List.map_nil]); first | done | rfl | (simp only [List.length_drop, List.length_take]; rfl)) ?_; (with_reducible refine (impl_within.calls a0_0 1 3 true _ A2.out).mono ?_); rintro e w' ⟨rfl, ⟨nd, rfl⟩⟩; refine ⟨_, rfl, ?_⟩) | (go_at_call 39; (with_reducible refine (impl_isWord.calls a0_2 true _ A4.out).mono ?_); rintro e w' ⟨rfl, ⟨nd, rfl⟩⟩) | (go_at_call 59; (with_reducible refine (impl_isValue.calls a0_1 a0_3 false _ A6.out).mono ?_); rintro e w' ⟨rfl, ⟨nd, rfl⟩⟩))
        go_ret
        exact ⟨by first | rfl | (simp [errW_none, errW_some] <;> rfl) | (simp [*, errW_none, errW_some] <;> rfl), by repeat (first | (with_reducible first | exact HB.out | apply below_alloc | apply pw_below_drewN | apply below_drew1 | refine below_set ?_ GE170.out) | exact HB.out)⟩
    · replace c5 := Bool.eq_false_iff.mpr c5
      subst c5
      have H1 : (some false) = some r := by rw [if_neg (show ¬ (false = true) by decide)] at H; exact H
      clear H
      have H := H1
      clear H1
      obtain rfl := Option.some.inj H
      go_enter Try.func103, Try.ntmps103
      go_wp2_with (first | ((with_reducible refine gate_dst (N := 1) rfl ?_); refine box_event ?hg (N := 1) ?hd (cs := #[.int .i64 a0_0, .int .i64 a0_1, .int .i64 a0_2, .int .i64 a0_3, .int .i64 a0_4]) (t := 91) ?hr ?_; (case hd => rfl); (case hg => rfl); (case hr => first | (go_simp; done) | (go_simp; rfl)); intro gb170 hg w19 hbox hb; have n0_ := Aside0.mk (below_step (by repeat (first | (with_reducible first | exact HB.out | apply below_alloc | apply pw_below_drewN | apply below_drew1) | exact HB.out)) hb); have n1_ := Aside0.mk (hbox); have n2_ := Aside0.mk ((by rw [hg]; exact (below_size (by repeat (first | (with_reducible first | exact HB.out | apply below_alloc | apply pw_below_drewN | apply below_drew1) | exact HB.out))) : w.heap.size ≤ gb170)); have n3_ := Aside0.mk ((by rw [hg]; exact (below_size (by repeat (first | (with_reducible first | exact HB.out | apply below_alloc | apply pw_below_drewN | apply below_drew1) | exact HB.out))) : w.heap.size ≤ gb170)); clear HB; have HB := n0_; have BK170 := n1_; have GW170 := n2_; have GE170 := n3_; clear n0_ n1_ n2_ n3_; clear hb hbox hg; have hcz20_0 : w19.cell? ⟨gb170, 0, none⟩ = some (.int .i64 a0_0) := (blk_cell BK170.out 0).trans rfl; have hcz20_1 : w19.cell? ⟨gb170, 1, none⟩ = some (.int .i64 a0_1) := (blk_cell BK170.out 1).trans rfl; have hcz20_2 : w19.cell? ⟨gb170, 2, none⟩ = some (.int .i64 a0_2) := (blk_cell BK170.out 2).trans rfl; have hcz20_3 : w19.cell? ⟨gb170, 3, none⟩ = some (.int .i64 a0_3) := (blk_cell BK170.out 3).trans rfl; have hcz20_4 : w19.cell? ⟨gb170, 4, none⟩ = some (.int .i64 a0_4) := (blk_cell BK170.out 4).trans rfl; have hfz20_0 := blk_frozen BK170.out 0; have hfz20_1 := blk_frozen BK170.out 1; have hfz20_2 := blk_frozen BK170.out 2; have hfz20_3 := blk_frozen BK170.out 3; have hfz20_4 := blk_frozen BK170.out 4) | ((with_reducible refine gate_callee (f := 51) rfl ?_); refine goesL_ (some 5) rfl rfl Try.func51 (by kernel_rfl) rfl #[.int .i64 a0_0, .int .i64 1, .int .i64 3] rfl (by (try simp only [List.map_toArray, List.map_cons, List.map_nil]); first | done | rfl | (simp only [List.length_drop, List.length_take]; rfl)) ?_; (with_reducible refine (impl_within.calls a0_0 1 3 true _ A2.out).mono ?_); rintro e w' ⟨rfl, ⟨nd, rfl⟩⟩; refine ⟨_, rfl, ?_⟩) | (go_at_call 39; (with_reducible refine (impl_isWord.calls a0_2 false _ A4.out).mono ?_); rintro e w' ⟨rfl, ⟨nd, rfl⟩⟩))
      go_ret
      exact ⟨by first | rfl | (simp [errW_none, errW_some] <;> rfl) | (simp [*, errW_none, errW_some] <;> rfl), by repeat (first | (with_reducible first | exact HB.out | apply below_alloc | apply pw_below_drewN | apply below_drew1 | refine below_set ?_ GE170.out) | exact HB.out)⟩
  · replace c3 := Bool.eq_false_iff.mpr c3
    subst c3
    have H1 : (some false) = some r := by rw [if_neg (show ¬ (false = true) by decide)] at H; exact H
    clear H
    have H := H1
    clear H1
    obtain rfl := Option.some.inj H
    go_enter Try.func103, Try.ntmps103
    go_wp2_with (first | ((with_reducible refine gate_dst (N := 1) rfl ?_); refine box_event ?hg (N := 1) ?hd (cs := #[.int .i64 a0_0, .int .i64 a0_1, .int .i64 a0_2, .int .i64 a0_3, .int .i64 a0_4]) (t := 91) ?hr ?_; (case hd => rfl); (case hg => rfl); (case hr => first | (go_simp; done) | (go_simp; rfl)); intro gb170 hg w21 hbox hb; have n0_ := Aside0.mk (below_step (by repeat (first | (with_reducible first | exact HB.out | apply below_alloc | apply pw_below_drewN | apply below_drew1) | exact HB.out)) hb); have n1_ := Aside0.mk (hbox); have n2_ := Aside0.mk ((by rw [hg]; exact (below_size (by repeat (first | (with_reducible first | exact HB.out | apply below_alloc | apply pw_below_drewN | apply below_drew1) | exact HB.out))) : w.heap.size ≤ gb170)); have n3_ := Aside0.mk ((by rw [hg]; exact (below_size (by repeat (first | (with_reducible first | exact HB.out | apply below_alloc | apply pw_below_drewN | apply below_drew1) | exact HB.out))) : w.heap.size ≤ gb170)); clear HB; have HB := n0_; have BK170 := n1_; have GW170 := n2_; have GE170 := n3_; clear n0_ n1_ n2_ n3_; clear hb hbox hg; have hcz22_0 : w21.cell? ⟨gb170, 0, none⟩ = some (.int .i64 a0_0) := (blk_cell BK170.out 0).trans rfl; have hcz22_1 : w21.cell? ⟨gb170, 1, none⟩ = some (.int .i64 a0_1) := (blk_cell BK170.out 1).trans rfl; have hcz22_2 : w21.cell? ⟨gb170, 2, none⟩ = some (.int .i64 a0_2) := (blk_cell BK170.out 2).trans rfl; have hcz22_3 : w21.cell? ⟨gb170, 3, none⟩ = some (.int .i64 a0_3) := (blk_cell BK170.out 3).trans rfl; have hcz22_4 : w21.cell? ⟨gb170, 4, none⟩ = some (.int .i64 a0_4) := (blk_cell BK170.out 4).trans rfl; have hfz22_0 := blk_frozen BK170.out 0; have hfz22_1 := blk_frozen BK170.out 1; have hfz22_2 := blk_frozen BK170.out 2; have hfz22_3 := blk_frozen BK170.out 3; have hfz22_4 := blk_frozen BK170.out 4) | ((with_reducible refine gate_callee (f := 51) rfl ?_); refine goesL_ (some 5) rfl rfl Try.func51 (by kernel_rfl) rfl #[.int .i64 a0_0, .int .i64 1, .int .i64 3] rfl (by (try simp only [List.map_toArray, List.map_cons, List.map_nil]); first | done | rfl | (simp only [List.length_drop, List.length_take]; rfl)) ?_; (with_reducible refine (impl_within.calls a0_0 1 3 false _ A2.out).mono ?_); rintro e w' ⟨rfl, ⟨nd, rfl⟩⟩; refine ⟨_, rfl, ?_⟩))
    go_ret
    exact ⟨by first | rfl | (simp [errW_none, errW_some] <;> rfl) | (simp [*, errW_none, errW_some] <;> rfl), by repeat (first | (with_reducible first | exact HB.out | apply below_alloc | apply pw_below_drewN | apply below_drew1 | refine below_set ?_ GE170.out) | exact HB.out)⟩

-- NOT PRINTED: function 102 (impl_GoodBus_2)

/-! ### impl_GoodBus: function 66 -/
/-- Is a number none of the good ones? -/
def impl_GoodBus.bad (v : Int) : Bool := !(decide (0 ≤ v ∧ v ≤ 255))
theorem impl_GoodBus.told (v : Int) : impl_within.f v 0 255 = some (!impl_GoodBus.bad v) := by
  unfold impl_GoodBus.bad impl_within.f
  by_cases h : v ≥ 0 <;> simp [h, Int.not_le]
theorem impl_GoodBus.closure (v : Int) (w : World) : Calls Try.prog 100 #[.int .i64 v] w fun e w' => e = .returned (.bool (impl_GoodBus.bad v)) ∧ Drawn0 w w' := by
  have HT := Aside0.mk (impl_GoodBus.told v)
  obtain ⟨b, hb⟩ : ∃ b, b = impl_GoodBus.bad v := ⟨_, rfl⟩
  rw [← hb] at HT ⊢
  clear hb
  go_enter Try.func100, Try.ntmps100
  go_wp2_with (go_at_call 51; refine (impl_within.calls v 0 255 (!b) _ HT.out).mono ?_; rintro e w' ⟨rfl, ⟨nd, rfl⟩⟩)
  go_ret
  exact ⟨by simp, by repeat (first | exact Drawn0.refl _ | apply Drawn0.step)⟩
/-- The place of the first bad one: at least 0 just where there is one. -/
def impl_GoodBus.Idx (l : List Int) (e : Ending) : Prop := ∃ i : Int, e = .returned (.int .i64 i) ∧ decide (0 ≤ i) = l.any impl_GoodBus.bad
theorem impl_GoodBus.any_true {l : List Int} {i : Nat} (h : i < l.length) (hb : impl_GoodBus.bad (l.getD i 0) = true) : l.any impl_GoodBus.bad = true := by
  rw [List.any_eq_true]
  exact ⟨l[i], List.getElem_mem h, by simpa [List.getD, List.getElem?_eq_getElem h] using hb⟩
theorem impl_GoodBus.any_false {l : List Int} (h : ∀ j, j < l.length → impl_GoodBus.bad (l.getD j 0) = false) : l.any impl_GoodBus.bad = false := by
  rw [List.any_eq_false]
  intro x hx
  obtain ⟨j, hj, rfl⟩ := List.getElem_of_mem hx
  have := h j hj
  simpa [List.getD, List.getElem?_eq_getElem hj] using this
set_option maxHeartbeats 4000000 in
set_option maxRecDepth 100000 in
theorem impl_GoodBus.index (A0 : Option Addr) (c0 : Nat) (l0 : List Int) (w : World) (hr0 : Kd.C (Kd.int .i64) w A0 l0.length l0) (hc0 : l0.length ≤ c0) :
    Calls Try.prog 112 #[.slice A0 l0.length c0, .func (.func 100) #[] #[]] w fun e w' => impl_GoodBus.Idx l0 e ∧ Drawn0 w w' := by
  have HR0 := Aside0.mk hr0
  have HC0 := Aside0.mk hc0
  have hlen := hr0.2.1
  clear hr0 hc0
  go_enter Try.func112, Try.ntmps112
  go_wp2
  go_loopg [8] l0.length (fun d v8 w' => ∃ i : Nat, v8 = .int .i64 (i : Int) ∧ Aside0 (i + d = l0.length) ∧ Aside0 (∀ j, j < i → impl_GoodBus.bad (l0.getD j 0) = false) ∧ Drawn0 w w')
  case atStart => exact ⟨0, (by first | rfl | (simp; done)), ⟨by omega⟩, ⟨fun j hj => absurd hj (by omega)⟩, by repeat (first | exact Drawn0.refl _ | apply Drawn0.step)⟩
  case round =>
    obtain ⟨i, rfl, HA, HB, ⟨m, rfl⟩⟩ := hrel
    cases gk with
    | zero =>
      have hi := HA.out
      have hge : ¬ ((i : Int) < (l0.length : Int)) := by omega
      have c0b : decide ((i : Int) < (l0.length : Int)) = false := decide_eq_false hge
      have c0n : decide (i < l0.length) = false := decide_eq_false (by omega)
      clear hge hi
      go_wp2
      go_ret
      exact ⟨⟨-1, rfl, by rw [impl_GoodBus.any_false (fun j hj => HB.out j (by have := HA.out; omega))]; rfl⟩, by repeat (first | exact Drawn0.refl _ | apply Drawn0.step)⟩
    | succ d =>
      have hi : i < l0.length := by have := HA.out; omega
      have c0b : decide ((i : Int) < (l0.length : Int)) = true := decide_eq_true (by omega)
      have c0n : decide (i < l0.length) = true := decide_eq_true hi
      have p0 : 0 ≤ (i : Int) := by omega
      have q0 : (i : Int) < (l0.length : Int) := by omega
      obtain ⟨ad, e0, hx⟩ := Kd.at_int HR0.out (i : Int) p0 q0
      cases e0
      rw [Int.toNat_natCast] at hx
      have hv : rd l0 (i : Int) = l0.getD i 0 := by unfold rd; rw [Int.toNat_natCast]
      rw [hv] at hx
      clear hv
      replace p0 := eq_true p0
      replace q0 := eq_true q0
      have hcl := Aside0.mk (fun W => impl_GoodBus.closure (l0.getD i 0) W)
      cases hb : impl_GoodBus.bad (l0.getD i 0) with
      | true =>
        have HT := Aside0.mk (impl_GoodBus.any_true hi hb)
        rw [hb] at hcl
        clear hb
        generalize l0.getD i 0 = v at hx hcl
        go_wp2_with (go_at_call 100; refine (hcl.out _).mono ?_; rintro e w' ⟨rfl, ⟨nd, rfl⟩⟩)
        go_ret
        exact ⟨⟨i, rfl, by rw [HT.out]; exact decide_eq_true (by omega)⟩, by repeat (first | exact Drawn0.refl _ | apply Drawn0.step)⟩
      | false =>
        have HN := Aside0.mk hb
        rw [hb] at hcl
        clear hb
        obtain ⟨v, hvv⟩ : ∃ v, v = l0.getD i 0 := ⟨_, rfl⟩
        rw [← hvv] at hx hcl
        have HV := Aside0.mk hvv
        clear hvv
        go_wp2_with (go_at_call 100; refine (hcl.out _).mono ?_; rintro e w' ⟨rfl, ⟨nd, rfl⟩⟩)
        go_roundg d
        case measure => omega
        case rel => exact ⟨i + 1, (by first | rfl | go_num | (simp; done)), ⟨by have := HA.out; omega⟩, ⟨fun j hj => (Nat.lt_succ_iff_lt_or_eq.mp hj).elim (fun h => HB.out j h) (fun h => by rw [h]; exact HN.out)⟩, by repeat (first | exact Drawn0.refl _ | apply Drawn0.step)⟩
set_option maxHeartbeats 4000000 in
set_option maxRecDepth 100000 in
theorem impl_GoodBus.contains (A0 : Option Addr) (c0 : Nat) (l0 : List Int) (w : World) (hr0 : Kd.C (Kd.int .i64) w A0 l0.length l0) (hc0 : l0.length ≤ c0) :
    Calls Try.prog 99 #[.slice A0 l0.length c0, .func (.func 100) #[] #[]] w fun e w' => e = .returned (.bool (l0.any impl_GoodBus.bad)) ∧ Drawn0 w w' := by
  have h := impl_GoodBus.index A0 c0 l0 w hr0 hc0
  have H := Aside0.mk h
  clear h hr0 hc0
  go_enter Try.func99, Try.ntmps99
  go_wp2_with (go_at_call 112; refine H.out.mono ?_; rintro e w' ⟨⟨i, rfl, hi⟩, ⟨nd, rfl⟩⟩; have HI := Aside0.mk hi; clear hi)
  go_ret
  exact ⟨by rw [← HI.out]; first | rfl | (simp; done), by repeat (first | exact Drawn0.refl _ | apply Drawn0.step)⟩
/-- Is an element none of the good ones? -/
def impl_GoodBus.badS (x : S91) : Bool := !((decide (1 ≤ x.f0 ∧ x.f0 ≤ 3) && decide (0 ≤ x.f2 ∧ x.f2 ≤ 65535)) && (decide ((x.f1 = 1 ∧ 0 ≤ x.f3 ∧ x.f3 ≤ 255) ∨ (x.f1 = 2 ∧ 0 ≤ x.f3 ∧ x.f3 ≤ 65535)) && (decide (0 ≤ x.f4 ∧ x.f4 ≤ 3) && !(decide (x.f0 = 3 ∧ x.f4 = 0)))))
theorem impl_GoodBus.within_ (a b c : Int) : impl_within.f a b c = some (decide (b ≤ a ∧ a ≤ c)) := by
  unfold impl_within.f
  by_cases h : b ≤ a <;> simp [h]
theorem impl_GoodBus.lim_1 : impl_limitOf.f 1 = some 256 := by decide +kernel
theorem impl_GoodBus.lim_2 : impl_limitOf.f 2 = some 65536 := by decide +kernel
theorem impl_GoodBus.value_ (s v : Int) : impl_isValue.f s v = some (decide ((s = 1 ∧ 0 ≤ v ∧ v ≤ 255) ∨ (s = 2 ∧ 0 ≤ v ∧ v ≤ 65535))) := by
  unfold impl_isValue.f impl_isSize.f
  by_cases h1 : s = 1
  · subst h1
    rw [if_pos rfl, Option.bind_some, if_pos rfl, impl_GoodBus.lim_1, Option.bind_some, show wrap64 (256 - 1) = 255 from by decide +kernel, impl_GoodBus.within_, Option.bind_some]
    simp
  · by_cases h2 : s = 2
    · subst h2
      rw [if_neg h1, Option.bind_some, if_pos (by decide), impl_GoodBus.lim_2, Option.bind_some, show wrap64 (65536 - 1) = 65535 from by decide +kernel, impl_GoodBus.within_, Option.bind_some]
      simp
    · simp [h1, h2]
theorem impl_GoodBus.toldS (x : S91) : ∃ _k : Unit, impl_isAccess.f x.f0 x.f1 x.f2 x.f3 x.f4 = some (!impl_GoodBus.badS x) := by
  refine ⟨(), ?_⟩
  unfold impl_isAccess.f impl_isWord.f impl_GoodBus.badS
  simp only [impl_GoodBus.within_, impl_GoodBus.value_, Option.bind_some, Bool.not_not]
  by_cases h1 : 1 ≤ x.f0 ∧ x.f0 ≤ 3
  · by_cases h2 : 0 ≤ x.f2 ∧ x.f2 ≤ 65535
    · by_cases h3 : (x.f1 = 1 ∧ 0 ≤ x.f3 ∧ x.f3 ≤ 255) ∨ (x.f1 = 2 ∧ 0 ≤ x.f3 ∧ x.f3 ≤ 65535)
      · by_cases h4 : 0 ≤ x.f4 ∧ x.f4 ≤ 3
        · by_cases h5 : x.f0 = 3
          · by_cases h6 : x.f4 = 0 <;> simp [h1, h2, h3, h4, h5, h6]
          · simp [h1, h2, h3, h4, h5]
        · simp [h1, h2, h3, h4]
      · simp [h1, h2, h3]
    · simp [h1, h2]
  · simp [h1]
theorem impl_GoodBus.closureS (x : S91) (w : World) : Calls Try.prog 102 #[.agg #[.int .i64 x.f0, .int .i64 x.f1, .int .i64 x.f2, .int .i64 x.f3, .int .i64 x.f4]] w fun e w' => e = .returned (.bool (impl_GoodBus.badS x)) ∧ Below w.heap.size w w' := by
  obtain ⟨k_, hk⟩ := impl_GoodBus.toldS x
  have HT := Aside0.mk hk
  clear hk
  obtain ⟨b, hb⟩ : ∃ b, b = impl_GoodBus.badS x := ⟨_, rfl⟩
  rw [← hb] at HT ⊢
  clear hb
  have hu := Try.underlying91
  go_enter Try.func102, Try.ntmps102
  go_wp2_with (go_at_call 103; refine (impl_isAccess.calls x.f0 x.f1 x.f2 x.f3 x.f4 (!b) _ HT.out).mono ?_; rintro e w' ⟨rfl, hb2⟩)
  go_ret
  exact ⟨by simp, below_then (by repeat (with_reducible first | exact Below.refl _ _ | apply below_alloc | apply pw_below_drewN | apply below_drew1)) (by simp <;> omega) hb2⟩
def impl_GoodBus.IdxS (l : List S91) (e : Ending) : Prop := ∃ i : Int, e = .returned (.int .i64 i) ∧ decide (0 ≤ i) = l.any impl_GoodBus.badS
theorem impl_GoodBus.anyS_true {l : List S91} {i : Nat} (h : i < l.length) (hb : impl_GoodBus.badS (l.getD i z91) = true) : l.any impl_GoodBus.badS = true := by
  rw [List.any_eq_true]
  exact ⟨l[i], List.getElem_mem h, by simpa [List.getD, List.getElem?_eq_getElem h] using hb⟩
theorem impl_GoodBus.anyS_false {l : List S91} (h : ∀ j, j < l.length → impl_GoodBus.badS (l.getD j z91) = false) : l.any impl_GoodBus.badS = false := by
  rw [List.any_eq_false]
  intro x hx
  obtain ⟨j, hj, rfl⟩ := List.getElem_of_mem hx
  have := h j hj
  simpa [List.getD, List.getElem?_eq_getElem hj] using this
set_option maxHeartbeats 4000000 in
set_option maxRecDepth 100000 in
theorem impl_GoodBus.indexS (A0 : Option Addr) (c0 : Nat) (l0 : List S91) (w : World) (hr0 : Kd.C k91 w A0 l0.length l0) (hc0 : l0.length ≤ c0) :
    Calls Try.prog 106 #[.slice A0 l0.length c0, .func (.func 102) #[] #[]] w fun e w' => impl_GoodBus.IdxS l0 e ∧ Below w.heap.size w w' := by
  have hu := Try.underlying91
  have HR0 := Aside0.mk hr0
  have HC0 := Aside0.mk hc0
  have hlen := hr0.2.1
  clear hr0 hc0
  go_enter Try.func106, Try.ntmps106
  go_wp2
  go_loopg [8] l0.length (fun d v8 w' => ∃ i : Nat, v8 = .int .i64 (i : Int) ∧ Aside0 (i + d = l0.length) ∧ Aside0 (∀ j, j < i → impl_GoodBus.badS (l0.getD j z91) = false) ∧ Aside0 (Below w.heap.size w w'))
  case atStart => exact ⟨0, (by first | rfl | (simp; done)), ⟨by omega⟩, ⟨fun j hj => absurd hj (by omega)⟩, ⟨by repeat (with_reducible first | exact Below.refl _ _ | apply below_alloc | apply pw_below_drewN | apply below_drew1)⟩⟩
  case round =>
    obtain ⟨i, rfl, HA, HB, HW⟩ := hrel
    cases gk with
    | zero =>
      have hi := HA.out
      have hge : ¬ ((i : Int) < (l0.length : Int)) := by omega
      have c0b : decide ((i : Int) < (l0.length : Int)) = false := decide_eq_false hge
      have c0n : decide (i < l0.length) = false := decide_eq_false (by omega)
      clear hge hi
      go_wp2
      go_ret
      exact ⟨⟨-1, rfl, by rw [impl_GoodBus.anyS_false (fun j hj => HB.out j (by have := HA.out; omega))]; rfl⟩, by repeat (with_reducible first | exact HW.out | apply below_alloc | apply pw_below_drewN | apply below_drew1)⟩
    | succ d =>
      have hi : i < l0.length := by have := HA.out; omega
      have c0b : decide ((i : Int) < (l0.length : Int)) = true := decide_eq_true (by omega)
      have c0n : decide (i < l0.length) = true := decide_eq_true hi
      have p0 : 0 ≤ (i : Int) := by omega
      have q0 : (i : Int) < (l0.length : Int) := by omega
      obtain ⟨ad, e0, hx0, hx1, hx2, hx3, hx4⟩ := at_T91 (Kd.C_below HR0.out HW.out) (i : Int) p0 q0
      cases e0
      have hv : rd_T91 l0 (i : Int) = l0.getD i z91 := by unfold rd_T91; rw [Int.toNat_natCast]
      rw [Int.toNat_natCast] at hx0 hx1 hx2 hx3 hx4
      rw [hv] at hx0 hx1 hx2 hx3 hx4
      clear hv
      replace p0 := eq_true p0
      replace q0 := eq_true q0
      have hcl := Aside0.mk (fun W => impl_GoodBus.closureS (l0.getD i z91) W)
      cases hb : impl_GoodBus.badS (l0.getD i z91) with
      | true =>
        have HT := Aside0.mk (impl_GoodBus.anyS_true hi hb)
        rw [hb] at hcl
        clear hb
        generalize l0.getD i z91 = v at hx0 hx1 hx2 hx3 hx4 hcl
        go_wp2_with (go_at_call 102; refine (hcl.out _).mono ?_; rintro e w2 ⟨rfl, hb2⟩)
        go_ret
        exact ⟨⟨i, rfl, by rw [HT.out]; exact decide_eq_true (by omega)⟩, below_step (by repeat (with_reducible first | exact HW.out | apply below_alloc | apply pw_below_drewN | apply below_drew1)) hb2⟩
      | false =>
        have HN := Aside0.mk hb
        rw [hb] at hcl
        clear hb
        obtain ⟨v, hvv⟩ : ∃ v, v = l0.getD i z91 := ⟨_, rfl⟩
        rw [← hvv] at hx0 hx1 hx2 hx3 hx4 hcl
        have HV := Aside0.mk hvv
        clear hvv
        go_wp2_with (go_at_call 102; refine (hcl.out _).mono ?_; rintro e w2 ⟨rfl, hb2⟩)
        have HW2 := Aside0.mk (below_step (by repeat (with_reducible first | exact HW.out | apply below_alloc | apply pw_below_drewN | apply below_drew1)) hb2)
        clear hb2
        go_roundg d
        case measure => omega
        case rel => exact ⟨i + 1, (by first | rfl | go_num | (simp; done)), ⟨by have := HA.out; omega⟩, ⟨fun j hj => (Nat.lt_succ_iff_lt_or_eq.mp hj).elim (fun h => HB.out j h) (fun h => by rw [h]; exact HN.out)⟩, ⟨by repeat (with_reducible first | exact HW2.out | apply below_alloc | apply pw_below_drewN | apply below_drew1)⟩⟩
set_option maxHeartbeats 4000000 in
set_option maxRecDepth 100000 in
theorem impl_GoodBus.containsS (A0 : Option Addr) (c0 : Nat) (l0 : List S91) (w : World) (hr0 : Kd.C k91 w A0 l0.length l0) (hc0 : l0.length ≤ c0) :
    Calls Try.prog 101 #[.slice A0 l0.length c0, .func (.func 102) #[] #[]] w fun e w' => e = .returned (.bool (l0.any impl_GoodBus.badS)) ∧ Below w.heap.size w w' := by
  have h := impl_GoodBus.indexS A0 c0 l0 w hr0 hc0
  have H := Aside0.mk h
  clear h hr0 hc0
  go_enter Try.func101, Try.ntmps101
  go_wp2_with (go_at_call 106; refine H.out.mono ?_; rintro e w' ⟨⟨i, rfl, hi⟩, hb2⟩; have HI := Aside0.mk hi; clear hi)
  go_ret
  exact ⟨by rw [← HI.out]; first | rfl | (simp; done), hb2⟩
def impl_GoodBus.f (l0_0 : List Int) (l0_1 : List S91) : Option (Bool) := some ((((l0_0.length : Int) == 512) && decide ((l0_1.length : Int) ≤ 400)) && (!(l0_0.any impl_GoodBus.bad) && !(l0_1.any impl_GoodBus.badS)))
set_option maxHeartbeats 4000000 in
set_option maxRecDepth 100000 in
theorem impl_GoodBus.calls (A0_0 : Option Addr) (c0_0 : Nat) (l0_0 : List Int) (A0_1 : Option Addr) (c0_1 : Nat) (l0_1 : List S91) (r : Bool) (w : World) (hr0_0 : Kd.C (Kd.int .i64) w A0_0 l0_0.length l0_0) (hc0_0 : l0_0.length ≤ c0_0) (hr0_1 : Kd.C k91 w A0_1 l0_1.length l0_1) (hc0_1 : l0_1.length ≤ c0_1) (h : impl_GoodBus.f l0_0 l0_1 = some r) :
    Calls Try.prog 66 #[.agg #[.slice A0_0 l0_0.length c0_0, .slice A0_1 l0_1.length c0_1]] w fun e w' => e = .returned (.bool r) ∧ Below w.heap.size w w' := by
  obtain rfl := Option.some.inj h
  clear h
  have hu := Try.underlying51
  have H1 := Aside0.mk (fun (W : World) (hb : Below w.heap.size w W) => impl_GoodBus.contains A0_0 c0_0 l0_0 W (Kd.C_below hr0_0 hb) hc0_0)
  have H2 := Aside0.mk (fun (W : World) (hb : Below w.heap.size w W) => impl_GoodBus.containsS A0_1 c0_1 l0_1 W (Kd.C_below hr0_1 hb) hc0_1)
  clear hr0_0 hc0_0 hr0_1 hc0_1
  obtain ⟨p, hp⟩ : ∃ p, p = l0_0.any impl_GoodBus.bad := ⟨_, rfl⟩
  obtain ⟨q, hq⟩ : ∃ q, q = l0_1.any impl_GoodBus.badS := ⟨_, rfl⟩
  rw [← hp] at H1 ⊢
  rw [← hq] at H2 ⊢
  clear hp hq
  by_cases c1 : (l0_0.length : Int) = 512
  · have e1 : ((l0_0.length : Int) == 512) = true := beq_iff_eq.mpr c1
    clear c1
    rw [e1]
    by_cases c2 : (l0_1.length : Int) ≤ 400
    · have e2 : decide ((l0_1.length : Int) ≤ 400) = true := decide_eq_true c2
      clear c2
      rw [e2]
      cases p with
      | true =>
        clear H2
        go_enter Try.func66, Try.ntmps66
        go_wp2_with (go_at_call 99; refine (H1.out _ ?hB).mono ?_; (case hB => repeat (with_reducible first | exact Below.refl _ _ | apply below_alloc | apply pw_below_drewN | apply below_drew1)); rintro e w' ⟨rfl, ⟨nd, rfl⟩⟩)
        go_ret
        exact ⟨by first | rfl | (simp; done), by repeat (with_reducible first | exact Below.refl _ _ | apply below_alloc | apply pw_below_drewN | apply below_drew1)⟩
      | false =>
        go_enter Try.func66, Try.ntmps66
        go_wp2_with (first | (go_at_call 99; refine (H1.out _ ?hB).mono ?_; (case hB => repeat (with_reducible first | exact Below.refl _ _ | apply below_alloc | apply pw_below_drewN | apply below_drew1)); rintro e w' ⟨rfl, ⟨nd, rfl⟩⟩) | (go_at_call 101; refine (H2.out _ ?hB).mono ?_; (case hB => repeat (with_reducible first | exact Below.refl _ _ | apply below_alloc | apply pw_below_drewN | apply below_drew1)); rintro e w' ⟨rfl, hb2⟩))
        go_ret
        exact ⟨by first | rfl | (simp; done), below_step (by repeat (with_reducible first | exact Below.refl _ _ | apply below_alloc | apply pw_below_drewN | apply below_drew1)) hb2⟩
    · have e2 : decide ((l0_1.length : Int) ≤ 400) = false := decide_eq_false c2
      clear c2 H1 H2
      rw [e2]
      go_enter Try.func66, Try.ntmps66
      go_wp2
      go_ret
      exact ⟨by first | rfl | (simp; done), by repeat (with_reducible first | exact Below.refl _ _ | apply below_alloc | apply pw_below_drewN | apply below_drew1)⟩
  · have e1 : ((l0_0.length : Int) == 512) = false := beq_eq_false_iff_ne.mpr c1
    clear c1 H1 H2
    rw [e1]
    go_enter Try.func66, Try.ntmps66
    go_wp2
    go_ret
    exact ⟨by first | rfl | (simp; done), by repeat (with_reducible first | exact Below.refl _ _ | apply below_alloc | apply pw_below_drewN | apply below_drew1)⟩

-- NOT PRINTED: function 76 (impl_Access_76)

-- NOT PRINTED: function 77 (impl_Access_77)

-- NOT PRINTED: function 78 (impl_LogOf_1)

/-! ### impl_LogOf: function 30 -/
theorem impl_LogOf.KM {w W : World} {base : Nat} {okp : Nat → Prop} (x : S91) (cs : List Value) (h : k91.K w x cs) : k91.M W base okp x cs := by
  rw [k91_open h]
  exact k91_mkM _ _ _ x
set_option maxHeartbeats 4000000 in
set_option maxRecDepth 100000 in
theorem impl_LogOf.clone (A0 : Option Addr) (c0 : Nat) (l0 : List S91) (w : World) (hr0 : Kd.C k91 w A0 l0.length l0) (hc0 : l0.length ≤ c0) (h : l0.length ≤ 400) :
    Calls Try.prog 77 #[.slice A0 l0.length c0] w fun e w' => ∃ v0_ : Value, e = .returned (v0_) ∧ Kd.R k91 91 w' w.heap.size (fun _ => True) v0_ l0 ∧ Below w.heap.size w w' := by
  have qn : ∀ (w : World) (a : Option Addr) (n c n2 c2 : Nat), (binOp .eql 49 (.slice a n c) (.slice none n2 c2)).run Try.prog w = .ok (.bool a.isNone) w := fun w a n c n2 c2 => Go.Lib.run_eql_slice_nil w _ _ a n c n2 c2 Try.underlying49
  cases A0 with
  | none =>
    have hn : l0.length = 0 := Nat.eq_zero_of_not_pos fun hp => by obtain ⟨ad, he, _⟩ := hr0.2.2 hp; cases he
    obtain rfl := List.eq_nil_of_length_eq_zero hn
    clear hr0 hc0 h
    go_enter Try.func77, Try.ntmps77
    go_wp2
    go_ret
    exact ⟨_, rfl, Kd.R_nil _ _ _ _ _, by repeat (with_reducible first | exact Below.refl _ _ | apply below_alloc | apply pw_below_drewN | apply below_drew1)⟩
  | some ad =>
    have HR0 := Aside0.mk hr0
    have HL := Aside0.mk h
    have HB := Aside0.mk (Below.refl w.heap.size w)
    clear h hr0 hc0
    go_enter Try.func77, Try.ntmps77
    go_wp2_with (first | ((with_reducible refine gate_dst (N := 5) rfl ?_); refine Kd.R_lit k91 _ 91 ?hg (N := 5) ?hd (xs := ([] : List S91)) (inner := []) (ok := fun _ => True) (okp := fun _ => True) ?hr ?hp (fun _ hk => hk) trivial (Below.refl _ _) (Nat.le_refl _) (by simp) ?_; (case hd => rfl); (case hg => rfl); (case hr => first | (go_simp; done) | (go_simp; rfl)); (case hp => exact (Reps.none _ _)); intro v1 w1 ho hb hg_ hnew_; clear hg_ hnew_; have n0_ := Aside0.mk (Kd.R_lower ho (below_size (by repeat (first | (with_reducible first | exact HB.out | apply below_alloc | apply pw_below_drewN | apply below_drew1) | exact HB.out)))); have n1_ := Aside0.mk (below_step (by repeat (first | (with_reducible first | exact HB.out | apply below_alloc | apply pw_below_drewN | apply below_drew1) | exact HB.out)) hb); clear HB; have HO := n0_; have HB := n1_; clear n0_ n1_ hb ho) | ((with_reducible refine gate_builtin (b := .append) (xs := #[.tmp 5, .tmp 6]) rfl ?_); at_builtin; refine Kd.R_append_rows k91 (w0 := w) w.heap.size rfl (.tmp 5) (.tmp 6) 49 91 (.agg #[.int .i64 0, .int .i64 0, .int .i64 0, .int .i64 0, .int .i64 0]) 40 rfl Try.underlying49 info91 rfl (by decide) (by omega) v1 ([] : List S91) l0 _ _ _ (fun _ => True) (fun _ => False) rfl rfl ?aO ?aR (impl_LogOf.KM (w := w)) (fun _ h => h.elim) ?aF ?aB ?aS ?aL ?_; (case aR => repeat (first | exact (Kd.C_below HR0.out HB.out) | (with_reducible refine Kd.C_alloc ?_ _) | (with_reducible refine Kd.C_drewN ?_ _) | (with_reducible refine Kd.C_drew ?_))); (case aB => exact (by repeat (first | (with_reducible first | exact HB.out | apply below_alloc | apply pw_below_drewN | apply below_drew1) | exact HB.out))); (case aF => exact (fun _ _ => trivial)); (case aO => exact (by (with_reducible repeat (first | apply Kd.R_alloc | apply Kd.R_drewN | apply Kd.R_drew)); exact HO.out)); (case aS => exact (below_size (by repeat (first | (with_reducible first | exact HB.out | apply below_alloc | apply pw_below_drewN | apply below_drew1) | exact HB.out)))); (case aL => have := HL.out; simp; omega); intro v2 w2 ho hb hg hat; have n0_ := Aside0.mk ho; have n1_ := Aside0.mk hb; clear HO HB ho hb hg hat; have HO := n0_; have HB := n1_; clear n0_ n1_) | go_in)
    go_ret
    exact ⟨_, rfl, by (with_reducible repeat (first | apply Kd.R_alloc | apply Kd.R_drewN | apply Kd.R_drew)); exact Kd.R_mono (by simpa using HO.out) (fun _ _ => trivial), by repeat (first | (with_reducible first | exact HB.out | apply below_alloc | apply pw_below_drewN | apply below_drew1) | exact HB.out)⟩
theorem impl_LogOf.closure (x : S91) (kb : Nat) (kind : Int) (w : World) (hk : w.cell? ⟨kb, 0, none⟩ = some (.int .i64 kind)) : Calls Try.prog 78 #[.agg #[.int .i64 x.f0, .int .i64 x.f1, .int .i64 x.f2, .int .i64 x.f3, .int .i64 x.f4], .pointer (some ⟨kb, 0, none⟩)] w fun e w' => e = .returned (.bool (x.f0 != kind)) ∧ Below w.heap.size w w' := by
  have hu := Try.underlying91
  have hlt : kb < w.heap.size := World.block_lt_of_cell? w _ hk
  have hne : w.heap.size ≠ kb := Nat.ne_of_gt hlt
  have hk' : ∀ o : Obj, (w.alloc o).cell? ⟨kb, 0, none⟩ = some (.int .i64 kind) := fun o => (World.cell?_alloc_lt w o ⟨kb, 0, none⟩ hlt).trans hk
  go_enter Try.func78, Try.ntmps78
  go_wp2
  go_ret
  exact ⟨rfl, by repeat (with_reducible first | exact Below.refl _ _ | apply below_alloc | apply pw_below_drewN | apply below_drew1)⟩
def impl_LogOf.Idx (kind : Int) (l : List S91) (e : Ending) : Prop := (e = .returned (.int .i64 (-1)) ∧ ∀ j, j < l.length → ((l.getD j z91).f0 != kind) = false) ∨ ∃ i : Nat, e = .returned (.int .i64 (i : Int)) ∧ i < l.length ∧ ((l.getD i z91).f0 != kind) = true ∧ ∀ j, j < i → ((l.getD j z91).f0 != kind) = false
set_option maxHeartbeats 4000000 in
set_option maxRecDepth 100000 in
theorem impl_LogOf.index (kb : Nat) (kind : Int) (A0 : Option Addr) (c0 : Nat) (l0 : List S91) (w : World) (hkb : w.cell? ⟨kb, 0, none⟩ = some (.int .i64 kind)) (hr0 : Kd.C k91 w A0 l0.length l0) (hc0 : l0.length ≤ c0) :
    Calls Try.prog 106 #[.slice A0 l0.length c0, .func (.func 78) #[] #[.pointer (some ⟨kb, 0, none⟩)]] w fun e w' => impl_LogOf.Idx kind l0 e ∧ Below w.heap.size w w' := by
  have hu := Try.underlying91
  have HKB := Aside0.mk hkb
  have HR0 := Aside0.mk hr0
  have HC0 := Aside0.mk hc0
  have hlen := hr0.2.1
  clear hr0 hc0 hkb
  go_enter Try.func106, Try.ntmps106
  go_wp2
  go_loopg [8] l0.length (fun d v8 w' => ∃ i : Nat, v8 = .int .i64 (i : Int) ∧ Aside0 (i + d = l0.length) ∧ Aside0 (∀ j, j < i → ((l0.getD j z91).f0 != kind) = false) ∧ Aside0 (Below w.heap.size w w'))
  case atStart => exact ⟨0, (by first | rfl | (simp; done)), ⟨by omega⟩, ⟨fun j hj => absurd hj (by omega)⟩, ⟨by repeat (with_reducible first | exact Below.refl _ _ | apply below_alloc | apply pw_below_drewN | apply below_drew1)⟩⟩
  case round =>
    obtain ⟨i, rfl, HA, HB, HW⟩ := hrel
    cases gk with
    | zero =>
      have hi := HA.out
      have hge : ¬ ((i : Int) < (l0.length : Int)) := by omega
      have c0b : decide ((i : Int) < (l0.length : Int)) = false := decide_eq_false hge
      have c0n : decide (i < l0.length) = false := decide_eq_false (by omega)
      clear hge hi
      go_wp2
      go_ret
      exact ⟨.inl ⟨rfl, fun j hj => HB.out j (by have := HA.out; omega)⟩, by repeat (with_reducible first | exact HW.out | apply below_alloc | apply pw_below_drewN | apply below_drew1)⟩
    | succ d =>
      have hi : i < l0.length := by have := HA.out; omega
      have c0b : decide ((i : Int) < (l0.length : Int)) = true := decide_eq_true (by omega)
      have c0n : decide (i < l0.length) = true := decide_eq_true hi
      have p0 : 0 ≤ (i : Int) := by omega
      have q0 : (i : Int) < (l0.length : Int) := by omega
      obtain ⟨ad, e0, hx0, hx1, hx2, hx3, hx4⟩ := at_T91 (Kd.C_below HR0.out HW.out) (i : Int) p0 q0
      cases e0
      have hv : rd_T91 l0 (i : Int) = l0.getD i z91 := by unfold rd_T91; rw [Int.toNat_natCast]
      rw [Int.toNat_natCast] at hx0 hx1 hx2 hx3 hx4
      rw [hv] at hx0 hx1 hx2 hx3 hx4
      clear hv
      replace p0 := eq_true p0
      replace q0 := eq_true q0
      have hcl := Aside0.mk (fun W (hb : Below w.heap.size w W) => impl_LogOf.closure (l0.getD i z91) kb kind W ((hb.cell (p := ⟨kb, 0, none⟩) (World.block_lt_of_cell? w _ HKB.out)).trans HKB.out))
      cases hb : ((l0.getD i z91).f0 != kind) with
      | true =>
        have HT := Aside0.mk (And.intro hi hb)
        rw [hb] at hcl
        clear hb
        obtain ⟨v, hvv⟩ : ∃ v, v = l0.getD i z91 := ⟨_, rfl⟩
        rw [← hvv] at hx0 hx1 hx2 hx3 hx4 hcl
        have HV := Aside0.mk hvv
        clear hvv
        go_wp2_with (go_at_call 78; refine (hcl.out _ ?hB).mono ?_; (case hB => repeat (with_reducible first | exact HW.out | apply below_alloc | apply pw_below_drewN | apply below_drew1)); rintro e w2 ⟨rfl, hb2⟩)
        go_ret
        exact ⟨.inr ⟨i, rfl, HT.out.1, HT.out.2, HB.out⟩, below_step (by repeat (with_reducible first | exact HW.out | apply below_alloc | apply pw_below_drewN | apply below_drew1)) hb2⟩
      | false =>
        have HN := Aside0.mk hb
        rw [hb] at hcl
        clear hb
        obtain ⟨v, hvv⟩ : ∃ v, v = l0.getD i z91 := ⟨_, rfl⟩
        rw [← hvv] at hx0 hx1 hx2 hx3 hx4 hcl
        have HV := Aside0.mk hvv
        clear hvv
        go_wp2_with (go_at_call 78; refine (hcl.out _ ?hB).mono ?_; (case hB => repeat (with_reducible first | exact HW.out | apply below_alloc | apply pw_below_drewN | apply below_drew1)); rintro e w2 ⟨rfl, hb2⟩)
        have HW2 := Aside0.mk (below_step (by repeat (with_reducible first | exact HW.out | apply below_alloc | apply pw_below_drewN | apply below_drew1)) hb2)
        clear hb2
        go_roundg d
        case measure => omega
        case rel => exact ⟨i + 1, (by first | rfl | go_num | (simp; done)), ⟨by have := HA.out; omega⟩, ⟨fun j hj => (Nat.lt_succ_iff_lt_or_eq.mp hj).elim (fun h => HB.out j h) (fun h => by rw [h]; exact HN.out)⟩, ⟨by repeat (with_reducible first | exact HW2.out | apply below_alloc | apply pw_below_drewN | apply below_drew1)⟩⟩
theorem impl_LogOf.beyond {W : World} {g base i c : Nat} {xs : List S91} {cur : Array Value} {X : List Value} (h : Kd.R k91 91 W base (fun _ => True) (.slice (some ⟨g, 0, none⟩) i c) xs) (hg : W.heap[g]? = some (.cells cur 91 (0, 0))) (hX : X.take (i * 5) = cur.toList.take (i * 5)) (hs : X.length = cur.size) : Kd.R k91 91 (W.setRow g X.toArray) base (fun _ => True) (.slice (some ⟨g, 0, none⟩) i c) xs := by
  obtain ⟨hn, _, _⟩ := Kd.R_reads' h
  obtain ⟨h0, inner, ho, hr⟩ := h
  refine ⟨h0, inner, ⟨ho.1, ?_⟩, hr.imp_ (fun _ _ hp => k91.M_move (fun k hk => setRow_other W g k _ (fun e => hk.2 (by rw [e]; rfl))) hp)⟩
  rcases ho.2 with ⟨hv, _⟩ | ⟨g', cap, cur', hv, hb, hh, hnc, hcm, hcs, ht⟩
  · cases hv
  · injection hv with ha hn' hc
    injection ha with ha
    injection ha with hgg
    subst hgg
    subst hc
    rw [hg] at hh
    injection hh with hh
    injection hh with hh
    subst hh
    refine .inr ⟨g, c, X.toArray, by rw [← hn], hb, setRow_heap W g cur _ 91 _ hg, hnc, hcm, by simpa [hs] using hcs, ?_⟩
    rw [← ht]
    show X.take (xs.length * 5) = cur.toList.take (xs.length * 5)
    rw [← hn]
    exact hX
theorem impl_LogOf.zero_one {n : Nat} : ∀ v ∈ (Builtin.zeroCells (#[.int .i64 0, .int .i64 0, .int .i64 0, .int .i64 0, .int .i64 0] : Array Value) n).toList, v.oneCell' = true := by
  intro v hv
  unfold Builtin.zeroCells at hv
  simp only [Array.toList_map, List.mem_map] at hv
  obtain ⟨i, _, rfl⟩ := hv
  have h5 : i % 5 < 5 := Nat.mod_lt _ (by decide)
  show ((#[.int .i64 0, .int .i64 0, .int .i64 0, .int .i64 0, .int .i64 0] : Array Value)[i % 5]!).oneCell' = true
  generalize i % 5 = q at h5
  match q, h5 with
  | 0, _ => rfl
  | 1, _ => rfl
  | 2, _ => rfl
  | 3, _ => rfl
  | 4, _ => rfl
theorem impl_LogOf.clear {W : World} {g off n c : Nat} {cur : Array Value} (hg : W.heap[g]? = some (.cells cur 91 (0, 0))) (hn : 0 < n) (hfit : (off + n) * 5 ≤ cur.size) :
    ∃ X : List Value, X.length = cur.size ∧ X.take (off * 5) = cur.toList.take (off * 5) ∧ ∀ ty, (Builtin.clear_ #[49] ty #[.slice (some ⟨g, off * 5, none⟩) n c]).run Try.prog W = .ok (.tuple #[]) (W.setRow g X.toArray) := by
  obtain ⟨i0, hi, hz⟩ := Option.map_eq_some_iff.1 info91
  simp only [Prod.mk.injEq] at hz
  have hzl : (Builtin.zeroCells (#[.int .i64 0, .int .i64 0, .int .i64 0, .int .i64 0, .int .i64 0] : Array Value) n).toList.length = n * 5 := by
    simp [Builtin.zeroCells]
  have hst := run_storeCells_at (P := Try.prog) g (off * 5) 91 (Builtin.zeroCells (#[.int .i64 0, .int .i64 0, .int .i64 0, .int .i64 0, .int .i64 0] : Array Value) n).toList 0 cur W hg (by rw [hzl]; omega) impl_LogOf.zero_one
  rw [Nat.add_zero] at hst
  refine ⟨cur.toList.take (off * 5) ++ (Builtin.zeroCells (#[.int .i64 0, .int .i64 0, .int .i64 0, .int .i64 0, .int .i64 0] : Array Value) n).toList ++ cur.toList.drop (off * 5 + (Builtin.zeroCells (#[.int .i64 0, .int .i64 0, .int .i64 0, .int .i64 0, .int .i64 0] : Array Value) n).toList.length), ?_, ?_, fun ty => ?_⟩
  · rw [List.length_append, List.length_append, hzl, List.length_take, List.length_drop, Array.length_toList]
    omega
  · rw [List.append_assoc, List.take_append_of_le_length (by rw [List.length_take, Array.length_toList]; omega), List.take_take, Nat.min_self]
  · obtain ⟨m, rfl⟩ : ∃ m, n = m + 1 := ⟨n - 1, by omega⟩
    have hzv : (zeroValue 91).run Try.prog W = .ok (.agg #[.int .i64 0, .int .i64 0, .int .i64 0, .int .i64 0, .int .i64 0]) W := by
      simp [zeroValue, typeInfo, hi, hz.1]
    have hcells : ((.agg #[.int .i64 0, .int .i64 0, .int .i64 0, .int .i64 0, .int .i64 0]) : Value).cells = #[.int .i64 0, .int .i64 0, .int .i64 0, .int .i64 0, .int .i64 0] := rfl
    simp [Builtin.clear_, run_underlying Try.underlying49, hzv, hcells, hst]
/-- What stands behind the round at j: i elements are kept, from j on nothing has turned. -/
def impl_LogOf.Inv (kind : Int) (l L : List S91) (i j : Nat) : Prop := i < j ∧ j ≤ l.length ∧ L.length = l.length ∧ L.take i = (l.take j).filter (fun x => x.f0 == kind) ∧ L.drop j = l.drop j
theorem impl_LogOf.Inv.start {kind : Int} {l : List S91} {i : Nat} (hi : i < l.length) (hb : ((l.getD i z91).f0 != kind) = true) (hk : ∀ j, j < i → ((l.getD j z91).f0 != kind) = false) : impl_LogOf.Inv kind l l i (i + 1) := by
  refine ⟨Nat.lt_succ_self _, hi, rfl, ?_, rfl⟩
  rw [List.take_succ_eq_append_getElem hi, List.filter_append]
  have e1 : (l.take i).filter (fun x => x.f0 == kind) = l.take i := by
    rw [List.filter_eq_self]
    intro x hx
    obtain ⟨j, hj, rfl⟩ := List.getElem_of_mem hx
    rw [List.length_take] at hj
    have := hk j (by omega)
    rw [List.getElem_take]
    rw [List.getD_eq_getElem?_getD, List.getElem?_eq_getElem (by omega)] at this
    simpa using this
  have e2 : [l[i]].filter (fun x => x.f0 == kind) = [] := by
    rw [List.getD_eq_getElem?_getD, List.getElem?_eq_getElem hi] at hb
    simp at hb ⊢
    exact hb
  rw [e1, e2, List.append_nil]
theorem impl_LogOf.Inv.at_ {kind : Int} {l L : List S91} {i j : Nat} (h : impl_LogOf.Inv kind l L i j) (hj : j < l.length) : L.getD j z91 = l.getD j z91 := by
  obtain ⟨_, _, hl, _, hd⟩ := h
  have h1 : L[j]? = l[j]? := by
    have := congrArg (fun t : List S91 => t[0]?) hd
    simpa [List.getElem?_drop] using this
  rw [List.getD_eq_getElem?_getD, List.getD_eq_getElem?_getD, h1]
theorem impl_LogOf.Inv.drop_ {kind : Int} {l L : List S91} {i j : Nat} (h : impl_LogOf.Inv kind l L i j) (hj : j < l.length) : L.drop (j + 1) = l.drop (j + 1) := by
  have := congrArg (List.drop 1) h.2.2.2.2
  rwa [List.drop_drop, List.drop_drop] at this
theorem impl_LogOf.Inv.keep {kind : Int} {l L : List S91} {i j : Nat} (h : impl_LogOf.Inv kind l L i j) (hj : j < l.length) (hb : ((l.getD j z91).f0 != kind) = false) : impl_LogOf.Inv kind l (L.set i (l.getD j z91)) (i + 1) (j + 1) := by
  have hd := h.drop_ hj
  obtain ⟨h1, h2, h3, h4, _⟩ := h
  refine ⟨by omega, hj, by rw [List.length_set]; exact h3, ?_, ?_⟩
  · have e : (L.set i (l.getD j z91)).take (i + 1) = L.take i ++ [l.getD j z91] := by
      rw [List.take_succ_eq_append_getElem (by rw [List.length_set]; omega), List.take_set_of_le (Nat.le_refl _), List.getElem_set_self]
    rw [e, h4, List.take_succ_eq_append_getElem hj, List.filter_append]
    rw [List.getD_eq_getElem?_getD, List.getElem?_eq_getElem hj] at hb ⊢
    simp only [Option.getD_some] at hb ⊢
    have hb' : (l[j].f0 == kind) = true := by simpa using hb
    simp [List.filter_cons, hb']
  · rw [List.drop_set_of_lt (by omega)]
    exact hd
theorem impl_LogOf.Inv.skip {kind : Int} {l L : List S91} {i j : Nat} (h : impl_LogOf.Inv kind l L i j) (hj : j < l.length) (hb : ((l.getD j z91).f0 != kind) = true) : impl_LogOf.Inv kind l L i (j + 1) := by
  have hd := h.drop_ hj
  obtain ⟨h1, h2, h3, h4, _⟩ := h
  refine ⟨by omega, hj, h3, ?_, hd⟩
  rw [h4, List.take_succ_eq_append_getElem hj, List.filter_append]
  have e2 : [l[j]].filter (fun x => x.f0 == kind) = [] := by
    rw [List.getD_eq_getElem?_getD, List.getElem?_eq_getElem hj] at hb
    simp at hb ⊢
    exact hb
  rw [e2, List.append_nil]
theorem impl_LogOf.Inv.done {kind : Int} {l L : List S91} {i : Nat} (h : impl_LogOf.Inv kind l L i l.length) : L.take i = l.filter (fun x => x.f0 == kind) := by
  rw [h.2.2.2.1, List.take_of_length_le (Nat.le_refl _)]
theorem impl_LogOf.first {p : Nat → Bool} {n : Nat} : ∀ i, i < n → p i = true → ∃ k, k < n ∧ p k = true ∧ ∀ j, j < k → p j = false := by
  intro i
  induction i using Nat.strongRecOn with
  | ind i ih =>
    intro hi hp
    by_cases h : ∃ j, j < i ∧ p j = true
    · obtain ⟨j, hj, hq⟩ := h
      exact ih j hj (by omega) hq
    · exact ⟨i, hi, hp, fun j hj => by
        cases hq : p j with
        | false => rfl
        | true => exact absurd ⟨j, hj, hq⟩ h⟩
set_option maxHeartbeats 8000000 in
set_option maxRecDepth 100000 in
theorem impl_LogOf.delete (kb : Nat) (kind : Int) (l : List S91) (v : Value) (base : Nat) (W : World) (hkb : W.cell? ⟨kb, 0, none⟩ = some (.int .i64 kind)) (hlt : kb < base) (hbase : base ≤ W.heap.size) (hR : Kd.R k91 91 W base (fun _ => True) v l) :
    Calls Try.prog 76 #[v, .func (.func 78) #[] #[.pointer (some ⟨kb, 0, none⟩)]] W fun e w' => ∃ v', e = .returned v' ∧ Kd.R k91 91 w' base (fun _ => True) v' (l.filter (fun x => x.f0 == kind)) ∧ Below base W w' := by
  obtain ⟨A, c, rfl, hlc, hC⟩ := Kd.R_reads hR
  have hI := impl_LogOf.index kb kind A c l W hkb hC hlc
  have hlen := hC.2.1
  by_cases hall : ∀ j, j < l.length → ((l.getD j z91).f0 != kind) = false
  · have H1 := Aside0.mk (hI.mono (fun e w' h => (⟨h.1.elim (fun h => h.1) (fun ⟨i, _, hi, hb, _⟩ => absurd (hall i hi) (by rw [hb]; decide)), h.2⟩ : e = .returned (.int .i64 (-1)) ∧ Below W.heap.size W w')))
    have hf : l.filter (fun x => x.f0 == kind) = l := by
      rw [List.filter_eq_self]
      intro x hx
      obtain ⟨j, hj, rfl⟩ := List.getElem_of_mem hx
      have := hall j hj
      rw [List.getD_eq_getElem?_getD, List.getElem?_eq_getElem hj] at this
      simpa using this
    rw [hf]
    have HR := Aside0.mk hR
    have HBS := Aside0.mk hbase
    clear hall hf hI hC hlc hR hkb hlt hbase
    go_enter Try.func76, Try.ntmps76
    go_wp2_with (go_at_call 106; refine H1.out.mono ?_; rintro e w1 ⟨rfl, hb1⟩)
    go_ret
    exact ⟨_, rfl, Kd.R_below HR.out hb1, ⟨hb1.os, hb1.tape, hb1.output, hb1.size, fun i hi => hb1.block i (Nat.lt_of_lt_of_le hi HBS.out)⟩⟩
  · obtain ⟨i0, hi0, hbad, hbef⟩ : ∃ k, k < l.length ∧ ((l.getD k z91).f0 != kind) = true ∧ ∀ j, j < k → ((l.getD j z91).f0 != kind) = false := by
      by_cases h : ∃ j, j < l.length ∧ ((l.getD j z91).f0 != kind) = true
      · obtain ⟨j, hj, hb⟩ := h
        exact impl_LogOf.first (p := fun k => ((l.getD k z91).f0 != kind)) j hj hb
      · refine absurd (fun j hj => ?_) hall
        cases hq : ((l.getD j z91).f0 != kind) with
        | false => rfl
        | true => exact absurd ⟨j, hj, hq⟩ h
    have H1 := Aside0.mk (hI.mono (fun e w' h => (⟨h.1.elim (fun h => absurd (h.2 i0 hi0) (by rw [hbad]; decide)) (fun ⟨i, he, hi, hb, hbf⟩ => by
      have e1 : i = i0 := by
        rcases Nat.lt_trichotomy i i0 with h1 | h1 | h1
        · exact absurd (hbef i h1) (by rw [hb]; decide)
        · exact h1
        · exact absurd (hbf i0 h1) (by rw [hbad]; decide)
      rw [← e1]
      exact he), h.2⟩ : e = .returned (.int .i64 (i0 : Int)) ∧ Below W.heap.size W w')))
    have hinv := impl_LogOf.Inv.start hi0 hbad hbef
    obtain ⟨g, c', hv, hgb, hgl, _⟩ := Kd.R_form hR (by omega)
    injection hv with hA _ hcc
    subst hA
    subst hcc
    have hne1 : ((i0 : Int) == -1) = false := beq_eq_false_iff_ne.2 (by omega)
    have HR := Aside0.mk hR
    have HBS := Aside0.mk hbase
    have HGB := Aside0.mk hgb
    have HLC := Aside0.mk hlc
    have HKB := Aside0.mk hkb
    have HLT := Aside0.mk hlt
    have HINV := Aside0.mk hinv
    have HI0 := Aside0.mk hi0
    clear hall hI hC hlc hR hkb hlt hbase hgb hgl hinv hbad hbef
    go_enter Try.func76, Try.ntmps76
    go_wp2_with (go_at_call 106; refine H1.out.mono ?_; rintro e w1 ⟨rfl, hb1⟩; have HR1 := Aside0.mk (Kd.R_below HR.out hb1); have HW1 := Aside0.mk (show Below base W w1 from ⟨hb1.os, hb1.tape, hb1.output, hb1.size, fun i hi => hb1.block i (Nat.lt_of_lt_of_le hi HBS.out)⟩); clear hb1)
    clear hne1 hi0
    go_loopg [5, 6, 7] l.length (fun d v5 v6 v7 wr => ∃ (i j : Nat) (L : List S91), v5 = .int .i64 (i : Int) ∧ v6 = .int .i64 (j : Int) ∧ Aside0 (l.length - j ≤ d) ∧ Aside0 (impl_LogOf.Inv kind l L i j) ∧ Aside0 (Kd.R k91 91 wr base (fun _ => True) (.slice (some ⟨g, 0, none⟩) l.length c) L) ∧ Aside0 (Below base W wr))
    case atStart => exact ⟨i0, i0 + 1, l, (by first | rfl | (simp; done)), (by first | rfl | go_num | (simp; done)), ⟨by omega⟩, HINV, HR1, HW1⟩
    case round =>
      obtain ⟨i, j, L, rfl, rfl, HD, HI, HO, HW⟩ := hrel
      by_cases hlt : j < l.length
      · have hij : i < j := HI.out.1
        have c0b : decide ((j : Int) < (l.length : Int)) = true := decide_eq_true (by omega)
        have c0n : decide (j < l.length) = true := decide_eq_true hlt
        have p0 : 0 ≤ (j : Int) := by omega
        have q0 : (j : Int) < (l.length : Int) := by omega
        have p1 : 0 ≤ (i : Int) := by omega
        have q1 : (i : Int) < (l.length : Int) := by omega
        obtain ⟨ce, hcl, hM, hcc, hfr⟩ := Kd.R_elem HO.out z91 (j : Int) p0 q0
        obtain rfl := k91_openM hM
        rw [Int.toNat_natCast, HI.out.at_ hlt] at hcc
        rw [Int.toNat_natCast] at hfr
        have HP := Aside0.mk (And.intro p1 q1)
        have HLT2 := Aside0.mk hlt
        have HIJ := Aside0.mk hij
        replace p0 := eq_true p0
        replace q0 := eq_true q0
        replace p1 := eq_true p1
        replace q1 := eq_true q1
        have hcl_ := Aside0.mk (fun V (hb : Below base W V) => impl_LogOf.closure (l.getD j z91) kb kind V ((hb.cell (p := ⟨kb, 0, none⟩) HLT.out).trans HKB.out))
        have HKeep := Aside0.mk (fun hb => impl_LogOf.Inv.keep HI.out hlt hb)
        have HSkip := Aside0.mk (fun hb => impl_LogOf.Inv.skip HI.out hlt hb)
        obtain ⟨x, hxx⟩ : ∃ x, x = l.getD j z91 := ⟨_, rfl⟩
        rw [← hxx] at hcc hcl_ HKeep HSkip
        clear hxx
        have hx0 : wr.cell? ⟨g, j * 5, none⟩ = some (.int .i64 x.f0) := hcc 0 _ rfl
        have hx1 : wr.cell? ⟨g, j * 5 + 1, none⟩ = some (.int .i64 x.f1) := hcc 1 _ rfl
        have hx2 : wr.cell? ⟨g, j * 5 + 2, none⟩ = some (.int .i64 x.f2) := hcc 2 _ rfl
        have hx3 : wr.cell? ⟨g, j * 5 + 3, none⟩ = some (.int .i64 x.f3) := hcc 3 _ rfl
        have hx4 : wr.cell? ⟨g, j * 5 + 4, none⟩ = some (.int .i64 x.f4) := hcc 4 _ rfl
        clear hcl hM hcc hfr
        cases hb : (x.f0 != kind) with
        | false =>
          rw [hb] at hcl_
          have HN := Aside0.mk hb
          clear hb
          go_wp2_with (first | (go_at_call 78; refine (hcl_.out _ ?hB).mono ?_; (case hB => exact HW.out.alloc (Nat.le_trans HBS.out HW.out.size) _); rintro e w2 ⟨rfl, hb2⟩; have hbx := blk_below (blk_new _ _) hb2; have q0_ := (blk_cell hbx 0).trans rfl; have q1_ := (blk_cell hbx 1).trans rfl; have q2_ := (blk_cell hbx 2).trans rfl; have q3_ := (blk_cell hbx 3).trans rfl; have q4_ := (blk_cell hbx 4).trans rfl; have HO2 := Aside0.mk (Kd.R_below (Kd.R_alloc HO.out _) hb2); have HW2 := Aside0.mk (below_then (HW.out.alloc (Nat.le_trans HBS.out HW.out.size) _) (Nat.le_trans HBS.out (Nat.le_trans HW.out.size (by simp))) hb2); clear hb2 hbx) | ((with_reducible refine gate_store (t := 91) (p := 33) rfl ?_); obtain ⟨cf, hfl, _, hfc, _⟩ := Kd.R_elem HO2.out z91 (i : Int) HP.out.1 HP.out.2; refine Kd.R_store k91 (w0 := W) base rfl rfl 91 (.tmp 33) (.tmp 32) rfl 91 (i : Int) 0 L x (.agg #[.int .i64 x.f0, .int .i64 x.f1, .int .i64 x.f2, .int .i64 x.f3, .int .i64 x.f4]) [.int .i64 x.f0, .int .i64 x.f1, .int .i64 x.f2, .int .i64 x.f3, .int .i64 x.f4] cf (fun _ => True) (fun k => True ∧ k ≠ g) rfl ?hoff rfl rfl (by kernel_rfl) ?h1 HO2.out HP.out.1 HP.out.2 hfl hfc (show 5 ≤ 5 from by decide) ?hM (fun _ h => h) HW2.out ?_; (case hoff => show _ = _ * 5 + 0; simp); (case h1 => intro q hq; simp at hq; rcases hq with rfl | rfl | rfl | rfl | rfl <;> rfl); (case hM => rw [List.take_zero, List.nil_append, List.drop_eq_nil_of_le (by rw [hfl]; exact Nat.le_refl _), List.append_nil]; exact k91_mkM _ _ _ x); intro w3 ho3 hb3 hg3; rw [Int.toNat_natCast] at ho3; have HO3 := Aside0.mk ho3; have HW3 := Aside0.mk hb3; clear ho3 hb3 hg3 hfl hfc))
          go_roundg (l.length - (j + 1))
          case measure => have := HD.out; have := HLT2.out; omega
          case rel => exact ⟨i + 1, j + 1, L.set i x, (by first | rfl | go_num | (simp; done)), (by first | rfl | go_num | (simp; done)), ⟨Nat.le_refl _⟩, ⟨HKeep.out HN.out⟩, HO3, HW3⟩
        | true =>
          rw [hb] at hcl_
          have HN := Aside0.mk hb
          clear hb
          go_wp2_with (go_at_call 78; refine (hcl_.out _ ?hB).mono ?_; (case hB => exact HW.out.alloc (Nat.le_trans HBS.out HW.out.size) _); rintro e w2 ⟨rfl, hb2⟩; have hbx := blk_below (blk_new _ _) hb2; have q0_ := (blk_cell hbx 0).trans rfl; have q1_ := (blk_cell hbx 1).trans rfl; have q2_ := (blk_cell hbx 2).trans rfl; have q3_ := (blk_cell hbx 3).trans rfl; have q4_ := (blk_cell hbx 4).trans rfl; have HO2 := Aside0.mk (Kd.R_below (Kd.R_alloc HO.out _) hb2); have HW2 := Aside0.mk (below_then (HW.out.alloc (Nat.le_trans HBS.out HW.out.size) _) (Nat.le_trans HBS.out (Nat.le_trans HW.out.size (by simp))) hb2); clear hb2 hbx)
          go_roundg (l.length - (j + 1))
          case measure => have := HD.out; have := HLT2.out; omega
          case rel => exact ⟨i, j + 1, L, rfl, (by first | rfl | go_num | (simp; done)), ⟨Nat.le_refl _⟩, ⟨HSkip.out HN.out⟩, HO2, HW2⟩
      · obtain rfl : j = l.length := by have := HI.out.2.1; omega
        have hil : i < l.length := HI.out.1
        have hLl : L.length = l.length := HI.out.2.2.1
        have c0b : decide ((l.length : Int) < (l.length : Int)) = false := decide_eq_false (by omega)
        have c0n : decide (l.length < l.length) = false := decide_eq_false (by omega)
        obtain ⟨inner, hown⟩ := Kd.R_own HO.out
        obtain ⟨cur, hcur, hcsz⟩ : ∃ cur : Array Value, wr.heap[g]? = some (.cells cur 91 (0, 0)) ∧ cur.size = c * 5 := by
          rcases hown.2 with ⟨hv, _⟩ | ⟨g', cap, cur, hv, _, hh, _, _, hcs, _⟩
          · cases hv
          · injection hv with ha _ hc
            injection ha with ha
            injection ha with hgg
            subst hgg
            subst hc
            exact ⟨cur, hh, hcs⟩
        have hlc := HLC.out
        obtain ⟨X, hXl, hXt, hX⟩ := impl_LogOf.clear (off := i) (n := l.length - i) (c := c - i) hcur (by omega) (by rw [hcsz]; exact Nat.mul_le_mul_right _ (by omega))
        have hR5 := impl_LogOf.beyond (Kd.R_take HO.out (m := i) (by omega)) hcur hXt hXl
        rw [HI.out.done] at hR5
        have hB5 := below_setRow HW.out HGB.out X.toArray (g := g)
        obtain ⟨i9, hi9, _⟩ := Option.map_eq_some_iff.1 info91
        have hsz9 : i9.size = 5 := by
          obtain ⟨i8, hi8, hz8⟩ := Option.map_eq_some_iff.1 info91
          rw [hi9] at hi8
          injection hi8 with hi8
          subst hi8
          simp only [Prod.mk.injEq] at hz8
          exact hz8.2.1
        have hs1 := cut_from (P := Try.prog) 49 91 .i64 Try.underlying49 hi9 5 hsz9 (some ⟨g, 0, none⟩) l.length c (i : Int) (by omega) (by omega)
        have hs2 := cut_to (P := Try.prog) 49 91 .i64 Try.underlying49 hi9 (some ⟨g, 0, none⟩) l.length c (i : Int) (by omega) (by omega) hlc
        rw [Int.toNat_natCast] at hs1 hs2
        have hadd : (⟨g, 0, none⟩ : Addr).add (i * 5) = ⟨g, i * 5, none⟩ := by rw [Addr.add_lit, Nat.zero_add]
        rw [if_neg (by omega)] at hs1
        simp only [Option.map_some, hadd] at hs1
        generalize wr.setRow g X.toArray = Wf at hX hR5 hB5
        generalize i * 5 = o5 at hs1 hX
        generalize hm : l.length - i = m at hs1 hX
        have HM := Aside0.mk hm
        generalize c - i = c5 at hs1 hX
        have HR5 := Aside0.mk hR5
        have HB5 := Aside0.mk hB5
        clear hm hR5 hB5 hXl hXt hcur hcsz hown hlt hil hLl hlc hi9 hsz9 hadd
        go_wp2
        go_ret
        exact ⟨_, rfl, HR5.out, HB5.out⟩
theorem impl_LogOf.bc {W w1 : World} (hb : Below W.heap.size W w1) : (∀ b o, b < W.heap.size → w1.cell? ⟨b, o, none⟩ = W.cell? ⟨b, o, none⟩) ∧ (∀ b o, b < W.heap.size → w1.frozen? ⟨b, o, none⟩ = W.frozen? ⟨b, o, none⟩) :=
  ⟨fun b o h => hb.cell (p := ⟨b, o, none⟩) h, fun b o h => hb.frozen (p := ⟨b, o, none⟩) h⟩
theorem impl_LogOf.two {w w2 : World} {cs ds : Array Value} {t u : TypeId} (hb : Below ((w.alloc (.cells cs t (0, 0))).alloc (.cells ds u (0, 0))).heap.size ((w.alloc (.cells cs t (0, 0))).alloc (.cells ds u (0, 0))) w2) : (∀ j, w2.cell? ⟨w.heap.size, j, none⟩ = cs[j]?) ∧ (∀ j, w2.cell? ⟨w.heap.size + 1, j, none⟩ = ds[j]?) ∧ w.heap.size + 1 < w2.heap.size := by
  have h1 := blk_below (blk_alloc (blk_new w (.cells cs t (0, 0))) (.cells ds u (0, 0))) hb
  have h2 : ((w.alloc (.cells cs t (0, 0))).alloc (.cells ds u (0, 0))).heap[w.heap.size + 1]? = some (.cells ds u (0, 0)) := by
    have h_ := blk_new (w.alloc (.cells cs t (0, 0))) (.cells ds u (0, 0))
    simpa using h_
  have h3 := blk_below h2 hb
  exact ⟨fun j => blk_cell h1 j, fun j => blk_cell h3 j, blk_lt h3⟩
def impl_LogOf.f (l0_0 : List Int) (l0_1 : List S91) (a1 : Int) : Option (List S91 × Bool) := (impl_GoodBus.f l0_0 l0_1).bind fun t => (if t = true then ((impl_within.f a1 1 3).bind fun u => (if u = true then (some (l0_1.filter (fun x => x.f0 == a1), true)) else (some ([], false)))) else (some ([], false)))
set_option maxHeartbeats 4000000 in
set_option maxRecDepth 100000 in
theorem impl_LogOf.calls (A0_0 : Option Addr) (c0_0 : Nat) (l0_0 : List Int) (A0_1 : Option Addr) (c0_1 : Nat) (l0_1 : List S91) (a1 : Int) (r1 : List S91) (r2 : Bool) (w : World) (hr0_0 : Kd.C (Kd.int .i64) w A0_0 l0_0.length l0_0) (hc0_0 : l0_0.length ≤ c0_0) (hr0_1 : Kd.C k91 w A0_1 l0_1.length l0_1) (hc0_1 : l0_1.length ≤ c0_1) (h : impl_LogOf.f l0_0 l0_1 a1 = some (r1, r2)) :
    Calls Try.prog 30 #[.agg #[.slice A0_0 l0_0.length c0_0, .slice A0_1 l0_1.length c0_1], .int .i64 a1] w fun e w' => ∃ v0_ : Value, e = .returned (.tuple #[v0_, .bool r2]) ∧ Kd.R k91 91 w' w.heap.size (fun _ => True) v0_ r1 ∧ Below w.heap.size w w' := by
  have hu := Try.underlying51
  unfold impl_LogOf.f at h
  obtain ⟨t, A0, H⟩ := Option.bind_eq_some_iff.mp h
  clear h
  have HG := Aside0.mk (fun (W : World) (hb : Below w.heap.size w W) => impl_GoodBus.calls A0_0 c0_0 l0_0 A0_1 c0_1 l0_1 t W (Kd.C_below hr0_0 hb) hc0_0 (Kd.C_below hr0_1 hb) hc0_1 A0)
  have HR := Aside0.mk hr0_1
  have HC := Aside0.mk hc0_1
  clear hr0_0 hc0_0 hr0_1 hc0_1
  cases t with
  | false =>
    simp only [Bool.false_eq_true, if_false, Option.some.injEq, Prod.mk.injEq] at H
    obtain ⟨rfl, rfl⟩ := H
    clear A0
    go_enter Try.func30, Try.ntmps30
    go_wp2_with (first | (go_at_call 66; refine (HG.out _ ?hB).mono ?_; (case hB => repeat (with_reducible first | exact Below.refl _ _ | apply below_alloc | apply pw_below_drewN | apply below_drew1)); rintro e w2 ⟨rfl, hb2⟩; obtain ⟨h0_, h1_, hz2⟩ := impl_LogOf.two hb2))
    go_ret2
    exact ⟨_, rfl, Kd.R_nil _ _ _ _ _, below_step (by repeat (with_reducible first | exact Below.refl _ _ | apply below_alloc | apply pw_below_drewN | apply below_drew1)) hb2⟩
  | true =>
    rw [if_pos rfl] at H
    obtain ⟨u, U0, H⟩ := Option.bind_eq_some_iff.mp H
    have HU := Aside0.mk U0
    clear U0
    cases u with
    | false =>
      simp only [Bool.false_eq_true, if_false, Option.some.injEq, Prod.mk.injEq] at H
      obtain ⟨rfl, rfl⟩ := H
      clear A0
      go_enter Try.func30, Try.ntmps30
      go_wp2_with (first | (go_at_call 66; refine (HG.out _ ?hB).mono ?_; (case hB => repeat (with_reducible first | exact Below.refl _ _ | apply below_alloc | apply pw_below_drewN | apply below_drew1)); rintro e w2 ⟨rfl, hb2⟩; obtain ⟨h0_, h1_, hz2⟩ := impl_LogOf.two hb2; have q0 : w2.cell? ⟨w.heap.size, 0, none⟩ = some (.slice A0_0 l0_0.length c0_0) := (h0_ 0).trans rfl; have q1 : w2.cell? ⟨w.heap.size, 1, none⟩ = some (.slice A0_1 l0_1.length c0_1) := (h0_ 1).trans rfl; have qk : w2.cell? ⟨w.heap.size + 1, 0, none⟩ = some (.int .i64 a1) := (h1_ 0).trans rfl; clear h0_ h1_) | (go_at_call 51; (with_reducible refine (impl_within.calls a1 1 3 _ _ HU.out).mono ?_); rintro e w' ⟨rfl, ⟨nd1, rfl⟩⟩))
      go_ret2
      exact ⟨_, rfl, Kd.R_nil _ _ _ _ _, by repeat (with_reducible first | exact below_step (by repeat (with_reducible first | exact Below.refl _ _ | apply below_alloc | apply pw_below_drewN | apply below_drew1)) hb2 | apply pw_below_drewN | apply below_drew1)⟩
    | true =>
      rw [if_pos rfl] at H
      simp only [Option.some.injEq, Prod.mk.injEq] at H
      obtain ⟨rfl, rfl⟩ := H
      have hl4 : l0_1.length ≤ 400 := by
        have h0 := Option.some.inj (show some _ = some true from A0)
        simp only [Bool.and_eq_true, decide_eq_true_eq] at h0
        omega
      have HL4 := Aside0.mk hl4
      clear A0 hl4
      go_enter Try.func30, Try.ntmps30
      go_wp2_with (first | (go_at_call 66; refine (HG.out _ ?hB).mono ?_; (case hB => repeat (with_reducible first | exact Below.refl _ _ | apply below_alloc | apply pw_below_drewN | apply below_drew1)); rintro e w2 ⟨rfl, hb2⟩; obtain ⟨h0_, h1_, hz2⟩ := impl_LogOf.two hb2; have q0 : w2.cell? ⟨w.heap.size, 0, none⟩ = some (.slice A0_0 l0_0.length c0_0) := (h0_ 0).trans rfl; have q1 : w2.cell? ⟨w.heap.size, 1, none⟩ = some (.slice A0_1 l0_1.length c0_1) := (h0_ 1).trans rfl; have qk : w2.cell? ⟨w.heap.size + 1, 0, none⟩ = some (.int .i64 a1) := (h1_ 0).trans rfl; clear h0_ h1_) | (go_at_call 51; (with_reducible refine (impl_within.calls a1 1 3 _ _ HU.out).mono ?_); rintro e w' ⟨rfl, ⟨nd1, rfl⟩⟩) | (go_at_call 77; refine (impl_LogOf.clone A0_1 c0_1 l0_1 _ ?hC HC.out HL4.out).mono ?_; (case hC => exact Kd.C_drewN (Kd.C_below HR.out (below_step (by repeat (with_reducible first | exact Below.refl _ _ | apply below_alloc | apply pw_below_drewN | apply below_drew1)) hb2)) _); rintro e w3 ⟨v0, rfl, hv0, hb3⟩; have hkb3 : w3.cell? ⟨w.heap.size + 1, 0, none⟩ = some (.int .i64 a1) := (hb3.cell (p := ⟨w.heap.size + 1, 0, none⟩) hz2).trans qk; have HV0 := Aside0.mk hv0; have HB3 := Aside0.mk hb3; have HKB3 := Aside0.mk hkb3; have HB2 := Aside0.mk (below_step (w := w) (by repeat (with_reducible first | exact Below.refl _ _ | apply below_alloc | apply pw_below_drewN | apply below_drew1)) hb2); clear hv0 hb3 hkb3) | (go_at_call 76; refine (impl_LogOf.delete (w.heap.size + 1) a1 l0_1 v0 w2.heap.size w3 HKB3.out hz2 HB3.out.size HV0.out).mono ?_; rintro e w4 ⟨v4, rfl, hv4, hb4⟩; have HV4 := Aside0.mk hv4; have HB4 := Aside0.mk hb4; clear hv4 hb4))
      go_ret2
      exact ⟨_, rfl, Kd.R_lower HV4.out HB2.out.size, below_weaken (below_step (pw_below_drewN HB2.out nd1) HB3.out) HB2.out.size HB4.out⟩

end Go.Proofs.Ytdpbfjcfpgbbjaa.HFnExactLogOf
