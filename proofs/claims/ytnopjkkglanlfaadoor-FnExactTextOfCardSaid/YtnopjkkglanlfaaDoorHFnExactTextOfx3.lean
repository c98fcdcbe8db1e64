-- out of hprint.py, this session's own program over the kit's print (see NOTES.md); Lean checks it
import Derived.Test.YtnopjkkglanlfaaDoorHFnExactTextOfx0
import Derived.Test.YtnopjkkglanlfaaDoorHFnExactTextOfx2
namespace Go.Proofs.YtnopjkkglanlfaaDoor.HFnExactTextOf
open Go.RowKit Go.Proofs.YtnopjkkglanlfaaDoorW.PrintWords Go.Proofs.YtnopjkkglanlfaaDoorW.PrintLast Go.Proofs.YtnopjkkglanlfaaDoorW.PrintMore
attribute [local go_sem] max2_int min2_int max_two min_two max_three min_three max_four min_four   -- for this text's walks alone
set_option linter.unusedVariables false
set_option linter.unusedSimpArgs false

/-! ### spec_GoodIns: function 7 -/
mutual
def spec_GoodIns.j0 : Nat → Bool → Int → Int → Int → Int → Int → Int → Int → Option (Bool)
  | 0, _, _, _, _, _, _, _, _ => none
  | k + 1, x43, x111000, x111001, x111002, x111003, x111004, x111005, x111006 => if x43 = true then (some false) else (if x111000 = 1 then (spec_GoodIns.j1 k (x111001 == 2) x111003 x111000 (x111000 == 1) x111000 x111001 x111002 x111003 x111004 x111005 x111006) else (if x111000 = 3 then (spec_GoodIns.j1 k (x111001 == 2) x111003 x111000 (x111000 == 3) x111000 x111001 x111002 x111003 x111004 x111005 x111006) else (if x111000 = 4 then (spec_GoodIns.j1 k (x111001 == 2) x111003 x111000 (x111000 == 4) x111000 x111001 x111002 x111003 x111004 x111005 x111006) else (if x111000 = 5 then (spec_GoodIns.j1 k (x111001 == 2) x111003 x111000 (x111000 == 5) x111000 x111001 x111002 x111003 x111004 x111005 x111006) else (if x111000 = 6 then (spec_GoodIns.j1 k (x111001 == 2) x111003 x111000 (x111000 == 6) x111000 x111001 x111002 x111003 x111004 x111005 x111006) else (if x111000 = 7 then (spec_GoodIns.j1 k (x111001 == 2) x111003 x111000 (x111000 == 7) x111000 x111001 x111002 x111003 x111004 x111005 x111006) else (spec_GoodIns.j1 k (x111001 == 2) x111003 x111000 (x111000 == 8) x111000 x111001 x111002 x111003 x111004 x111005 x111006)))))))
def spec_GoodIns.j1 : Nat → Bool → Int → Int → Bool → Int → Int → Int → Int → Int → Int → Int → Option (Bool)
  | 0, _, _, _, _, _, _, _, _, _, _, _ => none
  | k + 1, x3, x4, x51, x52, x111000, x111001, x111002, x111003, x111004, x111005, x111006 => if x52 = true then (if x111006 = 0 then (if x3 = true then (some true) else (some (x4 != 1))) else (some false)) else (if x51 = 2 then (if x111006 = 0 then (if x4 = 0 then (some true) else ((spec_l7Memory.f x4).bind fun t115 => (some t115))) else (some false)) else (if x51 = 9 then (if x3 = true then (some (x111006 == 0)) else (some false)) else (if x51 = 10 then (if x3 = true then (if x111006 = 0 then ((spec_l7Plain.f x4).bind fun t116 => (some t116)) else (some false)) else (some false)) else (if x51 = 11 then (if x111002 = 0 then (if x111006 ≤ 3 then (if x4 = 0 then (some true) else ((spec_l7Memory.f x4).bind fun t117 => (some t117))) else (some false)) else (some false)) else (if x51 = 12 then (some (x4 == 0)) else (if x51 = 13 then (if x3 = true then (if x111002 ≤ 1 then (some (x4 == 7)) else (some false)) else (some false)) else (if x51 = 14 then (if x3 = true then (if x111002 = 0 then (if x111006 ≤ 1 then ((spec_l7Plain.f x4).bind fun t118 => (some t118)) else (some false)) else (some false)) else (some false)) else (if x51 = 16 then (spec_GoodIns.j2 k x3 x4 x51 (x51 == 16) x111000 x111001 x111002 x111003 x111004 x111005 x111006) else (spec_GoodIns.j2 k x3 x4 x51 (x51 == 17) x111000 x111001 x111002 x111003 x111004 x111005 x111006)))))))))
def spec_GoodIns.j2 : Nat → Bool → Int → Int → Bool → Int → Int → Int → Int → Int → Int → Int → Option (Bool)
  | 0, _, _, _, _, _, _, _, _, _, _, _ => none
  | k + 1, x3, x4, x51, x154, x111000, x111001, x111002, x111003, x111004, x111005, x111006 => if x154 = true then (if x3 = true then (if x111006 = 0 then (some (x4 != 1)) else (some false)) else (some false)) else (if x51 = 18 then (if x3 = true then (some false) else (if x111006 ≤ 1 then (some (x4 == 0)) else (some false))) else (if x51 = 19 then (if x3 = true then (if x111006 = 0 then (if x111002 = 0 then ((spec_l7Now.f x111003 x111004 x111005).bind fun t119 => (if t119 = true then (some true) else (if x111006 = 1 then ((spec_l7Zero.f x111003 x111004 x111005).bind fun t120 => (some t120)) else (some false)))) else (if x111006 = 1 then ((spec_l7Zero.f x111003 x111004 x111005).bind fun t121 => (some t121)) else (some false))) else (if x111006 = 1 then ((spec_l7Zero.f x111003 x111004 x111005).bind fun t122 => (some t122)) else (some false))) else (some false)) else (if x51 = 15 then (if x111006 = 3 then (if x3 = true then (if x111002 = 0 then ((spec_l7Now.f x111003 x111004 x111005).bind fun t123 => (some t123)) else (some false)) else (some false)) else (if x3 = true then (if x111006 ≤ 6 then ((spec_l7Zero.f x111003 x111004 x111005).bind fun t124 => (if t124 = true then (if x111006 > 3 then (some true) else (some (x111002 == 0))) else (some false))) else (some false)) else (some false))) else (some false))))
end
def spec_GoodIns.f (k : Nat) (a0_0 : Int) (a0_1 : Int) (a0_2 : Int) (a0_3 : Int) (a0_4 : Int) (a0_5 : Int) (a0_6 : Int) : Option (Bool) := (spec_l1Size.f a0_1).bind fun t111 => (if t111 = true then ((spec_l1In.f a0_2 0 3).bind fun t112 => (if t112 = true then ((spec_GoodOperand.f k a0_3 a0_4 a0_5).bind fun t113 => (if t113 = true then ((spec_l1In.f a0_6 0 7).bind fun t114 => (if t114 = true then (if a0_3 = 7 then (if a0_1 = 1 then (spec_GoodIns.j0 k (decide (a0_5 > 255)) a0_0 a0_1 a0_2 a0_3 a0_4 a0_5 a0_6) else (spec_GoodIns.j0 k false a0_0 a0_1 a0_2 a0_3 a0_4 a0_5 a0_6)) else (spec_GoodIns.j0 k false a0_0 a0_1 a0_2 a0_3 a0_4 a0_5 a0_6)) else (spec_GoodIns.j0 k true a0_0 a0_1 a0_2 a0_3 a0_4 a0_5 a0_6))) else (spec_GoodIns.j0 k true a0_0 a0_1 a0_2 a0_3 a0_4 a0_5 a0_6))) else (spec_GoodIns.j0 k true a0_0 a0_1 a0_2 a0_3 a0_4 a0_5 a0_6))) else (spec_GoodIns.j0 k true a0_0 a0_1 a0_2 a0_3 a0_4 a0_5 a0_6))
theorem spec_GoodIns.mono_l : ∀ k, (∀ y0 y1 y2 y3 y4 y5 y6 y7, LeO (spec_GoodIns.j0 k y0 y1 y2 y3 y4 y5 y6 y7) (spec_GoodIns.j0 (k + 1) y0 y1 y2 y3 y4 y5 y6 y7)) ∧ (∀ y0 y1 y2 y3 y4 y5 y6 y7 y8 y9 y10, LeO (spec_GoodIns.j1 k y0 y1 y2 y3 y4 y5 y6 y7 y8 y9 y10) (spec_GoodIns.j1 (k + 1) y0 y1 y2 y3 y4 y5 y6 y7 y8 y9 y10)) ∧ (∀ y0 y1 y2 y3 y4 y5 y6 y7 y8 y9 y10, LeO (spec_GoodIns.j2 k y0 y1 y2 y3 y4 y5 y6 y7 y8 y9 y10) (spec_GoodIns.j2 (k + 1) y0 y1 y2 y3 y4 y5 y6 y7 y8 y9 y10))
  | 0 => ⟨fun _ _ _ _ _ _ _ _ r h => by simp [spec_GoodIns.j0] at h, fun _ _ _ _ _ _ _ _ _ _ _ r h => by simp [spec_GoodIns.j1] at h, fun _ _ _ _ _ _ _ _ _ _ _ r h => by simp [spec_GoodIns.j2] at h⟩
  | k + 1 => by
    obtain ⟨ih0, ih1, ih2⟩ := spec_GoodIns.mono_l k
    refine ⟨?_, ?_, ?_⟩
    · intro y0 y1 y2 y3 y4 y5 y6 y7
      unfold spec_GoodIns.j0
      repeat' first
      | (with_reducible exact ih0 _ _ _ _ _ _ _ _)
      | (with_reducible exact ih1 _ _ _ _ _ _ _ _ _ _ _)
      | (with_reducible exact ih2 _ _ _ _ _ _ _ _ _ _ _)
      | (with_reducible exact spec_GoodOperand.mono _ _ _ _)
      | (with_reducible exact LeO.refl _)
      | (with_reducible exact LeO.none _)
      | (with_reducible refine LeO.ite ?_ ?_)
      | (with_reducible refine LeO.bind ?_ (fun _ => ?_))
      | exact ih0 _ _ _ _ _ _ _ _
      | exact ih1 _ _ _ _ _ _ _ _ _ _ _
      | exact ih2 _ _ _ _ _ _ _ _ _ _ _
      | exact spec_GoodOperand.mono _ _ _ _
      | exact LeO.none _
      | refine LeO.ite ?_ ?_
      | refine LeO.bind ?_ (fun _ => ?_)
    · intro y0 y1 y2 y3 y4 y5 y6 y7 y8 y9 y10
      unfold spec_GoodIns.j1
      repeat' first
      | (with_reducible exact ih0 _ _ _ _ _ _ _ _)
      | (with_reducible exact ih1 _ _ _ _ _ _ _ _ _ _ _)
      | (with_reducible exact ih2 _ _ _ _ _ _ _ _ _ _ _)
      | (with_reducible exact spec_GoodOperand.mono _ _ _ _)
      | (with_reducible exact LeO.refl _)
      | (with_reducible exact LeO.none _)
      | (with_reducible refine LeO.ite ?_ ?_)
      | (with_reducible refine LeO.bind ?_ (fun _ => ?_))
      | exact ih0 _ _ _ _ _ _ _ _
      | exact ih1 _ _ _ _ _ _ _ _ _ _ _
      | exact ih2 _ _ _ _ _ _ _ _ _ _ _
      | exact spec_GoodOperand.mono _ _ _ _
      | exact LeO.none _
      | refine LeO.ite ?_ ?_
      | refine LeO.bind ?_ (fun _ => ?_)
    · intro y0 y1 y2 y3 y4 y5 y6 y7 y8 y9 y10
      unfold spec_GoodIns.j2
      repeat' first
      | (with_reducible exact ih0 _ _ _ _ _ _ _ _)
      | (with_reducible exact ih1 _ _ _ _ _ _ _ _ _ _ _)
      | (with_reducible exact ih2 _ _ _ _ _ _ _ _ _ _ _)
      | (with_reducible exact spec_GoodOperand.mono _ _ _ _)
      | (with_reducible exact LeO.refl _)
      | (with_reducible exact LeO.none _)
      | (with_reducible refine LeO.ite ?_ ?_)
      | (with_reducible refine LeO.bind ?_ (fun _ => ?_))
      | exact ih0 _ _ _ _ _ _ _ _
      | exact ih1 _ _ _ _ _ _ _ _ _ _ _
      | exact ih2 _ _ _ _ _ _ _ _ _ _ _
      | exact spec_GoodOperand.mono _ _ _ _
      | exact LeO.none _
      | refine LeO.ite ?_ ?_
      | refine LeO.bind ?_ (fun _ => ?_)
theorem spec_GoodIns.mono : ∀ a0 a1 a2 a3 a4 a5 a6 k, LeO (spec_GoodIns.f k a0 a1 a2 a3 a4 a5 a6) (spec_GoodIns.f (k + 1) a0 a1 a2 a3 a4 a5 a6) := by
  intro a0 a1 a2 a3 a4 a5 a6 k
  obtain ⟨ih0, ih1, ih2⟩ := spec_GoodIns.mono_l k
  unfold spec_GoodIns.f
  repeat' first
      | (with_reducible exact ih0 _ _ _ _ _ _ _ _)
      | (with_reducible exact ih1 _ _ _ _ _ _ _ _ _ _ _)
      | (with_reducible exact ih2 _ _ _ _ _ _ _ _ _ _ _)
      | (with_reducible exact spec_GoodOperand.mono _ _ _ _)
      | (with_reducible exact LeO.refl _)
      | (with_reducible exact LeO.none _)
      | (with_reducible refine LeO.ite ?_ ?_)
      | (with_reducible refine LeO.bind ?_ (fun _ => ?_))
      | exact ih0 _ _ _ _ _ _ _ _
      | exact ih1 _ _ _ _ _ _ _ _ _ _ _
      | exact ih2 _ _ _ _ _ _ _ _ _ _ _
      | exact spec_GoodOperand.mono _ _ _ _
      | exact LeO.none _
      | refine LeO.ite ?_ ?_
      | refine LeO.bind ?_ (fun _ => ?_)
set_option maxHeartbeats 8000000 in
set_option maxRecDepth 100000 in
theorem spec_GoodIns.calls (k : Nat) (a0_0 : Int) (a0_1 : Int) (a0_2 : Int) (a0_3 : Int) (a0_4 : Int) (a0_5 : Int) (a0_6 : Int) (r : Bool) (w : World) (h : spec_GoodIns.f k a0_0 a0_1 a0_2 a0_3 a0_4 a0_5 a0_6 = some r) :
    Calls Tryd.prog 7 #[.agg #[.int .i64 a0_0, .int .i64 a0_1, .int .i64 a0_2, .int .i64 a0_3, .int .i64 a0_4, .int .i64 a0_5, .int .i64 a0_6]] w fun e w' => e = .returned (.bool r) ∧ Below w.heap.size w w' := by
  have hu30 := Tryd.underlying30
  have hu28 := Tryd.underlying28
  have HB := Aside0.mk (Below.refl w.heap.size w)
  have H : ((spec_l1Size.f a0_1).bind fun t111 => (if t111 = true then ((spec_l1In.f a0_2 0 3).bind fun t112 => (if t112 = true then ((spec_GoodOperand.f k a0_3 a0_4 a0_5).bind fun t113 => (if t113 = true then ((spec_l1In.f a0_6 0 7).bind fun t114 => (if t114 = true then (if a0_3 = 7 then (if a0_1 = 1 then (spec_GoodIns.j0 k (decide (a0_5 > 255)) a0_0 a0_1 a0_2 a0_3 a0_4 a0_5 a0_6) else (spec_GoodIns.j0 k false a0_0 a0_1 a0_2 a0_3 a0_4 a0_5 a0_6)) else (spec_GoodIns.j0 k false a0_0 a0_1 a0_2 a0_3 a0_4 a0_5 a0_6)) else (spec_GoodIns.j0 k true a0_0 a0_1 a0_2 a0_3 a0_4 a0_5 a0_6))) else (spec_GoodIns.j0 k true a0_0 a0_1 a0_2 a0_3 a0_4 a0_5 a0_6))) else (spec_GoodIns.j0 k true a0_0 a0_1 a0_2 a0_3 a0_4 a0_5 a0_6))) else (spec_GoodIns.j0 k true a0_0 a0_1 a0_2 a0_3 a0_4 a0_5 a0_6))) = some r := h
  clear h
  have HC2 := Aside0.mk H
  clear H
  go_enter Tryd.func7, Tryd.ntmps7
  go_upto_region 1 with (first | ((with_reducible refine gate_dst (N := 1) rfl ?_); refine box_event ?hg (N := 1) ?hd (cs := #[.int .i64 a0_0, .int .i64 a0_1, .int .i64 a0_2, .int .i64 a0_3, .int .i64 a0_4, .int .i64 a0_5, .int .i64 a0_6]) (t := 30) ?hr ?_; (case hd => rfl); (case hg => rfl); (case hr => first | (go_simp; done) | (go_simp; rfl)); intro gb110 hg w3 hbox hb; have n0_ := Aside0.mk (below_step (by repeat (first | (with_reducible first | exact HB.out | apply below_alloc | apply pw_below_drewN | apply below_drew1) | exact HB.out)) hb); have n1_ := Aside0.mk (hbox); have n2_ := Aside0.mk ((by rw [hg]; exact (below_size (by repeat (first | (with_reducible first | exact HB.out | apply below_alloc | apply pw_below_drewN | apply below_drew1) | exact HB.out))) : w.heap.size ≤ gb110)); have n3_ := Aside0.mk ((by rw [hg]; exact (below_size (by repeat (first | (with_reducible first | exact HB.out | apply below_alloc | apply pw_below_drewN | apply below_drew1) | exact HB.out))) : w.heap.size ≤ gb110)); clear HB; have HB := n0_; have BK110 := n1_; have GW110 := n2_; have GE110 := n3_; clear n0_ n1_ n2_ n3_; clear hb hbox hg))
  (try simp only [Act.put, List.setIfInBounds_toArray, List.set_cons_zero, List.set_cons_succ])
  go_cut [43] (fun v43 wc => ∃ (kq : Nat) (x43_1 : Bool), v43 = .bool x43_1 ∧ Aside0 (spec_GoodIns.j0 kq x43_1 a0_0 a0_1 a0_2 a0_3 a0_4 a0_5 a0_6 = some r) ∧ Aside0 (kq ≤ k) ∧ Aside0 (wc.heap[gb110]? = some (.cells #[.int .i64 a0_0, .int .i64 a0_1, .int .i64 a0_2, .int .i64 a0_3, .int .i64 a0_4, .int .i64 a0_5, .int .i64 a0_6] 30 (0, 0))) ∧ Aside0 (Below w.heap.size w wc))
  case first =>
    have H := HC2.out
    clear HC2
    replace H := Option.bind_eq_some_iff.mp H
    obtain ⟨t111, A40, H⟩ := H
    replace H : (if t111 = true then ((spec_l1In.f a0_2 0 3).bind fun t112 => (if t112 = true then ((spec_GoodOperand.f k a0_3 a0_4 a0_5).bind fun t113 => (if t113 = true then ((spec_l1In.f a0_6 0 7).bind fun t114 => (if t114 = true then (if a0_3 = 7 then (if a0_1 = 1 then (spec_GoodIns.j0 k (decide (a0_5 > 255)) a0_0 a0_1 a0_2 a0_3 a0_4 a0_5 a0_6) else (spec_GoodIns.j0 k false a0_0 a0_1 a0_2 a0_3 a0_4 a0_5 a0_6)) else (spec_GoodIns.j0 k false a0_0 a0_1 a0_2 a0_3 a0_4 a0_5 a0_6)) else (spec_GoodIns.j0 k true a0_0 a0_1 a0_2 a0_3 a0_4 a0_5 a0_6))) else (spec_GoodIns.j0 k true a0_0 a0_1 a0_2 a0_3 a0_4 a0_5 a0_6))) else (spec_GoodIns.j0 k true a0_0 a0_1 a0_2 a0_3 a0_4 a0_5 a0_6))) else (spec_GoodIns.j0 k true a0_0 a0_1 a0_2 a0_3 a0_4 a0_5 a0_6)) = some r := H
    have A4 := Aside0.mk A40
    clear A40
    by_cases c5 : t111 = true
    · as_aux_lemma =>
      subst c5
      have H1 : ((spec_l1In.f a0_2 0 3).bind fun t112 => (if t112 = true then ((spec_GoodOperand.f k a0_3 a0_4 a0_5).bind fun t113 => (if t113 = true then ((spec_l1In.f a0_6 0 7).bind fun t114 => (if t114 = true then (if a0_3 = 7 then (if a0_1 = 1 then (spec_GoodIns.j0 k (decide (a0_5 > 255)) a0_0 a0_1 a0_2 a0_3 a0_4 a0_5 a0_6) else (spec_GoodIns.j0 k false a0_0 a0_1 a0_2 a0_3 a0_4 a0_5 a0_6)) else (spec_GoodIns.j0 k false a0_0 a0_1 a0_2 a0_3 a0_4 a0_5 a0_6)) else (spec_GoodIns.j0 k true a0_0 a0_1 a0_2 a0_3 a0_4 a0_5 a0_6))) else (spec_GoodIns.j0 k true a0_0 a0_1 a0_2 a0_3 a0_4 a0_5 a0_6))) else (spec_GoodIns.j0 k true a0_0 a0_1 a0_2 a0_3 a0_4 a0_5 a0_6))) = some r := by rw [if_pos rfl] at H; exact H
      clear H
      have H := H1
      clear H1
      replace H := Option.bind_eq_some_iff.mp H
      obtain ⟨t112, A60, H⟩ := H
      replace H : (if t112 = true then ((spec_GoodOperand.f k a0_3 a0_4 a0_5).bind fun t113 => (if t113 = true then ((spec_l1In.f a0_6 0 7).bind fun t114 => (if t114 = true then (if a0_3 = 7 then (if a0_1 = 1 then (spec_GoodIns.j0 k (decide (a0_5 > 255)) a0_0 a0_1 a0_2 a0_3 a0_4 a0_5 a0_6) else (spec_GoodIns.j0 k false a0_0 a0_1 a0_2 a0_3 a0_4 a0_5 a0_6)) else (spec_GoodIns.j0 k false a0_0 a0_1 a0_2 a0_3 a0_4 a0_5 a0_6)) else (spec_GoodIns.j0 k true a0_0 a0_1 a0_2 a0_3 a0_4 a0_5 a0_6))) else (spec_GoodIns.j0 k true a0_0 a0_1 a0_2 a0_3 a0_4 a0_5 a0_6))) else (spec_GoodIns.j0 k true a0_0 a0_1 a0_2 a0_3 a0_4 a0_5 a0_6)) = some r := H
      have A6 := Aside0.mk A60
      clear A60
      by_cases c7 : t112 = true
      · as_aux_lemma =>
        subst c7
        have H1 : ((spec_GoodOperand.f k a0_3 a0_4 a0_5).bind fun t113 => (if t113 = true then ((spec_l1In.f a0_6 0 7).bind fun t114 => (if t114 = true then (if a0_3 = 7 then (if a0_1 = 1 then (spec_GoodIns.j0 k (decide (a0_5 > 255)) a0_0 a0_1 a0_2 a0_3 a0_4 a0_5 a0_6) else (spec_GoodIns.j0 k false a0_0 a0_1 a0_2 a0_3 a0_4 a0_5 a0_6)) else (spec_GoodIns.j0 k false a0_0 a0_1 a0_2 a0_3 a0_4 a0_5 a0_6)) else (spec_GoodIns.j0 k true a0_0 a0_1 a0_2 a0_3 a0_4 a0_5 a0_6))) else (spec_GoodIns.j0 k true a0_0 a0_1 a0_2 a0_3 a0_4 a0_5 a0_6))) = some r := by rw [if_pos rfl] at H; exact H
        clear H
        have H := H1
        clear H1
        replace H := Option.bind_eq_some_iff.mp H
        obtain ⟨t113, A80, H⟩ := H
        replace H : (if t113 = true then ((spec_l1In.f a0_6 0 7).bind fun t114 => (if t114 = true then (if a0_3 = 7 then (if a0_1 = 1 then (spec_GoodIns.j0 k (decide (a0_5 > 255)) a0_0 a0_1 a0_2 a0_3 a0_4 a0_5 a0_6) else (spec_GoodIns.j0 k false a0_0 a0_1 a0_2 a0_3 a0_4 a0_5 a0_6)) else (spec_GoodIns.j0 k false a0_0 a0_1 a0_2 a0_3 a0_4 a0_5 a0_6)) else (spec_GoodIns.j0 k true a0_0 a0_1 a0_2 a0_3 a0_4 a0_5 a0_6))) else (spec_GoodIns.j0 k true a0_0 a0_1 a0_2 a0_3 a0_4 a0_5 a0_6)) = some r := H
        have A8 := Aside0.mk A80
        clear A80
        by_cases c9 : t113 = true
        · as_aux_lemma =>
          subst c9
          have H1 : ((spec_l1In.f a0_6 0 7).bind fun t114 => (if t114 = true then (if a0_3 = 7 then (if a0_1 = 1 then (spec_GoodIns.j0 k (decide (a0_5 > 255)) a0_0 a0_1 a0_2 a0_3 a0_4 a0_5 a0_6) else (spec_GoodIns.j0 k false a0_0 a0_1 a0_2 a0_3 a0_4 a0_5 a0_6)) else (spec_GoodIns.j0 k false a0_0 a0_1 a0_2 a0_3 a0_4 a0_5 a0_6)) else (spec_GoodIns.j0 k true a0_0 a0_1 a0_2 a0_3 a0_4 a0_5 a0_6))) = some r := by rw [if_pos rfl] at H; exact H
          clear H
          have H := H1
          clear H1
          replace H := Option.bind_eq_some_iff.mp H
          obtain ⟨t114, A100, H⟩ := H
          replace H : (if t114 = true then (if a0_3 = 7 then (if a0_1 = 1 then (spec_GoodIns.j0 k (decide (a0_5 > 255)) a0_0 a0_1 a0_2 a0_3 a0_4 a0_5 a0_6) else (spec_GoodIns.j0 k false a0_0 a0_1 a0_2 a0_3 a0_4 a0_5 a0_6)) else (spec_GoodIns.j0 k false a0_0 a0_1 a0_2 a0_3 a0_4 a0_5 a0_6)) else (spec_GoodIns.j0 k true a0_0 a0_1 a0_2 a0_3 a0_4 a0_5 a0_6)) = some r := H
          have A10 := Aside0.mk A100
          clear A100
          by_cases c11 : t114 = true
          · as_aux_lemma =>
            subst c11
            have H1 : (if a0_3 = 7 then (if a0_1 = 1 then (spec_GoodIns.j0 k (decide (a0_5 > 255)) a0_0 a0_1 a0_2 a0_3 a0_4 a0_5 a0_6) else (spec_GoodIns.j0 k false a0_0 a0_1 a0_2 a0_3 a0_4 a0_5 a0_6)) else (spec_GoodIns.j0 k false a0_0 a0_1 a0_2 a0_3 a0_4 a0_5 a0_6)) = some r := by rw [if_pos rfl] at H; exact H
            clear H
            have H := H1
            clear H1
            by_cases c12 : a0_3 = 7
            · as_aux_lemma =>
              rw [if_pos c12] at H
              have c12b0 : (a0_3 == 7) = true := beq_iff_eq.mpr c12
              have c12b1 : (a0_3 != 7) = false := bne_eq_false_iff_eq.mpr c12
              clear c12
              (first | rw [c12b0] | (simp only [i64_w, i32_w]; rw [c12b0]) | skip)
              by_cases c13 : a0_1 = 1
              · as_aux_lemma =>
                rw [if_pos c13] at H
                have c13b0 : (a0_1 == 1) = true := beq_iff_eq.mpr c13
                have c13b1 : (a0_1 != 1) = false := bne_eq_false_iff_eq.mpr c13
                clear c13
                have H' := Aside0.mk H
                clear H
                have hcz14_0 : w3.cell? ⟨gb110, 0, none⟩ = some (.int .i64 a0_0) := (blk_cell BK110.out 0).trans rfl
                have hcz14_1 : w3.cell? ⟨gb110, 1, none⟩ = some (.int .i64 a0_1) := (blk_cell BK110.out 1).trans rfl
                have hcz14_2 : w3.cell? ⟨gb110, 2, none⟩ = some (.int .i64 a0_2) := (blk_cell BK110.out 2).trans rfl
                have hcz14_3 : w3.cell? ⟨gb110, 3, none⟩ = some (.int .i64 a0_3) := (blk_cell BK110.out 3).trans rfl
                have hcz14_4 : w3.cell? ⟨gb110, 4, none⟩ = some (.int .i64 a0_4) := (blk_cell BK110.out 4).trans rfl
                have hcz14_5 : w3.cell? ⟨gb110, 5, none⟩ = some (.int .i64 a0_5) := (blk_cell BK110.out 5).trans rfl
                have hcz14_6 : w3.cell? ⟨gb110, 6, none⟩ = some (.int .i64 a0_6) := (blk_cell BK110.out 6).trans rfl
                have hfz14_0 := blk_frozen BK110.out 0
                have hfz14_1 := blk_frozen BK110.out 1
                have hfz14_2 := blk_frozen BK110.out 2
                have hfz14_3 := blk_frozen BK110.out 3
                have hfz14_4 := blk_frozen BK110.out 4
                have hfz14_5 := blk_frozen BK110.out 5
                have hfz14_6 := blk_frozen BK110.out 6
                go_wp2_with (first | ((with_reducible refine gate_callee (f := 12) rfl ?_); refine goesL_ (some 7) rfl rfl Tryd.func12 (by kernel_rfl) rfl #[.int .i64 a0_1] rfl (by (try simp only [List.map_toArray, List.map_cons, List.map_nil]); first | done | rfl | (simp only [List.length_drop, List.length_take]; rfl)) ?_; (with_reducible refine (spec_l1Size.calls a0_1 true _ A4.out).mono ?_); rintro e w' ⟨rfl, ⟨nd, rfl⟩⟩; refine ⟨_, rfl, ?_⟩) | (go_at_call 13; (with_reducible refine (spec_l1In.calls a0_2 0 3 true _ A6.out).mono ?_); rintro e w' ⟨rfl, ⟨nd, rfl⟩⟩) | (go_at_call 14; (with_reducible refine (spec_GoodOperand.calls k a0_3 a0_4 a0_5 true _ A8.out).mono ?_); rintro e w15 ⟨rfl, hb⟩; have n0_ := Aside0.mk (blk_below (g := gb110) (o := .cells #[.int .i64 a0_0, .int .i64 a0_1, .int .i64 a0_2, .int .i64 a0_3, .int .i64 a0_4, .int .i64 a0_5, .int .i64 a0_6] 30 (0, 0)) (by (with_reducible repeat (first | refine blk_drewN ?_ _ | refine blk_drew ?_ | refine blk_alloc ?_ _)); exact BK110.out) hb); have n1_ := Aside0.mk (below_step (by repeat (first | (with_reducible first | exact HB.out | apply below_alloc | apply pw_below_drewN | apply below_drew1 | refine below_set ?_ GE110.out) | exact HB.out)) hb); clear BK110; clear HB; have BK110 := n0_; have HB := n1_; clear n0_ n1_; (try clear hb); (try clear hb2); (try clear hk); (try clear hi); have hcz16_0 : w15.cell? ⟨gb110, 0, none⟩ = some (.int .i64 a0_0) := (blk_cell BK110.out 0).trans rfl; have hcz16_1 : w15.cell? ⟨gb110, 1, none⟩ = some (.int .i64 a0_1) := (blk_cell BK110.out 1).trans rfl; have hcz16_2 : w15.cell? ⟨gb110, 2, none⟩ = some (.int .i64 a0_2) := (blk_cell BK110.out 2).trans rfl; have hcz16_3 : w15.cell? ⟨gb110, 3, none⟩ = some (.int .i64 a0_3) := (blk_cell BK110.out 3).trans rfl; have hcz16_4 : w15.cell? ⟨gb110, 4, none⟩ = some (.int .i64 a0_4) := (blk_cell BK110.out 4).trans rfl; have hcz16_5 : w15.cell? ⟨gb110, 5, none⟩ = some (.int .i64 a0_5) := (blk_cell BK110.out 5).trans rfl; have hcz16_6 : w15.cell? ⟨gb110, 6, none⟩ = some (.int .i64 a0_6) := (blk_cell BK110.out 6).trans rfl; have hfz16_0 := blk_frozen BK110.out 0; have hfz16_1 := blk_frozen BK110.out 1; have hfz16_2 := blk_frozen BK110.out 2; have hfz16_3 := blk_frozen BK110.out 3; have hfz16_4 := blk_frozen BK110.out 4; have hfz16_5 := blk_frozen BK110.out 5; have hfz16_6 := blk_frozen BK110.out 6) | (go_at_call 13; (with_reducible refine (spec_l1In.calls a0_6 0 7 true _ A10.out).mono ?_); rintro e w' ⟨rfl, ⟨nd, rfl⟩⟩))
                go_meet
                case rel => exact ⟨_, (decide (a0_5 > 255)), (by first | rfl | (simp; done) | (simp [*]; done)), H', ⟨by first | omega | exact Nat.le_refl _⟩, ⟨by (with_reducible repeat (first | refine blk_drewN ?_ _ | refine blk_drew ?_ | refine blk_alloc ?_ _)); exact BK110.out⟩, ⟨by repeat (first | (with_reducible first | exact HB.out | apply below_alloc | apply pw_below_drewN | apply below_drew1 | refine below_set ?_ GE110.out) | exact HB.out)⟩⟩
              · as_aux_lemma =>
                rw [if_neg c13] at H
                have c13b0 : (a0_1 == 1) = false := beq_eq_false_iff_ne.mpr c13
                have c13b1 : (a0_1 != 1) = true := bne_iff_ne.mpr c13
                have H' := Aside0.mk H
                clear H
                have hcz17_0 : w3.cell? ⟨gb110, 0, none⟩ = some (.int .i64 a0_0) := (blk_cell BK110.out 0).trans rfl
                have hcz17_1 : w3.cell? ⟨gb110, 1, none⟩ = some (.int .i64 a0_1) := (blk_cell BK110.out 1).trans rfl
                have hcz17_2 : w3.cell? ⟨gb110, 2, none⟩ = some (.int .i64 a0_2) := (blk_cell BK110.out 2).trans rfl
                have hcz17_3 : w3.cell? ⟨gb110, 3, none⟩ = some (.int .i64 a0_3) := (blk_cell BK110.out 3).trans rfl
                have hcz17_4 : w3.cell? ⟨gb110, 4, none⟩ = some (.int .i64 a0_4) := (blk_cell BK110.out 4).trans rfl
                have hcz17_5 : w3.cell? ⟨gb110, 5, none⟩ = some (.int .i64 a0_5) := (blk_cell BK110.out 5).trans rfl
                have hcz17_6 : w3.cell? ⟨gb110, 6, none⟩ = some (.int .i64 a0_6) := (blk_cell BK110.out 6).trans rfl
                have hfz17_0 := blk_frozen BK110.out 0
                have hfz17_1 := blk_frozen BK110.out 1
                have hfz17_2 := blk_frozen BK110.out 2
                have hfz17_3 := blk_frozen BK110.out 3
                have hfz17_4 := blk_frozen BK110.out 4
                have hfz17_5 := blk_frozen BK110.out 5
                have hfz17_6 := blk_frozen BK110.out 6
                go_wp2_with (first | ((with_reducible refine gate_callee (f := 12) rfl ?_); refine goesL_ (some 7) rfl rfl Tryd.func12 (by kernel_rfl) rfl #[.int .i64 a0_1] rfl (by (try simp only [List.map_toArray, List.map_cons, List.map_nil]); first | done | rfl | (simp only [List.length_drop, List.length_take]; rfl)) ?_; (with_reducible refine (spec_l1Size.calls a0_1 true _ A4.out).mono ?_); rintro e w' ⟨rfl, ⟨nd, rfl⟩⟩; refine ⟨_, rfl, ?_⟩) | (go_at_call 13; (with_reducible refine (spec_l1In.calls a0_2 0 3 true _ A6.out).mono ?_); rintro e w' ⟨rfl, ⟨nd, rfl⟩⟩) | (go_at_call 14; (with_reducible refine (spec_GoodOperand.calls k a0_3 a0_4 a0_5 true _ A8.out).mono ?_); rintro e w18 ⟨rfl, hb⟩; have n0_ := Aside0.mk (blk_below (g := gb110) (o := .cells #[.int .i64 a0_0, .int .i64 a0_1, .int .i64 a0_2, .int .i64 a0_3, .int .i64 a0_4, .int .i64 a0_5, .int .i64 a0_6] 30 (0, 0)) (by (with_reducible repeat (first | refine blk_drewN ?_ _ | refine blk_drew ?_ | refine blk_alloc ?_ _)); exact BK110.out) hb); have n1_ := Aside0.mk (below_step (by repeat (first | (with_reducible first | exact HB.out | apply below_alloc | apply pw_below_drewN | apply below_drew1 | refine below_set ?_ GE110.out) | exact HB.out)) hb); clear BK110; clear HB; have BK110 := n0_; have HB := n1_; clear n0_ n1_; (try clear hb); (try clear hb2); (try clear hk); (try clear hi); have hcz19_0 : w18.cell? ⟨gb110, 0, none⟩ = some (.int .i64 a0_0) := (blk_cell BK110.out 0).trans rfl; have hcz19_1 : w18.cell? ⟨gb110, 1, none⟩ = some (.int .i64 a0_1) := (blk_cell BK110.out 1).trans rfl; have hcz19_2 : w18.cell? ⟨gb110, 2, none⟩ = some (.int .i64 a0_2) := (blk_cell BK110.out 2).trans rfl; have hcz19_3 : w18.cell? ⟨gb110, 3, none⟩ = some (.int .i64 a0_3) := (blk_cell BK110.out 3).trans rfl; have hcz19_4 : w18.cell? ⟨gb110, 4, none⟩ = some (.int .i64 a0_4) := (blk_cell BK110.out 4).trans rfl; have hcz19_5 : w18.cell? ⟨gb110, 5, none⟩ = some (.int .i64 a0_5) := (blk_cell BK110.out 5).trans rfl; have hcz19_6 : w18.cell? ⟨gb110, 6, none⟩ = some (.int .i64 a0_6) := (blk_cell BK110.out 6).trans rfl; have hfz19_0 := blk_frozen BK110.out 0; have hfz19_1 := blk_frozen BK110.out 1; have hfz19_2 := blk_frozen BK110.out 2; have hfz19_3 := blk_frozen BK110.out 3; have hfz19_4 := blk_frozen BK110.out 4; have hfz19_5 := blk_frozen BK110.out 5; have hfz19_6 := blk_frozen BK110.out 6) | (go_at_call 13; (with_reducible refine (spec_l1In.calls a0_6 0 7 true _ A10.out).mono ?_); rintro e w' ⟨rfl, ⟨nd, rfl⟩⟩))
                go_meet
                case rel => exact ⟨_, (false), (by first | rfl | (simp; done) | (simp [*]; done)), H', ⟨by first | omega | exact Nat.le_refl _⟩, ⟨by (with_reducible repeat (first | refine blk_drewN ?_ _ | refine blk_drew ?_ | refine blk_alloc ?_ _)); exact BK110.out⟩, ⟨by repeat (first | (with_reducible first | exact HB.out | apply below_alloc | apply pw_below_drewN | apply below_drew1 | refine below_set ?_ GE110.out) | exact HB.out)⟩⟩
            · as_aux_lemma =>
              rw [if_neg c12] at H
              have c12b0 : (a0_3 == 7) = false := beq_eq_false_iff_ne.mpr c12
              have c12b1 : (a0_3 != 7) = true := bne_iff_ne.mpr c12
              (first | rw [c12b0] | (simp only [i64_w, i32_w]; rw [c12b0]) | skip)
              have H' := Aside0.mk H
              clear H
              have hcz20_0 : w3.cell? ⟨gb110, 0, none⟩ = some (.int .i64 a0_0) := (blk_cell BK110.out 0).trans rfl
              have hcz20_1 : w3.cell? ⟨gb110, 1, none⟩ = some (.int .i64 a0_1) := (blk_cell BK110.out 1).trans rfl
              have hcz20_2 : w3.cell? ⟨gb110, 2, none⟩ = some (.int .i64 a0_2) := (blk_cell BK110.out 2).trans rfl
              have hcz20_3 : w3.cell? ⟨gb110, 3, none⟩ = some (.int .i64 a0_3) := (blk_cell BK110.out 3).trans rfl
              have hcz20_4 : w3.cell? ⟨gb110, 4, none⟩ = some (.int .i64 a0_4) := (blk_cell BK110.out 4).trans rfl
              have hcz20_5 : w3.cell? ⟨gb110, 5, none⟩ = some (.int .i64 a0_5) := (blk_cell BK110.out 5).trans rfl
              have hcz20_6 : w3.cell? ⟨gb110, 6, none⟩ = some (.int .i64 a0_6) := (blk_cell BK110.out 6).trans rfl
              have hfz20_0 := blk_frozen BK110.out 0
              have hfz20_1 := blk_frozen BK110.out 1
              have hfz20_2 := blk_frozen BK110.out 2
              have hfz20_3 := blk_frozen BK110.out 3
              have hfz20_4 := blk_frozen BK110.out 4
              have hfz20_5 := blk_frozen BK110.out 5
              have hfz20_6 := blk_frozen BK110.out 6
              go_wp2_with (first | ((with_reducible refine gate_callee (f := 12) rfl ?_); refine goesL_ (some 7) rfl rfl Tryd.func12 (by kernel_rfl) rfl #[.int .i64 a0_1] rfl (by (try simp only [List.map_toArray, List.map_cons, List.map_nil]); first | done | rfl | (simp only [List.length_drop, List.length_take]; rfl)) ?_; (with_reducible refine (spec_l1Size.calls a0_1 true _ A4.out).mono ?_); rintro e w' ⟨rfl, ⟨nd, rfl⟩⟩; refine ⟨_, rfl, ?_⟩) | (go_at_call 13; (with_reducible refine (spec_l1In.calls a0_2 0 3 true _ A6.out).mono ?_); rintro e w' ⟨rfl, ⟨nd, rfl⟩⟩) | (go_at_call 14; (with_reducible refine (spec_GoodOperand.calls k a0_3 a0_4 a0_5 true _ A8.out).mono ?_); rintro e w21 ⟨rfl, hb⟩; have n0_ := Aside0.mk (blk_below (g := gb110) (o := .cells #[.int .i64 a0_0, .int .i64 a0_1, .int .i64 a0_2, .int .i64 a0_3, .int .i64 a0_4, .int .i64 a0_5, .int .i64 a0_6] 30 (0, 0)) (by (with_reducible repeat (first | refine blk_drewN ?_ _ | refine blk_drew ?_ | refine blk_alloc ?_ _)); exact BK110.out) hb); have n1_ := Aside0.mk (below_step (by repeat (first | (with_reducible first | exact HB.out | apply below_alloc | apply pw_below_drewN | apply below_drew1 | refine below_set ?_ GE110.out) | exact HB.out)) hb); clear BK110; clear HB; have BK110 := n0_; have HB := n1_; clear n0_ n1_; (try clear hb); (try clear hb2); (try clear hk); (try clear hi); have hcz22_0 : w21.cell? ⟨gb110, 0, none⟩ = some (.int .i64 a0_0) := (blk_cell BK110.out 0).trans rfl; have hcz22_1 : w21.cell? ⟨gb110, 1, none⟩ = some (.int .i64 a0_1) := (blk_cell BK110.out 1).trans rfl; have hcz22_2 : w21.cell? ⟨gb110, 2, none⟩ = some (.int .i64 a0_2) := (blk_cell BK110.out 2).trans rfl; have hcz22_3 : w21.cell? ⟨gb110, 3, none⟩ = some (.int .i64 a0_3) := (blk_cell BK110.out 3).trans rfl; have hcz22_4 : w21.cell? ⟨gb110, 4, none⟩ = some (.int .i64 a0_4) := (blk_cell BK110.out 4).trans rfl; have hcz22_5 : w21.cell? ⟨gb110, 5, none⟩ = some (.int .i64 a0_5) := (blk_cell BK110.out 5).trans rfl; have hcz22_6 : w21.cell? ⟨gb110, 6, none⟩ = some (.int .i64 a0_6) := (blk_cell BK110.out 6).trans rfl; have hfz22_0 := blk_frozen BK110.out 0; have hfz22_1 := blk_frozen BK110.out 1; have hfz22_2 := blk_frozen BK110.out 2; have hfz22_3 := blk_frozen BK110.out 3; have hfz22_4 := blk_frozen BK110.out 4; have hfz22_5 := blk_frozen BK110.out 5; have hfz22_6 := blk_frozen BK110.out 6) | (go_at_call 13; (with_reducible refine (spec_l1In.calls a0_6 0 7 true _ A10.out).mono ?_); rintro e w' ⟨rfl, ⟨nd, rfl⟩⟩))
              go_meet
              case rel => exact ⟨_, (false), (by first | rfl | (simp; done) | (simp [*]; done)), H', ⟨by first | omega | exact Nat.le_refl _⟩, ⟨by (with_reducible repeat (first | refine blk_drewN ?_ _ | refine blk_drew ?_ | refine blk_alloc ?_ _)); exact BK110.out⟩, ⟨by repeat (first | (with_reducible first | exact HB.out | apply below_alloc | apply pw_below_drewN | apply below_drew1 | refine below_set ?_ GE110.out) | exact HB.out)⟩⟩
          · as_aux_lemma =>
            replace c11 := Bool.eq_false_iff.mpr c11
            subst c11
            have H1 : (spec_GoodIns.j0 k true a0_0 a0_1 a0_2 a0_3 a0_4 a0_5 a0_6) = some r := by rw [if_neg (show ¬ (false = true) by decide)] at H; exact H
            clear H
            have H := H1
            clear H1
            have H' := Aside0.mk H
            clear H
            have hcz23_0 : w3.cell? ⟨gb110, 0, none⟩ = some (.int .i64 a0_0) := (blk_cell BK110.out 0).trans rfl
            have hcz23_1 : w3.cell? ⟨gb110, 1, none⟩ = some (.int .i64 a0_1) := (blk_cell BK110.out 1).trans rfl
            have hcz23_2 : w3.cell? ⟨gb110, 2, none⟩ = some (.int .i64 a0_2) := (blk_cell BK110.out 2).trans rfl
            have hcz23_3 : w3.cell? ⟨gb110, 3, none⟩ = some (.int .i64 a0_3) := (blk_cell BK110.out 3).trans rfl
            have hcz23_4 : w3.cell? ⟨gb110, 4, none⟩ = some (.int .i64 a0_4) := (blk_cell BK110.out 4).trans rfl
            have hcz23_5 : w3.cell? ⟨gb110, 5, none⟩ = some (.int .i64 a0_5) := (blk_cell BK110.out 5).trans rfl
            have hcz23_6 : w3.cell? ⟨gb110, 6, none⟩ = some (.int .i64 a0_6) := (blk_cell BK110.out 6).trans rfl
            have hfz23_0 := blk_frozen BK110.out 0
            have hfz23_1 := blk_frozen BK110.out 1
            have hfz23_2 := blk_frozen BK110.out 2
            have hfz23_3 := blk_frozen BK110.out 3
            have hfz23_4 := blk_frozen BK110.out 4
            have hfz23_5 := blk_frozen BK110.out 5
            have hfz23_6 := blk_frozen BK110.out 6
            go_wp2_with (first | ((with_reducible refine gate_callee (f := 12) rfl ?_); refine goesL_ (some 7) rfl rfl Tryd.func12 (by kernel_rfl) rfl #[.int .i64 a0_1] rfl (by (try simp only [List.map_toArray, List.map_cons, List.map_nil]); first | done | rfl | (simp only [List.length_drop, List.length_take]; rfl)) ?_; (with_reducible refine (spec_l1Size.calls a0_1 true _ A4.out).mono ?_); rintro e w' ⟨rfl, ⟨nd, rfl⟩⟩; refine ⟨_, rfl, ?_⟩) | (go_at_call 13; (with_reducible refine (spec_l1In.calls a0_2 0 3 true _ A6.out).mono ?_); rintro e w' ⟨rfl, ⟨nd, rfl⟩⟩) | (go_at_call 14; (with_reducible refine (spec_GoodOperand.calls k a0_3 a0_4 a0_5 true _ A8.out).mono ?_); rintro e w24 ⟨rfl, hb⟩; have n0_ := Aside0.mk (blk_below (g := gb110) (o := .cells #[.int .i64 a0_0, .int .i64 a0_1, .int .i64 a0_2, .int .i64 a0_3, .int .i64 a0_4, .int .i64 a0_5, .int .i64 a0_6] 30 (0, 0)) (by (with_reducible repeat (first | refine blk_drewN ?_ _ | refine blk_drew ?_ | refine blk_alloc ?_ _)); exact BK110.out) hb); have n1_ := Aside0.mk (below_step (by repeat (first | (with_reducible first | exact HB.out | apply below_alloc | apply pw_below_drewN | apply below_drew1 | refine below_set ?_ GE110.out) | exact HB.out)) hb); clear BK110; clear HB; have BK110 := n0_; have HB := n1_; clear n0_ n1_; (try clear hb); (try clear hb2); (try clear hk); (try clear hi); have hcz25_0 : w24.cell? ⟨gb110, 0, none⟩ = some (.int .i64 a0_0) := (blk_cell BK110.out 0).trans rfl; have hcz25_1 : w24.cell? ⟨gb110, 1, none⟩ = some (.int .i64 a0_1) := (blk_cell BK110.out 1).trans rfl; have hcz25_2 : w24.cell? ⟨gb110, 2, none⟩ = some (.int .i64 a0_2) := (blk_cell BK110.out 2).trans rfl; have hcz25_3 : w24.cell? ⟨gb110, 3, none⟩ = some (.int .i64 a0_3) := (blk_cell BK110.out 3).trans rfl; have hcz25_4 : w24.cell? ⟨gb110, 4, none⟩ = some (.int .i64 a0_4) := (blk_cell BK110.out 4).trans rfl; have hcz25_5 : w24.cell? ⟨gb110, 5, none⟩ = some (.int .i64 a0_5) := (blk_cell BK110.out 5).trans rfl; have hcz25_6 : w24.cell? ⟨gb110, 6, none⟩ = some (.int .i64 a0_6) := (blk_cell BK110.out 6).trans rfl; have hfz25_0 := blk_frozen BK110.out 0; have hfz25_1 := blk_frozen BK110.out 1; have hfz25_2 := blk_frozen BK110.out 2; have hfz25_3 := blk_frozen BK110.out 3; have hfz25_4 := blk_frozen BK110.out 4; have hfz25_5 := blk_frozen BK110.out 5; have hfz25_6 := blk_frozen BK110.out 6) | (go_at_call 13; (with_reducible refine (spec_l1In.calls a0_6 0 7 false _ A10.out).mono ?_); rintro e w' ⟨rfl, ⟨nd, rfl⟩⟩))
            go_meet
            case rel => exact ⟨_, (true), (by first | rfl | (simp; done) | (simp [*]; done)), H', ⟨by first | omega | exact Nat.le_refl _⟩, ⟨by (with_reducible repeat (first | refine blk_drewN ?_ _ | refine blk_drew ?_ | refine blk_alloc ?_ _)); exact BK110.out⟩, ⟨by repeat (first | (with_reducible first | exact HB.out | apply below_alloc | apply pw_below_drewN | apply below_drew1 | refine below_set ?_ GE110.out) | exact HB.out)⟩⟩
        · as_aux_lemma =>
          replace c9 := Bool.eq_false_iff.mpr c9
          subst c9
          have H1 : (spec_GoodIns.j0 k true a0_0 a0_1 a0_2 a0_3 a0_4 a0_5 a0_6) = some r := by rw [if_neg (show ¬ (false = true) by decide)] at H; exact H
          clear H
          have H := H1
          clear H1
          have H' := Aside0.mk H
          clear H
          have hcz26_0 : w3.cell? ⟨gb110, 0, none⟩ = some (.int .i64 a0_0) := (blk_cell BK110.out 0).trans rfl
          have hcz26_1 : w3.cell? ⟨gb110, 1, none⟩ = some (.int .i64 a0_1) := (blk_cell BK110.out 1).trans rfl
          have hcz26_2 : w3.cell? ⟨gb110, 2, none⟩ = some (.int .i64 a0_2) := (blk_cell BK110.out 2).trans rfl
          have hcz26_3 : w3.cell? ⟨gb110, 3, none⟩ = some (.int .i64 a0_3) := (blk_cell BK110.out 3).trans rfl
          have hcz26_4 : w3.cell? ⟨gb110, 4, none⟩ = some (.int .i64 a0_4) := (blk_cell BK110.out 4).trans rfl
          have hcz26_5 : w3.cell? ⟨gb110, 5, none⟩ = some (.int .i64 a0_5) := (blk_cell BK110.out 5).trans rfl
          have hcz26_6 : w3.cell? ⟨gb110, 6, none⟩ = some (.int .i64 a0_6) := (blk_cell BK110.out 6).trans rfl
          have hfz26_0 := blk_frozen BK110.out 0
          have hfz26_1 := blk_frozen BK110.out 1
          have hfz26_2 := blk_frozen BK110.out 2
          have hfz26_3 := blk_frozen BK110.out 3
          have hfz26_4 := blk_frozen BK110.out 4
          have hfz26_5 := blk_frozen BK110.out 5
          have hfz26_6 := blk_frozen BK110.out 6
          go_wp2_with (first | ((with_reducible refine gate_callee (f := 12) rfl ?_); refine goesL_ (some 7) rfl rfl Tryd.func12 (by kernel_rfl) rfl #[.int .i64 a0_1] rfl (by (try simp only [List.map_toArray, List.map_cons, List.map_nil]); first | done | rfl | (simp only [List.length_drop, List.length_take]; rfl)) ?_; (with_reducible refine (spec_l1Size.calls a0_1 true _ A4.out).mono ?_); rintro e w' ⟨rfl, ⟨nd, rfl⟩⟩; refine ⟨_, rfl, ?_⟩) | (go_at_call 13; (with_reducible refine (spec_l1In.calls a0_2 0 3 true _ A6.out).mono ?_); rintro e w' ⟨rfl, ⟨nd, rfl⟩⟩) | (go_at_call 14; (with_reducible refine (spec_GoodOperand.calls k a0_3 a0_4 a0_5 false _ A8.out).mono ?_); rintro e w27 ⟨rfl, hb⟩; have n0_ := Aside0.mk (blk_below (g := gb110) (o := .cells #[.int .i64 a0_0, .int .i64 a0_1, .int .i64 a0_2, .int .i64 a0_3, .int .i64 a0_4, .int .i64 a0_5, .int .i64 a0_6] 30 (0, 0)) (by (with_reducible repeat (first | refine blk_drewN ?_ _ | refine blk_drew ?_ | refine blk_alloc ?_ _)); exact BK110.out) hb); have n1_ := Aside0.mk (below_step (by repeat (first | (with_reducible first | exact HB.out | apply below_alloc | apply pw_below_drewN | apply below_drew1 | refine below_set ?_ GE110.out) | exact HB.out)) hb); clear BK110; clear HB; have BK110 := n0_; have HB := n1_; clear n0_ n1_; (try clear hb); (try clear hb2); (try clear hk); (try clear hi)))
          go_meet
          case rel => exact ⟨_, (true), (by first | rfl | (simp; done) | (simp [*]; done)), H', ⟨by first | omega | exact Nat.le_refl _⟩, ⟨by (with_reducible repeat (first | refine blk_drewN ?_ _ | refine blk_drew ?_ | refine blk_alloc ?_ _)); exact BK110.out⟩, ⟨by repeat (first | (with_reducible first | exact HB.out | apply below_alloc | apply pw_below_drewN | apply below_drew1 | refine below_set ?_ GE110.out) | exact HB.out)⟩⟩
      · as_aux_lemma =>
        replace c7 := Bool.eq_false_iff.mpr c7
        subst c7
        have H1 : (spec_GoodIns.j0 k true a0_0 a0_1 a0_2 a0_3 a0_4 a0_5 a0_6) = some r := by rw [if_neg (show ¬ (false = true) by decide)] at H; exact H
        clear H
        have H := H1
        clear H1
        have H' := Aside0.mk H
        clear H
        have hcz28_0 : w3.cell? ⟨gb110, 0, none⟩ = some (.int .i64 a0_0) := (blk_cell BK110.out 0).trans rfl
        have hcz28_1 : w3.cell? ⟨gb110, 1, none⟩ = some (.int .i64 a0_1) := (blk_cell BK110.out 1).trans rfl
        have hcz28_2 : w3.cell? ⟨gb110, 2, none⟩ = some (.int .i64 a0_2) := (blk_cell BK110.out 2).trans rfl
        have hcz28_3 : w3.cell? ⟨gb110, 3, none⟩ = some (.int .i64 a0_3) := (blk_cell BK110.out 3).trans rfl
        have hcz28_4 : w3.cell? ⟨gb110, 4, none⟩ = some (.int .i64 a0_4) := (blk_cell BK110.out 4).trans rfl
        have hcz28_5 : w3.cell? ⟨gb110, 5, none⟩ = some (.int .i64 a0_5) := (blk_cell BK110.out 5).trans rfl
        have hcz28_6 : w3.cell? ⟨gb110, 6, none⟩ = some (.int .i64 a0_6) := (blk_cell BK110.out 6).trans rfl
        have hfz28_0 := blk_frozen BK110.out 0
        have hfz28_1 := blk_frozen BK110.out 1
        have hfz28_2 := blk_frozen BK110.out 2
        have hfz28_3 := blk_frozen BK110.out 3
        have hfz28_4 := blk_frozen BK110.out 4
        have hfz28_5 := blk_frozen BK110.out 5
        have hfz28_6 := blk_frozen BK110.out 6
        go_wp2_with (first | ((with_reducible refine gate_callee (f := 12) rfl ?_); refine goesL_ (some 7) rfl rfl Tryd.func12 (by kernel_rfl) rfl #[.int .i64 a0_1] rfl (by (try simp only [List.map_toArray, List.map_cons, List.map_nil]); first | done | rfl | (simp only [List.length_drop, List.length_take]; rfl)) ?_; (with_reducible refine (spec_l1Size.calls a0_1 true _ A4.out).mono ?_); rintro e w' ⟨rfl, ⟨nd, rfl⟩⟩; refine ⟨_, rfl, ?_⟩) | (go_at_call 13; (with_reducible refine (spec_l1In.calls a0_2 0 3 false _ A6.out).mono ?_); rintro e w' ⟨rfl, ⟨nd, rfl⟩⟩))
        go_meet
        case rel => exact ⟨_, (true), (by first | rfl | (simp; done) | (simp [*]; done)), H', ⟨by first | omega | exact Nat.le_refl _⟩, ⟨by (with_reducible repeat (first | refine blk_drewN ?_ _ | refine blk_drew ?_ | refine blk_alloc ?_ _)); exact BK110.out⟩, ⟨by repeat (first | (with_reducible first | exact HB.out | apply below_alloc | apply pw_below_drewN | apply below_drew1 | refine below_set ?_ GE110.out) | exact HB.out)⟩⟩
    · as_aux_lemma =>
      replace c5 := Bool.eq_false_iff.mpr c5
      subst c5
      have H1 : (spec_GoodIns.j0 k true a0_0 a0_1 a0_2 a0_3 a0_4 a0_5 a0_6) = some r := by rw [if_neg (show ¬ (false = true) by decide)] at H; exact H
      clear H
      have H := H1
      clear H1
      have H' := Aside0.mk H
      clear H
      have hcz29_0 : w3.cell? ⟨gb110, 0, none⟩ = some (.int .i64 a0_0) := (blk_cell BK110.out 0).trans rfl
      have hcz29_1 : w3.cell? ⟨gb110, 1, none⟩ = some (.int .i64 a0_1) := (blk_cell BK110.out 1).trans rfl
      have hcz29_2 : w3.cell? ⟨gb110, 2, none⟩ = some (.int .i64 a0_2) := (blk_cell BK110.out 2).trans rfl
      have hcz29_3 : w3.cell? ⟨gb110, 3, none⟩ = some (.int .i64 a0_3) := (blk_cell BK110.out 3).trans rfl
      have hcz29_4 : w3.cell? ⟨gb110, 4, none⟩ = some (.int .i64 a0_4) := (blk_cell BK110.out 4).trans rfl
      have hcz29_5 : w3.cell? ⟨gb110, 5, none⟩ = some (.int .i64 a0_5) := (blk_cell BK110.out 5).trans rfl
      have hcz29_6 : w3.cell? ⟨gb110, 6, none⟩ = some (.int .i64 a0_6) := (blk_cell BK110.out 6).trans rfl
      have hfz29_0 := blk_frozen BK110.out 0
      have hfz29_1 := blk_frozen BK110.out 1
      have hfz29_2 := blk_frozen BK110.out 2
      have hfz29_3 := blk_frozen BK110.out 3
      have hfz29_4 := blk_frozen BK110.out 4
      have hfz29_5 := blk_frozen BK110.out 5
      have hfz29_6 := blk_frozen BK110.out 6
      go_wp2_with (first | ((with_reducible refine gate_callee (f := 12) rfl ?_); refine goesL_ (some 7) rfl rfl Tryd.func12 (by kernel_rfl) rfl #[.int .i64 a0_1] rfl (by (try simp only [List.map_toArray, List.map_cons, List.map_nil]); first | done | rfl | (simp only [List.length_drop, List.length_take]; rfl)) ?_; (with_reducible refine (spec_l1Size.calls a0_1 false _ A4.out).mono ?_); rintro e w' ⟨rfl, ⟨nd, rfl⟩⟩; refine ⟨_, rfl, ?_⟩))
      go_meet
      case rel => exact ⟨_, (true), (by first | rfl | (simp; done) | (simp [*]; done)), H', ⟨by first | omega | exact Nat.le_refl _⟩, ⟨by (with_reducible repeat (first | refine blk_drewN ?_ _ | refine blk_drew ?_ | refine blk_alloc ?_ _)); exact BK110.out⟩, ⟨by repeat (first | (with_reducible first | exact HB.out | apply below_alloc | apply pw_below_drewN | apply below_drew1 | refine below_set ?_ GE110.out) | exact HB.out)⟩⟩
  case rest =>
    clear HC2
    try clear c1
    try clear p2
    try clear c5
    try clear c7
    try clear c9
    try clear c11
    try clear c12
    try clear c12b0
    try clear c12b1
    try clear c13
    try clear c13b0
    try clear c13b1
    try clear hcz14_0
    try clear hcz14_1
    try clear hcz14_2
    try clear hcz14_3
    try clear hcz14_4
    try clear hcz14_5
    try clear hcz14_6
    try clear hcz16_0
    try clear hcz16_1
    try clear hcz16_2
    try clear hcz16_3
    try clear hcz16_4
    try clear hcz16_5
    try clear hcz16_6
    try clear hcz17_0
    try clear hcz17_1
    try clear hcz17_2
    try clear hcz17_3
    try clear hcz17_4
    try clear hcz17_5
    try clear hcz17_6
    try clear hcz19_0
    try clear hcz19_1
    try clear hcz19_2
    try clear hcz19_3
    try clear hcz19_4
    try clear hcz19_5
    try clear hcz19_6
    try clear hcz20_0
    try clear hcz20_1
    try clear hcz20_2
    try clear hcz20_3
    try clear hcz20_4
    try clear hcz20_5
    try clear hcz20_6
    try clear hcz22_0
    try clear hcz22_1
    try clear hcz22_2
    try clear hcz22_3
    try clear hcz22_4
    try clear hcz22_5
    try clear hcz22_6
    try clear hcz23_0
    try clear hcz23_1
    try clear hcz23_2
    try clear hcz23_3
    try clear hcz23_4
    try clear hcz23_5
    try clear hcz23_6
    try clear hcz25_0
    try clear hcz25_1
    try clear hcz25_2
    try clear hcz25_3
    try clear hcz25_4
    try clear hcz25_5
    try clear hcz25_6
    try clear hcz26_0
    try clear hcz26_1
    try clear hcz26_2
    try clear hcz26_3
    try clear hcz26_4
    try clear hcz26_5
    try clear hcz26_6
    try clear hcz28_0
    try clear hcz28_1
    try clear hcz28_2
    try clear hcz28_3
    try clear hcz28_4
    try clear hcz28_5
    try clear hcz28_6
    try clear hcz29_0
    try clear hcz29_1
    try clear hcz29_2
    try clear hcz29_3
    try clear hcz29_4
    try clear hcz29_5
    try clear hcz29_6
    try clear hfz14_0
    try clear hfz14_1
    try clear hfz14_2
    try clear hfz14_3
    try clear hfz14_4
    try clear hfz14_5
    try clear hfz14_6
    try clear hfz16_0
    try clear hfz16_1
    try clear hfz16_2
    try clear hfz16_3
    try clear hfz16_4
    try clear hfz16_5
    try clear hfz16_6
    try clear hfz17_0
    try clear hfz17_1
    try clear hfz17_2
    try clear hfz17_3
    try clear hfz17_4
    try clear hfz17_5
    try clear hfz17_6
    try clear hfz19_0
    try clear hfz19_1
    try clear hfz19_2
    try clear hfz19_3
    try clear hfz19_4
    try clear hfz19_5
    try clear hfz19_6
    try clear hfz20_0
    try clear hfz20_1
    try clear hfz20_2
    try clear hfz20_3
    try clear hfz20_4
    try clear hfz20_5
    try clear hfz20_6
    try clear hfz22_0
    try clear hfz22_1
    try clear hfz22_2
    try clear hfz22_3
    try clear hfz22_4
    try clear hfz22_5
    try clear hfz22_6
    try clear hfz23_0
    try clear hfz23_1
    try clear hfz23_2
    try clear hfz23_3
    try clear hfz23_4
    try clear hfz23_5
    try clear hfz23_6
    try clear hfz25_0
    try clear hfz25_1
    try clear hfz25_2
    try clear hfz25_3
    try clear hfz25_4
    try clear hfz25_5
    try clear hfz25_6
    try clear hfz26_0
    try clear hfz26_1
    try clear hfz26_2
    try clear hfz26_3
    try clear hfz26_4
    try clear hfz26_5
    try clear hfz26_6
    try clear hfz28_0
    try clear hfz28_1
    try clear hfz28_2
    try clear hfz28_3
    try clear hfz28_4
    try clear hfz28_5
    try clear hfz28_6
    try clear hfz29_0
    try clear hfz29_1
    try clear hfz29_2
    try clear hfz29_3
    try clear hfz29_4
    try clear hfz29_5
    try clear hfz29_6
    obtain ⟨kq, x43_1, rfl, HA, HJ1, BK110, HB⟩ := hcut
    cases kq with
    | zero => exact absurd HA.out (by simp [spec_GoodIns.j0])
    | succ kj1 =>
      have H := HA.out
      clear HA
      simp only [spec_GoodIns.j0] at H
      by_cases c30 : x43_1 = true
      · as_aux_lemma =>
        subst c30
        have H1 : (some false) = some r := by rw [if_pos rfl] at H; exact H
        clear H
        have H := H1
        clear H1
        obtain rfl := Option.some.inj H
        go_wp2
        go_ret
        exact ⟨by first | rfl | (simp [errW_none, errW_some] <;> rfl) | (simp [*, errW_none, errW_some] <;> rfl), by repeat (first | (with_reducible first | exact HB.out | apply below_alloc | apply pw_below_drewN | apply below_drew1 | refine below_set ?_ GE110.out) | exact HB.out)⟩
      · as_aux_lemma =>
        replace c30 := Bool.eq_false_iff.mpr c30
        subst c30
        have H1 : (if a0_0 = 1 then (spec_GoodIns.j1 kj1 (a0_1 == 2) a0_3 a0_0 (a0_0 == 1) a0_0 a0_1 a0_2 a0_3 a0_4 a0_5 a0_6) else (if a0_0 = 3 then (spec_GoodIns.j1 kj1 (a0_1 == 2) a0_3 a0_0 (a0_0 == 3) a0_0 a0_1 a0_2 a0_3 a0_4 a0_5 a0_6) else (if a0_0 = 4 then (spec_GoodIns.j1 kj1 (a0_1 == 2) a0_3 a0_0 (a0_0 == 4) a0_0 a0_1 a0_2 a0_3 a0_4 a0_5 a0_6) else (if a0_0 = 5 then (spec_GoodIns.j1 kj1 (a0_1 == 2) a0_3 a0_0 (a0_0 == 5) a0_0 a0_1 a0_2 a0_3 a0_4 a0_5 a0_6) else (if a0_0 = 6 then (spec_GoodIns.j1 kj1 (a0_1 == 2) a0_3 a0_0 (a0_0 == 6) a0_0 a0_1 a0_2 a0_3 a0_4 a0_5 a0_6) else (if a0_0 = 7 then (spec_GoodIns.j1 kj1 (a0_1 == 2) a0_3 a0_0 (a0_0 == 7) a0_0 a0_1 a0_2 a0_3 a0_4 a0_5 a0_6) else (spec_GoodIns.j1 kj1 (a0_1 == 2) a0_3 a0_0 (a0_0 == 8) a0_0 a0_1 a0_2 a0_3 a0_4 a0_5 a0_6))))))) = some r := by rw [if_neg (show ¬ (false = true) by decide)] at H; exact H
        clear H
        have H := H1
        clear H1
        have HC31 := Aside0.mk H
        clear H
        have hcz32_0 : wc.cell? ⟨gb110, 0, none⟩ = some (.int .i64 a0_0) := (blk_cell BK110.out 0).trans rfl
        have hcz32_1 : wc.cell? ⟨gb110, 1, none⟩ = some (.int .i64 a0_1) := (blk_cell BK110.out 1).trans rfl
        have hcz32_2 : wc.cell? ⟨gb110, 2, none⟩ = some (.int .i64 a0_2) := (blk_cell BK110.out 2).trans rfl
        have hcz32_3 : wc.cell? ⟨gb110, 3, none⟩ = some (.int .i64 a0_3) := (blk_cell BK110.out 3).trans rfl
        have hcz32_4 : wc.cell? ⟨gb110, 4, none⟩ = some (.int .i64 a0_4) := (blk_cell BK110.out 4).trans rfl
        have hcz32_5 : wc.cell? ⟨gb110, 5, none⟩ = some (.int .i64 a0_5) := (blk_cell BK110.out 5).trans rfl
        have hcz32_6 : wc.cell? ⟨gb110, 6, none⟩ = some (.int .i64 a0_6) := (blk_cell BK110.out 6).trans rfl
        have hfz32_0 := blk_frozen BK110.out 0
        have hfz32_1 := blk_frozen BK110.out 1
        have hfz32_2 := blk_frozen BK110.out 2
        have hfz32_3 := blk_frozen BK110.out 3
        have hfz32_4 := blk_frozen BK110.out 4
        have hfz32_5 := blk_frozen BK110.out 5
        have hfz32_6 := blk_frozen BK110.out 6
        go_upto_if 52 with (fail)
        go_cut [52] (fun v52 wc => ∃ (kq : Nat) (x52_30 : Bool), v52 = .bool x52_30 ∧ Aside0 (spec_GoodIns.j1 kq (a0_1 == 2) a0_3 a0_0 x52_30 a0_0 a0_1 a0_2 a0_3 a0_4 a0_5 a0_6 = some r) ∧ Aside0 (kq ≤ kj1) ∧ Aside0 (wc.heap[gb110]? = some (.cells #[.int .i64 a0_0, .int .i64 a0_1, .int .i64 a0_2, .int .i64 a0_3, .int .i64 a0_4, .int .i64 a0_5, .int .i64 a0_6] 30 (0, 0))) ∧ Aside0 (Below w.heap.size w wc))
        case first =>
          have H := HC31.out
          clear HC31
          by_cases c33 : a0_0 = 1
          · as_aux_lemma =>
            rw [if_pos c33] at H
            have c33b0 : (a0_0 == 1) = true := beq_iff_eq.mpr c33
            have c33b1 : (a0_0 != 1) = false := bne_eq_false_iff_eq.mpr c33
            clear c33
            (first | rw [c33b0] | (simp only [i64_w, i32_w]; rw [c33b0]) | skip)
            have H' := Aside0.mk H
            clear H
            go_wp2
            go_meet
            case rel => exact ⟨_, ((a0_0 == 1)), (by first | rfl | (simp; done) | (simp [*]; done)), H', ⟨by have := HJ1.out; first | omega | exact Nat.le_refl _⟩, ⟨by (with_reducible repeat (first | refine blk_drewN ?_ _ | refine blk_drew ?_ | refine blk_alloc ?_ _)); exact BK110.out⟩, ⟨by repeat (first | (with_reducible first | exact HB.out | apply below_alloc | apply pw_below_drewN | apply below_drew1 | refine below_set ?_ GE110.out) | exact HB.out)⟩⟩
          · as_aux_lemma =>
            rw [if_neg c33] at H
            have c33b0 : (a0_0 == 1) = false := beq_eq_false_iff_ne.mpr c33
            have c33b1 : (a0_0 != 1) = true := bne_iff_ne.mpr c33
            (first | rw [c33b0] | (simp only [i64_w, i32_w]; rw [c33b0]) | skip)
            by_cases c34 : a0_0 = 3
            · as_aux_lemma =>
              rw [if_pos c34] at H
              have c34b0 : (a0_0 == 3) = true := beq_iff_eq.mpr c34
              have c34b1 : (a0_0 != 3) = false := bne_eq_false_iff_eq.mpr c34
              clear c34
              have H' := Aside0.mk H
              clear H
              go_wp2
              go_meet
              case rel => exact ⟨_, ((a0_0 == 3)), (by first | rfl | (simp; done) | (simp [*]; done)), H', ⟨by have := HJ1.out; first | omega | exact Nat.le_refl _⟩, ⟨by (with_reducible repeat (first | refine blk_drewN ?_ _ | refine blk_drew ?_ | refine blk_alloc ?_ _)); exact BK110.out⟩, ⟨by repeat (first | (with_reducible first | exact HB.out | apply below_alloc | apply pw_below_drewN | apply below_drew1 | refine below_set ?_ GE110.out) | exact HB.out)⟩⟩
            · as_aux_lemma =>
              rw [if_neg c34] at H
              have c34b0 : (a0_0 == 3) = false := beq_eq_false_iff_ne.mpr c34
              have c34b1 : (a0_0 != 3) = true := bne_iff_ne.mpr c34
              by_cases c35 : a0_0 = 4
              · as_aux_lemma =>
                rw [if_pos c35] at H
                have c35b0 : (a0_0 == 4) = true := beq_iff_eq.mpr c35
                have c35b1 : (a0_0 != 4) = false := bne_eq_false_iff_eq.mpr c35
                clear c35
                have H' := Aside0.mk H
                clear H
                go_wp2
                go_meet
                case rel => exact ⟨_, ((a0_0 == 4)), (by first | rfl | (simp; done) | (simp [*]; done)), H', ⟨by have := HJ1.out; first | omega | exact Nat.le_refl _⟩, ⟨by (with_reducible repeat (first | refine blk_drewN ?_ _ | refine blk_drew ?_ | refine blk_alloc ?_ _)); exact BK110.out⟩, ⟨by repeat (first | (with_reducible first | exact HB.out | apply below_alloc | apply pw_below_drewN | apply below_drew1 | refine below_set ?_ GE110.out) | exact HB.out)⟩⟩
              · as_aux_lemma =>
                rw [if_neg c35] at H
                have c35b0 : (a0_0 == 4) = false := beq_eq_false_iff_ne.mpr c35
                have c35b1 : (a0_0 != 4) = true := bne_iff_ne.mpr c35
                by_cases c36 : a0_0 = 5
                · as_aux_lemma =>
                  rw [if_pos c36] at H
                  have c36b0 : (a0_0 == 5) = true := beq_iff_eq.mpr c36
                  have c36b1 : (a0_0 != 5) = false := bne_eq_false_iff_eq.mpr c36
                  clear c36
                  have H' := Aside0.mk H
                  clear H
                  go_wp2
                  go_meet
                  case rel => exact ⟨_, ((a0_0 == 5)), (by first | rfl | (simp; done) | (simp [*]; done)), H', ⟨by have := HJ1.out; first | omega | exact Nat.le_refl _⟩, ⟨by (with_reducible repeat (first | refine blk_drewN ?_ _ | refine blk_drew ?_ | refine blk_alloc ?_ _)); exact BK110.out⟩, ⟨by repeat (first | (with_reducible first | exact HB.out | apply below_alloc | apply pw_below_drewN | apply below_drew1 | refine below_set ?_ GE110.out) | exact HB.out)⟩⟩
                · as_aux_lemma =>
                  rw [if_neg c36] at H
                  have c36b0 : (a0_0 == 5) = false := beq_eq_false_iff_ne.mpr c36
                  have c36b1 : (a0_0 != 5) = true := bne_iff_ne.mpr c36
                  by_cases c37 : a0_0 = 6
                  · as_aux_lemma =>
                    rw [if_pos c37] at H
                    have c37b0 : (a0_0 == 6) = true := beq_iff_eq.mpr c37
                    have c37b1 : (a0_0 != 6) = false := bne_eq_false_iff_eq.mpr c37
                    clear c37
                    have H' := Aside0.mk H
                    clear H
                    go_wp2
                    go_meet
                    case rel => exact ⟨_, ((a0_0 == 6)), (by first | rfl | (simp; done) | (simp [*]; done)), H', ⟨by have := HJ1.out; first | omega | exact Nat.le_refl _⟩, ⟨by (with_reducible repeat (first | refine blk_drewN ?_ _ | refine blk_drew ?_ | refine blk_alloc ?_ _)); exact BK110.out⟩, ⟨by repeat (first | (with_reducible first | exact HB.out | apply below_alloc | apply pw_below_drewN | apply below_drew1 | refine below_set ?_ GE110.out) | exact HB.out)⟩⟩
                  · as_aux_lemma =>
                    rw [if_neg c37] at H
                    have c37b0 : (a0_0 == 6) = false := beq_eq_false_iff_ne.mpr c37
                    have c37b1 : (a0_0 != 6) = true := bne_iff_ne.mpr c37
                    by_cases c38 : a0_0 = 7
                    · as_aux_lemma =>
                      rw [if_pos c38] at H
                      have c38b0 : (a0_0 == 7) = true := beq_iff_eq.mpr c38
                      have c38b1 : (a0_0 != 7) = false := bne_eq_false_iff_eq.mpr c38
                      clear c38
                      have H' := Aside0.mk H
                      clear H
                      go_wp2
                      go_meet
                      case rel => exact ⟨_, ((a0_0 == 7)), (by first | rfl | (simp; done) | (simp [*]; done)), H', ⟨by have := HJ1.out; first | omega | exact Nat.le_refl _⟩, ⟨by (with_reducible repeat (first | refine blk_drewN ?_ _ | refine blk_drew ?_ | refine blk_alloc ?_ _)); exact BK110.out⟩, ⟨by repeat (first | (with_reducible first | exact HB.out | apply below_alloc | apply pw_below_drewN | apply below_drew1 | refine below_set ?_ GE110.out) | exact HB.out)⟩⟩
                    · as_aux_lemma =>
                      rw [if_neg c38] at H
                      have c38b0 : (a0_0 == 7) = false := beq_eq_false_iff_ne.mpr c38
                      have c38b1 : (a0_0 != 7) = true := bne_iff_ne.mpr c38
                      have H' := Aside0.mk H
                      clear H
                      go_wp2
                      go_meet
                      case rel => exact ⟨_, ((a0_0 == 8)), (by first | rfl | (simp; done) | (simp [*]; done)), H', ⟨by have := HJ1.out; first | omega | exact Nat.le_refl _⟩, ⟨by (with_reducible repeat (first | refine blk_drewN ?_ _ | refine blk_drew ?_ | refine blk_alloc ?_ _)); exact BK110.out⟩, ⟨by repeat (first | (with_reducible first | exact HB.out | apply below_alloc | apply pw_below_drewN | apply below_drew1 | refine below_set ?_ GE110.out) | exact HB.out)⟩⟩
        case rest =>
          clear HC31
          try clear c1
          try clear p2
          try clear c3
          try clear c5
          try clear c7
          try clear c9
          try clear c11
          try clear c12
          try clear c12b0
          try clear c12b1
          try clear c13
          try clear c13b0
          try clear c13b1
          try clear c30
          try clear c33
          try clear c33b0
          try clear c33b1
          try clear c34
          try clear c34b0
          try clear c34b1
          try clear c35
          try clear c35b0
          try clear c35b1
          try clear c36
          try clear c36b0
          try clear c36b1
          try clear c37
          try clear c37b0
          try clear c37b1
          try clear c38
          try clear c38b0
          try clear c38b1
          try clear hcz14_0
          try clear hcz14_1
          try clear hcz14_2
          try clear hcz14_3
          try clear hcz14_4
          try clear hcz14_5
          try clear hcz14_6
          try clear hcz16_0
          try clear hcz16_1
          try clear hcz16_2
          try clear hcz16_3
          try clear hcz16_4
          try clear hcz16_5
          try clear hcz16_6
          try clear hcz17_0
          try clear hcz17_1
          try clear hcz17_2
          try clear hcz17_3
          try clear hcz17_4
          try clear hcz17_5
          try clear hcz17_6
          try clear hcz19_0
          try clear hcz19_1
          try clear hcz19_2
          try clear hcz19_3
          try clear hcz19_4
          try clear hcz19_5
          try clear hcz19_6
          try clear hcz20_0
          try clear hcz20_1
          try clear hcz20_2
          try clear hcz20_3
          try clear hcz20_4
          try clear hcz20_5
          try clear hcz20_6
          try clear hcz22_0
          try clear hcz22_1
          try clear hcz22_2
          try clear hcz22_3
          try clear hcz22_4
          try clear hcz22_5
          try clear hcz22_6
          try clear hcz23_0
          try clear hcz23_1
          try clear hcz23_2
          try clear hcz23_3
          try clear hcz23_4
          try clear hcz23_5
          try clear hcz23_6
          try clear hcz25_0
          try clear hcz25_1
          try clear hcz25_2
          try clear hcz25_3
          try clear hcz25_4
          try clear hcz25_5
          try clear hcz25_6
          try clear hcz26_0
          try clear hcz26_1
          try clear hcz26_2
          try clear hcz26_3
          try clear hcz26_4
          try clear hcz26_5
          try clear hcz26_6
          try clear hcz28_0
          try clear hcz28_1
          try clear hcz28_2
          try clear hcz28_3
          try clear hcz28_4
          try clear hcz28_5
          try clear hcz28_6
          try clear hcz29_0
          try clear hcz29_1
          try clear hcz29_2
          try clear hcz29_3
          try clear hcz29_4
          try clear hcz29_5
          try clear hcz29_6
          try clear hcz32_0
          try clear hcz32_1
          try clear hcz32_2
          try clear hcz32_3
          try clear hcz32_4
          try clear hcz32_5
          try clear hcz32_6
          try clear hfz14_0
          try clear hfz14_1
          try clear hfz14_2
          try clear hfz14_3
          try clear hfz14_4
          try clear hfz14_5
          try clear hfz14_6
          try clear hfz16_0
          try clear hfz16_1
          try clear hfz16_2
          try clear hfz16_3
          try clear hfz16_4
          try clear hfz16_5
          try clear hfz16_6
          try clear hfz17_0
          try clear hfz17_1
          try clear hfz17_2
          try clear hfz17_3
          try clear hfz17_4
          try clear hfz17_5
          try clear hfz17_6
          try clear hfz19_0
          try clear hfz19_1
          try clear hfz19_2
          try clear hfz19_3
          try clear hfz19_4
          try clear hfz19_5
          try clear hfz19_6
          try clear hfz20_0
          try clear hfz20_1
          try clear hfz20_2
          try clear hfz20_3
          try clear hfz20_4
          try clear hfz20_5
          try clear hfz20_6
          try clear hfz22_0
          try clear hfz22_1
          try clear hfz22_2
          try clear hfz22_3
          try clear hfz22_4
          try clear hfz22_5
          try clear hfz22_6
          try clear hfz23_0
          try clear hfz23_1
          try clear hfz23_2
          try clear hfz23_3
          try clear hfz23_4
          try clear hfz23_5
          try clear hfz23_6
          try clear hfz25_0
          try clear hfz25_1
          try clear hfz25_2
          try clear hfz25_3
          try clear hfz25_4
          try clear hfz25_5
          try clear hfz25_6
          try clear hfz26_0
          try clear hfz26_1
          try clear hfz26_2
          try clear hfz26_3
          try clear hfz26_4
          try clear hfz26_5
          try clear hfz26_6
          try clear hfz28_0
          try clear hfz28_1
          try clear hfz28_2
          try clear hfz28_3
          try clear hfz28_4
          try clear hfz28_5
          try clear hfz28_6
          try clear hfz29_0
          try clear hfz29_1
          try clear hfz29_2
          try clear hfz29_3
          try clear hfz29_4
          try clear hfz29_5
          try clear hfz29_6
          try clear hfz32_0
          try clear hfz32_1
          try clear hfz32_2
          try clear hfz32_3
          try clear hfz32_4
          try clear hfz32_5
          try clear hfz32_6
          try clear p2
          obtain ⟨kq, x52_30, rfl, HA, HJ30, BK110, HB⟩ := hcut
          cases kq with
          | zero => exact absurd HA.out (by simp [spec_GoodIns.j1])
          | succ kj30 =>
            have H := HA.out
            clear HA
            simp only [spec_GoodIns.j1] at H
            by_cases c39 : x52_30 = true
            · as_aux_lemma =>
              subst c39
              have H1 : (if a0_6 = 0 then (if (a0_1 == 2) = true then (some true) else (some (a0_3 != 1))) else (some false)) = some r := by rw [if_pos rfl] at H; exact H
              clear H
              have H := H1
              clear H1
              by_cases c40 : a0_6 = 0
              · as_aux_lemma =>
                rw [if_pos c40] at H
                have c40b0 : (a0_6 == 0) = true := beq_iff_eq.mpr c40
                have c40b1 : (a0_6 != 0) = false := bne_eq_false_iff_eq.mpr c40
                clear c40
                by_cases c41 : (a0_1 == 2) = true
                · as_aux_lemma =>
                  rw [if_pos c41] at H
                  have c41b0 : (a0_1 == 2) = true := c41
                  (try (have c41b1 : decide (a0_1 = 2) = true := by simpa using c41))
                  (try (have c41b2 : (a0_1 == 2) = true := by simpa using c41))
                  clear c41
                  obtain rfl := Option.some.inj H
                  have hcz42_0 : wc.cell? ⟨gb110, 0, none⟩ = some (.int .i64 a0_0) := (blk_cell BK110.out 0).trans rfl
                  have hcz42_1 : wc.cell? ⟨gb110, 1, none⟩ = some (.int .i64 a0_1) := (blk_cell BK110.out 1).trans rfl
                  have hcz42_2 : wc.cell? ⟨gb110, 2, none⟩ = some (.int .i64 a0_2) := (blk_cell BK110.out 2).trans rfl
                  have hcz42_3 : wc.cell? ⟨gb110, 3, none⟩ = some (.int .i64 a0_3) := (blk_cell BK110.out 3).trans rfl
                  have hcz42_4 : wc.cell? ⟨gb110, 4, none⟩ = some (.int .i64 a0_4) := (blk_cell BK110.out 4).trans rfl
                  have hcz42_5 : wc.cell? ⟨gb110, 5, none⟩ = some (.int .i64 a0_5) := (blk_cell BK110.out 5).trans rfl
                  have hcz42_6 : wc.cell? ⟨gb110, 6, none⟩ = some (.int .i64 a0_6) := (blk_cell BK110.out 6).trans rfl
                  have hfz42_0 := blk_frozen BK110.out 0
                  have hfz42_1 := blk_frozen BK110.out 1
                  have hfz42_2 := blk_frozen BK110.out 2
                  have hfz42_3 := blk_frozen BK110.out 3
                  have hfz42_4 := blk_frozen BK110.out 4
                  have hfz42_5 := blk_frozen BK110.out 5
                  have hfz42_6 := blk_frozen BK110.out 6
                  go_wp2
                  go_ret
                  exact ⟨by first | rfl | (simp [errW_none, errW_some] <;> rfl) | (simp [*, errW_none, errW_some] <;> rfl), by repeat (first | (with_reducible first | exact HB.out | apply below_alloc | apply pw_below_drewN | apply below_drew1 | refine below_set ?_ GE110.out) | exact HB.out)⟩
                · as_aux_lemma =>
                  rw [if_neg c41] at H
                  have c41b0 : (a0_1 == 2) = false := by simpa using c41
                  (try (have c41b1 : decide (a0_1 = 2) = false := by simpa using c41))
                  (try (have c41b2 : (a0_1 == 2) = false := by simpa using c41))
                  (try (have c41b3 : ¬ (a0_1 = 2) := by simpa using c41))
                  clear c41
                  obtain rfl := Option.some.inj H
                  have hcz43_0 : wc.cell? ⟨gb110, 0, none⟩ = some (.int .i64 a0_0) := (blk_cell BK110.out 0).trans rfl
                  have hcz43_1 : wc.cell? ⟨gb110, 1, none⟩ = some (.int .i64 a0_1) := (blk_cell BK110.out 1).trans rfl
                  have hcz43_2 : wc.cell? ⟨gb110, 2, none⟩ = some (.int .i64 a0_2) := (blk_cell BK110.out 2).trans rfl
                  have hcz43_3 : wc.cell? ⟨gb110, 3, none⟩ = some (.int .i64 a0_3) := (blk_cell BK110.out 3).trans rfl
                  have hcz43_4 : wc.cell? ⟨gb110, 4, none⟩ = some (.int .i64 a0_4) := (blk_cell BK110.out 4).trans rfl
                  have hcz43_5 : wc.cell? ⟨gb110, 5, none⟩ = some (.int .i64 a0_5) := (blk_cell BK110.out 5).trans rfl
                  have hcz43_6 : wc.cell? ⟨gb110, 6, none⟩ = some (.int .i64 a0_6) := (blk_cell BK110.out 6).trans rfl
                  have hfz43_0 := blk_frozen BK110.out 0
                  have hfz43_1 := blk_frozen BK110.out 1
                  have hfz43_2 := blk_frozen BK110.out 2
                  have hfz43_3 := blk_frozen BK110.out 3
                  have hfz43_4 := blk_frozen BK110.out 4
                  have hfz43_5 := blk_frozen BK110.out 5
                  have hfz43_6 := blk_frozen BK110.out 6
                  go_wp2
                  go_ret
                  exact ⟨by first | rfl | (simp [errW_none, errW_some] <;> rfl) | (simp [*, errW_none, errW_some] <;> rfl), by repeat (first | (with_reducible first | exact HB.out | apply below_alloc | apply pw_below_drewN | apply below_drew1 | refine below_set ?_ GE110.out) | exact HB.out)⟩
              · as_aux_lemma =>
                rw [if_neg c40] at H
                have c40b0 : (a0_6 == 0) = false := beq_eq_false_iff_ne.mpr c40
                have c40b1 : (a0_6 != 0) = true := bne_iff_ne.mpr c40
                obtain rfl := Option.some.inj H
                have hcz44_0 : wc.cell? ⟨gb110, 0, none⟩ = some (.int .i64 a0_0) := (blk_cell BK110.out 0).trans rfl
                have hcz44_1 : wc.cell? ⟨gb110, 1, none⟩ = some (.int .i64 a0_1) := (blk_cell BK110.out 1).trans rfl
                have hcz44_2 : wc.cell? ⟨gb110, 2, none⟩ = some (.int .i64 a0_2) := (blk_cell BK110.out 2).trans rfl
                have hcz44_3 : wc.cell? ⟨gb110, 3, none⟩ = some (.int .i64 a0_3) := (blk_cell BK110.out 3).trans rfl
                have hcz44_4 : wc.cell? ⟨gb110, 4, none⟩ = some (.int .i64 a0_4) := (blk_cell BK110.out 4).trans rfl
                have hcz44_5 : wc.cell? ⟨gb110, 5, none⟩ = some (.int .i64 a0_5) := (blk_cell BK110.out 5).trans rfl
                have hcz44_6 : wc.cell? ⟨gb110, 6, none⟩ = some (.int .i64 a0_6) := (blk_cell BK110.out 6).trans rfl
                have hfz44_0 := blk_frozen BK110.out 0
                have hfz44_1 := blk_frozen BK110.out 1
                have hfz44_2 := blk_frozen BK110.out 2
                have hfz44_3 := blk_frozen BK110.out 3
                have hfz44_4 := blk_frozen BK110.out 4
                have hfz44_5 := blk_frozen BK110.out 5
                have hfz44_6 := blk_frozen BK110.out 6
                go_wp2
                go_ret
                exact ⟨by first | rfl | (simp [errW_none, errW_some] <;> rfl) | (simp [*, errW_none, errW_some] <;> rfl), by repeat (first | (with_reducible first | exact HB.out | apply below_alloc | apply pw_below_drewN | apply below_drew1 | refine below_set ?_ GE110.out) | exact HB.out)⟩
            · as_aux_lemma =>
              replace c39 := Bool.eq_false_iff.mpr c39
              subst c39
              have H1 : (if a0_0 = 2 then (if a0_6 = 0 then (if a0_3 = 0 then (some true) else ((spec_l7Memory.f a0_3).bind fun t115 => (some t115))) else (some false)) else (if a0_0 = 9 then (if (a0_1 == 2) = true then (some (a0_6 == 0)) else (some false)) else (if a0_0 = 10 then (if (a0_1 == 2) = true then (if a0_6 = 0 then ((spec_l7Plain.f a0_3).bind fun t116 => (some t116)) else (some false)) else (some false)) else (if a0_0 = 11 then (if a0_2 = 0 then (if a0_6 ≤ 3 then (if a0_3 = 0 then (some true) else ((spec_l7Memory.f a0_3).bind fun t117 => (some t117))) else (some false)) else (some false)) else (if a0_0 = 12 then (some (a0_3 == 0)) else (if a0_0 = 13 then (if (a0_1 == 2) = true then (if a0_2 ≤ 1 then (some (a0_3 == 7)) else (some false)) else (some false)) else (if a0_0 = 14 then (if (a0_1 == 2) = true then (if a0_2 = 0 then (if a0_6 ≤ 1 then ((spec_l7Plain.f a0_3).bind fun t118 => (some t118)) else (some false)) else (some false)) else (some false)) else (if a0_0 = 16 then (spec_GoodIns.j2 kj30 (a0_1 == 2) a0_3 a0_0 (a0_0 == 16) a0_0 a0_1 a0_2 a0_3 a0_4 a0_5 a0_6) else (spec_GoodIns.j2 kj30 (a0_1 == 2) a0_3 a0_0 (a0_0 == 17) a0_0 a0_1 a0_2 a0_3 a0_4 a0_5 a0_6))))))))) = some r := by rw [if_neg (show ¬ (false = true) by decide)] at H; exact H
              clear H
              have H := H1
              clear H1
              by_cases c45 : a0_0 = 2
              · as_aux_lemma =>
                rw [if_pos c45] at H
                have c45b0 : (a0_0 == 2) = true := beq_iff_eq.mpr c45
                have c45b1 : (a0_0 != 2) = false := bne_eq_false_iff_eq.mpr c45
                clear c45
                by_cases c46 : a0_6 = 0
                · as_aux_lemma =>
                  rw [if_pos c46] at H
                  have c46b0 : (a0_6 == 0) = true := beq_iff_eq.mpr c46
                  have c46b1 : (a0_6 != 0) = false := bne_eq_false_iff_eq.mpr c46
                  clear c46
                  by_cases c47 : a0_3 = 0
                  · as_aux_lemma =>
                    rw [if_pos c47] at H
                    have c47b0 : (a0_3 == 0) = true := beq_iff_eq.mpr c47
                    have c47b1 : (a0_3 != 0) = false := bne_eq_false_iff_eq.mpr c47
                    clear c47
                    obtain rfl := Option.some.inj H
                    have hcz48_0 : wc.cell? ⟨gb110, 0, none⟩ = some (.int .i64 a0_0) := (blk_cell BK110.out 0).trans rfl
                    have hcz48_1 : wc.cell? ⟨gb110, 1, none⟩ = some (.int .i64 a0_1) := (blk_cell BK110.out 1).trans rfl
                    have hcz48_2 : wc.cell? ⟨gb110, 2, none⟩ = some (.int .i64 a0_2) := (blk_cell BK110.out 2).trans rfl
                    have hcz48_3 : wc.cell? ⟨gb110, 3, none⟩ = some (.int .i64 a0_3) := (blk_cell BK110.out 3).trans rfl
                    have hcz48_4 : wc.cell? ⟨gb110, 4, none⟩ = some (.int .i64 a0_4) := (blk_cell BK110.out 4).trans rfl
                    have hcz48_5 : wc.cell? ⟨gb110, 5, none⟩ = some (.int .i64 a0_5) := (blk_cell BK110.out 5).trans rfl
                    have hcz48_6 : wc.cell? ⟨gb110, 6, none⟩ = some (.int .i64 a0_6) := (blk_cell BK110.out 6).trans rfl
                    have hfz48_0 := blk_frozen BK110.out 0
                    have hfz48_1 := blk_frozen BK110.out 1
                    have hfz48_2 := blk_frozen BK110.out 2
                    have hfz48_3 := blk_frozen BK110.out 3
                    have hfz48_4 := blk_frozen BK110.out 4
                    have hfz48_5 := blk_frozen BK110.out 5
                    have hfz48_6 := blk_frozen BK110.out 6
                    go_wp2
                    go_ret
                    exact ⟨by first | rfl | (simp [errW_none, errW_some] <;> rfl) | (simp [*, errW_none, errW_some] <;> rfl), by repeat (first | (with_reducible first | exact HB.out | apply below_alloc | apply pw_below_drewN | apply below_drew1 | refine below_set ?_ GE110.out) | exact HB.out)⟩
                  · as_aux_lemma =>
                    rw [if_neg c47] at H
                    have c47b0 : (a0_3 == 0) = false := beq_eq_false_iff_ne.mpr c47
                    have c47b1 : (a0_3 != 0) = true := bne_iff_ne.mpr c47
                    replace H := Option.bind_eq_some_iff.mp H
                    obtain ⟨t115, A490, H⟩ := H
                    replace H : (some t115) = some r := H
                    have A49 := Aside0.mk A490
                    clear A490
                    obtain rfl := Option.some.inj H
                    have hcz50_0 : wc.cell? ⟨gb110, 0, none⟩ = some (.int .i64 a0_0) := (blk_cell BK110.out 0).trans rfl
                    have hcz50_1 : wc.cell? ⟨gb110, 1, none⟩ = some (.int .i64 a0_1) := (blk_cell BK110.out 1).trans rfl
                    have hcz50_2 : wc.cell? ⟨gb110, 2, none⟩ = some (.int .i64 a0_2) := (blk_cell BK110.out 2).trans rfl
                    have hcz50_3 : wc.cell? ⟨gb110, 3, none⟩ = some (.int .i64 a0_3) := (blk_cell BK110.out 3).trans rfl
                    have hcz50_4 : wc.cell? ⟨gb110, 4, none⟩ = some (.int .i64 a0_4) := (blk_cell BK110.out 4).trans rfl
                    have hcz50_5 : wc.cell? ⟨gb110, 5, none⟩ = some (.int .i64 a0_5) := (blk_cell BK110.out 5).trans rfl
                    have hcz50_6 : wc.cell? ⟨gb110, 6, none⟩ = some (.int .i64 a0_6) := (blk_cell BK110.out 6).trans rfl
                    have hfz50_0 := blk_frozen BK110.out 0
                    have hfz50_1 := blk_frozen BK110.out 1
                    have hfz50_2 := blk_frozen BK110.out 2
                    have hfz50_3 := blk_frozen BK110.out 3
                    have hfz50_4 := blk_frozen BK110.out 4
                    have hfz50_5 := blk_frozen BK110.out 5
                    have hfz50_6 := blk_frozen BK110.out 6
                    go_wp2_with (first | (go_at_call 15; (with_reducible refine (spec_l7Memory.calls a0_3 t115 _ A49.out).mono ?_); rintro e w' ⟨rfl, ⟨nd, rfl⟩⟩))
                    go_ret
                    exact ⟨by first | rfl | (simp [errW_none, errW_some] <;> rfl) | (simp [*, errW_none, errW_some] <;> rfl), by repeat (first | (with_reducible first | exact HB.out | apply below_alloc | apply pw_below_drewN | apply below_drew1 | refine below_set ?_ GE110.out) | exact HB.out)⟩
                · as_aux_lemma =>
                  rw [if_neg c46] at H
                  have c46b0 : (a0_6 == 0) = false := beq_eq_false_iff_ne.mpr c46
                  have c46b1 : (a0_6 != 0) = true := bne_iff_ne.mpr c46
                  obtain rfl := Option.some.inj H
                  have hcz51_0 : wc.cell? ⟨gb110, 0, none⟩ = some (.int .i64 a0_0) := (blk_cell BK110.out 0).trans rfl
                  have hcz51_1 : wc.cell? ⟨gb110, 1, none⟩ = some (.int .i64 a0_1) := (blk_cell BK110.out 1).trans rfl
                  have hcz51_2 : wc.cell? ⟨gb110, 2, none⟩ = some (.int .i64 a0_2) := (blk_cell BK110.out 2).trans rfl
                  have hcz51_3 : wc.cell? ⟨gb110, 3, none⟩ = some (.int .i64 a0_3) := (blk_cell BK110.out 3).trans rfl
                  have hcz51_4 : wc.cell? ⟨gb110, 4, none⟩ = some (.int .i64 a0_4) := (blk_cell BK110.out 4).trans rfl
                  have hcz51_5 : wc.cell? ⟨gb110, 5, none⟩ = some (.int .i64 a0_5) := (blk_cell BK110.out 5).trans rfl
                  have hcz51_6 : wc.cell? ⟨gb110, 6, none⟩ = some (.int .i64 a0_6) := (blk_cell BK110.out 6).trans rfl
                  have hfz51_0 := blk_frozen BK110.out 0
                  have hfz51_1 := blk_frozen BK110.out 1
                  have hfz51_2 := blk_frozen BK110.out 2
                  have hfz51_3 := blk_frozen BK110.out 3
                  have hfz51_4 := blk_frozen BK110.out 4
                  have hfz51_5 := blk_frozen BK110.out 5
                  have hfz51_6 := blk_frozen BK110.out 6
                  go_wp2
                  go_ret
                  exact ⟨by first | rfl | (simp [errW_none, errW_some] <;> rfl) | (simp [*, errW_none, errW_some] <;> rfl), by repeat (first | (with_reducible first | exact HB.out | apply below_alloc | apply pw_below_drewN | apply below_drew1 | refine below_set ?_ GE110.out) | exact HB.out)⟩
              · as_aux_lemma =>
                rw [if_neg c45] at H
                have c45b0 : (a0_0 == 2) = false := beq_eq_false_iff_ne.mpr c45
                have c45b1 : (a0_0 != 2) = true := bne_iff_ne.mpr c45
                by_cases c52 : a0_0 = 9
                · as_aux_lemma =>
                  rw [if_pos c52] at H
                  have c52b0 : (a0_0 == 9) = true := beq_iff_eq.mpr c52
                  have c52b1 : (a0_0 != 9) = false := bne_eq_false_iff_eq.mpr c52
                  clear c52
                  by_cases c53 : (a0_1 == 2) = true
                  · as_aux_lemma =>
                    rw [if_pos c53] at H
                    have c53b0 : (a0_1 == 2) = true := c53
                    (try (have c53b1 : decide (a0_1 = 2) = true := by simpa using c53))
                    (try (have c53b2 : (a0_1 == 2) = true := by simpa using c53))
                    clear c53
                    obtain rfl := Option.some.inj H
                    have hcz54_0 : wc.cell? ⟨gb110, 0, none⟩ = some (.int .i64 a0_0) := (blk_cell BK110.out 0).trans rfl
                    have hcz54_1 : wc.cell? ⟨gb110, 1, none⟩ = some (.int .i64 a0_1) := (blk_cell BK110.out 1).trans rfl
                    have hcz54_2 : wc.cell? ⟨gb110, 2, none⟩ = some (.int .i64 a0_2) := (blk_cell BK110.out 2).trans rfl
                    have hcz54_3 : wc.cell? ⟨gb110, 3, none⟩ = some (.int .i64 a0_3) := (blk_cell BK110.out 3).trans rfl
                    have hcz54_4 : wc.cell? ⟨gb110, 4, none⟩ = some (.int .i64 a0_4) := (blk_cell BK110.out 4).trans rfl
                    have hcz54_5 : wc.cell? ⟨gb110, 5, none⟩ = some (.int .i64 a0_5) := (blk_cell BK110.out 5).trans rfl
                    have hcz54_6 : wc.cell? ⟨gb110, 6, none⟩ = some (.int .i64 a0_6) := (blk_cell BK110.out 6).trans rfl
                    have hfz54_0 := blk_frozen BK110.out 0
                    have hfz54_1 := blk_frozen BK110.out 1
                    have hfz54_2 := blk_frozen BK110.out 2
                    have hfz54_3 := blk_frozen BK110.out 3
                    have hfz54_4 := blk_frozen BK110.out 4
                    have hfz54_5 := blk_frozen BK110.out 5
                    have hfz54_6 := blk_frozen BK110.out 6
                    go_wp2
                    go_ret
                    exact ⟨by first | rfl | (simp [errW_none, errW_some] <;> rfl) | (simp [*, errW_none, errW_some] <;> rfl), by repeat (first | (with_reducible first | exact HB.out | apply below_alloc | apply pw_below_drewN | apply below_drew1 | refine below_set ?_ GE110.out) | exact HB.out)⟩
                  · as_aux_lemma =>
                    rw [if_neg c53] at H
                    have c53b0 : (a0_1 == 2) = false := by simpa using c53
                    (try (have c53b1 : decide (a0_1 = 2) = false := by simpa using c53))
                    (try (have c53b2 : (a0_1 == 2) = false := by simpa using c53))
                    (try (have c53b3 : ¬ (a0_1 = 2) := by simpa using c53))
                    clear c53
                    obtain rfl := Option.some.inj H
                    go_wp2
                    go_ret
                    exact ⟨by first | rfl | (simp [errW_none, errW_some] <;> rfl) | (simp [*, errW_none, errW_some] <;> rfl), by repeat (first | (with_reducible first | exact HB.out | apply below_alloc | apply pw_below_drewN | apply below_drew1 | refine below_set ?_ GE110.out) | exact HB.out)⟩
                · as_aux_lemma =>
                  rw [if_neg c52] at H
                  have c52b0 : (a0_0 == 9) = false := beq_eq_false_iff_ne.mpr c52
                  have c52b1 : (a0_0 != 9) = true := bne_iff_ne.mpr c52
                  by_cases c55 : a0_0 = 10
                  · as_aux_lemma =>
                    rw [if_pos c55] at H
                    have c55b0 : (a0_0 == 10) = true := beq_iff_eq.mpr c55
                    have c55b1 : (a0_0 != 10) = false := bne_eq_false_iff_eq.mpr c55
                    clear c55
                    by_cases c56 : (a0_1 == 2) = true
                    · as_aux_lemma =>
                      rw [if_pos c56] at H
                      have c56b0 : (a0_1 == 2) = true := c56
                      (try (have c56b1 : decide (a0_1 = 2) = true := by simpa using c56))
                      (try (have c56b2 : (a0_1 == 2) = true := by simpa using c56))
                      clear c56
                      by_cases c57 : a0_6 = 0
                      · as_aux_lemma =>
                        rw [if_pos c57] at H
                        have c57b0 : (a0_6 == 0) = true := beq_iff_eq.mpr c57
                        have c57b1 : (a0_6 != 0) = false := bne_eq_false_iff_eq.mpr c57
                        clear c57
                        replace H := Option.bind_eq_some_iff.mp H
                        obtain ⟨t116, A580, H⟩ := H
                        replace H : (some t116) = some r := H
                        have A58 := Aside0.mk A580
                        clear A580
                        obtain rfl := Option.some.inj H
                        have hcz59_0 : wc.cell? ⟨gb110, 0, none⟩ = some (.int .i64 a0_0) := (blk_cell BK110.out 0).trans rfl
                        have hcz59_1 : wc.cell? ⟨gb110, 1, none⟩ = some (.int .i64 a0_1) := (blk_cell BK110.out 1).trans rfl
                        have hcz59_2 : wc.cell? ⟨gb110, 2, none⟩ = some (.int .i64 a0_2) := (blk_cell BK110.out 2).trans rfl
                        have hcz59_3 : wc.cell? ⟨gb110, 3, none⟩ = some (.int .i64 a0_3) := (blk_cell BK110.out 3).trans rfl
                        have hcz59_4 : wc.cell? ⟨gb110, 4, none⟩ = some (.int .i64 a0_4) := (blk_cell BK110.out 4).trans rfl
                        have hcz59_5 : wc.cell? ⟨gb110, 5, none⟩ = some (.int .i64 a0_5) := (blk_cell BK110.out 5).trans rfl
                        have hcz59_6 : wc.cell? ⟨gb110, 6, none⟩ = some (.int .i64 a0_6) := (blk_cell BK110.out 6).trans rfl
                        have hfz59_0 := blk_frozen BK110.out 0
                        have hfz59_1 := blk_frozen BK110.out 1
                        have hfz59_2 := blk_frozen BK110.out 2
                        have hfz59_3 := blk_frozen BK110.out 3
                        have hfz59_4 := blk_frozen BK110.out 4
                        have hfz59_5 := blk_frozen BK110.out 5
                        have hfz59_6 := blk_frozen BK110.out 6
                        go_wp2_with (first | (go_at_call 16; (with_reducible refine (spec_l7Plain.calls a0_3 t116 _ A58.out).mono ?_); rintro e w' ⟨rfl, ⟨nd, rfl⟩⟩))
                        go_ret
                        exact ⟨by first | rfl | (simp [errW_none, errW_some] <;> rfl) | (simp [*, errW_none, errW_some] <;> rfl), by repeat (first | (with_reducible first | exact HB.out | apply below_alloc | apply pw_below_drewN | apply below_drew1 | refine below_set ?_ GE110.out) | exact HB.out)⟩
                      · as_aux_lemma =>
                        rw [if_neg c57] at H
                        have c57b0 : (a0_6 == 0) = false := beq_eq_false_iff_ne.mpr c57
                        have c57b1 : (a0_6 != 0) = true := bne_iff_ne.mpr c57
                        obtain rfl := Option.some.inj H
                        have hcz60_0 : wc.cell? ⟨gb110, 0, none⟩ = some (.int .i64 a0_0) := (blk_cell BK110.out 0).trans rfl
                        have hcz60_1 : wc.cell? ⟨gb110, 1, none⟩ = some (.int .i64 a0_1) := (blk_cell BK110.out 1).trans rfl
                        have hcz60_2 : wc.cell? ⟨gb110, 2, none⟩ = some (.int .i64 a0_2) := (blk_cell BK110.out 2).trans rfl
                        have hcz60_3 : wc.cell? ⟨gb110, 3, none⟩ = some (.int .i64 a0_3) := (blk_cell BK110.out 3).trans rfl
                        have hcz60_4 : wc.cell? ⟨gb110, 4, none⟩ = some (.int .i64 a0_4) := (blk_cell BK110.out 4).trans rfl
                        have hcz60_5 : wc.cell? ⟨gb110, 5, none⟩ = some (.int .i64 a0_5) := (blk_cell BK110.out 5).trans rfl
                        have hcz60_6 : wc.cell? ⟨gb110, 6, none⟩ = some (.int .i64 a0_6) := (blk_cell BK110.out 6).trans rfl
                        have hfz60_0 := blk_frozen BK110.out 0
                        have hfz60_1 := blk_frozen BK110.out 1
                        have hfz60_2 := blk_frozen BK110.out 2
                        have hfz60_3 := blk_frozen BK110.out 3
                        have hfz60_4 := blk_frozen BK110.out 4
                        have hfz60_5 := blk_frozen BK110.out 5
                        have hfz60_6 := blk_frozen BK110.out 6
                        go_wp2
                        go_ret
                        exact ⟨by first | rfl | (simp [errW_none, errW_some] <;> rfl) | (simp [*, errW_none, errW_some] <;> rfl), by repeat (first | (with_reducible first | exact HB.out | apply below_alloc | apply pw_below_drewN | apply below_drew1 | refine below_set ?_ GE110.out) | exact HB.out)⟩
                    · as_aux_lemma =>
                      rw [if_neg c56] at H
                      have c56b0 : (a0_1 == 2) = false := by simpa using c56
                      (try (have c56b1 : decide (a0_1 = 2) = false := by simpa using c56))
                      (try (have c56b2 : (a0_1 == 2) = false := by simpa using c56))
                      (try (have c56b3 : ¬ (a0_1 = 2) := by simpa using c56))
                      clear c56
                      obtain rfl := Option.some.inj H
                      go_wp2
                      go_ret
                      exact ⟨by first | rfl | (simp [errW_none, errW_some] <;> rfl) | (simp [*, errW_none, errW_some] <;> rfl), by repeat (first | (with_reducible first | exact HB.out | apply below_alloc | apply pw_below_drewN | apply below_drew1 | refine below_set ?_ GE110.out) | exact HB.out)⟩
                  · as_aux_lemma =>
                    rw [if_neg c55] at H
                    have c55b0 : (a0_0 == 10) = false := beq_eq_false_iff_ne.mpr c55
                    have c55b1 : (a0_0 != 10) = true := bne_iff_ne.mpr c55
                    by_cases c61 : a0_0 = 11
                    · as_aux_lemma =>
                      rw [if_pos c61] at H
                      have c61b0 : (a0_0 == 11) = true := beq_iff_eq.mpr c61
                      have c61b1 : (a0_0 != 11) = false := bne_eq_false_iff_eq.mpr c61
                      clear c61
                      by_cases c62 : a0_2 = 0
                      · as_aux_lemma =>
                        rw [if_pos c62] at H
                        have c62b0 : (a0_2 == 0) = true := beq_iff_eq.mpr c62
                        have c62b1 : (a0_2 != 0) = false := bne_eq_false_iff_eq.mpr c62
                        clear c62
                        by_cases c63 : a0_6 ≤ 3
                        · as_aux_lemma =>
                          rw [if_pos c63] at H
                          have c63b0 : decide (a0_6 ≤ 3) = true := decide_eq_true c63
                          clear c63
                          by_cases c64 : a0_3 = 0
                          · as_aux_lemma =>
                            rw [if_pos c64] at H
                            have c64b0 : (a0_3 == 0) = true := beq_iff_eq.mpr c64
                            have c64b1 : (a0_3 != 0) = false := bne_eq_false_iff_eq.mpr c64
                            clear c64
                            obtain rfl := Option.some.inj H
                            have hcz65_0 : wc.cell? ⟨gb110, 0, none⟩ = some (.int .i64 a0_0) := (blk_cell BK110.out 0).trans rfl
                            have hcz65_1 : wc.cell? ⟨gb110, 1, none⟩ = some (.int .i64 a0_1) := (blk_cell BK110.out 1).trans rfl
                            have hcz65_2 : wc.cell? ⟨gb110, 2, none⟩ = some (.int .i64 a0_2) := (blk_cell BK110.out 2).trans rfl
                            have hcz65_3 : wc.cell? ⟨gb110, 3, none⟩ = some (.int .i64 a0_3) := (blk_cell BK110.out 3).trans rfl
                            have hcz65_4 : wc.cell? ⟨gb110, 4, none⟩ = some (.int .i64 a0_4) := (blk_cell BK110.out 4).trans rfl
                            have hcz65_5 : wc.cell? ⟨gb110, 5, none⟩ = some (.int .i64 a0_5) := (blk_cell BK110.out 5).trans rfl
                            have hcz65_6 : wc.cell? ⟨gb110, 6, none⟩ = some (.int .i64 a0_6) := (blk_cell BK110.out 6).trans rfl
                            have hfz65_0 := blk_frozen BK110.out 0
                            have hfz65_1 := blk_frozen BK110.out 1
                            have hfz65_2 := blk_frozen BK110.out 2
                            have hfz65_3 := blk_frozen BK110.out 3
                            have hfz65_4 := blk_frozen BK110.out 4
                            have hfz65_5 := blk_frozen BK110.out 5
                            have hfz65_6 := blk_frozen BK110.out 6
                            go_wp2
                            go_ret
                            exact ⟨by first | rfl | (simp [errW_none, errW_some] <;> rfl) | (simp [*, errW_none, errW_some] <;> rfl), by repeat (first | (with_reducible first | exact HB.out | apply below_alloc | apply pw_below_drewN | apply below_drew1 | refine below_set ?_ GE110.out) | exact HB.out)⟩
                          · as_aux_lemma =>
                            rw [if_neg c64] at H
                            have c64b0 : (a0_3 == 0) = false := beq_eq_false_iff_ne.mpr c64
                            have c64b1 : (a0_3 != 0) = true := bne_iff_ne.mpr c64
                            replace H := Option.bind_eq_some_iff.mp H
                            obtain ⟨t117, A660, H⟩ := H
                            replace H : (some t117) = some r := H
                            have A66 := Aside0.mk A660
                            clear A660
                            obtain rfl := Option.some.inj H
                            have hcz67_0 : wc.cell? ⟨gb110, 0, none⟩ = some (.int .i64 a0_0) := (blk_cell BK110.out 0).trans rfl
                            have hcz67_1 : wc.cell? ⟨gb110, 1, none⟩ = some (.int .i64 a0_1) := (blk_cell BK110.out 1).trans rfl
                            have hcz67_2 : wc.cell? ⟨gb110, 2, none⟩ = some (.int .i64 a0_2) := (blk_cell BK110.out 2).trans rfl
                            have hcz67_3 : wc.cell? ⟨gb110, 3, none⟩ = some (.int .i64 a0_3) := (blk_cell BK110.out 3).trans rfl
                            have hcz67_4 : wc.cell? ⟨gb110, 4, none⟩ = some (.int .i64 a0_4) := (blk_cell BK110.out 4).trans rfl
                            have hcz67_5 : wc.cell? ⟨gb110, 5, none⟩ = some (.int .i64 a0_5) := (blk_cell BK110.out 5).trans rfl
                            have hcz67_6 : wc.cell? ⟨gb110, 6, none⟩ = some (.int .i64 a0_6) := (blk_cell BK110.out 6).trans rfl
                            have hfz67_0 := blk_frozen BK110.out 0
                            have hfz67_1 := blk_frozen BK110.out 1
                            have hfz67_2 := blk_frozen BK110.out 2
                            have hfz67_3 := blk_frozen BK110.out 3
                            have hfz67_4 := blk_frozen BK110.out 4
                            have hfz67_5 := blk_frozen BK110.out 5
                            have hfz67_6 := blk_frozen BK110.out 6
                            go_wp2_with (first | (go_at_call 15; (with_reducible refine (spec_l7Memory.calls a0_3 t117 _ A66.out).mono ?_); rintro e w' ⟨rfl, ⟨nd, rfl⟩⟩))
                            go_ret
                            exact ⟨by first | rfl | (simp [errW_none, errW_some] <;> rfl) | (simp [*, errW_none, errW_some] <;> rfl), by repeat (first | (with_reducible first | exact HB.out | apply below_alloc | apply pw_below_drewN | apply below_drew1 | refine below_set ?_ GE110.out) | exact HB.out)⟩
                        · as_aux_lemma =>
                          rw [if_neg c63] at H
                          have c63b0 : decide (a0_6 ≤ 3) = false := decide_eq_false c63
                          clear c63
                          obtain rfl := Option.some.inj H
                          have hcz68_0 : wc.cell? ⟨gb110, 0, none⟩ = some (.int .i64 a0_0) := (blk_cell BK110.out 0).trans rfl
                          have hcz68_1 : wc.cell? ⟨gb110, 1, none⟩ = some (.int .i64 a0_1) := (blk_cell BK110.out 1).trans rfl
                          have hcz68_2 : wc.cell? ⟨gb110, 2, none⟩ = some (.int .i64 a0_2) := (blk_cell BK110.out 2).trans rfl
                          have hcz68_3 : wc.cell? ⟨gb110, 3, none⟩ = some (.int .i64 a0_3) := (blk_cell BK110.out 3).trans rfl
                          have hcz68_4 : wc.cell? ⟨gb110, 4, none⟩ = some (.int .i64 a0_4) := (blk_cell BK110.out 4).trans rfl
                          have hcz68_5 : wc.cell? ⟨gb110, 5, none⟩ = some (.int .i64 a0_5) := (blk_cell BK110.out 5).trans rfl
                          have hcz68_6 : wc.cell? ⟨gb110, 6, none⟩ = some (.int .i64 a0_6) := (blk_cell BK110.out 6).trans rfl
                          have hfz68_0 := blk_frozen BK110.out 0
                          have hfz68_1 := blk_frozen BK110.out 1
                          have hfz68_2 := blk_frozen BK110.out 2
                          have hfz68_3 := blk_frozen BK110.out 3
                          have hfz68_4 := blk_frozen BK110.out 4
                          have hfz68_5 := blk_frozen BK110.out 5
                          have hfz68_6 := blk_frozen BK110.out 6
                          go_wp2
                          go_ret
                          exact ⟨by first | rfl | (simp [errW_none, errW_some] <;> rfl) | (simp [*, errW_none, errW_some] <;> rfl), by repeat (first | (with_reducible first | exact HB.out | apply below_alloc | apply pw_below_drewN | apply below_drew1 | refine below_set ?_ GE110.out) | exact HB.out)⟩
                      · as_aux_lemma =>
                        rw [if_neg c62] at H
                        have c62b0 : (a0_2 == 0) = false := beq_eq_false_iff_ne.mpr c62
                        have c62b1 : (a0_2 != 0) = true := bne_iff_ne.mpr c62
                        obtain rfl := Option.some.inj H
                        have hcz69_0 : wc.cell? ⟨gb110, 0, none⟩ = some (.int .i64 a0_0) := (blk_cell BK110.out 0).trans rfl
                        have hcz69_1 : wc.cell? ⟨gb110, 1, none⟩ = some (.int .i64 a0_1) := (blk_cell BK110.out 1).trans rfl
                        have hcz69_2 : wc.cell? ⟨gb110, 2, none⟩ = some (.int .i64 a0_2) := (blk_cell BK110.out 2).trans rfl
                        have hcz69_3 : wc.cell? ⟨gb110, 3, none⟩ = some (.int .i64 a0_3) := (blk_cell BK110.out 3).trans rfl
                        have hcz69_4 : wc.cell? ⟨gb110, 4, none⟩ = some (.int .i64 a0_4) := (blk_cell BK110.out 4).trans rfl
                        have hcz69_5 : wc.cell? ⟨gb110, 5, none⟩ = some (.int .i64 a0_5) := (blk_cell BK110.out 5).trans rfl
                        have hcz69_6 : wc.cell? ⟨gb110, 6, none⟩ = some (.int .i64 a0_6) := (blk_cell BK110.out 6).trans rfl
                        have hfz69_0 := blk_frozen BK110.out 0
                        have hfz69_1 := blk_frozen BK110.out 1
                        have hfz69_2 := blk_frozen BK110.out 2
                        have hfz69_3 := blk_frozen BK110.out 3
                        have hfz69_4 := blk_frozen BK110.out 4
                        have hfz69_5 := blk_frozen BK110.out 5
                        have hfz69_6 := blk_frozen BK110.out 6
                        go_wp2
                        go_ret
                        exact ⟨by first | rfl | (simp [errW_none, errW_some] <;> rfl) | (simp [*, errW_none, errW_some] <;> rfl), by repeat (first | (with_reducible first | exact HB.out | apply below_alloc | apply pw_below_drewN | apply below_drew1 | refine below_set ?_ GE110.out) | exact HB.out)⟩
                    · as_aux_lemma =>
                      rw [if_neg c61] at H
                      have c61b0 : (a0_0 == 11) = false := beq_eq_false_iff_ne.mpr c61
                      have c61b1 : (a0_0 != 11) = true := bne_iff_ne.mpr c61
                      by_cases c70 : a0_0 = 12
                      · as_aux_lemma =>
                        rw [if_pos c70] at H
                        have c70b0 : (a0_0 == 12) = true := beq_iff_eq.mpr c70
                        have c70b1 : (a0_0 != 12) = false := bne_eq_false_iff_eq.mpr c70
                        clear c70
                        obtain rfl := Option.some.inj H
                        go_wp2
                        go_ret
                        exact ⟨by first | rfl | (simp [errW_none, errW_some] <;> rfl) | (simp [*, errW_none, errW_some] <;> rfl), by repeat (first | (with_reducible first | exact HB.out | apply below_alloc | apply pw_below_drewN | apply below_drew1 | refine below_set ?_ GE110.out) | exact HB.out)⟩
                      · as_aux_lemma =>
                        rw [if_neg c70] at H
                        have c70b0 : (a0_0 == 12) = false := beq_eq_false_iff_ne.mpr c70
                        have c70b1 : (a0_0 != 12) = true := bne_iff_ne.mpr c70
                        by_cases c71 : a0_0 = 13
                        · as_aux_lemma =>
                          rw [if_pos c71] at H
                          have c71b0 : (a0_0 == 13) = true := beq_iff_eq.mpr c71
                          have c71b1 : (a0_0 != 13) = false := bne_eq_false_iff_eq.mpr c71
                          clear c71
                          by_cases c72 : (a0_1 == 2) = true
                          · as_aux_lemma =>
                            rw [if_pos c72] at H
                            have c72b0 : (a0_1 == 2) = true := c72
                            (try (have c72b1 : decide (a0_1 = 2) = true := by simpa using c72))
                            (try (have c72b2 : (a0_1 == 2) = true := by simpa using c72))
                            clear c72
                            by_cases c73 : a0_2 ≤ 1
                            · as_aux_lemma =>
                              rw [if_pos c73] at H
                              have c73b0 : decide (a0_2 ≤ 1) = true := decide_eq_true c73
                              clear c73
                              obtain rfl := Option.some.inj H
                              have hcz74_0 : wc.cell? ⟨gb110, 0, none⟩ = some (.int .i64 a0_0) := (blk_cell BK110.out 0).trans rfl
                              have hcz74_1 : wc.cell? ⟨gb110, 1, none⟩ = some (.int .i64 a0_1) := (blk_cell BK110.out 1).trans rfl
                              have hcz74_2 : wc.cell? ⟨gb110, 2, none⟩ = some (.int .i64 a0_2) := (blk_cell BK110.out 2).trans rfl
                              have hcz74_3 : wc.cell? ⟨gb110, 3, none⟩ = some (.int .i64 a0_3) := (blk_cell BK110.out 3).trans rfl
                              have hcz74_4 : wc.cell? ⟨gb110, 4, none⟩ = some (.int .i64 a0_4) := (blk_cell BK110.out 4).trans rfl
                              have hcz74_5 : wc.cell? ⟨gb110, 5, none⟩ = some (.int .i64 a0_5) := (blk_cell BK110.out 5).trans rfl
                              have hcz74_6 : wc.cell? ⟨gb110, 6, none⟩ = some (.int .i64 a0_6) := (blk_cell BK110.out 6).trans rfl
                              have hfz74_0 := blk_frozen BK110.out 0
                              have hfz74_1 := blk_frozen BK110.out 1
                              have hfz74_2 := blk_frozen BK110.out 2
                              have hfz74_3 := blk_frozen BK110.out 3
                              have hfz74_4 := blk_frozen BK110.out 4
                              have hfz74_5 := blk_frozen BK110.out 5
                              have hfz74_6 := blk_frozen BK110.out 6
                              go_wp2
                              go_ret
                              exact ⟨by first | rfl | (simp [errW_none, errW_some] <;> rfl) | (simp [*, errW_none, errW_some] <;> rfl), by repeat (first | (with_reducible first | exact HB.out | apply below_alloc | apply pw_below_drewN | apply below_drew1 | refine below_set ?_ GE110.out) | exact HB.out)⟩
                            · as_aux_lemma =>
                              rw [if_neg c73] at H
                              have c73b0 : decide (a0_2 ≤ 1) = false := decide_eq_false c73
                              clear c73
                              obtain rfl := Option.some.inj H
                              have hcz75_0 : wc.cell? ⟨gb110, 0, none⟩ = some (.int .i64 a0_0) := (blk_cell BK110.out 0).trans rfl
                              have hcz75_1 : wc.cell? ⟨gb110, 1, none⟩ = some (.int .i64 a0_1) := (blk_cell BK110.out 1).trans rfl
                              have hcz75_2 : wc.cell? ⟨gb110, 2, none⟩ = some (.int .i64 a0_2) := (blk_cell BK110.out 2).trans rfl
                              have hcz75_3 : wc.cell? ⟨gb110, 3, none⟩ = some (.int .i64 a0_3) := (blk_cell BK110.out 3).trans rfl
                              have hcz75_4 : wc.cell? ⟨gb110, 4, none⟩ = some (.int .i64 a0_4) := (blk_cell BK110.out 4).trans rfl
                              have hcz75_5 : wc.cell? ⟨gb110, 5, none⟩ = some (.int .i64 a0_5) := (blk_cell BK110.out 5).trans rfl
                              have hcz75_6 : wc.cell? ⟨gb110, 6, none⟩ = some (.int .i64 a0_6) := (blk_cell BK110.out 6).trans rfl
                              have hfz75_0 := blk_frozen BK110.out 0
                              have hfz75_1 := blk_frozen BK110.out 1
                              have hfz75_2 := blk_frozen BK110.out 2
                              have hfz75_3 := blk_frozen BK110.out 3
                              have hfz75_4 := blk_frozen BK110.out 4
                              have hfz75_5 := blk_frozen BK110.out 5
                              have hfz75_6 := blk_frozen BK110.out 6
                              go_wp2
                              go_ret
                              exact ⟨by first | rfl | (simp [errW_none, errW_some] <;> rfl) | (simp [*, errW_none, errW_some] <;> rfl), by repeat (first | (with_reducible first | exact HB.out | apply below_alloc | apply pw_below_drewN | apply below_drew1 | refine below_set ?_ GE110.out) | exact HB.out)⟩
                          · as_aux_lemma =>
                            rw [if_neg c72] at H
                            have c72b0 : (a0_1 == 2) = false := by simpa using c72
                            (try (have c72b1 : decide (a0_1 = 2) = false := by simpa using c72))
                            (try (have c72b2 : (a0_1 == 2) = false := by simpa using c72))
                            (try (have c72b3 : ¬ (a0_1 = 2) := by simpa using c72))
                            clear c72
                            obtain rfl := Option.some.inj H
                            go_wp2
                            go_ret
                            exact ⟨by first | rfl | (simp [errW_none, errW_some] <;> rfl) | (simp [*, errW_none, errW_some] <;> rfl), by repeat (first | (with_reducible first | exact HB.out | apply below_alloc | apply pw_below_drewN | apply below_drew1 | refine below_set ?_ GE110.out) | exact HB.out)⟩
                        · as_aux_lemma =>
                          rw [if_neg c71] at H
                          have c71b0 : (a0_0 == 13) = false := beq_eq_false_iff_ne.mpr c71
                          have c71b1 : (a0_0 != 13) = true := bne_iff_ne.mpr c71
                          by_cases c76 : a0_0 = 14
                          · as_aux_lemma =>
                            rw [if_pos c76] at H
                            have c76b0 : (a0_0 == 14) = true := beq_iff_eq.mpr c76
                            have c76b1 : (a0_0 != 14) = false := bne_eq_false_iff_eq.mpr c76
                            clear c76
                            by_cases c77 : (a0_1 == 2) = true
                            · as_aux_lemma =>
                              rw [if_pos c77] at H
                              have c77b0 : (a0_1 == 2) = true := c77
                              (try (have c77b1 : decide (a0_1 = 2) = true := by simpa using c77))
                              (try (have c77b2 : (a0_1 == 2) = true := by simpa using c77))
                              clear c77
                              by_cases c78 : a0_2 = 0
                              · as_aux_lemma =>
                                rw [if_pos c78] at H
                                have c78b0 : (a0_2 == 0) = true := beq_iff_eq.mpr c78
                                have c78b1 : (a0_2 != 0) = false := bne_eq_false_iff_eq.mpr c78
                                clear c78
                                by_cases c79 : a0_6 ≤ 1
                                · as_aux_lemma =>
                                  rw [if_pos c79] at H
                                  have c79b0 : decide (a0_6 ≤ 1) = true := decide_eq_true c79
                                  clear c79
                                  replace H := Option.bind_eq_some_iff.mp H
                                  obtain ⟨t118, A800, H⟩ := H
                                  replace H : (some t118) = some r := H
                                  have A80 := Aside0.mk A800
                                  clear A800
                                  obtain rfl := Option.some.inj H
                                  have hcz81_0 : wc.cell? ⟨gb110, 0, none⟩ = some (.int .i64 a0_0) := (blk_cell BK110.out 0).trans rfl
                                  have hcz81_1 : wc.cell? ⟨gb110, 1, none⟩ = some (.int .i64 a0_1) := (blk_cell BK110.out 1).trans rfl
                                  have hcz81_2 : wc.cell? ⟨gb110, 2, none⟩ = some (.int .i64 a0_2) := (blk_cell BK110.out 2).trans rfl
                                  have hcz81_3 : wc.cell? ⟨gb110, 3, none⟩ = some (.int .i64 a0_3) := (blk_cell BK110.out 3).trans rfl
                                  have hcz81_4 : wc.cell? ⟨gb110, 4, none⟩ = some (.int .i64 a0_4) := (blk_cell BK110.out 4).trans rfl
                                  have hcz81_5 : wc.cell? ⟨gb110, 5, none⟩ = some (.int .i64 a0_5) := (blk_cell BK110.out 5).trans rfl
                                  have hcz81_6 : wc.cell? ⟨gb110, 6, none⟩ = some (.int .i64 a0_6) := (blk_cell BK110.out 6).trans rfl
                                  have hfz81_0 := blk_frozen BK110.out 0
                                  have hfz81_1 := blk_frozen BK110.out 1
                                  have hfz81_2 := blk_frozen BK110.out 2
                                  have hfz81_3 := blk_frozen BK110.out 3
                                  have hfz81_4 := blk_frozen BK110.out 4
                                  have hfz81_5 := blk_frozen BK110.out 5
                                  have hfz81_6 := blk_frozen BK110.out 6
                                  go_wp2_with (first | (go_at_call 16; (with_reducible refine (spec_l7Plain.calls a0_3 t118 _ A80.out).mono ?_); rintro e w' ⟨rfl, ⟨nd, rfl⟩⟩))
                                  go_ret
                                  exact ⟨by first | rfl | (simp [errW_none, errW_some] <;> rfl) | (simp [*, errW_none, errW_some] <;> rfl), by repeat (first | (with_reducible first | exact HB.out | apply below_alloc | apply pw_below_drewN | apply below_drew1 | refine below_set ?_ GE110.out) | exact HB.out)⟩
                                · as_aux_lemma =>
                                  rw [if_neg c79] at H
                                  have c79b0 : decide (a0_6 ≤ 1) = false := decide_eq_false c79
                                  clear c79
                                  obtain rfl := Option.some.inj H
                                  have hcz82_0 : wc.cell? ⟨gb110, 0, none⟩ = some (.int .i64 a0_0) := (blk_cell BK110.out 0).trans rfl
                                  have hcz82_1 : wc.cell? ⟨gb110, 1, none⟩ = some (.int .i64 a0_1) := (blk_cell BK110.out 1).trans rfl
                                  have hcz82_2 : wc.cell? ⟨gb110, 2, none⟩ = some (.int .i64 a0_2) := (blk_cell BK110.out 2).trans rfl
                                  have hcz82_3 : wc.cell? ⟨gb110, 3, none⟩ = some (.int .i64 a0_3) := (blk_cell BK110.out 3).trans rfl
                                  have hcz82_4 : wc.cell? ⟨gb110, 4, none⟩ = some (.int .i64 a0_4) := (blk_cell BK110.out 4).trans rfl
                                  have hcz82_5 : wc.cell? ⟨gb110, 5, none⟩ = some (.int .i64 a0_5) := (blk_cell BK110.out 5).trans rfl
                                  have hcz82_6 : wc.cell? ⟨gb110, 6, none⟩ = some (.int .i64 a0_6) := (blk_cell BK110.out 6).trans rfl
                                  have hfz82_0 := blk_frozen BK110.out 0
                                  have hfz82_1 := blk_frozen BK110.out 1
                                  have hfz82_2 := blk_frozen BK110.out 2
                                  have hfz82_3 := blk_frozen BK110.out 3
                                  have hfz82_4 := blk_frozen BK110.out 4
                                  have hfz82_5 := blk_frozen BK110.out 5
                                  have hfz82_6 := blk_frozen BK110.out 6
                                  go_wp2
                                  go_ret
                                  exact ⟨by first | rfl | (simp [errW_none, errW_some] <;> rfl) | (simp [*, errW_none, errW_some] <;> rfl), by repeat (first | (with_reducible first | exact HB.out | apply below_alloc | apply pw_below_drewN | apply below_drew1 | refine below_set ?_ GE110.out) | exact HB.out)⟩
                              · as_aux_lemma =>
                                rw [if_neg c78] at H
                                have c78b0 : (a0_2 == 0) = false := beq_eq_false_iff_ne.mpr c78
                                have c78b1 : (a0_2 != 0) = true := bne_iff_ne.mpr c78
                                obtain rfl := Option.some.inj H
                                have hcz83_0 : wc.cell? ⟨gb110, 0, none⟩ = some (.int .i64 a0_0) := (blk_cell BK110.out 0).trans rfl
                                have hcz83_1 : wc.cell? ⟨gb110, 1, none⟩ = some (.int .i64 a0_1) := (blk_cell BK110.out 1).trans rfl
                                have hcz83_2 : wc.cell? ⟨gb110, 2, none⟩ = some (.int .i64 a0_2) := (blk_cell BK110.out 2).trans rfl
                                have hcz83_3 : wc.cell? ⟨gb110, 3, none⟩ = some (.int .i64 a0_3) := (blk_cell BK110.out 3).trans rfl
                                have hcz83_4 : wc.cell? ⟨gb110, 4, none⟩ = some (.int .i64 a0_4) := (blk_cell BK110.out 4).trans rfl
                                have hcz83_5 : wc.cell? ⟨gb110, 5, none⟩ = some (.int .i64 a0_5) := (blk_cell BK110.out 5).trans rfl
                                have hcz83_6 : wc.cell? ⟨gb110, 6, none⟩ = some (.int .i64 a0_6) := (blk_cell BK110.out 6).trans rfl
                                have hfz83_0 := blk_frozen BK110.out 0
                                have hfz83_1 := blk_frozen BK110.out 1
                                have hfz83_2 := blk_frozen BK110.out 2
                                have hfz83_3 := blk_frozen BK110.out 3
                                have hfz83_4 := blk_frozen BK110.out 4
                                have hfz83_5 := blk_frozen BK110.out 5
                                have hfz83_6 := blk_frozen BK110.out 6
                                go_wp2
                                go_ret
                                exact ⟨by first | rfl | (simp [errW_none, errW_some] <;> rfl) | (simp [*, errW_none, errW_some] <;> rfl), by repeat (first | (with_reducible first | exact HB.out | apply below_alloc | apply pw_below_drewN | apply below_drew1 | refine below_set ?_ GE110.out) | exact HB.out)⟩
                            · as_aux_lemma =>
                              rw [if_neg c77] at H
                              have c77b0 : (a0_1 == 2) = false := by simpa using c77
                              (try (have c77b1 : decide (a0_1 = 2) = false := by simpa using c77))
                              (try (have c77b2 : (a0_1 == 2) = false := by simpa using c77))
                              (try (have c77b3 : ¬ (a0_1 = 2) := by simpa using c77))
                              clear c77
                              obtain rfl := Option.some.inj H
                              go_wp2
                              go_ret
                              exact ⟨by first | rfl | (simp [errW_none, errW_some] <;> rfl) | (simp [*, errW_none, errW_some] <;> rfl), by repeat (first | (with_reducible first | exact HB.out | apply below_alloc | apply pw_below_drewN | apply below_drew1 | refine below_set ?_ GE110.out) | exact HB.out)⟩
                          · as_aux_lemma =>
                            rw [if_neg c76] at H
                            have c76b0 : (a0_0 == 14) = false := beq_eq_false_iff_ne.mpr c76
                            have c76b1 : (a0_0 != 14) = true := bne_iff_ne.mpr c76
                            have HC84 := Aside0.mk H
                            clear H
                            go_upto_if 154 with (fail)
                            go_cut [154] (fun v154 wc => ∃ (kq : Nat) (x154_83 : Bool), v154 = .bool x154_83 ∧ Aside0 (spec_GoodIns.j2 kq (a0_1 == 2) a0_3 a0_0 x154_83 a0_0 a0_1 a0_2 a0_3 a0_4 a0_5 a0_6 = some r) ∧ Aside0 (kq ≤ kj30) ∧ Aside0 (wc.heap[gb110]? = some (.cells #[.int .i64 a0_0, .int .i64 a0_1, .int .i64 a0_2, .int .i64 a0_3, .int .i64 a0_4, .int .i64 a0_5, .int .i64 a0_6] 30 (0, 0))) ∧ Aside0 (Below w.heap.size w wc))
                            case first =>
                              have H := HC84.out
                              clear HC84
                              by_cases c85 : a0_0 = 16
                              · as_aux_lemma =>
                                rw [if_pos c85] at H
                                have c85b0 : (a0_0 == 16) = true := beq_iff_eq.mpr c85
                                have c85b1 : (a0_0 != 16) = false := bne_eq_false_iff_eq.mpr c85
                                clear c85
                                (first | rw [c85b0] | (simp only [i64_w, i32_w]; rw [c85b0]) | skip)
                                have H' := Aside0.mk H
                                clear H
                                go_wp2
                                go_meet
                                case rel => exact ⟨_, ((a0_0 == 16)), (by first | rfl | (simp; done) | (simp [*]; done)), H', ⟨by have := HJ1.out; have := HJ30.out; first | omega | exact Nat.le_refl _⟩, ⟨by (with_reducible repeat (first | refine blk_drewN ?_ _ | refine blk_drew ?_ | refine blk_alloc ?_ _)); exact BK110.out⟩, ⟨by repeat (first | (with_reducible first | exact HB.out | apply below_alloc | apply pw_below_drewN | apply below_drew1 | refine below_set ?_ GE110.out) | exact HB.out)⟩⟩
                              · as_aux_lemma =>
                                rw [if_neg c85] at H
                                have c85b0 : (a0_0 == 16) = false := beq_eq_false_iff_ne.mpr c85
                                have c85b1 : (a0_0 != 16) = true := bne_iff_ne.mpr c85
                                (first | rw [c85b0] | (simp only [i64_w, i32_w]; rw [c85b0]) | skip)
                                have H' := Aside0.mk H
                                clear H
                                go_wp2
                                go_meet
                                case rel => exact ⟨_, ((a0_0 == 17)), (by first | rfl | (simp; done) | (simp [*]; done)), H', ⟨by have := HJ1.out; have := HJ30.out; first | omega | exact Nat.le_refl _⟩, ⟨by (with_reducible repeat (first | refine blk_drewN ?_ _ | refine blk_drew ?_ | refine blk_alloc ?_ _)); exact BK110.out⟩, ⟨by repeat (first | (with_reducible first | exact HB.out | apply below_alloc | apply pw_below_drewN | apply below_drew1 | refine below_set ?_ GE110.out) | exact HB.out)⟩⟩
                            case rest =>
                              clear HC84
                              try clear p2
                              try clear c3
                              try clear c4
                              try clear c5
                              try clear c6
                              try clear c7
                              try clear c8
                              try clear c39
                              try clear c40
                              try clear c40b0
                              try clear c40b1
                              try clear c41
                              try clear c41b0
                              try clear c41b1
                              try clear c41b2
                              try clear c45
                              try clear c45b0
                              try clear c45b1
                              try clear c46
                              try clear c46b0
                              try clear c46b1
                              try clear c47
                              try clear c47b0
                              try clear c47b1
                              try clear c52
                              try clear c52b0
                              try clear c52b1
                              try clear c53
                              try clear c53b0
                              try clear c53b1
                              try clear c53b2
                              try clear c55
                              try clear c55b0
                              try clear c55b1
                              try clear c56
                              try clear c56b0
                              try clear c56b1
                              try clear c56b2
                              try clear c57
                              try clear c57b0
                              try clear c57b1
                              try clear c61
                              try clear c61b0
                              try clear c61b1
                              try clear c62
                              try clear c62b0
                              try clear c62b1
                              try clear c63
                              try clear c63b0
                              try clear c64
                              try clear c64b0
                              try clear c64b1
                              try clear c70
                              try clear c70b0
                              try clear c70b1
                              try clear c71
                              try clear c71b0
                              try clear c71b1
                              try clear c72
                              try clear c72b0
                              try clear c72b1
                              try clear c72b2
                              try clear c73
                              try clear c73b0
                              try clear c76
                              try clear c76b0
                              try clear c76b1
                              try clear c77
                              try clear c77b0
                              try clear c77b1
                              try clear c77b2
                              try clear c78
                              try clear c78b0
                              try clear c78b1
                              try clear c79
                              try clear c79b0
                              try clear c85
                              try clear c85b0
                              try clear c85b1
                              try clear hcz42_0
                              try clear hcz42_1
                              try clear hcz42_2
                              try clear hcz42_3
                              try clear hcz42_4
                              try clear hcz42_5
                              try clear hcz42_6
                              try clear hcz43_0
                              try clear hcz43_1
                              try clear hcz43_2
                              try clear hcz43_3
                              try clear hcz43_4
                              try clear hcz43_5
                              try clear hcz43_6
                              try clear hcz44_0
                              try clear hcz44_1
                              try clear hcz44_2
                              try clear hcz44_3
                              try clear hcz44_4
                              try clear hcz44_5
                              try clear hcz44_6
                              try clear hcz48_0
                              try clear hcz48_1
                              try clear hcz48_2
                              try clear hcz48_3
                              try clear hcz48_4
                              try clear hcz48_5
                              try clear hcz48_6
                              try clear hcz50_0
                              try clear hcz50_1
                              try clear hcz50_2
                              try clear hcz50_3
                              try clear hcz50_4
                              try clear hcz50_5
                              try clear hcz50_6
                              try clear hcz51_0
                              try clear hcz51_1
                              try clear hcz51_2
                              try clear hcz51_3
                              try clear hcz51_4
                              try clear hcz51_5
                              try clear hcz51_6
                              try clear hcz54_0
                              try clear hcz54_1
                              try clear hcz54_2
                              try clear hcz54_3
                              try clear hcz54_4
                              try clear hcz54_5
                              try clear hcz54_6
                              try clear hcz59_0
                              try clear hcz59_1
                              try clear hcz59_2
                              try clear hcz59_3
                              try clear hcz59_4
                              try clear hcz59_5
                              try clear hcz59_6
                              try clear hcz60_0
                              try clear hcz60_1
                              try clear hcz60_2
                              try clear hcz60_3
                              try clear hcz60_4
                              try clear hcz60_5
                              try clear hcz60_6
                              try clear hcz65_0
                              try clear hcz65_1
                              try clear hcz65_2
                              try clear hcz65_3
                              try clear hcz65_4
                              try clear hcz65_5
                              try clear hcz65_6
                              try clear hcz67_0
                              try clear hcz67_1
                              try clear hcz67_2
                              try clear hcz67_3
                              try clear hcz67_4
                              try clear hcz67_5
                              try clear hcz67_6
                              try clear hcz68_0
                              try clear hcz68_1
                              try clear hcz68_2
                              try clear hcz68_3
                              try clear hcz68_4
                              try clear hcz68_5
                              try clear hcz68_6
                              try clear hcz69_0
                              try clear hcz69_1
                              try clear hcz69_2
                              try clear hcz69_3
                              try clear hcz69_4
                              try clear hcz69_5
                              try clear hcz69_6
                              try clear hcz74_0
                              try clear hcz74_1
                              try clear hcz74_2
                              try clear hcz74_3
                              try clear hcz74_4
                              try clear hcz74_5
                              try clear hcz74_6
                              try clear hcz75_0
                              try clear hcz75_1
                              try clear hcz75_2
                              try clear hcz75_3
                              try clear hcz75_4
                              try clear hcz75_5
                              try clear hcz75_6
                              try clear hcz81_0
                              try clear hcz81_1
                              try clear hcz81_2
                              try clear hcz81_3
                              try clear hcz81_4
                              try clear hcz81_5
                              try clear hcz81_6
                              try clear hcz82_0
                              try clear hcz82_1
                              try clear hcz82_2
                              try clear hcz82_3
                              try clear hcz82_4
                              try clear hcz82_5
                              try clear hcz82_6
                              try clear hcz83_0
                              try clear hcz83_1
                              try clear hcz83_2
                              try clear hcz83_3
                              try clear hcz83_4
                              try clear hcz83_5
                              try clear hcz83_6
                              try clear hfz42_0
                              try clear hfz42_1
                              try clear hfz42_2
                              try clear hfz42_3
                              try clear hfz42_4
                              try clear hfz42_5
                              try clear hfz42_6
                              try clear hfz43_0
                              try clear hfz43_1
                              try clear hfz43_2
                              try clear hfz43_3
                              try clear hfz43_4
                              try clear hfz43_5
                              try clear hfz43_6
                              try clear hfz44_0
                              try clear hfz44_1
                              try clear hfz44_2
                              try clear hfz44_3
                              try clear hfz44_4
                              try clear hfz44_5
                              try clear hfz44_6
                              try clear hfz48_0
                              try clear hfz48_1
                              try clear hfz48_2
                              try clear hfz48_3
                              try clear hfz48_4
                              try clear hfz48_5
                              try clear hfz48_6
                              try clear hfz50_0
                              try clear hfz50_1
                              try clear hfz50_2
                              try clear hfz50_3
                              try clear hfz50_4
                              try clear hfz50_5
                              try clear hfz50_6
                              try clear hfz51_0
                              try clear hfz51_1
                              try clear hfz51_2
                              try clear hfz51_3
                              try clear hfz51_4
                              try clear hfz51_5
                              try clear hfz51_6
                              try clear hfz54_0
                              try clear hfz54_1
                              try clear hfz54_2
                              try clear hfz54_3
                              try clear hfz54_4
                              try clear hfz54_5
                              try clear hfz54_6
                              try clear hfz59_0
                              try clear hfz59_1
                              try clear hfz59_2
                              try clear hfz59_3
                              try clear hfz59_4
                              try clear hfz59_5
                              try clear hfz59_6
                              try clear hfz60_0
                              try clear hfz60_1
                              try clear hfz60_2
                              try clear hfz60_3
                              try clear hfz60_4
                              try clear hfz60_5
                              try clear hfz60_6
                              try clear hfz65_0
                              try clear hfz65_1
                              try clear hfz65_2
                              try clear hfz65_3
                              try clear hfz65_4
                              try clear hfz65_5
                              try clear hfz65_6
                              try clear hfz67_0
                              try clear hfz67_1
                              try clear hfz67_2
                              try clear hfz67_3
                              try clear hfz67_4
                              try clear hfz67_5
                              try clear hfz67_6
                              try clear hfz68_0
                              try clear hfz68_1
                              try clear hfz68_2
                              try clear hfz68_3
                              try clear hfz68_4
                              try clear hfz68_5
                              try clear hfz68_6
                              try clear hfz69_0
                              try clear hfz69_1
                              try clear hfz69_2
                              try clear hfz69_3
                              try clear hfz69_4
                              try clear hfz69_5
                              try clear hfz69_6
                              try clear hfz74_0
                              try clear hfz74_1
                              try clear hfz74_2
                              try clear hfz74_3
                              try clear hfz74_4
                              try clear hfz74_5
                              try clear hfz74_6
                              try clear hfz75_0
                              try clear hfz75_1
                              try clear hfz75_2
                              try clear hfz75_3
                              try clear hfz75_4
                              try clear hfz75_5
                              try clear hfz75_6
                              try clear hfz81_0
                              try clear hfz81_1
                              try clear hfz81_2
                              try clear hfz81_3
                              try clear hfz81_4
                              try clear hfz81_5
                              try clear hfz81_6
                              try clear hfz82_0
                              try clear hfz82_1
                              try clear hfz82_2
                              try clear hfz82_3
                              try clear hfz82_4
                              try clear hfz82_5
                              try clear hfz82_6
                              try clear hfz83_0
                              try clear hfz83_1
                              try clear hfz83_2
                              try clear hfz83_3
                              try clear hfz83_4
                              try clear hfz83_5
                              try clear hfz83_6
                              obtain ⟨kq, x154_83, rfl, HA, HJ83, BK110, HB⟩ := hcut
                              cases kq with
                              | zero => exact absurd HA.out (by simp [spec_GoodIns.j2])
                              | succ kj83 =>
                                have H := HA.out
                                clear HA
                                simp only [spec_GoodIns.j2] at H
                                by_cases c86 : x154_83 = true
                                · as_aux_lemma =>
                                  subst c86
                                  have H1 : (if (a0_1 == 2) = true then (if a0_6 = 0 then (some (a0_3 != 1)) else (some false)) else (some false)) = some r := by rw [if_pos rfl] at H; exact H
                                  clear H
                                  have H := H1
                                  clear H1
                                  by_cases c87 : (a0_1 == 2) = true
                                  · as_aux_lemma =>
                                    rw [if_pos c87] at H
                                    have c87b0 : (a0_1 == 2) = true := c87
                                    (try (have c87b1 : decide (a0_1 = 2) = true := by simpa using c87))
                                    (try (have c87b2 : (a0_1 == 2) = true := by simpa using c87))
                                    clear c87
                                    by_cases c88 : a0_6 = 0
                                    · as_aux_lemma =>
                                      rw [if_pos c88] at H
                                      have c88b0 : (a0_6 == 0) = true := beq_iff_eq.mpr c88
                                      have c88b1 : (a0_6 != 0) = false := bne_eq_false_iff_eq.mpr c88
                                      clear c88
                                      obtain rfl := Option.some.inj H
                                      have hcz89_0 : wc.cell? ⟨gb110, 0, none⟩ = some (.int .i64 a0_0) := (blk_cell BK110.out 0).trans rfl
                                      have hcz89_1 : wc.cell? ⟨gb110, 1, none⟩ = some (.int .i64 a0_1) := (blk_cell BK110.out 1).trans rfl
                                      have hcz89_2 : wc.cell? ⟨gb110, 2, none⟩ = some (.int .i64 a0_2) := (blk_cell BK110.out 2).trans rfl
                                      have hcz89_3 : wc.cell? ⟨gb110, 3, none⟩ = some (.int .i64 a0_3) := (blk_cell BK110.out 3).trans rfl
                                      have hcz89_4 : wc.cell? ⟨gb110, 4, none⟩ = some (.int .i64 a0_4) := (blk_cell BK110.out 4).trans rfl
                                      have hcz89_5 : wc.cell? ⟨gb110, 5, none⟩ = some (.int .i64 a0_5) := (blk_cell BK110.out 5).trans rfl
                                      have hcz89_6 : wc.cell? ⟨gb110, 6, none⟩ = some (.int .i64 a0_6) := (blk_cell BK110.out 6).trans rfl
                                      have hfz89_0 := blk_frozen BK110.out 0
                                      have hfz89_1 := blk_frozen BK110.out 1
                                      have hfz89_2 := blk_frozen BK110.out 2
                                      have hfz89_3 := blk_frozen BK110.out 3
                                      have hfz89_4 := blk_frozen BK110.out 4
                                      have hfz89_5 := blk_frozen BK110.out 5
                                      have hfz89_6 := blk_frozen BK110.out 6
                                      go_wp2
                                      go_ret
                                      exact ⟨by first | rfl | (simp [errW_none, errW_some] <;> rfl) | (simp [*, errW_none, errW_some] <;> rfl), by repeat (first | (with_reducible first | exact HB.out | apply below_alloc | apply pw_below_drewN | apply below_drew1 | refine below_set ?_ GE110.out) | exact HB.out)⟩
                                    · as_aux_lemma =>
                                      rw [if_neg c88] at H
                                      have c88b0 : (a0_6 == 0) = false := beq_eq_false_iff_ne.mpr c88
                                      have c88b1 : (a0_6 != 0) = true := bne_iff_ne.mpr c88
                                      obtain rfl := Option.some.inj H
                                      have hcz90_0 : wc.cell? ⟨gb110, 0, none⟩ = some (.int .i64 a0_0) := (blk_cell BK110.out 0).trans rfl
                                      have hcz90_1 : wc.cell? ⟨gb110, 1, none⟩ = some (.int .i64 a0_1) := (blk_cell BK110.out 1).trans rfl
                                      have hcz90_2 : wc.cell? ⟨gb110, 2, none⟩ = some (.int .i64 a0_2) := (blk_cell BK110.out 2).trans rfl
                                      have hcz90_3 : wc.cell? ⟨gb110, 3, none⟩ = some (.int .i64 a0_3) := (blk_cell BK110.out 3).trans rfl
                                      have hcz90_4 : wc.cell? ⟨gb110, 4, none⟩ = some (.int .i64 a0_4) := (blk_cell BK110.out 4).trans rfl
                                      have hcz90_5 : wc.cell? ⟨gb110, 5, none⟩ = some (.int .i64 a0_5) := (blk_cell BK110.out 5).trans rfl
                                      have hcz90_6 : wc.cell? ⟨gb110, 6, none⟩ = some (.int .i64 a0_6) := (blk_cell BK110.out 6).trans rfl
                                      have hfz90_0 := blk_frozen BK110.out 0
                                      have hfz90_1 := blk_frozen BK110.out 1
                                      have hfz90_2 := blk_frozen BK110.out 2
                                      have hfz90_3 := blk_frozen BK110.out 3
                                      have hfz90_4 := blk_frozen BK110.out 4
                                      have hfz90_5 := blk_frozen BK110.out 5
                                      have hfz90_6 := blk_frozen BK110.out 6
                                      go_wp2
                                      go_ret
                                      exact ⟨by first | rfl | (simp [errW_none, errW_some] <;> rfl) | (simp [*, errW_none, errW_some] <;> rfl), by repeat (first | (with_reducible first | exact HB.out | apply below_alloc | apply pw_below_drewN | apply below_drew1 | refine below_set ?_ GE110.out) | exact HB.out)⟩
                                  · as_aux_lemma =>
                                    rw [if_neg c87] at H
                                    have c87b0 : (a0_1 == 2) = false := by simpa using c87
                                    (try (have c87b1 : decide (a0_1 = 2) = false := by simpa using c87))
                                    (try (have c87b2 : (a0_1 == 2) = false := by simpa using c87))
                                    (try (have c87b3 : ¬ (a0_1 = 2) := by simpa using c87))
                                    clear c87
                                    obtain rfl := Option.some.inj H
                                    go_wp2
                                    go_ret
                                    exact ⟨by first | rfl | (simp [errW_none, errW_some] <;> rfl) | (simp [*, errW_none, errW_some] <;> rfl), by repeat (first | (with_reducible first | exact HB.out | apply below_alloc | apply pw_below_drewN | apply below_drew1 | refine below_set ?_ GE110.out) | exact HB.out)⟩
                                · as_aux_lemma =>
                                  replace c86 := Bool.eq_false_iff.mpr c86
                                  subst c86
                                  have H1 : (if a0_0 = 18 then (if (a0_1 == 2) = true then (some false) else (if a0_6 ≤ 1 then (some (a0_3 == 0)) else (some false))) else (if a0_0 = 19 then (if (a0_1 == 2) = true then (if a0_6 = 0 then (if a0_2 = 0 then ((spec_l7Now.f a0_3 a0_4 a0_5).bind fun t119 => (if t119 = true then (some true) else (if a0_6 = 1 then ((spec_l7Zero.f a0_3 a0_4 a0_5).bind fun t120 => (some t120)) else (some false)))) else (if a0_6 = 1 then ((spec_l7Zero.f a0_3 a0_4 a0_5).bind fun t121 => (some t121)) else (some false))) else (if a0_6 = 1 then ((spec_l7Zero.f a0_3 a0_4 a0_5).bind fun t122 => (some t122)) else (some false))) else (some false)) else (if a0_0 = 15 then (if a0_6 = 3 then (if (a0_1 == 2) = true then (if a0_2 = 0 then ((spec_l7Now.f a0_3 a0_4 a0_5).bind fun t123 => (some t123)) else (some false)) else (some false)) else (if (a0_1 == 2) = true then (if a0_6 ≤ 6 then ((spec_l7Zero.f a0_3 a0_4 a0_5).bind fun t124 => (if t124 = true then (if a0_6 > 3 then (some true) else (some (a0_2 == 0))) else (some false))) else (some false)) else (some false))) else (some false)))) = some r := by rw [if_neg (show ¬ (false = true) by decide)] at H; exact H
                                  clear H
                                  have H := H1
                                  clear H1
                                  by_cases c91 : a0_0 = 18
                                  · as_aux_lemma =>
                                    rw [if_pos c91] at H
                                    have c91b0 : (a0_0 == 18) = true := beq_iff_eq.mpr c91
                                    have c91b1 : (a0_0 != 18) = false := bne_eq_false_iff_eq.mpr c91
                                    clear c91
                                    by_cases c92 : (a0_1 == 2) = true
                                    · as_aux_lemma =>
                                      rw [if_pos c92] at H
                                      have c92b0 : (a0_1 == 2) = true := c92
                                      (try (have c92b1 : decide (a0_1 = 2) = true := by simpa using c92))
                                      (try (have c92b2 : (a0_1 == 2) = true := by simpa using c92))
                                      clear c92
                                      obtain rfl := Option.some.inj H
                                      go_wp2
                                      go_ret
                                      exact ⟨by first | rfl | (simp [errW_none, errW_some] <;> rfl) | (simp [*, errW_none, errW_some] <;> rfl), by repeat (first | (with_reducible first | exact HB.out | apply below_alloc | apply pw_below_drewN | apply below_drew1 | refine below_set ?_ GE110.out) | exact HB.out)⟩
                                    · as_aux_lemma =>
                                      rw [if_neg c92] at H
                                      have c92b0 : (a0_1 == 2) = false := by simpa using c92
                                      (try (have c92b1 : decide (a0_1 = 2) = false := by simpa using c92))
                                      (try (have c92b2 : (a0_1 == 2) = false := by simpa using c92))
                                      (try (have c92b3 : ¬ (a0_1 = 2) := by simpa using c92))
                                      clear c92
                                      by_cases c93 : a0_6 ≤ 1
                                      · as_aux_lemma =>
                                        rw [if_pos c93] at H
                                        have c93b0 : decide (a0_6 ≤ 1) = true := decide_eq_true c93
                                        clear c93
                                        obtain rfl := Option.some.inj H
                                        have hcz94_0 : wc.cell? ⟨gb110, 0, none⟩ = some (.int .i64 a0_0) := (blk_cell BK110.out 0).trans rfl
                                        have hcz94_1 : wc.cell? ⟨gb110, 1, none⟩ = some (.int .i64 a0_1) := (blk_cell BK110.out 1).trans rfl
                                        have hcz94_2 : wc.cell? ⟨gb110, 2, none⟩ = some (.int .i64 a0_2) := (blk_cell BK110.out 2).trans rfl
                                        have hcz94_3 : wc.cell? ⟨gb110, 3, none⟩ = some (.int .i64 a0_3) := (blk_cell BK110.out 3).trans rfl
                                        have hcz94_4 : wc.cell? ⟨gb110, 4, none⟩ = some (.int .i64 a0_4) := (blk_cell BK110.out 4).trans rfl
                                        have hcz94_5 : wc.cell? ⟨gb110, 5, none⟩ = some (.int .i64 a0_5) := (blk_cell BK110.out 5).trans rfl
                                        have hcz94_6 : wc.cell? ⟨gb110, 6, none⟩ = some (.int .i64 a0_6) := (blk_cell BK110.out 6).trans rfl
                                        have hfz94_0 := blk_frozen BK110.out 0
                                        have hfz94_1 := blk_frozen BK110.out 1
                                        have hfz94_2 := blk_frozen BK110.out 2
                                        have hfz94_3 := blk_frozen BK110.out 3
                                        have hfz94_4 := blk_frozen BK110.out 4
                                        have hfz94_5 := blk_frozen BK110.out 5
                                        have hfz94_6 := blk_frozen BK110.out 6
                                        go_wp2
                                        go_ret
                                        exact ⟨by first | rfl | (simp [errW_none, errW_some] <;> rfl) | (simp [*, errW_none, errW_some] <;> rfl), by repeat (first | (with_reducible first | exact HB.out | apply below_alloc | apply pw_below_drewN | apply below_drew1 | refine below_set ?_ GE110.out) | exact HB.out)⟩
                                      · as_aux_lemma =>
                                        rw [if_neg c93] at H
                                        have c93b0 : decide (a0_6 ≤ 1) = false := decide_eq_false c93
                                        clear c93
                                        obtain rfl := Option.some.inj H
                                        have hcz95_0 : wc.cell? ⟨gb110, 0, none⟩ = some (.int .i64 a0_0) := (blk_cell BK110.out 0).trans rfl
                                        have hcz95_1 : wc.cell? ⟨gb110, 1, none⟩ = some (.int .i64 a0_1) := (blk_cell BK110.out 1).trans rfl
                                        have hcz95_2 : wc.cell? ⟨gb110, 2, none⟩ = some (.int .i64 a0_2) := (blk_cell BK110.out 2).trans rfl
                                        have hcz95_3 : wc.cell? ⟨gb110, 3, none⟩ = some (.int .i64 a0_3) := (blk_cell BK110.out 3).trans rfl
                                        have hcz95_4 : wc.cell? ⟨gb110, 4, none⟩ = some (.int .i64 a0_4) := (blk_cell BK110.out 4).trans rfl
                                        have hcz95_5 : wc.cell? ⟨gb110, 5, none⟩ = some (.int .i64 a0_5) := (blk_cell BK110.out 5).trans rfl
                                        have hcz95_6 : wc.cell? ⟨gb110, 6, none⟩ = some (.int .i64 a0_6) := (blk_cell BK110.out 6).trans rfl
                                        have hfz95_0 := blk_frozen BK110.out 0
                                        have hfz95_1 := blk_frozen BK110.out 1
                                        have hfz95_2 := blk_frozen BK110.out 2
                                        have hfz95_3 := blk_frozen BK110.out 3
                                        have hfz95_4 := blk_frozen BK110.out 4
                                        have hfz95_5 := blk_frozen BK110.out 5
                                        have hfz95_6 := blk_frozen BK110.out 6
                                        go_wp2
                                        go_ret
                                        exact ⟨by first | rfl | (simp [errW_none, errW_some] <;> rfl) | (simp [*, errW_none, errW_some] <;> rfl), by repeat (first | (with_reducible first | exact HB.out | apply below_alloc | apply pw_below_drewN | apply below_drew1 | refine below_set ?_ GE110.out) | exact HB.out)⟩
                                  · as_aux_lemma =>
                                    rw [if_neg c91] at H
                                    have c91b0 : (a0_0 == 18) = false := beq_eq_false_iff_ne.mpr c91
                                    have c91b1 : (a0_0 != 18) = true := bne_iff_ne.mpr c91
                                    by_cases c96 : a0_0 = 19
                                    · as_aux_lemma =>
                                      rw [if_pos c96] at H
                                      have c96b0 : (a0_0 == 19) = true := beq_iff_eq.mpr c96
                                      have c96b1 : (a0_0 != 19) = false := bne_eq_false_iff_eq.mpr c96
                                      clear c96
                                      by_cases c97 : (a0_1 == 2) = true
                                      · as_aux_lemma =>
                                        rw [if_pos c97] at H
                                        have c97b0 : (a0_1 == 2) = true := c97
                                        (try (have c97b1 : decide (a0_1 = 2) = true := by simpa using c97))
                                        (try (have c97b2 : (a0_1 == 2) = true := by simpa using c97))
                                        clear c97
                                        by_cases c98 : a0_6 = 0
                                        · as_aux_lemma =>
                                          rw [if_pos c98] at H
                                          have c98b0 : (a0_6 == 0) = true := beq_iff_eq.mpr c98
                                          have c98b1 : (a0_6 != 0) = false := bne_eq_false_iff_eq.mpr c98
                                          clear c98
                                          by_cases c99 : a0_2 = 0
                                          · as_aux_lemma =>
                                            rw [if_pos c99] at H
                                            have c99b0 : (a0_2 == 0) = true := beq_iff_eq.mpr c99
                                            have c99b1 : (a0_2 != 0) = false := bne_eq_false_iff_eq.mpr c99
                                            clear c99
                                            replace H := Option.bind_eq_some_iff.mp H
                                            obtain ⟨t119, A1000, H⟩ := H
                                            replace H : (if t119 = true then (some true) else (if a0_6 = 1 then ((spec_l7Zero.f a0_3 a0_4 a0_5).bind fun t120 => (some t120)) else (some false))) = some r := H
                                            have A100 := Aside0.mk A1000
                                            clear A1000
                                            by_cases c101 : t119 = true
                                            · as_aux_lemma =>
                                              subst c101
                                              have H1 : (some true) = some r := by rw [if_pos rfl] at H; exact H
                                              clear H
                                              have H := H1
                                              clear H1
                                              obtain rfl := Option.some.inj H
                                              have hcz102_0 : wc.cell? ⟨gb110, 0, none⟩ = some (.int .i64 a0_0) := (blk_cell BK110.out 0).trans rfl
                                              have hcz102_1 : wc.cell? ⟨gb110, 1, none⟩ = some (.int .i64 a0_1) := (blk_cell BK110.out 1).trans rfl
                                              have hcz102_2 : wc.cell? ⟨gb110, 2, none⟩ = some (.int .i64 a0_2) := (blk_cell BK110.out 2).trans rfl
                                              have hcz102_3 : wc.cell? ⟨gb110, 3, none⟩ = some (.int .i64 a0_3) := (blk_cell BK110.out 3).trans rfl
                                              have hcz102_4 : wc.cell? ⟨gb110, 4, none⟩ = some (.int .i64 a0_4) := (blk_cell BK110.out 4).trans rfl
                                              have hcz102_5 : wc.cell? ⟨gb110, 5, none⟩ = some (.int .i64 a0_5) := (blk_cell BK110.out 5).trans rfl
                                              have hcz102_6 : wc.cell? ⟨gb110, 6, none⟩ = some (.int .i64 a0_6) := (blk_cell BK110.out 6).trans rfl
                                              have hfz102_0 := blk_frozen BK110.out 0
                                              have hfz102_1 := blk_frozen BK110.out 1
                                              have hfz102_2 := blk_frozen BK110.out 2
                                              have hfz102_3 := blk_frozen BK110.out 3
                                              have hfz102_4 := blk_frozen BK110.out 4
                                              have hfz102_5 := blk_frozen BK110.out 5
                                              have hfz102_6 := blk_frozen BK110.out 6
                                              go_wp2_with (first | (go_at_call 17; (with_reducible refine (spec_l7Now.calls a0_3 a0_4 a0_5 true _ A100.out).mono ?_); rintro e w103 ⟨rfl, hb⟩; have n0_ := Aside0.mk (blk_below (g := gb110) (o := .cells #[.int .i64 a0_0, .int .i64 a0_1, .int .i64 a0_2, .int .i64 a0_3, .int .i64 a0_4, .int .i64 a0_5, .int .i64 a0_6] 30 (0, 0)) (by (with_reducible repeat (first | refine blk_drewN ?_ _ | refine blk_drew ?_ | refine blk_alloc ?_ _)); exact BK110.out) hb); have n1_ := Aside0.mk (below_step (by repeat (first | (with_reducible first | exact HB.out | apply below_alloc | apply pw_below_drewN | apply below_drew1 | refine below_set ?_ GE110.out) | exact HB.out)) hb); clear BK110; clear HB; have BK110 := n0_; have HB := n1_; clear n0_ n1_; (try clear hb); (try clear hb2); (try clear hk); (try clear hi)))
                                              go_ret
                                              exact ⟨by first | rfl | (simp [errW_none, errW_some] <;> rfl) | (simp [*, errW_none, errW_some] <;> rfl), by repeat (first | (with_reducible first | exact HB.out | apply below_alloc | apply pw_below_drewN | apply below_drew1 | refine below_set ?_ GE110.out) | exact HB.out)⟩
                                            · as_aux_lemma =>
                                              replace c101 := Bool.eq_false_iff.mpr c101
                                              subst c101
                                              have H1 : (if a0_6 = 1 then ((spec_l7Zero.f a0_3 a0_4 a0_5).bind fun t120 => (some t120)) else (some false)) = some r := by rw [if_neg (show ¬ (false = true) by decide)] at H; exact H
                                              clear H
                                              have H := H1
                                              clear H1
                                              by_cases c104 : a0_6 = 1
                                              · as_aux_lemma =>
                                                rw [if_pos c104] at H
                                                have c104b0 : (a0_6 == 1) = true := beq_iff_eq.mpr c104
                                                have c104b1 : (a0_6 != 1) = false := bne_eq_false_iff_eq.mpr c104
                                                clear c104
                                                replace H := Option.bind_eq_some_iff.mp H
                                                obtain ⟨t120, A1050, H⟩ := H
                                                replace H : (some t120) = some r := H
                                                have A105 := Aside0.mk A1050
                                                clear A1050
                                                obtain rfl := Option.some.inj H
                                                have hcz106_0 : wc.cell? ⟨gb110, 0, none⟩ = some (.int .i64 a0_0) := (blk_cell BK110.out 0).trans rfl
                                                have hcz106_1 : wc.cell? ⟨gb110, 1, none⟩ = some (.int .i64 a0_1) := (blk_cell BK110.out 1).trans rfl
                                                have hcz106_2 : wc.cell? ⟨gb110, 2, none⟩ = some (.int .i64 a0_2) := (blk_cell BK110.out 2).trans rfl
                                                have hcz106_3 : wc.cell? ⟨gb110, 3, none⟩ = some (.int .i64 a0_3) := (blk_cell BK110.out 3).trans rfl
                                                have hcz106_4 : wc.cell? ⟨gb110, 4, none⟩ = some (.int .i64 a0_4) := (blk_cell BK110.out 4).trans rfl
                                                have hcz106_5 : wc.cell? ⟨gb110, 5, none⟩ = some (.int .i64 a0_5) := (blk_cell BK110.out 5).trans rfl
                                                have hcz106_6 : wc.cell? ⟨gb110, 6, none⟩ = some (.int .i64 a0_6) := (blk_cell BK110.out 6).trans rfl
                                                have hfz106_0 := blk_frozen BK110.out 0
                                                have hfz106_1 := blk_frozen BK110.out 1
                                                have hfz106_2 := blk_frozen BK110.out 2
                                                have hfz106_3 := blk_frozen BK110.out 3
                                                have hfz106_4 := blk_frozen BK110.out 4
                                                have hfz106_5 := blk_frozen BK110.out 5
                                                have hfz106_6 := blk_frozen BK110.out 6
                                                go_wp2_with (first | (go_at_call 17; (with_reducible refine (spec_l7Now.calls a0_3 a0_4 a0_5 false _ A100.out).mono ?_); rintro e w107 ⟨rfl, hb⟩; have n0_ := Aside0.mk (blk_below (g := gb110) (o := .cells #[.int .i64 a0_0, .int .i64 a0_1, .int .i64 a0_2, .int .i64 a0_3, .int .i64 a0_4, .int .i64 a0_5, .int .i64 a0_6] 30 (0, 0)) (by (with_reducible repeat (first | refine blk_drewN ?_ _ | refine blk_drew ?_ | refine blk_alloc ?_ _)); exact BK110.out) hb); have n1_ := Aside0.mk (below_step (by repeat (first | (with_reducible first | exact HB.out | apply below_alloc | apply pw_below_drewN | apply below_drew1 | refine below_set ?_ GE110.out) | exact HB.out)) hb); clear BK110; clear HB; have BK110 := n0_; have HB := n1_; clear n0_ n1_; (try clear hb); (try clear hb2); (try clear hk); (try clear hi); have hcz108_0 : w107.cell? ⟨gb110, 0, none⟩ = some (.int .i64 a0_0) := (blk_cell BK110.out 0).trans rfl; have hcz108_1 : w107.cell? ⟨gb110, 1, none⟩ = some (.int .i64 a0_1) := (blk_cell BK110.out 1).trans rfl; have hcz108_2 : w107.cell? ⟨gb110, 2, none⟩ = some (.int .i64 a0_2) := (blk_cell BK110.out 2).trans rfl; have hcz108_3 : w107.cell? ⟨gb110, 3, none⟩ = some (.int .i64 a0_3) := (blk_cell BK110.out 3).trans rfl; have hcz108_4 : w107.cell? ⟨gb110, 4, none⟩ = some (.int .i64 a0_4) := (blk_cell BK110.out 4).trans rfl; have hcz108_5 : w107.cell? ⟨gb110, 5, none⟩ = some (.int .i64 a0_5) := (blk_cell BK110.out 5).trans rfl; have hcz108_6 : w107.cell? ⟨gb110, 6, none⟩ = some (.int .i64 a0_6) := (blk_cell BK110.out 6).trans rfl; have hfz108_0 := blk_frozen BK110.out 0; have hfz108_1 := blk_frozen BK110.out 1; have hfz108_2 := blk_frozen BK110.out 2; have hfz108_3 := blk_frozen BK110.out 3; have hfz108_4 := blk_frozen BK110.out 4; have hfz108_5 := blk_frozen BK110.out 5; have hfz108_6 := blk_frozen BK110.out 6) | (go_at_call 18; (with_reducible refine (spec_l7Zero.calls a0_3 a0_4 a0_5 t120 _ A105.out).mono ?_); rintro e w109 ⟨rfl, hb⟩; have n0_ := Aside0.mk (blk_below (g := gb110) (o := .cells #[.int .i64 a0_0, .int .i64 a0_1, .int .i64 a0_2, .int .i64 a0_3, .int .i64 a0_4, .int .i64 a0_5, .int .i64 a0_6] 30 (0, 0)) (by (with_reducible repeat (first | refine blk_drewN ?_ _ | refine blk_drew ?_ | refine blk_alloc ?_ _)); exact BK110.out) hb); have n1_ := Aside0.mk (below_step (by repeat (first | (with_reducible first | exact HB.out | apply below_alloc | apply pw_below_drewN | apply below_drew1 | refine below_set ?_ GE110.out) | exact HB.out)) hb); clear BK110; clear HB; have BK110 := n0_; have HB := n1_; clear n0_ n1_; (try clear hb); (try clear hb2); (try clear hk); (try clear hi)))
                                                go_ret
                                                exact ⟨by first | rfl | (simp [errW_none, errW_some] <;> rfl) | (simp [*, errW_none, errW_some] <;> rfl), by repeat (first | (with_reducible first | exact HB.out | apply below_alloc | apply pw_below_drewN | apply below_drew1 | refine below_set ?_ GE110.out) | exact HB.out)⟩
                                              · as_aux_lemma =>
                                                rw [if_neg c104] at H
                                                have c104b0 : (a0_6 == 1) = false := beq_eq_false_iff_ne.mpr c104
                                                have c104b1 : (a0_6 != 1) = true := bne_iff_ne.mpr c104
                                                obtain rfl := Option.some.inj H
                                                have hcz110_0 : wc.cell? ⟨gb110, 0, none⟩ = some (.int .i64 a0_0) := (blk_cell BK110.out 0).trans rfl
                                                have hcz110_1 : wc.cell? ⟨gb110, 1, none⟩ = some (.int .i64 a0_1) := (blk_cell BK110.out 1).trans rfl
                                                have hcz110_2 : wc.cell? ⟨gb110, 2, none⟩ = some (.int .i64 a0_2) := (blk_cell BK110.out 2).trans rfl
                                                have hcz110_3 : wc.cell? ⟨gb110, 3, none⟩ = some (.int .i64 a0_3) := (blk_cell BK110.out 3).trans rfl
                                                have hcz110_4 : wc.cell? ⟨gb110, 4, none⟩ = some (.int .i64 a0_4) := (blk_cell BK110.out 4).trans rfl
                                                have hcz110_5 : wc.cell? ⟨gb110, 5, none⟩ = some (.int .i64 a0_5) := (blk_cell BK110.out 5).trans rfl
                                                have hcz110_6 : wc.cell? ⟨gb110, 6, none⟩ = some (.int .i64 a0_6) := (blk_cell BK110.out 6).trans rfl
                                                have hfz110_0 := blk_frozen BK110.out 0
                                                have hfz110_1 := blk_frozen BK110.out 1
                                                have hfz110_2 := blk_frozen BK110.out 2
                                                have hfz110_3 := blk_frozen BK110.out 3
                                                have hfz110_4 := blk_frozen BK110.out 4
                                                have hfz110_5 := blk_frozen BK110.out 5
                                                have hfz110_6 := blk_frozen BK110.out 6
                                                go_wp2_with (first | (go_at_call 17; (with_reducible refine (spec_l7Now.calls a0_3 a0_4 a0_5 false _ A100.out).mono ?_); rintro e w111 ⟨rfl, hb⟩; have n0_ := Aside0.mk (blk_below (g := gb110) (o := .cells #[.int .i64 a0_0, .int .i64 a0_1, .int .i64 a0_2, .int .i64 a0_3, .int .i64 a0_4, .int .i64 a0_5, .int .i64 a0_6] 30 (0, 0)) (by (with_reducible repeat (first | refine blk_drewN ?_ _ | refine blk_drew ?_ | refine blk_alloc ?_ _)); exact BK110.out) hb); have n1_ := Aside0.mk (below_step (by repeat (first | (with_reducible first | exact HB.out | apply below_alloc | apply pw_below_drewN | apply below_drew1 | refine below_set ?_ GE110.out) | exact HB.out)) hb); clear BK110; clear HB; have BK110 := n0_; have HB := n1_; clear n0_ n1_; (try clear hb); (try clear hb2); (try clear hk); (try clear hi); have hcz112_0 : w111.cell? ⟨gb110, 0, none⟩ = some (.int .i64 a0_0) := (blk_cell BK110.out 0).trans rfl; have hcz112_1 : w111.cell? ⟨gb110, 1, none⟩ = some (.int .i64 a0_1) := (blk_cell BK110.out 1).trans rfl; have hcz112_2 : w111.cell? ⟨gb110, 2, none⟩ = some (.int .i64 a0_2) := (blk_cell BK110.out 2).trans rfl; have hcz112_3 : w111.cell? ⟨gb110, 3, none⟩ = some (.int .i64 a0_3) := (blk_cell BK110.out 3).trans rfl; have hcz112_4 : w111.cell? ⟨gb110, 4, none⟩ = some (.int .i64 a0_4) := (blk_cell BK110.out 4).trans rfl; have hcz112_5 : w111.cell? ⟨gb110, 5, none⟩ = some (.int .i64 a0_5) := (blk_cell BK110.out 5).trans rfl; have hcz112_6 : w111.cell? ⟨gb110, 6, none⟩ = some (.int .i64 a0_6) := (blk_cell BK110.out 6).trans rfl; have hfz112_0 := blk_frozen BK110.out 0; have hfz112_1 := blk_frozen BK110.out 1; have hfz112_2 := blk_frozen BK110.out 2; have hfz112_3 := blk_frozen BK110.out 3; have hfz112_4 := blk_frozen BK110.out 4; have hfz112_5 := blk_frozen BK110.out 5; have hfz112_6 := blk_frozen BK110.out 6))
                                                go_ret
                                                exact ⟨by first | rfl | (simp [errW_none, errW_some] <;> rfl) | (simp [*, errW_none, errW_some] <;> rfl), by repeat (first | (with_reducible first | exact HB.out | apply below_alloc | apply pw_below_drewN | apply below_drew1 | refine below_set ?_ GE110.out) | exact HB.out)⟩
                                          · as_aux_lemma =>
                                            rw [if_neg c99] at H
                                            have c99b0 : (a0_2 == 0) = false := beq_eq_false_iff_ne.mpr c99
                                            have c99b1 : (a0_2 != 0) = true := bne_iff_ne.mpr c99
                                            by_cases c113 : a0_6 = 1
                                            · as_aux_lemma =>
                                              rw [if_pos c113] at H
                                              have c113b0 : (a0_6 == 1) = true := beq_iff_eq.mpr c113
                                              have c113b1 : (a0_6 != 1) = false := bne_eq_false_iff_eq.mpr c113
                                              clear c113
                                              replace H := Option.bind_eq_some_iff.mp H
                                              obtain ⟨t121, A1140, H⟩ := H
                                              replace H : (some t121) = some r := H
                                              have A114 := Aside0.mk A1140
                                              clear A1140
                                              obtain rfl := Option.some.inj H
                                              have hcz115_0 : wc.cell? ⟨gb110, 0, none⟩ = some (.int .i64 a0_0) := (blk_cell BK110.out 0).trans rfl
                                              have hcz115_1 : wc.cell? ⟨gb110, 1, none⟩ = some (.int .i64 a0_1) := (blk_cell BK110.out 1).trans rfl
                                              have hcz115_2 : wc.cell? ⟨gb110, 2, none⟩ = some (.int .i64 a0_2) := (blk_cell BK110.out 2).trans rfl
                                              have hcz115_3 : wc.cell? ⟨gb110, 3, none⟩ = some (.int .i64 a0_3) := (blk_cell BK110.out 3).trans rfl
                                              have hcz115_4 : wc.cell? ⟨gb110, 4, none⟩ = some (.int .i64 a0_4) := (blk_cell BK110.out 4).trans rfl
                                              have hcz115_5 : wc.cell? ⟨gb110, 5, none⟩ = some (.int .i64 a0_5) := (blk_cell BK110.out 5).trans rfl
                                              have hcz115_6 : wc.cell? ⟨gb110, 6, none⟩ = some (.int .i64 a0_6) := (blk_cell BK110.out 6).trans rfl
                                              have hfz115_0 := blk_frozen BK110.out 0
                                              have hfz115_1 := blk_frozen BK110.out 1
                                              have hfz115_2 := blk_frozen BK110.out 2
                                              have hfz115_3 := blk_frozen BK110.out 3
                                              have hfz115_4 := blk_frozen BK110.out 4
                                              have hfz115_5 := blk_frozen BK110.out 5
                                              have hfz115_6 := blk_frozen BK110.out 6
                                              go_wp2_with (first | (go_at_call 18; (with_reducible refine (spec_l7Zero.calls a0_3 a0_4 a0_5 t121 _ A114.out).mono ?_); rintro e w116 ⟨rfl, hb⟩; have n0_ := Aside0.mk (blk_below (g := gb110) (o := .cells #[.int .i64 a0_0, .int .i64 a0_1, .int .i64 a0_2, .int .i64 a0_3, .int .i64 a0_4, .int .i64 a0_5, .int .i64 a0_6] 30 (0, 0)) (by (with_reducible repeat (first | refine blk_drewN ?_ _ | refine blk_drew ?_ | refine blk_alloc ?_ _)); exact BK110.out) hb); have n1_ := Aside0.mk (below_step (by repeat (first | (with_reducible first | exact HB.out | apply below_alloc | apply pw_below_drewN | apply below_drew1 | refine below_set ?_ GE110.out) | exact HB.out)) hb); clear BK110; clear HB; have BK110 := n0_; have HB := n1_; clear n0_ n1_; (try clear hb); (try clear hb2); (try clear hk); (try clear hi)))
                                              go_ret
                                              exact ⟨by first | rfl | (simp [errW_none, errW_some] <;> rfl) | (simp [*, errW_none, errW_some] <;> rfl), by repeat (first | (with_reducible first | exact HB.out | apply below_alloc | apply pw_below_drewN | apply below_drew1 | refine below_set ?_ GE110.out) | exact HB.out)⟩
                                            · as_aux_lemma =>
                                              rw [if_neg c113] at H
                                              have c113b0 : (a0_6 == 1) = false := beq_eq_false_iff_ne.mpr c113
                                              have c113b1 : (a0_6 != 1) = true := bne_iff_ne.mpr c113
                                              obtain rfl := Option.some.inj H
                                              have hcz117_0 : wc.cell? ⟨gb110, 0, none⟩ = some (.int .i64 a0_0) := (blk_cell BK110.out 0).trans rfl
                                              have hcz117_1 : wc.cell? ⟨gb110, 1, none⟩ = some (.int .i64 a0_1) := (blk_cell BK110.out 1).trans rfl
                                              have hcz117_2 : wc.cell? ⟨gb110, 2, none⟩ = some (.int .i64 a0_2) := (blk_cell BK110.out 2).trans rfl
                                              have hcz117_3 : wc.cell? ⟨gb110, 3, none⟩ = some (.int .i64 a0_3) := (blk_cell BK110.out 3).trans rfl
                                              have hcz117_4 : wc.cell? ⟨gb110, 4, none⟩ = some (.int .i64 a0_4) := (blk_cell BK110.out 4).trans rfl
                                              have hcz117_5 : wc.cell? ⟨gb110, 5, none⟩ = some (.int .i64 a0_5) := (blk_cell BK110.out 5).trans rfl
                                              have hcz117_6 : wc.cell? ⟨gb110, 6, none⟩ = some (.int .i64 a0_6) := (blk_cell BK110.out 6).trans rfl
                                              have hfz117_0 := blk_frozen BK110.out 0
                                              have hfz117_1 := blk_frozen BK110.out 1
                                              have hfz117_2 := blk_frozen BK110.out 2
                                              have hfz117_3 := blk_frozen BK110.out 3
                                              have hfz117_4 := blk_frozen BK110.out 4
                                              have hfz117_5 := blk_frozen BK110.out 5
                                              have hfz117_6 := blk_frozen BK110.out 6
                                              go_wp2
                                              go_ret
                                              exact ⟨by first | rfl | (simp [errW_none, errW_some] <;> rfl) | (simp [*, errW_none, errW_some] <;> rfl), by repeat (first | (with_reducible first | exact HB.out | apply below_alloc | apply pw_below_drewN | apply below_drew1 | refine below_set ?_ GE110.out) | exact HB.out)⟩
                                        · as_aux_lemma =>
                                          rw [if_neg c98] at H
                                          have c98b0 : (a0_6 == 0) = false := beq_eq_false_iff_ne.mpr c98
                                          have c98b1 : (a0_6 != 0) = true := bne_iff_ne.mpr c98
                                          by_cases c118 : a0_6 = 1
                                          · as_aux_lemma =>
                                            rw [if_pos c118] at H
                                            have c118b0 : (a0_6 == 1) = true := beq_iff_eq.mpr c118
                                            have c118b1 : (a0_6 != 1) = false := bne_eq_false_iff_eq.mpr c118
                                            clear c118
                                            replace H := Option.bind_eq_some_iff.mp H
                                            obtain ⟨t122, A1190, H⟩ := H
                                            replace H : (some t122) = some r := H
                                            have A119 := Aside0.mk A1190
                                            clear A1190
                                            obtain rfl := Option.some.inj H
                                            have hcz120_0 : wc.cell? ⟨gb110, 0, none⟩ = some (.int .i64 a0_0) := (blk_cell BK110.out 0).trans rfl
                                            have hcz120_1 : wc.cell? ⟨gb110, 1, none⟩ = some (.int .i64 a0_1) := (blk_cell BK110.out 1).trans rfl
                                            have hcz120_2 : wc.cell? ⟨gb110, 2, none⟩ = some (.int .i64 a0_2) := (blk_cell BK110.out 2).trans rfl
                                            have hcz120_3 : wc.cell? ⟨gb110, 3, none⟩ = some (.int .i64 a0_3) := (blk_cell BK110.out 3).trans rfl
                                            have hcz120_4 : wc.cell? ⟨gb110, 4, none⟩ = some (.int .i64 a0_4) := (blk_cell BK110.out 4).trans rfl
                                            have hcz120_5 : wc.cell? ⟨gb110, 5, none⟩ = some (.int .i64 a0_5) := (blk_cell BK110.out 5).trans rfl
                                            have hcz120_6 : wc.cell? ⟨gb110, 6, none⟩ = some (.int .i64 a0_6) := (blk_cell BK110.out 6).trans rfl
                                            have hfz120_0 := blk_frozen BK110.out 0
                                            have hfz120_1 := blk_frozen BK110.out 1
                                            have hfz120_2 := blk_frozen BK110.out 2
                                            have hfz120_3 := blk_frozen BK110.out 3
                                            have hfz120_4 := blk_frozen BK110.out 4
                                            have hfz120_5 := blk_frozen BK110.out 5
                                            have hfz120_6 := blk_frozen BK110.out 6
                                            go_wp2_with (first | (go_at_call 18; (with_reducible refine (spec_l7Zero.calls a0_3 a0_4 a0_5 t122 _ A119.out).mono ?_); rintro e w121 ⟨rfl, hb⟩; have n0_ := Aside0.mk (blk_below (g := gb110) (o := .cells #[.int .i64 a0_0, .int .i64 a0_1, .int .i64 a0_2, .int .i64 a0_3, .int .i64 a0_4, .int .i64 a0_5, .int .i64 a0_6] 30 (0, 0)) (by (with_reducible repeat (first | refine blk_drewN ?_ _ | refine blk_drew ?_ | refine blk_alloc ?_ _)); exact BK110.out) hb); have n1_ := Aside0.mk (below_step (by repeat (first | (with_reducible first | exact HB.out | apply below_alloc | apply pw_below_drewN | apply below_drew1 | refine below_set ?_ GE110.out) | exact HB.out)) hb); clear BK110; clear HB; have BK110 := n0_; have HB := n1_; clear n0_ n1_; (try clear hb); (try clear hb2); (try clear hk); (try clear hi)))
                                            go_ret
                                            exact ⟨by first | rfl | (simp [errW_none, errW_some] <;> rfl) | (simp [*, errW_none, errW_some] <;> rfl), by repeat (first | (with_reducible first | exact HB.out | apply below_alloc | apply pw_below_drewN | apply below_drew1 | refine below_set ?_ GE110.out) | exact HB.out)⟩
                                          · as_aux_lemma =>
                                            rw [if_neg c118] at H
                                            have c118b0 : (a0_6 == 1) = false := beq_eq_false_iff_ne.mpr c118
                                            have c118b1 : (a0_6 != 1) = true := bne_iff_ne.mpr c118
                                            obtain rfl := Option.some.inj H
                                            have hcz122_0 : wc.cell? ⟨gb110, 0, none⟩ = some (.int .i64 a0_0) := (blk_cell BK110.out 0).trans rfl
                                            have hcz122_1 : wc.cell? ⟨gb110, 1, none⟩ = some (.int .i64 a0_1) := (blk_cell BK110.out 1).trans rfl
                                            have hcz122_2 : wc.cell? ⟨gb110, 2, none⟩ = some (.int .i64 a0_2) := (blk_cell BK110.out 2).trans rfl
                                            have hcz122_3 : wc.cell? ⟨gb110, 3, none⟩ = some (.int .i64 a0_3) := (blk_cell BK110.out 3).trans rfl
                                            have hcz122_4 : wc.cell? ⟨gb110, 4, none⟩ = some (.int .i64 a0_4) := (blk_cell BK110.out 4).trans rfl
                                            have hcz122_5 : wc.cell? ⟨gb110, 5, none⟩ = some (.int .i64 a0_5) := (blk_cell BK110.out 5).trans rfl
                                            have hcz122_6 : wc.cell? ⟨gb110, 6, none⟩ = some (.int .i64 a0_6) := (blk_cell BK110.out 6).trans rfl
                                            have hfz122_0 := blk_frozen BK110.out 0
                                            have hfz122_1 := blk_frozen BK110.out 1
                                            have hfz122_2 := blk_frozen BK110.out 2
                                            have hfz122_3 := blk_frozen BK110.out 3
                                            have hfz122_4 := blk_frozen BK110.out 4
                                            have hfz122_5 := blk_frozen BK110.out 5
                                            have hfz122_6 := blk_frozen BK110.out 6
                                            go_wp2
                                            go_ret
                                            exact ⟨by first | rfl | (simp [errW_none, errW_some] <;> rfl) | (simp [*, errW_none, errW_some] <;> rfl), by repeat (first | (with_reducible first | exact HB.out | apply below_alloc | apply pw_below_drewN | apply below_drew1 | refine below_set ?_ GE110.out) | exact HB.out)⟩
                                      · as_aux_lemma =>
                                        rw [if_neg c97] at H
                                        have c97b0 : (a0_1 == 2) = false := by simpa using c97
                                        (try (have c97b1 : decide (a0_1 = 2) = false := by simpa using c97))
                                        (try (have c97b2 : (a0_1 == 2) = false := by simpa using c97))
                                        (try (have c97b3 : ¬ (a0_1 = 2) := by simpa using c97))
                                        clear c97
                                        obtain rfl := Option.some.inj H
                                        go_wp2
                                        go_ret
                                        exact ⟨by first | rfl | (simp [errW_none, errW_some] <;> rfl) | (simp [*, errW_none, errW_some] <;> rfl), by repeat (first | (with_reducible first | exact HB.out | apply below_alloc | apply pw_below_drewN | apply below_drew1 | refine below_set ?_ GE110.out) | exact HB.out)⟩
                                    · as_aux_lemma =>
                                      rw [if_neg c96] at H
                                      have c96b0 : (a0_0 == 19) = false := beq_eq_false_iff_ne.mpr c96
                                      have c96b1 : (a0_0 != 19) = true := bne_iff_ne.mpr c96
                                      by_cases c123 : a0_0 = 15
                                      · as_aux_lemma =>
                                        rw [if_pos c123] at H
                                        have c123b0 : (a0_0 == 15) = true := beq_iff_eq.mpr c123
                                        have c123b1 : (a0_0 != 15) = false := bne_eq_false_iff_eq.mpr c123
                                        clear c123
                                        by_cases c124 : a0_6 = 3
                                        · as_aux_lemma =>
                                          rw [if_pos c124] at H
                                          have c124b0 : (a0_6 == 3) = true := beq_iff_eq.mpr c124
                                          have c124b1 : (a0_6 != 3) = false := bne_eq_false_iff_eq.mpr c124
                                          clear c124
                                          by_cases c125 : (a0_1 == 2) = true
                                          · as_aux_lemma =>
                                            rw [if_pos c125] at H
                                            have c125b0 : (a0_1 == 2) = true := c125
                                            (try (have c125b1 : decide (a0_1 = 2) = true := by simpa using c125))
                                            (try (have c125b2 : (a0_1 == 2) = true := by simpa using c125))
                                            clear c125
                                            by_cases c126 : a0_2 = 0
                                            · as_aux_lemma =>
                                              rw [if_pos c126] at H
                                              have c126b0 : (a0_2 == 0) = true := beq_iff_eq.mpr c126
                                              have c126b1 : (a0_2 != 0) = false := bne_eq_false_iff_eq.mpr c126
                                              clear c126
                                              replace H := Option.bind_eq_some_iff.mp H
                                              obtain ⟨t123, A1270, H⟩ := H
                                              replace H : (some t123) = some r := H
                                              have A127 := Aside0.mk A1270
                                              clear A1270
                                              obtain rfl := Option.some.inj H
                                              have hcz128_0 : wc.cell? ⟨gb110, 0, none⟩ = some (.int .i64 a0_0) := (blk_cell BK110.out 0).trans rfl
                                              have hcz128_1 : wc.cell? ⟨gb110, 1, none⟩ = some (.int .i64 a0_1) := (blk_cell BK110.out 1).trans rfl
                                              have hcz128_2 : wc.cell? ⟨gb110, 2, none⟩ = some (.int .i64 a0_2) := (blk_cell BK110.out 2).trans rfl
                                              have hcz128_3 : wc.cell? ⟨gb110, 3, none⟩ = some (.int .i64 a0_3) := (blk_cell BK110.out 3).trans rfl
                                              have hcz128_4 : wc.cell? ⟨gb110, 4, none⟩ = some (.int .i64 a0_4) := (blk_cell BK110.out 4).trans rfl
                                              have hcz128_5 : wc.cell? ⟨gb110, 5, none⟩ = some (.int .i64 a0_5) := (blk_cell BK110.out 5).trans rfl
                                              have hcz128_6 : wc.cell? ⟨gb110, 6, none⟩ = some (.int .i64 a0_6) := (blk_cell BK110.out 6).trans rfl
                                              have hfz128_0 := blk_frozen BK110.out 0
                                              have hfz128_1 := blk_frozen BK110.out 1
                                              have hfz128_2 := blk_frozen BK110.out 2
                                              have hfz128_3 := blk_frozen BK110.out 3
                                              have hfz128_4 := blk_frozen BK110.out 4
                                              have hfz128_5 := blk_frozen BK110.out 5
                                              have hfz128_6 := blk_frozen BK110.out 6
                                              go_wp2_with (first | (go_at_call 17; (with_reducible refine (spec_l7Now.calls a0_3 a0_4 a0_5 t123 _ A127.out).mono ?_); rintro e w129 ⟨rfl, hb⟩; have n0_ := Aside0.mk (blk_below (g := gb110) (o := .cells #[.int .i64 a0_0, .int .i64 a0_1, .int .i64 a0_2, .int .i64 a0_3, .int .i64 a0_4, .int .i64 a0_5, .int .i64 a0_6] 30 (0, 0)) (by (with_reducible repeat (first | refine blk_drewN ?_ _ | refine blk_drew ?_ | refine blk_alloc ?_ _)); exact BK110.out) hb); have n1_ := Aside0.mk (below_step (by repeat (first | (with_reducible first | exact HB.out | apply below_alloc | apply pw_below_drewN | apply below_drew1 | refine below_set ?_ GE110.out) | exact HB.out)) hb); clear BK110; clear HB; have BK110 := n0_; have HB := n1_; clear n0_ n1_; (try clear hb); (try clear hb2); (try clear hk); (try clear hi)))
                                              go_ret
                                              exact ⟨by first | rfl | (simp [errW_none, errW_some] <;> rfl) | (simp [*, errW_none, errW_some] <;> rfl), by repeat (first | (with_reducible first | exact HB.out | apply below_alloc | apply pw_below_drewN | apply below_drew1 | refine below_set ?_ GE110.out) | exact HB.out)⟩
                                            · as_aux_lemma =>
                                              rw [if_neg c126] at H
                                              have c126b0 : (a0_2 == 0) = false := beq_eq_false_iff_ne.mpr c126
                                              have c126b1 : (a0_2 != 0) = true := bne_iff_ne.mpr c126
                                              obtain rfl := Option.some.inj H
                                              have hcz130_0 : wc.cell? ⟨gb110, 0, none⟩ = some (.int .i64 a0_0) := (blk_cell BK110.out 0).trans rfl
                                              have hcz130_1 : wc.cell? ⟨gb110, 1, none⟩ = some (.int .i64 a0_1) := (blk_cell BK110.out 1).trans rfl
                                              have hcz130_2 : wc.cell? ⟨gb110, 2, none⟩ = some (.int .i64 a0_2) := (blk_cell BK110.out 2).trans rfl
                                              have hcz130_3 : wc.cell? ⟨gb110, 3, none⟩ = some (.int .i64 a0_3) := (blk_cell BK110.out 3).trans rfl
                                              have hcz130_4 : wc.cell? ⟨gb110, 4, none⟩ = some (.int .i64 a0_4) := (blk_cell BK110.out 4).trans rfl
                                              have hcz130_5 : wc.cell? ⟨gb110, 5, none⟩ = some (.int .i64 a0_5) := (blk_cell BK110.out 5).trans rfl
                                              have hcz130_6 : wc.cell? ⟨gb110, 6, none⟩ = some (.int .i64 a0_6) := (blk_cell BK110.out 6).trans rfl
                                              have hfz130_0 := blk_frozen BK110.out 0
                                              have hfz130_1 := blk_frozen BK110.out 1
                                              have hfz130_2 := blk_frozen BK110.out 2
                                              have hfz130_3 := blk_frozen BK110.out 3
                                              have hfz130_4 := blk_frozen BK110.out 4
                                              have hfz130_5 := blk_frozen BK110.out 5
                                              have hfz130_6 := blk_frozen BK110.out 6
                                              go_wp2
                                              go_ret
                                              exact ⟨by first | rfl | (simp [errW_none, errW_some] <;> rfl) | (simp [*, errW_none, errW_some] <;> rfl), by repeat (first | (with_reducible first | exact HB.out | apply below_alloc | apply pw_below_drewN | apply below_drew1 | refine below_set ?_ GE110.out) | exact HB.out)⟩
                                          · as_aux_lemma =>
                                            rw [if_neg c125] at H
                                            have c125b0 : (a0_1 == 2) = false := by simpa using c125
                                            (try (have c125b1 : decide (a0_1 = 2) = false := by simpa using c125))
                                            (try (have c125b2 : (a0_1 == 2) = false := by simpa using c125))
                                            (try (have c125b3 : ¬ (a0_1 = 2) := by simpa using c125))
                                            clear c125
                                            obtain rfl := Option.some.inj H
                                            have hcz131_0 : wc.cell? ⟨gb110, 0, none⟩ = some (.int .i64 a0_0) := (blk_cell BK110.out 0).trans rfl
                                            have hcz131_1 : wc.cell? ⟨gb110, 1, none⟩ = some (.int .i64 a0_1) := (blk_cell BK110.out 1).trans rfl
                                            have hcz131_2 : wc.cell? ⟨gb110, 2, none⟩ = some (.int .i64 a0_2) := (blk_cell BK110.out 2).trans rfl
                                            have hcz131_3 : wc.cell? ⟨gb110, 3, none⟩ = some (.int .i64 a0_3) := (blk_cell BK110.out 3).trans rfl
                                            have hcz131_4 : wc.cell? ⟨gb110, 4, none⟩ = some (.int .i64 a0_4) := (blk_cell BK110.out 4).trans rfl
                                            have hcz131_5 : wc.cell? ⟨gb110, 5, none⟩ = some (.int .i64 a0_5) := (blk_cell BK110.out 5).trans rfl
                                            have hcz131_6 : wc.cell? ⟨gb110, 6, none⟩ = some (.int .i64 a0_6) := (blk_cell BK110.out 6).trans rfl
                                            have hfz131_0 := blk_frozen BK110.out 0
                                            have hfz131_1 := blk_frozen BK110.out 1
                                            have hfz131_2 := blk_frozen BK110.out 2
                                            have hfz131_3 := blk_frozen BK110.out 3
                                            have hfz131_4 := blk_frozen BK110.out 4
                                            have hfz131_5 := blk_frozen BK110.out 5
                                            have hfz131_6 := blk_frozen BK110.out 6
                                            go_wp2
                                            go_ret
                                            exact ⟨by first | rfl | (simp [errW_none, errW_some] <;> rfl) | (simp [*, errW_none, errW_some] <;> rfl), by repeat (first | (with_reducible first | exact HB.out | apply below_alloc | apply pw_below_drewN | apply below_drew1 | refine below_set ?_ GE110.out) | exact HB.out)⟩
                                        · as_aux_lemma =>
                                          rw [if_neg c124] at H
                                          have c124b0 : (a0_6 == 3) = false := beq_eq_false_iff_ne.mpr c124
                                          have c124b1 : (a0_6 != 3) = true := bne_iff_ne.mpr c124
                                          by_cases c132 : (a0_1 == 2) = true
                                          · as_aux_lemma =>
                                            rw [if_pos c132] at H
                                            have c132b0 : (a0_1 == 2) = true := c132
                                            (try (have c132b1 : decide (a0_1 = 2) = true := by simpa using c132))
                                            (try (have c132b2 : (a0_1 == 2) = true := by simpa using c132))
                                            clear c132
                                            by_cases c133 : a0_6 ≤ 6
                                            · as_aux_lemma =>
                                              rw [if_pos c133] at H
                                              have c133b0 : decide (a0_6 ≤ 6) = true := decide_eq_true c133
                                              clear c133
                                              replace H := Option.bind_eq_some_iff.mp H
                                              obtain ⟨t124, A1340, H⟩ := H
                                              replace H : (if t124 = true then (if a0_6 > 3 then (some true) else (some (a0_2 == 0))) else (some false)) = some r := H
                                              have A134 := Aside0.mk A1340
                                              clear A1340
                                              by_cases c135 : t124 = true
                                              · as_aux_lemma =>
                                                subst c135
                                                have H1 : (if a0_6 > 3 then (some true) else (some (a0_2 == 0))) = some r := by rw [if_pos rfl] at H; exact H
                                                clear H
                                                have H := H1
                                                clear H1
                                                by_cases c136 : a0_6 > 3
                                                · as_aux_lemma =>
                                                  rw [if_pos c136] at H
                                                  have c136b0 : decide (3 < a0_6) = true := decide_eq_true c136
                                                  clear c136
                                                  obtain rfl := Option.some.inj H
                                                  have hcz137_0 : wc.cell? ⟨gb110, 0, none⟩ = some (.int .i64 a0_0) := (blk_cell BK110.out 0).trans rfl
                                                  have hcz137_1 : wc.cell? ⟨gb110, 1, none⟩ = some (.int .i64 a0_1) := (blk_cell BK110.out 1).trans rfl
                                                  have hcz137_2 : wc.cell? ⟨gb110, 2, none⟩ = some (.int .i64 a0_2) := (blk_cell BK110.out 2).trans rfl
                                                  have hcz137_3 : wc.cell? ⟨gb110, 3, none⟩ = some (.int .i64 a0_3) := (blk_cell BK110.out 3).trans rfl
                                                  have hcz137_4 : wc.cell? ⟨gb110, 4, none⟩ = some (.int .i64 a0_4) := (blk_cell BK110.out 4).trans rfl
                                                  have hcz137_5 : wc.cell? ⟨gb110, 5, none⟩ = some (.int .i64 a0_5) := (blk_cell BK110.out 5).trans rfl
                                                  have hcz137_6 : wc.cell? ⟨gb110, 6, none⟩ = some (.int .i64 a0_6) := (blk_cell BK110.out 6).trans rfl
                                                  have hfz137_0 := blk_frozen BK110.out 0
                                                  have hfz137_1 := blk_frozen BK110.out 1
                                                  have hfz137_2 := blk_frozen BK110.out 2
                                                  have hfz137_3 := blk_frozen BK110.out 3
                                                  have hfz137_4 := blk_frozen BK110.out 4
                                                  have hfz137_5 := blk_frozen BK110.out 5
                                                  have hfz137_6 := blk_frozen BK110.out 6
                                                  go_wp2_with (first | (go_at_call 18; (with_reducible refine (spec_l7Zero.calls a0_3 a0_4 a0_5 true _ A134.out).mono ?_); rintro e w138 ⟨rfl, hb⟩; have n0_ := Aside0.mk (blk_below (g := gb110) (o := .cells #[.int .i64 a0_0, .int .i64 a0_1, .int .i64 a0_2, .int .i64 a0_3, .int .i64 a0_4, .int .i64 a0_5, .int .i64 a0_6] 30 (0, 0)) (by (with_reducible repeat (first | refine blk_drewN ?_ _ | refine blk_drew ?_ | refine blk_alloc ?_ _)); exact BK110.out) hb); have n1_ := Aside0.mk (below_step (by repeat (first | (with_reducible first | exact HB.out | apply below_alloc | apply pw_below_drewN | apply below_drew1 | refine below_set ?_ GE110.out) | exact HB.out)) hb); clear BK110; clear HB; have BK110 := n0_; have HB := n1_; clear n0_ n1_; (try clear hb); (try clear hb2); (try clear hk); (try clear hi); have hcz139_0 : w138.cell? ⟨gb110, 0, none⟩ = some (.int .i64 a0_0) := (blk_cell BK110.out 0).trans rfl; have hcz139_1 : w138.cell? ⟨gb110, 1, none⟩ = some (.int .i64 a0_1) := (blk_cell BK110.out 1).trans rfl; have hcz139_2 : w138.cell? ⟨gb110, 2, none⟩ = some (.int .i64 a0_2) := (blk_cell BK110.out 2).trans rfl; have hcz139_3 : w138.cell? ⟨gb110, 3, none⟩ = some (.int .i64 a0_3) := (blk_cell BK110.out 3).trans rfl; have hcz139_4 : w138.cell? ⟨gb110, 4, none⟩ = some (.int .i64 a0_4) := (blk_cell BK110.out 4).trans rfl; have hcz139_5 : w138.cell? ⟨gb110, 5, none⟩ = some (.int .i64 a0_5) := (blk_cell BK110.out 5).trans rfl; have hcz139_6 : w138.cell? ⟨gb110, 6, none⟩ = some (.int .i64 a0_6) := (blk_cell BK110.out 6).trans rfl; have hfz139_0 := blk_frozen BK110.out 0; have hfz139_1 := blk_frozen BK110.out 1; have hfz139_2 := blk_frozen BK110.out 2; have hfz139_3 := blk_frozen BK110.out 3; have hfz139_4 := blk_frozen BK110.out 4; have hfz139_5 := blk_frozen BK110.out 5; have hfz139_6 := blk_frozen BK110.out 6))
                                                  go_ret
                                                  exact ⟨by first | rfl | (simp [errW_none, errW_some] <;> rfl) | (simp [*, errW_none, errW_some] <;> rfl), by repeat (first | (with_reducible first | exact HB.out | apply below_alloc | apply pw_below_drewN | apply below_drew1 | refine below_set ?_ GE110.out) | exact HB.out)⟩
                                                · as_aux_lemma =>
                                                  rw [if_neg c136] at H
                                                  have c136b0 : decide (3 < a0_6) = false := decide_eq_false c136
                                                  clear c136
                                                  obtain rfl := Option.some.inj H
                                                  have hcz140_0 : wc.cell? ⟨gb110, 0, none⟩ = some (.int .i64 a0_0) := (blk_cell BK110.out 0).trans rfl
                                                  have hcz140_1 : wc.cell? ⟨gb110, 1, none⟩ = some (.int .i64 a0_1) := (blk_cell BK110.out 1).trans rfl
                                                  have hcz140_2 : wc.cell? ⟨gb110, 2, none⟩ = some (.int .i64 a0_2) := (blk_cell BK110.out 2).trans rfl
                                                  have hcz140_3 : wc.cell? ⟨gb110, 3, none⟩ = some (.int .i64 a0_3) := (blk_cell BK110.out 3).trans rfl
                                                  have hcz140_4 : wc.cell? ⟨gb110, 4, none⟩ = some (.int .i64 a0_4) := (blk_cell BK110.out 4).trans rfl
                                                  have hcz140_5 : wc.cell? ⟨gb110, 5, none⟩ = some (.int .i64 a0_5) := (blk_cell BK110.out 5).trans rfl
                                                  have hcz140_6 : wc.cell? ⟨gb110, 6, none⟩ = some (.int .i64 a0_6) := (blk_cell BK110.out 6).trans rfl
                                                  have hfz140_0 := blk_frozen BK110.out 0
                                                  have hfz140_1 := blk_frozen BK110.out 1
                                                  have hfz140_2 := blk_frozen BK110.out 2
                                                  have hfz140_3 := blk_frozen BK110.out 3
                                                  have hfz140_4 := blk_frozen BK110.out 4
                                                  have hfz140_5 := blk_frozen BK110.out 5
                                                  have hfz140_6 := blk_frozen BK110.out 6
                                                  go_wp2_with (first | (go_at_call 18; (with_reducible refine (spec_l7Zero.calls a0_3 a0_4 a0_5 true _ A134.out).mono ?_); rintro e w141 ⟨rfl, hb⟩; have n0_ := Aside0.mk (blk_below (g := gb110) (o := .cells #[.int .i64 a0_0, .int .i64 a0_1, .int .i64 a0_2, .int .i64 a0_3, .int .i64 a0_4, .int .i64 a0_5, .int .i64 a0_6] 30 (0, 0)) (by (with_reducible repeat (first | refine blk_drewN ?_ _ | refine blk_drew ?_ | refine blk_alloc ?_ _)); exact BK110.out) hb); have n1_ := Aside0.mk (below_step (by repeat (first | (with_reducible first | exact HB.out | apply below_alloc | apply pw_below_drewN | apply below_drew1 | refine below_set ?_ GE110.out) | exact HB.out)) hb); clear BK110; clear HB; have BK110 := n0_; have HB := n1_; clear n0_ n1_; (try clear hb); (try clear hb2); (try clear hk); (try clear hi); have hcz142_0 : w141.cell? ⟨gb110, 0, none⟩ = some (.int .i64 a0_0) := (blk_cell BK110.out 0).trans rfl; have hcz142_1 : w141.cell? ⟨gb110, 1, none⟩ = some (.int .i64 a0_1) := (blk_cell BK110.out 1).trans rfl; have hcz142_2 : w141.cell? ⟨gb110, 2, none⟩ = some (.int .i64 a0_2) := (blk_cell BK110.out 2).trans rfl; have hcz142_3 : w141.cell? ⟨gb110, 3, none⟩ = some (.int .i64 a0_3) := (blk_cell BK110.out 3).trans rfl; have hcz142_4 : w141.cell? ⟨gb110, 4, none⟩ = some (.int .i64 a0_4) := (blk_cell BK110.out 4).trans rfl; have hcz142_5 : w141.cell? ⟨gb110, 5, none⟩ = some (.int .i64 a0_5) := (blk_cell BK110.out 5).trans rfl; have hcz142_6 : w141.cell? ⟨gb110, 6, none⟩ = some (.int .i64 a0_6) := (blk_cell BK110.out 6).trans rfl; have hfz142_0 := blk_frozen BK110.out 0; have hfz142_1 := blk_frozen BK110.out 1; have hfz142_2 := blk_frozen BK110.out 2; have hfz142_3 := blk_frozen BK110.out 3; have hfz142_4 := blk_frozen BK110.out 4; have hfz142_5 := blk_frozen BK110.out 5; have hfz142_6 := blk_frozen BK110.out 6))
                                                  go_ret
                                                  exact ⟨by first | rfl | (simp [errW_none, errW_some] <;> rfl) | (simp [*, errW_none, errW_some] <;> rfl), by repeat (first | (with_reducible first | exact HB.out | apply below_alloc | apply pw_below_drewN | apply below_drew1 | refine below_set ?_ GE110.out) | exact HB.out)⟩
                                              · as_aux_lemma =>
                                                replace c135 := Bool.eq_false_iff.mpr c135
                                                subst c135
                                                have H1 : (some false) = some r := by rw [if_neg (show ¬ (false = true) by decide)] at H; exact H
                                                clear H
                                                have H := H1
                                                clear H1
                                                obtain rfl := Option.some.inj H
                                                have hcz143_0 : wc.cell? ⟨gb110, 0, none⟩ = some (.int .i64 a0_0) := (blk_cell BK110.out 0).trans rfl
                                                have hcz143_1 : wc.cell? ⟨gb110, 1, none⟩ = some (.int .i64 a0_1) := (blk_cell BK110.out 1).trans rfl
                                                have hcz143_2 : wc.cell? ⟨gb110, 2, none⟩ = some (.int .i64 a0_2) := (blk_cell BK110.out 2).trans rfl
                                                have hcz143_3 : wc.cell? ⟨gb110, 3, none⟩ = some (.int .i64 a0_3) := (blk_cell BK110.out 3).trans rfl
                                                have hcz143_4 : wc.cell? ⟨gb110, 4, none⟩ = some (.int .i64 a0_4) := (blk_cell BK110.out 4).trans rfl
                                                have hcz143_5 : wc.cell? ⟨gb110, 5, none⟩ = some (.int .i64 a0_5) := (blk_cell BK110.out 5).trans rfl
                                                have hcz143_6 : wc.cell? ⟨gb110, 6, none⟩ = some (.int .i64 a0_6) := (blk_cell BK110.out 6).trans rfl
                                                have hfz143_0 := blk_frozen BK110.out 0
                                                have hfz143_1 := blk_frozen BK110.out 1
                                                have hfz143_2 := blk_frozen BK110.out 2
                                                have hfz143_3 := blk_frozen BK110.out 3
                                                have hfz143_4 := blk_frozen BK110.out 4
                                                have hfz143_5 := blk_frozen BK110.out 5
                                                have hfz143_6 := blk_frozen BK110.out 6
                                                go_wp2_with (first | (go_at_call 18; (with_reducible refine (spec_l7Zero.calls a0_3 a0_4 a0_5 false _ A134.out).mono ?_); rintro e w144 ⟨rfl, hb⟩; have n0_ := Aside0.mk (blk_below (g := gb110) (o := .cells #[.int .i64 a0_0, .int .i64 a0_1, .int .i64 a0_2, .int .i64 a0_3, .int .i64 a0_4, .int .i64 a0_5, .int .i64 a0_6] 30 (0, 0)) (by (with_reducible repeat (first | refine blk_drewN ?_ _ | refine blk_drew ?_ | refine blk_alloc ?_ _)); exact BK110.out) hb); have n1_ := Aside0.mk (below_step (by repeat (first | (with_reducible first | exact HB.out | apply below_alloc | apply pw_below_drewN | apply below_drew1 | refine below_set ?_ GE110.out) | exact HB.out)) hb); clear BK110; clear HB; have BK110 := n0_; have HB := n1_; clear n0_ n1_; (try clear hb); (try clear hb2); (try clear hk); (try clear hi)))
                                                go_ret
                                                exact ⟨by first | rfl | (simp [errW_none, errW_some] <;> rfl) | (simp [*, errW_none, errW_some] <;> rfl), by repeat (first | (with_reducible first | exact HB.out | apply below_alloc | apply pw_below_drewN | apply below_drew1 | refine below_set ?_ GE110.out) | exact HB.out)⟩
                                            · as_aux_lemma =>
                                              rw [if_neg c133] at H
                                              have c133b0 : decide (a0_6 ≤ 6) = false := decide_eq_false c133
                                              clear c133
                                              obtain rfl := Option.some.inj H
                                              have hcz145_0 : wc.cell? ⟨gb110, 0, none⟩ = some (.int .i64 a0_0) := (blk_cell BK110.out 0).trans rfl
                                              have hcz145_1 : wc.cell? ⟨gb110, 1, none⟩ = some (.int .i64 a0_1) := (blk_cell BK110.out 1).trans rfl
                                              have hcz145_2 : wc.cell? ⟨gb110, 2, none⟩ = some (.int .i64 a0_2) := (blk_cell BK110.out 2).trans rfl
                                              have hcz145_3 : wc.cell? ⟨gb110, 3, none⟩ = some (.int .i64 a0_3) := (blk_cell BK110.out 3).trans rfl
                                              have hcz145_4 : wc.cell? ⟨gb110, 4, none⟩ = some (.int .i64 a0_4) := (blk_cell BK110.out 4).trans rfl
                                              have hcz145_5 : wc.cell? ⟨gb110, 5, none⟩ = some (.int .i64 a0_5) := (blk_cell BK110.out 5).trans rfl
                                              have hcz145_6 : wc.cell? ⟨gb110, 6, none⟩ = some (.int .i64 a0_6) := (blk_cell BK110.out 6).trans rfl
                                              have hfz145_0 := blk_frozen BK110.out 0
                                              have hfz145_1 := blk_frozen BK110.out 1
                                              have hfz145_2 := blk_frozen BK110.out 2
                                              have hfz145_3 := blk_frozen BK110.out 3
                                              have hfz145_4 := blk_frozen BK110.out 4
                                              have hfz145_5 := blk_frozen BK110.out 5
                                              have hfz145_6 := blk_frozen BK110.out 6
                                              go_wp2
                                              go_ret
                                              exact ⟨by first | rfl | (simp [errW_none, errW_some] <;> rfl) | (simp [*, errW_none, errW_some] <;> rfl), by repeat (first | (with_reducible first | exact HB.out | apply below_alloc | apply pw_below_drewN | apply below_drew1 | refine below_set ?_ GE110.out) | exact HB.out)⟩
                                          · as_aux_lemma =>
                                            rw [if_neg c132] at H
                                            have c132b0 : (a0_1 == 2) = false := by simpa using c132
                                            (try (have c132b1 : decide (a0_1 = 2) = false := by simpa using c132))
                                            (try (have c132b2 : (a0_1 == 2) = false := by simpa using c132))
                                            (try (have c132b3 : ¬ (a0_1 = 2) := by simpa using c132))
                                            clear c132
                                            obtain rfl := Option.some.inj H
                                            have hcz146_0 : wc.cell? ⟨gb110, 0, none⟩ = some (.int .i64 a0_0) := (blk_cell BK110.out 0).trans rfl
                                            have hcz146_1 : wc.cell? ⟨gb110, 1, none⟩ = some (.int .i64 a0_1) := (blk_cell BK110.out 1).trans rfl
                                            have hcz146_2 : wc.cell? ⟨gb110, 2, none⟩ = some (.int .i64 a0_2) := (blk_cell BK110.out 2).trans rfl
                                            have hcz146_3 : wc.cell? ⟨gb110, 3, none⟩ = some (.int .i64 a0_3) := (blk_cell BK110.out 3).trans rfl
                                            have hcz146_4 : wc.cell? ⟨gb110, 4, none⟩ = some (.int .i64 a0_4) := (blk_cell BK110.out 4).trans rfl
                                            have hcz146_5 : wc.cell? ⟨gb110, 5, none⟩ = some (.int .i64 a0_5) := (blk_cell BK110.out 5).trans rfl
                                            have hcz146_6 : wc.cell? ⟨gb110, 6, none⟩ = some (.int .i64 a0_6) := (blk_cell BK110.out 6).trans rfl
                                            have hfz146_0 := blk_frozen BK110.out 0
                                            have hfz146_1 := blk_frozen BK110.out 1
                                            have hfz146_2 := blk_frozen BK110.out 2
                                            have hfz146_3 := blk_frozen BK110.out 3
                                            have hfz146_4 := blk_frozen BK110.out 4
                                            have hfz146_5 := blk_frozen BK110.out 5
                                            have hfz146_6 := blk_frozen BK110.out 6
                                            go_wp2
                                            go_ret
                                            exact ⟨by first | rfl | (simp [errW_none, errW_some] <;> rfl) | (simp [*, errW_none, errW_some] <;> rfl), by repeat (first | (with_reducible first | exact HB.out | apply below_alloc | apply pw_below_drewN | apply below_drew1 | refine below_set ?_ GE110.out) | exact HB.out)⟩
                                      · as_aux_lemma =>
                                        rw [if_neg c123] at H
                                        have c123b0 : (a0_0 == 15) = false := beq_eq_false_iff_ne.mpr c123
                                        have c123b1 : (a0_0 != 15) = true := bne_iff_ne.mpr c123
                                        obtain rfl := Option.some.inj H
                                        go_wp2
                                        go_ret
                                        exact ⟨by first | rfl | (simp [errW_none, errW_some] <;> rfl) | (simp [*, errW_none, errW_some] <;> rfl), by repeat (first | (with_reducible first | exact HB.out | apply below_alloc | apply pw_below_drewN | apply below_drew1 | refine below_set ?_ GE110.out) | exact HB.out)⟩

end Go.Proofs.YtnopjkkglanlfaaDoor.HFnExactTextOf
