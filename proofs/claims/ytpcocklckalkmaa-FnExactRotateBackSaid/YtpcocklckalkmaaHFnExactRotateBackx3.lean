-- out of hprint.py, this session's own program over the kit's print (see NOTES.md); Lean checks it
import Derived.Test.YtpcocklckalkmaaHFnExactRotateBackx0
import Derived.Test.YtpcocklckalkmaaHFnExactRotateBackx2
namespace Go.Proofs.Ytpcocklckalkmaa.HFnExactRotateBack
open Go.RowKit Go.Proofs.YtpcocklckalkmaaW.PrintWords Go.Proofs.YtpcocklckalkmaaW.PrintLast Go.Proofs.YtpcocklckalkmaaW.PrintMore
attribute [local go_sem] max2_int min2_int max_two min_two max_three min_three max_four min_four   -- for this text's walks alone
set_option linter.unusedVariables false
set_option linter.unusedSimpArgs false

/-! ### impl_shiftOnce: function 127 -/
mutual
def impl_shiftOnce.j0 : Nat → Int → Int → Int → Int → Int → Int → Option (Int × Int)
  | 0, _, _, _, _, _, _ => none
  | k + 1, x0, x1, x2, x3, x10, x11 => (impl_coming.f k x0 x1 x2 x3 x11).bind fun t144 => (if 0 ≤ x10 then ((impl_isLeft.f x0).bind fun t145 => (if t145 = true then ((impl_limitOf.f x1).bind fun t146 => (impl_shiftOnce.j1 k x0 x1 x2 x3 x10 x11 (Go.bits .or .i64 (Go.bits .and .i64 (wrap64 (x3 * 2)) (wrap64 (t146 - 1))) t144))) else (impl_shiftOnce.j1 k x0 x1 x2 x3 x10 x11 (Go.bits .or .i64 (x3 / 2) (shl .i64 t144 x10))))) else (none))
def impl_shiftOnce.j1 : Nat → Int → Int → Int → Int → Int → Int → Int → Option (Int × Int)
  | 0, _, _, _, _, _, _, _ => none
  | k + 1, x0, x1, x2, x3, x10, x11, x13 => if x0 = 4 then (impl_shiftOnce.j2 k x0 x1 x2 x3 x10 x11 x13 (wrap64 (x11 * 16)) true) else (impl_shiftOnce.j2 k x0 x1 x2 x3 x10 x11 x13 (wrap64 (x11 * 16)) (x0 == 5))
def impl_shiftOnce.j2 : Nat → Int → Int → Int → Int → Int → Int → Int → Int → Bool → Option (Int × Int)
  | 0, _, _, _, _, _, _, _, _, _ => none
  | k + 1, x0, x1, x2, x3, x10, x11, x13, x14, x55 => if x55 = true then (if x0 = 0 then (if 0 ≤ x10 then ((impl_flag.f ((shr .i64 x13 x10) != (shr .i64 x3 x10)) 2).bind fun t147 => ((impl_signs.f x1 x13).bind fun t148 => (some (x13, Go.bits .or .i64 (Go.bits .or .i64 (Go.bits .or .i64 (wrap64 (x11 * 1)) (Go.bits .and .i64 x2 16)) t147) t148)))) else (none)) else ((impl_flag.f false 2).bind fun t149 => ((impl_signs.f x1 x13).bind fun t150 => (some (x13, Go.bits .or .i64 (Go.bits .or .i64 (Go.bits .or .i64 (wrap64 (x11 * 1)) (Go.bits .and .i64 x2 16)) t149) t150))))) else (if x0 = 0 then (if 0 ≤ x10 then ((impl_flag.f ((shr .i64 x13 x10) != (shr .i64 x3 x10)) 2).bind fun t151 => ((impl_signs.f x1 x13).bind fun t152 => (some (x13, Go.bits .or .i64 (Go.bits .or .i64 (Go.bits .or .i64 (wrap64 (x11 * 1)) x14) t151) t152)))) else (none)) else ((impl_flag.f false 2).bind fun t153 => ((impl_signs.f x1 x13).bind fun t154 => (some (x13, Go.bits .or .i64 (Go.bits .or .i64 (Go.bits .or .i64 (wrap64 (x11 * 1)) x14) t153) t154)))))
end
def impl_shiftOnce.f (k : Nat) (a0 : Int) (a1 : Int) (a2 : Int) (a3 : Int) : Option (Int × Int) := (impl_isLeft.f a0).bind fun t143 => (if t143 = true then (if 0 ≤ (wrap64 ((wrap64 (8 * a1)) - 1)) then (impl_shiftOnce.j0 k a0 a1 a2 a3 (wrap64 ((wrap64 (8 * a1)) - 1)) (shr .i64 a3 (wrap64 ((wrap64 (8 * a1)) - 1)))) else (none)) else (impl_shiftOnce.j0 k a0 a1 a2 a3 (wrap64 ((wrap64 (8 * a1)) - 1)) (Go.bits .and .i64 a3 1)))
theorem impl_shiftOnce.mono_l : ∀ k, (∀ y0 y1 y2 y3 y4 y5, LeO (impl_shiftOnce.j0 k y0 y1 y2 y3 y4 y5) (impl_shiftOnce.j0 (k + 1) y0 y1 y2 y3 y4 y5)) ∧ (∀ y0 y1 y2 y3 y4 y5 y6, LeO (impl_shiftOnce.j1 k y0 y1 y2 y3 y4 y5 y6) (impl_shiftOnce.j1 (k + 1) y0 y1 y2 y3 y4 y5 y6)) ∧ (∀ y0 y1 y2 y3 y4 y5 y6 y7 y8, LeO (impl_shiftOnce.j2 k y0 y1 y2 y3 y4 y5 y6 y7 y8) (impl_shiftOnce.j2 (k + 1) y0 y1 y2 y3 y4 y5 y6 y7 y8))
  | 0 => ⟨fun _ _ _ _ _ _ r h => by simp [impl_shiftOnce.j0] at h, fun _ _ _ _ _ _ _ r h => by simp [impl_shiftOnce.j1] at h, fun _ _ _ _ _ _ _ _ _ r h => by simp [impl_shiftOnce.j2] at h⟩
  | k + 1 => by
    obtain ⟨ih0, ih1, ih2⟩ := impl_shiftOnce.mono_l k
    refine ⟨?_, ?_, ?_⟩
    · intro y0 y1 y2 y3 y4 y5
      unfold impl_shiftOnce.j0
      repeat' first
      | (with_reducible exact ih0 _ _ _ _ _ _)
      | (with_reducible exact ih1 _ _ _ _ _ _ _)
      | (with_reducible exact ih2 _ _ _ _ _ _ _ _ _)
      | (with_reducible exact impl_coming.mono _ _ _ _ _ _)
      | (with_reducible exact LeO.refl _)
      | (with_reducible exact LeO.none _)
      | (with_reducible refine LeO.ite ?_ ?_)
      | (with_reducible refine LeO.bind ?_ (fun _ => ?_))
      | exact ih0 _ _ _ _ _ _
      | exact ih1 _ _ _ _ _ _ _
      | exact ih2 _ _ _ _ _ _ _ _ _
      | exact impl_coming.mono _ _ _ _ _ _
      | exact LeO.none _
      | refine LeO.ite ?_ ?_
      | refine LeO.bind ?_ (fun _ => ?_)
    · intro y0 y1 y2 y3 y4 y5 y6
      unfold impl_shiftOnce.j1
      repeat' first
      | (with_reducible exact ih0 _ _ _ _ _ _)
      | (with_reducible exact ih1 _ _ _ _ _ _ _)
      | (with_reducible exact ih2 _ _ _ _ _ _ _ _ _)
      | (with_reducible exact impl_coming.mono _ _ _ _ _ _)
      | (with_reducible exact LeO.refl _)
      | (with_reducible exact LeO.none _)
      | (with_reducible refine LeO.ite ?_ ?_)
      | (with_reducible refine LeO.bind ?_ (fun _ => ?_))
      | exact ih0 _ _ _ _ _ _
      | exact ih1 _ _ _ _ _ _ _
      | exact ih2 _ _ _ _ _ _ _ _ _
      | exact impl_coming.mono _ _ _ _ _ _
      | exact LeO.none _
      | refine LeO.ite ?_ ?_
      | refine LeO.bind ?_ (fun _ => ?_)
    · intro y0 y1 y2 y3 y4 y5 y6 y7 y8
      unfold impl_shiftOnce.j2
      repeat' first
      | (with_reducible exact ih0 _ _ _ _ _ _)
      | (with_reducible exact ih1 _ _ _ _ _ _ _)
      | (with_reducible exact ih2 _ _ _ _ _ _ _ _ _)
      | (with_reducible exact impl_coming.mono _ _ _ _ _ _)
      | (with_reducible exact LeO.refl _)
      | (with_reducible exact LeO.none _)
      | (with_reducible refine LeO.ite ?_ ?_)
      | (with_reducible refine LeO.bind ?_ (fun _ => ?_))
      | exact ih0 _ _ _ _ _ _
      | exact ih1 _ _ _ _ _ _ _
      | exact ih2 _ _ _ _ _ _ _ _ _
      | exact impl_coming.mono _ _ _ _ _ _
      | exact LeO.none _
      | refine LeO.ite ?_ ?_
      | refine LeO.bind ?_ (fun _ => ?_)
theorem impl_shiftOnce.mono : ∀ a0 a1 a2 a3 k, LeO (impl_shiftOnce.f k a0 a1 a2 a3) (impl_shiftOnce.f (k + 1) a0 a1 a2 a3) := by
  intro a0 a1 a2 a3 k
  obtain ⟨ih0, ih1, ih2⟩ := impl_shiftOnce.mono_l k
  unfold impl_shiftOnce.f
  repeat' first
      | (with_reducible exact ih0 _ _ _ _ _ _)
      | (with_reducible exact ih1 _ _ _ _ _ _ _)
      | (with_reducible exact ih2 _ _ _ _ _ _ _ _ _)
      | (with_reducible exact impl_coming.mono _ _ _ _ _ _)
      | (with_reducible exact LeO.refl _)
      | (with_reducible exact LeO.none _)
      | (with_reducible refine LeO.ite ?_ ?_)
      | (with_reducible refine LeO.bind ?_ (fun _ => ?_))
      | exact ih0 _ _ _ _ _ _
      | exact ih1 _ _ _ _ _ _ _
      | exact ih2 _ _ _ _ _ _ _ _ _
      | exact impl_coming.mono _ _ _ _ _ _
      | exact LeO.none _
      | refine LeO.ite ?_ ?_
      | refine LeO.bind ?_ (fun _ => ?_)
set_option maxHeartbeats 8000000 in
set_option maxRecDepth 100000 in
theorem impl_shiftOnce.calls (k : Nat) (a0 : Int) (a1 : Int) (a2 : Int) (a3 : Int) (r1 : Int) (r2 : Int) (w : World) (h : impl_shiftOnce.f k a0 a1 a2 a3 = some (r1, r2)) :
    Calls Try.prog 127 #[.int .i64 a0, .int .i64 a1, .int .i64 a2, .int .i64 a3] w fun e w' => e = .returned (.tuple #[.int .i64 r1, .int .i64 r2]) ∧ Drawn0 w w' := by
  have H : ((impl_isLeft.f a0).bind fun t143 => (if t143 = true then (if 0 ≤ (wrap64 ((wrap64 (8 * a1)) - 1)) then (impl_shiftOnce.j0 k a0 a1 a2 a3 (wrap64 ((wrap64 (8 * a1)) - 1)) (shr .i64 a3 (wrap64 ((wrap64 (8 * a1)) - 1)))) else (none)) else (impl_shiftOnce.j0 k a0 a1 a2 a3 (wrap64 ((wrap64 (8 * a1)) - 1)) (Go.bits .and .i64 a3 1)))) = some (r1, r2) := h
  clear h
  replace H := Option.bind_eq_some_iff.mp H
  obtain ⟨t143, A50, H⟩ := H
  replace H : (if t143 = true then (if 0 ≤ (wrap64 ((wrap64 (8 * a1)) - 1)) then (impl_shiftOnce.j0 k a0 a1 a2 a3 (wrap64 ((wrap64 (8 * a1)) - 1)) (shr .i64 a3 (wrap64 ((wrap64 (8 * a1)) - 1)))) else (none)) else (impl_shiftOnce.j0 k a0 a1 a2 a3 (wrap64 ((wrap64 (8 * a1)) - 1)) (Go.bits .and .i64 a3 1))) = some (r1, r2) := H
  have A5 := Aside0.mk A50
  clear A50
  have HC6 := Aside0.mk H
  clear H
  go_enter Try.func127, Try.ntmps127
  go_upto_if 22 with (first | (go_at_call 147; (with_reducible refine (impl_isLeft.calls a0 t143 _ A5.out).mono ?_); rintro e w' ⟨rfl, ⟨nd, rfl⟩⟩; (try first | exact ⟨rfl, _, World.drewN_drewN _ _ _⟩ | exact ⟨rfl, _, Eq.trans (World.drewN_drewN _ _ _) (congrArg (World.drewN _) (Nat.add_assoc _ _ _))⟩)))
  repeat (go_quiet (first | (go_at_call 147; (with_reducible refine (impl_isLeft.calls a0 t143 _ A5.out).mono ?_); rintro e w' ⟨rfl, ⟨nd, rfl⟩⟩; (try first | exact ⟨rfl, _, World.drewN_drewN _ _ _⟩ | exact ⟨rfl, _, Eq.trans (World.drewN_drewN _ _ _) (congrArg (World.drewN _) (Nat.add_assoc _ _ _))⟩))); go_upto_if 22 with (first | (go_at_call 147; (with_reducible refine (impl_isLeft.calls a0 t143 _ A5.out).mono ?_); rintro e w' ⟨rfl, ⟨nd, rfl⟩⟩; (try first | exact ⟨rfl, _, World.drewN_drewN _ _ _⟩ | exact ⟨rfl, _, Eq.trans (World.drewN_drewN _ _ _) (congrArg (World.drewN _) (Nat.add_assoc _ _ _))⟩))))
  (try simp only [Act.put, List.setIfInBounds_toArray, List.set_cons_zero, List.set_cons_succ])
  go_cut [11] (fun v11 wc => ∃ (kq : Nat) (x11_5 : Int), v11 = .int .i64 x11_5 ∧ Aside0 (impl_shiftOnce.j0 kq a0 a1 a2 a3 (wrap64 ((wrap64 (8 * a1)) - 1)) x11_5 = some (r1, r2)) ∧ Aside0 (kq ≤ k) ∧ Drawn0 w wc)
  case first =>
    have H := HC6.out
    clear HC6
    by_cases c7 : t143 = true
    · subst c7
      have H1 : (if 0 ≤ (wrap64 ((wrap64 (8 * a1)) - 1)) then (impl_shiftOnce.j0 k a0 a1 a2 a3 (wrap64 ((wrap64 (8 * a1)) - 1)) (shr .i64 a3 (wrap64 ((wrap64 (8 * a1)) - 1)))) else (none)) = some (r1, r2) := by rw [if_pos rfl] at H; exact H
      clear H
      have H := H1
      clear H1
      obtain ⟨ji8, hji8⟩ : ∃ j_ : Int, (wrap64 ((wrap64 (8 * a1)) - 1)) = j_ := ⟨_, rfl⟩
      replace H : (if 0 ≤ (ji8) then (impl_shiftOnce.j0 k a0 a1 a2 a3 ji8 (shr .i64 a3 (ji8))) else (none)) = some (r1, r2) := by first | (rw [hji8] at H; exact H) | (simp only [hji8] at H ⊢; exact H)
      have hji8w : (IntKind.i64.wrap ((wrap64 (8 * a1)) - 1)) = ji8 := (i64_w _).trans hji8
      by_cases c9 : 0 ≤ (ji8)
      · rw [if_pos c9] at H
        have c9b0 := eq_true c9
        have c9b1 : decide (0 ≤ (ji8)) = true := decide_eq_true c9
        clear c9
        obtain ⟨ji10, hji10⟩ : ∃ j_ : Int, (shr .i64 a3 (ji8)) = j_ := ⟨_, rfl⟩
        replace H : (impl_shiftOnce.j0 k a0 a1 a2 a3 ji8 ji10) = some (r1, r2) := by first | (rw [hji10] at H; exact H) | (simp only [hji10] at H ⊢; exact H)
        have hji10_ : (a3 / 2 ^ min (ji8).toNat 64) = ji10 := hji10
        have hji10z : (ji8) ≤ 64 → (a3 / 2 ^ (ji8).toNat) = ji10 := shr_small hji10
        have H' := Aside0.mk H
        clear H
        go_wp2
        repeat (go_quiet (fail); try go_wp2)
        go_meet
        case rel => exact ⟨_, (ji10), (by first | rfl | (simp; done) | (simp only [← hji10] <;> (first | rfl | simp)) | (simp [*]; done)), (by first | exact H' | (rw [hji8]; exact H') | (rw [hji10]; exact H')), ⟨by first | omega | exact Nat.le_refl _⟩, by repeat (first | exact Drawn0.refl _ | apply Drawn0.step)⟩
      · rw [if_neg c9] at H
        exact absurd H (by simp)
    · replace c7 := Bool.eq_false_iff.mpr c7
      subst c7
      have H1 : (impl_shiftOnce.j0 k a0 a1 a2 a3 (wrap64 ((wrap64 (8 * a1)) - 1)) (Go.bits .and .i64 a3 1)) = some (r1, r2) := by rw [if_neg (show ¬ (false = true) by decide)] at H; exact H
      clear H
      have H := H1
      clear H1
      have H' := Aside0.mk H
      clear H
      go_wp2
      repeat (go_quiet (fail); try go_wp2)
      go_meet
      case rel => exact ⟨_, (Go.bits .and .i64 a3 1), (by first | rfl | (simp; done) | (simp [*]; done)), (by first | exact H' | (rw [hji8]; exact H') | (rw [hji10]; exact H')), ⟨by first | omega | exact Nat.le_refl _⟩, by repeat (first | exact Drawn0.refl _ | apply Drawn0.step)⟩
  case rest =>
    clear HC6
    try clear c1
    try clear p2
    try clear p6
    try clear c7
    try clear c9
    try clear c9b0
    try clear c9b1
    obtain ⟨kq, x11_5, rfl, HA, HJ5, ⟨mc5, rfl⟩⟩ := hcut
    cases kq with
    | zero => exact absurd HA.out (by simp [impl_shiftOnce.j0])
    | succ kj5 =>
      have H := HA.out
      clear HA
      simp only [impl_shiftOnce.j0] at H
      replace H := Option.bind_eq_some_iff.mp H
      obtain ⟨t144, A110, H⟩ := H
      replace H : (if 0 ≤ (wrap64 ((wrap64 (8 * a1)) - 1)) then ((impl_isLeft.f a0).bind fun t145 => (if t145 = true then ((impl_limitOf.f a1).bind fun t146 => (impl_shiftOnce.j1 kj5 a0 a1 a2 a3 (wrap64 ((wrap64 (8 * a1)) - 1)) x11_5 (Go.bits .or .i64 (Go.bits .and .i64 (wrap64 (a3 * 2)) (wrap64 (t146 - 1))) t144))) else (impl_shiftOnce.j1 kj5 a0 a1 a2 a3 (wrap64 ((wrap64 (8 * a1)) - 1)) x11_5 (Go.bits .or .i64 (a3 / 2) (shl .i64 t144 (wrap64 ((wrap64 (8 * a1)) - 1))))))) else (none)) = some (r1, r2) := H
      have A11 := Aside0.mk A110
      clear A110
      obtain ⟨ji12, hji12⟩ : ∃ j_ : Int, (wrap64 ((wrap64 (8 * a1)) - 1)) = j_ := ⟨_, rfl⟩
      replace H : (if 0 ≤ (ji12) then ((impl_isLeft.f a0).bind fun t145 => (if t145 = true then ((impl_limitOf.f a1).bind fun t146 => (impl_shiftOnce.j1 kj5 a0 a1 a2 a3 (ji12) x11_5 (Go.bits .or .i64 (Go.bits .and .i64 (wrap64 (a3 * 2)) (wrap64 (t146 - 1))) t144))) else (impl_shiftOnce.j1 kj5 a0 a1 a2 a3 (ji12) x11_5 (Go.bits .or .i64 (a3 / 2) (shl .i64 t144 (ji12)))))) else (none)) = some (r1, r2) := by first | (rw [hji12] at H; exact H) | (simp only [hji12] at H ⊢; exact H)
      (try rw [hji12] at A11)
      have hji12w : (IntKind.i64.wrap ((wrap64 (8 * a1)) - 1)) = ji12 := (i64_w _).trans hji12
      by_cases c13 : 0 ≤ (ji12)
      · rw [if_pos c13] at H
        have c13b0 := eq_true c13
        have c13b1 : decide (0 ≤ (ji12)) = true := decide_eq_true c13
        clear c13
        obtain ⟨ji14, hji14⟩ : ∃ j_ : Int, (shl .i64 t144 (ji12)) = j_ := ⟨_, rfl⟩
        replace H : ((impl_isLeft.f a0).bind fun t145 => (if t145 = true then ((impl_limitOf.f a1).bind fun t146 => (impl_shiftOnce.j1 kj5 a0 a1 a2 a3 (ji12) x11_5 (Go.bits .or .i64 (Go.bits .and .i64 (wrap64 (a3 * 2)) (wrap64 (t146 - 1))) t144))) else (impl_shiftOnce.j1 kj5 a0 a1 a2 a3 (ji12) x11_5 (Go.bits .or .i64 (a3 / 2) (ji14))))) = some (r1, r2) := by first | (rw [hji14] at H; exact H) | (simp only [hji14] at H ⊢; exact H)
        (try rw [hji14] at A11)
        have hji14_ : (IntKind.i64.wrap (t144 * 2 ^ min (ji12).toNat 64)) = ji14 := hji14
        have hji14z : (ji12) ≤ 64 → (IntKind.i64.wrap (t144 * 2 ^ (ji12).toNat)) = ji14 := shl_small hji14
        have hji14y : (wrap64 (t144 * 2 ^ min (ji12).toNat 64)) = ji14 := (i64_w _).symm.trans hji14_
        have hji14x : (ji12) ≤ 64 → (wrap64 (t144 * 2 ^ (ji12).toNat)) = ji14 := fun h_ => (i64_w _).symm.trans (hji14z h_)
        replace H := Option.bind_eq_some_iff.mp H
        obtain ⟨t145, A150, H⟩ := H
        replace H : (if t145 = true then ((impl_limitOf.f a1).bind fun t146 => (impl_shiftOnce.j1 kj5 a0 a1 a2 a3 (ji12) x11_5 (Go.bits .or .i64 (Go.bits .and .i64 (wrap64 (a3 * 2)) (wrap64 (t146 - 1))) t144))) else (impl_shiftOnce.j1 kj5 a0 a1 a2 a3 (ji12) x11_5 (Go.bits .or .i64 (a3 / 2) (ji14)))) = some (r1, r2) := H
        have A15 := Aside0.mk A150
        clear A150
        have HC16 := Aside0.mk H
        clear H
        go_upto_if 39 with (first | (go_at_call 148; (with_reducible refine (impl_coming.calls kj5 a0 a1 a2 a3 x11_5 t144 _ A11.out).mono ?_); rintro e w' ⟨rfl, ⟨nd, rfl⟩⟩; (try first | exact ⟨rfl, _, World.drewN_drewN _ _ _⟩ | exact ⟨rfl, _, Eq.trans (World.drewN_drewN _ _ _) (congrArg (World.drewN _) (Nat.add_assoc _ _ _))⟩)) | (go_at_call 147; (with_reducible refine (impl_isLeft.calls a0 t145 _ A15.out).mono ?_); rintro e w' ⟨rfl, ⟨nd, rfl⟩⟩; (try first | exact ⟨rfl, _, World.drewN_drewN _ _ _⟩ | exact ⟨rfl, _, Eq.trans (World.drewN_drewN _ _ _) (congrArg (World.drewN _) (Nat.add_assoc _ _ _))⟩)))
        repeat (go_quiet (first | (go_at_call 148; (with_reducible refine (impl_coming.calls kj5 a0 a1 a2 a3 x11_5 t144 _ A11.out).mono ?_); rintro e w' ⟨rfl, ⟨nd, rfl⟩⟩; (try first | exact ⟨rfl, _, World.drewN_drewN _ _ _⟩ | exact ⟨rfl, _, Eq.trans (World.drewN_drewN _ _ _) (congrArg (World.drewN _) (Nat.add_assoc _ _ _))⟩)) | (go_at_call 147; (with_reducible refine (impl_isLeft.calls a0 t145 _ A15.out).mono ?_); rintro e w' ⟨rfl, ⟨nd, rfl⟩⟩; (try first | exact ⟨rfl, _, World.drewN_drewN _ _ _⟩ | exact ⟨rfl, _, Eq.trans (World.drewN_drewN _ _ _) (congrArg (World.drewN _) (Nat.add_assoc _ _ _))⟩))); go_upto_if 39 with (first | (go_at_call 148; (with_reducible refine (impl_coming.calls kj5 a0 a1 a2 a3 x11_5 t144 _ A11.out).mono ?_); rintro e w' ⟨rfl, ⟨nd, rfl⟩⟩; (try first | exact ⟨rfl, _, World.drewN_drewN _ _ _⟩ | exact ⟨rfl, _, Eq.trans (World.drewN_drewN _ _ _) (congrArg (World.drewN _) (Nat.add_assoc _ _ _))⟩)) | (go_at_call 147; (with_reducible refine (impl_isLeft.calls a0 t145 _ A15.out).mono ?_); rintro e w' ⟨rfl, ⟨nd, rfl⟩⟩; (try first | exact ⟨rfl, _, World.drewN_drewN _ _ _⟩ | exact ⟨rfl, _, Eq.trans (World.drewN_drewN _ _ _) (congrArg (World.drewN _) (Nat.add_assoc _ _ _))⟩))))
        (try simp only [Act.put, List.setIfInBounds_toArray, List.set_cons_zero, List.set_cons_succ])
        go_cut [13] (fun v13 wc => ∃ (kq : Nat) (x13_15 : Int), v13 = .int .i64 x13_15 ∧ Aside0 (impl_shiftOnce.j1 kq a0 a1 a2 a3 (ji12) x11_5 x13_15 = some (r1, r2)) ∧ Aside0 (kq ≤ kj5) ∧ Drawn0 w wc)
        case first =>
          have H := HC16.out
          clear HC16
          by_cases c17 : t145 = true
          · subst c17
            have H1 : ((impl_limitOf.f a1).bind fun t146 => (impl_shiftOnce.j1 kj5 a0 a1 a2 a3 (ji12) x11_5 (Go.bits .or .i64 (Go.bits .and .i64 (wrap64 (a3 * 2)) (wrap64 (t146 - 1))) t144))) = some (r1, r2) := by rw [if_pos rfl] at H; exact H
            clear H
            have H := H1
            clear H1
            replace H := Option.bind_eq_some_iff.mp H
            obtain ⟨t146, A180, H⟩ := H
            replace H : (impl_shiftOnce.j1 kj5 a0 a1 a2 a3 (ji12) x11_5 (Go.bits .or .i64 (Go.bits .and .i64 (wrap64 (a3 * 2)) (wrap64 (t146 - 1))) t144)) = some (r1, r2) := H
            have A18 := Aside0.mk A180
            clear A180
            have H' := Aside0.mk H
            clear H
            go_wp2_with (first | (go_at_call 146; (with_reducible refine (impl_limitOf.calls a1 t146 _ A18.out).mono ?_); rintro e w' ⟨rfl, ⟨nd, rfl⟩⟩; (try first | exact ⟨rfl, _, World.drewN_drewN _ _ _⟩ | exact ⟨rfl, _, Eq.trans (World.drewN_drewN _ _ _) (congrArg (World.drewN _) (Nat.add_assoc _ _ _))⟩)))
            repeat (go_quiet (first | (go_at_call 146; (with_reducible refine (impl_limitOf.calls a1 t146 _ A18.out).mono ?_); rintro e w' ⟨rfl, ⟨nd, rfl⟩⟩; (try first | exact ⟨rfl, _, World.drewN_drewN _ _ _⟩ | exact ⟨rfl, _, Eq.trans (World.drewN_drewN _ _ _) (congrArg (World.drewN _) (Nat.add_assoc _ _ _))⟩))); try go_wp2_with (first | (go_at_call 146; (with_reducible refine (impl_limitOf.calls a1 t146 _ A18.out).mono ?_); rintro e w' ⟨rfl, ⟨nd, rfl⟩⟩; (try first | exact ⟨rfl, _, World.drewN_drewN _ _ _⟩ | exact ⟨rfl, _, Eq.trans (World.drewN_drewN _ _ _) (congrArg (World.drewN _) (Nat.add_assoc _ _ _))⟩))))
            go_meet
            case rel => exact ⟨_, (Go.bits .or .i64 (Go.bits .and .i64 (wrap64 (a3 * 2)) (wrap64 (t146 - 1))) t144), (by first | rfl | (simp; done) | (simp [*]; done)), (by first | exact H' | (rw [hji8]; exact H') | (rw [hji10]; exact H') | (rw [hji12]; exact H') | (rw [hji14]; exact H')), ⟨by have := HJ5.out; first | omega | exact Nat.le_refl _⟩, by repeat (first | exact Drawn0.refl _ | apply Drawn0.step)⟩
          · replace c17 := Bool.eq_false_iff.mpr c17
            subst c17
            have H1 : (impl_shiftOnce.j1 kj5 a0 a1 a2 a3 (ji12) x11_5 (Go.bits .or .i64 (a3 / 2) (ji14))) = some (r1, r2) := by rw [if_neg (show ¬ (false = true) by decide)] at H; exact H
            clear H
            have H := H1
            clear H1
            have H' := Aside0.mk H
            clear H
            go_wp2
            repeat (go_quiet (fail); try go_wp2)
            go_meet
            case rel => exact ⟨_, (Go.bits .or .i64 (a3 / 2) (ji14)), (by first | rfl | (simp; done) | (simp only [← hji14] <;> (first | rfl | simp)) | (simp [*]; done)), (by first | exact H' | (rw [hji8]; exact H') | (rw [hji10]; exact H') | (rw [hji12]; exact H') | (rw [hji14]; exact H')), ⟨by have := HJ5.out; first | omega | exact Nat.le_refl _⟩, by repeat (first | exact Drawn0.refl _ | apply Drawn0.step)⟩
        case rest =>
          clear HC16
          try clear c1
          try clear p2
          try clear c5
          try clear p6
          try clear c7
          try clear c9
          try clear c9b0
          try clear c9b1
          try clear c12
          try clear c13
          try clear c13b0
          try clear c13b1
          try clear c17
          try clear p2
          try clear p6
          obtain ⟨kq, x13_15, rfl, HA, HJ15, ⟨mc15, rfl⟩⟩ := hcut
          cases kq with
          | zero => exact absurd HA.out (by simp [impl_shiftOnce.j1])
          | succ kj15 =>
            have H := HA.out
            clear HA
            simp only [impl_shiftOnce.j1] at H
            have HC19 := Aside0.mk H
            clear H
            go_upto_region 10 with (fail)
            repeat (go_quiet (fail); go_upto_region 10 with (fail))
            go_cut [55] (fun v55 wc => ∃ (kq : Nat) (x55_18 : Bool), v55 = .bool x55_18 ∧ Aside0 (impl_shiftOnce.j2 kq a0 a1 a2 a3 (ji12) x11_5 x13_15 (wrap64 (x11_5 * 16)) x55_18 = some (r1, r2)) ∧ Aside0 (kq ≤ kj15) ∧ Drawn0 w wc)
            case first =>
              have H := HC19.out
              clear HC19
              by_cases c20 : a0 = 4
              · rw [if_pos c20] at H
                have c20b0 : (a0 == 4) = true := beq_iff_eq.mpr c20
                have c20b1 : (a0 != 4) = false := bne_eq_false_iff_eq.mpr c20
                clear c20
                (first | rw [c20b0] | (simp only [i64_w, i32_w]; rw [c20b0]) | skip)
                have H' := Aside0.mk H
                clear H
                go_wp2
                repeat (go_quiet (fail); try go_wp2)
                go_meet
                case rel => exact ⟨_, (true), (by first | rfl | (simp; done) | (simp [*]; done)), (by first | exact H' | (rw [hji8]; exact H') | (rw [hji10]; exact H') | (rw [hji12]; exact H') | (rw [hji14]; exact H')), ⟨by have := HJ5.out; have := HJ15.out; first | omega | exact Nat.le_refl _⟩, by repeat (first | exact Drawn0.refl _ | apply Drawn0.step)⟩
              · rw [if_neg c20] at H
                have c20b0 : (a0 == 4) = false := beq_eq_false_iff_ne.mpr c20
                have c20b1 : (a0 != 4) = true := bne_iff_ne.mpr c20
                (first | rw [c20b0] | (simp only [i64_w, i32_w]; rw [c20b0]) | skip)
                have H' := Aside0.mk H
                clear H
                go_wp2
                repeat (go_quiet (fail); try go_wp2)
                go_meet
                case rel => exact ⟨_, ((a0 == 5)), (by first | rfl | (simp; done) | (simp [*]; done)), (by first | exact H' | (rw [hji8]; exact H') | (rw [hji10]; exact H') | (rw [hji12]; exact H') | (rw [hji14]; exact H')), ⟨by have := HJ5.out; have := HJ15.out; first | omega | exact Nat.le_refl _⟩, by repeat (first | exact Drawn0.refl _ | apply Drawn0.step)⟩
            case rest =>
              clear HC19
              try clear c1
              try clear c2
              try clear p2
              try clear c5
              try clear p6
              try clear c7
              try clear c9
              try clear c9b0
              try clear c9b1
              try clear c12
              try clear c13
              try clear c13b0
              try clear c13b1
              try clear c15
              try clear c17
              try clear c20
              try clear c20b0
              try clear c20b1
              try clear p2
              try clear p6
              obtain ⟨kq, x55_18, rfl, HA, HJ18, ⟨mc18, rfl⟩⟩ := hcut
              cases kq with
              | zero => exact absurd HA.out (by simp [impl_shiftOnce.j2])
              | succ kj18 =>
                have H := HA.out
                clear HA
                simp only [impl_shiftOnce.j2] at H
                by_cases c21 : x55_18 = true
                · subst c21
                  have H1 : (if a0 = 0 then (if 0 ≤ (ji12) then ((impl_flag.f ((shr .i64 x13_15 (ji12)) != (shr .i64 a3 (ji12))) 2).bind fun t147 => ((impl_signs.f a1 x13_15).bind fun t148 => (some (x13_15, Go.bits .or .i64 (Go.bits .or .i64 (Go.bits .or .i64 (wrap64 (x11_5 * 1)) (Go.bits .and .i64 a2 16)) t147) t148)))) else (none)) else ((impl_flag.f false 2).bind fun t149 => ((impl_signs.f a1 x13_15).bind fun t150 => (some (x13_15, Go.bits .or .i64 (Go.bits .or .i64 (Go.bits .or .i64 (wrap64 (x11_5 * 1)) (Go.bits .and .i64 a2 16)) t149) t150))))) = some (r1, r2) := by rw [if_pos rfl] at H; exact H
                  clear H
                  have H := H1
                  clear H1
                  by_cases c22 : a0 = 0
                  · rw [if_pos c22] at H
                    have c22b0 : (a0 == 0) = true := beq_iff_eq.mpr c22
                    have c22b1 : (a0 != 0) = false := bne_eq_false_iff_eq.mpr c22
                    clear c22
                    by_cases c23 : 0 ≤ (ji12)
                    · rw [if_pos c23] at H
                      have c23b0 := eq_true c23
                      have c23b1 : decide (0 ≤ (ji12)) = true := decide_eq_true c23
                      clear c23
                      obtain ⟨ji24, hji24⟩ : ∃ j_ : Int, (shr .i64 x13_15 (ji12)) = j_ := ⟨_, rfl⟩
                      replace H : ((impl_flag.f ((ji24) != (shr .i64 a3 (ji12))) 2).bind fun t147 => ((impl_signs.f a1 x13_15).bind fun t148 => (some (x13_15, Go.bits .or .i64 (Go.bits .or .i64 (Go.bits .or .i64 (wrap64 (x11_5 * 1)) (Go.bits .and .i64 a2 16)) t147) t148)))) = some (r1, r2) := by first | (rw [hji24] at H; exact H) | (simp only [hji24] at H ⊢; exact H)
                      have hji24_ : (x13_15 / 2 ^ min (ji12).toNat 64) = ji24 := hji24
                      have hji24z : (ji12) ≤ 64 → (x13_15 / 2 ^ (ji12).toNat) = ji24 := shr_small hji24
                      have c25b0 := eq_true (of_decide_eq_true (by first | (with_reducible assumption) | assumption) : 0 ≤ (ji12))
                      obtain ⟨ji26, hji26⟩ : ∃ j_ : Int, (shr .i64 a3 (ji12)) = j_ := ⟨_, rfl⟩
                      replace H : ((impl_flag.f ((ji24) != (ji26)) 2).bind fun t147 => ((impl_signs.f a1 x13_15).bind fun t148 => (some (x13_15, Go.bits .or .i64 (Go.bits .or .i64 (Go.bits .or .i64 (wrap64 (x11_5 * 1)) (Go.bits .and .i64 a2 16)) t147) t148)))) = some (r1, r2) := by first | (rw [hji26] at H; exact H) | (simp only [hji26] at H ⊢; exact H)
                      have hji26_ : (a3 / 2 ^ min (ji12).toNat 64) = ji26 := hji26
                      have hji26z : (ji12) ≤ 64 → (a3 / 2 ^ (ji12).toNat) = ji26 := shr_small hji26
                      replace H := Option.bind_eq_some_iff.mp H
                      obtain ⟨t147, A270, H⟩ := H
                      replace H : ((impl_signs.f a1 x13_15).bind fun t148 => (some (x13_15, Go.bits .or .i64 (Go.bits .or .i64 (Go.bits .or .i64 (wrap64 (x11_5 * 1)) (Go.bits .and .i64 a2 16)) t147) t148))) = some (r1, r2) := H
                      have A27 := Aside0.mk A270
                      clear A270
                      replace H := Option.bind_eq_some_iff.mp H
                      obtain ⟨t148, A280, H⟩ := H
                      replace H : (some (x13_15, Go.bits .or .i64 (Go.bits .or .i64 (Go.bits .or .i64 (wrap64 (x11_5 * 1)) (Go.bits .and .i64 a2 16)) t147) t148)) = some (r1, r2) := H
                      have A28 := Aside0.mk A280
                      clear A280
                      simp only [Option.some.injEq, Prod.mk.injEq] at H
                      obtain ⟨rfl, rfl⟩ := H
                      go_wp2_with (first | (go_at_call 125; (with_reducible refine (impl_flag.calls ((ji24) != (ji26)) 2 t147 _ A27.out).mono ?_); rintro e w' ⟨rfl, ⟨nd, rfl⟩⟩; (try first | exact ⟨rfl, _, World.drewN_drewN _ _ _⟩ | exact ⟨rfl, _, Eq.trans (World.drewN_drewN _ _ _) (congrArg (World.drewN _) (Nat.add_assoc _ _ _))⟩)) | (go_at_call 126; (with_reducible refine (impl_signs.calls a1 x13_15 t148 _ A28.out).mono ?_); rintro e w' ⟨rfl, ⟨nd, rfl⟩⟩; (try first | exact ⟨rfl, _, World.drewN_drewN _ _ _⟩ | exact ⟨rfl, _, Eq.trans (World.drewN_drewN _ _ _) (congrArg (World.drewN _) (Nat.add_assoc _ _ _))⟩)))
                      repeat (go_quiet (first | (go_at_call 125; (with_reducible refine (impl_flag.calls ((ji24) != (ji26)) 2 t147 _ A27.out).mono ?_); rintro e w' ⟨rfl, ⟨nd, rfl⟩⟩; (try first | exact ⟨rfl, _, World.drewN_drewN _ _ _⟩ | exact ⟨rfl, _, Eq.trans (World.drewN_drewN _ _ _) (congrArg (World.drewN _) (Nat.add_assoc _ _ _))⟩)) | (go_at_call 126; (with_reducible refine (impl_signs.calls a1 x13_15 t148 _ A28.out).mono ?_); rintro e w' ⟨rfl, ⟨nd, rfl⟩⟩; (try first | exact ⟨rfl, _, World.drewN_drewN _ _ _⟩ | exact ⟨rfl, _, Eq.trans (World.drewN_drewN _ _ _) (congrArg (World.drewN _) (Nat.add_assoc _ _ _))⟩))); try go_wp2_with (first | (go_at_call 125; (with_reducible refine (impl_flag.calls ((ji24) != (ji26)) 2 t147 _ A27.out).mono ?_); rintro e w' ⟨rfl, ⟨nd, rfl⟩⟩; (try first | exact ⟨rfl, _, World.drewN_drewN _ _ _⟩ | exact ⟨rfl, _, Eq.trans (World.drewN_drewN _ _ _) (congrArg (World.drewN _) (Nat.add_assoc _ _ _))⟩)) | (go_at_call 126; (with_reducible refine (impl_signs.calls a1 x13_15 t148 _ A28.out).mono ?_); rintro e w' ⟨rfl, ⟨nd, rfl⟩⟩; (try first | exact ⟨rfl, _, World.drewN_drewN _ _ _⟩ | exact ⟨rfl, _, Eq.trans (World.drewN_drewN _ _ _) (congrArg (World.drewN _) (Nat.add_assoc _ _ _))⟩))))
                      go_ret2
                      exact ⟨by first | rfl | (simp; done) | (simp only [← hji12, ← hji14, ← hji24, ← hji26] <;> (first | rfl | simp)) | (simp [*]; done), by repeat (first | exact Drawn0.refl _ | apply Drawn0.step)⟩
                    · rw [if_neg c23] at H
                      exact absurd H (by simp)
                  · rw [if_neg c22] at H
                    have c22b0 : (a0 == 0) = false := beq_eq_false_iff_ne.mpr c22
                    have c22b1 : (a0 != 0) = true := bne_iff_ne.mpr c22
                    replace H := Option.bind_eq_some_iff.mp H
                    obtain ⟨t149, A290, H⟩ := H
                    replace H : ((impl_signs.f a1 x13_15).bind fun t150 => (some (x13_15, Go.bits .or .i64 (Go.bits .or .i64 (Go.bits .or .i64 (wrap64 (x11_5 * 1)) (Go.bits .and .i64 a2 16)) t149) t150))) = some (r1, r2) := H
                    have A29 := Aside0.mk A290
                    clear A290
                    replace H := Option.bind_eq_some_iff.mp H
                    obtain ⟨t150, A300, H⟩ := H
                    replace H : (some (x13_15, Go.bits .or .i64 (Go.bits .or .i64 (Go.bits .or .i64 (wrap64 (x11_5 * 1)) (Go.bits .and .i64 a2 16)) t149) t150)) = some (r1, r2) := H
                    have A30 := Aside0.mk A300
                    clear A300
                    simp only [Option.some.injEq, Prod.mk.injEq] at H
                    obtain ⟨rfl, rfl⟩ := H
                    go_wp2_with (first | (go_at_call 125; (with_reducible refine (impl_flag.calls false 2 t149 _ A29.out).mono ?_); rintro e w' ⟨rfl, ⟨nd, rfl⟩⟩; (try first | exact ⟨rfl, _, World.drewN_drewN _ _ _⟩ | exact ⟨rfl, _, Eq.trans (World.drewN_drewN _ _ _) (congrArg (World.drewN _) (Nat.add_assoc _ _ _))⟩)) | (go_at_call 126; (with_reducible refine (impl_signs.calls a1 x13_15 t150 _ A30.out).mono ?_); rintro e w' ⟨rfl, ⟨nd, rfl⟩⟩; (try first | exact ⟨rfl, _, World.drewN_drewN _ _ _⟩ | exact ⟨rfl, _, Eq.trans (World.drewN_drewN _ _ _) (congrArg (World.drewN _) (Nat.add_assoc _ _ _))⟩)))
                    repeat (go_quiet (first | (go_at_call 125; (with_reducible refine (impl_flag.calls false 2 t149 _ A29.out).mono ?_); rintro e w' ⟨rfl, ⟨nd, rfl⟩⟩; (try first | exact ⟨rfl, _, World.drewN_drewN _ _ _⟩ | exact ⟨rfl, _, Eq.trans (World.drewN_drewN _ _ _) (congrArg (World.drewN _) (Nat.add_assoc _ _ _))⟩)) | (go_at_call 126; (with_reducible refine (impl_signs.calls a1 x13_15 t150 _ A30.out).mono ?_); rintro e w' ⟨rfl, ⟨nd, rfl⟩⟩; (try first | exact ⟨rfl, _, World.drewN_drewN _ _ _⟩ | exact ⟨rfl, _, Eq.trans (World.drewN_drewN _ _ _) (congrArg (World.drewN _) (Nat.add_assoc _ _ _))⟩))); try go_wp2_with (first | (go_at_call 125; (with_reducible refine (impl_flag.calls false 2 t149 _ A29.out).mono ?_); rintro e w' ⟨rfl, ⟨nd, rfl⟩⟩; (try first | exact ⟨rfl, _, World.drewN_drewN _ _ _⟩ | exact ⟨rfl, _, Eq.trans (World.drewN_drewN _ _ _) (congrArg (World.drewN _) (Nat.add_assoc _ _ _))⟩)) | (go_at_call 126; (with_reducible refine (impl_signs.calls a1 x13_15 t150 _ A30.out).mono ?_); rintro e w' ⟨rfl, ⟨nd, rfl⟩⟩; (try first | exact ⟨rfl, _, World.drewN_drewN _ _ _⟩ | exact ⟨rfl, _, Eq.trans (World.drewN_drewN _ _ _) (congrArg (World.drewN _) (Nat.add_assoc _ _ _))⟩))))
                    go_ret2
                    exact ⟨by first | rfl | (simp; done) | (simp only [← hji12, ← hji14] <;> (first | rfl | simp)) | (simp [*]; done), by repeat (first | exact Drawn0.refl _ | apply Drawn0.step)⟩
                · replace c21 := Bool.eq_false_iff.mpr c21
                  subst c21
                  have H1 : (if a0 = 0 then (if 0 ≤ (ji12) then ((impl_flag.f ((shr .i64 x13_15 (ji12)) != (shr .i64 a3 (ji12))) 2).bind fun t151 => ((impl_signs.f a1 x13_15).bind fun t152 => (some (x13_15, Go.bits .or .i64 (Go.bits .or .i64 (Go.bits .or .i64 (wrap64 (x11_5 * 1)) (wrap64 (x11_5 * 16))) t151) t152)))) else (none)) else ((impl_flag.f false 2).bind fun t153 => ((impl_signs.f a1 x13_15).bind fun t154 => (some (x13_15, Go.bits .or .i64 (Go.bits .or .i64 (Go.bits .or .i64 (wrap64 (x11_5 * 1)) (wrap64 (x11_5 * 16))) t153) t154))))) = some (r1, r2) := by rw [if_neg (show ¬ (false = true) by decide)] at H; exact H
                  clear H
                  have H := H1
                  clear H1
                  by_cases c31 : a0 = 0
                  · rw [if_pos c31] at H
                    have c31b0 : (a0 == 0) = true := beq_iff_eq.mpr c31
                    have c31b1 : (a0 != 0) = false := bne_eq_false_iff_eq.mpr c31
                    clear c31
                    by_cases c32 : 0 ≤ (ji12)
                    · rw [if_pos c32] at H
                      have c32b0 := eq_true c32
                      have c32b1 : decide (0 ≤ (ji12)) = true := decide_eq_true c32
                      clear c32
                      obtain ⟨ji33, hji33⟩ : ∃ j_ : Int, (shr .i64 x13_15 (ji12)) = j_ := ⟨_, rfl⟩
                      replace H : ((impl_flag.f ((ji33) != (shr .i64 a3 (ji12))) 2).bind fun t151 => ((impl_signs.f a1 x13_15).bind fun t152 => (some (x13_15, Go.bits .or .i64 (Go.bits .or .i64 (Go.bits .or .i64 (wrap64 (x11_5 * 1)) (wrap64 (x11_5 * 16))) t151) t152)))) = some (r1, r2) := by first | (rw [hji33] at H; exact H) | (simp only [hji33] at H ⊢; exact H)
                      have hji33_ : (x13_15 / 2 ^ min (ji12).toNat 64) = ji33 := hji33
                      have hji33z : (ji12) ≤ 64 → (x13_15 / 2 ^ (ji12).toNat) = ji33 := shr_small hji33
                      have c34b0 := eq_true (of_decide_eq_true (by first | (with_reducible assumption) | assumption) : 0 ≤ (ji12))
                      obtain ⟨ji35, hji35⟩ : ∃ j_ : Int, (shr .i64 a3 (ji12)) = j_ := ⟨_, rfl⟩
                      replace H : ((impl_flag.f ((ji33) != (ji35)) 2).bind fun t151 => ((impl_signs.f a1 x13_15).bind fun t152 => (some (x13_15, Go.bits .or .i64 (Go.bits .or .i64 (Go.bits .or .i64 (wrap64 (x11_5 * 1)) (wrap64 (x11_5 * 16))) t151) t152)))) = some (r1, r2) := by first | (rw [hji35] at H; exact H) | (simp only [hji35] at H ⊢; exact H)
                      have hji35_ : (a3 / 2 ^ min (ji12).toNat 64) = ji35 := hji35
                      have hji35z : (ji12) ≤ 64 → (a3 / 2 ^ (ji12).toNat) = ji35 := shr_small hji35
                      replace H := Option.bind_eq_some_iff.mp H
                      obtain ⟨t151, A360, H⟩ := H
                      replace H : ((impl_signs.f a1 x13_15).bind fun t152 => (some (x13_15, Go.bits .or .i64 (Go.bits .or .i64 (Go.bits .or .i64 (wrap64 (x11_5 * 1)) (wrap64 (x11_5 * 16))) t151) t152))) = some (r1, r2) := H
                      have A36 := Aside0.mk A360
                      clear A360
                      replace H := Option.bind_eq_some_iff.mp H
                      obtain ⟨t152, A370, H⟩ := H
                      replace H : (some (x13_15, Go.bits .or .i64 (Go.bits .or .i64 (Go.bits .or .i64 (wrap64 (x11_5 * 1)) (wrap64 (x11_5 * 16))) t151) t152)) = some (r1, r2) := H
                      have A37 := Aside0.mk A370
                      clear A370
                      simp only [Option.some.injEq, Prod.mk.injEq] at H
                      obtain ⟨rfl, rfl⟩ := H
                      go_wp2_with (first | (go_at_call 125; (with_reducible refine (impl_flag.calls ((ji33) != (ji35)) 2 t151 _ A36.out).mono ?_); rintro e w' ⟨rfl, ⟨nd, rfl⟩⟩; (try first | exact ⟨rfl, _, World.drewN_drewN _ _ _⟩ | exact ⟨rfl, _, Eq.trans (World.drewN_drewN _ _ _) (congrArg (World.drewN _) (Nat.add_assoc _ _ _))⟩)) | (go_at_call 126; (with_reducible refine (impl_signs.calls a1 x13_15 t152 _ A37.out).mono ?_); rintro e w' ⟨rfl, ⟨nd, rfl⟩⟩; (try first | exact ⟨rfl, _, World.drewN_drewN _ _ _⟩ | exact ⟨rfl, _, Eq.trans (World.drewN_drewN _ _ _) (congrArg (World.drewN _) (Nat.add_assoc _ _ _))⟩)))
                      repeat (go_quiet (first | (go_at_call 125; (with_reducible refine (impl_flag.calls ((ji33) != (ji35)) 2 t151 _ A36.out).mono ?_); rintro e w' ⟨rfl, ⟨nd, rfl⟩⟩; (try first | exact ⟨rfl, _, World.drewN_drewN _ _ _⟩ | exact ⟨rfl, _, Eq.trans (World.drewN_drewN _ _ _) (congrArg (World.drewN _) (Nat.add_assoc _ _ _))⟩)) | (go_at_call 126; (with_reducible refine (impl_signs.calls a1 x13_15 t152 _ A37.out).mono ?_); rintro e w' ⟨rfl, ⟨nd, rfl⟩⟩; (try first | exact ⟨rfl, _, World.drewN_drewN _ _ _⟩ | exact ⟨rfl, _, Eq.trans (World.drewN_drewN _ _ _) (congrArg (World.drewN _) (Nat.add_assoc _ _ _))⟩))); try go_wp2_with (first | (go_at_call 125; (with_reducible refine (impl_flag.calls ((ji33) != (ji35)) 2 t151 _ A36.out).mono ?_); rintro e w' ⟨rfl, ⟨nd, rfl⟩⟩; (try first | exact ⟨rfl, _, World.drewN_drewN _ _ _⟩ | exact ⟨rfl, _, Eq.trans (World.drewN_drewN _ _ _) (congrArg (World.drewN _) (Nat.add_assoc _ _ _))⟩)) | (go_at_call 126; (with_reducible refine (impl_signs.calls a1 x13_15 t152 _ A37.out).mono ?_); rintro e w' ⟨rfl, ⟨nd, rfl⟩⟩; (try first | exact ⟨rfl, _, World.drewN_drewN _ _ _⟩ | exact ⟨rfl, _, Eq.trans (World.drewN_drewN _ _ _) (congrArg (World.drewN _) (Nat.add_assoc _ _ _))⟩))))
                      go_ret2
                      exact ⟨by first | rfl | (simp; done) | (simp only [← hji12, ← hji14, ← hji33, ← hji35] <;> (first | rfl | simp)) | (simp [*]; done), by repeat (first | exact Drawn0.refl _ | apply Drawn0.step)⟩
                    · rw [if_neg c32] at H
                      exact absurd H (by simp)
                  · rw [if_neg c31] at H
                    have c31b0 : (a0 == 0) = false := beq_eq_false_iff_ne.mpr c31
                    have c31b1 : (a0 != 0) = true := bne_iff_ne.mpr c31
                    replace H := Option.bind_eq_some_iff.mp H
                    obtain ⟨t153, A380, H⟩ := H
                    replace H : ((impl_signs.f a1 x13_15).bind fun t154 => (some (x13_15, Go.bits .or .i64 (Go.bits .or .i64 (Go.bits .or .i64 (wrap64 (x11_5 * 1)) (wrap64 (x11_5 * 16))) t153) t154))) = some (r1, r2) := H
                    have A38 := Aside0.mk A380
                    clear A380
                    replace H := Option.bind_eq_some_iff.mp H
                    obtain ⟨t154, A390, H⟩ := H
                    replace H : (some (x13_15, Go.bits .or .i64 (Go.bits .or .i64 (Go.bits .or .i64 (wrap64 (x11_5 * 1)) (wrap64 (x11_5 * 16))) t153) t154)) = some (r1, r2) := H
                    have A39 := Aside0.mk A390
                    clear A390
                    simp only [Option.some.injEq, Prod.mk.injEq] at H
                    obtain ⟨rfl, rfl⟩ := H
                    go_wp2_with (first | (go_at_call 125; (with_reducible refine (impl_flag.calls false 2 t153 _ A38.out).mono ?_); rintro e w' ⟨rfl, ⟨nd, rfl⟩⟩; (try first | exact ⟨rfl, _, World.drewN_drewN _ _ _⟩ | exact ⟨rfl, _, Eq.trans (World.drewN_drewN _ _ _) (congrArg (World.drewN _) (Nat.add_assoc _ _ _))⟩)) | (go_at_call 126; (with_reducible refine (impl_signs.calls a1 x13_15 t154 _ A39.out).mono ?_); rintro e w' ⟨rfl, ⟨nd, rfl⟩⟩; (try first | exact ⟨rfl, _, World.drewN_drewN _ _ _⟩ | exact ⟨rfl, _, Eq.trans (World.drewN_drewN _ _ _) (congrArg (World.drewN _) (Nat.add_assoc _ _ _))⟩)))
                    repeat (go_quiet (first | (go_at_call 125; (with_reducible refine (impl_flag.calls false 2 t153 _ A38.out).mono ?_); rintro e w' ⟨rfl, ⟨nd, rfl⟩⟩; (try first | exact ⟨rfl, _, World.drewN_drewN _ _ _⟩ | exact ⟨rfl, _, Eq.trans (World.drewN_drewN _ _ _) (congrArg (World.drewN _) (Nat.add_assoc _ _ _))⟩)) | (go_at_call 126; (with_reducible refine (impl_signs.calls a1 x13_15 t154 _ A39.out).mono ?_); rintro e w' ⟨rfl, ⟨nd, rfl⟩⟩; (try first | exact ⟨rfl, _, World.drewN_drewN _ _ _⟩ | exact ⟨rfl, _, Eq.trans (World.drewN_drewN _ _ _) (congrArg (World.drewN _) (Nat.add_assoc _ _ _))⟩))); try go_wp2_with (first | (go_at_call 125; (with_reducible refine (impl_flag.calls false 2 t153 _ A38.out).mono ?_); rintro e w' ⟨rfl, ⟨nd, rfl⟩⟩; (try first | exact ⟨rfl, _, World.drewN_drewN _ _ _⟩ | exact ⟨rfl, _, Eq.trans (World.drewN_drewN _ _ _) (congrArg (World.drewN _) (Nat.add_assoc _ _ _))⟩)) | (go_at_call 126; (with_reducible refine (impl_signs.calls a1 x13_15 t154 _ A39.out).mono ?_); rintro e w' ⟨rfl, ⟨nd, rfl⟩⟩; (try first | exact ⟨rfl, _, World.drewN_drewN _ _ _⟩ | exact ⟨rfl, _, Eq.trans (World.drewN_drewN _ _ _) (congrArg (World.drewN _) (Nat.add_assoc _ _ _))⟩))))
                    go_ret2
                    exact ⟨by first | rfl | (simp; done) | (simp only [← hji12, ← hji14] <;> (first | rfl | simp)) | (simp [*]; done), by repeat (first | exact Drawn0.refl _ | apply Drawn0.step)⟩
      · rw [if_neg c13] at H
        exact absurd H (by simp)

/-! ### impl_shiftBy: function 78 -/
def impl_shiftBy.l0 : Nat → Int → Int → Int → Int → Int → Int → Option (Int × Int)
  | 0, _, _, _, _, _, _ => none
  | k + 1, x0, x1, x2, x3, x4, x14 => if x4 > 0 then ((impl_shiftOnce.f k x0 x1 x2 x3).bind fun bt159 => (impl_shiftBy.l0 k x0 x1 bt159.2 bt159.1 (wrap64 (x4 - 1)) (Go.bits .or .i64 x14 (Go.bits .and .i64 bt159.2 2)))) else (some (x3, Go.bits .or .i64 x2 x14))
def impl_shiftBy.f (k : Nat) (a0 : Int) (a1 : Int) (a2 : Int) (a3 : Int) (a4 : Int) : Option (Int × Int) := if a4 = 0 then (if (Go.bits .and .i64 a2 16) = 0 then ((impl_flag.f false 1).bind fun t155 => ((impl_signs.f a1 a3).bind fun t156 => (some (a3, Go.bits .or .i64 (Go.bits .or .i64 (Go.bits .and .i64 a2 16) t155) t156)))) else ((impl_flag.f (decide (a0 ≥ 6)) 1).bind fun t157 => ((impl_signs.f a1 a3).bind fun t158 => (some (a3, Go.bits .or .i64 (Go.bits .or .i64 (Go.bits .and .i64 a2 16) t157) t158))))) else (impl_shiftBy.l0 k a0 a1 a2 a3 a4 0)
theorem impl_shiftBy.mono_l : ∀ k, (∀ y0 y1 y2 y3 y4 y5, LeO (impl_shiftBy.l0 k y0 y1 y2 y3 y4 y5) (impl_shiftBy.l0 (k + 1) y0 y1 y2 y3 y4 y5))
  | 0 => fun _ _ _ _ _ _ r h => by simp [impl_shiftBy.l0] at h
  | k + 1 => by
    have ih0 := impl_shiftBy.mono_l k
    · intro y0 y1 y2 y3 y4 y5
      unfold impl_shiftBy.l0
      repeat' first
      | (with_reducible exact ih0 _ _ _ _ _ _)
      | (with_reducible exact impl_shiftOnce.mono _ _ _ _ _)
      | (with_reducible exact LeO.refl _)
      | (with_reducible exact LeO.none _)
      | (with_reducible refine LeO.ite ?_ ?_)
      | (with_reducible refine LeO.bind ?_ (fun _ => ?_))
      | exact ih0 _ _ _ _ _ _
      | exact impl_shiftOnce.mono _ _ _ _ _
      | exact LeO.none _
      | refine LeO.ite ?_ ?_
      | refine LeO.bind ?_ (fun _ => ?_)
theorem impl_shiftBy.mono : ∀ a0 a1 a2 a3 a4 k, LeO (impl_shiftBy.f k a0 a1 a2 a3 a4) (impl_shiftBy.f (k + 1) a0 a1 a2 a3 a4) := by
  intro a0 a1 a2 a3 a4 k
  have ih0 := impl_shiftBy.mono_l k
  unfold impl_shiftBy.f
  repeat' first
      | (with_reducible exact ih0 _ _ _ _ _ _)
      | (with_reducible exact impl_shiftOnce.mono _ _ _ _ _)
      | (with_reducible exact LeO.refl _)
      | (with_reducible exact LeO.none _)
      | (with_reducible refine LeO.ite ?_ ?_)
      | (with_reducible refine LeO.bind ?_ (fun _ => ?_))
      | exact ih0 _ _ _ _ _ _
      | exact impl_shiftOnce.mono _ _ _ _ _
      | exact LeO.none _
      | refine LeO.ite ?_ ?_
      | refine LeO.bind ?_ (fun _ => ?_)
set_option maxHeartbeats 8000000 in
set_option maxRecDepth 100000 in
theorem impl_shiftBy.calls (k : Nat) (a0 : Int) (a1 : Int) (a2 : Int) (a3 : Int) (a4 : Int) (r1 : Int) (r2 : Int) (w : World) (h : impl_shiftBy.f k a0 a1 a2 a3 a4 = some (r1, r2)) :
    Calls Try.prog 78 #[.int .i64 a0, .int .i64 a1, .int .i64 a2, .int .i64 a3, .int .i64 a4] w fun e w' => e = .returned (.tuple #[.int .i64 r1, .int .i64 r2]) ∧ Drawn0 w w' := by
  have H : (if a4 = 0 then (if (Go.bits .and .i64 a2 16) = 0 then ((impl_flag.f false 1).bind fun t155 => ((impl_signs.f a1 a3).bind fun t156 => (some (a3, Go.bits .or .i64 (Go.bits .or .i64 (Go.bits .and .i64 a2 16) t155) t156)))) else ((impl_flag.f (decide (a0 ≥ 6)) 1).bind fun t157 => ((impl_signs.f a1 a3).bind fun t158 => (some (a3, Go.bits .or .i64 (Go.bits .or .i64 (Go.bits .and .i64 a2 16) t157) t158))))) else (impl_shiftBy.l0 k a0 a1 a2 a3 a4 0)) = some (r1, r2) := h
  clear h
  by_cases c6 : a4 = 0
  · rw [if_pos c6] at H
    have c6b0 : (a4 == 0) = true := beq_iff_eq.mpr c6
    have c6b1 : (a4 != 0) = false := bne_eq_false_iff_eq.mpr c6
    clear c6
    by_cases c7 : (Go.bits .and .i64 a2 16) = 0
    · rw [if_pos c7] at H
      have c7b0 : ((Go.bits .and .i64 a2 16) == 0) = true := beq_iff_eq.mpr c7
      have c7b1 : ((Go.bits .and .i64 a2 16) != 0) = false := bne_eq_false_iff_eq.mpr c7
      clear c7
      replace H := Option.bind_eq_some_iff.mp H
      obtain ⟨t155, A80, H⟩ := H
      replace H : ((impl_signs.f a1 a3).bind fun t156 => (some (a3, Go.bits .or .i64 (Go.bits .or .i64 (Go.bits .and .i64 a2 16) t155) t156))) = some (r1, r2) := H
      have A8 := Aside0.mk A80
      clear A80
      replace H := Option.bind_eq_some_iff.mp H
      obtain ⟨t156, A90, H⟩ := H
      replace H : (some (a3, Go.bits .or .i64 (Go.bits .or .i64 (Go.bits .and .i64 a2 16) t155) t156)) = some (r1, r2) := H
      have A9 := Aside0.mk A90
      clear A90
      simp only [Option.some.injEq, Prod.mk.injEq] at H
      obtain ⟨rfl, rfl⟩ := H
      go_enter Try.func78, Try.ntmps78
      go_wp2_with (first | ((with_reducible refine gate_callee (f := 125) rfl ?_); refine goesL_ (some 25) rfl rfl Try.func125 (by kernel_rfl) rfl #[.bool false, .int .i64 1] rfl (by (try simp only [List.map_toArray, List.map_cons, List.map_nil]); first | done | rfl | (simp only [List.length_drop, List.length_take]; rfl)) ?_; (with_reducible refine (impl_flag.calls false 1 t155 _ A8.out).mono ?_); rintro e w' ⟨rfl, ⟨nd, rfl⟩⟩; refine ⟨_, rfl, ?_⟩) | ((with_reducible refine gate_callee (f := 126) rfl ?_); refine goesL_ (some 32) rfl rfl Try.func126 (by kernel_rfl) rfl #[.int .i64 a1, .int .i64 a3] rfl (by (try simp only [List.map_toArray, List.map_cons, List.map_nil]); first | done | rfl | (simp only [List.length_drop, List.length_take]; rfl)) ?_; (with_reducible refine (impl_signs.calls a1 a3 t156 _ A9.out).mono ?_); rintro e w' ⟨rfl, ⟨nd, rfl⟩⟩; refine ⟨_, rfl, ?_⟩))
      go_ret2
      exact ⟨by first | rfl | (simp; done) | (simp [*]; done), by repeat (first | exact Drawn0.refl _ | apply Drawn0.step)⟩
    · rw [if_neg c7] at H
      have c7b0 : ((Go.bits .and .i64 a2 16) == 0) = false := beq_eq_false_iff_ne.mpr c7
      have c7b1 : ((Go.bits .and .i64 a2 16) != 0) = true := bne_iff_ne.mpr c7
      replace H := Option.bind_eq_some_iff.mp H
      obtain ⟨t157, A100, H⟩ := H
      replace H : ((impl_signs.f a1 a3).bind fun t158 => (some (a3, Go.bits .or .i64 (Go.bits .or .i64 (Go.bits .and .i64 a2 16) t157) t158))) = some (r1, r2) := H
      have A10 := Aside0.mk A100
      clear A100
      replace H := Option.bind_eq_some_iff.mp H
      obtain ⟨t158, A110, H⟩ := H
      replace H : (some (a3, Go.bits .or .i64 (Go.bits .or .i64 (Go.bits .and .i64 a2 16) t157) t158)) = some (r1, r2) := H
      have A11 := Aside0.mk A110
      clear A110
      simp only [Option.some.injEq, Prod.mk.injEq] at H
      obtain ⟨rfl, rfl⟩ := H
      go_enter Try.func78, Try.ntmps78
      go_wp2_with (first | ((with_reducible refine gate_callee (f := 125) rfl ?_); refine goesL_ (some 25) rfl rfl Try.func125 (by kernel_rfl) rfl #[.bool (decide (a0 ≥ 6)), .int .i64 1] rfl (by (try simp only [List.map_toArray, List.map_cons, List.map_nil]); first | done | rfl | (simp only [List.length_drop, List.length_take]; rfl)) ?_; (with_reducible refine (impl_flag.calls (decide (a0 ≥ 6)) 1 t157 _ A10.out).mono ?_); rintro e w' ⟨rfl, ⟨nd, rfl⟩⟩; refine ⟨_, rfl, ?_⟩) | ((with_reducible refine gate_callee (f := 126) rfl ?_); refine goesL_ (some 32) rfl rfl Try.func126 (by kernel_rfl) rfl #[.int .i64 a1, .int .i64 a3] rfl (by (try simp only [List.map_toArray, List.map_cons, List.map_nil]); first | done | rfl | (simp only [List.length_drop, List.length_take]; rfl)) ?_; (with_reducible refine (impl_signs.calls a1 a3 t158 _ A11.out).mono ?_); rintro e w' ⟨rfl, ⟨nd, rfl⟩⟩; refine ⟨_, rfl, ?_⟩))
      go_ret2
      exact ⟨by first | rfl | (simp; done) | (simp [*]; done), by repeat (first | exact Drawn0.refl _ | apply Drawn0.step)⟩
  · rw [if_neg c6] at H
    have c6b0 : (a4 == 0) = false := beq_eq_false_iff_ne.mpr c6
    have c6b1 : (a4 != 0) = true := bne_iff_ne.mpr c6
    have H' := Aside0.mk H
    clear H
    go_enter Try.func78, Try.ntmps78
    go_wp2
    go_loopg [2, 3, 4, 14] k (fun kq v2 v3 v4 v14 w' => ∃ (x2_1 : Int) (x3_1 : Int) (x4_1 : Int) (x14_1 : Int), v2 = .int .i64 x2_1 ∧ v3 = .int .i64 x3_1 ∧ v4 = .int .i64 x4_1 ∧ v14 = .int .i64 x14_1 ∧ Aside0 (impl_shiftBy.l0 kq a0 a1 x2_1 x3_1 x4_1 x14_1 = some (r1, r2)) ∧ Aside0 (kq ≤ k) ∧ Drawn0 w w')
    case atStart => exact ⟨(a2), (a3), (a4), (0), (by first | rfl | (simp; done) | (simp [*]; done)), (by first | rfl | (simp; done) | (simp [*]; done)), (by first | rfl | (simp; done) | (simp [*]; done)), (by first | rfl | (simp; done) | (simp [*]; done)), H', ⟨Nat.le_refl _⟩, by repeat (first | exact Drawn0.refl _ | apply Drawn0.step)⟩
    case round =>
      clear H'
      try clear c1
      try clear p2
      try clear c6
      try clear c6b0
      try clear c6b1
      try clear c7
      try clear c7b0
      try clear c7b1
      obtain ⟨x2_1, x3_1, x4_1, x14_1, rfl, rfl, rfl, rfl, HA, HK1, ⟨m1, rfl⟩⟩ := hrel
      cases gk with
      | zero => exact absurd HA.out (by simp [impl_shiftBy.l0])
      | succ k1 =>
        have H := HA.out
        clear HA
        simp only [impl_shiftBy.l0] at H
        by_cases c12 : x4_1 > 0
        · rw [if_pos c12] at H
          have c12b0 : decide (0 < x4_1) = true := decide_eq_true c12
          clear c12
          replace H := Option.bind_eq_some_iff.mp H
          obtain ⟨⟨t159, t160⟩, A130, H⟩ := H
          replace H : (impl_shiftBy.l0 k1 a0 a1 t160 t159 (wrap64 (x4_1 - 1)) (Go.bits .or .i64 x14_1 (Go.bits .and .i64 t160 2))) = some (r1, r2) := H
          have A13 := Aside0.mk A130
          clear A130
          have H' := Aside0.mk H
          clear H
          go_wp2_with (first | ((with_reducible refine gate_callee (f := 127) rfl ?_); refine goesL_ (some 43) rfl rfl Try.func127 (by kernel_rfl) rfl #[.int .i64 a0, .int .i64 a1, .int .i64 x2_1, .int .i64 x3_1] rfl (by (try simp only [List.map_toArray, List.map_cons, List.map_nil]); first | done | rfl | (simp only [List.length_drop, List.length_take]; rfl)) ?_; (with_reducible refine (impl_shiftOnce.calls k1 a0 a1 x2_1 x3_1 t159 t160 _ A13.out).mono ?_); rintro e w' ⟨rfl, ⟨nd, rfl⟩⟩; refine ⟨_, rfl, ?_⟩))
          go_roundg k1
          case measure => have := HK1.out; omega
          case rel => exact ⟨(t160), (t159), (wrap64 (x4_1 - 1)), (Go.bits .or .i64 x14_1 (Go.bits .and .i64 t160 2)), (by first | rfl | (simp; done) | (simp [*]; done)), (by first | rfl | (simp; done) | (simp [*]; done)), (by first | rfl | (simp; done) | (simp [*]; done)), (by first | rfl | (simp; done) | (simp [*]; done)), H', ⟨by have := HK1.out; omega⟩, by repeat (first | exact Drawn0.refl _ | apply Drawn0.step)⟩
        · rw [if_neg c12] at H
          have c12b0 : decide (0 < x4_1) = false := decide_eq_false c12
          clear c12
          simp only [Option.some.injEq, Prod.mk.injEq] at H
          obtain ⟨rfl, rfl⟩ := H
          go_wp2
          go_ret2
          exact ⟨by first | rfl | (simp; done) | (simp [*]; done), by repeat (first | exact Drawn0.refl _ | apply Drawn0.step)⟩

/-! ### impl_RotateBack: function 26 -/
def impl_RotateBack.j0 : Nat → Int → Int → Int → Int → Int → Bool → Option (Int × Bool)
  | 0, _, _, _, _, _, _ => none
  | k + 1, x0, x1, x2, x3, x4, x30 => if x30 = true then (some (0, false)) else ((impl_shiftBy.f k x0 x1 x2 x3 x4).bind fun bt163 => ((impl_shiftBy.f k (Go.bits .xor .i64 x0 1) x1 bt163.2 bt163.1 x4).bind fun bt165 => (some (bt165.1, true))))
def impl_RotateBack.f (k : Nat) (a0 : Int) (a1 : Int) (a2 : Int) (a3 : Int) (a4 : Int) : Option (Int × Bool) := (impl_isShift.f a0 a1 a2 a3).bind fun t161 => (if t161 = true then (if a0 < 4 then (impl_RotateBack.j0 k a0 a1 a2 a3 a4 true) else ((impl_within.f a4 0 63).bind fun t162 => (impl_RotateBack.j0 k a0 a1 a2 a3 a4 (!t162)))) else (impl_RotateBack.j0 k a0 a1 a2 a3 a4 true))
theorem impl_RotateBack.mono_l : ∀ k, (∀ y0 y1 y2 y3 y4 y5, LeO (impl_RotateBack.j0 k y0 y1 y2 y3 y4 y5) (impl_RotateBack.j0 (k + 1) y0 y1 y2 y3 y4 y5))
  | 0 => fun _ _ _ _ _ _ r h => by simp [impl_RotateBack.j0] at h
  | k + 1 => by
    have ih0 := impl_RotateBack.mono_l k
    · intro y0 y1 y2 y3 y4 y5
      unfold impl_RotateBack.j0
      repeat' first
      | (with_reducible exact ih0 _ _ _ _ _ _)
      | (with_reducible exact impl_shiftBy.mono _ _ _ _ _ _)
      | (with_reducible exact LeO.refl _)
      | (with_reducible exact LeO.none _)
      | (with_reducible refine LeO.ite ?_ ?_)
      | (with_reducible refine LeO.bind ?_ (fun _ => ?_))
      | exact ih0 _ _ _ _ _ _
      | exact impl_shiftBy.mono _ _ _ _ _ _
      | exact LeO.none _
      | refine LeO.ite ?_ ?_
      | refine LeO.bind ?_ (fun _ => ?_)
theorem impl_RotateBack.mono : ∀ a0 a1 a2 a3 a4 k, LeO (impl_RotateBack.f k a0 a1 a2 a3 a4) (impl_RotateBack.f (k + 1) a0 a1 a2 a3 a4) := by
  intro a0 a1 a2 a3 a4 k
  have ih0 := impl_RotateBack.mono_l k
  unfold impl_RotateBack.f
  repeat' first
      | (with_reducible exact ih0 _ _ _ _ _ _)
      | (with_reducible exact impl_shiftBy.mono _ _ _ _ _ _)
      | (with_reducible exact LeO.refl _)
      | (with_reducible exact LeO.none _)
      | (with_reducible refine LeO.ite ?_ ?_)
      | (with_reducible refine LeO.bind ?_ (fun _ => ?_))
      | exact ih0 _ _ _ _ _ _
      | exact impl_shiftBy.mono _ _ _ _ _ _
      | exact LeO.none _
      | refine LeO.ite ?_ ?_
      | refine LeO.bind ?_ (fun _ => ?_)
set_option maxHeartbeats 8000000 in
set_option maxRecDepth 100000 in
theorem impl_RotateBack.calls (k : Nat) (a0 : Int) (a1 : Int) (a2 : Int) (a3 : Int) (a4 : Int) (r1 : Int) (r2 : Bool) (w : World) (h : impl_RotateBack.f k a0 a1 a2 a3 a4 = some (r1, r2)) :
    Calls Try.prog 26 #[.int .i64 a0, .int .i64 a1, .int .i64 a2, .int .i64 a3, .int .i64 a4] w fun e w' => e = .returned (.tuple #[.int .i64 r1, .bool r2]) ∧ Drawn0 w w' := by
  have H : ((impl_isShift.f a0 a1 a2 a3).bind fun t161 => (if t161 = true then (if a0 < 4 then (impl_RotateBack.j0 k a0 a1 a2 a3 a4 true) else ((impl_within.f a4 0 63).bind fun t162 => (impl_RotateBack.j0 k a0 a1 a2 a3 a4 (!t162)))) else (impl_RotateBack.j0 k a0 a1 a2 a3 a4 true))) = some (r1, r2) := h
  clear h
  have HC6 := Aside0.mk H
  clear H
  go_enter Try.func26, Try.ntmps26
  go_upto_region 1 with (fail)
  go_cut [30] (fun v30 wc => ∃ (kq : Nat) (x30_5 : Bool), v30 = .bool x30_5 ∧ Aside0 (impl_RotateBack.j0 kq a0 a1 a2 a3 a4 x30_5 = some (r1, r2)) ∧ Aside0 (kq ≤ k) ∧ Drawn0 w wc)
  case first =>
    have H := HC6.out
    clear HC6
    replace H := Option.bind_eq_some_iff.mp H
    obtain ⟨t161, A70, H⟩ := H
    replace H : (if t161 = true then (if a0 < 4 then (impl_RotateBack.j0 k a0 a1 a2 a3 a4 true) else ((impl_within.f a4 0 63).bind fun t162 => (impl_RotateBack.j0 k a0 a1 a2 a3 a4 (!t162)))) else (impl_RotateBack.j0 k a0 a1 a2 a3 a4 true)) = some (r1, r2) := H
    have A7 := Aside0.mk A70
    clear A70
    by_cases c8 : t161 = true
    · subst c8
      have H1 : (if a0 < 4 then (impl_RotateBack.j0 k a0 a1 a2 a3 a4 true) else ((impl_within.f a4 0 63).bind fun t162 => (impl_RotateBack.j0 k a0 a1 a2 a3 a4 (!t162)))) = some (r1, r2) := by rw [if_pos rfl] at H; exact H
      clear H
      have H := H1
      clear H1
      by_cases c9 : a0 < 4
      · rw [if_pos c9] at H
        have c9b0 : decide (a0 < 4) = true := decide_eq_true c9
        clear c9
        (first | rw [c9b0] | (simp only [i64_w, i32_w]; rw [c9b0]) | skip)
        have H' := Aside0.mk H
        clear H
        go_wp2_with (first | ((with_reducible refine gate_callee (f := 77) rfl ?_); refine goesL_ (some 20) rfl rfl Try.func77 (by kernel_rfl) rfl #[.int .i64 a0, .int .i64 a1, .int .i64 a2, .int .i64 a3] rfl (by (try simp only [List.map_toArray, List.map_cons, List.map_nil]); first | done | rfl | (simp only [List.length_drop, List.length_take]; rfl)) ?_; (with_reducible refine (impl_isShift.calls a0 a1 a2 a3 true _ A7.out).mono ?_); rintro e w' ⟨rfl, ⟨nd, rfl⟩⟩; refine ⟨_, rfl, ?_⟩))
        go_meet
        case rel => exact ⟨_, (true), (by first | rfl | (simp; done) | (simp [*]; done)), H', ⟨by first | omega | exact Nat.le_refl _⟩, by repeat (first | exact Drawn0.refl _ | apply Drawn0.step)⟩
      · rw [if_neg c9] at H
        have c9b0 : decide (a0 < 4) = false := decide_eq_false c9
        clear c9
        (first | rw [c9b0] | (simp only [i64_w, i32_w]; rw [c9b0]) | skip)
        replace H := Option.bind_eq_some_iff.mp H
        obtain ⟨t162, A100, H⟩ := H
        replace H : (impl_RotateBack.j0 k a0 a1 a2 a3 a4 (!t162)) = some (r1, r2) := H
        have A10 := Aside0.mk A100
        clear A100
        have H' := Aside0.mk H
        clear H
        go_wp2_with (first | ((with_reducible refine gate_callee (f := 77) rfl ?_); refine goesL_ (some 20) rfl rfl Try.func77 (by kernel_rfl) rfl #[.int .i64 a0, .int .i64 a1, .int .i64 a2, .int .i64 a3] rfl (by (try simp only [List.map_toArray, List.map_cons, List.map_nil]); first | done | rfl | (simp only [List.length_drop, List.length_take]; rfl)) ?_; (with_reducible refine (impl_isShift.calls a0 a1 a2 a3 true _ A7.out).mono ?_); rintro e w' ⟨rfl, ⟨nd, rfl⟩⟩; refine ⟨_, rfl, ?_⟩) | (go_at_call 72; (with_reducible refine (impl_within.calls a4 0 63 t162 _ A10.out).mono ?_); rintro e w' ⟨rfl, ⟨nd, rfl⟩⟩))
        go_meet
        case rel => exact ⟨_, (!t162), (by first | rfl | (simp; done) | (simp [*]; done)), H', ⟨by first | omega | exact Nat.le_refl _⟩, by repeat (first | exact Drawn0.refl _ | apply Drawn0.step)⟩
    · replace c8 := Bool.eq_false_iff.mpr c8
      subst c8
      have H1 : (impl_RotateBack.j0 k a0 a1 a2 a3 a4 true) = some (r1, r2) := by rw [if_neg (show ¬ (false = true) by decide)] at H; exact H
      clear H
      have H := H1
      clear H1
      have H' := Aside0.mk H
      clear H
      go_wp2_with (first | ((with_reducible refine gate_callee (f := 77) rfl ?_); refine goesL_ (some 20) rfl rfl Try.func77 (by kernel_rfl) rfl #[.int .i64 a0, .int .i64 a1, .int .i64 a2, .int .i64 a3] rfl (by (try simp only [List.map_toArray, List.map_cons, List.map_nil]); first | done | rfl | (simp only [List.length_drop, List.length_take]; rfl)) ?_; (with_reducible refine (impl_isShift.calls a0 a1 a2 a3 false _ A7.out).mono ?_); rintro e w' ⟨rfl, ⟨nd, rfl⟩⟩; refine ⟨_, rfl, ?_⟩))
      go_meet
      case rel => exact ⟨_, (true), (by first | rfl | (simp; done) | (simp [*]; done)), H', ⟨by first | omega | exact Nat.le_refl _⟩, by repeat (first | exact Drawn0.refl _ | apply Drawn0.step)⟩
  case rest =>
    clear HC6
    try clear c2
    try clear p2
    try clear c7
    try clear c8
    try clear c9
    try clear c9b0
    obtain ⟨kq, x30_5, rfl, HA, HJ5, ⟨mc5, rfl⟩⟩ := hcut
    cases kq with
    | zero => exact absurd HA.out (by simp [impl_RotateBack.j0])
    | succ kj5 =>
      have H := HA.out
      clear HA
      simp only [impl_RotateBack.j0] at H
      by_cases c11 : x30_5 = true
      · subst c11
        have H1 : (some (0, false)) = some (r1, r2) := by rw [if_pos rfl] at H; exact H
        clear H
        have H := H1
        clear H1
        simp only [Option.some.injEq, Prod.mk.injEq] at H
        obtain ⟨rfl, rfl⟩ := H
        go_wp2
        go_ret2
        exact ⟨by first | rfl | (simp; done) | (simp [*]; done), by repeat (first | exact Drawn0.refl _ | apply Drawn0.step)⟩
      · replace c11 := Bool.eq_false_iff.mpr c11
        subst c11
        have H1 : ((impl_shiftBy.f kj5 a0 a1 a2 a3 a4).bind fun bt163 => ((impl_shiftBy.f kj5 (Go.bits .xor .i64 a0 1) a1 bt163.2 bt163.1 a4).bind fun bt165 => (some (bt165.1, true)))) = some (r1, r2) := by rw [if_neg (show ¬ (false = true) by decide)] at H; exact H
        clear H
        have H := H1
        clear H1
        replace H := Option.bind_eq_some_iff.mp H
        obtain ⟨⟨t163, t164⟩, A120, H⟩ := H
        replace H : ((impl_shiftBy.f kj5 (Go.bits .xor .i64 a0 1) a1 t164 t163 a4).bind fun bt165 => (some (bt165.1, true))) = some (r1, r2) := H
        have A12 := Aside0.mk A120
        clear A120
        replace H := Option.bind_eq_some_iff.mp H
        obtain ⟨⟨t165, t166⟩, A130, H⟩ := H
        replace H : (some (t165, true)) = some (r1, r2) := H
        have A13 := Aside0.mk A130
        clear A130
        simp only [Option.some.injEq, Prod.mk.injEq] at H
        obtain ⟨rfl, rfl⟩ := H
        go_wp2_with (first | ((with_reducible refine gate_callee (f := 78) rfl ?_); refine goesL_ (some 37) rfl rfl Try.func78 (by kernel_rfl) rfl #[.int .i64 a0, .int .i64 a1, .int .i64 a2, .int .i64 a3, .int .i64 a4] rfl (by (try simp only [List.map_toArray, List.map_cons, List.map_nil]); first | done | rfl | (simp only [List.length_drop, List.length_take]; rfl)) ?_; (with_reducible refine (impl_shiftBy.calls kj5 a0 a1 a2 a3 a4 t163 t164 _ A12.out).mono ?_); rintro e w' ⟨rfl, ⟨nd, rfl⟩⟩; refine ⟨_, rfl, ?_⟩) | ((with_reducible refine gate_callee (f := 78) rfl ?_); refine goesL_ (some 47) rfl rfl Try.func78 (by kernel_rfl) rfl #[.int .i64 (Go.bits .xor .i64 a0 1), .int .i64 a1, .int .i64 t164, .int .i64 t163, .int .i64 a4] rfl (by (try simp only [List.map_toArray, List.map_cons, List.map_nil]); first | done | rfl | (simp only [List.length_drop, List.length_take]; rfl)) ?_; (with_reducible refine (impl_shiftBy.calls kj5 (Go.bits .xor .i64 a0 1) a1 t164 t163 a4 t165 t166 _ A13.out).mono ?_); rintro e w' ⟨rfl, ⟨nd, rfl⟩⟩; refine ⟨_, rfl, ?_⟩))
        go_ret2
        exact ⟨by first | rfl | (simp; done) | (simp [*]; done), by repeat (first | exact Drawn0.refl _ | apply Drawn0.step)⟩

/-! ### laws_FnExactRotateBack: function 6 -/
def laws_FnExactRotateBack.f (k : Nat) (a0 : Int) (a1 : Int) (a2 : Int) (a3 : Int) (a4 : Int) : Option (Bool) := (spec_RotateBack.f k a0 a1 a2 a3 a4).bind fun bt167 => ((impl_RotateBack.f k a0 a1 a2 a3 a4).bind fun bt169 => (if bt169.1 = bt167.1 then (if (bt169.2 != bt167.2) = true then (some false) else (some true)) else (some false)))
theorem laws_FnExactRotateBack.mono : ∀ a0 a1 a2 a3 a4 k, LeO (laws_FnExactRotateBack.f k a0 a1 a2 a3 a4) (laws_FnExactRotateBack.f (k + 1) a0 a1 a2 a3 a4) := by
  intro a0 a1 a2 a3 a4 k
  unfold laws_FnExactRotateBack.f
  repeat' first
      | (with_reducible exact impl_RotateBack.mono _ _ _ _ _ _)
      | (with_reducible exact spec_RotateBack.mono _ _ _ _ _ _)
      | (with_reducible exact LeO.refl _)
      | (with_reducible exact LeO.none _)
      | (with_reducible refine LeO.ite ?_ ?_)
      | (with_reducible refine LeO.bind ?_ (fun _ => ?_))
      | exact impl_RotateBack.mono _ _ _ _ _ _
      | exact spec_RotateBack.mono _ _ _ _ _ _
      | exact LeO.none _
      | refine LeO.ite ?_ ?_
      | refine LeO.bind ?_ (fun _ => ?_)
set_option maxHeartbeats 8000000 in
set_option maxRecDepth 100000 in
theorem laws_FnExactRotateBack.calls (k : Nat) (a0 : Int) (a1 : Int) (a2 : Int) (a3 : Int) (a4 : Int) (r : Bool) (w : World) (h : laws_FnExactRotateBack.f k a0 a1 a2 a3 a4 = some r) :
    Calls Try.prog 6 #[.int .i64 a0, .int .i64 a1, .int .i64 a2, .int .i64 a3, .int .i64 a4] w fun e w' => e = .returned (.bool r) ∧ Drawn0 w w' := by
  have H : ((spec_RotateBack.f k a0 a1 a2 a3 a4).bind fun bt167 => ((impl_RotateBack.f k a0 a1 a2 a3 a4).bind fun bt169 => (if bt169.1 = bt167.1 then (if (bt169.2 != bt167.2) = true then (some false) else (some true)) else (some false)))) = some r := h
  clear h
  replace H := Option.bind_eq_some_iff.mp H
  obtain ⟨⟨t167, t168⟩, A60, H⟩ := H
  replace H : ((impl_RotateBack.f k a0 a1 a2 a3 a4).bind fun bt169 => (if bt169.1 = t167 then (if (bt169.2 != t168) = true then (some false) else (some true)) else (some false))) = some r := H
  have A6 := Aside0.mk A60
  clear A60
  replace H := Option.bind_eq_some_iff.mp H
  obtain ⟨⟨t169, t170⟩, A70, H⟩ := H
  replace H : (if t169 = t167 then (if (t170 != t168) = true then (some false) else (some true)) else (some false)) = some r := H
  have A7 := Aside0.mk A70
  clear A70
  by_cases c8 : t169 = t167
  · rw [if_pos c8] at H
    have c8b0 : (t169 == t167) = true := beq_iff_eq.mpr c8
    have c8b1 : (t169 != t167) = false := bne_eq_false_iff_eq.mpr c8
    clear c8
    by_cases c9 : (t170 != t168) = true
    · rw [if_pos c9] at H
      have c9b0 : (t170 != t168) = true := c9
      (try (have c9b1 : decide (t170 = t168) = false := by simpa using c9))
      (try (have c9b2 : (t170 == t168) = false := by simpa using c9))
      (try (have c9b3 : ¬ (t170 = t168) := by simpa using c9))
      clear c9
      obtain rfl := Option.some.inj H
      go_enter Try.func6, Try.ntmps6
      go_wp2_with (first | ((with_reducible refine gate_callee (f := 25) rfl ?_); refine goesL_ (some 21) rfl rfl Try.func25 (by kernel_rfl) rfl #[.int .i64 a0, .int .i64 a1, .int .i64 a2, .int .i64 a3, .int .i64 a4] rfl (by (try simp only [List.map_toArray, List.map_cons, List.map_nil]); first | done | rfl | (simp only [List.length_drop, List.length_take]; rfl)) ?_; (with_reducible refine (spec_RotateBack.calls k a0 a1 a2 a3 a4 t167 t168 _ A6.out).mono ?_); rintro e w' ⟨rfl, ⟨nd, rfl⟩⟩; refine ⟨_, rfl, ?_⟩) | ((with_reducible refine gate_callee (f := 26) rfl ?_); refine goesL_ (some 30) rfl rfl Try.func26 (by kernel_rfl) rfl #[.int .i64 a0, .int .i64 a1, .int .i64 a2, .int .i64 a3, .int .i64 a4] rfl (by (try simp only [List.map_toArray, List.map_cons, List.map_nil]); first | done | rfl | (simp only [List.length_drop, List.length_take]; rfl)) ?_; (with_reducible refine (impl_RotateBack.calls k a0 a1 a2 a3 a4 t169 t170 _ A7.out).mono ?_); rintro e w' ⟨rfl, ⟨nd, rfl⟩⟩; refine ⟨_, rfl, ?_⟩))
      go_ret
      exact ⟨by first | rfl | (simp; done) | (simp [*]; done), by repeat (first | exact Drawn0.refl _ | apply Drawn0.step)⟩
    · rw [if_neg c9] at H
      have c9b0 : (t170 != t168) = false := by simpa using c9
      (try (have c9b1 : decide (t170 = t168) = true := by simpa using c9))
      (try (have c9b2 : (t170 == t168) = true := by simpa using c9))
      clear c9
      obtain rfl := Option.some.inj H
      go_enter Try.func6, Try.ntmps6
      go_wp2_with (first | ((with_reducible refine gate_callee (f := 25) rfl ?_); refine goesL_ (some 21) rfl rfl Try.func25 (by kernel_rfl) rfl #[.int .i64 a0, .int .i64 a1, .int .i64 a2, .int .i64 a3, .int .i64 a4] rfl (by (try simp only [List.map_toArray, List.map_cons, List.map_nil]); first | done | rfl | (simp only [List.length_drop, List.length_take]; rfl)) ?_; (with_reducible refine (spec_RotateBack.calls k a0 a1 a2 a3 a4 t167 t168 _ A6.out).mono ?_); rintro e w' ⟨rfl, ⟨nd, rfl⟩⟩; refine ⟨_, rfl, ?_⟩) | ((with_reducible refine gate_callee (f := 26) rfl ?_); refine goesL_ (some 30) rfl rfl Try.func26 (by kernel_rfl) rfl #[.int .i64 a0, .int .i64 a1, .int .i64 a2, .int .i64 a3, .int .i64 a4] rfl (by (try simp only [List.map_toArray, List.map_cons, List.map_nil]); first | done | rfl | (simp only [List.length_drop, List.length_take]; rfl)) ?_; (with_reducible refine (impl_RotateBack.calls k a0 a1 a2 a3 a4 t169 t170 _ A7.out).mono ?_); rintro e w' ⟨rfl, ⟨nd, rfl⟩⟩; refine ⟨_, rfl, ?_⟩))
      go_ret
      exact ⟨by first | rfl | (simp; done) | (simp [*]; done), by repeat (first | exact Drawn0.refl _ | apply Drawn0.step)⟩
  · rw [if_neg c8] at H
    have c8b0 : (t169 == t167) = false := beq_eq_false_iff_ne.mpr c8
    have c8b1 : (t169 != t167) = true := bne_iff_ne.mpr c8
    obtain rfl := Option.some.inj H
    go_enter Try.func6, Try.ntmps6
    go_wp2_with (first | ((with_reducible refine gate_callee (f := 25) rfl ?_); refine goesL_ (some 21) rfl rfl Try.func25 (by kernel_rfl) rfl #[.int .i64 a0, .int .i64 a1, .int .i64 a2, .int .i64 a3, .int .i64 a4] rfl (by (try simp only [List.map_toArray, List.map_cons, List.map_nil]); first | done | rfl | (simp only [List.length_drop, List.length_take]; rfl)) ?_; (with_reducible refine (spec_RotateBack.calls k a0 a1 a2 a3 a4 t167 t168 _ A6.out).mono ?_); rintro e w' ⟨rfl, ⟨nd, rfl⟩⟩; refine ⟨_, rfl, ?_⟩) | ((with_reducible refine gate_callee (f := 26) rfl ?_); refine goesL_ (some 30) rfl rfl Try.func26 (by kernel_rfl) rfl #[.int .i64 a0, .int .i64 a1, .int .i64 a2, .int .i64 a3, .int .i64 a4] rfl (by (try simp only [List.map_toArray, List.map_cons, List.map_nil]); first | done | rfl | (simp only [List.length_drop, List.length_take]; rfl)) ?_; (with_reducible refine (impl_RotateBack.calls k a0 a1 a2 a3 a4 t169 t170 _ A7.out).mono ?_); rintro e w' ⟨rfl, ⟨nd, rfl⟩⟩; refine ⟨_, rfl, ?_⟩))
    go_ret
    exact ⟨by first | rfl | (simp; done) | (simp [*]; done), by repeat (first | exact Drawn0.refl _ | apply Drawn0.step)⟩

/-- THE ONE PURE STATEMENT of laws_FnExactRotateBack: yours. -/
def laws_FnExactRotateBack.Pure : Prop := ∀ (a0 : Int) (a1 : Int) (a2 : Int) (a3 : Int) (a4 : Int), (Lit.int .i64 a0).wf = true → (Lit.int .i64 a1).wf = true → (Lit.int .i64 a2).wf = true → (Lit.int .i64 a3).wf = true → (Lit.int .i64 a4).wf = true → ∃ k, laws_FnExactRotateBack.f k a0 a1 a2 a3 a4 = some true
theorem laws_FnExactRotateBack.walk (P : laws_FnExactRotateBack.Pure) (a0 : Int) (a1 : Int) (a2 : Int) (a3 : Int) (a4 : Int) (w : World) (w0 : (Lit.int .i64 a0).wf = true) (w1 : (Lit.int .i64 a1).wf = true) (w2 : (Lit.int .i64 a2).wf = true) (w3 : (Lit.int .i64 a3).wf = true) (w4 : (Lit.int .i64 a4).wf = true) :
    Calls Try.prog 6 #[.int .i64 a0, .int .i64 a1, .int .i64 a2, .int .i64 a3, .int .i64 a4] w fun e w' => e = .returned (.bool true) ∧ Below w.heap.size w w' := by
  obtain ⟨k, h⟩ := P a0 a1 a2 a3 a4 w0 w1 w2 w3 w4
  refine (laws_FnExactRotateBack.calls k a0 a1 a2 a3 a4 true w h).mono ?_
  rintro e w' ⟨rfl, hd⟩
  exact ⟨rfl, hd.below⟩

end Go.Proofs.Ytpcocklckalkmaa.HFnExactRotateBack
