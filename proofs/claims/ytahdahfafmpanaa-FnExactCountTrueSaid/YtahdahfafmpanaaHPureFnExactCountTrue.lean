/- FnExactCountTrue, the plain law: the program's and the reference's CountTrue answer alike at every int; both loops end within 17 rounds. -/
import Derived.Test.YtahdahfafmpanaaHFnExactCountTruex1
import Derived.Test.YtahdahfafmpanaaBits
namespace Go.Proofs.Ytahdahfafmpanaa.Pure
open Go.RowKit Go.Proofs.Ytahdahfafmpanaa.HFnExactCountTrue Go.Proofs.YtahdahfafmpanaaW.PrintWords Go.Proofs.YtahdahfafmpanaaW.PrintLast Go.Proofs.Ytahdahfafmpanaa.Bt
set_option linter.unusedVariables false
set_option linter.unusedSimpArgs false

theorem sin (a b c : Int) : spec_l1In.f a b c = some (decide (b ≤ a ∧ a ≤ c)) := by
  unfold spec_l1In.f
  by_cases h : b ≤ a <;> simp [h]
theorem iin (a b c : Int) : impl_within.f a b c = some (decide (b ≤ a ∧ a ≤ c)) := by
  unfold impl_within.f
  by_cases h : b ≤ a <;> simp [h]

theorem nb (x : Int) : (!(x != 0)) = (x == 0) := by simp [bne]
theorem even_eq (e f : Int) : spec_l8Even.f e f = some (impl_testCond.is e f) := by
  unfold spec_l8Even.f impl_testCond.is
  simp only [nb]
  by_cases h2 : e = 2
  · rw [if_pos h2, if_pos h2]
  · rw [if_neg h2, if_neg h2]
    by_cases h4 : e = 4
    · rw [if_pos h4, if_pos h4]
    · rw [if_neg h4, if_neg h4]
      by_cases h6 : e = 6
      · rw [if_pos h6, if_pos h6]
      · rw [if_neg h6, if_neg h6]
        by_cases h8 : e = 8
        · rw [if_pos h8, if_pos h8]
        · rw [if_neg h8, if_neg h8]
          by_cases h10 : e = 10
          · rw [if_pos h10, if_pos h10]
          · rw [if_neg h10, if_neg h10]
            by_cases h12 : e = 12
            · rw [if_pos h12, if_pos h12]
            · rw [if_neg h12, if_neg h12]
              by_cases h14 : e = 14
              · rw [if_pos h14, if_pos h14]
                generalize ((bits .and .i64 f 8 != 0) == (bits .and .i64 f 2 != 0)) = L
                cases L <;> simp
              · rw [if_neg h14, if_neg h14]
theorem test_eq {c : Int} (h : 0 ≤ c) (f : Int) : spec_l8Test.f c f = impl_testCond.f c f := by
  unfold spec_l8Test.f impl_testCond.f
  rw [even_eq, Option.bind_some, and1, Int.tmod_eq_emod_of_nonneg h]
theorem test_some (c f : Int) : ∃ b, impl_testCond.f c f = some b := ⟨_, rfl⟩

theorem loop_eq (f : Int) : ∀ (d k : Nat) (n i : Int), 0 ≤ i → 16 - i ≤ d → d < k → ∃ r, spec_CountTrue.l0 k f n i = some r ∧ impl_CountTrue.l0 k f n i = some r := by
  intro d
  induction d with
  | zero =>
    intro k n i h0 hd hk
    obtain ⟨k, rfl⟩ : ∃ m, k = m + 1 := ⟨k - 1, by omega⟩
    simp only [spec_CountTrue.l0, impl_CountTrue.l0]
    rw [if_neg (by omega), if_neg (by omega)]
    exact ⟨_, rfl, rfl⟩
  | succ d ih =>
    intro k n i h0 hd hk
    obtain ⟨k, rfl⟩ : ∃ m, k = m + 1 := ⟨k - 1, by omega⟩
    simp only [spec_CountTrue.l0, impl_CountTrue.l0]
    by_cases c : i < 16
    · rw [if_pos c, if_pos c, test_eq h0]
      obtain ⟨b, hb⟩ := test_some i f
      rw [hb, Option.bind_some, Option.bind_some, show impl_flag.f = spec_l1Flag.f from rfl]
      obtain ⟨v, hv⟩ : ∃ v, spec_l1Flag.f b 1 = some v := by unfold spec_l1Flag.f; split <;> exact ⟨_, rfl⟩
      rw [hv, Option.bind_some, Option.bind_some, wrap_in (n := i + 1) (by omega) (by omega)]
      exact ih k _ (i + 1) (by omega) (by omega) (by omega)
    · rw [if_neg c, if_neg c]
      exact ⟨_, rfl, rfl⟩
theorem FnExactCountTrue : laws_FnExactCountTrue.Pure := by
  intro f _
  refine ⟨18, ?_⟩
  obtain ⟨r, e1, e2⟩ := loop_eq f 16 18 0 0 (by omega) (by omega) (by omega)
  unfold laws_FnExactCountTrue.f spec_CountTrue.f impl_CountTrue.f spec_l1Flags.f impl_areFlags.f
  rw [sin, iin]
  by_cases h : 0 ≤ f ∧ f ≤ 31
  · simp [h, e1, e2]
  · simp [h]
end Go.Proofs.Ytahdahfafmpanaa.Pure
