/- FnExactCountOnes, the plain law: the program's and the reference's CountOnes answer alike at every two ints; both loops end within 17 rounds. -/
import Derived.Test.YtedichhlamiigaaPFnExactCountOnesx1
import Derived.Test.YtedichhlamiigaaBits
namespace Go.Proofs.Ytedichhlamiigaa.Pure
open Go.RowKit Go.Proofs.Ytedichhlamiigaa.PFnExactCountOnes Go.Proofs.YtedichhlamiigaaW.PrintWords Go.Proofs.YtedichhlamiigaaW.PrintLast Go.Proofs.Ytedichhlamiigaa.Bt
set_option linter.unusedVariables false
set_option linter.unusedSimpArgs false

theorem sin (a b c : Int) : spec_l1In.f a b c = some (decide (b ≤ a ∧ a ≤ c)) := by
  unfold spec_l1In.f
  by_cases h : b ≤ a <;> simp [h]
theorem iin (a b c : Int) : impl_within.f a b c = some (decide (b ≤ a ∧ a ≤ c)) := by
  unfold impl_within.f
  by_cases h : b ≤ a <;> simp [h]

theorem lim1 : impl_limitOf.f 1 = some 256 := by decide +kernel
theorem lim2 : impl_limitOf.f 2 = some 65536 := by decide +kernel
theorem top1 : spec_l1Top.f 1 = some 256 := by decide +kernel
theorem top2 : spec_l1Top.f 2 = some 65536 := by decide +kernel
/-- Is v a value of a size: both sides. -/
def val (s v : Int) : Bool := decide ((s = 1 ∧ 0 ≤ v ∧ v ≤ 255) ∨ (s = 2 ∧ 0 ≤ v ∧ v ≤ 65535))
theorem val_of {s v : Int} (h : val s v = true) : (s = 1 ∧ 0 ≤ v ∧ v ≤ 255) ∨ (s = 2 ∧ 0 ≤ v ∧ v ≤ 65535) := by simpa [val] using h
theorem w256 : wrap64 (256 - 1) = 255 := by decide +kernel
theorem w65536 : wrap64 (65536 - 1) = 65535 := by decide +kernel
theorem sval (s v : Int) : spec_l1Value.f s v = some (val s v) := by
  unfold spec_l1Value.f spec_l1Size.f val
  by_cases h1 : s = 1
  · subst h1
    rw [if_pos rfl, Option.bind_some, if_pos rfl, top1, Option.bind_some, w256, sin, Option.bind_some]
    simp
  · by_cases h2 : s = 2
    · subst h2
      rw [if_neg h1, Option.bind_some, if_pos (by decide), top2, Option.bind_some, w65536, sin, Option.bind_some]
      simp
    · simp [h1, h2]
theorem ival (s v : Int) : impl_isValue.f s v = some (val s v) := by
  unfold impl_isValue.f impl_isSize.f val
  by_cases h1 : s = 1
  · subst h1
    rw [if_pos rfl, Option.bind_some, if_pos rfl, lim1, Option.bind_some, w256, iin, Option.bind_some]
    simp
  · by_cases h2 : s = 2
    · subst h2
      rw [if_neg h1, Option.bind_some, if_pos (by decide), lim2, Option.bind_some, w65536, iin, Option.bind_some]
      simp
    · simp [h1, h2]

theorem loops_eq : ∀ (k : Nat) (v c : Int), impl_CountOnes.l0 k v c = spec_CountOnes.l0 k v c
  | 0, _, _ => rfl
  | k + 1, v, c => by simp only [impl_CountOnes.l0, spec_CountOnes.l0, loops_eq k]
theorem loop_ends_ : ∀ (n k : Nat) (v c : Int), v < 2 ^ n → n < k → ∃ r, spec_CountOnes.l0 k v c = some r
  | 0, k, v, c, hv, hk => by
    obtain ⟨k, rfl⟩ : ∃ m, k = m + 1 := ⟨k - 1, by omega⟩
    simp only [spec_CountOnes.l0]
    rw [if_neg (by simp at hv; omega)]
    exact ⟨_, rfl⟩
  | n + 1, k, v, c, hv, hk => by
    obtain ⟨k, rfl⟩ : ∃ m, k = m + 1 := ⟨k - 1, by omega⟩
    simp only [spec_CountOnes.l0]
    split
    · exact loop_ends_ n k _ _ (by rw [Int.pow_succ] at hv; omega) (by omega)
    · exact ⟨_, rfl⟩
theorem FnExactCountOnes : laws_FnExactCountOnes.Pure := by
  intro s v hs hv
  refine ⟨18, ?_⟩
  obtain ⟨r, hr⟩ : ∃ r, spec_CountOnes.f 18 s v = some r := by
    unfold spec_CountOnes.f
    rw [sval, Option.bind_some]
    split
    · rename_i h
      have := val_of h
      exact loop_ends_ 16 18 v 0 (by omega) (by omega)
    · exact ⟨_, rfl⟩
  have he : impl_CountOnes.f 18 s v = spec_CountOnes.f 18 s v := by
    unfold impl_CountOnes.f spec_CountOnes.f
    rw [sval, ival, loops_eq]
  unfold laws_FnExactCountOnes.f
  rw [he, hr]; simp
end Go.Proofs.Ytedichhlamiigaa.Pure
