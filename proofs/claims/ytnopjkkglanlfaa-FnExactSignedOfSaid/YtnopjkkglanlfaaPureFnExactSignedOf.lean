/- FnExactSignedOf, the plain law: the program's and the reference's SignedOf answer alike at every two ints. -/
import Derived.Test.YtnopjkkglanlfaaPFnExactSignedOfx1
import Derived.Test.YtnopjkkglanlfaaBits
namespace Go.Proofs.Ytnopjkkglanlfaa.Pure
open Go.RowKit Go.Proofs.Ytnopjkkglanlfaa.PFnExactSignedOf Go.Proofs.YtnopjkkglanlfaaW.PrintWords Go.Proofs.YtnopjkkglanlfaaW.PrintLast Go.Proofs.Ytnopjkkglanlfaa.Bt
set_option linter.unusedVariables false
set_option linter.unusedSimpArgs false

theorem sin (a b c : Int) : spec_l1In.f a b c = some (decide (b ≤ a ∧ a ≤ c)) := by
  unfold spec_l1In.f
  by_cases h : b ≤ a <;> simp [h]
theorem iin (a b c : Int) : impl_within.f a b c = some (decide (b ≤ a ∧ a ≤ c)) := by
  unfold impl_within.f
  by_cases h : b ≤ a <;> simp [h]

theorem lim1 : impl_limitOf.f 1 = some 256 := by decide +kernel
theorem lim2 : impl_limitOf.f 2 = some 65536 := by decide +kernel
theorem top1 : spec_l1Top.f 1 = some 256 := by decide +kernel
theorem top2 : spec_l1Top.f 2 = some 65536 := by decide +kernel
/-- Is v a value of a size: both sides. -/
def val (s v : Int) : Bool := decide ((s = 1 ∧ 0 ≤ v ∧ v ≤ 255) ∨ (s = 2 ∧ 0 ≤ v ∧ v ≤ 65535))
theorem val_of {s v : Int} (h : val s v = true) : (s = 1 ∧ 0 ≤ v ∧ v ≤ 255) ∨ (s = 2 ∧ 0 ≤ v ∧ v ≤ 65535) := by simpa [val] using h
theorem w256 : wrap64 (256 - 1) = 255 := by decide +kernel
theorem w65536 : wrap64 (65536 - 1) = 65535 := by decide +kernel
theorem sval (s v : Int) : spec_l1Value.f s v = some (val s v) := by
  unfold spec_l1Value.f spec_l1Size.f val
  by_cases h1 : s = 1
  · subst h1
    rw [if_pos rfl, Option.bind_some, if_pos rfl, top1, Option.bind_some, w256, sin, Option.bind_some]
    simp
  · by_cases h2 : s = 2
    · subst h2
      rw [if_neg h1, Option.bind_some, if_pos (by decide), top2, Option.bind_some, w65536, sin, Option.bind_some]
      simp
    · simp [h1, h2]
theorem ival (s v : Int) : impl_isValue.f s v = some (val s v) := by
  unfold impl_isValue.f impl_isSize.f val
  by_cases h1 : s = 1
  · subst h1
    rw [if_pos rfl, Option.bind_some, if_pos rfl, lim1, Option.bind_some, w256, iin, Option.bind_some]
    simp
  · by_cases h2 : s = 2
    · subst h2
      rw [if_neg h1, Option.bind_some, if_pos (by decide), lim2, Option.bind_some, w65536, iin, Option.bind_some]
      simp
    · simp [h1, h2]

/-- One more than the greatest value of a size. -/
def lim (s : Int) : Int := if s = 1 then 256 else 65536
theorem limI {s : Int} (h : s = 1 ∨ s = 2) : impl_limitOf.f s = some (lim s) := by
  rcases h with rfl | rfl
  · exact lim1
  · exact lim2
theorem limS {s : Int} (h : s = 1 ∨ s = 2) : spec_l1Top.f s = some (lim s) := by
  rcases h with rfl | rfl
  · exact top1
  · exact top2
theorem lim_or (s : Int) : lim s = 256 ∨ lim s = 65536 := by unfold lim; split <;> simp
theorem val_size {s v : Int} (h : val s v = true) : s = 1 ∨ s = 2 := by have := val_of h; omega
theorem val_rng {s v : Int} (h : val s v = true) : 0 ≤ v ∧ v < lim s := by
  have := val_of h
  unfold lim
  split <;> omega

theorem signed_eq {s : Int} (h : s = 1 ∨ s = 2) (v : Int) : impl_signedOf.f s v = spec_l1Signed.f s v := by
  unfold impl_signedOf.f spec_l1Signed.f
  rw [limI h, limS h]
theorem signed_some {s : Int} (h : s = 1 ∨ s = 2) (v : Int) : ∃ r, spec_l1Signed.f s v = some r := by
  unfold spec_l1Signed.f
  rw [limS h]
  simp only [Option.bind_some]
  split
  · exact ⟨_, rfl⟩
  · exact ⟨_, rfl⟩

theorem FnExactSignedOf : laws_FnExactSignedOf.Pure := by
  intro s v hs hv
  unfold laws_FnExactSignedOf.f impl_SignedOf.f spec_SignedOf.f
  rw [sval, ival]
  cases h : val s v
  · simp
  · obtain ⟨r, hr⟩ := signed_some (val_size h) v
    simp [signed_eq (val_size h), hr]
end Go.Proofs.Ytnopjkkglanlfaa.Pure
