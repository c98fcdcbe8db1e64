/- FnExactReverseBits, the plain law: the program's and the reference's ReverseBits answer alike at every two ints; both loops end within 17 rounds. -/
import Derived.Test.YtnopjkkglanlfaaPFnExactReverseBitsx1
import Derived.Test.YtnopjkkglanlfaaBits
namespace Go.Proofs.Ytnopjkkglanlfaa.Pure
open Go.RowKit Go.Proofs.Ytnopjkkglanlfaa.PFnExactReverseBits Go.Proofs.YtnopjkkglanlfaaW.PrintWords Go.Proofs.YtnopjkkglanlfaaW.PrintLast Go.Proofs.Ytnopjkkglanlfaa.Bt
set_option linter.unusedVariables false
set_option linter.unusedSimpArgs false

theorem sin (a b c : Int) : spec_l1In.f a b c = some (decide (b ≤ a ∧ a ≤ c)) := by
  unfold spec_l1In.f
  by_cases h : b ≤ a <;> simp [h]
theorem iin (a b c : Int) : impl_within.f a b c = some (decide (b ≤ a ∧ a ≤ c)) := by
  unfold impl_within.f
  by_cases h : b ≤ a <;> simp [h]

theorem lim1 : impl_limitOf.f 1 = some 256 := by decide +kernel
theorem lim2 : impl_limitOf.f 2 = some 65536 := by decide +kernel
theorem top1 : spec_l1Top.f 1 = some 256 := by decide +kernel
theorem top2 : spec_l1Top.f 2 = some 65536 := by decide +kernel
/-- Is v a value of a size: both sides. -/
def val (s v : Int) : Bool := decide ((s = 1 ∧ 0 ≤ v ∧ v ≤ 255) ∨ (s = 2 ∧ 0 ≤ v ∧ v ≤ 65535))
theorem val_of {s v : Int} (h : val s v = true) : (s = 1 ∧ 0 ≤ v ∧ v ≤ 255) ∨ (s = 2 ∧ 0 ≤ v ∧ v ≤ 65535) := by simpa [val] using h
theorem w256 : wrap64 (256 - 1) = 255 := by decide +kernel
theorem w65536 : wrap64 (65536 - 1) = 65535 := by decide +kernel
theorem sval (s v : Int) : spec_l1Value.f s v = some (val s v) := by
  unfold spec_l1Value.f spec_l1Size.f val
  by_cases h1 : s = 1
  · subst h1
    rw [if_pos rfl, Option.bind_some, if_pos rfl, top1, Option.bind_some, w256, sin, Option.bind_some]
    simp
  · by_cases h2 : s = 2
    · subst h2
      rw [if_neg h1, Option.bind_some, if_pos (by decide), top2, Option.bind_some, w65536, sin, Option.bind_some]
      simp
    · simp [h1, h2]
theorem ival (s v : Int) : impl_isValue.f s v = some (val s v) := by
  unfold impl_isValue.f impl_isSize.f val
  by_cases h1 : s = 1
  · subst h1
    rw [if_pos rfl, Option.bind_some, if_pos rfl, lim1, Option.bind_some, w256, iin, Option.bind_some]
    simp
  · by_cases h2 : s = 2
    · subst h2
      rw [if_neg h1, Option.bind_some, if_pos (by decide), lim2, Option.bind_some, w65536, iin, Option.bind_some]
      simp
    · simp [h1, h2]

/-- One more than the greatest value of a size. -/
def lim (s : Int) : Int := if s = 1 then 256 else 65536
theorem limI {s : Int} (h : s = 1 ∨ s = 2) : impl_limitOf.f s = some (lim s) := by
  rcases h with rfl | rfl
  · exact lim1
  · exact lim2
theorem limS {s : Int} (h : s = 1 ∨ s = 2) : spec_l1Top.f s = some (lim s) := by
  rcases h with rfl | rfl
  · exact top1
  · exact top2
theorem lim_or (s : Int) : lim s = 256 ∨ lim s = 65536 := by unfold lim; split <;> simp
theorem val_size {s v : Int} (h : val s v = true) : s = 1 ∨ s = 2 := by have := val_of h; omega
theorem val_rng {s v : Int} (h : val s v = true) : 0 ≤ v ∧ v < lim s := by
  have := val_of h
  unfold lim
  split <;> omega

theorem w8 {s : Int} (h : s = 1 ∨ s = 2) : wrap64 (8 * s) = 8 * s := by unfold wrap64; omega
theorem loops_eq {s : Int} (h : s = 1 ∨ s = 2) (v : Int) : ∀ (k : Nat) (i out : Int), 0 ≤ i → i ≤ 16 → impl_ReverseBits.l0 k (v / 2 ^ i.toNat) out (wrap64 (8 * s)) i = spec_ReverseBits.l0 k s v out i
  | 0, _, _, _, _ => rfl
  | k + 1, i, out, h0, h1 => by
    simp only [impl_ReverseBits.l0, spec_ReverseBits.l0]
    by_cases c : i < wrap64 (8 * s)
    · have hi : i < 16 := by rw [w8 h] at c; omega
      have hu : IntKind.u64.wrap i = i := by
        simp [IntKind.wrap, IntKind.bits, IntKind.signed]; omega
      rw [if_pos c, if_pos c, hu, if_pos h0]
      have hs : shr .i64 v i = v / 2 ^ i.toNat := by
        unfold shr
        rw [Nat.min_eq_left (by simp [IntKind.bits]; omega)]
      have hw : wrap64 (i + 1) = i + 1 := by unfold wrap64; omega
      have hd : v / 2 ^ i.toNat / 2 = v / 2 ^ (i + 1).toNat := by
        rw [show (i + 1).toNat = i.toNat + 1 from by omega, Int.pow_succ, Int.ediv_ediv_of_nonneg (by exact Int.pow_nonneg (by decide))]
      rw [hs, hw, hd]
      exact loops_eq h v k (i + 1) _ (by omega) (by omega)
    · rw [if_neg c, if_neg c]
theorem loop_ends_ {s : Int} (h : s = 1 ∨ s = 2) (v : Int) : ∀ (n k : Nat) (i out : Int), 0 ≤ i → i ≤ 16 → 8 * s - i ≤ n → n < k → ∃ r, spec_ReverseBits.l0 k s v out i = some r
  | n, 0, i, out, h0, h1, hn, hk => by omega
  | n, k + 1, i, out, h0, h1, hn, hk => by
    simp only [spec_ReverseBits.l0]
    by_cases c : i < wrap64 (8 * s)
    · have hi : i < 8 * s := by rw [w8 h] at c; exact c
      have hu : IntKind.u64.wrap i = i := by
        simp [IntKind.wrap, IntKind.bits, IntKind.signed]; omega
      have hw : wrap64 (i + 1) = i + 1 := by unfold wrap64; omega
      rw [if_pos c, hu, if_pos h0, hw]
      exact loop_ends_ h v (n - 1) k (i + 1) _ (by omega) (by omega) (by omega) (by omega)
    · rw [if_neg c]; exact ⟨_, rfl⟩
theorem FnExactReverseBits : laws_FnExactReverseBits.Pure := by
  intro s v hs hv
  refine ⟨18, ?_⟩
  unfold laws_FnExactReverseBits.f impl_ReverseBits.f spec_ReverseBits.f
  rw [sval, ival]
  cases h : val s v
  · simp
  · obtain ⟨r, hr⟩ := loop_ends_ (val_size h) v 16 18 0 0 (by omega) (by omega) (by have := val_size h; omega) (by omega)
    have he := loops_eq (val_size h) v 18 0 0 (by omega) (by omega)
    rw [show v / 2 ^ (0 : Int).toNat = v from by simp] at he
    simp [he, hr]
end Go.Proofs.Ytnopjkkglanlfaa.Pure
