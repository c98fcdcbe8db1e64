/- FnExactNegBcd, the plain law: the program's and the reference's NegBcd answer alike at every two ints. -/
import Derived.Test.YtnopjkkglanlfaaPFnExactNegBcdx1
import Derived.Test.YtnopjkkglanlfaaBits
namespace Go.Proofs.Ytnopjkkglanlfaa.Pure
open Go.RowKit Go.Proofs.Ytnopjkkglanlfaa.PFnExactNegBcd Go.Proofs.YtnopjkkglanlfaaW.PrintWords Go.Proofs.YtnopjkkglanlfaaW.PrintLast Go.Proofs.Ytnopjkkglanlfaa.Bt
set_option linter.unusedVariables false
set_option linter.unusedSimpArgs false

theorem sin (a b c : Int) : spec_l1In.f a b c = some (decide (b ≤ a ∧ a ≤ c)) := by
  unfold spec_l1In.f
  by_cases h : b ≤ a <;> simp [h]
theorem iin (a b c : Int) : impl_within.f a b c = some (decide (b ≤ a ∧ a ≤ c)) := by
  unfold impl_within.f
  by_cases h : b ≤ a <;> simp [h]

def isb (a : Int) : Bool := decide (0 ≤ a ∧ a ≤ 153 ∧ a % 16 ≤ 9)
theorem isb_of {a : Int} (h : isb a = true) : 0 ≤ a ∧ a ≤ 153 ∧ a % 16 ≤ 9 := by simpa [isb] using h
theorem sbcd (a : Int) : spec_IsBcd.f a = some (isb a) := by
  unfold spec_IsBcd.f isb
  rw [sin, and15, Option.bind_some]
  by_cases c : 0 ≤ a ∧ a ≤ 255
  · rw [if_pos (by simpa using c)]
    by_cases c1 : a / 16 ≤ 9
    · rw [if_pos c1]; congr 1; rw [Bool.eq_iff_iff]; simp; omega
    · rw [if_neg c1]; congr 1; rw [Bool.eq_iff_iff]; simp; omega
  · rw [if_neg (by simpa using c)]; congr 1; rw [Bool.eq_iff_iff]; simp; omega
theorem ibcd (a : Int) : impl_IsBcd.f a = some (isb a) := by
  unfold impl_IsBcd.f isb
  rw [iin, and15, Option.bind_some]
  by_cases c : 0 ≤ a ∧ a ≤ 153
  · rw [if_pos (by simpa using c)]; congr 1; rw [Bool.eq_iff_iff]; simp; omega
  · rw [if_neg (by simpa using c)]; congr 1; rw [Bool.eq_iff_iff]; simp; omega
/-- What a decimal byte tells. -/
def num (a : Int) : Int := wrap64 (wrap64 (a / 16 * 10) + bits .and .i64 a 15)
theorem num_rng {a : Int} (h : isb a = true) : 0 ≤ num a ∧ num a ≤ 99 := by
  have := isb_of h
  unfold num
  rw [and15, wrap_in (n := a / 16 * 10) (by omega) (by omega), wrap_in (by omega) (by omega)]
  omega
def bcd (n : Int) : Int := bits .or .i64 (wrap64 (wrap64 (Int.tdiv n 10) * 16)) (Int.tmod n 10)
theorem snum (a : Int) : spec_l2Number.f a = some (num a) := rfl
theorem inum (a : Int) : impl_numberOf.f a = some (num a) := rfl
theorem sof (n : Int) : spec_l2Of.f n = some (bcd n) := rfl
theorem iof (n : Int) : impl_bcdOf.f n = some (bcd n) := rfl
theorem carried_eq (n : Int) : impl_carried.f n = some (if 0 ≤ n ∧ n ≤ 99 then (bcd n, 0) else (bcd (Int.tmod (wrap64 (n + 100)) 100), 1)) := by
  unfold impl_carried.f
  rw [iin, Option.bind_some, iof, iof]
  by_cases c : 0 ≤ n ∧ n ≤ 99 <;> simp [c]
theorem two_eq (x a b : Int) : spec_l2Two.f x a b = some (decide (0 ≤ x ∧ x ≤ 1) && (isb a && isb b)) := by
  unfold spec_l2Two.f
  rw [sin, sbcd, sbcd]
  by_cases c : 0 ≤ x ∧ x ≤ 1
  · simp only [Option.bind_some, c, and_self, decide_true, if_true, Bool.true_and]
    cases isb a <;> simp
  · simp [c]
theorem are_eq (k : Nat) (x a b : Int) : impl_areBcd.f (k + 3) x [a, b] = some (decide (0 ≤ x ∧ x ≤ 1) && (isb a && isb b)) := by
  unfold impl_areBcd.f
  have e1 : wrap64 (0 + 1) = 1 := by decide +kernel
  have e2 : wrap64 (1 + 1) = 2 := by decide +kernel
  have r0 : rd [a, b] 0 = a := rfl
  have r1 : rd [a, b] 1 = b := rfl
  have l2 : (([a, b] : List Int).length : Int) = 2 := rfl
  rw [l2]
  have h3 : impl_areBcd.l0 (k + 1) x [a, b] 2 2 = some (decide (0 ≤ x ∧ x ≤ 1)) := by
    simp only [impl_areBcd.l0]
    rw [if_neg (by omega), impl_isBit.f, iin]
    rfl
  have h2 : impl_areBcd.l0 (k + 2) x [a, b] 2 1 = if isb b = true then some (decide (0 ≤ x ∧ x ≤ 1)) else some false := by
    rw [impl_areBcd.l0, if_pos (by omega), if_pos (by omega), l2, if_pos (by omega), r1, ibcd, Option.bind_some, e2, h3]
  rw [impl_areBcd.l0, if_pos (by omega), if_pos (by omega), l2, if_pos (by omega), r0, ibcd, Option.bind_some, e1, h2]
  cases isb a <;> cases isb b <;> simp

theorem ssub {x a b : Int} (hx : 0 ≤ x ∧ x ≤ 1) (ha : isb a = true) (hb : isb b = true) : ∃ v c, spec_l2Sub.f x a b = some (v, c) ∧ impl_carried.f (wrap64 (wrap64 (num a - num b) - x)) = some (v, c) := by
  have h1 := num_rng ha
  have h2 := num_rng hb
  unfold spec_l2Sub.f
  rw [snum, snum, carried_eq]
  simp only [Option.bind_some, sof]
  have hn : wrap64 (wrap64 (num a - num b) - x) = num a - num b - x := by unfold wrap64; omega
  rw [hn]
  generalize num a = p at h1
  generalize num b = q at h2
  have e3 : wrap64 (p - q - x + 100) = p - q - x + 100 := by unfold wrap64; omega
  rw [e3]
  by_cases c : p - q - x < 0
  · rw [if_pos c, if_neg (by omega)]
    have e4 : Int.tmod (p - q - x + 100) 100 = (p - q - x + 100) % 100 := Int.tmod_eq_emod_of_nonneg (by omega)
    rw [e4]
    have e5 : (p - q - x + 100) % 100 = p - q - x + 100 := by omega
    rw [e5]
    exact ⟨_, _, rfl, rfl⟩
  · rw [if_neg c, if_pos (by omega)]
    exact ⟨_, _, rfl, rfl⟩
theorem subBcd_eq (k : Nat) (x a b : Int) : ∃ r, spec_SubBcd.f x a b = some r ∧ impl_SubBcd.f (k + 3) x a b = some r := by
  unfold impl_SubBcd.f spec_SubBcd.f
  rw [two_eq, are_eq]
  cases h : (decide (0 ≤ x ∧ x ≤ 1) && (isb a && isb b))
  · exact ⟨_, rfl, rfl⟩
  · rw [Bool.and_eq_true, Bool.and_eq_true, decide_eq_true_eq] at h
    obtain ⟨v, c, h1, h2⟩ := ssub h.1 h.2.1 h.2.2
    exact ⟨(v, c, true), by simp [h1], by simp [inum, h2]⟩

theorem FnExactNegBcd : laws_FnExactNegBcd.Pure := by
  intro x a hx ha
  obtain ⟨r, h1, h2⟩ := subBcd_eq 0 x 0 a
  refine ⟨3, ?_⟩
  unfold laws_FnExactNegBcd.f impl_NegBcd.f spec_NegBcd.f
  rw [h1, h2]; simp
end Go.Proofs.Ytnopjkkglanlfaa.Pure
