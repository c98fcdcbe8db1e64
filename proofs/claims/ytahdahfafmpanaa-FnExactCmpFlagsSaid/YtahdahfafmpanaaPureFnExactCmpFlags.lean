/- FnExactCmpFlags, the plain law: the program's and the reference's CmpFlags answer alike at every four ints. -/
import Derived.Test.YtahdahfafmpanaaPFnExactCmpFlagsx2
import Derived.Test.YtahdahfafmpanaaBits
namespace Go.Proofs.Ytahdahfafmpanaa.Pure
open Go.RowKit Go.Proofs.Ytahdahfafmpanaa.PFnExactCmpFlags Go.Proofs.YtahdahfafmpanaaW.PrintWords Go.Proofs.YtahdahfafmpanaaW.PrintLast Go.Proofs.Ytahdahfafmpanaa.Bt
set_option linter.unusedVariables false
set_option linter.unusedSimpArgs false

theorem sin (a b c : Int) : spec_l1In.f a b c = some (decide (b ≤ a ∧ a ≤ c)) := by
  unfold spec_l1In.f
  by_cases h : b ≤ a <;> simp [h]
theorem iin (a b c : Int) : impl_within.f a b c = some (decide (b ≤ a ∧ a ≤ c)) := by
  unfold impl_within.f
  by_cases h : b ≤ a <;> simp [h]

theorem lim1 : impl_limitOf.f 1 = some 256 := by decide +kernel
theorem lim2 : impl_limitOf.f 2 = some 65536 := by decide +kernel
theorem top1 : spec_l1Top.f 1 = some 256 := by decide +kernel
theorem top2 : spec_l1Top.f 2 = some 65536 := by decide +kernel
/-- Is v a value of a size: both sides. -/
def val (s v : Int) : Bool := decide ((s = 1 ∧ 0 ≤ v ∧ v ≤ 255) ∨ (s = 2 ∧ 0 ≤ v ∧ v ≤ 65535))
theorem val_of {s v : Int} (h : val s v = true) : (s = 1 ∧ 0 ≤ v ∧ v ≤ 255) ∨ (s = 2 ∧ 0 ≤ v ∧ v ≤ 65535) := by simpa [val] using h
theorem w256 : wrap64 (256 - 1) = 255 := by decide +kernel
theorem w65536 : wrap64 (65536 - 1) = 65535 := by decide +kernel
theorem sval (s v : Int) : spec_l1Value.f s v = some (val s v) := by
  unfold spec_l1Value.f spec_l1Size.f val
  by_cases h1 : s = 1
  · subst h1
    rw [if_pos rfl, Option.bind_some, if_pos rfl, top1, Option.bind_some, w256, sin, Option.bind_some]
    simp
  · by_cases h2 : s = 2
    · subst h2
      rw [if_neg h1, Option.bind_some, if_pos (by decide), top2, Option.bind_some, w65536, sin, Option.bind_some]
      simp
    · simp [h1, h2]
theorem ival (s v : Int) : impl_isValue.f s v = some (val s v) := by
  unfold impl_isValue.f impl_isSize.f val
  by_cases h1 : s = 1
  · subst h1
    rw [if_pos rfl, Option.bind_some, if_pos rfl, lim1, Option.bind_some, w256, iin, Option.bind_some]
    simp
  · by_cases h2 : s = 2
    · subst h2
      rw [if_neg h1, Option.bind_some, if_pos (by decide), lim2, Option.bind_some, w65536, iin, Option.bind_some]
      simp
    · simp [h1, h2]

/-- One more than the greatest value of a size. -/
def lim (s : Int) : Int := if s = 1 then 256 else 65536
theorem limI {s : Int} (h : s = 1 ∨ s = 2) : impl_limitOf.f s = some (lim s) := by
  rcases h with rfl | rfl
  · exact lim1
  · exact lim2
theorem limS {s : Int} (h : s = 1 ∨ s = 2) : spec_l1Top.f s = some (lim s) := by
  rcases h with rfl | rfl
  · exact top1
  · exact top2
theorem lim_or (s : Int) : lim s = 256 ∨ lim s = 65536 := by unfold lim; split <;> simp
theorem val_size {s v : Int} (h : val s v = true) : s = 1 ∨ s = 2 := by have := val_of h; omega
theorem val_rng {s v : Int} (h : val s v = true) : 0 ≤ v ∧ v < lim s := by
  have := val_of h
  unfold lim
  split <;> omega

def flagv (b : Bool) (f : Int) : Int := if b = true then f else 0
theorem sflag (b : Bool) (f : Int) : spec_l1Flag.f b f = some (flagv b f) := by
  unfold spec_l1Flag.f flagv
  split <;> rfl
theorem iflag (b : Bool) (f : Int) : impl_flag.f b f = some (flagv b f) := by
  unfold impl_flag.f flagv
  split <;> rfl
def half (s : Int) : Int := if s = 1 then 128 else 32768
theorem half_is (s : Int) : wrap64 (Int.tdiv (lim s) 2) = half s := by
  unfold lim half
  split <;> decide +kernel
def znv (s v : Int) : Int := bits .or .i64 (flagv (v == 0) 4) (flagv (decide (v ≥ half s)) 8)
theorem szn {s : Int} (h : s = 1 ∨ s = 2) (v : Int) : spec_l1Zn.f s v = some (znv s v) := by
  unfold spec_l1Zn.f
  rw [limS h]
  simp only [sflag, Option.bind_some, half_is]
  rfl
theorem izn {s : Int} (h : s = 1 ∨ s = 2) (v : Int) : impl_signs.f s v = some (znv s v) := by
  unfold impl_signs.f
  rw [limI h]
  simp only [iflag, Option.bind_some, half_is]
  rfl

def sgv (s v : Int) : Int := if v ≥ wrap64 (Int.tdiv (lim s) 2) then wrap64 (v - lim s) else v
theorem ssg {s : Int} (h : s = 1 ∨ s = 2) (v : Int) : spec_l1Signed.f s v = some (sgv s v) := by
  unfold spec_l1Signed.f sgv
  rw [limS h]
  simp only [Option.bind_some]
  split <;> rfl
theorem isg {s : Int} (h : s = 1 ∨ s = 2) (v : Int) : impl_signedOf.f s v = some (sgv s v) := by
  unfold impl_signedOf.f sgv
  rw [limI h]
  simp only [Option.bind_some]
  split <;> rfl

theorem two_eq (s x a b : Int) : spec_l1Two.f s x a b = some (val s a && (val s b && decide (0 ≤ x ∧ x ≤ 1))) := by
  unfold spec_l1Two.f
  rw [sval, sval, sin]
  cases val s a <;> cases val s b <;> simp
/-- The flags: C and X together, V, Z, N. -/
def fl (c o z n : Bool) : Int := bits .or .i64 (bits .or .i64 (flagv c 17) (flagv o 2)) (bits .or .i64 (flagv z 4) (flagv n 8))
theorem mask_lim {s : Int} (h : s = 1 ∨ s = 2) (x : Int) : bits .and .i64 x (wrap64 (lim s - 1)) = x % lim s := by
  rcases h with rfl | rfl
  · rw [show lim 1 = 256 from rfl, w256]; exact and255 x
  · rw [show lim 2 = 65536 from rfl, w65536]; exact and65535 x

theorem sub_eq {s x a b : Int} (ha : val s a = true) (hb : val s b = true) (hx : 0 ≤ x ∧ x ≤ 1) :
    ∃ v c o z n, spec_l1Sub.f s x a b = some (v, fl c o z n) ∧ impl_subFlags.f s x a b = some (v, fl c o z n) := by
  have h := val_size ha
  have ra := val_rng ha
  have rb := val_rng hb
  have hl := lim_or s
  have hw : wrap64 (wrap64 (a - b) - x) = a - b - x := by unfold wrap64; omega
  have hc : ((a - b - x) != (a - b - x) % lim s) = decide (a - b - x < 0) := by
    rw [Bool.eq_iff_iff]; simp only [bne_iff_ne, ne_eq, decide_eq_true_eq]
    rcases hl with e | e <;> rw [e] at ra rb ⊢ <;> omega
  have e1 : spec_l1Sub.f s x a b = some ((a - b - x) % lim s, fl (decide (a - b - x < 0)) (wrap64 (wrap64 (sgv s a - sgv s b) - x) != sgv s ((a - b - x) % lim s)) ((a - b - x) % lim s == 0) (decide ((a - b - x) % lim s ≥ half s))) := by
    unfold spec_l1Sub.f
    simp only [limS h, ssg h, sflag, szn h, Option.bind_some, hw, mask_lim h]
    rfl
  refine ⟨_, _, _, _, _, e1, ?_⟩
  unfold impl_subFlags.f impl_reckoned.f
  simp only [limI h, isg h, iflag, izn h, Option.bind_some, hw, mask_lim h, hc]
  rfl

theorem fl_x (c o z n : Bool) : bits .andNot .i64 (fl c o z n) 16 = bits .and .i64 (fl c o z n) 15 := by
  cases c <;> cases o <;> cases z <;> cases n <;> decide +kernel
theorem cmp_eq {s f a b : Int} (ha : val s a = true) (hb : val s b = true) : ∃ r, spec_l1Cmp.f s f a b = some r ∧ impl_cmpFlags.f s f a b = some r := by
  obtain ⟨v, c', o, z, n, e1, e2⟩ := sub_eq ha hb (x := 0) (by omega)
  unfold impl_cmpFlags.f spec_l1Cmp.f
  rw [e1, e2]
  refine ⟨_, rfl, ?_⟩
  simp only [Option.bind_some, fl_x]

theorem FnExactCmpFlags : laws_FnExactCmpFlags.Pure := by
  intro s f a b hs hf ha hb
  unfold laws_FnExactCmpFlags.f impl_CmpFlags.f spec_CmpFlags.f impl_areFlags.f spec_l1Flags.f
  rw [two_eq, ival, ival, iin, sin]
  by_cases c : 0 ≤ f ∧ f ≤ 31
  · cases h1 : val s a
    · simp [c]
    · cases h2 : val s b
      · simp [c]
      · obtain ⟨r, e1, e2⟩ := cmp_eq h1 h2 (f := f)
        simp [c, e1, e2]
  · cases h1 : val s a <;> cases h2 : val s b <;> simp [c]
end Go.Proofs.Ytahdahfafmpanaa.Pure
