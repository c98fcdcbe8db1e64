/- FnExactRotateBack, the plain law: the program's and the reference's RotateBack answer alike at every five ints; the loops end within 64 rounds. -/
import Derived.Test.YtpcocklckalkmaaHFnExactRotateBackx3
import Derived.Test.YtpcocklckalkmaaBits
namespace Go.Proofs.Ytpcocklckalkmaa.Pure
open Go.RowKit Go.Proofs.Ytpcocklckalkmaa.HFnExactRotateBack Go.Proofs.YtpcocklckalkmaaW.PrintWords Go.Proofs.YtpcocklckalkmaaW.PrintLast Go.Proofs.Ytpcocklckalkmaa.Bt
set_option linter.unusedVariables false
set_option linter.unusedSimpArgs false

theorem sin (a b c : Int) : spec_l1In.f a b c = some (decide (b ≤ a ∧ a ≤ c)) := by
  unfold spec_l1In.f
  by_cases h : b ≤ a <;> simp [h]
theorem iin (a b c : Int) : impl_within.f a b c = some (decide (b ≤ a ∧ a ≤ c)) := by
  unfold impl_within.f
  by_cases h : b ≤ a <;> simp [h]

theorem lim1 : impl_limitOf.f 1 = some 256 := by decide +kernel
theorem lim2 : impl_limitOf.f 2 = some 65536 := by decide +kernel
theorem top1 : spec_l1Top.f 1 = some 256 := by decide +kernel
theorem top2 : spec_l1Top.f 2 = some 65536 := by decide +kernel
/-- Is v a value of a size: both sides. -/
def val (s v : Int) : Bool := decide ((s = 1 ∧ 0 ≤ v ∧ v ≤ 255) ∨ (s = 2 ∧ 0 ≤ v ∧ v ≤ 65535))
theorem val_of {s v : Int} (h : val s v = true) : (s = 1 ∧ 0 ≤ v ∧ v ≤ 255) ∨ (s = 2 ∧ 0 ≤ v ∧ v ≤ 65535) := by simpa [val] using h
theorem w256 : wrap64 (256 - 1) = 255 := by decide +kernel
theorem w65536 : wrap64 (65536 - 1) = 65535 := by decide +kernel
theorem sval (s v : Int) : spec_l1Value.f s v = some (val s v) := by
  unfold spec_l1Value.f spec_l1Size.f val
  by_cases h1 : s = 1
  · subst h1
    rw [if_pos rfl, Option.bind_some, if_pos rfl, top1, Option.bind_some, w256, sin, Option.bind_some]
    simp
  · by_cases h2 : s = 2
    · subst h2
      rw [if_neg h1, Option.bind_some, if_pos (by decide), top2, Option.bind_some, w65536, sin, Option.bind_some]
      simp
    · simp [h1, h2]
theorem ival (s v : Int) : impl_isValue.f s v = some (val s v) := by
  unfold impl_isValue.f impl_isSize.f val
  by_cases h1 : s = 1
  · subst h1
    rw [if_pos rfl, Option.bind_some, if_pos rfl, lim1, Option.bind_some, w256, iin, Option.bind_some]
    simp
  · by_cases h2 : s = 2
    · subst h2
      rw [if_neg h1, Option.bind_some, if_pos (by decide), lim2, Option.bind_some, w65536, iin, Option.bind_some]
      simp
    · simp [h1, h2]

/-- One more than the greatest value of a size. -/
def lim (s : Int) : Int := if s = 1 then 256 else 65536
theorem limI {s : Int} (h : s = 1 ∨ s = 2) : impl_limitOf.f s = some (lim s) := by
  rcases h with rfl | rfl
  · exact lim1
  · exact lim2
theorem limS {s : Int} (h : s = 1 ∨ s = 2) : spec_l1Top.f s = some (lim s) := by
  rcases h with rfl | rfl
  · exact top1
  · exact top2
theorem lim_or (s : Int) : lim s = 256 ∨ lim s = 65536 := by unfold lim; split <;> simp
theorem val_size {s v : Int} (h : val s v = true) : s = 1 ∨ s = 2 := by have := val_of h; omega
theorem val_rng {s v : Int} (h : val s v = true) : 0 ≤ v ∧ v < lim s := by
  have := val_of h
  unfold lim
  split <;> omega

def flagv (b : Bool) (f : Int) : Int := if b = true then f else 0
theorem sflag (b : Bool) (f : Int) : spec_l1Flag.f b f = some (flagv b f) := by
  unfold spec_l1Flag.f flagv
  split <;> rfl
theorem iflag (b : Bool) (f : Int) : impl_flag.f b f = some (flagv b f) := by
  unfold impl_flag.f flagv
  split <;> rfl
def half (s : Int) : Int := if s = 1 then 128 else 32768
theorem half_is (s : Int) : wrap64 (Int.tdiv (lim s) 2) = half s := by
  unfold lim half
  split <;> decide +kernel
def znv (s v : Int) : Int := bits .or .i64 (flagv (v == 0) 4) (flagv (decide (v ≥ half s)) 8)
theorem szn {s : Int} (h : s = 1 ∨ s = 2) (v : Int) : spec_l1Zn.f s v = some (znv s v) := by
  unfold spec_l1Zn.f
  rw [limS h]
  simp only [sflag, Option.bind_some, half_is]
  rfl
theorem izn {s : Int} (h : s = 1 ∨ s = 2) (v : Int) : impl_signs.f s v = some (znv s v) := by
  unfold impl_signs.f
  rw [limI h]
  simp only [iflag, Option.bind_some, half_is]
  rfl

/-- The five flags of a shift: what fell out, FlagX, FlagV, FlagZ, FlagN. -/
def fl5 (a x o z n : Bool) : Int := bits .or .i64 (bits .or .i64 (bits .or .i64 (flagv a 1) (flagv x 16)) (flagv o 2)) (bits .or .i64 (flagv z 4) (flagv n 8))
theorem fl5_i (a x o z n : Bool) : bits .or .i64 (bits .or .i64 (bits .or .i64 (wrap64 (flagv a 1 * 1)) (flagv x 16)) (flagv o 2)) (bits .or .i64 (flagv z 4) (flagv n 8)) = fl5 a x o z n := by
  cases a <;> cases x <;> cases o <;> cases z <;> cases n <;> decide +kernel
theorem fl5_s (a x o z n : Bool) : bits .or .i64 (bits .or .i64 (bits .or .i64 (flagv a 1) (bits .or .i64 (flagv z 4) (flagv n 8))) (flagv o 2)) (flagv x 16) = fl5 a x o z n := by
  cases a <;> cases x <;> cases o <;> cases z <;> cases n <;> decide +kernel
theorem fl5_rng (a x o z n : Bool) : 0 ≤ fl5 a x o z n ∧ fl5 a x o z n ≤ 31 := by
  cases a <;> cases x <;> cases o <;> cases z <;> cases n <;> decide +kernel
theorem w16 (a : Bool) : wrap64 (flagv a 1 * 16) = flagv a 16 := by cases a <;> decide +kernel
/-- The highest bit, the lowest one, FlagX. -/
def hb (s v : Int) : Bool := decide (v ≥ half s)
def lb (v : Int) : Bool := decide (v % 2 = 1)
def xb (f : Int) : Bool := decide (f ≥ 16)
def top (s : Int) : Int := if s = 1 then 7 else 15
theorem top_is {s : Int} (h : s = 1 ∨ s = 2) : wrap64 (wrap64 (8 * s) - 1) = top s := by
  rcases h with rfl | rfl <;> decide +kernel
theorem top_nn (s : Int) : 0 ≤ top s := by unfold top; split <;> omega
theorem shr_top {s v : Int} (h0 : 0 ≤ v) (h1 : v < lim s) : shr .i64 v (top s) = flagv (hb s v) 1 := by
  unfold shr top hb flagv half lim at *
  by_cases h : s = 1
  · rw [if_pos h] at *
    rw [if_pos h]
    show v / 2 ^ (min (7 : Int).toNat 64) = _
    rw [show (2 : Int) ^ (min (7 : Int).toNat 64) = 128 from by decide]
    by_cases c : v ≥ 128 <;> simp [c] <;> omega
  · rw [if_neg h] at *
    rw [if_neg h]
    show v / 2 ^ (min (15 : Int).toNat 64) = _
    rw [show (2 : Int) ^ (min (15 : Int).toNat 64) = 32768 from by decide]
    by_cases c : v ≥ 32768 <;> simp [c] <;> omega
theorem and_lb (v : Int) : bits .and .i64 v 1 = flagv (lb v) 1 := by
  rw [and1]
  unfold lb flagv
  by_cases c : v % 2 = 1
  · simp [c]
  · simp [c]; omega
theorem f32 {f : Int} (h : 0 ≤ f ∧ f ≤ 31) : ∃ m : Fin 32, f = (m.val : Int) := ⟨⟨f.toNat, by omega⟩, by simp; omega⟩
theorem and16_all : ∀ m : Fin 32, bits .and .i64 (m.val : Int) 16 = flagv (xb m.val) 16 := by decide +kernel
theorem and_xb {f : Int} (h : 0 ≤ f ∧ f ≤ 31) : bits .and .i64 f 16 = flagv (xb f) 16 := by
  obtain ⟨m, rfl⟩ := f32 h
  exact and16_all m
theorem tdiv16_all : ∀ m : Fin 32, wrap64 (Int.tdiv (m.val : Int) 16) = flagv (xb m.val) 1 := by decide +kernel
theorem tdiv_xb {f : Int} (h : 0 ≤ f ∧ f ≤ 31) : wrap64 (Int.tdiv f 16) = flagv (xb f) 1 := by
  obtain ⟨m, rfl⟩ := f32 h
  exact tdiv16_all m
theorem ne16 (b : Bool) : (flagv b 16 != 0) = b := by cases b <;> decide +kernel
def outL (s v : Int) (i : Bool) : Int := bits .or .i64 (bits .and .i64 (wrap64 (v * 2)) (wrap64 (lim s - 1))) (flagv i 1)
def outR (s v : Int) (i : Bool) : Int := bits .or .i64 (v / 2) (flagv i (half s))
theorem half2 (s : Int) : wrap64 (wrap64 (2 * half s) - 1) = wrap64 (lim s - 1) := by
  unfold half lim; split <;> decide +kernel
theorem mulhalf (s : Int) (i : Bool) : wrap64 (flagv i 1 * half s) = flagv i (half s) := by
  unfold half; split <;> cases i <;> decide +kernel
theorem shltop (s : Int) (i : Bool) : shl .i64 (flagv i 1) (top s) = flagv i (half s) := by
  unfold half top; split <;> cases i <;> decide +kernel
theorem outL_rng {s v : Int} (h : s = 1 ∨ s = 2) (h0 : 0 ≤ v) (h1 : v < lim s) (i : Bool) : 0 ≤ outL s v i ∧ outL s v i < lim s := by
  unfold outL
  have hw : wrap64 (v * 2) = v * 2 := by have := lim_or s; unfold wrap64; omega
  have hm : bits .and .i64 (v * 2) (wrap64 (lim s - 1)) = (v * 2) % lim s := by
    rcases h with rfl | rfl
    · rw [show lim 1 = 256 from rfl, w256]; exact and255 _
    · rw [show lim 2 = 65536 from rfl, w65536]; exact and65535 _
  rw [hw, hm]
  have hi : flagv i 1 = 0 ∨ flagv i 1 = 1 := by cases i <;> simp [flagv]
  have hl := lim_or s
  rw [or_join 1 _ _ (by rcases hl with e | e <;> rw [e] <;> omega) (by rcases hl with e | e <;> rw [e] <;> omega) (by rcases hl with e | e <;> rw [e] <;> omega) (by omega) (by omega) (by omega)]
  rcases hl with e | e <;> rw [e] <;> omega
theorem or_comm_ (a b : Int) : bits .or .i64 a b = bits .or .i64 b a := by
  show IntKind.i64.wrap _ = IntKind.i64.wrap _
  rw [BitVec.or_comm]
theorem outR_rng {s v : Int} (h0 : 0 ≤ v) (h1 : v < lim s) (i : Bool) : 0 ≤ outR s v i ∧ outR s v i < lim s := by
  unfold outR
  have hl := lim_or s
  rw [or_comm_]
  cases i
  · rw [show flagv false (half s) = 0 from rfl]
    rw [or_join 16 _ _ (by omega) (by omega) (by omega) (by omega) (by omega) (by omega)]
    omega
  · rw [show flagv true (half s) = half s from rfl]
    unfold half lim at *
    by_cases c : s = 1
    · rw [if_pos c] at *
      rw [if_pos c]
      rw [or_join 7 _ _ (by omega) (by omega) (by omega) (by omega) (by omega) (by omega)]
      omega
    · rw [if_neg c] at *
      rw [if_neg c]
      rw [or_join 15 _ _ (by omega) (by omega) (by omega) (by omega) (by omega) (by omega)]
      omega
theorem mul0 (s : Int) : wrap64 (0 * half s) = 0 := by rw [Int.zero_mul]; decide +kernel
theorem shl0 (s : Int) : shl .i64 0 (top s) = 0 := by unfold top; split <;> decide +kernel
theorem ne_sym (a b : Bool) : (a != b) = (b != a) := by cases a <;> cases b <;> rfl
theorem ne1 (a b : Bool) : (flagv a 1 != flagv b 1) = (a != b) := by cases a <;> cases b <;> decide +kernel
theorem cL : (bits .and .i64 0 1 == 0) = true ∧ (bits .and .i64 1 1 == 0) = false ∧ (bits .and .i64 2 1 == 0) = true ∧ (bits .and .i64 3 1 == 0) = false ∧ (bits .and .i64 4 1 == 0) = true ∧ (bits .and .i64 5 1 == 0) = false ∧ (bits .and .i64 6 1 == 0) = true ∧ (bits .and .i64 7 1 == 0) = false := by decide +kernel
theorem cM : (Int.tmod 0 2 == 0) = true ∧ (Int.tmod 1 2 == 0) = false ∧ (Int.tmod 2 2 == 0) = true ∧ (Int.tmod 3 2 == 0) = false ∧ (Int.tmod 4 2 == 0) = true ∧ (Int.tmod 5 2 == 0) = false ∧ (Int.tmod 6 2 == 0) = true ∧ (Int.tmod 7 2 == 0) = false := by decide +kernel
def onceX (kind f : Int) (fell : Bool) : Bool := if kind = 4 ∨ kind = 5 then xb f else fell
def onceI (kind s f v : Int) (fell : Bool) : Bool := if kind = 1 then hb s v else if kind = 4 ∨ kind = 5 then fell else if kind = 6 ∨ kind = 7 then xb f else false
def onceF (kind s v : Int) : Bool := if kind = 0 ∨ kind = 2 ∨ kind = 4 ∨ kind = 6 then hb s v else lb v
def onceW (kind s f v : Int) : Int := if kind = 0 ∨ kind = 2 ∨ kind = 4 ∨ kind = 6 then outL s v (onceI kind s f v (hb s v)) else outR s v (onceI kind s f v (lb v))
def onceFl (kind s f v : Int) : Int := fl5 (onceF kind s v) (onceX kind f (onceF kind s v)) (if kind = 0 then hb s v != hb s (onceW kind s f v) else false) (onceW kind s f v == 0) (decide (onceW kind s f v ≥ half s))
theorem onceW_rng {kind s f v : Int} (h : s = 1 ∨ s = 2) (h0 : 0 ≤ v) (h1 : v < lim s) : 0 ≤ onceW kind s f v ∧ onceW kind s f v < lim s := by
  unfold onceW
  split
  · exact outL_rng h h0 h1 _
  · exact outR_rng h0 h1 _
theorem sonce {kind s f v : Int} (hk : 0 ≤ kind ∧ kind ≤ 7) (h : s = 1 ∨ s = 2) (h0 : 0 ≤ v) (h1 : v < lim s) (hf : 0 ≤ f ∧ f ≤ 31) (k : Nat) :
    spec_l3Once.f (k + 4) kind s f v = some (onceW kind s f v, onceFl kind s f v) := by
  obtain ⟨l0, l1, l2, l3, l4, l5, l6, l7⟩ := cL
  have hd : decide (v ≥ half s) = hb s v := rfl
  have ho : ∀ w, decide (w ≥ half s) = hb s w := fun _ => rfl
  have : kind = 0 ∨ kind = 1 ∨ kind = 2 ∨ kind = 3 ∨ kind = 4 ∨ kind = 5 ∨ kind = 6 ∨ kind = 7 := by omega
  rcases this with rfl | rfl | rfl | rfl | rfl | rfl | rfl | rfl
  all_goals
    unfold onceFl
    rw [← fl5_s]
    unfold spec_l3Once.f spec_l3Left.f
    simp only [limS h, sflag, Option.bind_some, half_is, hd, l0, l1, l2, l3, l4, l5, l6, l7, if_true, if_false, Bool.false_eq_true, spec_l3Once.j0, spec_l3Once.j1, spec_l3Once.j2, spec_l3Once.j3, spec_l3Left.f, szn h, half2, mulhalf, w16, ne1, Int.reduceEq, Int.reduceBEq]
    try simp only [and_lb, and_xb hf, ne16, w16, mulhalf, mul0]
    rfl
theorem ionce {kind s f v : Int} (hk : 0 ≤ kind ∧ kind ≤ 7) (h : s = 1 ∨ s = 2) (h0 : 0 ≤ v) (h1 : v < lim s) (hf : 0 ≤ f ∧ f ≤ 31) (k : Nat) :
    impl_shiftOnce.f (k + 4) kind s f v = some (onceW kind s f v, onceFl kind s f v) := by
  obtain ⟨l0, l1, l2, l3, l4, l5, l6, l7⟩ := cM
  have hw := onceW_rng (kind := kind) (f := f) h h0 h1
  have hs := shr_top hw.1 hw.2
  have : kind = 0 ∨ kind = 1 ∨ kind = 2 ∨ kind = 3 ∨ kind = 4 ∨ kind = 5 ∨ kind = 6 ∨ kind = 7 := by omega
  rcases this with rfl | rfl | rfl | rfl | rfl | rfl | rfl | rfl
  all_goals
    unfold onceFl
    rw [← fl5_i]
    unfold impl_shiftOnce.f impl_isLeft.f
    simp only [top_is h, shr_top h0 h1, Option.bind_some, l0, l1, l2, l3, l4, l5, l6, l7, if_true, if_false, Bool.false_eq_true, impl_shiftOnce.j0, impl_coming.f, impl_coming.j0, Int.reduceEq, Int.reduceBEq, if_pos (top_nn s), impl_isLeft.f, limI h, tdiv_xb hf, shltop, impl_shiftOnce.j1, impl_shiftOnce.j2, iflag, izn h, w16]
    try simp only [and_lb, and_xb hf, shltop, shl0, w16]
    first
    | rfl
    | (rw [show shr .i64 (bits .or .i64 (bits .and .i64 (wrap64 (v * 2)) (wrap64 (lim s - 1))) 0) (top s) = flagv (hb s (onceW 0 s f v)) 1 from hs, ne1, ne_sym]; rfl)

def good (kind s f v : Int) : Bool := decide (0 ≤ kind ∧ kind ≤ 7) && (val s v && decide (0 ≤ f ∧ f ≤ 31))
theorem good_of {kind s f v : Int} (h : good kind s f v = true) : (0 ≤ kind ∧ kind ≤ 7) ∧ (s = 1 ∨ s = 2) ∧ 0 ≤ v ∧ v < lim s ∧ (0 ≤ f ∧ f ≤ 31) := by
  unfold good at h
  rw [Bool.and_eq_true, Bool.and_eq_true, decide_eq_true_eq, decide_eq_true_eq] at h
  exact ⟨h.1, val_size h.2.1, (val_rng h.2.1).1, (val_rng h.2.1).2, h.2.2⟩
theorem sgood (kind s f v : Int) : spec_l3Good.f kind s f v = some (good kind s f v) := by
  unfold spec_l3Good.f spec_l3Kind.f spec_l1Flags.f good
  rw [sin, sval, sin]
  by_cases c : 0 ≤ kind ∧ kind ≤ 7 <;> cases val s v <;> simp [c]
theorem igood (kind s f v : Int) : impl_isShift.f kind s f v = some (good kind s f v) := by
  unfold impl_isShift.f impl_areFlags.f good
  rw [iin, iin, ival]
  by_cases c : 0 ≤ kind ∧ kind ≤ 7 <;> by_cases d : 0 ≤ f ∧ f ≤ 31 <;> simp [c, d]

theorem onceFl_rng (kind s f v : Int) : 0 ≤ onceFl kind s f v ∧ onceFl kind s f v ≤ 31 := fl5_rng _ _ _ _ _
theorem and2_all : ∀ m : Fin 32, bits .and .i64 (m.val : Int) 2 = 0 ∨ bits .and .i64 (m.val : Int) 2 = 2 := by decide +kernel
theorem or2_all : ∀ m : Fin 32, (0 ≤ bits .or .i64 (m.val : Int) 0 ∧ bits .or .i64 (m.val : Int) 0 ≤ 31) ∧ (0 ≤ bits .or .i64 (m.val : Int) 2 ∧ bits .or .i64 (m.val : Int) 2 ≤ 31) := by decide +kernel
theorem over_step {o : Int} (h : o = 0 ∨ o = 2) {F : Int} (hF : 0 ≤ F ∧ F ≤ 31) : bits .or .i64 o (bits .and .i64 F 2) = 0 ∨ bits .or .i64 o (bits .and .i64 F 2) = 2 := by
  obtain ⟨m, rfl⟩ := f32 hF
  rcases h with rfl | rfl <;> rcases and2_all m with e | e <;> rw [e] <;> decide +kernel
theorem loop_eq {kind s : Int} (hk : 0 ≤ kind ∧ kind ≤ 7) (h : s = 1 ∨ s = 2) : ∀ (d k : Nat) (f v n o : Int), 0 ≤ v → v < lim s → 0 ≤ f ∧ f ≤ 31 → 0 ≤ n → n ≤ 63 → n ≤ d → d + 5 ≤ k → o = 0 ∨ o = 2 →
    ∃ w F, spec_l3By.l0 k kind s f v n o = some (w, F) ∧ impl_shiftBy.l0 k kind s f v n o = some (w, F) ∧ 0 ≤ w ∧ w < lim s ∧ 0 ≤ F ∧ F ≤ 31 := by
  intro d
  induction d with
  | zero =>
    intro k f v n o h0 h1 hf n0 n1 hd hk' hov
    obtain ⟨k, rfl⟩ : ∃ m, k = m + 1 := ⟨k - 1, by omega⟩
    simp only [spec_l3By.l0, impl_shiftBy.l0]
    rw [if_neg (by omega), if_neg (by omega)]
    obtain ⟨m, rfl⟩ := f32 hf
    have := or2_all m
    rcases hov with rfl | rfl
    · exact ⟨_, _, rfl, rfl, h0, h1, this.1⟩
    · exact ⟨_, _, rfl, rfl, h0, h1, this.2⟩
  | succ d ih =>
    intro k f v n o h0 h1 hf n0 n1 hd hk' hov
    obtain ⟨k, rfl⟩ : ∃ m, k = m + 5 := ⟨k - 5, by omega⟩
    simp only [spec_l3By.l0, impl_shiftBy.l0]
    by_cases c : n > 0
    · rw [if_pos c, if_pos c, sonce hk h h0 h1 hf k, ionce hk h h0 h1 hf k]
      simp only [Option.bind_some]
      have hw := onceW_rng (kind := kind) (f := f) h h0 h1
      have hn : wrap64 (n - 1) = n - 1 := by unfold wrap64; omega
      rw [hn]
      exact ih (k + 4) _ _ _ _ hw.1 hw.2 (onceFl_rng _ _ _ _) (by omega) (by omega) (by omega) (by omega) (over_step hov (onceFl_rng _ _ _ _))
    · rw [if_neg c, if_neg c]
      obtain ⟨m, rfl⟩ := f32 hf
      have := or2_all m
      rcases hov with rfl | rfl
      · exact ⟨_, _, rfl, rfl, h0, h1, this.1⟩
      · exact ⟨_, _, rfl, rfl, h0, h1, this.2⟩
theorem flz0 (x c z n : Bool) : bits .or .i64 (bits .or .i64 (flagv x 16) (bits .or .i64 (flagv z 4) (flagv n 8))) (flagv c 1) = bits .or .i64 (bits .or .i64 (flagv x 16) (flagv c 1)) (bits .or .i64 (flagv z 4) (flagv n 8)) := by
  cases x <;> cases c <;> cases z <;> cases n <;> decide +kernel
theorem flz0_rng (x c z n : Bool) : 0 ≤ bits .or .i64 (bits .or .i64 (flagv x 16) (flagv c 1)) (bits .or .i64 (flagv z 4) (flagv n 8)) ∧ bits .or .i64 (bits .or .i64 (flagv x 16) (flagv c 1)) (bits .or .i64 (flagv z 4) (flagv n 8)) ≤ 31 := by
  cases x <;> cases c <;> cases z <;> cases n <;> decide +kernel
theorem by_eq {kind s f v n : Int} (hk : 0 ≤ kind ∧ kind ≤ 7) (h : s = 1 ∨ s = 2) (h0 : 0 ≤ v) (h1 : v < lim s) (hf : 0 ≤ f ∧ f ≤ 31) (hn : 0 ≤ n ∧ n ≤ 63) :
    ∃ w F, spec_l3By.f 70 kind s f v n = some (w, F) ∧ impl_shiftBy.f 70 kind s f v n = some (w, F) ∧ 0 ≤ w ∧ w < lim s ∧ 0 ≤ F ∧ F ≤ 31 := by
  unfold spec_l3By.f impl_shiftBy.f
  by_cases c : n = 0
  · rw [if_pos c, if_pos c, szn h, Option.bind_some, and_xb hf]
    by_cases x : flagv (xb f) 16 = 0
    · rw [if_pos x, if_pos x]
      simp only [szn h, izn h, sflag, iflag, Option.bind_some]
      refine ⟨_, _, rfl, ?_, h0, h1, ?_⟩
      · rw [show znv s v = bits .or .i64 (flagv (v == 0) 4) (flagv (decide (v ≥ half s)) 8) from rfl, flz0]
      · rw [show znv s v = bits .or .i64 (flagv (v == 0) 4) (flagv (decide (v ≥ half s)) 8) from rfl, flz0]
        exact flz0_rng _ _ _ _
    · rw [if_neg x, if_neg x]
      simp only [szn h, izn h, sflag, iflag, Option.bind_some]
      refine ⟨_, _, rfl, ?_, h0, h1, ?_⟩
      · rw [show znv s v = bits .or .i64 (flagv (v == 0) 4) (flagv (decide (v ≥ half s)) 8) from rfl, flz0]
      · rw [show znv s v = bits .or .i64 (flagv (v == 0) 4) (flagv (decide (v ≥ half s)) 8) from rfl, flz0]
        exact flz0_rng _ _ _ _
  · rw [if_neg c, if_neg c]
    exact loop_eq hk h 63 70 f v n 0 h0 h1 hf hn.1 hn.2 (by omega) (by omega) (.inl rfl)

theorem xor1_all : ∀ m : Fin 8, 0 ≤ bits .xor .i64 (m.val : Int) 1 ∧ bits .xor .i64 (m.val : Int) 1 ≤ 7 := by decide +kernel
theorem xor1 {kind : Int} (h : 0 ≤ kind ∧ kind ≤ 7) : 0 ≤ bits .xor .i64 kind 1 ∧ bits .xor .i64 kind 1 ≤ 7 := by
  have := xor1_all ⟨kind.toNat, by omega⟩
  rw [show ((⟨kind.toNat, by omega⟩ : Fin 8).val : Int) = kind from by simp; omega] at this
  exact this
theorem FnExactRotateBack : laws_FnExactRotateBack.Pure := by
  intro kind s f v n hk hs hf hv hn
  refine ⟨71, ?_⟩
  unfold laws_FnExactRotateBack.f impl_RotateBack.f spec_RotateBack.f
  rw [sgood, igood, sin, iin]
  cases h : good kind s f v
  · simp [spec_RotateBack.j0, impl_RotateBack.j0]
  · by_cases c : 0 ≤ n ∧ n ≤ 63
    · obtain ⟨g1, g2, g3, g4, g5⟩ := good_of h
      obtain ⟨w, F, e1, e2, w0, w1, F0⟩ := by_eq g1 g2 g3 g4 g5 c
      obtain ⟨w', F', e3, e4, _⟩ := by_eq (xor1 g1) g2 w0 w1 F0 c
      by_cases k4 : kind < 4
      · simp [c, k4, spec_RotateBack.j0, impl_RotateBack.j0]
      · simp [c, k4, spec_RotateBack.j0, impl_RotateBack.j0, e1, e2, e3, e4]
    · by_cases k4 : kind < 4 <;> simp [c, k4, spec_RotateBack.j0, impl_RotateBack.j0]
end Go.Proofs.Ytpcocklckalkmaa.Pure
