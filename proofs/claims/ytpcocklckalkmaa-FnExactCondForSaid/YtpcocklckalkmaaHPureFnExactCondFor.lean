/- FnExactCondFor, the plain law: the program's and the reference's CondFor answer alike at every three ints; the answer owns its memory. -/
import Derived.Test.YtpcocklckalkmaaHFnExactCondForx3
import Derived.Test.YtpcocklckalkmaaBits
namespace Go.Proofs.Ytpcocklckalkmaa.Pure
open Go.RowKit Go.Proofs.Ytpcocklckalkmaa.HFnExactCondFor Go.Proofs.YtpcocklckalkmaaW.PrintWords Go.Proofs.YtpcocklckalkmaaW.PrintLast Go.Proofs.Ytpcocklckalkmaa.Bt
set_option linter.unusedVariables false
set_option linter.unusedSimpArgs false

theorem sin (a b c : Int) : spec_l1In.f a b c = some (decide (b ≤ a ∧ a ≤ c)) := by
  unfold spec_l1In.f
  by_cases h : b ≤ a <;> simp [h]
theorem iin (a b c : Int) : impl_within.f a b c = some (decide (b ≤ a ∧ a ≤ c)) := by
  unfold impl_within.f
  by_cases h : b ≤ a <;> simp [h]

theorem lim1 : impl_limitOf.f 1 = some 256 := by decide +kernel
theorem lim2 : impl_limitOf.f 2 = some 65536 := by decide +kernel
theorem top1 : spec_l1Top.f 1 = some 256 := by decide +kernel
theorem top2 : spec_l1Top.f 2 = some 65536 := by decide +kernel
/-- Is v a value of a size: both sides. -/
def val (s v : Int) : Bool := decide ((s = 1 ∧ 0 ≤ v ∧ v ≤ 255) ∨ (s = 2 ∧ 0 ≤ v ∧ v ≤ 65535))
theorem val_of {s v : Int} (h : val s v = true) : (s = 1 ∧ 0 ≤ v ∧ v ≤ 255) ∨ (s = 2 ∧ 0 ≤ v ∧ v ≤ 65535) := by simpa [val] using h
theorem w256 : wrap64 (256 - 1) = 255 := by decide +kernel
theorem w65536 : wrap64 (65536 - 1) = 65535 := by decide +kernel
theorem sval (s v : Int) : spec_l1Value.f s v = some (val s v) := by
  unfold spec_l1Value.f spec_l1Size.f val
  by_cases h1 : s = 1
  · subst h1
    rw [if_pos rfl, Option.bind_some, if_pos rfl, top1, Option.bind_some, w256, sin, Option.bind_some]
    simp
  · by_cases h2 : s = 2
    · subst h2
      rw [if_neg h1, Option.bind_some, if_pos (by decide), top2, Option.bind_some, w65536, sin, Option.bind_some]
      simp
    · simp [h1, h2]
theorem ival (s v : Int) : impl_isValue.f s v = some (val s v) := by
  unfold impl_isValue.f impl_isSize.f val
  by_cases h1 : s = 1
  · subst h1
    rw [if_pos rfl, Option.bind_some, if_pos rfl, lim1, Option.bind_some, w256, iin, Option.bind_some]
    simp
  · by_cases h2 : s = 2
    · subst h2
      rw [if_neg h1, Option.bind_some, if_pos (by decide), lim2, Option.bind_some, w65536, iin, Option.bind_some]
      simp
    · simp [h1, h2]

/-- One more than the greatest value of a size. -/
def lim (s : Int) : Int := if s = 1 then 256 else 65536
theorem limI {s : Int} (h : s = 1 ∨ s = 2) : impl_limitOf.f s = some (lim s) := by
  rcases h with rfl | rfl
  · exact lim1
  · exact lim2
theorem limS {s : Int} (h : s = 1 ∨ s = 2) : spec_l1Top.f s = some (lim s) := by
  rcases h with rfl | rfl
  · exact top1
  · exact top2
theorem lim_or (s : Int) : lim s = 256 ∨ lim s = 65536 := by unfold lim; split <;> simp
theorem val_size {s v : Int} (h : val s v = true) : s = 1 ∨ s = 2 := by have := val_of h; omega
theorem val_rng {s v : Int} (h : val s v = true) : 0 ≤ v ∧ v < lim s := by
  have := val_of h
  unfold lim
  split <;> omega

def flagv (b : Bool) (f : Int) : Int := if b = true then f else 0
theorem sflag (b : Bool) (f : Int) : spec_l1Flag.f b f = some (flagv b f) := by
  unfold spec_l1Flag.f flagv
  split <;> rfl
theorem iflag (b : Bool) (f : Int) : impl_flag.f b f = some (flagv b f) := by
  unfold impl_flag.f flagv
  split <;> rfl
def half (s : Int) : Int := if s = 1 then 128 else 32768
theorem half_is (s : Int) : wrap64 (Int.tdiv (lim s) 2) = half s := by
  unfold lim half
  split <;> decide +kernel
def znv (s v : Int) : Int := bits .or .i64 (flagv (v == 0) 4) (flagv (decide (v ≥ half s)) 8)
theorem szn {s : Int} (h : s = 1 ∨ s = 2) (v : Int) : spec_l1Zn.f s v = some (znv s v) := by
  unfold spec_l1Zn.f
  rw [limS h]
  simp only [sflag, Option.bind_some, half_is]
  rfl
theorem izn {s : Int} (h : s = 1 ∨ s = 2) (v : Int) : impl_signs.f s v = some (znv s v) := by
  unfold impl_signs.f
  rw [limI h]
  simp only [iflag, Option.bind_some, half_is]
  rfl

def sgv (s v : Int) : Int := if v ≥ wrap64 (Int.tdiv (lim s) 2) then wrap64 (v - lim s) else v
theorem ssg {s : Int} (h : s = 1 ∨ s = 2) (v : Int) : spec_l1Signed.f s v = some (sgv s v) := by
  unfold spec_l1Signed.f sgv
  rw [limS h]
  simp only [Option.bind_some]
  split <;> rfl
theorem isg {s : Int} (h : s = 1 ∨ s = 2) (v : Int) : impl_signedOf.f s v = some (sgv s v) := by
  unfold impl_signedOf.f sgv
  rw [limI h]
  simp only [Option.bind_some]
  split <;> rfl

theorem two_eq (s x a b : Int) : spec_l1Two.f s x a b = some (val s a && (val s b && decide (0 ≤ x ∧ x ≤ 1))) := by
  unfold spec_l1Two.f
  rw [sval, sval, sin]
  cases val s a <;> cases val s b <;> simp
/-- The flags: C and X together, V, Z, N. -/
def fl (c o z n : Bool) : Int := bits .or .i64 (bits .or .i64 (flagv c 17) (flagv o 2)) (bits .or .i64 (flagv z 4) (flagv n 8))
theorem mask_lim {s : Int} (h : s = 1 ∨ s = 2) (x : Int) : bits .and .i64 x (wrap64 (lim s - 1)) = x % lim s := by
  rcases h with rfl | rfl
  · rw [show lim 1 = 256 from rfl, w256]; exact and255 x
  · rw [show lim 2 = 65536 from rfl, w65536]; exact and65535 x

theorem sub_eq {s x a b : Int} (ha : val s a = true) (hb : val s b = true) (hx : 0 ≤ x ∧ x ≤ 1) :
    ∃ v c o z n, spec_l1Sub.f s x a b = some (v, fl c o z n) ∧ impl_subFlags.f s x a b = some (v, fl c o z n) := by
  have h := val_size ha
  have ra := val_rng ha
  have rb := val_rng hb
  have hl := lim_or s
  have hw : wrap64 (wrap64 (a - b) - x) = a - b - x := by unfold wrap64; omega
  have hc : ((a - b - x) != (a - b - x) % lim s) = decide (a - b - x < 0) := by
    rw [Bool.eq_iff_iff]; simp only [bne_iff_ne, ne_eq, decide_eq_true_eq]
    rcases hl with e | e <;> rw [e] at ra rb ⊢ <;> omega
  have e1 : spec_l1Sub.f s x a b = some ((a - b - x) % lim s, fl (decide (a - b - x < 0)) (wrap64 (wrap64 (sgv s a - sgv s b) - x) != sgv s ((a - b - x) % lim s)) ((a - b - x) % lim s == 0) (decide ((a - b - x) % lim s ≥ half s))) := by
    unfold spec_l1Sub.f
    simp only [limS h, ssg h, sflag, szn h, Option.bind_some, hw, mask_lim h]
    rfl
  refine ⟨_, _, _, _, _, e1, ?_⟩
  unfold impl_subFlags.f impl_reckoned.f
  simp only [limI h, isg h, iflag, izn h, Option.bind_some, hw, mask_lim h, hc]
  rfl

theorem fl_x (c o z n : Bool) : bits .andNot .i64 (fl c o z n) 16 = bits .and .i64 (fl c o z n) 15 := by
  cases c <;> cases o <;> cases z <;> cases n <;> decide +kernel
theorem cmp_eq {s f a b : Int} (ha : val s a = true) (hb : val s b = true) : ∃ r, spec_l1Cmp.f s f a b = some r ∧ impl_cmpFlags.f s f a b = some r := by
  obtain ⟨v, c', o, z, n, e1, e2⟩ := sub_eq ha hb (x := 0) (by omega)
  unfold impl_cmpFlags.f spec_l1Cmp.f
  rw [e1, e2]
  refine ⟨_, rfl, ?_⟩
  simp only [Option.bind_some, fl_x]

theorem wnat {i : Nat} (h : i < 4611686018427387904) : wrap64 ((i : Int) + 1) = ((i + 1 : Nat) : Int) := by unfold wrap64; omega
theorem rd_nat (l : List Int) (i : Nat) : rd l (i : Int) = l.getD i 0 := by unfold rd; rw [Int.toNat_natCast]

theorem rdB_nat_ (l : List Bool) (i : Nat) : rdOf false l (i : Int) = l.getD i false := by unfold rdOf; rw [Int.toNat_natCast]
theorem eqBo_loop (l : List Bool) (hm : l.length ≤ 4611686018427387000) : ∀ (d k i : Nat), i ≤ l.length → l.length - i = d → d < k → laws_eqBoolS.l0 k l l (i : Int) = some true := by
  intro d
  induction d with
  | zero =>
    intro k i hi hd hk
    obtain ⟨k, rfl⟩ : ∃ m, k = m + 1 := ⟨k - 1, by omega⟩
    rw [laws_eqBoolS.l0, if_neg (by omega)]
  | succ d ih =>
    intro k i hi hd hk
    obtain ⟨k, rfl⟩ : ∃ m, k = m + 1 := ⟨k - 1, by omega⟩
    rw [laws_eqBoolS.l0, if_pos (by omega), if_pos (by omega), if_pos (by omega), if_neg (by simp), wnat (by omega)]
    exact ih k (i + 1) (by omega) (by omega) (by omega)
theorem eqBo (l : List Bool) (k : Nat) (hm : l.length ≤ 1048576) (hk : l.length < k) : laws_eqBoolS.f k l l = some true := by
  unfold laws_eqBoolS.f
  rw [if_pos rfl]
  exact eqBo_loop l (by omega) l.length k 0 (by omega) (by omega) hk
def mkb (x : Int) : Bool := Int.tmod x 3 == 0
theorem markB_loop (m : Int) (h0 : 0 ≤ m) (h1 : m ≤ 1000000000) (n : Nat) (hn : n ≤ 1048576) : ∀ (d k i : Nat) (L : List Bool), L.length = n → i ≤ n → (∀ j : Nat, j < i → L[j]? = some (mkb (m + j))) → n - i = d → d < k →
    ∃ L', laws_markBoolS.l0 k L (m + i) (i : Int) = some (m + n, L') ∧ L'.length = n ∧ ∀ j : Nat, j < n → L'[j]? = some (mkb (m + j)) := by
  intro d
  induction d with
  | zero =>
    intro k i L hl hi hj hd hk
    obtain ⟨k, rfl⟩ : ∃ m, k = m + 1 := ⟨k - 1, by omega⟩
    rw [laws_markBoolS.l0, if_neg (by omega)]
    exact ⟨L, by rw [show i = n from by omega], hl, fun j hj' => hj j (by omega)⟩
  | succ d ih =>
    intro k i L hl hi hj hd hk
    obtain ⟨k, rfl⟩ : ∃ m, k = m + 1 := ⟨k - 1, by omega⟩
    rw [laws_markBoolS.l0, if_pos (by omega), if_pos (by omega), wnat (by omega), Int.toNat_natCast, show wrap64 (m + i + 1) = m + ((i + 1 : Nat) : Int) from by unfold wrap64; omega]
    refine ih k (i + 1) _ (by rw [List.length_set]; exact hl) (by omega) ?_ (by omega) (by omega)
    intro j hj'
    by_cases e : j = i
    · subst e
      rw [List.getElem?_set_self (by omega)]
      rfl
    · rw [List.getElem?_set_ne (by omega)]
      exact hj j (by omega)
theorem heldB_loop (m : Int) (h0 : 0 ≤ m) (h1 : m ≤ 1000000000) (n : Nat) (hn : n ≤ 1048576) (L : List Bool) (hl : L.length = n) (hj : ∀ j : Nat, j < n → L[j]? = some (mkb (m + j))) : ∀ (d k i : Nat), i ≤ n → n - i = d → d < k →
    laws_heldBoolS.l0 k L (m + i) (i : Int) = some (m + n) := by
  intro d
  induction d with
  | zero =>
    intro k i hi hd hk
    obtain ⟨k, rfl⟩ : ∃ m, k = m + 1 := ⟨k - 1, by omega⟩
    rw [laws_heldBoolS.l0, if_neg (by omega), show i = n from by omega]
  | succ d ih =>
    intro k i hi hd hk
    obtain ⟨k, rfl⟩ : ∃ m, k = m + 1 := ⟨k - 1, by omega⟩
    rw [laws_heldBoolS.l0, if_pos (by omega), if_pos (by omega), rdB_nat_, if_neg (by simp [List.getD, hj i (by omega), mkb]), wnat (by omega), show wrap64 (m + i + 1) = m + ((i + 1 : Nat) : Int) from by unfold wrap64; omega]
    exact ih k (i + 1) (by omega) (by omega) (by omega)
theorem markB (l : List Bool) (k : Nat) (m : Int) (h0 : 0 ≤ m) (h1 : m ≤ 1000000000) (hm : l.length ≤ 1048576) (hk : l.length < k) :
    ∃ L, laws_markBoolS.f k l m = some (m + l.length, L) ∧ L.length = l.length ∧ ∀ k', l.length < k' → laws_heldBoolS.f k' L m = some (m + l.length) := by
  have h := markB_loop m h0 h1 l.length hm l.length k 0 l rfl (by omega) (fun j hj => by omega) (by omega) hk
  rw [show m + ((0 : Nat) : Int) = m from by omega] at h
  obtain ⟨L, e, hl, hj⟩ := h
  refine ⟨L, e, hl, fun k' hk' => ?_⟩
  have g := heldB_loop m h0 h1 l.length hm L hl hj l.length k' 0 (by omega) (by omega) hk'
  rw [show m + ((0 : Nat) : Int) = m from by omega] at g
  exact g

theorem nb (x : Int) : (!(x != 0)) = (x == 0) := by simp [bne]
theorem even_eq (e f : Int) : spec_l8Even.f e f = some (impl_testCond.is e f) := by
  unfold spec_l8Even.f impl_testCond.is
  simp only [nb]
  by_cases h2 : e = 2
  · rw [if_pos h2, if_pos h2]
  · rw [if_neg h2, if_neg h2]
    by_cases h4 : e = 4
    · rw [if_pos h4, if_pos h4]
    · rw [if_neg h4, if_neg h4]
      by_cases h6 : e = 6
      · rw [if_pos h6, if_pos h6]
      · rw [if_neg h6, if_neg h6]
        by_cases h8 : e = 8
        · rw [if_pos h8, if_pos h8]
        · rw [if_neg h8, if_neg h8]
          by_cases h10 : e = 10
          · rw [if_pos h10, if_pos h10]
          · rw [if_neg h10, if_neg h10]
            by_cases h12 : e = 12
            · rw [if_pos h12, if_pos h12]
            · rw [if_neg h12, if_neg h12]
              by_cases h14 : e = 14
              · rw [if_pos h14, if_pos h14]
                generalize ((bits .and .i64 f 8 != 0) == (bits .and .i64 f 2 != 0)) = L
                cases L <;> simp
              · rw [if_neg h14, if_neg h14]
theorem test_eq {c : Int} (h : 0 ≤ c) (f : Int) : spec_l8Test.f c f = impl_testCond.f c f := by
  unfold spec_l8Test.f impl_testCond.f
  rw [even_eq, Option.bind_some, and1, Int.tmod_eq_emod_of_nonneg h]
theorem test_some (c f : Int) : ∃ b, impl_testCond.f c f = some b := ⟨_, rfl⟩

theorem cf_loop (f : Int) : ∀ (d k : Nat) (out : List Bool) (i : Nat), i ≤ 16 → 16 - i = d → d < k → out.length = i → ∃ r, r.1.length ≤ 16 ∧ spec_CondFor.l0 k f out (i : Int) = some r ∧ impl_CondFor.l0 k f out (i : Int) = some r := by
  intro d
  induction d with
  | zero =>
    intro k out i hi hd hk ho
    obtain ⟨k, rfl⟩ : ∃ m, k = m + 1 := ⟨k - 1, by omega⟩
    rw [spec_CondFor.l0, impl_CondFor.l0, if_neg (by omega), if_neg (by omega)]
    exact ⟨(out, true), by show out.length ≤ 16; omega, rfl, rfl⟩
  | succ d ih =>
    intro k out i hi hd hk ho
    obtain ⟨k, rfl⟩ : ∃ m, k = m + 1 := ⟨k - 1, by omega⟩
    obtain ⟨b, hb⟩ := test_some (i : Int) f
    rw [spec_CondFor.l0, impl_CondFor.l0, if_pos (by omega), if_pos (by omega), test_eq (by omega), hb, Option.bind_some, Option.bind_some, if_pos (by omega), if_pos (by omega), wnat (by omega)]
    exact ih k _ (i + 1) (by omega) (by omega) (by omega) (by simp [ho])
theorem condFor_eq (s a b : Int) (k : Nat) (hk : 17 ≤ k) : ∃ r, r.1.length ≤ 16 ∧ spec_CondFor.f k s a b = some r ∧ impl_CondFor.f k s a b = some r := by
  unfold spec_CondFor.f impl_CondFor.f impl_CmpFlags.f impl_areFlags.f
  rw [two_eq, ival, ival, iin]
  cases h1 : val s a
  · exact ⟨([], false), by simp, by simp, by simp⟩
  · cases h2 : val s b
    · exact ⟨([], false), by simp, by simp, by simp⟩
    · obtain ⟨f, e1, e2⟩ := cmp_eq h1 h2 (f := 0)
      obtain ⟨r, hr, g1, g2⟩ := cf_loop f 16 k [] 0 (by omega) (by omega) (by omega) rfl
      exact ⟨r, hr, by simp only [e1, Bool.true_and, Bool.and_true, Option.bind_some, if_true, decide_true, show ((0 : Int) ≤ 0 ∧ (0 : Int) ≤ 1) = True from by simp]; exact g1, by simp only [e2, Option.bind_some, if_true, decide_true, show ((0 : Int) ≤ 0 ∧ (0 : Int) ≤ 31) = True from by simp]; exact g2⟩
theorem FnExactCondFor : laws_FnExactCondFor.Pure := by
  intro s a b _ _ _
  refine ⟨40, ?_⟩
  obtain ⟨q, hq, s1, i1⟩ := condFor_eq s a b 40 (by omega)
  obtain ⟨q', hq', s2, i2⟩ := condFor_eq s a b 39 (by omega)
  have e2 : q' = q := by
    have := at_rounds (fun k => spec_CondFor.mono s a b k) (show 39 ≤ 40 by omega) s2
    rw [s1] at this
    exact (Option.some.inj this).symm
  subst e2
  have er : ∀ k, 20 ≤ k → laws_eqBoolS.f k q'.1 q'.1 = some true := fun k hk => eqBo q'.1 k (by omega) (by omega)
  obtain ⟨Lr, mr1, hl, hr1⟩ := markB q'.1 39 1 (by omega) (by omega) (by omega) (by omega)
  unfold laws_FnExactCondFor.f
  rw [s1, Option.bind_some, i1, Option.bind_some, er _ (by omega), Option.bind_some, if_pos rfl, show (q'.2 != q'.2) = false from by simp]
  rw [laws_FnExactCondFor.j0, if_neg (by simp), mr1, Option.bind_some, hr1 _ (by omega), Option.bind_some, if_neg (by omega), if_pos rfl, i2, Option.bind_some, er _ (by omega), Option.bind_some, if_pos rfl, show (q'.2 != q'.2) = false from by simp]
  rw [laws_FnExactCondFor.j1, if_neg (by simp), hr1 _ (by omega), Option.bind_some, if_neg (by omega), if_pos rfl]
end Go.Proofs.Ytpcocklckalkmaa.Pure
