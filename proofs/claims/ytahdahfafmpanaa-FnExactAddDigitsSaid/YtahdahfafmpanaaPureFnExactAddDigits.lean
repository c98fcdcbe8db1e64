/- FnExactAddDigits, the plain law: the program's and the reference's AddDigits answer alike at every two lists, write nothing and share nothing. -/
import Derived.Test.YtahdahfafmpanaaPFnExactAddDigitsx4
import Derived.Test.YtahdahfafmpanaaBits
namespace Go.Proofs.Ytahdahfafmpanaa.Pure
open Go.RowKit Go.Proofs.Ytahdahfafmpanaa.PFnExactAddDigits Go.Proofs.YtahdahfafmpanaaW.PrintWords Go.Proofs.YtahdahfafmpanaaW.PrintLast Go.Proofs.Ytahdahfafmpanaa.Bt
set_option linter.unusedVariables false
set_option linter.unusedSimpArgs false

theorem sin (a b c : Int) : spec_l1In.f a b c = some (decide (b ≤ a ∧ a ≤ c)) := by
  unfold spec_l1In.f
  by_cases h : b ≤ a <;> simp [h]
theorem iin (a b c : Int) : impl_within.f a b c = some (decide (b ≤ a ∧ a ≤ c)) := by
  unfold impl_within.f
  by_cases h : b ≤ a <;> simp [h]

def isb (a : Int) : Bool := decide (0 ≤ a ∧ a ≤ 153 ∧ a % 16 ≤ 9)
theorem isb_of {a : Int} (h : isb a = true) : 0 ≤ a ∧ a ≤ 153 ∧ a % 16 ≤ 9 := by simpa [isb] using h
theorem sbcd (a : Int) : spec_IsBcd.f a = some (isb a) := by
  unfold spec_IsBcd.f isb
  rw [sin, and15, Option.bind_some]
  by_cases c : 0 ≤ a ∧ a ≤ 255
  · rw [if_pos (by simpa using c)]
    by_cases c1 : a / 16 ≤ 9
    · rw [if_pos c1]; congr 1; rw [Bool.eq_iff_iff]; simp; omega
    · rw [if_neg c1]; congr 1; rw [Bool.eq_iff_iff]; simp; omega
  · rw [if_neg (by simpa using c)]; congr 1; rw [Bool.eq_iff_iff]; simp; omega
theorem ibcd (a : Int) : impl_IsBcd.f a = some (isb a) := by
  unfold impl_IsBcd.f isb
  rw [iin, and15, Option.bind_some]
  by_cases c : 0 ≤ a ∧ a ≤ 153
  · rw [if_pos (by simpa using c)]; congr 1; rw [Bool.eq_iff_iff]; simp; omega
  · rw [if_neg (by simpa using c)]; congr 1; rw [Bool.eq_iff_iff]; simp; omega
/-- What a decimal byte tells. -/
def num (a : Int) : Int := wrap64 (wrap64 (a / 16 * 10) + bits .and .i64 a 15)
theorem num_rng {a : Int} (h : isb a = true) : 0 ≤ num a ∧ num a ≤ 99 := by
  have := isb_of h
  unfold num
  rw [and15, wrap_in (n := a / 16 * 10) (by omega) (by omega), wrap_in (by omega) (by omega)]
  omega
def bcd (n : Int) : Int := bits .or .i64 (wrap64 (wrap64 (Int.tdiv n 10) * 16)) (Int.tmod n 10)
theorem snum (a : Int) : spec_l2Number.f a = some (num a) := rfl
theorem inum (a : Int) : impl_numberOf.f a = some (num a) := rfl
theorem sof (n : Int) : spec_l2Of.f n = some (bcd n) := rfl
theorem iof (n : Int) : impl_bcdOf.f n = some (bcd n) := rfl
theorem carried_eq (n : Int) : impl_carried.f n = some (if 0 ≤ n ∧ n ≤ 99 then (bcd n, 0) else (bcd (Int.tmod (wrap64 (n + 100)) 100), 1)) := by
  unfold impl_carried.f
  rw [iin, Option.bind_some, iof, iof]
  by_cases c : 0 ≤ n ∧ n ≤ 99 <;> simp [c]
theorem two_eq (x a b : Int) : spec_l2Two.f x a b = some (decide (0 ≤ x ∧ x ≤ 1) && (isb a && isb b)) := by
  unfold spec_l2Two.f
  rw [sin, sbcd, sbcd]
  by_cases c : 0 ≤ x ∧ x ≤ 1
  · simp only [Option.bind_some, c, and_self, decide_true, if_true, Bool.true_and]
    cases isb a <;> simp
  · simp [c]
theorem are_eq (k : Nat) (x a b : Int) : impl_areBcd.f (k + 3) x [a, b] = some (decide (0 ≤ x ∧ x ≤ 1) && (isb a && isb b)) := by
  unfold impl_areBcd.f
  have e1 : wrap64 (0 + 1) = 1 := by decide +kernel
  have e2 : wrap64 (1 + 1) = 2 := by decide +kernel
  have r0 : rd [a, b] 0 = a := rfl
  have r1 : rd [a, b] 1 = b := rfl
  have l2 : (([a, b] : List Int).length : Int) = 2 := rfl
  rw [l2]
  have h3 : impl_areBcd.l0 (k + 1) x [a, b] 2 2 = some (decide (0 ≤ x ∧ x ≤ 1)) := by
    simp only [impl_areBcd.l0]
    rw [if_neg (by omega), impl_isBit.f, iin]
    rfl
  have h2 : impl_areBcd.l0 (k + 2) x [a, b] 2 1 = if isb b = true then some (decide (0 ≤ x ∧ x ≤ 1)) else some false := by
    rw [impl_areBcd.l0, if_pos (by omega), if_pos (by omega), l2, if_pos (by omega), r1, ibcd, Option.bind_some, e2, h3]
  rw [impl_areBcd.l0, if_pos (by omega), if_pos (by omega), l2, if_pos (by omega), r0, ibcd, Option.bind_some, e1, h2]
  cases isb a <;> cases isb b <;> simp

theorem wnat {i : Nat} (h : i < 4611686018427387904) : wrap64 ((i : Int) + 1) = ((i + 1 : Nat) : Int) := by unfold wrap64; omega
theorem rd_nat (l : List Int) (i : Nat) : rd l (i : Int) = l.getD i 0 := by unfold rd; rw [Int.toNat_natCast]

theorem toI_loop (l : List Int) (hm : l.length ≤ 4611686018427387000) : ∀ (d k i : Nat) (out : List Int), out.length = l.length → i ≤ l.length → (∀ j, j < i → out[j]? = l[j]?) → l.length - i = d → d < k → laws_toIntS.l0 k l out (i : Int) = some l := by
  intro d
  induction d with
  | zero =>
    intro k i out ho hi hj hd hk
    obtain ⟨k, rfl⟩ : ∃ m, k = m + 1 := ⟨k - 1, by omega⟩
    simp only [laws_toIntS.l0]
    rw [if_neg (by omega)]
    congr 1
    refine List.ext_getElem? fun j => ?_
    by_cases h : j < l.length
    · exact hj j (by omega)
    · rw [List.getElem?_eq_none (by omega), List.getElem?_eq_none (by omega)]
  | succ d ih =>
    intro k i out ho hi hj hd hk
    obtain ⟨k, rfl⟩ : ∃ m, k = m + 1 := ⟨k - 1, by omega⟩
    simp only [laws_toIntS.l0]
    rw [if_pos (by omega), if_pos (by omega), if_pos (by omega), wnat (by omega), rd_nat, Int.toNat_natCast]
    refine ih k (i + 1) _ (by rw [List.length_set]; exact ho) (by omega) ?_ (by omega) (by omega)
    intro j hj'
    by_cases e : j = i
    · subst e
      rw [List.getElem?_set_self (by omega), List.getElem?_eq_getElem (by omega)]
      simp [List.getD, List.getElem?_eq_getElem (show j < l.length by omega)]
    · rw [List.getElem?_set_ne (by omega)]
      exact hj j (by omega)
theorem toI (l : List Int) (k : Nat) (hm : l.length ≤ 1048576) (hk : l.length < k) : laws_toIntS.f k l = some l := by
  unfold laws_toIntS.f
  rw [if_pos (by omega), if_pos (by omega)]
  exact toI_loop l (by omega) l.length k 0 _ (by simp) (by omega) (fun j hj => by omega) (by omega) hk

theorem eqI_loop (l : List Int) (hm : l.length ≤ 4611686018427387000) : ∀ (d k i : Nat), i ≤ l.length → l.length - i = d → d < k → laws_eqIntS.l0 k l l (i : Int) = some true := by
  intro d
  induction d with
  | zero =>
    intro k i hi hd hk
    obtain ⟨k, rfl⟩ : ∃ m, k = m + 1 := ⟨k - 1, by omega⟩
    simp only [laws_eqIntS.l0]
    rw [if_neg (by omega)]
  | succ d ih =>
    intro k i hi hd hk
    obtain ⟨k, rfl⟩ : ∃ m, k = m + 1 := ⟨k - 1, by omega⟩
    simp only [laws_eqIntS.l0]
    rw [if_pos (by omega), if_pos (by omega), if_pos (by omega), if_pos trivial, wnat (by omega)]
    exact ih k (i + 1) (by omega) (by omega) (by omega)
theorem eqI (l : List Int) (k : Nat) (hm : l.length ≤ 1048576) (hk : l.length < k) : laws_eqIntS.f k l l = some true := by
  unfold laws_eqIntS.f
  rw [if_pos rfl]
  exact eqI_loop l (by omega) l.length k 0 (by omega) (by omega) hk

theorem markI_loop (m : Int) (h0 : 0 ≤ m) (h1 : m ≤ 1000000000) (n : Nat) (hn : n ≤ 1048576) : ∀ (d k i : Nat) (L : List Int), L.length = n → i ≤ n → (∀ j, j < i → L[j]? = some (m + j)) → n - i = d → d < k →
    ∃ L', laws_markIntS.l0 k L (m + i) (i : Int) = some (m + n, L') ∧ L'.length = n ∧ ∀ j, j < n → L'[j]? = some (m + j) := by
  intro d
  induction d with
  | zero =>
    intro k i L hl hi hj hd hk
    obtain ⟨k, rfl⟩ : ∃ m, k = m + 1 := ⟨k - 1, by omega⟩
    simp only [laws_markIntS.l0]
    rw [if_neg (by omega)]
    exact ⟨L, by rw [show i = n from by omega], hl, fun j hj' => hj j (by omega)⟩
  | succ d ih =>
    intro k i L hl hi hj hd hk
    obtain ⟨k, rfl⟩ : ∃ m, k = m + 1 := ⟨k - 1, by omega⟩
    simp only [laws_markIntS.l0]
    rw [if_pos (by omega), if_pos (by omega), wnat (by omega), Int.toNat_natCast, show wrap64 (m + i + 1) = m + ((i + 1 : Nat) : Int) from by unfold wrap64; omega]
    refine ih k (i + 1) _ (by rw [List.length_set]; exact hl) (by omega) ?_ (by omega) (by omega)
    intro j hj'
    by_cases e : j = i
    · subst e
      rw [List.getElem?_set_self (by omega)]
    · rw [List.getElem?_set_ne (by omega)]
      exact hj j (by omega)
theorem heldI_loop (m : Int) (h0 : 0 ≤ m) (h1 : m ≤ 1000000000) (n : Nat) (hn : n ≤ 1048576) (L : List Int) (hl : L.length = n) (hj : ∀ j, j < n → L[j]? = some (m + j)) : ∀ (d k i : Nat), i ≤ n → n - i = d → d < k →
    laws_heldIntS.l0 k L (m + i) (i : Int) = some (m + n) := by
  intro d
  induction d with
  | zero =>
    intro k i hi hd hk
    obtain ⟨k, rfl⟩ : ∃ m, k = m + 1 := ⟨k - 1, by omega⟩
    simp only [laws_heldIntS.l0]
    rw [if_neg (by omega), show i = n from by omega]
  | succ d ih =>
    intro k i hi hd hk
    obtain ⟨k, rfl⟩ : ∃ m, k = m + 1 := ⟨k - 1, by omega⟩
    simp only [laws_heldIntS.l0]
    rw [if_pos (by omega), if_pos (by omega), rd_nat, if_pos (by simp [List.getD, hj i (by omega)]), wnat (by omega), show wrap64 (m + i + 1) = m + ((i + 1 : Nat) : Int) from by unfold wrap64; omega]
    exact ih k (i + 1) (by omega) (by omega) (by omega)
/-- A list that is marked, and held so. -/
theorem markI (l : List Int) (k : Nat) (m : Int) (h0 : 0 ≤ m) (h1 : m ≤ 1000000000) (hm : l.length ≤ 1048576) (hk : l.length < k) :
    ∃ L, laws_markIntS.f k l m = some (m + l.length, L) ∧ L.length = l.length ∧ ∀ k', l.length < k' → laws_heldIntS.f k' L m = some (m + l.length) := by
  have h := markI_loop m h0 h1 l.length hm l.length k 0 l rfl (by omega) (fun j hj => by omega) (by omega) hk
  rw [show m + ((0 : Nat) : Int) = m from by omega] at h
  obtain ⟨L, e, hl, hj⟩ := h
  refine ⟨L, e, hl, fun k' hk' => ?_⟩
  have g := heldI_loop m h0 h1 l.length hm L hl hj l.length k' 0 (by omega) (by omega) hk'
  rw [show m + ((0 : Nat) : Int) = m from by omega] at g
  exact g

theorem sadd {x a b : Int} (hx : 0 ≤ x ∧ x ≤ 1) (ha : isb a = true) (hb : isb b = true) : ∃ v c, spec_l2Add.f x a b = some (v, c) ∧ impl_carried.f (wrap64 (wrap64 (num a + num b) + x)) = some (v, c) := by
  have h1 := num_rng ha
  have h2 := num_rng hb
  unfold spec_l2Add.f
  rw [snum, snum, carried_eq]
  simp only [Option.bind_some, sof]
  have hn : wrap64 (wrap64 (num a + num b) + x) = num a + num b + x := by unfold wrap64; omega
  rw [hn]
  generalize num a = p at h1
  generalize num b = q at h2
  have e1 : Int.tmod (p + q + x) 100 = (p + q + x) % 100 := Int.tmod_eq_emod_of_nonneg (by omega)
  have e2 : Int.tdiv (p + q + x) 100 = (p + q + x) / 100 := Int.tdiv_eq_ediv_of_nonneg (by omega)
  have e3 : wrap64 (p + q + x + 100) = p + q + x + 100 := by unfold wrap64; omega
  have e4 : Int.tmod (p + q + x + 100) 100 = (p + q + x + 100) % 100 := Int.tmod_eq_emod_of_nonneg (by omega)
  rw [e1, e2, e3, e4]
  have e5 : (p + q + x + 100) % 100 = (p + q + x) % 100 := by omega
  rw [e5]
  refine ⟨_, _, rfl, ?_⟩
  split
  · rename_i c
    rw [show (p + q + x) % 100 = p + q + x from by omega, show wrap64 ((p + q + x) / 100) = 0 from by unfold wrap64; omega]
  · rename_i c
    rw [show wrap64 ((p + q + x) / 100) = 1 from by unfold wrap64; omega]
theorem addBcd_eq (k : Nat) (x a b : Int) : ∃ v c ok, spec_AddBcd.f x a b = some (v, c, ok) ∧ impl_AddBcd.f (k + 3) x a b = some (v, c, ok) := by
  unfold impl_AddBcd.f spec_AddBcd.f
  rw [two_eq, are_eq k]
  cases h : (decide (0 ≤ x ∧ x ≤ 1) && (isb a && isb b))
  · exact ⟨_, _, _, rfl, rfl⟩
  · rw [Bool.and_eq_true, Bool.and_eq_true, decide_eq_true_eq] at h
    obtain ⟨v, c, h1, h2⟩ := sadd h.1 h.2.1 h.2.2
    exact ⟨v, c, true, by simp [h1], by simp [inum, h2]⟩

theorem loop_eq (a b : List Int) (n : Nat) (hn : n ≤ 8) (ha : a.length = n) (hb : b.length = n) : ∀ (d k i : Nat) (out : List Int) (c : Int), i ≤ n → n - i = d → d + 4 ≤ k → out.length = i →
    ∃ r, r.1.length ≤ 8 ∧ spec_AddDigits.l0 k a b out c (n : Int) (i : Int) = some r ∧ impl_AddDigits.l0 k a b out c (n : Int) (i : Int) = some r := by
  intro d
  induction d with
  | zero =>
    intro k i out c hi hd hk ho
    obtain ⟨k, rfl⟩ : ∃ m, k = m + 1 := ⟨k - 1, by omega⟩
    simp only [spec_AddDigits.l0, impl_AddDigits.l0]
    rw [if_neg (by omega), if_neg (by omega)]
    exact ⟨(out, c, true), by show out.length ≤ 8; omega, rfl, rfl⟩
  | succ d ih =>
    intro k i out c hi hd hk ho
    obtain ⟨k, rfl⟩ : ∃ m, k = m + 4 := ⟨k - 4, by omega⟩
    rw [spec_AddDigits.l0, impl_AddDigits.l0]
    rw [if_pos (by omega), if_pos (by omega), if_pos (by omega), if_pos (by omega), if_pos (by omega), if_pos (by omega), if_pos (by omega), if_pos (by omega)]
    obtain ⟨v, c', ok, e1, e2⟩ := addBcd_eq k c (rd a i) (rd b i)
    rw [e1, e2]
    simp only [Option.bind_some]
    cases ok
    · exact ⟨([], 0, false), by simp, by simp, by simp⟩
    · rw [if_pos rfl, if_pos rfl, if_pos (by omega), if_pos (by omega), wnat (by omega)]
      exact ih (k + 3) (i + 1) _ c' (by omega) (by omega) (by omega) (by simp [ho])
theorem many_eq (a b : List Int) (k : Nat) (hk : 20 ≤ k) : ∃ r, r.1.length ≤ 8 ∧ spec_AddDigits.f k a b = some r ∧ impl_AddDigits.f k a b = some r := by
  obtain ⟨k, rfl⟩ : ∃ m, k = m + 1 := ⟨k - 1, by omega⟩
  unfold spec_AddDigits.f impl_AddDigits.f
  rw [sin, iin]
  by_cases c : (1 : Int) ≤ (a.length : Int) ∧ (a.length : Int) ≤ 8
  · simp only [c, and_self, decide_true, Option.bind_some, if_true]
    by_cases e : b.length = a.length
    · have hb : ((b.length : Int) != (a.length : Int)) = false := by simp [e]
      rw [hb]
      simp only [spec_AddDigits.j0, impl_AddDigits.j0, Bool.false_eq_true, if_false]
      exact loop_eq a b a.length (by omega) rfl e a.length k 0 [] 0 (by omega) (by omega) (by omega) rfl
    · have hb : ((b.length : Int) != (a.length : Int)) = true := by simp; omega
      rw [hb]
      exact ⟨([], 0, false), by simp, by simp [spec_AddDigits.j0], by simp [impl_AddDigits.j0]⟩
  · have h : decide ((1 : Int) ≤ (a.length : Int) ∧ (a.length : Int) ≤ 8) = false := decide_eq_false c
    rw [h]
    exact ⟨([], 0, false), by simp, by simp [spec_AddDigits.j0], by simp [impl_AddDigits.j0]⟩
theorem FnExactAddDigits : laws_FnExactAddDigits.Pure := by
  intro a b _ _ _ _ _ _
  refine ⟨a.length + b.length + 100, ?_⟩
  unfold laws_FnExactAddDigits.f
  by_cases ca : (a.length : Int) > 1048576
  · rw [if_pos ca]
  · rw [if_neg ca]
    by_cases cb : (b.length : Int) > 1048576
    · rw [if_pos cb]
    · rw [if_neg cb]
      have ma : a.length ≤ 1048576 := by omega
      have mb : b.length ≤ 1048576 := by omega
      generalize hK : a.length + b.length + 100 = K
      have ta : ∀ k, a.length + b.length + 50 ≤ k → laws_toIntS.f k a = some a := fun k hk => toI a k ma (by omega)
      have tb : ∀ k, a.length + b.length + 50 ≤ k → laws_toIntS.f k b = some b := fun k hk => toI b k mb (by omega)
      have ea : ∀ k, a.length + b.length + 50 ≤ k → laws_eqIntS.f k a a = some true := fun k hk => eqI a k ma (by omega)
      have eb : ∀ k, a.length + b.length + 50 ≤ k → laws_eqIntS.f k b b = some true := fun k hk => eqI b k mb (by omega)
      obtain ⟨r, hr, s1, i1⟩ := many_eq a b K (by omega)
      have er : ∀ k, 50 ≤ k → laws_eqIntS.f k r.1 r.1 = some true := fun k hk => eqI r.1 k (by omega) (by omega)
      rw [ta K (by omega), Option.bind_some, tb K (by omega), Option.bind_some, s1, Option.bind_some, Option.bind_some, Option.bind_some, i1, Option.bind_some, er K (by omega), Option.bind_some, if_pos rfl, if_pos rfl]
      rw [show (r.2.2 != r.2.2) = false from by simp]
      obtain ⟨K, rfl⟩ : ∃ m, K = m + 3 := ⟨K - 3, by omega⟩
      rw [laws_FnExactAddDigits.j0, if_neg (by simp), ta _ (by omega), Option.bind_some, ea _ (by omega), Option.bind_some, if_pos rfl, tb _ (by omega), Option.bind_some, eb _ (by omega), Option.bind_some, if_pos rfl]
      obtain ⟨La, ma1, _, _⟩ := markI a (K + 2) 1 (by omega) (by omega) ma (by omega)
      obtain ⟨Lb, mb1, _, _⟩ := markI b (K + 2) (1 + a.length) (by omega) (by omega) mb (by omega)
      rw [ma1, Option.bind_some, mb1, Option.bind_some, if_neg (by show ¬ ((1 : Int) + (a.length : Int) + (b.length : Int) < 0); omega), er _ (by omega), Option.bind_some, if_pos rfl, if_pos rfl]
      rw [show (r.2.2 != r.2.2) = false from by simp]
      rw [laws_FnExactAddDigits.j1, if_neg (by simp)]
      obtain ⟨Lr, mr1, hl, hr1⟩ := markI r.1 (K + 1) 1 (by omega) (by omega) (by omega) (by omega)
      obtain ⟨r', hr', s2, i2⟩ := many_eq a b (K + 1) (by omega)
      have e2 : r' = r := by
        have := at_rounds (fun k => spec_AddDigits.mono a b k) (show K + 1 ≤ K + 3 by omega) s2
        rw [s1] at this
        exact (Option.some.inj this).symm
      subst e2
      rw [mr1, Option.bind_some, hr1 _ (by omega), Option.bind_some, if_neg (by omega), if_pos rfl, ta _ (by omega), Option.bind_some, tb _ (by omega), Option.bind_some, i2, Option.bind_some, er _ (by omega), Option.bind_some, if_pos rfl, if_pos rfl]
      rw [show (r'.2.2 != r'.2.2) = false from by simp]
      rw [laws_FnExactAddDigits.j2, if_neg (by simp), hr1 _ (by omega), Option.bind_some, if_neg (by omega), if_pos rfl]
end Go.Proofs.Ytahdahfafmpanaa.Pure
