/- FnExactAddMany, the plain law: the program's and the reference's AddMany answer alike at every size and every two lists, write nothing and share nothing. -/
import Derived.Test.YtpcocklckalkmaaPFnExactAddManyx3
import Derived.Test.YtpcocklckalkmaaBits
namespace Go.Proofs.Ytpcocklckalkmaa.Pure
open Go.RowKit Go.Proofs.Ytpcocklckalkmaa.PFnExactAddMany Go.Proofs.YtpcocklckalkmaaW.PrintWords Go.Proofs.YtpcocklckalkmaaW.PrintLast Go.Proofs.Ytpcocklckalkmaa.Bt
set_option linter.unusedVariables false
set_option linter.unusedSimpArgs false

theorem sin (a b c : Int) : spec_l1In.f a b c = some (decide (b ≤ a ∧ a ≤ c)) := by
  unfold spec_l1In.f
  by_cases h : b ≤ a <;> simp [h]
theorem iin (a b c : Int) : impl_within.f a b c = some (decide (b ≤ a ∧ a ≤ c)) := by
  unfold impl_within.f
  by_cases h : b ≤ a <;> simp [h]

theorem lim1 : impl_limitOf.f 1 = some 256 := by decide +kernel
theorem lim2 : impl_limitOf.f 2 = some 65536 := by decide +kernel
theorem top1 : spec_l1Top.f 1 = some 256 := by decide +kernel
theorem top2 : spec_l1Top.f 2 = some 65536 := by decide +kernel
/-- Is v a value of a size: both sides. -/
def val (s v : Int) : Bool := decide ((s = 1 ∧ 0 ≤ v ∧ v ≤ 255) ∨ (s = 2 ∧ 0 ≤ v ∧ v ≤ 65535))
theorem val_of {s v : Int} (h : val s v = true) : (s = 1 ∧ 0 ≤ v ∧ v ≤ 255) ∨ (s = 2 ∧ 0 ≤ v ∧ v ≤ 65535) := by simpa [val] using h
theorem w256 : wrap64 (256 - 1) = 255 := by decide +kernel
theorem w65536 : wrap64 (65536 - 1) = 65535 := by decide +kernel
theorem sval (s v : Int) : spec_l1Value.f s v = some (val s v) := by
  unfold spec_l1Value.f spec_l1Size.f val
  by_cases h1 : s = 1
  · subst h1
    rw [if_pos rfl, Option.bind_some, if_pos rfl, top1, Option.bind_some, w256, sin, Option.bind_some]
    simp
  · by_cases h2 : s = 2
    · subst h2
      rw [if_neg h1, Option.bind_some, if_pos (by decide), top2, Option.bind_some, w65536, sin, Option.bind_some]
      simp
    · simp [h1, h2]
theorem ival (s v : Int) : impl_isValue.f s v = some (val s v) := by
  unfold impl_isValue.f impl_isSize.f val
  by_cases h1 : s = 1
  · subst h1
    rw [if_pos rfl, Option.bind_some, if_pos rfl, lim1, Option.bind_some, w256, iin, Option.bind_some]
    simp
  · by_cases h2 : s = 2
    · subst h2
      rw [if_neg h1, Option.bind_some, if_pos (by decide), lim2, Option.bind_some, w65536, iin, Option.bind_some]
      simp
    · simp [h1, h2]

/-- One more than the greatest value of a size. -/
def lim (s : Int) : Int := if s = 1 then 256 else 65536
theorem limI {s : Int} (h : s = 1 ∨ s = 2) : impl_limitOf.f s = some (lim s) := by
  rcases h with rfl | rfl
  · exact lim1
  · exact lim2
theorem limS {s : Int} (h : s = 1 ∨ s = 2) : spec_l1Top.f s = some (lim s) := by
  rcases h with rfl | rfl
  · exact top1
  · exact top2
theorem lim_or (s : Int) : lim s = 256 ∨ lim s = 65536 := by unfold lim; split <;> simp
theorem val_size {s v : Int} (h : val s v = true) : s = 1 ∨ s = 2 := by have := val_of h; omega
theorem val_rng {s v : Int} (h : val s v = true) : 0 ≤ v ∧ v < lim s := by
  have := val_of h
  unfold lim
  split <;> omega

def flagv (b : Bool) (f : Int) : Int := if b = true then f else 0
theorem sflag (b : Bool) (f : Int) : spec_l1Flag.f b f = some (flagv b f) := by
  unfold spec_l1Flag.f flagv
  split <;> rfl
theorem iflag (b : Bool) (f : Int) : impl_flag.f b f = some (flagv b f) := by
  unfold impl_flag.f flagv
  split <;> rfl
def half (s : Int) : Int := if s = 1 then 128 else 32768
theorem half_is (s : Int) : wrap64 (Int.tdiv (lim s) 2) = half s := by
  unfold lim half
  split <;> decide +kernel
def znv (s v : Int) : Int := bits .or .i64 (flagv (v == 0) 4) (flagv (decide (v ≥ half s)) 8)
theorem szn {s : Int} (h : s = 1 ∨ s = 2) (v : Int) : spec_l1Zn.f s v = some (znv s v) := by
  unfold spec_l1Zn.f
  rw [limS h]
  simp only [sflag, Option.bind_some, half_is]
  rfl
theorem izn {s : Int} (h : s = 1 ∨ s = 2) (v : Int) : impl_signs.f s v = some (znv s v) := by
  unfold impl_signs.f
  rw [limI h]
  simp only [iflag, Option.bind_some, half_is]
  rfl

def sgv (s v : Int) : Int := if v ≥ wrap64 (Int.tdiv (lim s) 2) then wrap64 (v - lim s) else v
theorem ssg {s : Int} (h : s = 1 ∨ s = 2) (v : Int) : spec_l1Signed.f s v = some (sgv s v) := by
  unfold spec_l1Signed.f sgv
  rw [limS h]
  simp only [Option.bind_some]
  split <;> rfl
theorem isg {s : Int} (h : s = 1 ∨ s = 2) (v : Int) : impl_signedOf.f s v = some (sgv s v) := by
  unfold impl_signedOf.f sgv
  rw [limI h]
  simp only [Option.bind_some]
  split <;> rfl

theorem two_eq (s x a b : Int) : spec_l1Two.f s x a b = some (val s a && (val s b && decide (0 ≤ x ∧ x ≤ 1))) := by
  unfold spec_l1Two.f
  rw [sval, sval, sin]
  cases val s a <;> cases val s b <;> simp
/-- The flags: C and X together, V, Z, N. -/
def fl (c o z n : Bool) : Int := bits .or .i64 (bits .or .i64 (flagv c 17) (flagv o 2)) (bits .or .i64 (flagv z 4) (flagv n 8))
theorem mask_lim {s : Int} (h : s = 1 ∨ s = 2) (x : Int) : bits .and .i64 x (wrap64 (lim s - 1)) = x % lim s := by
  rcases h with rfl | rfl
  · rw [show lim 1 = 256 from rfl, w256]; exact and255 x
  · rw [show lim 2 = 65536 from rfl, w65536]; exact and65535 x

theorem add_eq {s x a b : Int} (ha : val s a = true) (hb : val s b = true) (hx : 0 ≤ x ∧ x ≤ 1) :
    ∃ v c o n, spec_l1Add.f s x a b = some (v, fl c o (v == 0) n) ∧ impl_addFlags.f s x a b = some (v, fl c o (v == 0) n) := by
  have h := val_size ha
  have e1 : spec_l1Add.f s x a b = some (wrap64 (wrap64 (a + b) + x) % lim s, fl (wrap64 (wrap64 (a + b) + x) != wrap64 (wrap64 (a + b) + x) % lim s) (wrap64 (wrap64 (sgv s a + sgv s b) + x) != sgv s (wrap64 (wrap64 (a + b) + x) % lim s)) (wrap64 (wrap64 (a + b) + x) % lim s == 0) (decide (wrap64 (wrap64 (a + b) + x) % lim s ≥ half s))) := by
    unfold spec_l1Add.f
    simp only [limS h, ssg h, sflag, szn h, Option.bind_some, mask_lim h]
    rfl
  refine ⟨_, _, _, _, e1, ?_⟩
  unfold impl_addFlags.f impl_reckoned.f
  simp only [limI h, isg h, iflag, izn h, Option.bind_some, mask_lim h]
  rfl

theorem wnat {i : Nat} (h : i < 4611686018427387904) : wrap64 ((i : Int) + 1) = ((i + 1 : Nat) : Int) := by unfold wrap64; omega
theorem rd_nat (l : List Int) (i : Nat) : rd l (i : Int) = l.getD i 0 := by unfold rd; rw [Int.toNat_natCast]

theorem toI_loop (l : List Int) (hm : l.length ≤ 4611686018427387000) : ∀ (d k i : Nat) (out : List Int), out.length = l.length → i ≤ l.length → (∀ j, j < i → out[j]? = l[j]?) → l.length - i = d → d < k → laws_toIntS.l0 k l out (i : Int) = some l := by
  intro d
  induction d with
  | zero =>
    intro k i out ho hi hj hd hk
    obtain ⟨k, rfl⟩ : ∃ m, k = m + 1 := ⟨k - 1, by omega⟩
    simp only [laws_toIntS.l0]
    rw [if_neg (by omega)]
    congr 1
    refine List.ext_getElem? fun j => ?_
    by_cases h : j < l.length
    · exact hj j (by omega)
    · rw [List.getElem?_eq_none (by omega), List.getElem?_eq_none (by omega)]
  | succ d ih =>
    intro k i out ho hi hj hd hk
    obtain ⟨k, rfl⟩ : ∃ m, k = m + 1 := ⟨k - 1, by omega⟩
    simp only [laws_toIntS.l0]
    rw [if_pos (by omega), if_pos (by omega), if_pos (by omega), wnat (by omega), rd_nat, Int.toNat_natCast]
    refine ih k (i + 1) _ (by rw [List.length_set]; exact ho) (by omega) ?_ (by omega) (by omega)
    intro j hj'
    by_cases e : j = i
    · subst e
      rw [List.getElem?_set_self (by omega), List.getElem?_eq_getElem (by omega)]
      simp [List.getD, List.getElem?_eq_getElem (show j < l.length by omega)]
    · rw [List.getElem?_set_ne (by omega)]
      exact hj j (by omega)
theorem toI (l : List Int) (k : Nat) (hm : l.length ≤ 1048576) (hk : l.length < k) : laws_toIntS.f k l = some l := by
  unfold laws_toIntS.f
  rw [if_pos (by omega), if_pos (by omega)]
  exact toI_loop l (by omega) l.length k 0 _ (by simp) (by omega) (fun j hj => by omega) (by omega) hk

theorem eqI_loop (l : List Int) (hm : l.length ≤ 4611686018427387000) : ∀ (d k i : Nat), i ≤ l.length → l.length - i = d → d < k → laws_eqIntS.l0 k l l (i : Int) = some true := by
  intro d
  induction d with
  | zero =>
    intro k i hi hd hk
    obtain ⟨k, rfl⟩ : ∃ m, k = m + 1 := ⟨k - 1, by omega⟩
    simp only [laws_eqIntS.l0]
    rw [if_neg (by omega)]
  | succ d ih =>
    intro k i hi hd hk
    obtain ⟨k, rfl⟩ : ∃ m, k = m + 1 := ⟨k - 1, by omega⟩
    simp only [laws_eqIntS.l0]
    rw [if_pos (by omega), if_pos (by omega), if_pos (by omega), if_pos trivial, wnat (by omega)]
    exact ih k (i + 1) (by omega) (by omega) (by omega)
theorem eqI (l : List Int) (k : Nat) (hm : l.length ≤ 1048576) (hk : l.length < k) : laws_eqIntS.f k l l = some true := by
  unfold laws_eqIntS.f
  rw [if_pos rfl]
  exact eqI_loop l (by omega) l.length k 0 (by omega) (by omega) hk

theorem markI_loop (m : Int) (h0 : 0 ≤ m) (h1 : m ≤ 1000000000) (n : Nat) (hn : n ≤ 1048576) : ∀ (d k i : Nat) (L : List Int), L.length = n → i ≤ n → (∀ j, j < i → L[j]? = some (m + j)) → n - i = d → d < k →
    ∃ L', laws_markIntS.l0 k L (m + i) (i : Int) = some (m + n, L') ∧ L'.length = n ∧ ∀ j, j < n → L'[j]? = some (m + j) := by
  intro d
  induction d with
  | zero =>
    intro k i L hl hi hj hd hk
    obtain ⟨k, rfl⟩ : ∃ m, k = m + 1 := ⟨k - 1, by omega⟩
    simp only [laws_markIntS.l0]
    rw [if_neg (by omega)]
    exact ⟨L, by rw [show i = n from by omega], hl, fun j hj' => hj j (by omega)⟩
  | succ d ih =>
    intro k i L hl hi hj hd hk
    obtain ⟨k, rfl⟩ : ∃ m, k = m + 1 := ⟨k - 1, by omega⟩
    simp only [laws_markIntS.l0]
    rw [if_pos (by omega), if_pos (by omega), wnat (by omega), Int.toNat_natCast, show wrap64 (m + i + 1) = m + ((i + 1 : Nat) : Int) from by unfold wrap64; omega]
    refine ih k (i + 1) _ (by rw [List.length_set]; exact hl) (by omega) ?_ (by omega) (by omega)
    intro j hj'
    by_cases e : j = i
    · subst e
      rw [List.getElem?_set_self (by omega)]
    · rw [List.getElem?_set_ne (by omega)]
      exact hj j (by omega)
theorem heldI_loop (m : Int) (h0 : 0 ≤ m) (h1 : m ≤ 1000000000) (n : Nat) (hn : n ≤ 1048576) (L : List Int) (hl : L.length = n) (hj : ∀ j, j < n → L[j]? = some (m + j)) : ∀ (d k i : Nat), i ≤ n → n - i = d → d < k →
    laws_heldIntS.l0 k L (m + i) (i : Int) = some (m + n) := by
  intro d
  induction d with
  | zero =>
    intro k i hi hd hk
    obtain ⟨k, rfl⟩ : ∃ m, k = m + 1 := ⟨k - 1, by omega⟩
    simp only [laws_heldIntS.l0]
    rw [if_neg (by omega), show i = n from by omega]
  | succ d ih =>
    intro k i hi hd hk
    obtain ⟨k, rfl⟩ : ∃ m, k = m + 1 := ⟨k - 1, by omega⟩
    simp only [laws_heldIntS.l0]
    rw [if_pos (by omega), if_pos (by omega), rd_nat, if_pos (by simp [List.getD, hj i (by omega)]), wnat (by omega), show wrap64 (m + i + 1) = m + ((i + 1 : Nat) : Int) from by unfold wrap64; omega]
    exact ih k (i + 1) (by omega) (by omega) (by omega)
/-- A list that is marked, and held so. -/
theorem markI (l : List Int) (k : Nat) (m : Int) (h0 : 0 ≤ m) (h1 : m ≤ 1000000000) (hm : l.length ≤ 1048576) (hk : l.length < k) :
    ∃ L, laws_markIntS.f k l m = some (m + l.length, L) ∧ L.length = l.length ∧ ∀ k', l.length < k' → laws_heldIntS.f k' L m = some (m + l.length) := by
  have h := markI_loop m h0 h1 l.length hm l.length k 0 l rfl (by omega) (fun j hj => by omega) (by omega) hk
  rw [show m + ((0 : Nat) : Int) = m from by omega] at h
  obtain ⟨L, e, hl, hj⟩ := h
  refine ⟨L, e, hl, fun k' hk' => ?_⟩
  have g := heldI_loop m h0 h1 l.length hm L hl hj l.length k' 0 (by omega) (by omega) hk'
  rw [show m + ((0 : Nat) : Int) = m from by omega] at g
  exact g

theorem addFlags_eq (s x a b : Int) : ∃ v F ok, spec_AddFlags.f s x a b = some (v, F, ok) ∧ impl_AddFlags.f s x a b = some (v, F, ok) ∧ (ok = true → ∃ c o n, F = fl c o (v == 0) n) := by
  unfold impl_AddFlags.f spec_AddFlags.f impl_isBit.f
  rw [two_eq, ival, ival, iin]
  by_cases c : 0 ≤ x ∧ x ≤ 1
  · cases h1 : val s a
    · exact ⟨0, 0, false, by simp, by simp [c], by simp⟩
    · cases h2 : val s b
      · exact ⟨0, 0, false, by simp, by simp [c], by simp⟩
      · obtain ⟨v, c', o, n, e1, e2⟩ := add_eq h1 h2 c
        exact ⟨v, _, true, by simp [c, e1], by simp [c, e2], fun _ => ⟨c', o, n, rfl⟩⟩
  · exact ⟨0, 0, false, by simp [c], by simp [c], by simp⟩
theorem fl_and1 (c o z n : Bool) : bits .and .i64 (fl c o z n) 1 = flagv c 1 := by cases c <;> cases o <;> cases z <;> cases n <;> decide +kernel
theorem fl_tdiv (c o z n : Bool) : wrap64 (Int.tdiv (fl c o z n) 16) = flagv c 1 := by cases c <;> cases o <;> cases z <;> cases n <;> decide +kernel
theorem fl_and4 (Z c o z n : Bool) : bits .and .i64 (flagv Z 4) (fl c o z n) = flagv (Z && z) 4 := by cases Z <;> cases c <;> cases o <;> cases z <;> cases n <;> decide +kernel
theorem loop_eq (s : Int) (a b : List Int) (n : Nat) (hn : n ≤ 8) (ha : a.length = n) (hb : b.length = n) : ∀ (d k i : Nat) (out : List Int) (X F : Int) (Z : Bool), wrap64 (Int.tdiv F 16) = X → i ≤ n → n - i = d → d + 1 ≤ k → out.length = i →
    ∃ r, r.1.length ≤ 8 ∧ spec_AddMany.l0 k s a b out X F Z (n : Int) (i : Int) = some r ∧ impl_AddMany.l0 k s a b out F (flagv Z 4) (n : Int) (i : Int) = some r := by
  intro d
  induction d with
  | zero =>
    intro k i out X F Z hX hi hd hk ho
    obtain ⟨k, rfl⟩ : ∃ m, k = m + 1 := ⟨k - 1, by omega⟩
    simp only [spec_AddMany.l0, impl_AddMany.l0]
    rw [if_neg (by omega), if_neg (by omega), sflag]
    exact ⟨(out, _, true), by show out.length ≤ 8; omega, rfl, rfl⟩
  | succ d ih =>
    intro k i out X F Z hX hi hd hk ho
    obtain ⟨k, rfl⟩ : ∃ m, k = m + 1 := ⟨k - 1, by omega⟩
    simp only [spec_AddMany.l0, impl_AddMany.l0]
    rw [if_pos (by omega), if_pos (by omega), if_pos (by omega), if_pos (by omega), if_pos (by omega), if_pos (by omega), if_pos (by omega), if_pos (by omega), hX]
    obtain ⟨v, F', ok, e1, e2, hF⟩ := addFlags_eq s X (rd a i) (rd b i)
    rw [e1, e2]
    simp only [Option.bind_some]
    cases ok
    · exact ⟨([], 0, false), by simp, by simp, by simp⟩
    · obtain ⟨c, o, m, rfl⟩ := hF rfl
      have h := ih k (i + 1) (out ++ [v]) (flagv c 1) (fl c o (v == 0) m) (Z && (v == 0)) (fl_tdiv _ _ _ _) (by omega) (by omega) (by omega) (by simp [ho])
      have hlen : out.length < 17592186044416 := by omega
      have hwn : wrap64 ((i : Int) + 1) = ((i + 1 : Nat) : Int) := wnat (by omega)
      simp only [if_true, hlen, hwn, fl_and4, fl_and1]
      cases Z
      · simp only [Bool.false_eq_true, if_false]; exact h
      · simp only [if_true]; exact h
theorem many_eq (s : Int) (a b : List Int) (k : Nat) (hk : 20 ≤ k) : ∃ r, r.1.length ≤ 8 ∧ spec_AddMany.f k s a b = some r ∧ impl_AddMany.f k s a b = some r := by
  obtain ⟨k, rfl⟩ : ∃ m, k = m + 1 := ⟨k - 1, by omega⟩
  unfold spec_AddMany.f impl_AddMany.f
  rw [sin, iin]
  by_cases c : (1 : Int) ≤ (a.length : Int) ∧ (a.length : Int) ≤ 8
  · simp only [c, and_self, decide_true, Option.bind_some, if_true]
    by_cases e : b.length = a.length
    · have hb : ((b.length : Int) != (a.length : Int)) = false := by simp [e]
      rw [hb]
      simp only [spec_AddMany.j0, impl_AddMany.j0, Bool.false_eq_true, if_false]
      exact loop_eq s a b a.length (by omega) rfl e a.length k 0 [] 0 0 true (by decide +kernel) (by omega) (by omega) (by omega) rfl
    · have hb : ((b.length : Int) != (a.length : Int)) = true := by simp; omega
      rw [hb]
      exact ⟨([], 0, false), by simp, by simp [spec_AddMany.j0], by simp [impl_AddMany.j0]⟩
  · have h : decide ((1 : Int) ≤ (a.length : Int) ∧ (a.length : Int) ≤ 8) = false := decide_eq_false c
    rw [h]
    exact ⟨([], 0, false), by simp, by simp [spec_AddMany.j0], by simp [impl_AddMany.j0]⟩
theorem FnExactAddMany : laws_FnExactAddMany.Pure := by
  intro s a b _ _ _ _ _ _ _
  refine ⟨a.length + b.length + 100, ?_⟩
  unfold laws_FnExactAddMany.f
  by_cases ca : (a.length : Int) > 1048576
  · rw [if_pos ca]
  · rw [if_neg ca]
    by_cases cb : (b.length : Int) > 1048576
    · rw [if_pos cb]
    · rw [if_neg cb]
      have ma : a.length ≤ 1048576 := by omega
      have mb : b.length ≤ 1048576 := by omega
      generalize hK : a.length + b.length + 100 = K
      have ta : ∀ k, a.length + b.length + 50 ≤ k → laws_toIntS.f k a = some a := fun k hk => toI a k ma (by omega)
      have tb : ∀ k, a.length + b.length + 50 ≤ k → laws_toIntS.f k b = some b := fun k hk => toI b k mb (by omega)
      have ea : ∀ k, a.length + b.length + 50 ≤ k → laws_eqIntS.f k a a = some true := fun k hk => eqI a k ma (by omega)
      have eb : ∀ k, a.length + b.length + 50 ≤ k → laws_eqIntS.f k b b = some true := fun k hk => eqI b k mb (by omega)
      obtain ⟨r, hr, s1, i1⟩ := many_eq s a b K (by omega)
      have er : ∀ k, 50 ≤ k → laws_eqIntS.f k r.1 r.1 = some true := fun k hk => eqI r.1 k (by omega) (by omega)
      rw [ta K (by omega), Option.bind_some, tb K (by omega), Option.bind_some, s1, Option.bind_some, Option.bind_some, Option.bind_some, i1, Option.bind_some, er K (by omega), Option.bind_some, if_pos rfl, if_pos rfl]
      rw [show (r.2.2 != r.2.2) = false from by simp]
      obtain ⟨K, rfl⟩ : ∃ m, K = m + 3 := ⟨K - 3, by omega⟩
      rw [laws_FnExactAddMany.j0, if_neg (by simp), ta _ (by omega), Option.bind_some, ea _ (by omega), Option.bind_some, if_pos rfl, tb _ (by omega), Option.bind_some, eb _ (by omega), Option.bind_some, if_pos rfl]
      obtain ⟨La, ma1, _, _⟩ := markI a (K + 2) 1 (by omega) (by omega) ma (by omega)
      obtain ⟨Lb, mb1, _, _⟩ := markI b (K + 2) (1 + a.length) (by omega) (by omega) mb (by omega)
      rw [ma1, Option.bind_some, mb1, Option.bind_some, if_neg (by show ¬ ((1 : Int) + (a.length : Int) + (b.length : Int) < 0); omega), er _ (by omega), Option.bind_some, if_pos rfl, if_pos rfl]
      rw [show (r.2.2 != r.2.2) = false from by simp]
      rw [laws_FnExactAddMany.j1, if_neg (by simp)]
      obtain ⟨Lr, mr1, hl, hr1⟩ := markI r.1 (K + 1) 1 (by omega) (by omega) (by omega) (by omega)
      obtain ⟨r', hr', s2, i2⟩ := many_eq s a b (K + 1) (by omega)
      have e2 : r' = r := by
        have := at_rounds (fun k => spec_AddMany.mono s a b k) (show K + 1 ≤ K + 3 by omega) s2
        rw [s1] at this
        exact (Option.some.inj this).symm
      subst e2
      rw [mr1, Option.bind_some, hr1 _ (by omega), Option.bind_some, if_neg (by omega), if_pos rfl, ta _ (by omega), Option.bind_some, tb _ (by omega), Option.bind_some, i2, Option.bind_some, er _ (by omega), Option.bind_some, if_pos rfl, if_pos rfl]
      rw [show (r'.2.2 != r'.2.2) = false from by simp]
      rw [laws_FnExactAddMany.j2, if_neg (by simp), hr1 _ (by omega), Option.bind_some, if_neg (by omega), if_pos rfl]
end Go.Proofs.Ytpcocklckalkmaa.Pure
