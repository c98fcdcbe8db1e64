/- FnExactNewBus, the plain law: the program's and the reference's NewBus answer alike at every two lists, write nothing, and what the answer holds is new. -/
import Derived.Test.YtpcocklckalkmaaHFnExactNewBusx4
import Derived.Test.YtpcocklckalkmaaBits
namespace Go.Proofs.Ytpcocklckalkmaa.Pure
open Go.RowKit Go.Proofs.Ytpcocklckalkmaa.HFnExactNewBus Go.Proofs.YtpcocklckalkmaaW.PrintWords Go.Proofs.YtpcocklckalkmaaW.PrintLast Go.Proofs.Ytpcocklckalkmaa.Bt
set_option linter.unusedVariables false
set_option linter.unusedSimpArgs false

theorem sin (a b c : Int) : spec_l1In.f a b c = some (decide (b ≤ a ∧ a ≤ c)) := by
  unfold spec_l1In.f
  by_cases h : b ≤ a <;> simp [h]
theorem iin (a b c : Int) : impl_within.f a b c = some (decide (b ≤ a ∧ a ≤ c)) := by
  unfold impl_within.f
  by_cases h : b ≤ a <;> simp [h]

theorem wnat {i : Nat} (h : i < 4611686018427387904) : wrap64 ((i : Int) + 1) = ((i + 1 : Nat) : Int) := by unfold wrap64; omega
theorem rd_nat (l : List Int) (i : Nat) : rd l (i : Int) = l.getD i 0 := by unfold rd; rw [Int.toNat_natCast]

theorem toI_loop (l : List Int) (hm : l.length ≤ 4611686018427387000) : ∀ (d k i : Nat) (out : List Int), out.length = l.length → i ≤ l.length → (∀ j, j < i → out[j]? = l[j]?) → l.length - i = d → d < k → laws_toIntS.l0 k l out (i : Int) = some l := by
  intro d
  induction d with
  | zero =>
    intro k i out ho hi hj hd hk
    obtain ⟨k, rfl⟩ : ∃ m, k = m + 1 := ⟨k - 1, by omega⟩
    simp only [laws_toIntS.l0]
    rw [if_neg (by omega)]
    congr 1
    refine List.ext_getElem? fun j => ?_
    by_cases h : j < l.length
    · exact hj j (by omega)
    · rw [List.getElem?_eq_none (by omega), List.getElem?_eq_none (by omega)]
  | succ d ih =>
    intro k i out ho hi hj hd hk
    obtain ⟨k, rfl⟩ : ∃ m, k = m + 1 := ⟨k - 1, by omega⟩
    simp only [laws_toIntS.l0]
    rw [if_pos (by omega), if_pos (by omega), if_pos (by omega), wnat (by omega), rd_nat, Int.toNat_natCast]
    refine ih k (i + 1) _ (by rw [List.length_set]; exact ho) (by omega) ?_ (by omega) (by omega)
    intro j hj'
    by_cases e : j = i
    · subst e
      rw [List.getElem?_set_self (by omega), List.getElem?_eq_getElem (by omega)]
      simp [List.getD, List.getElem?_eq_getElem (show j < l.length by omega)]
    · rw [List.getElem?_set_ne (by omega)]
      exact hj j (by omega)
theorem toI (l : List Int) (k : Nat) (hm : l.length ≤ 1048576) (hk : l.length < k) : laws_toIntS.f k l = some l := by
  unfold laws_toIntS.f
  rw [if_pos (by omega), if_pos (by omega)]
  exact toI_loop l (by omega) l.length k 0 _ (by simp) (by omega) (fun j hj => by omega) (by omega) hk

theorem eqI_loop (l : List Int) (hm : l.length ≤ 4611686018427387000) : ∀ (d k i : Nat), i ≤ l.length → l.length - i = d → d < k → laws_eqIntS.l0 k l l (i : Int) = some true := by
  intro d
  induction d with
  | zero =>
    intro k i hi hd hk
    obtain ⟨k, rfl⟩ : ∃ m, k = m + 1 := ⟨k - 1, by omega⟩
    simp only [laws_eqIntS.l0]
    rw [if_neg (by omega)]
  | succ d ih =>
    intro k i hi hd hk
    obtain ⟨k, rfl⟩ : ∃ m, k = m + 1 := ⟨k - 1, by omega⟩
    simp only [laws_eqIntS.l0]
    rw [if_pos (by omega), if_pos (by omega), if_pos (by omega), if_pos trivial, wnat (by omega)]
    exact ih k (i + 1) (by omega) (by omega) (by omega)
theorem eqI (l : List Int) (k : Nat) (hm : l.length ≤ 1048576) (hk : l.length < k) : laws_eqIntS.f k l l = some true := by
  unfold laws_eqIntS.f
  rw [if_pos rfl]
  exact eqI_loop l (by omega) l.length k 0 (by omega) (by omega) hk

theorem markI_loop (m : Int) (h0 : 0 ≤ m) (h1 : m ≤ 1000000000) (n : Nat) (hn : n ≤ 1048576) : ∀ (d k i : Nat) (L : List Int), L.length = n → i ≤ n → (∀ j, j < i → L[j]? = some (m + j)) → n - i = d → d < k →
    ∃ L', laws_markIntS.l0 k L (m + i) (i : Int) = some (m + n, L') ∧ L'.length = n ∧ ∀ j, j < n → L'[j]? = some (m + j) := by
  intro d
  induction d with
  | zero =>
    intro k i L hl hi hj hd hk
    obtain ⟨k, rfl⟩ : ∃ m, k = m + 1 := ⟨k - 1, by omega⟩
    simp only [laws_markIntS.l0]
    rw [if_neg (by omega)]
    exact ⟨L, by rw [show i = n from by omega], hl, fun j hj' => hj j (by omega)⟩
  | succ d ih =>
    intro k i L hl hi hj hd hk
    obtain ⟨k, rfl⟩ : ∃ m, k = m + 1 := ⟨k - 1, by omega⟩
    simp only [laws_markIntS.l0]
    rw [if_pos (by omega), if_pos (by omega), wnat (by omega), Int.toNat_natCast, show wrap64 (m + i + 1) = m + ((i + 1 : Nat) : Int) from by unfold wrap64; omega]
    refine ih k (i + 1) _ (by rw [List.length_set]; exact hl) (by omega) ?_ (by omega) (by omega)
    intro j hj'
    by_cases e : j = i
    · subst e
      rw [List.getElem?_set_self (by omega)]
    · rw [List.getElem?_set_ne (by omega)]
      exact hj j (by omega)
theorem heldI_loop (m : Int) (h0 : 0 ≤ m) (h1 : m ≤ 1000000000) (n : Nat) (hn : n ≤ 1048576) (L : List Int) (hl : L.length = n) (hj : ∀ j, j < n → L[j]? = some (m + j)) : ∀ (d k i : Nat), i ≤ n → n - i = d → d < k →
    laws_heldIntS.l0 k L (m + i) (i : Int) = some (m + n) := by
  intro d
  induction d with
  | zero =>
    intro k i hi hd hk
    obtain ⟨k, rfl⟩ : ∃ m, k = m + 1 := ⟨k - 1, by omega⟩
    simp only [laws_heldIntS.l0]
    rw [if_neg (by omega), show i = n from by omega]
  | succ d ih =>
    intro k i hi hd hk
    obtain ⟨k, rfl⟩ : ∃ m, k = m + 1 := ⟨k - 1, by omega⟩
    simp only [laws_heldIntS.l0]
    rw [if_pos (by omega), if_pos (by omega), rd_nat, if_pos (by simp [List.getD, hj i (by omega)]), wnat (by omega), show wrap64 (m + i + 1) = m + ((i + 1 : Nat) : Int) from by unfold wrap64; omega]
    exact ih k (i + 1) (by omega) (by omega) (by omega)
/-- A list that is marked, and held so. -/
theorem markI (l : List Int) (k : Nat) (m : Int) (h0 : 0 ≤ m) (h1 : m ≤ 1000000000) (hm : l.length ≤ 1048576) (hk : l.length < k) :
    ∃ L, laws_markIntS.f k l m = some (m + l.length, L) ∧ L.length = l.length ∧ ∀ k', l.length < k' → laws_heldIntS.f k' L m = some (m + l.length) := by
  have h := markI_loop m h0 h1 l.length hm l.length k 0 l rfl (by omega) (fun j hj => by omega) (by omega) hk
  rw [show m + ((0 : Nat) : Int) = m from by omega] at h
  obtain ⟨L, e, hl, hj⟩ := h
  refine ⟨L, e, hl, fun k' hk' => ?_⟩
  have g := heldI_loop m h0 h1 l.length hm L hl hj l.length k' 0 (by omega) (by omega) hk'
  rw [show m + ((0 : Nat) : Int) = m from by omega] at g
  exact g

theorem drop_any (p : Int → Bool) (l : List Int) (i : Nat) (h : i < l.length) : (l.drop i).any p = (p (l.getD i 0) || (l.drop (i + 1)).any p) := by
  rw [List.drop_eq_getElem_cons h, List.any_cons]
  simp [List.getD, List.getElem?_eq_getElem h]
theorem bytes_loop (l : List Int) (hm : l.length ≤ 1048576) : ∀ (d k i : Nat), i ≤ l.length → l.length - i = d → d < k → spec_l4Bytes.l0 k l (l.length : Int) (i : Int) = some (!((l.drop i).any impl_areBytes.bad)) := by
  intro d
  induction d with
  | zero =>
    intro k i hi hd hk
    obtain ⟨k, rfl⟩ : ∃ m, k = m + 1 := ⟨k - 1, by omega⟩
    simp only [spec_l4Bytes.l0]
    rw [if_neg (by omega), List.drop_eq_nil_of_le (by omega)]
    rfl
  | succ d ih =>
    intro k i hi hd hk
    obtain ⟨k, rfl⟩ : ∃ m, k = m + 1 := ⟨k - 1, by omega⟩
    simp only [spec_l4Bytes.l0]
    rw [if_pos (by omega), if_pos (by omega), if_pos (by omega), rd_nat, sin, Option.bind_some, wnat (by omega), ih k (i + 1) (by omega) (by omega) (by omega), drop_any _ l i (by omega)]
    cases h : impl_areBytes.bad (l.getD i 0)
    · have h' : decide (0 ≤ l.getD i 0 ∧ l.getD i 0 ≤ 255) = true := by rw [impl_areBytes.bad, Bool.not_eq_false'] at h; exact h
      rw [if_pos h', Bool.false_or]
    · have h' : decide (0 ≤ l.getD i 0 ∧ l.getD i 0 ≤ 255) = false := by rw [impl_areBytes.bad, Bool.not_eq_true'] at h; exact h
      rw [if_neg (by rw [h']; simp), Bool.true_or]
      rfl
theorem bytes_eq (l : List Int) (k : Nat) (hm : l.length ≤ 1048576) (hk : l.length < k) : spec_l4Bytes.f k l = some (!(l.any impl_areBytes.bad)) := by
  have := bytes_loop l hm l.length k 0 (by omega) (by omega) hk
  rwa [List.drop_zero] at this

theorem splice_get (L cs : List Int) (off j : Nat) (h : off + cs.length ≤ L.length) : (splice L off cs)[j]? = if off ≤ j ∧ j < off + cs.length then cs[j - off]? else L[j]? := by
  unfold splice
  by_cases h1 : j < off
  · rw [if_neg (by omega), List.getElem?_append_left (by rw [List.length_take]; omega), List.getElem?_take, if_pos h1]
  · rw [List.getElem?_append_right (by rw [List.length_take]; omega), List.length_take, Nat.min_eq_left (by omega)]
    by_cases h2 : j < off + cs.length
    · rw [if_pos (by omega), List.getElem?_append_left (by omega)]
    · rw [if_neg (by omega), List.getElem?_append_right (by omega), List.getElem?_drop]
      congr 1
      omega
theorem splice_set (L l : List Int) (off i : Nat) (hi : i < l.length) (h : off + l.length ≤ L.length) : (splice L off (l.take i)).set (off + i) (l.getD i 0) = splice L off (l.take (i + 1)) := by
  refine List.ext_getElem? fun j => ?_
  have e0 : (l.take i).length = i := by rw [List.length_take]; omega
  have e1 : (l.take (i + 1)).length = i + 1 := by rw [List.length_take]; omega
  have el : (splice L off (l.take i)).length = L.length := length_splice _ _ _ (by omega)
  rw [splice_get _ _ _ _ (by omega), e1]
  by_cases c : j = off + i
  · subst c
    rw [List.getElem?_set_self (by omega), if_pos (by omega), show off + i - off = i by omega, List.getElem?_take, if_pos (by omega)]
    simp [List.getD, List.getElem?_eq_getElem hi]
  · rw [List.getElem?_set_ne (by omega), splice_get _ _ _ _ (by omega), e0]
    by_cases d : off ≤ j ∧ j < off + i
    · rw [if_pos d, if_pos (by omega), List.getElem?_take, if_pos (by omega), List.getElem?_take, if_pos (by omega)]
    · rw [if_neg d, if_neg (by omega)]
theorem splice_nil (L : List Int) (off : Nat) (h : off ≤ L.length) : splice L off [] = L := by
  unfold splice
  simp
theorem rom_loop (l Z : List Int) (hl : l.length ≤ 64) (hZ : Z.length = 512) : ∀ (d k i : Nat), i ≤ l.length → l.length - i = d → d < k → spec_NewBus.l1 k l (l.length : Int) (i : Int) (splice Z 384 (l.take i)) = some (splice Z 384 l, [], true) := by
  intro d
  induction d with
  | zero =>
    intro k i hi hd hk
    obtain ⟨k, rfl⟩ : ∃ m, k = m + 1 := ⟨k - 1, by omega⟩
    simp only [spec_NewBus.l1]
    rw [if_neg (by omega), List.take_of_length_le (by omega)]
  | succ d ih =>
    intro k i hi hd hk
    obtain ⟨k, rfl⟩ : ∃ m, k = m + 1 := ⟨k - 1, by omega⟩
    have e0 : (l.take i).length = i := by rw [List.length_take]; omega
    have el : (splice Z 384 (l.take i)).length = 512 := by rw [length_splice _ _ _ (by omega), hZ]
    have ew : wrap64 (384 + (i : Int)) = ((384 + i : Nat) : Int) := by unfold wrap64; omega
    simp only [spec_NewBus.l1]
    rw [if_pos (by omega), if_pos (by omega), if_pos (by omega), ew, if_pos (by omega), if_pos (by omega), wnat (by omega), rd_nat, Int.toNat_natCast, splice_set _ _ _ _ (by omega) (by omega)]
    exact ih k (i + 1) (by omega) (by omega) (by omega)
theorem ram_loop (l r Z : List Int) (hl : l.length ≤ 384) (hr : r.length ≤ 64) (hZ : Z.length = 512) : ∀ (d k i : Nat), i ≤ l.length → l.length - i = d → d + 70 < k → spec_NewBus.l0 k r l (l.length : Int) (i : Int) (splice Z 0 (l.take i)) = some (splice (splice Z 0 l) 384 r, [], true) := by
  intro d
  induction d with
  | zero =>
    intro k i hi hd hk
    obtain ⟨k, rfl⟩ : ∃ m, k = m + 1 := ⟨k - 1, by omega⟩
    simp only [spec_NewBus.l0]
    rw [if_neg (by omega), List.take_of_length_le (by omega)]
    have el : (splice Z 0 l).length = 512 := by rw [length_splice _ _ _ (by omega), hZ]
    have h := rom_loop r (splice Z 0 l) hr el r.length k 0 (by omega) (by omega) (by omega)
    rw [List.take_zero, splice_nil _ _ (by omega)] at h
    exact h
  | succ d ih =>
    intro k i hi hd hk
    obtain ⟨k, rfl⟩ : ∃ m, k = m + 1 := ⟨k - 1, by omega⟩
    have e0 : (l.take i).length = i := by rw [List.length_take]; omega
    have el : (splice Z 0 (l.take i)).length = 512 := by rw [length_splice _ _ _ (by omega), hZ]
    have es := splice_set Z l 0 i (by omega) (by omega)
    rw [Nat.zero_add] at es
    simp only [spec_NewBus.l0]
    rw [if_pos (by omega), if_pos (by omega), if_pos (by omega), if_pos (by omega), wnat (by omega), rd_nat, Int.toNat_natCast, es]
    exact ih k (i + 1) (by omega) (by omega) (by omega)
theorem newBus_eq (a b : List Int) (k : Nat) (ha : a.length ≤ 1048576) (hb : b.length ≤ 1048576) (hk : a.length + b.length + 600 ≤ k) : ∃ x y, x.length ≤ 512 ∧ spec_NewBus.f k a b = some (x, [], y) ∧ impl_NewBus.f a b = some (x, [], y) := by
  unfold spec_NewBus.f impl_NewBus.f impl_areBytes.f
  rw [bytes_eq a k ha (by omega), bytes_eq b k hb (by omega)]
  obtain ⟨k, rfl⟩ : ∃ m, k = m + 1 := ⟨k - 1, by omega⟩
  have no : spec_NewBus.j0 (k + 1) a b true = some ([], [], false) := by simp [spec_NewBus.j0]
  simp only [Option.bind_some]
  cases h1 : a.any impl_areBytes.bad
  · cases h2 : b.any impl_areBytes.bad
    · simp only [Bool.not_false, Bool.and_true, if_true]
      by_cases c1 : (a.length : Int) > 384
      · have c1' : decide ((a.length : Int) ≤ 384) = false := decide_eq_false (by omega)
        rw [if_pos c1, c1', no]
        exact ⟨[], false, by simp, rfl, rfl⟩
      · have c1' : decide ((a.length : Int) ≤ 384) = true := decide_eq_true (by omega)
        rw [if_neg c1, c1', if_pos rfl]
        by_cases c2 : (b.length : Int) > 64
        · have c2' : decide ((b.length : Int) ≤ 64) = false := decide_eq_false (by omega)
          rw [decide_eq_true c2, c2', no]
          exact ⟨[], false, by simp, rfl, rfl⟩
        · have c2' : decide ((b.length : Int) ≤ 64) = true := decide_eq_true (by omega)
          rw [decide_eq_false c2, c2', if_pos rfl]
          have h := ram_loop a b (List.replicate 512 0) (by omega) (by omega) List.length_replicate a.length k 0 (by omega) (by omega) (by omega)
          rw [List.take_zero, splice_nil _ _ (by omega)] at h
          refine ⟨impl_NewBus.bus a b, true, by rw [impl_NewBus.bus_length (by omega) (by omega)]; exact Nat.le_refl _, ?_, rfl⟩
          simp only [spec_NewBus.j0]
          rw [if_neg (by simp), if_pos (by omega)]
          exact h
    · simp only [Bool.not_false, Bool.not_true, Bool.and_false, Bool.and_true, if_true, Bool.false_eq_true, if_false]
      refine ⟨[], false, by simp, no, ?_⟩
      split <;> rfl
  · simp only [Bool.not_true, Bool.and_false, Bool.false_eq_true, if_false]
    exact ⟨[], false, by simp, no, rfl⟩
theorem eqB0 (x : List Int) (k : Nat) (hx : x.length ≤ 512) (hk : 600 ≤ k) : laws_eqBus.f k x [] x [] = some true := by
  obtain ⟨m, rfl⟩ : ∃ m, k = m + 1 := ⟨k - 1, by omega⟩
  unfold laws_eqBus.f laws_eqAccessS.f
  rw [eqI x _ (by omega) (by omega), Option.bind_some, if_pos rfl, if_pos rfl]
  simp [laws_eqAccessS.l0]
theorem markB0 (x : List Int) (k : Nat) (hx : x.length ≤ 512) (hk : 600 ≤ k) : ∃ L : List Int, laws_markBus.f k x [] 1 = some ((1 : Int) + (x.length : Int), L, []) ∧ ∀ k', 600 ≤ k' → laws_heldBus.f k' L [] 1 = some ((1 : Int) + (x.length : Int)) := by
  obtain ⟨L, e, _, hh⟩ := markI x k 1 (by omega) (by omega) (by omega) (by omega)
  refine ⟨L, ?_, fun k' hk' => ?_⟩
  · obtain ⟨m, rfl⟩ : ∃ m, k = m + 1 := ⟨k - 1, by omega⟩
    unfold laws_markBus.f laws_markAccessS.f
    rw [e, Option.bind_some]
    simp [laws_markAccessS.l0]
  · obtain ⟨m, rfl⟩ : ∃ m, k' = m + 1 := ⟨k' - 1, by omega⟩
    unfold laws_heldBus.f laws_heldAccessS.f
    rw [hh _ (by omega), Option.bind_some, if_neg (by omega)]
    simp only [laws_heldAccessS.l0]
    rw [if_neg (by simp), Option.bind_some, if_neg (by omega)]
theorem FnExactNewBus : laws_FnExactNewBus.Pure := by
  intro a b _ _ _ _ _ _
  refine ⟨a.length + b.length + 1000, ?_⟩
  unfold laws_FnExactNewBus.f
  by_cases ca : (a.length : Int) > 1048576
  · rw [if_pos ca]
  · rw [if_neg ca]
    by_cases cb : (b.length : Int) > 1048576
    · rw [if_pos cb]
    · rw [if_neg cb]
      have ma : a.length ≤ 1048576 := by omega
      have mb : b.length ≤ 1048576 := by omega
      generalize hK : a.length + b.length + 1000 = K
      have ta : ∀ k, a.length + b.length + 50 ≤ k → laws_toIntS.f k a = some a := fun k hk => toI a k ma (by omega)
      have tb : ∀ k, a.length + b.length + 50 ≤ k → laws_toIntS.f k b = some b := fun k hk => toI b k mb (by omega)
      have ea : ∀ k, a.length + b.length + 50 ≤ k → laws_eqIntS.f k a a = some true := fun k hk => eqI a k ma (by omega)
      have eb : ∀ k, a.length + b.length + 50 ≤ k → laws_eqIntS.f k b b = some true := fun k hk => eqI b k mb (by omega)
      obtain ⟨x, y, hx, s1, i1⟩ := newBus_eq a b K ma mb (by omega)
      have er : ∀ k, 600 ≤ k → laws_eqBus.f k x [] x [] = some true := fun k hk => eqB0 x k hx hk
      rw [ta K (by omega), Option.bind_some, tb K (by omega), Option.bind_some, s1, Option.bind_some, Option.bind_some, Option.bind_some, i1, Option.bind_some, er K (by omega), Option.bind_some, if_pos rfl]
      rw [show (y != y) = false from by simp]
      obtain ⟨K, rfl⟩ : ∃ m, K = m + 3 := ⟨K - 3, by omega⟩
      rw [laws_FnExactNewBus.j0, if_neg (by simp), ta _ (by omega), Option.bind_some, ea _ (by omega), Option.bind_some, if_pos rfl, tb _ (by omega), Option.bind_some, eb _ (by omega), Option.bind_some, if_pos rfl]
      obtain ⟨La, ma1, _, _⟩ := markI a (K + 2) 1 (by omega) (by omega) ma (by omega)
      obtain ⟨Lb, mb1, _, _⟩ := markI b (K + 2) (1 + a.length) (by omega) (by omega) mb (by omega)
      rw [ma1, Option.bind_some, mb1, Option.bind_some, if_neg (by show ¬ ((1 : Int) + (a.length : Int) + (b.length : Int) < 0); omega), er _ (by omega), Option.bind_some, if_pos rfl]
      rw [show (y != y) = false from by simp]
      rw [laws_FnExactNewBus.j1, if_neg (by simp)]
      obtain ⟨Lr, mr1, hr1⟩ := markB0 x (K + 1) hx (by omega)
      rw [mr1, Option.bind_some, hr1 _ (by omega), Option.bind_some, if_neg (by omega), if_pos rfl, ta _ (by omega), Option.bind_some, tb _ (by omega), Option.bind_some, i1, Option.bind_some, er _ (by omega), Option.bind_some, if_pos rfl]
      rw [show (y != y) = false from by simp]
      rw [laws_FnExactNewBus.j2, if_neg (by simp), hr1 _ (by omega), Option.bind_some, if_neg (by omega), if_pos rfl]
end Go.Proofs.Ytpcocklckalkmaa.Pure
