/- FnExactPlaceOf, the plain law: the program's and the reference's PlaceOf answer alike at all registers, sizes and operands, and what the answer holds is new. -/
import Derived.Test.YtdpbfjcfpgbbjaaHFnExactPlaceOfx
import Derived.Test.YtdpbfjcfpgbbjaaBits
namespace Go.Proofs.Ytdpbfjcfpgbbjaa.Pure
open Go.RowKit Go.Proofs.Ytdpbfjcfpgbbjaa.HFnExactPlaceOf Go.Proofs.YtdpbfjcfpgbbjaaW.PrintWords Go.Proofs.YtdpbfjcfpgbbjaaW.PrintLast Go.Proofs.Ytdpbfjcfpgbbjaa.Bt
set_option linter.unusedVariables false
set_option linter.unusedSimpArgs false

theorem sin (a b c : Int) : spec_l1In.f a b c = some (decide (b ≤ a ∧ a ≤ c)) := by
  unfold spec_l1In.f
  by_cases h : b ≤ a <;> simp [h]
theorem iin (a b c : Int) : impl_within.f a b c = some (decide (b ≤ a ∧ a ≤ c)) := by
  unfold impl_within.f
  by_cases h : b ≤ a <;> simp [h]

theorem wnat {i : Nat} (h : i < 4611686018427387904) : wrap64 ((i : Int) + 1) = ((i + 1 : Nat) : Int) := by unfold wrap64; omega
theorem rd_nat (l : List Int) (i : Nat) : rd l (i : Int) = l.getD i 0 := by unfold rd; rw [Int.toNat_natCast]

theorem toI_loop (l : List Int) (hm : l.length ≤ 4611686018427387000) : ∀ (d k i : Nat) (out : List Int), out.length = l.length → i ≤ l.length → (∀ j, j < i → out[j]? = l[j]?) → l.length - i = d → d < k → laws_toIntS.l0 k l out (i : Int) = some l := by
  intro d
  induction d with
  | zero =>
    intro k i out ho hi hj hd hk
    obtain ⟨k, rfl⟩ : ∃ m, k = m + 1 := ⟨k - 1, by omega⟩
    simp only [laws_toIntS.l0]
    rw [if_neg (by omega)]
    congr 1
    refine List.ext_getElem? fun j => ?_
    by_cases h : j < l.length
    · exact hj j (by omega)
    · rw [List.getElem?_eq_none (by omega), List.getElem?_eq_none (by omega)]
  | succ d ih =>
    intro k i out ho hi hj hd hk
    obtain ⟨k, rfl⟩ : ∃ m, k = m + 1 := ⟨k - 1, by omega⟩
    simp only [laws_toIntS.l0]
    rw [if_pos (by omega), if_pos (by omega), if_pos (by omega), wnat (by omega), rd_nat, Int.toNat_natCast]
    refine ih k (i + 1) _ (by rw [List.length_set]; exact ho) (by omega) ?_ (by omega) (by omega)
    intro j hj'
    by_cases e : j = i
    · subst e
      rw [List.getElem?_set_self (by omega), List.getElem?_eq_getElem (by omega)]
      simp [List.getD, List.getElem?_eq_getElem (show j < l.length by omega)]
    · rw [List.getElem?_set_ne (by omega)]
      exact hj j (by omega)
theorem toI (l : List Int) (k : Nat) (hm : l.length ≤ 1048576) (hk : l.length < k) : laws_toIntS.f k l = some l := by
  unfold laws_toIntS.f
  rw [if_pos (by omega), if_pos (by omega)]
  exact toI_loop l (by omega) l.length k 0 _ (by simp) (by omega) (fun j hj => by omega) (by omega) hk

theorem eqI_loop (l : List Int) (hm : l.length ≤ 4611686018427387000) : ∀ (d k i : Nat), i ≤ l.length → l.length - i = d → d < k → laws_eqIntS.l0 k l l (i : Int) = some true := by
  intro d
  induction d with
  | zero =>
    intro k i hi hd hk
    obtain ⟨k, rfl⟩ : ∃ m, k = m + 1 := ⟨k - 1, by omega⟩
    simp only [laws_eqIntS.l0]
    rw [if_neg (by omega)]
  | succ d ih =>
    intro k i hi hd hk
    obtain ⟨k, rfl⟩ : ∃ m, k = m + 1 := ⟨k - 1, by omega⟩
    simp only [laws_eqIntS.l0]
    rw [if_pos (by omega), if_pos (by omega), if_pos (by omega), if_pos trivial, wnat (by omega)]
    exact ih k (i + 1) (by omega) (by omega) (by omega)
theorem eqI (l : List Int) (k : Nat) (hm : l.length ≤ 1048576) (hk : l.length < k) : laws_eqIntS.f k l l = some true := by
  unfold laws_eqIntS.f
  rw [if_pos rfl]
  exact eqI_loop l (by omega) l.length k 0 (by omega) (by omega) hk

theorem szI (l : List Int) (m : Int) (h0 : 0 ≤ m) (h1 : m ≤ 1048576) (hl : l.length ≤ maxLen) : laws_szIntS.f l m = some (if m < l.length then -1 else m - l.length) := by
  unfold maxLen at hl
  unfold laws_szIntS.f
  rw [wrap_in (n := m - l.length) (by omega) (by omega)]
  by_cases c : m < l.length
  · rw [if_pos (by omega), if_pos c]
  · rw [if_neg (by omega), if_neg c]

theorem markI_loop (m : Int) (h0 : 0 ≤ m) (h1 : m ≤ 1000000000) (n : Nat) (hn : n ≤ 1048576) : ∀ (d k i : Nat) (L : List Int), L.length = n → i ≤ n → (∀ j, j < i → L[j]? = some (m + j)) → n - i = d → d < k →
    ∃ L', laws_markIntS.l0 k L (m + i) (i : Int) = some (m + n, L') ∧ L'.length = n ∧ ∀ j, j < n → L'[j]? = some (m + j) := by
  intro d
  induction d with
  | zero =>
    intro k i L hl hi hj hd hk
    obtain ⟨k, rfl⟩ : ∃ m, k = m + 1 := ⟨k - 1, by omega⟩
    simp only [laws_markIntS.l0]
    rw [if_neg (by omega)]
    exact ⟨L, by rw [show i = n from by omega], hl, fun j hj' => hj j (by omega)⟩
  | succ d ih =>
    intro k i L hl hi hj hd hk
    obtain ⟨k, rfl⟩ : ∃ m, k = m + 1 := ⟨k - 1, by omega⟩
    simp only [laws_markIntS.l0]
    rw [if_pos (by omega), if_pos (by omega), wnat (by omega), Int.toNat_natCast, show wrap64 (m + i + 1) = m + ((i + 1 : Nat) : Int) from by unfold wrap64; omega]
    refine ih k (i + 1) _ (by rw [List.length_set]; exact hl) (by omega) ?_ (by omega) (by omega)
    intro j hj'
    by_cases e : j = i
    · subst e
      rw [List.getElem?_set_self (by omega)]
    · rw [List.getElem?_set_ne (by omega)]
      exact hj j (by omega)
theorem heldI_loop (m : Int) (h0 : 0 ≤ m) (h1 : m ≤ 1000000000) (n : Nat) (hn : n ≤ 1048576) (L : List Int) (hl : L.length = n) (hj : ∀ j, j < n → L[j]? = some (m + j)) : ∀ (d k i : Nat), i ≤ n → n - i = d → d < k →
    laws_heldIntS.l0 k L (m + i) (i : Int) = some (m + n) := by
  intro d
  induction d with
  | zero =>
    intro k i hi hd hk
    obtain ⟨k, rfl⟩ : ∃ m, k = m + 1 := ⟨k - 1, by omega⟩
    simp only [laws_heldIntS.l0]
    rw [if_neg (by omega), show i = n from by omega]
  | succ d ih =>
    intro k i hi hd hk
    obtain ⟨k, rfl⟩ : ∃ m, k = m + 1 := ⟨k - 1, by omega⟩
    simp only [laws_heldIntS.l0]
    rw [if_pos (by omega), if_pos (by omega), rd_nat, if_pos (by simp [List.getD, hj i (by omega)]), wnat (by omega), show wrap64 (m + i + 1) = m + ((i + 1 : Nat) : Int) from by unfold wrap64; omega]
    exact ih k (i + 1) (by omega) (by omega) (by omega)
/-- A list that is marked, and held so. -/
theorem markI (l : List Int) (k : Nat) (m : Int) (h0 : 0 ≤ m) (h1 : m ≤ 1000000000) (hm : l.length ≤ 1048576) (hk : l.length < k) :
    ∃ L, laws_markIntS.f k l m = some (m + l.length, L) ∧ L.length = l.length ∧ ∀ k', l.length < k' → laws_heldIntS.f k' L m = some (m + l.length) := by
  have h := markI_loop m h0 h1 l.length hm l.length k 0 l rfl (by omega) (fun j hj => by omega) (by omega) hk
  rw [show m + ((0 : Nat) : Int) = m from by omega] at h
  obtain ⟨L, e, hl, hj⟩ := h
  refine ⟨L, e, hl, fun k' hk' => ?_⟩
  have g := heldI_loop m h0 h1 l.length hm L hl hj l.length k' 0 (by omega) (by omega) hk'
  rw [show m + ((0 : Nat) : Int) = m from by omega] at g
  exact g

theorem drop_any (p : Int → Bool) (l : List Int) (i : Nat) (h : i < l.length) : (l.drop i).any p = (p (l.getD i 0) || (l.drop (i + 1)).any p) := by
  rw [List.drop_eq_getElem_cons h, List.any_cons]
  simp [List.getD, List.getElem?_eq_getElem h]
theorem four_loop (l : List Int) (hm : l.length ≤ 1048576) : ∀ (d k i : Nat), i ≤ l.length → l.length - i = d → d < k → spec_l6Four.l0 k l l (l.length : Int) (i : Int) = some (((l.length : Int) == 4) && !((l.drop i).any impl_areWords.bad)) := by
  intro d
  induction d with
  | zero =>
    intro k i hi hd hk
    obtain ⟨k, rfl⟩ : ∃ m, k = m + 1 := ⟨k - 1, by omega⟩
    simp only [spec_l6Four.l0]
    rw [if_neg (by omega), List.drop_eq_nil_of_le (by omega)]
    simp
  | succ d ih =>
    intro k i hi hd hk
    obtain ⟨k, rfl⟩ : ∃ m, k = m + 1 := ⟨k - 1, by omega⟩
    simp only [spec_l6Four.l0, spec_l6Word.f]
    rw [if_pos (by omega), if_pos (by omega), if_pos (by omega), rd_nat, sin, Option.bind_some, Option.bind_some, wnat (by omega), ih k (i + 1) (by omega) (by omega) (by omega), drop_any _ l i (by omega)]
    cases h : impl_areWords.bad (l.getD i 0)
    · have h' : decide (0 ≤ l.getD i 0 ∧ l.getD i 0 ≤ 65535) = true := by rw [impl_areWords.bad, Bool.not_eq_false'] at h; exact h
      rw [if_pos h', Bool.false_or]
    · have h' : decide (0 ≤ l.getD i 0 ∧ l.getD i 0 ≤ 65535) = false := by rw [impl_areWords.bad, Bool.not_eq_true'] at h; exact h
      rw [if_neg (by rw [h']; simp), Bool.true_or]
      simp
theorem four_eq (l : List Int) (k : Nat) (hm : l.length ≤ 1048576) (hk : l.length < k) : spec_l6Four.f k l = impl_areWords.f l := by
  have := four_loop l hm l.length k 0 (by omega) (by omega) hk
  rwa [List.drop_zero] at this

theorem szR (d a : List Int) (o pc f m : Int) (s t : Bool) (hd : d.length ≤ maxLen) (ha : a.length ≤ maxLen) : ∃ r, laws_szRegs.f d a o pc f m s t 1048576 = some r ∧ (¬ r < 0 → d.length ≤ 1048576 ∧ a.length ≤ 1048576) := by
  unfold laws_szRegs.f
  rw [szI d _ (by omega) (by omega) hd]
  by_cases c : (1048576 : Int) < d.length
  · exact ⟨-1, by simp [c], fun h => absurd h (by omega)⟩
  · rw [if_neg c, Option.bind_some, if_neg (by omega), szI a _ (by omega) (by omega) ha]
    by_cases c' : (1048576 : Int) - d.length < a.length
    · exact ⟨-1, by simp [c'], fun h => absurd h (by omega)⟩
    · rw [if_neg c', Option.bind_some, if_neg (by omega)]
      exact ⟨_, rfl, fun _ => ⟨by omega, by omega⟩⟩
theorem goodRegs_eq (d a : List Int) (o pc f m : Int) (s t : Bool) (k : Nat) (hd : d.length ≤ 1048576) (ha : a.length ≤ 1048576) (hk : d.length + a.length < k) :
    ∃ b, spec_GoodRegs.f k d a o pc f m s t = some b ∧ impl_GoodRegs.f d a o pc f m s t = some b ∧
      (b = true → (d.length = 4 ∧ d.any impl_areWords.bad = false) ∧ (a.length = 4 ∧ a.any impl_areWords.bad = false) ∧ (0 ≤ o ∧ o ≤ 65535) ∧ (0 ≤ pc ∧ pc ≤ 65535) ∧ (0 ≤ f ∧ f ≤ 31) ∧ (0 ≤ m ∧ m ≤ 7)) := by
  unfold spec_GoodRegs.f impl_GoodRegs.f
  rw [four_eq d k hd (by omega), four_eq a k ha (by omega)]
  unfold spec_l6Word.f impl_isWord.f spec_l1Flags.f impl_areFlags.f impl_areWords.f
  simp only [sin, iin, Option.bind_some]
  by_cases h1 : ((((d.length : Int) == 4) && !(d.any impl_areWords.bad)) = true)
  · by_cases h2 : ((((a.length : Int) == 4) && !(a.any impl_areWords.bad)) = true)
    · by_cases h3 : 0 ≤ o ∧ o ≤ 65535
      · by_cases h4 : 0 ≤ pc ∧ pc ≤ 65535
        · by_cases h5 : 0 ≤ f ∧ f ≤ 31
          · refine ⟨decide (0 ≤ m ∧ m ≤ 7), by simp only [h1, h2, h3, h4, h5, and_self, decide_true, if_true], by simp only [h1, h2, h3, h4, h5, and_self, decide_true, if_true], fun h => ?_⟩
            rw [Bool.and_eq_true, beq_iff_eq, Bool.not_eq_true'] at h1 h2
            exact ⟨⟨by omega, h1.2⟩, ⟨by omega, h2.2⟩, h3, h4, h5, of_decide_eq_true h⟩
          · exact ⟨false, by simp only [h1, h2, h3, h4, h5, and_self, decide_true, decide_false, if_true, if_false, Bool.false_eq_true], by simp only [h1, h2, h3, h4, h5, and_self, decide_true, decide_false, if_true, if_false, Bool.false_eq_true], fun h => by cases h⟩
        · exact ⟨false, by simp only [h1, h2, h3, h4, and_self, decide_true, decide_false, if_true, if_false, Bool.false_eq_true], by simp only [h1, h2, h3, h4, and_self, decide_true, decide_false, if_true, if_false, Bool.false_eq_true], fun h => by cases h⟩
      · exact ⟨false, by simp only [h1, h2, h3, and_self, decide_true, decide_false, if_true, if_false, Bool.false_eq_true], by simp only [h1, h2, h3, and_self, decide_true, decide_false, if_true, if_false, Bool.false_eq_true], fun h => by cases h⟩
    · exact ⟨false, by simp only [h1, h2, if_true, if_false, Bool.false_eq_true], by simp only [h1, h2, if_true, if_false, Bool.false_eq_true], fun h => by cases h⟩
  · exact ⟨false, by simp only [h1, if_false, Bool.false_eq_true], by simp only [h1, if_false, Bool.false_eq_true], fun h => by cases h⟩
theorem toR (d a : List Int) (o pc f m : Int) (s t : Bool) (k : Nat) (hd : d.length ≤ 1048576) (ha : a.length ≤ 1048576) (hk : d.length + a.length < k) : laws_toRegs.f k d a o pc f m s t = some (d, a, o, pc, f, m, s, t) := by
  unfold laws_toRegs.f
  rw [toI d k hd (by omega), Option.bind_some, toI a k ha (by omega), Option.bind_some]
theorem eqR (d a : List Int) (o pc f m : Int) (s t : Bool) (k : Nat) (hd : d.length ≤ 1048576) (ha : a.length ≤ 1048576) (hk : d.length + a.length < k) : laws_eqRegs.f k d a o pc f m s t d a o pc f m s t = some true := by
  unfold laws_eqRegs.f
  rw [eqI d k hd (by omega), Option.bind_some, if_pos rfl, eqI a k ha (by omega), Option.bind_some]
  simp

theorem markR (d a : List Int) (o pc f m : Int) (s t : Bool) (o' pc' f' m' : Int) (s' t' : Bool) (k : Nat) (hd : d.length ≤ 1048576) (ha : a.length ≤ 1048576) (hk : d.length + a.length < k) :
    ∃ n p q, laws_markRegs.f k d a o pc f m s t 1 = some (n, p, q) ∧ p.length = d.length ∧ q.length = a.length ∧ laws_heldRegs.f k p q o' pc' f' m' s' t' 1 = some n ∧ ¬ n < 0 := by
  obtain ⟨L, e, hl, hh⟩ := markI d k 1 (by omega) (by omega) hd (by omega)
  obtain ⟨L2, e2, hl2, hh2⟩ := markI a k (1 + d.length) (by omega) (by omega) ha (by omega)
  refine ⟨1 + d.length + a.length, L, L2, ?_, hl, hl2, ?_, by omega⟩
  · unfold laws_markRegs.f
    rw [e, Option.bind_some, e2, Option.bind_some]
  · unfold laws_heldRegs.f
    rw [hh k (by omega), Option.bind_some, if_neg (by omega), hh2 k (by omega), Option.bind_some, if_neg (by omega)]

def gop (m r e : Int) : Bool := decide ((0 ≤ m ∧ m ≤ 7) ∧ (0 ≤ r ∧ r ≤ 3) ∧ (m ≥ 6 → r = 0) ∧ (0 ≤ e ∧ e ≤ 65535) ∧ (m ≥ 5 ∨ e = 0))
theorem gop_of {m r e : Int} (h : gop m r e = true) : (0 ≤ m ∧ m ≤ 7) ∧ (0 ≤ r ∧ r ≤ 3) ∧ (m ≥ 6 → r = 0) ∧ (0 ≤ e ∧ e ≤ 65535) ∧ (m ≥ 5 ∨ e = 0) := of_decide_eq_true h
theorem sgop (k : Nat) (m r e : Int) : spec_GoodOperand.f (k + 1) m r e = some (gop m r e) := by
  unfold spec_GoodOperand.f
  simp only [sin, Option.bind_some, spec_GoodOperand.j0, spec_l6Word.f, spec_l6Ext.f, decide_eq_true_eq, bne_iff_ne, ne_eq, if_true, if_false, Bool.false_eq_true]
  repeat' split
  all_goals
    refine congrArg some ?_
    rw [Bool.eq_iff_iff]
    simp only [gop, decide_eq_true_eq, beq_iff_eq, Bool.false_eq_true, false_iff, true_iff]
    omega
theorem igop (m r e : Int) : impl_GoodOperand.f m r e = some (gop m r e) := by
  unfold impl_GoodOperand.f
  simp only [iin, Option.bind_some, impl_isWord.f, impl_needsExt.f, ite_bind, decide_eq_true_eq, bne_iff_ne, ne_eq, beq_iff_eq, if_true, if_false, Bool.false_eq_true]
  repeat' split
  all_goals
    refine congrArg some ?_
    rw [Bool.eq_iff_iff]
    simp only [gop, decide_eq_true_eq, beq_iff_eq, Bool.false_eq_true, false_iff, true_iff]
    omega

theorem ssz (s : Int) : spec_l1Size.f s = some (decide (s = 1 ∨ s = 2)) := by
  unfold spec_l1Size.f
  by_cases h1 : s = 1
  · rw [if_pos h1, decide_eq_true (Or.inl h1)]
  · rw [if_neg h1]
    by_cases h2 : s = 2 <;> simp [h1, h2]
theorem isz (s : Int) : impl_isSize.f s = some (decide (s = 1 ∨ s = 2)) := by
  unfold impl_isSize.f
  by_cases h1 : s = 1
  · rw [if_pos h1, decide_eq_true (Or.inl h1)]
  · rw [if_neg h1]
    by_cases h2 : s = 2 <;> simp [h1, h2]
theorem placeOf_eq (d a : List Int) (o pc f m : Int) (s t : Bool) (sz md rg ex : Int) (k : Nat) (hd : d.length ≤ 1048576) (ha : a.length ≤ 1048576) (hk : d.length + a.length < k) :
    ∃ (d0 d1 : List Int) (d2 d3 d4 d5 : Int) (d6 d7 : Bool) (e9 : Int) (d8 : Bool), spec_PlaceOf.f k d a o pc f m s t sz md rg ex = some (d0, d1, d2, d3, d4, d5, d6, d7, e9, d8) ∧ impl_PlaceOf.f d a o pc f m s t sz md rg ex = some (d0, d1, d2, d3, d4, d5, d6, d7, e9, d8) ∧ d0.length ≤ d.length ∧ d1.length ≤ a.length := by
  obtain ⟨b, e1, e2, hg⟩ := goodRegs_eq d a o pc f m s t k hd ha hk
  obtain ⟨k, rfl⟩ : ∃ n, k = n + 1 := ⟨k - 1, by omega⟩
  unfold spec_PlaceOf.f impl_PlaceOf.f
  rw [e1, e2, Option.bind_some, Option.bind_some]
  cases b
  · exact ⟨[], [], 0, 0, 0, 0, false, false, 0, false, by simp [spec_PlaceOf.j0], by simp, Nat.zero_le _, Nat.zero_le _⟩
  · rw [if_pos rfl, if_pos rfl, ssz, isz, Option.bind_some, Option.bind_some]
    by_cases c : sz = 1 ∨ sz = 2
    · rw [decide_eq_true c, if_pos rfl, if_pos rfl, sgop, igop, Option.bind_some, Option.bind_some]
      cases hq : gop md rg ex
      · exact ⟨[], [], 0, 0, 0, 0, false, false, 0, false, by simp [spec_PlaceOf.j0], by simp, Nat.zero_le _, Nat.zero_le _⟩
      · obtain ⟨_, g1, _, _, _⟩ := gop_of hq
        rw [if_pos rfl, if_pos rfl]
        unfold impl_isMemory.f
        rw [iin, Option.bind_some, Option.bind_some]
        by_cases cm : 2 ≤ md ∧ md ≤ 6
        · obtain ⟨⟨l0, w0⟩, ⟨l1, _⟩, _⟩ := hg rfl
          have h4 : d.length < 17592186044416 := by omega
          have h5 : a.length < 17592186044416 := by omega
          have h6 : 0 ≤ rg := g1.1
          have h7 : rg < (a.length : Int) := by omega
          have h8 : 0 ≤ rg ∧ rg < (a.length : Int) := ⟨h6, h7⟩
          have n0 : ¬ md = 0 := by omega
          have n1 : ¬ md = 1 := by omega
          have n7 : (md == 7) = false := beq_eq_false_iff_ne.2 (by omega)
          rw [decide_eq_true cm, if_pos rfl, if_neg n0, if_neg n1, n7]
          simp only [spec_PlaceOf.j0, spec_l6Own.f, spec_l6Place.f, impl_ownRegs.f, slices_Clone_int_int.f, Option.bind_some, List.length_nil, Nat.zero_add, List.nil_append, Bool.false_eq_true, if_false, h4, h5, h6, h7, and_self, if_true]
          have hby : spec_l6By.f sz rg = some (if rg = 3 then 2 else sz) := by
            unfold spec_l6By.f
            rcases c with rfl | rfl
            · rw [if_pos rfl]
              by_cases h3 : rg = 3
              · rw [if_pos h3, if_pos h3]
              · rw [if_neg h3, if_neg h3]
            · rw [if_neg (by decide)]
              by_cases h3 : rg = 3
              · rw [if_pos h3]
              · rw [if_neg h3]
          rw [hby, Option.bind_some, Option.bind_some]
          generalize (if rg = 3 then (2 : Int) else sz) = by_
          by_cases m3 : md = 3
          · subst m3
            exact ⟨_, _, _, _, _, _, _, _, _, _, rfl, rfl, Nat.le_refl _, by simp⟩
          · rw [if_neg m3, if_neg m3, if_neg m3]
            by_cases m4 : md = 4
            · subst m4
              exact ⟨_, _, _, _, _, _, _, _, _, _, rfl, rfl, Nat.le_refl _, by simp⟩
            · rw [if_neg m4, if_neg m4, if_neg m4]
              by_cases m5 : md = 5
              · subst m5
                exact ⟨_, _, _, _, _, _, _, _, _, _, rfl, rfl, Nat.le_refl _, Nat.le_refl _⟩
              · rw [if_neg m5, if_neg m5]
                by_cases m6 : md = 6
                · subst m6
                  exact ⟨_, _, _, _, _, _, _, _, _, _, rfl, rfl, Nat.le_refl _, Nat.le_refl _⟩
                · obtain rfl : md = 2 := by omega
                  exact ⟨_, _, _, _, _, _, _, _, _, _, rfl, rfl, Nat.le_refl _, Nat.le_refl _⟩
        · rw [decide_eq_false cm]
          refine ⟨[], [], 0, 0, 0, 0, false, false, 0, false, ?_, by simp, Nat.zero_le _, Nat.zero_le _⟩
          by_cases n0 : md = 0
          · rw [if_pos n0]
            rfl
          · rw [if_neg n0]
            by_cases n1 : md = 1
            · rw [if_pos n1]
              rfl
            · have n7 : (md == 7) = true := beq_iff_eq.2 (by have := gop_of hq; omega)
              rw [if_neg n1, n7]
              rfl
    · rw [decide_eq_false c]
      exact ⟨[], [], 0, 0, 0, 0, false, false, 0, false, by simp [spec_PlaceOf.j0], by simp, Nat.zero_le _, Nat.zero_le _⟩
theorem FnExactPlaceOf (d a : List Int) (o pc f m : Int) (s t : Bool) (sz md rg ex : Int) (hd : d.length ≤ maxLen ∧ ∀ x ∈ d, (Lit.int .i64 x).wf = true) (ha : a.length ≤ maxLen ∧ ∀ x ∈ a, (Lit.int .i64 x).wf = true)
    (_ : (Lit.int .i64 o).wf = true) (_ : (Lit.int .i64 pc).wf = true) (_ : (Lit.int .i64 f).wf = true) (_ : (Lit.int .i64 m).wf = true) (_ : (Lit.int .i64 sz).wf = true) (_ : (Lit.int .i64 md).wf = true) (_ : (Lit.int .i64 rg).wf = true) (_ : (Lit.int .i64 ex).wf = true) : ∃ k, laws_FnExactPlaceOf.Good k d a o pc f m s t sz md rg ex true := by
  obtain ⟨r, hr, hs⟩ := szR d a o pc f m s t hd.1 ha.1
  refine ⟨d.length + a.length + 10, rfl, r, hr, fun c => ?_⟩
  obtain ⟨h1, h2⟩ := hs c
  obtain ⟨d0, d1, d2, d3, d4, d5, d6, d7, e9, d8, es, ei, g0, g1⟩ := placeOf_eq d a o pc f m s t sz md rg ex (d.length + a.length + 10) h1 h2 (by omega)
  obtain ⟨n, p, q, em, _, _, _, en⟩ := markR d a o pc f m s t o pc f m s t (d.length + a.length + 10) h1 h2 (by omega)
  obtain ⟨n', p', q', em', l0, l1, eh', en'⟩ := markR d0 d1 d2 d3 d4 d5 d6 d7 d2 d3 d4 d5 d6 d7 (d.length + a.length + 10) (by omega) (by omega) (by omega)
  exact ⟨toR d a o pc f m s t _ h1 h2 (by omega), d0, d1, d2, d3, d4, d5, d6, d7, e9, d8, es, ei, eqR d0 d1 d2 d3 d4 d5 d6 d7 _ (by omega) (by omega) (by omega), eqR d a o pc f m s t _ h1 h2 (by omega), ⟨n, p, q, em, en⟩, n', p', q', em', l0, l1, eh', en'⟩
end Go.Proofs.Ytdpbfjcfpgbbjaa.Pure
