/- FnExactEncodeIns, the plain law: the program's and the reference's EncodeIns answer alike at every instruction; the answer owns its memory. -/
import Derived.Test.YtpcocklckalkmaaHFnExactEncodeInsx
import Derived.Test.YtpcocklckalkmaaBits
namespace Go.Proofs.Ytpcocklckalkmaa.Pure
open Go.RowKit Go.Proofs.Ytpcocklckalkmaa.HFnExactEncodeIns Go.Proofs.YtpcocklckalkmaaW.PrintWords Go.Proofs.YtpcocklckalkmaaW.PrintLast Go.Proofs.Ytpcocklckalkmaa.Bt
set_option linter.unusedVariables false
set_option linter.unusedSimpArgs false

theorem sin (a b c : Int) : spec_l1In.f a b c = some (decide (b ≤ a ∧ a ≤ c)) := by
  unfold spec_l1In.f
  by_cases h : b ≤ a <;> simp [h]
theorem iin (a b c : Int) : impl_within.f a b c = some (decide (b ≤ a ∧ a ≤ c)) := by
  unfold impl_within.f
  by_cases h : b ≤ a <;> simp [h]

def gop (m r e : Int) : Bool := decide ((0 ≤ m ∧ m ≤ 7) ∧ (0 ≤ r ∧ r ≤ 3) ∧ (m ≥ 6 → r = 0) ∧ (0 ≤ e ∧ e ≤ 65535) ∧ (m ≥ 5 ∨ e = 0))
theorem gop_of {m r e : Int} (h : gop m r e = true) : (0 ≤ m ∧ m ≤ 7) ∧ (0 ≤ r ∧ r ≤ 3) ∧ (m ≥ 6 → r = 0) ∧ (0 ≤ e ∧ e ≤ 65535) ∧ (m ≥ 5 ∨ e = 0) := of_decide_eq_true h
theorem sgop (k : Nat) (m r e : Int) : spec_GoodOperand.f (k + 1) m r e = some (gop m r e) := by
  unfold spec_GoodOperand.f
  simp only [sin, Option.bind_some, spec_GoodOperand.j0, spec_l6Word.f, spec_l6Ext.f, decide_eq_true_eq, bne_iff_ne, ne_eq, if_true, if_false, Bool.false_eq_true]
  repeat' split
  all_goals
    refine congrArg some ?_
    rw [Bool.eq_iff_iff]
    simp only [gop, decide_eq_true_eq, beq_iff_eq, Bool.false_eq_true, false_iff, true_iff]
    omega
theorem igop (m r e : Int) : impl_GoodOperand.f m r e = some (gop m r e) := by
  unfold impl_GoodOperand.f
  simp only [iin, Option.bind_some, impl_isWord.f, impl_needsExt.f, ite_bind, decide_eq_true_eq, bne_iff_ne, ne_eq, beq_iff_eq, if_true, if_false, Bool.false_eq_true]
  repeat' split
  all_goals
    refine congrArg some ?_
    rw [Bool.eq_iff_iff]
    simp only [gop, decide_eq_true_eq, beq_iff_eq, Bool.false_eq_true, false_iff, true_iff]
    omega

theorem lits : ((1 : Int) == 1) = true ∧ True := ⟨rfl, trivial⟩
theorem kind_eq (op size reg m r e sub : Int) (k : Nat) : spec_GoodIns.j0 (k + 3) false op size reg m r e sub = impl_isKind.f (k + 3) op size reg m r e sub := by
  by_cases h : 1 ≤ op ∧ op ≤ 19
  · have : op = 1 ∨ op = 2 ∨ op = 3 ∨ op = 4 ∨ op = 5 ∨ op = 6 ∨ op = 7 ∨ op = 8 ∨ op = 9 ∨ op = 10 ∨ op = 11 ∨ op = 12 ∨ op = 13 ∨ op = 14 ∨ op = 15 ∨ op = 16 ∨ op = 17 ∨ op = 18 ∨ op = 19 := by omega
    rcases this with rfl | rfl | rfl | rfl | rfl | rfl | rfl | rfl | rfl | rfl | rfl | rfl | rfl | rfl | rfl | rfl | rfl | rfl | rfl
    all_goals
      simp only [spec_GoodIns.j0, spec_GoodIns.j1, spec_GoodIns.j2, impl_isKind.f, impl_isKind.j0, impl_isKind.j1, impl_isFlow.f, impl_isFlow.j0, impl_isNow.f, impl_isPlain.f, impl_isSettable.f, impl_isMemory.f, spec_l7Memory.f, spec_l7Plain.f, spec_l7Now.f, spec_l7Zero.f, sin, iin, ite_bind, Option.bind_some, Int.reduceEq, Int.reduceBEq, if_true, if_false, Bool.false_eq_true, beq_iff_eq, decide_eq_true_eq, Bool.and_eq_true]
      repeat' split
      all_goals first
        | rfl
        | (exfalso; omega)
        | (refine congrArg some ?_; rw [Bool.eq_iff_iff]; simp only [decide_eq_true_eq, beq_iff_eq, bne_iff_ne, ne_eq, Bool.and_eq_true, Bool.false_eq_true, false_iff, true_iff, iff_true, iff_false, eq_self] <;> omega)
  · have e1 : op ≠ 1 := by omega
    have e2 : op ≠ 2 := by omega
    have e3 : op ≠ 3 := by omega
    have e4 : op ≠ 4 := by omega
    have e5 : op ≠ 5 := by omega
    have e6 : op ≠ 6 := by omega
    have e7 : op ≠ 7 := by omega
    have e8 : op ≠ 8 := by omega
    have e9 : op ≠ 9 := by omega
    have e10 : op ≠ 10 := by omega
    have e11 : op ≠ 11 := by omega
    have e12 : op ≠ 12 := by omega
    have e13 : op ≠ 13 := by omega
    have e14 : op ≠ 14 := by omega
    have e15 : op ≠ 15 := by omega
    have e16 : op ≠ 16 := by omega
    have e17 : op ≠ 17 := by omega
    have e18 : op ≠ 18 := by omega
    have e19 : op ≠ 19 := by omega
    simp [spec_GoodIns.j0, spec_GoodIns.j1, spec_GoodIns.j2, impl_isKind.f, impl_isKind.j0, impl_isKind.j1, *]
/-- An instruction that is right by its Op has one. -/
theorem kind_some (op size reg m r e sub : Int) (k : Nat) : ∃ b, impl_isKind.f (k + 3) op size reg m r e sub = some b ∧ (b = true → 1 ≤ op ∧ op ≤ 19) := by
  by_cases h : 1 ≤ op ∧ op ≤ 19
  · have : op = 1 ∨ op = 2 ∨ op = 3 ∨ op = 4 ∨ op = 5 ∨ op = 6 ∨ op = 7 ∨ op = 8 ∨ op = 9 ∨ op = 10 ∨ op = 11 ∨ op = 12 ∨ op = 13 ∨ op = 14 ∨ op = 15 ∨ op = 16 ∨ op = 17 ∨ op = 18 ∨ op = 19 := by omega
    rcases this with rfl | rfl | rfl | rfl | rfl | rfl | rfl | rfl | rfl | rfl | rfl | rfl | rfl | rfl | rfl | rfl | rfl | rfl | rfl
    all_goals
      simp only [impl_isKind.f, impl_isKind.j0, impl_isKind.j1, impl_isFlow.f, impl_isFlow.j0, impl_isNow.f, impl_isPlain.f, impl_isSettable.f, impl_isMemory.f, iin, ite_bind, Option.bind_some, Int.reduceEq, Int.reduceBEq, if_true, if_false, Bool.false_eq_true, beq_iff_eq, decide_eq_true_eq, Bool.and_eq_true, ← apply_ite some]
      exact ⟨_, rfl, fun _ => by omega⟩
  · have e1 : op ≠ 1 := by omega
    have e2 : op ≠ 2 := by omega
    have e3 : op ≠ 3 := by omega
    have e4 : op ≠ 4 := by omega
    have e5 : op ≠ 5 := by omega
    have e6 : op ≠ 6 := by omega
    have e7 : op ≠ 7 := by omega
    have e8 : op ≠ 8 := by omega
    have e9 : op ≠ 9 := by omega
    have e10 : op ≠ 10 := by omega
    have e11 : op ≠ 11 := by omega
    have e12 : op ≠ 12 := by omega
    have e13 : op ≠ 13 := by omega
    have e14 : op ≠ 14 := by omega
    have e15 : op ≠ 15 := by omega
    have e16 : op ≠ 16 := by omega
    have e17 : op ≠ 17 := by omega
    have e18 : op ≠ 18 := by omega
    have e19 : op ≠ 19 := by omega
    refine ⟨false, ?_, fun h => by cases h⟩
    simp [impl_isKind.f, impl_isKind.j0, impl_isKind.j1, *]
def pre (size reg m r e sub : Int) : Bool := decide ((size = 1 ∨ size = 2) ∧ (0 ≤ reg ∧ reg ≤ 3) ∧ (0 ≤ sub ∧ sub ≤ 7) ∧ gop m r e = true ∧ ¬ (m = 7 ∧ size = 1 ∧ e > 255))
theorem sgood (op size reg m r e sub : Int) (k : Nat) : spec_GoodIns.f (k + 3) op size reg m r e sub = if pre size reg m r e sub = true then spec_GoodIns.j0 (k + 3) false op size reg m r e sub else some false := by
  have hj : spec_GoodIns.j0 (k + 3) true op size reg m r e sub = some false := by simp [spec_GoodIns.j0]
  have hd : ∀ b : Bool, spec_GoodIns.j0 (k + 3) b op size reg m r e sub = if b = true then some false else spec_GoodIns.j0 (k + 3) false op size reg m r e sub := fun b => by cases b <;> simp [hj]
  unfold spec_GoodIns.f spec_l1Size.f
  rw [sgop (k + 2), sin, sin]
  by_cases h1 : size = 1 ∨ size = 2
  · by_cases h2 : 0 ≤ reg ∧ reg ≤ 3
    · by_cases h3 : gop m r e = true
      · by_cases h4 : 0 ≤ sub ∧ sub ≤ 7
        · by_cases h5 : m = 7 ∧ size = 1 ∧ e > 255
          · have hp : pre size reg m r e sub = false := by simp [pre, h5]
            rw [hp]
            obtain ⟨rfl, rfl, h5⟩ := h5
            simp [h2, h3, h4, h5, hj]
          · have hp : pre size reg m r e sub = true := by simp only [pre, decide_eq_true_eq]; exact ⟨h1, h2, h4, h3, h5⟩
            rw [hp, if_pos rfl]
            have hs : (if size = 1 then (some true : Option Bool) else some (size == 2)) = some true := by
              rcases h1 with rfl | rfl <;> rfl
            rw [hs]
            simp only [h2, h3, h4, and_self, decide_true, Option.bind_some, if_true]
            by_cases c7 : m = 7
            · by_cases c1 : size = 1
              · rw [if_pos c7, if_pos c1, hd, if_neg (by simp; omega)]
              · rw [if_pos c7, if_neg c1]
            · rw [if_neg c7]
        · have hp : pre size reg m r e sub = false := by simp only [pre, decide_eq_false_iff_not]; exact fun h => h4 h.2.2.1
          rw [hp]
          rcases h1 with rfl | rfl <;> simp [h2, h3, h4, hj]
      · have hp : pre size reg m r e sub = false := by simp only [pre, decide_eq_false_iff_not]; exact fun h => h3 h.2.2.2.1
        rw [hp]
        rcases h1 with rfl | rfl <;> simp [h2, h3, hj]
    · have hp : pre size reg m r e sub = false := by simp only [pre, decide_eq_false_iff_not]; exact fun h => h2 h.2.1
      rw [hp]
      rcases h1 with rfl | rfl <;> simp [h2, hj]
  · have hp : pre size reg m r e sub = false := by simp only [pre, decide_eq_false_iff_not]; exact fun h => h1 h.1
    rw [hp]
    have c1 : size ≠ 1 := fun h => h1 (.inl h)
    have c2 : size ≠ 2 := fun h => h1 (.inr h)
    simp [c1, c2, hj]
theorem igood (op size reg m r e sub : Int) (k : Nat) : impl_GoodIns.f (k + 3) op size reg m r e sub = if pre size reg m r e sub = true then impl_isKind.f (k + 3) op size reg m r e sub else some false := by
  obtain ⟨b, hb, _⟩ := kind_some op size reg m r e sub k
  unfold impl_GoodIns.f impl_isSize.f
  rw [igop, iin, iin, hb]
  by_cases h1 : size = 1 ∨ size = 2
  · have hs : (if size = 1 then (some true : Option Bool) else some (size == 2)) = some true := by
      rcases h1 with rfl | rfl <;> rfl
    rw [hs]
    by_cases h2 : 0 ≤ reg ∧ reg ≤ 3
    · by_cases h4 : 0 ≤ sub ∧ sub ≤ 7
      · by_cases h3 : gop m r e = true
        · simp only [h2, h3, h4, and_self, decide_true, Option.bind_some, if_true]
          by_cases h5 : m = 7 ∧ size = 1 ∧ e > 255
          · have hp : pre size reg m r e sub = false := by simp [pre, h5]
            rw [hp, if_pos h5.1, if_pos h5.2.1, if_pos h5.2.2]
            rfl
          · have hp : pre size reg m r e sub = true := by simp only [pre, decide_eq_true_eq]; exact ⟨h1, h2, h4, h3, h5⟩
            rw [hp, if_pos rfl]
            by_cases c7 : m = 7
            · by_cases c1 : size = 1
              · rw [if_pos c7, if_pos c1, if_neg (by omega)]
              · rw [if_pos c7, if_neg c1]
            · rw [if_neg c7]
        · have hp : pre size reg m r e sub = false := by simp only [pre, decide_eq_false_iff_not]; exact fun h => h3 h.2.2.2.1
          rw [hp]
          simp [h2, h3, h4]
      · have hp : pre size reg m r e sub = false := by simp only [pre, decide_eq_false_iff_not]; exact fun h => h4 h.2.2.1
        rw [hp]
        simp [h2, h4]
    · have hp : pre size reg m r e sub = false := by simp only [pre, decide_eq_false_iff_not]; exact fun h => h2 h.2.1
      rw [hp]
      simp [h2]
  · have hp : pre size reg m r e sub = false := by simp only [pre, decide_eq_false_iff_not]; exact fun h => h1 h.1
    rw [hp]
    have c1 : size ≠ 1 := fun h => h1 (.inl h)
    have c2 : size ≠ 2 := fun h => h1 (.inr h)
    simp [c1, c2]
/-- Both sides' GoodIns, at any three rounds or more; and what it is good for. -/
theorem good_eq (op size reg m r e sub : Int) (k : Nat) : ∃ b, spec_GoodIns.f (k + 3) op size reg m r e sub = some b ∧ impl_GoodIns.f (k + 3) op size reg m r e sub = some b ∧
    (b = true → (1 ≤ op ∧ op ≤ 19) ∧ (size = 1 ∨ size = 2) ∧ (0 ≤ reg ∧ reg ≤ 3) ∧ (0 ≤ sub ∧ sub ≤ 7) ∧ (0 ≤ m ∧ m ≤ 7) ∧ (0 ≤ r ∧ r ≤ 3) ∧ (0 ≤ e ∧ e ≤ 65535)) := by
  rw [sgood, igood, kind_eq]
  obtain ⟨b, hb, ho⟩ := kind_some op size reg m r e sub k
  rw [hb]
  cases hp : pre size reg m r e sub
  · exact ⟨false, rfl, rfl, fun h => by cases h⟩
  · refine ⟨b, rfl, rfl, fun h => ?_⟩
    have h' := of_decide_eq_true hp
    have g := gop_of h'.2.2.2.1
    exact ⟨ho h, h'.1, h'.2.1, h'.2.2.1, g.1, g.2.1, g.2.2.2.1⟩

theorem wnat {i : Nat} (h : i < 4611686018427387904) : wrap64 ((i : Int) + 1) = ((i + 1 : Nat) : Int) := by unfold wrap64; omega
theorem rd_nat (l : List Int) (i : Nat) : rd l (i : Int) = l.getD i 0 := by unfold rd; rw [Int.toNat_natCast]

theorem eqI_loop (l : List Int) (hm : l.length ≤ 4611686018427387000) : ∀ (d k i : Nat), i ≤ l.length → l.length - i = d → d < k → laws_eqIntS.l0 k l l (i : Int) = some true := by
  intro d
  induction d with
  | zero =>
    intro k i hi hd hk
    obtain ⟨k, rfl⟩ : ∃ m, k = m + 1 := ⟨k - 1, by omega⟩
    simp only [laws_eqIntS.l0]
    rw [if_neg (by omega)]
  | succ d ih =>
    intro k i hi hd hk
    obtain ⟨k, rfl⟩ : ∃ m, k = m + 1 := ⟨k - 1, by omega⟩
    simp only [laws_eqIntS.l0]
    rw [if_pos (by omega), if_pos (by omega), if_pos (by omega), if_pos trivial, wnat (by omega)]
    exact ih k (i + 1) (by omega) (by omega) (by omega)
theorem eqI (l : List Int) (k : Nat) (hm : l.length ≤ 1048576) (hk : l.length < k) : laws_eqIntS.f k l l = some true := by
  unfold laws_eqIntS.f
  rw [if_pos rfl]
  exact eqI_loop l (by omega) l.length k 0 (by omega) (by omega) hk

theorem markI_loop (m : Int) (h0 : 0 ≤ m) (h1 : m ≤ 1000000000) (n : Nat) (hn : n ≤ 1048576) : ∀ (d k i : Nat) (L : List Int), L.length = n → i ≤ n → (∀ j, j < i → L[j]? = some (m + j)) → n - i = d → d < k →
    ∃ L', laws_markIntS.l0 k L (m + i) (i : Int) = some (m + n, L') ∧ L'.length = n ∧ ∀ j, j < n → L'[j]? = some (m + j) := by
  intro d
  induction d with
  | zero =>
    intro k i L hl hi hj hd hk
    obtain ⟨k, rfl⟩ : ∃ m, k = m + 1 := ⟨k - 1, by omega⟩
    simp only [laws_markIntS.l0]
    rw [if_neg (by omega)]
    exact ⟨L, by rw [show i = n from by omega], hl, fun j hj' => hj j (by omega)⟩
  | succ d ih =>
    intro k i L hl hi hj hd hk
    obtain ⟨k, rfl⟩ : ∃ m, k = m + 1 := ⟨k - 1, by omega⟩
    simp only [laws_markIntS.l0]
    rw [if_pos (by omega), if_pos (by omega), wnat (by omega), Int.toNat_natCast, show wrap64 (m + i + 1) = m + ((i + 1 : Nat) : Int) from by unfold wrap64; omega]
    refine ih k (i + 1) _ (by rw [List.length_set]; exact hl) (by omega) ?_ (by omega) (by omega)
    intro j hj'
    by_cases e : j = i
    · subst e
      rw [List.getElem?_set_self (by omega)]
    · rw [List.getElem?_set_ne (by omega)]
      exact hj j (by omega)
theorem heldI_loop (m : Int) (h0 : 0 ≤ m) (h1 : m ≤ 1000000000) (n : Nat) (hn : n ≤ 1048576) (L : List Int) (hl : L.length = n) (hj : ∀ j, j < n → L[j]? = some (m + j)) : ∀ (d k i : Nat), i ≤ n → n - i = d → d < k →
    laws_heldIntS.l0 k L (m + i) (i : Int) = some (m + n) := by
  intro d
  induction d with
  | zero =>
    intro k i hi hd hk
    obtain ⟨k, rfl⟩ : ∃ m, k = m + 1 := ⟨k - 1, by omega⟩
    simp only [laws_heldIntS.l0]
    rw [if_neg (by omega), show i = n from by omega]
  | succ d ih =>
    intro k i hi hd hk
    obtain ⟨k, rfl⟩ : ∃ m, k = m + 1 := ⟨k - 1, by omega⟩
    simp only [laws_heldIntS.l0]
    rw [if_pos (by omega), if_pos (by omega), rd_nat, if_pos (by simp [List.getD, hj i (by omega)]), wnat (by omega), show wrap64 (m + i + 1) = m + ((i + 1 : Nat) : Int) from by unfold wrap64; omega]
    exact ih k (i + 1) (by omega) (by omega) (by omega)
/-- A list that is marked, and held so. -/
theorem markI (l : List Int) (k : Nat) (m : Int) (h0 : 0 ≤ m) (h1 : m ≤ 1000000000) (hm : l.length ≤ 1048576) (hk : l.length < k) :
    ∃ L, laws_markIntS.f k l m = some (m + l.length, L) ∧ L.length = l.length ∧ ∀ k', l.length < k' → laws_heldIntS.f k' L m = some (m + l.length) := by
  have h := markI_loop m h0 h1 l.length hm l.length k 0 l rfl (by omega) (fun j hj => by omega) (by omega) hk
  rw [show m + ((0 : Nat) : Int) = m from by omega] at h
  obtain ⟨L, e, hl, hj⟩ := h
  refine ⟨L, e, hl, fun k' hk' => ?_⟩
  have g := heldI_loop m h0 h1 l.length hm L hl hj l.length k' 0 (by omega) (by omega) hk'
  rw [show m + ((0 : Nat) : Int) = m from by omega] at g
  exact g

theorem enc_eq {op size reg m r e sub : Int} (h : (1 ≤ op ∧ op ≤ 19) ∧ (size = 1 ∨ size = 2) ∧ (0 ≤ reg ∧ reg ≤ 3) ∧ (0 ≤ sub ∧ sub ≤ 7) ∧ (0 ≤ m ∧ m ≤ 7) ∧ (0 ≤ r ∧ r ≤ 3) ∧ (0 ≤ e ∧ e ≤ 65535)) :
    ∃ l, l.length ≤ 2 ∧ spec_l7Encode.f op size reg m r e sub = some l ∧ impl_encoded.f op size reg m r e sub = some l := by
  obtain ⟨h1, h2, h3, h4, h5, h6, _⟩ := h
  unfold spec_l7Encode.f impl_encoded.f
  rw [wrap_in (n := op * 2048) (by omega) (by omega), wrap_in (n := size - 1) (by omega) (by omega), wrap_in (n := (size - 1) * 1024) (by omega) (by omega), wrap_in (n := reg * 256) (by omega) (by omega), wrap_in (n := m * 32) (by omega) (by omega), wrap_in (n := r * 8) (by omega) (by omega)]
  rw [or_join 11 (op * 2048) ((size - 1) * 1024) (by omega) (by omega) (by omega) (by omega) (by omega) (by omega)]
  rw [or_join 10 _ (reg * 256) (by omega) (by omega) (by omega) (by omega) (by omega) (by omega)]
  rw [or_join 8 _ (m * 32) (by omega) (by omega) (by omega) (by omega) (by omega) (by omega)]
  rw [or_join 5 _ (r * 8) (by omega) (by omega) (by omega) (by omega) (by omega) (by omega)]
  rw [or_join 3 _ sub (by omega) (by omega) (by omega) (by omega) (by omega) (by omega)]
  rw [wrap_in (n := op * 2048 + (size - 1) * 1024) (by omega) (by omega), wrap_in (n := op * 2048 + (size - 1) * 1024 + reg * 256) (by omega) (by omega), wrap_in (n := op * 2048 + (size - 1) * 1024 + reg * 256 + m * 32) (by omega) (by omega), wrap_in (n := op * 2048 + (size - 1) * 1024 + reg * 256 + m * 32 + r * 8) (by omega) (by omega), wrap_in (n := op * 2048 + (size - 1) * 1024 + reg * 256 + m * 32 + r * 8 + sub) (by omega) (by omega)]
  have hm : impl_needsExt.f m = spec_l6Ext.f m := by
    have : m = 0 ∨ m = 1 ∨ m = 2 ∨ m = 3 ∨ m = 4 ∨ m = 5 ∨ m = 6 ∨ m = 7 := by omega
    rcases this with rfl | rfl | rfl | rfl | rfl | rfl | rfl | rfl <;> decide +kernel
  rw [hm]
  unfold spec_l6Ext.f
  simp only [Option.bind_some]
  by_cases c : m ≥ 5
  · exact ⟨[op * 2048 + (size - 1) * 1024 + reg * 256 + m * 32 + r * 8 + sub, e], by simp, by simp [c], by simp [c]⟩
  · exact ⟨[op * 2048 + (size - 1) * 1024 + reg * 256 + m * 32 + r * 8 + sub], by simp, by simp [c], by simp [c]⟩

theorem FnExactEncodeIns (op size reg m r e sub : Int) (_ : (Lit.int .i64 op).wf = true) (_ : (Lit.int .i64 size).wf = true) (_ : (Lit.int .i64 reg).wf = true) (_ : (Lit.int .i64 m).wf = true) (_ : (Lit.int .i64 r).wf = true) (_ : (Lit.int .i64 e).wf = true) (_ : (Lit.int .i64 sub).wf = true) :
    ∃ k, laws_FnExactEncodeIns.f k op size reg m r e sub = some true := by
  refine ⟨12, ?_⟩
  have h : ∀ k, ∃ q, q.1.length ≤ 2 ∧ spec_EncodeIns.f (k + 3) op size reg m r e sub = some q ∧ impl_EncodeIns.f (k + 3) op size reg m r e sub = some q := by
    intro k
    obtain ⟨b, e1, e2, hb⟩ := good_eq op size reg m r e sub k
    unfold spec_EncodeIns.f impl_EncodeIns.f
    rw [e1, e2]
    cases b
    · exact ⟨([], false), by simp, by simp, by simp⟩
    · obtain ⟨l, hl, s1, i1⟩ := enc_eq (hb rfl)
      exact ⟨(l, true), hl, by simp [s1], by simp [i1]⟩
  obtain ⟨q, hq, s1, i1⟩ := h 9
  obtain ⟨q', hq', s2, i2⟩ := h 8
  have e2 : q' = q := by
    have := at_rounds (fun k => spec_EncodeIns.mono op size reg m r e sub k) (show 11 ≤ 12 by omega) s2
    rw [s1] at this
    exact (Option.some.inj this).symm
  subst e2
  have er : ∀ k, 5 ≤ k → laws_eqIntS.f k q'.1 q'.1 = some true := fun k hk => eqI q'.1 k (by omega) (by omega)
  obtain ⟨Lr, mr1, hl, hr1⟩ := markI q'.1 11 1 (by omega) (by omega) (by omega) (by omega)
  unfold laws_FnExactEncodeIns.f laws_toIns.f laws_toOperand.f
  simp only [Option.bind_some]
  rw [s1, Option.bind_some, i1, Option.bind_some, er _ (by omega), Option.bind_some, if_pos rfl, show (q'.2 != q'.2) = false from by simp]
  rw [laws_FnExactEncodeIns.j0, if_neg (by simp), mr1, Option.bind_some, hr1 _ (by omega), Option.bind_some, if_neg (by omega), if_pos rfl]
  unfold laws_toIns.f laws_toOperand.f
  simp only [Option.bind_some]
  rw [i2, Option.bind_some, er _ (by omega), Option.bind_some, if_pos rfl, show (q'.2 != q'.2) = false from by simp]
  rw [laws_FnExactEncodeIns.j1, if_neg (by simp), hr1 _ (by omega), Option.bind_some, if_neg (by omega), if_pos rfl]
end Go.Proofs.Ytpcocklckalkmaa.Pure
