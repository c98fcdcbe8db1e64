/- FnExactEncodeAll, the plain law: the program's and the reference's EncodeAll answer alike at every list of instructions, write nothing, and the answer owns its memory. -/
import Derived.Test.YtedichhlamiigaaHFnExactEncodeAllx
import Derived.Test.YtedichhlamiigaaBits
namespace Go.Proofs.Ytedichhlamiigaa.Pure
open Go.RowKit Go.Proofs.Ytedichhlamiigaa.HFnExactEncodeAll Go.Proofs.YtedichhlamiigaaW.PrintWords Go.Proofs.YtedichhlamiigaaW.PrintLast Go.Proofs.Ytedichhlamiigaa.Bt
set_option linter.unusedVariables false
set_option linter.unusedSimpArgs false

theorem sin (a b c : Int) : spec_l1In.f a b c = some (decide (b ≤ a ∧ a ≤ c)) := by
  unfold spec_l1In.f
  by_cases h : b ≤ a <;> simp [h]
theorem iin (a b c : Int) : impl_within.f a b c = some (decide (b ≤ a ∧ a ≤ c)) := by
  unfold impl_within.f
  by_cases h : b ≤ a <;> simp [h]

def gop (m r e : Int) : Bool := decide ((0 ≤ m ∧ m ≤ 7) ∧ (0 ≤ r ∧ r ≤ 3) ∧ (m ≥ 6 → r = 0) ∧ (0 ≤ e ∧ e ≤ 65535) ∧ (m ≥ 5 ∨ e = 0))
theorem gop_of {m r e : Int} (h : gop m r e = true) : (0 ≤ m ∧ m ≤ 7) ∧ (0 ≤ r ∧ r ≤ 3) ∧ (m ≥ 6 → r = 0) ∧ (0 ≤ e ∧ e ≤ 65535) ∧ (m ≥ 5 ∨ e = 0) := of_decide_eq_true h
theorem sgop (k : Nat) (m r e : Int) : spec_GoodOperand.f (k + 1) m r e = some (gop m r e) := by
  unfold spec_GoodOperand.f
  simp only [sin, Option.bind_some, spec_GoodOperand.j0, spec_l6Word.f, spec_l6Ext.f, decide_eq_true_eq, bne_iff_ne, ne_eq, if_true, if_false, Bool.false_eq_true]
  repeat' split
  all_goals
    refine congrArg some ?_
    rw [Bool.eq_iff_iff]
    simp only [gop, decide_eq_true_eq, beq_iff_eq, Bool.false_eq_true, false_iff, true_iff]
    omega
theorem igop (m r e : Int) : impl_GoodOperand.f m r e = some (gop m r e) := by
  unfold impl_GoodOperand.f
  simp only [iin, Option.bind_some, impl_isWord.f, impl_needsExt.f, ite_bind, decide_eq_true_eq, bne_iff_ne, ne_eq, beq_iff_eq, if_true, if_false, Bool.false_eq_true]
  repeat' split
  all_goals
    refine congrArg some ?_
    rw [Bool.eq_iff_iff]
    simp only [gop, decide_eq_true_eq, beq_iff_eq, Bool.false_eq_true, false_iff, true_iff]
    omega

theorem lits : ((1 : Int) == 1) = true ∧ True := ⟨rfl, trivial⟩
theorem kind_eq (op size reg m r e sub : Int) (k : Nat) : spec_GoodIns.j0 (k + 3) false op size reg m r e sub = impl_isKind.f (k + 3) op size reg m r e sub := by
  by_cases h : 1 ≤ op ∧ op ≤ 19
  · have : op = 1 ∨ op = 2 ∨ op = 3 ∨ op = 4 ∨ op = 5 ∨ op = 6 ∨ op = 7 ∨ op = 8 ∨ op = 9 ∨ op = 10 ∨ op = 11 ∨ op = 12 ∨ op = 13 ∨ op = 14 ∨ op = 15 ∨ op = 16 ∨ op = 17 ∨ op = 18 ∨ op = 19 := by omega
    rcases this with rfl | rfl | rfl | rfl | rfl | rfl | rfl | rfl | rfl | rfl | rfl | rfl | rfl | rfl | rfl | rfl | rfl | rfl | rfl
    all_goals
      simp only [spec_GoodIns.j0, spec_GoodIns.j1, spec_GoodIns.j2, impl_isKind.f, impl_isKind.j0, impl_isKind.j1, impl_isFlow.f, impl_isFlow.j0, impl_isNow.f, impl_isPlain.f, impl_isSettable.f, impl_isMemory.f, spec_l7Memory.f, spec_l7Plain.f, spec_l7Now.f, spec_l7Zero.f, sin, iin, ite_bind, Option.bind_some, Int.reduceEq, Int.reduceBEq, if_true, if_false, Bool.false_eq_true, beq_iff_eq, decide_eq_true_eq, Bool.and_eq_true]
      repeat' split
      all_goals first
        | rfl
        | (exfalso; omega)
        | (refine congrArg some ?_; rw [Bool.eq_iff_iff]; simp only [decide_eq_true_eq, beq_iff_eq, bne_iff_ne, ne_eq, Bool.and_eq_true, Bool.false_eq_true, false_iff, true_iff, iff_true, iff_false, eq_self] <;> omega)
  · have e1 : op ≠ 1 := by omega
    have e2 : op ≠ 2 := by omega
    have e3 : op ≠ 3 := by omega
    have e4 : op ≠ 4 := by omega
    have e5 : op ≠ 5 := by omega
    have e6 : op ≠ 6 := by omega
    have e7 : op ≠ 7 := by omega
    have e8 : op ≠ 8 := by omega
    have e9 : op ≠ 9 := by omega
    have e10 : op ≠ 10 := by omega
    have e11 : op ≠ 11 := by omega
    have e12 : op ≠ 12 := by omega
    have e13 : op ≠ 13 := by omega
    have e14 : op ≠ 14 := by omega
    have e15 : op ≠ 15 := by omega
    have e16 : op ≠ 16 := by omega
    have e17 : op ≠ 17 := by omega
    have e18 : op ≠ 18 := by omega
    have e19 : op ≠ 19 := by omega
    simp [spec_GoodIns.j0, spec_GoodIns.j1, spec_GoodIns.j2, impl_isKind.f, impl_isKind.j0, impl_isKind.j1, *]
/-- An instruction that is right by its Op has one. -/
theorem kind_some (op size reg m r e sub : Int) (k : Nat) : ∃ b, impl_isKind.f (k + 3) op size reg m r e sub = some b ∧ (b = true → 1 ≤ op ∧ op ≤ 19) := by
  by_cases h : 1 ≤ op ∧ op ≤ 19
  · have : op = 1 ∨ op = 2 ∨ op = 3 ∨ op = 4 ∨ op = 5 ∨ op = 6 ∨ op = 7 ∨ op = 8 ∨ op = 9 ∨ op = 10 ∨ op = 11 ∨ op = 12 ∨ op = 13 ∨ op = 14 ∨ op = 15 ∨ op = 16 ∨ op = 17 ∨ op = 18 ∨ op = 19 := by omega
    rcases this with rfl | rfl | rfl | rfl | rfl | rfl | rfl | rfl | rfl | rfl | rfl | rfl | rfl | rfl | rfl | rfl | rfl | rfl | rfl
    all_goals
      simp only [impl_isKind.f, impl_isKind.j0, impl_isKind.j1, impl_isFlow.f, impl_isFlow.j0, impl_isNow.f, impl_isPlain.f, impl_isSettable.f, impl_isMemory.f, iin, ite_bind, Option.bind_some, Int.reduceEq, Int.reduceBEq, if_true, if_false, Bool.false_eq_true, beq_iff_eq, decide_eq_true_eq, Bool.and_eq_true, ← apply_ite some]
      exact ⟨_, rfl, fun _ => by omega⟩
  · have e1 : op ≠ 1 := by omega
    have e2 : op ≠ 2 := by omega
    have e3 : op ≠ 3 := by omega
    have e4 : op ≠ 4 := by omega
    have e5 : op ≠ 5 := by omega
    have e6 : op ≠ 6 := by omega
    have e7 : op ≠ 7 := by omega
    have e8 : op ≠ 8 := by omega
    have e9 : op ≠ 9 := by omega
    have e10 : op ≠ 10 := by omega
    have e11 : op ≠ 11 := by omega
    have e12 : op ≠ 12 := by omega
    have e13 : op ≠ 13 := by omega
    have e14 : op ≠ 14 := by omega
    have e15 : op ≠ 15 := by omega
    have e16 : op ≠ 16 := by omega
    have e17 : op ≠ 17 := by omega
    have e18 : op ≠ 18 := by omega
    have e19 : op ≠ 19 := by omega
    refine ⟨false, ?_, fun h => by cases h⟩
    simp [impl_isKind.f, impl_isKind.j0, impl_isKind.j1, *]
def pre (size reg m r e sub : Int) : Bool := decide ((size = 1 ∨ size = 2) ∧ (0 ≤ reg ∧ reg ≤ 3) ∧ (0 ≤ sub ∧ sub ≤ 7) ∧ gop m r e = true ∧ ¬ (m = 7 ∧ size = 1 ∧ e > 255))
theorem sgood (op size reg m r e sub : Int) (k : Nat) : spec_GoodIns.f (k + 3) op size reg m r e sub = if pre size reg m r e sub = true then spec_GoodIns.j0 (k + 3) false op size reg m r e sub else some false := by
  have hj : spec_GoodIns.j0 (k + 3) true op size reg m r e sub = some false := by simp [spec_GoodIns.j0]
  have hd : ∀ b : Bool, spec_GoodIns.j0 (k + 3) b op size reg m r e sub = if b = true then some false else spec_GoodIns.j0 (k + 3) false op size reg m r e sub := fun b => by cases b <;> simp [hj]
  unfold spec_GoodIns.f spec_l1Size.f
  rw [sgop (k + 2), sin, sin]
  by_cases h1 : size = 1 ∨ size = 2
  · by_cases h2 : 0 ≤ reg ∧ reg ≤ 3
    · by_cases h3 : gop m r e = true
      · by_cases h4 : 0 ≤ sub ∧ sub ≤ 7
        · by_cases h5 : m = 7 ∧ size = 1 ∧ e > 255
          · have hp : pre size reg m r e sub = false := by simp [pre, h5]
            rw [hp]
            obtain ⟨rfl, rfl, h5⟩ := h5
            simp [h2, h3, h4, h5, hj]
          · have hp : pre size reg m r e sub = true := by simp only [pre, decide_eq_true_eq]; exact ⟨h1, h2, h4, h3, h5⟩
            rw [hp, if_pos rfl]
            have hs : (if size = 1 then (some true : Option Bool) else some (size == 2)) = some true := by
              rcases h1 with rfl | rfl <;> rfl
            rw [hs]
            simp only [h2, h3, h4, and_self, decide_true, Option.bind_some, if_true]
            by_cases c7 : m = 7
            · by_cases c1 : size = 1
              · rw [if_pos c7, if_pos c1, hd, if_neg (by simp; omega)]
              · rw [if_pos c7, if_neg c1]
            · rw [if_neg c7]
        · have hp : pre size reg m r e sub = false := by simp only [pre, decide_eq_false_iff_not]; exact fun h => h4 h.2.2.1
          rw [hp]
          rcases h1 with rfl | rfl <;> simp [h2, h3, h4, hj]
      · have hp : pre size reg m r e sub = false := by simp only [pre, decide_eq_false_iff_not]; exact fun h => h3 h.2.2.2.1
        rw [hp]
        rcases h1 with rfl | rfl <;> simp [h2, h3, hj]
    · have hp : pre size reg m r e sub = false := by simp only [pre, decide_eq_false_iff_not]; exact fun h => h2 h.2.1
      rw [hp]
      rcases h1 with rfl | rfl <;> simp [h2, hj]
  · have hp : pre size reg m r e sub = false := by simp only [pre, decide_eq_false_iff_not]; exact fun h => h1 h.1
    rw [hp]
    have c1 : size ≠ 1 := fun h => h1 (.inl h)
    have c2 : size ≠ 2 := fun h => h1 (.inr h)
    simp [c1, c2, hj]
theorem igood (op size reg m r e sub : Int) (k : Nat) : impl_GoodIns.f (k + 3) op size reg m r e sub = if pre size reg m r e sub = true then impl_isKind.f (k + 3) op size reg m r e sub else some false := by
  obtain ⟨b, hb, _⟩ := kind_some op size reg m r e sub k
  unfold impl_GoodIns.f impl_isSize.f
  rw [igop, iin, iin, hb]
  by_cases h1 : size = 1 ∨ size = 2
  · have hs : (if size = 1 then (some true : Option Bool) else some (size == 2)) = some true := by
      rcases h1 with rfl | rfl <;> rfl
    rw [hs]
    by_cases h2 : 0 ≤ reg ∧ reg ≤ 3
    · by_cases h4 : 0 ≤ sub ∧ sub ≤ 7
      · by_cases h3 : gop m r e = true
        · simp only [h2, h3, h4, and_self, decide_true, Option.bind_some, if_true]
          by_cases h5 : m = 7 ∧ size = 1 ∧ e > 255
          · have hp : pre size reg m r e sub = false := by simp [pre, h5]
            rw [hp, if_pos h5.1, if_pos h5.2.1, if_pos h5.2.2]
            rfl
          · have hp : pre size reg m r e sub = true := by simp only [pre, decide_eq_true_eq]; exact ⟨h1, h2, h4, h3, h5⟩
            rw [hp, if_pos rfl]
            by_cases c7 : m = 7
            · by_cases c1 : size = 1
              · rw [if_pos c7, if_pos c1, if_neg (by omega)]
              · rw [if_pos c7, if_neg c1]
            · rw [if_neg c7]
        · have hp : pre size reg m r e sub = false := by simp only [pre, decide_eq_false_iff_not]; exact fun h => h3 h.2.2.2.1
          rw [hp]
          simp [h2, h3, h4]
      · have hp : pre size reg m r e sub = false := by simp only [pre, decide_eq_false_iff_not]; exact fun h => h4 h.2.2.1
        rw [hp]
        simp [h2, h4]
    · have hp : pre size reg m r e sub = false := by simp only [pre, decide_eq_false_iff_not]; exact fun h => h2 h.2.1
      rw [hp]
      simp [h2]
  · have hp : pre size reg m r e sub = false := by simp only [pre, decide_eq_false_iff_not]; exact fun h => h1 h.1
    rw [hp]
    have c1 : size ≠ 1 := fun h => h1 (.inl h)
    have c2 : size ≠ 2 := fun h => h1 (.inr h)
    simp [c1, c2]
/-- Both sides' GoodIns, at any three rounds or more; and what it is good for. -/
theorem good_eq (op size reg m r e sub : Int) (k : Nat) : ∃ b, spec_GoodIns.f (k + 3) op size reg m r e sub = some b ∧ impl_GoodIns.f (k + 3) op size reg m r e sub = some b ∧
    (b = true → (1 ≤ op ∧ op ≤ 19) ∧ (size = 1 ∨ size = 2) ∧ (0 ≤ reg ∧ reg ≤ 3) ∧ (0 ≤ sub ∧ sub ≤ 7) ∧ (0 ≤ m ∧ m ≤ 7) ∧ (0 ≤ r ∧ r ≤ 3) ∧ (0 ≤ e ∧ e ≤ 65535)) := by
  rw [sgood, igood, kind_eq]
  obtain ⟨b, hb, ho⟩ := kind_some op size reg m r e sub k
  rw [hb]
  cases hp : pre size reg m r e sub
  · exact ⟨false, rfl, rfl, fun h => by cases h⟩
  · refine ⟨b, rfl, rfl, fun h => ?_⟩
    have h' := of_decide_eq_true hp
    have g := gop_of h'.2.2.2.1
    exact ⟨ho h, h'.1, h'.2.1, h'.2.2.1, g.1, g.2.1, g.2.2.2.1⟩

theorem wnat {i : Nat} (h : i < 4611686018427387904) : wrap64 ((i : Int) + 1) = ((i + 1 : Nat) : Int) := by unfold wrap64; omega
theorem rd_nat (l : List Int) (i : Nat) : rd l (i : Int) = l.getD i 0 := by unfold rd; rw [Int.toNat_natCast]

theorem eqI_loop (l : List Int) (hm : l.length ≤ 4611686018427387000) : ∀ (d k i : Nat), i ≤ l.length → l.length - i = d → d < k → laws_eqIntS.l0 k l l (i : Int) = some true := by
  intro d
  induction d with
  | zero =>
    intro k i hi hd hk
    obtain ⟨k, rfl⟩ : ∃ m, k = m + 1 := ⟨k - 1, by omega⟩
    simp only [laws_eqIntS.l0]
    rw [if_neg (by omega)]
  | succ d ih =>
    intro k i hi hd hk
    obtain ⟨k, rfl⟩ : ∃ m, k = m + 1 := ⟨k - 1, by omega⟩
    simp only [laws_eqIntS.l0]
    rw [if_pos (by omega), if_pos (by omega), if_pos (by omega), if_pos trivial, wnat (by omega)]
    exact ih k (i + 1) (by omega) (by omega) (by omega)
theorem eqI (l : List Int) (k : Nat) (hm : l.length ≤ 1048576) (hk : l.length < k) : laws_eqIntS.f k l l = some true := by
  unfold laws_eqIntS.f
  rw [if_pos rfl]
  exact eqI_loop l (by omega) l.length k 0 (by omega) (by omega) hk

theorem markI_loop (m : Int) (h0 : 0 ≤ m) (h1 : m ≤ 1000000000) (n : Nat) (hn : n ≤ 1048576) : ∀ (d k i : Nat) (L : List Int), L.length = n → i ≤ n → (∀ j, j < i → L[j]? = some (m + j)) → n - i = d → d < k →
    ∃ L', laws_markIntS.l0 k L (m + i) (i : Int) = some (m + n, L') ∧ L'.length = n ∧ ∀ j, j < n → L'[j]? = some (m + j) := by
  intro d
  induction d with
  | zero =>
    intro k i L hl hi hj hd hk
    obtain ⟨k, rfl⟩ : ∃ m, k = m + 1 := ⟨k - 1, by omega⟩
    simp only [laws_markIntS.l0]
    rw [if_neg (by omega)]
    exact ⟨L, by rw [show i = n from by omega], hl, fun j hj' => hj j (by omega)⟩
  | succ d ih =>
    intro k i L hl hi hj hd hk
    obtain ⟨k, rfl⟩ : ∃ m, k = m + 1 := ⟨k - 1, by omega⟩
    simp only [laws_markIntS.l0]
    rw [if_pos (by omega), if_pos (by omega), wnat (by omega), Int.toNat_natCast, show wrap64 (m + i + 1) = m + ((i + 1 : Nat) : Int) from by unfold wrap64; omega]
    refine ih k (i + 1) _ (by rw [List.length_set]; exact hl) (by omega) ?_ (by omega) (by omega)
    intro j hj'
    by_cases e : j = i
    · subst e
      rw [List.getElem?_set_self (by omega)]
    · rw [List.getElem?_set_ne (by omega)]
      exact hj j (by omega)
theorem heldI_loop (m : Int) (h0 : 0 ≤ m) (h1 : m ≤ 1000000000) (n : Nat) (hn : n ≤ 1048576) (L : List Int) (hl : L.length = n) (hj : ∀ j, j < n → L[j]? = some (m + j)) : ∀ (d k i : Nat), i ≤ n → n - i = d → d < k →
    laws_heldIntS.l0 k L (m + i) (i : Int) = some (m + n) := by
  intro d
  induction d with
  | zero =>
    intro k i hi hd hk
    obtain ⟨k, rfl⟩ : ∃ m, k = m + 1 := ⟨k - 1, by omega⟩
    simp only [laws_heldIntS.l0]
    rw [if_neg (by omega), show i = n from by omega]
  | succ d ih =>
    intro k i hi hd hk
    obtain ⟨k, rfl⟩ : ∃ m, k = m + 1 := ⟨k - 1, by omega⟩
    simp only [laws_heldIntS.l0]
    rw [if_pos (by omega), if_pos (by omega), rd_nat, if_pos (by simp [List.getD, hj i (by omega)]), wnat (by omega), show wrap64 (m + i + 1) = m + ((i + 1 : Nat) : Int) from by unfold wrap64; omega]
    exact ih k (i + 1) (by omega) (by omega) (by omega)
/-- A list that is marked, and held so. -/
theorem markI (l : List Int) (k : Nat) (m : Int) (h0 : 0 ≤ m) (h1 : m ≤ 1000000000) (hm : l.length ≤ 1048576) (hk : l.length < k) :
    ∃ L, laws_markIntS.f k l m = some (m + l.length, L) ∧ L.length = l.length ∧ ∀ k', l.length < k' → laws_heldIntS.f k' L m = some (m + l.length) := by
  have h := markI_loop m h0 h1 l.length hm l.length k 0 l rfl (by omega) (fun j hj => by omega) (by omega) hk
  rw [show m + ((0 : Nat) : Int) = m from by omega] at h
  obtain ⟨L, e, hl, hj⟩ := h
  refine ⟨L, e, hl, fun k' hk' => ?_⟩
  have g := heldI_loop m h0 h1 l.length hm L hl hj l.length k' 0 (by omega) (by omega) hk'
  rw [show m + ((0 : Nat) : Int) = m from by omega] at g
  exact g

theorem enc_eq {op size reg m r e sub : Int} (h : (1 ≤ op ∧ op ≤ 19) ∧ (size = 1 ∨ size = 2) ∧ (0 ≤ reg ∧ reg ≤ 3) ∧ (0 ≤ sub ∧ sub ≤ 7) ∧ (0 ≤ m ∧ m ≤ 7) ∧ (0 ≤ r ∧ r ≤ 3) ∧ (0 ≤ e ∧ e ≤ 65535)) :
    ∃ l, l.length ≤ 2 ∧ spec_l7Encode.f op size reg m r e sub = some l ∧ impl_encoded.f op size reg m r e sub = some l := by
  obtain ⟨h1, h2, h3, h4, h5, h6, _⟩ := h
  unfold spec_l7Encode.f impl_encoded.f
  rw [wrap_in (n := op * 2048) (by omega) (by omega), wrap_in (n := size - 1) (by omega) (by omega), wrap_in (n := (size - 1) * 1024) (by omega) (by omega), wrap_in (n := reg * 256) (by omega) (by omega), wrap_in (n := m * 32) (by omega) (by omega), wrap_in (n := r * 8) (by omega) (by omega)]
  rw [or_join 11 (op * 2048) ((size - 1) * 1024) (by omega) (by omega) (by omega) (by omega) (by omega) (by omega)]
  rw [or_join 10 _ (reg * 256) (by omega) (by omega) (by omega) (by omega) (by omega) (by omega)]
  rw [or_join 8 _ (m * 32) (by omega) (by omega) (by omega) (by omega) (by omega) (by omega)]
  rw [or_join 5 _ (r * 8) (by omega) (by omega) (by omega) (by omega) (by omega) (by omega)]
  rw [or_join 3 _ sub (by omega) (by omega) (by omega) (by omega) (by omega) (by omega)]
  rw [wrap_in (n := op * 2048 + (size - 1) * 1024) (by omega) (by omega), wrap_in (n := op * 2048 + (size - 1) * 1024 + reg * 256) (by omega) (by omega), wrap_in (n := op * 2048 + (size - 1) * 1024 + reg * 256 + m * 32) (by omega) (by omega), wrap_in (n := op * 2048 + (size - 1) * 1024 + reg * 256 + m * 32 + r * 8) (by omega) (by omega), wrap_in (n := op * 2048 + (size - 1) * 1024 + reg * 256 + m * 32 + r * 8 + sub) (by omega) (by omega)]
  have hm : impl_needsExt.f m = spec_l6Ext.f m := by
    have : m = 0 ∨ m = 1 ∨ m = 2 ∨ m = 3 ∨ m = 4 ∨ m = 5 ∨ m = 6 ∨ m = 7 := by omega
    rcases this with rfl | rfl | rfl | rfl | rfl | rfl | rfl | rfl <;> decide +kernel
  rw [hm]
  unfold spec_l6Ext.f
  simp only [Option.bind_some]
  by_cases c : m ≥ 5
  · exact ⟨[op * 2048 + (size - 1) * 1024 + reg * 256 + m * 32 + r * 8 + sub, e], by simp, by simp [c], by simp [c]⟩
  · exact ⟨[op * 2048 + (size - 1) * 1024 + reg * 256 + m * 32 + r * 8 + sub], by simp, by simp [c], by simp [c]⟩

def conv (x : S57) : S52 := ⟨x.f0, x.f1, x.f2, ⟨x.f3.f0, x.f3.f1, x.f3.f2⟩, x.f4⟩
theorem rdL_nat (l : List S57) (i : Nat) : rd_T57 l (i : Int) = l.getD i z57 := by unfold rd_T57; rw [Int.toNat_natCast]
theorem rdM_nat (l : List S52) (i : Nat) : rd_T52 l (i : Int) = l.getD i z52 := by unfold rd_T52; rw [Int.toNat_natCast]
theorem toS_loop (l : List S57) (hm : l.length ≤ 4611686018427387000) : ∀ (d k i : Nat) (out : List S52), out.length = l.length → i ≤ l.length → (∀ j, j < i → out[j]? = (l.map conv)[j]?) → l.length - i = d → d < k → laws_toInsS.l0 k l out (i : Int) = some (l.map conv) := by
  intro d
  induction d with
  | zero =>
    intro k i out ho hi hj hd hk
    obtain ⟨k, rfl⟩ : ∃ m, k = m + 1 := ⟨k - 1, by omega⟩
    simp only [laws_toInsS.l0]
    rw [if_neg (by omega)]
    congr 1
    refine List.ext_getElem? fun j => ?_
    by_cases h : j < l.length
    · exact hj j (by omega)
    · rw [List.getElem?_eq_none (by omega), List.getElem?_eq_none (by rw [List.length_map]; omega)]
  | succ d ih =>
    intro k i out ho hi hj hd hk
    obtain ⟨k, rfl⟩ : ∃ m, k = m + 1 := ⟨k - 1, by omega⟩
    simp only [laws_toInsS.l0, laws_toIns.f, laws_toOperand.f, Option.bind_some]
    rw [if_pos (by omega), if_pos (by omega), if_pos (by omega), wnat (by omega), rdL_nat, Int.toNat_natCast]
    refine ih k (i + 1) _ (by rw [List.length_set]; exact ho) (by omega) ?_ (by omega) (by omega)
    intro j hj'
    by_cases e : j = i
    · subst e
      rw [List.getElem?_set_self (by omega), List.getElem?_map, List.getElem?_eq_getElem (by omega)]
      simp [List.getD, List.getElem?_eq_getElem (show j < l.length by omega), conv]
    · rw [List.getElem?_set_ne (by omega)]
      exact hj j (by omega)
theorem toS (l : List S57) (k : Nat) (hm : l.length ≤ 1048576) (hk : l.length < k) : laws_toInsS.f k l = some (l.map conv) := by
  unfold laws_toInsS.f
  rw [if_pos (by omega), if_pos (by omega)]
  exact toS_loop l (by omega) l.length k 0 _ (by simp) (by omega) (fun j hj => by omega) (by omega) hk
theorem eqS_loop (l : List S52) (hm : l.length ≤ 4611686018427387000) : ∀ (d k i : Nat), i ≤ l.length → l.length - i = d → d < k → laws_eqInsS.l0 k l l (i : Int) = some true := by
  intro d
  induction d with
  | zero =>
    intro k i hi hd hk
    obtain ⟨k, rfl⟩ : ∃ m, k = m + 1 := ⟨k - 1, by omega⟩
    simp only [laws_eqInsS.l0]
    rw [if_neg (by omega)]
  | succ d ih =>
    intro k i hi hd hk
    obtain ⟨k, rfl⟩ : ∃ m, k = m + 1 := ⟨k - 1, by omega⟩
    simp only [laws_eqInsS.l0, laws_eqIns.f, laws_eqOperand.f, if_true, Option.bind_some]
    rw [if_pos (by omega), if_pos (by omega), if_pos (by omega), wnat (by omega)]
    exact ih k (i + 1) (by omega) (by omega) (by omega)
theorem eqS (l : List S52) (k : Nat) (hm : l.length ≤ 1048576) (hk : l.length < k) : laws_eqInsS.f k l l = some true := by
  unfold laws_eqInsS.f
  rw [if_pos rfl]
  exact eqS_loop l (by omega) l.length k 0 (by omega) (by omega) hk
theorem good_x (x : S52) : ∃ b, (∀ k, 3 ≤ k → spec_GoodIns.f k x.f0 x.f1 x.f2 x.f3.f0 x.f3.f1 x.f3.f2 x.f4 = some b) ∧ impl_EncodeAll.good x = some b ∧ (b = true → ∃ e, e.length ≤ 2 ∧ spec_l7Encode.f x.f0 x.f1 x.f2 x.f3.f0 x.f3.f1 x.f3.f2 x.f4 = some e ∧ impl_encoded.f x.f0 x.f1 x.f2 x.f3.f0 x.f3.f1 x.f3.f2 x.f4 = some e) := by
  obtain ⟨b, s1, _, _⟩ := good_eq x.f0 x.f1 x.f2 x.f3.f0 x.f3.f1 x.f3.f2 x.f4 0
  obtain ⟨b', s2, i2, hb⟩ := good_eq x.f0 x.f1 x.f2 x.f3.f0 x.f3.f1 x.f3.f2 x.f4 6
  have e : b' = b := by
    have := at_rounds (fun k => spec_GoodIns.mono x.f0 x.f1 x.f2 x.f3.f0 x.f3.f1 x.f3.f2 x.f4 k) (show 0 + 3 ≤ 6 + 3 by omega) s1
    rw [s2] at this
    exact Option.some.inj this
  subst e
  exact ⟨b', fun k hk => at_rounds (fun k => spec_GoodIns.mono x.f0 x.f1 x.f2 x.f3.f0 x.f3.f1 x.f3.f2 x.f4 k) (show 0 + 3 ≤ k by omega) s1, i2, fun h => enc_eq (hb h)⟩
theorem all_loop (l : List S52) (hm : l.length ≤ 1048576) : ∀ (d k i : Nat) (acc : List Int), i ≤ l.length → acc.length ≤ 2 * i → l.length - i = d → d + 3 < k →
    ∃ q, spec_EncodeAll.l0 k l acc l (l.length : Int) (i : Int) = some q ∧ (q = ([], false) ∨ (l.length ≤ 40 ∧ q.1.length ≤ 80)) ∧ (40 < l.length → q = ([], false)) ∧ ((l.drop i).any impl_EncodeAll.bad = true → q = ([], false)) ∧ ((l.drop i).any impl_EncodeAll.bad = false → l.length ≤ 40 → impl_EncodeAll.enc acc (l.drop i) = some q) := by
  intro d
  induction d with
  | zero =>
    intro k i acc hi ha hd hk
    obtain ⟨k, rfl⟩ : ∃ m, k = m + 1 := ⟨k - 1, by omega⟩
    simp only [spec_EncodeAll.l0]
    rw [if_neg (by omega), List.drop_eq_nil_of_le (by omega)]
    by_cases c : 40 < l.length
    · rw [if_pos (by omega)]
      exact ⟨_, rfl, .inl rfl, fun _ => rfl, fun _ => rfl, fun _ h => absurd h (by omega)⟩
    · rw [if_neg (by omega)]
      exact ⟨_, rfl, .inr ⟨by omega, by show acc.length ≤ 80; omega⟩, fun h => absurd h c, fun h => by simp at h, fun _ _ => by simp [impl_EncodeAll.enc]⟩
  | succ d ih =>
    intro k i acc hi ha hd hk
    obtain ⟨k, rfl⟩ : ∃ m, k = m + 1 := ⟨k - 1, by omega⟩
    have hlt : i < l.length := by omega
    have er : rd_T52 l (i : Int) = l[i] := by
      rw [rdM_nat, List.getD_eq_getElem?_getD, List.getElem?_eq_getElem hlt]
      rfl
    obtain ⟨b, s1, i1, hb⟩ := good_x l[i]
    have hbad : impl_EncodeAll.bad l[i] = !b := by unfold impl_EncodeAll.bad; rw [i1]; rfl
    simp only [spec_EncodeAll.l0]
    rw [if_pos (by omega), if_pos (by omega), if_pos (by omega), er, s1 k (by omega), Option.bind_some, List.drop_eq_getElem_cons hlt, List.any_cons, hbad, wnat (by omega)]
    cases b
    · rw [if_neg (by simp)]
      exact ⟨_, rfl, .inl rfl, fun _ => rfl, fun _ => rfl, fun h => by simp at h⟩
    · obtain ⟨e, he, s2, i2⟩ := hb rfl
      rw [if_pos rfl, s2, Option.bind_some, if_pos (by omega)]
      obtain ⟨q, h1, h2, h3, h4, h5⟩ := ih k (i + 1) (acc ++ e) (by omega) (by rw [List.length_append]; omega) (by omega) (by omega)
      refine ⟨q, h1, h2, h3, fun h => h4 (by simpa using h), fun h hl => ?_⟩
      rw [impl_EncodeAll.enc, i2, Option.bind_some, if_pos (by omega)]
      exact h5 (by simpa using h) hl
theorem encodeAll_eq (l : List S52) (hm : l.length ≤ 1048576) (k : Nat) (hk : l.length + 3 < k) : ∃ q, q.1.length ≤ 80 ∧ spec_EncodeAll.f k l = some q ∧ impl_EncodeAll.f l = some q := by
  obtain ⟨q, h1, h2, h3, h4, h5⟩ := all_loop l hm l.length k 0 [] (by omega) (by simp) (by omega) hk
  rw [List.drop_zero] at h4 h5
  refine ⟨q, ?_, h1, ?_⟩
  · rcases h2 with rfl | h
    · simp
    · exact h.2
  · unfold impl_EncodeAll.f
    by_cases c : 40 < l.length
    · rw [if_pos (by omega), h3 c]
    · rw [if_neg (by omega), if_pos (by
        rw [List.all_eq_true]
        intro x _
        obtain ⟨b, _, i1, _⟩ := good_x x
        rw [i1]
        rfl)]
      cases hb : l.any impl_EncodeAll.bad
      · rw [if_neg (by simp)]
        exact h5 hb (by omega)
      · rw [if_pos rfl, h4 hb]
theorem FnExactEncodeAll (l : List S57) (hl : l.length ≤ maxLen) : ∃ k, laws_FnExactEncodeAll.f k l = some true := by
  refine ⟨l.length + 200, ?_⟩
  unfold maxLen at hl
  unfold laws_FnExactEncodeAll.f laws_szInsS.f
  rw [wrap_in (n := 1048576 - l.length) (by omega) (by omega)]
  by_cases c : (1048576 : Int) - l.length < 0
  · rw [if_pos c, Option.bind_some, if_pos (by omega)]
  · rw [if_neg c, Option.bind_some, if_neg c]
    have h3 : (l.map conv).length ≤ 1048576 := by rw [List.length_map]; omega
    have h4 : (l.map conv).length = l.length := List.length_map _
    have tb : ∀ k, l.length + 150 ≤ k → laws_toInsS.f k l = some (l.map conv) := fun k hk => toS l k (by omega) (by omega)
    have eb : ∀ k, l.length + 150 ≤ k → laws_eqInsS.f k (l.map conv) (l.map conv) = some true := fun k hk => eqS (l.map conv) k h3 (by omega)
    generalize hK : l.length + 200 = K
    obtain ⟨q, hq, s1, i1⟩ := encodeAll_eq (l.map conv) h3 K (by omega)
    have er : ∀ k, l.length + 150 ≤ k → laws_eqIntS.f k q.1 q.1 = some true := fun k hk => eqI q.1 k (by omega) (by omega)
    rw [tb K (by omega), Option.bind_some, s1, Option.bind_some, Option.bind_some, i1, Option.bind_some, er K (by omega), Option.bind_some, if_pos rfl]
    rw [show (q.2 != q.2) = false from by simp]
    obtain ⟨K, rfl⟩ : ∃ m, K = m + 3 := ⟨K - 3, by omega⟩
    rw [laws_FnExactEncodeAll.j0, if_neg (by simp), tb _ (by omega), Option.bind_some, eb _ (by omega), Option.bind_some, if_pos rfl]
    unfold laws_markInsS.f
    rw [if_pos ⟨by omega, by omega, h3⟩, Option.bind_some, if_neg (by show ¬ ((1 : Int) + 7 * ((l.map conv).length : Int) < 0); omega), er _ (by omega), Option.bind_some, if_pos rfl]
    rw [show (q.2 != q.2) = false from by simp]
    obtain ⟨Lr, mr1, _, hr1⟩ := markI q.1 (K + 1) 1 (by omega) (by omega) (by omega) (by omega)
    rw [laws_FnExactEncodeAll.j1, if_neg (by simp), mr1, Option.bind_some, hr1 _ (by omega), Option.bind_some, if_neg (by omega), if_pos rfl, tb _ (by omega), Option.bind_some, i1, Option.bind_some, er _ (by omega), Option.bind_some, if_pos rfl]
    rw [show (q.2 != q.2) = false from by simp]
    rw [laws_FnExactEncodeAll.j2, if_neg (by simp), hr1 _ (by omega), Option.bind_some, if_neg (by omega), if_pos rfl]
end Go.Proofs.Ytedichhlamiigaa.Pure
