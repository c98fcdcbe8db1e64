/- FnExactDecodeAll, the plain law: the program's and the reference's DecodeAll answer alike at every list, write nothing, and the answer owns its memory. -/
import Derived.Test.YtnopjkkglanlfaaHFnExactDecodeAllx10
import Derived.Test.YtnopjkkglanlfaaBits
namespace Go.Proofs.Ytnopjkkglanlfaa.Pure
open Go.RowKit Go.Proofs.Ytnopjkkglanlfaa.HFnExactDecodeAll Go.Proofs.YtnopjkkglanlfaaW.PrintWords Go.Proofs.YtnopjkkglanlfaaW.PrintLast Go.Proofs.Ytnopjkkglanlfaa.Bt
set_option linter.unusedVariables false
set_option linter.unusedSimpArgs false

theorem sin (a b c : Int) : spec_l1In.f a b c = some (decide (b ≤ a ∧ a ≤ c)) := by
  unfold spec_l1In.f
  by_cases h : b ≤ a <;> simp [h]
theorem iin (a b c : Int) : impl_within.f a b c = some (decide (b ≤ a ∧ a ≤ c)) := by
  unfold impl_within.f
  by_cases h : b ≤ a <;> simp [h]

def gop (m r e : Int) : Bool := decide ((0 ≤ m ∧ m ≤ 7) ∧ (0 ≤ r ∧ r ≤ 3) ∧ (m ≥ 6 → r = 0) ∧ (0 ≤ e ∧ e ≤ 65535) ∧ (m ≥ 5 ∨ e = 0))
theorem gop_of {m r e : Int} (h : gop m r e = true) : (0 ≤ m ∧ m ≤ 7) ∧ (0 ≤ r ∧ r ≤ 3) ∧ (m ≥ 6 → r = 0) ∧ (0 ≤ e ∧ e ≤ 65535) ∧ (m ≥ 5 ∨ e = 0) := of_decide_eq_true h
theorem sgop (k : Nat) (m r e : Int) : spec_GoodOperand.f (k + 1) m r e = some (gop m r e) := by
  unfold spec_GoodOperand.f
  simp only [sin, Option.bind_some, spec_GoodOperand.j0, spec_l6Word.f, spec_l6Ext.f, decide_eq_true_eq, bne_iff_ne, ne_eq, if_true, if_false, Bool.false_eq_true]
  repeat' split
  all_goals
    refine congrArg some ?_
    rw [Bool.eq_iff_iff]
    simp only [gop, decide_eq_true_eq, beq_iff_eq, Bool.false_eq_true, false_iff, true_iff]
    omega
theorem igop (m r e : Int) : impl_GoodOperand.f m r e = some (gop m r e) := by
  unfold impl_GoodOperand.f
  simp only [iin, Option.bind_some, impl_isWord.f, impl_needsExt.f, ite_bind, decide_eq_true_eq, bne_iff_ne, ne_eq, beq_iff_eq, if_true, if_false, Bool.false_eq_true]
  repeat' split
  all_goals
    refine congrArg some ?_
    rw [Bool.eq_iff_iff]
    simp only [gop, decide_eq_true_eq, beq_iff_eq, Bool.false_eq_true, false_iff, true_iff]
    omega

theorem lits : ((1 : Int) == 1) = true ∧ True := ⟨rfl, trivial⟩
theorem kind_eq (op size reg m r e sub : Int) (k : Nat) : spec_GoodIns.j0 (k + 3) false op size reg m r e sub = impl_isKind.f (k + 3) op size reg m r e sub := by
  by_cases h : 1 ≤ op ∧ op ≤ 19
  · have : op = 1 ∨ op = 2 ∨ op = 3 ∨ op = 4 ∨ op = 5 ∨ op = 6 ∨ op = 7 ∨ op = 8 ∨ op = 9 ∨ op = 10 ∨ op = 11 ∨ op = 12 ∨ op = 13 ∨ op = 14 ∨ op = 15 ∨ op = 16 ∨ op = 17 ∨ op = 18 ∨ op = 19 := by omega
    rcases this with rfl | rfl | rfl | rfl | rfl | rfl | rfl | rfl | rfl | rfl | rfl | rfl | rfl | rfl | rfl | rfl | rfl | rfl | rfl
    all_goals
      simp only [spec_GoodIns.j0, spec_GoodIns.j1, spec_GoodIns.j2, impl_isKind.f, impl_isKind.j0, impl_isKind.j1, impl_isFlow.f, impl_isFlow.j0, impl_isNow.f, impl_isPlain.f, impl_isSettable.f, impl_isMemory.f, spec_l7Memory.f, spec_l7Plain.f, spec_l7Now.f, spec_l7Zero.f, sin, iin, ite_bind, Option.bind_some, Int.reduceEq, Int.reduceBEq, if_true, if_false, Bool.false_eq_true, beq_iff_eq, decide_eq_true_eq, Bool.and_eq_true]
      repeat' split
      all_goals first
        | rfl
        | (exfalso; omega)
        | (refine congrArg some ?_; rw [Bool.eq_iff_iff]; simp only [decide_eq_true_eq, beq_iff_eq, bne_iff_ne, ne_eq, Bool.and_eq_true, Bool.false_eq_true, false_iff, true_iff, iff_true, iff_false, eq_self] <;> omega)
  · have e1 : op ≠ 1 := by omega
    have e2 : op ≠ 2 := by omega
    have e3 : op ≠ 3 := by omega
    have e4 : op ≠ 4 := by omega
    have e5 : op ≠ 5 := by omega
    have e6 : op ≠ 6 := by omega
    have e7 : op ≠ 7 := by omega
    have e8 : op ≠ 8 := by omega
    have e9 : op ≠ 9 := by omega
    have e10 : op ≠ 10 := by omega
    have e11 : op ≠ 11 := by omega
    have e12 : op ≠ 12 := by omega
    have e13 : op ≠ 13 := by omega
    have e14 : op ≠ 14 := by omega
    have e15 : op ≠ 15 := by omega
    have e16 : op ≠ 16 := by omega
    have e17 : op ≠ 17 := by omega
    have e18 : op ≠ 18 := by omega
    have e19 : op ≠ 19 := by omega
    simp [spec_GoodIns.j0, spec_GoodIns.j1, spec_GoodIns.j2, impl_isKind.f, impl_isKind.j0, impl_isKind.j1, *]
/-- An instruction that is right by its Op has one. -/
theorem kind_some (op size reg m r e sub : Int) (k : Nat) : ∃ b, impl_isKind.f (k + 3) op size reg m r e sub = some b ∧ (b = true → 1 ≤ op ∧ op ≤ 19) := by
  by_cases h : 1 ≤ op ∧ op ≤ 19
  · have : op = 1 ∨ op = 2 ∨ op = 3 ∨ op = 4 ∨ op = 5 ∨ op = 6 ∨ op = 7 ∨ op = 8 ∨ op = 9 ∨ op = 10 ∨ op = 11 ∨ op = 12 ∨ op = 13 ∨ op = 14 ∨ op = 15 ∨ op = 16 ∨ op = 17 ∨ op = 18 ∨ op = 19 := by omega
    rcases this with rfl | rfl | rfl | rfl | rfl | rfl | rfl | rfl | rfl | rfl | rfl | rfl | rfl | rfl | rfl | rfl | rfl | rfl | rfl
    all_goals
      simp only [impl_isKind.f, impl_isKind.j0, impl_isKind.j1, impl_isFlow.f, impl_isFlow.j0, impl_isNow.f, impl_isPlain.f, impl_isSettable.f, impl_isMemory.f, iin, ite_bind, Option.bind_some, Int.reduceEq, Int.reduceBEq, if_true, if_false, Bool.false_eq_true, beq_iff_eq, decide_eq_true_eq, Bool.and_eq_true, ← apply_ite some]
      exact ⟨_, rfl, fun _ => by omega⟩
  · have e1 : op ≠ 1 := by omega
    have e2 : op ≠ 2 := by omega
    have e3 : op ≠ 3 := by omega
    have e4 : op ≠ 4 := by omega
    have e5 : op ≠ 5 := by omega
    have e6 : op ≠ 6 := by omega
    have e7 : op ≠ 7 := by omega
    have e8 : op ≠ 8 := by omega
    have e9 : op ≠ 9 := by omega
    have e10 : op ≠ 10 := by omega
    have e11 : op ≠ 11 := by omega
    have e12 : op ≠ 12 := by omega
    have e13 : op ≠ 13 := by omega
    have e14 : op ≠ 14 := by omega
    have e15 : op ≠ 15 := by omega
    have e16 : op ≠ 16 := by omega
    have e17 : op ≠ 17 := by omega
    have e18 : op ≠ 18 := by omega
    have e19 : op ≠ 19 := by omega
    refine ⟨false, ?_, fun h => by cases h⟩
    simp [impl_isKind.f, impl_isKind.j0, impl_isKind.j1, *]
def pre (size reg m r e sub : Int) : Bool := decide ((size = 1 ∨ size = 2) ∧ (0 ≤ reg ∧ reg ≤ 3) ∧ (0 ≤ sub ∧ sub ≤ 7) ∧ gop m r e = true ∧ ¬ (m = 7 ∧ size = 1 ∧ e > 255))
theorem sgood (op size reg m r e sub : Int) (k : Nat) : spec_GoodIns.f (k + 3) op size reg m r e sub = if pre size reg m r e sub = true then spec_GoodIns.j0 (k + 3) false op size reg m r e sub else some false := by
  have hj : spec_GoodIns.j0 (k + 3) true op size reg m r e sub = some false := by simp [spec_GoodIns.j0]
  have hd : ∀ b : Bool, spec_GoodIns.j0 (k + 3) b op size reg m r e sub = if b = true then some false else spec_GoodIns.j0 (k + 3) false op size reg m r e sub := fun b => by cases b <;> simp [hj]
  unfold spec_GoodIns.f spec_l1Size.f
  rw [sgop (k + 2), sin, sin]
  by_cases h1 : size = 1 ∨ size = 2
  · by_cases h2 : 0 ≤ reg ∧ reg ≤ 3
    · by_cases h3 : gop m r e = true
      · by_cases h4 : 0 ≤ sub ∧ sub ≤ 7
        · by_cases h5 : m = 7 ∧ size = 1 ∧ e > 255
          · have hp : pre size reg m r e sub = false := by simp [pre, h5]
            rw [hp]
            obtain ⟨rfl, rfl, h5⟩ := h5
            simp [h2, h3, h4, h5, hj]
          · have hp : pre size reg m r e sub = true := by simp only [pre, decide_eq_true_eq]; exact ⟨h1, h2, h4, h3, h5⟩
            rw [hp, if_pos rfl]
            have hs : (if size = 1 then (some true : Option Bool) else some (size == 2)) = some true := by
              rcases h1 with rfl | rfl <;> rfl
            rw [hs]
            simp only [h2, h3, h4, and_self, decide_true, Option.bind_some, if_true]
            by_cases c7 : m = 7
            · by_cases c1 : size = 1
              · rw [if_pos c7, if_pos c1, hd, if_neg (by simp; omega)]
              · rw [if_pos c7, if_neg c1]
            · rw [if_neg c7]
        · have hp : pre size reg m r e sub = false := by simp only [pre, decide_eq_false_iff_not]; exact fun h => h4 h.2.2.1
          rw [hp]
          rcases h1 with rfl | rfl <;> simp [h2, h3, h4, hj]
      · have hp : pre size reg m r e sub = false := by simp only [pre, decide_eq_false_iff_not]; exact fun h => h3 h.2.2.2.1
        rw [hp]
        rcases h1 with rfl | rfl <;> simp [h2, h3, hj]
    · have hp : pre size reg m r e sub = false := by simp only [pre, decide_eq_false_iff_not]; exact fun h => h2 h.2.1
      rw [hp]
      rcases h1 with rfl | rfl <;> simp [h2, hj]
  · have hp : pre size reg m r e sub = false := by simp only [pre, decide_eq_false_iff_not]; exact fun h => h1 h.1
    rw [hp]
    have c1 : size ≠ 1 := fun h => h1 (.inl h)
    have c2 : size ≠ 2 := fun h => h1 (.inr h)
    simp [c1, c2, hj]
theorem igood (op size reg m r e sub : Int) (k : Nat) : impl_GoodIns.f (k + 3) op size reg m r e sub = if pre size reg m r e sub = true then impl_isKind.f (k + 3) op size reg m r e sub else some false := by
  obtain ⟨b, hb, _⟩ := kind_some op size reg m r e sub k
  unfold impl_GoodIns.f impl_isSize.f
  rw [igop, iin, iin, hb]
  by_cases h1 : size = 1 ∨ size = 2
  · have hs : (if size = 1 then (some true : Option Bool) else some (size == 2)) = some true := by
      rcases h1 with rfl | rfl <;> rfl
    rw [hs]
    by_cases h2 : 0 ≤ reg ∧ reg ≤ 3
    · by_cases h4 : 0 ≤ sub ∧ sub ≤ 7
      · by_cases h3 : gop m r e = true
        · simp only [h2, h3, h4, and_self, decide_true, Option.bind_some, if_true]
          by_cases h5 : m = 7 ∧ size = 1 ∧ e > 255
          · have hp : pre size reg m r e sub = false := by simp [pre, h5]
            rw [hp, if_pos h5.1, if_pos h5.2.1, if_pos h5.2.2]
            rfl
          · have hp : pre size reg m r e sub = true := by simp only [pre, decide_eq_true_eq]; exact ⟨h1, h2, h4, h3, h5⟩
            rw [hp, if_pos rfl]
            by_cases c7 : m = 7
            · by_cases c1 : size = 1
              · rw [if_pos c7, if_pos c1, if_neg (by omega)]
              · rw [if_pos c7, if_neg c1]
            · rw [if_neg c7]
        · have hp : pre size reg m r e sub = false := by simp only [pre, decide_eq_false_iff_not]; exact fun h => h3 h.2.2.2.1
          rw [hp]
          simp [h2, h3, h4]
      · have hp : pre size reg m r e sub = false := by simp only [pre, decide_eq_false_iff_not]; exact fun h => h4 h.2.2.1
        rw [hp]
        simp [h2, h4]
    · have hp : pre size reg m r e sub = false := by simp only [pre, decide_eq_false_iff_not]; exact fun h => h2 h.2.1
      rw [hp]
      simp [h2]
  · have hp : pre size reg m r e sub = false := by simp only [pre, decide_eq_false_iff_not]; exact fun h => h1 h.1
    rw [hp]
    have c1 : size ≠ 1 := fun h => h1 (.inl h)
    have c2 : size ≠ 2 := fun h => h1 (.inr h)
    simp [c1, c2]
/-- Both sides' GoodIns, at any three rounds or more; and what it is good for. -/
theorem good_eq (op size reg m r e sub : Int) (k : Nat) : ∃ b, spec_GoodIns.f (k + 3) op size reg m r e sub = some b ∧ impl_GoodIns.f (k + 3) op size reg m r e sub = some b ∧
    (b = true → (1 ≤ op ∧ op ≤ 19) ∧ (size = 1 ∨ size = 2) ∧ (0 ≤ reg ∧ reg ≤ 3) ∧ (0 ≤ sub ∧ sub ≤ 7) ∧ (0 ≤ m ∧ m ≤ 7) ∧ (0 ≤ r ∧ r ≤ 3) ∧ (0 ≤ e ∧ e ≤ 65535)) := by
  rw [sgood, igood, kind_eq]
  obtain ⟨b, hb, ho⟩ := kind_some op size reg m r e sub k
  rw [hb]
  cases hp : pre size reg m r e sub
  · exact ⟨false, rfl, rfl, fun h => by cases h⟩
  · refine ⟨b, rfl, rfl, fun h => ?_⟩
    have h' := of_decide_eq_true hp
    have g := gop_of h'.2.2.2.1
    exact ⟨ho h, h'.1, h'.2.1, h'.2.2.1, g.1, g.2.1, g.2.2.2.1⟩

theorem wnat {i : Nat} (h : i < 4611686018427387904) : wrap64 ((i : Int) + 1) = ((i + 1 : Nat) : Int) := by unfold wrap64; omega
theorem rd_nat (l : List Int) (i : Nat) : rd l (i : Int) = l.getD i 0 := by unfold rd; rw [Int.toNat_natCast]

theorem toI_loop (l : List Int) (hm : l.length ≤ 4611686018427387000) : ∀ (d k i : Nat) (out : List Int), out.length = l.length → i ≤ l.length → (∀ j, j < i → out[j]? = l[j]?) → l.length - i = d → d < k → laws_toIntS.l0 k l out (i : Int) = some l := by
  intro d
  induction d with
  | zero =>
    intro k i out ho hi hj hd hk
    obtain ⟨k, rfl⟩ : ∃ m, k = m + 1 := ⟨k - 1, by omega⟩
    simp only [laws_toIntS.l0]
    rw [if_neg (by omega)]
    congr 1
    refine List.ext_getElem? fun j => ?_
    by_cases h : j < l.length
    · exact hj j (by omega)
    · rw [List.getElem?_eq_none (by omega), List.getElem?_eq_none (by omega)]
  | succ d ih =>
    intro k i out ho hi hj hd hk
    obtain ⟨k, rfl⟩ : ∃ m, k = m + 1 := ⟨k - 1, by omega⟩
    simp only [laws_toIntS.l0]
    rw [if_pos (by omega), if_pos (by omega), if_pos (by omega), wnat (by omega), rd_nat, Int.toNat_natCast]
    refine ih k (i + 1) _ (by rw [List.length_set]; exact ho) (by omega) ?_ (by omega) (by omega)
    intro j hj'
    by_cases e : j = i
    · subst e
      rw [List.getElem?_set_self (by omega), List.getElem?_eq_getElem (by omega)]
      simp [List.getD, List.getElem?_eq_getElem (show j < l.length by omega)]
    · rw [List.getElem?_set_ne (by omega)]
      exact hj j (by omega)
theorem toI (l : List Int) (k : Nat) (hm : l.length ≤ 1048576) (hk : l.length < k) : laws_toIntS.f k l = some l := by
  unfold laws_toIntS.f
  rw [if_pos (by omega), if_pos (by omega)]
  exact toI_loop l (by omega) l.length k 0 _ (by simp) (by omega) (fun j hj => by omega) (by omega) hk

theorem eqI_loop (l : List Int) (hm : l.length ≤ 4611686018427387000) : ∀ (d k i : Nat), i ≤ l.length → l.length - i = d → d < k → laws_eqIntS.l0 k l l (i : Int) = some true := by
  intro d
  induction d with
  | zero =>
    intro k i hi hd hk
    obtain ⟨k, rfl⟩ : ∃ m, k = m + 1 := ⟨k - 1, by omega⟩
    simp only [laws_eqIntS.l0]
    rw [if_neg (by omega)]
  | succ d ih =>
    intro k i hi hd hk
    obtain ⟨k, rfl⟩ : ∃ m, k = m + 1 := ⟨k - 1, by omega⟩
    simp only [laws_eqIntS.l0]
    rw [if_pos (by omega), if_pos (by omega), if_pos (by omega), if_pos trivial, wnat (by omega)]
    exact ih k (i + 1) (by omega) (by omega) (by omega)
theorem eqI (l : List Int) (k : Nat) (hm : l.length ≤ 1048576) (hk : l.length < k) : laws_eqIntS.f k l l = some true := by
  unfold laws_eqIntS.f
  rw [if_pos rfl]
  exact eqI_loop l (by omega) l.length k 0 (by omega) (by omega) hk

theorem markI_loop (m : Int) (h0 : 0 ≤ m) (h1 : m ≤ 1000000000) (n : Nat) (hn : n ≤ 1048576) : ∀ (d k i : Nat) (L : List Int), L.length = n → i ≤ n → (∀ j, j < i → L[j]? = some (m + j)) → n - i = d → d < k →
    ∃ L', laws_markIntS.l0 k L (m + i) (i : Int) = some (m + n, L') ∧ L'.length = n ∧ ∀ j, j < n → L'[j]? = some (m + j) := by
  intro d
  induction d with
  | zero =>
    intro k i L hl hi hj hd hk
    obtain ⟨k, rfl⟩ : ∃ m, k = m + 1 := ⟨k - 1, by omega⟩
    simp only [laws_markIntS.l0]
    rw [if_neg (by omega)]
    exact ⟨L, by rw [show i = n from by omega], hl, fun j hj' => hj j (by omega)⟩
  | succ d ih =>
    intro k i L hl hi hj hd hk
    obtain ⟨k, rfl⟩ : ∃ m, k = m + 1 := ⟨k - 1, by omega⟩
    simp only [laws_markIntS.l0]
    rw [if_pos (by omega), if_pos (by omega), wnat (by omega), Int.toNat_natCast, show wrap64 (m + i + 1) = m + ((i + 1 : Nat) : Int) from by unfold wrap64; omega]
    refine ih k (i + 1) _ (by rw [List.length_set]; exact hl) (by omega) ?_ (by omega) (by omega)
    intro j hj'
    by_cases e : j = i
    · subst e
      rw [List.getElem?_set_self (by omega)]
    · rw [List.getElem?_set_ne (by omega)]
      exact hj j (by omega)
theorem markI0 (l : List Int) (k : Nat) (m : Int) (h0 : 0 ≤ m) (h1 : m ≤ 1000000000) (hm : l.length ≤ 1048576) (hk : l.length < k) : ∃ L, laws_markIntS.f k l m = some (m + l.length, L) ∧ L.length = l.length := by
  have h := markI_loop m h0 h1 l.length hm l.length k 0 l rfl (by omega) (fun j hj => by omega) (by omega) hk
  rw [show m + ((0 : Nat) : Int) = m from by omega] at h
  obtain ⟨L, e, hl, _⟩ := h
  exact ⟨L, e, hl⟩

theorem long_eq (a : Int) : impl_longOf.f a = spec_l7Long.f a := by
  unfold impl_longOf.f spec_l7Long.f impl_needsExt.f spec_l6Ext.f impl_flag.f
  rw [and7]
  have h0 : 0 ≤ a / 32 % 8 := by omega
  have h1 : a / 32 % 8 ≤ 7 := by omega
  generalize a / 32 % 8 = q at h0 h1
  have : q = 0 ∨ q = 1 ∨ q = 2 ∨ q = 3 ∨ q = 4 ∨ q = 5 ∨ q = 6 ∨ q = 7 := by omega
  rcases this with rfl | rfl | rfl | rfl | rfl | rfl | rfl | rfl <;> decide +kernel
theorem long_some (a : Int) : ∃ r, spec_l7Long.f a = some r := by
  unfold spec_l7Long.f spec_l6Ext.f
  simp only [Option.bind_some]
  split <;> exact ⟨_, rfl⟩

theorem dec_eq (a b : Int) : ∃ r, spec_l7Decode.f a b = some r ∧ impl_decoded.f a b = some r := by
  unfold spec_l7Decode.f impl_decoded.f
  rw [long_eq]
  obtain ⟨l, hl⟩ := long_some a
  rw [hl, Option.bind_some]
  by_cases c : l = 2
  · rw [if_pos c]
    exact ⟨_, rfl, rfl⟩
  · rw [if_neg c]
    exact ⟨_, rfl, rfl⟩
theorem decode_eq (a b : Int) (k : Nat) : ∃ r, spec_DecodeIns.f (k + 4) a b = some r ∧ impl_DecodeIns.f (k + 4) a b = some r := by
  have hj : spec_DecodeIns.j0 (k + 4) a b true = some (0, 0, 0, 0, 0, 0, 0, 0, false) := by simp [spec_DecodeIns.j0]
  have gj : impl_DecodeIns.j0 (k + 4) a b true = some (0, 0, 0, 0, 0, 0, 0, 0, false) := by simp [impl_DecodeIns.j0]
  unfold spec_DecodeIns.f impl_DecodeIns.f spec_l6Word.f impl_isWord.f
  rw [sin, iin, sin, iin]
  by_cases h1 : 0 ≤ a ∧ a ≤ 65535
  · by_cases h2 : 0 ≤ b ∧ b ≤ 65535
    · simp only [h1, h2, and_self, decide_true, Option.bind_some, if_true, Bool.not_true]
      rw [spec_DecodeIns.j0, impl_DecodeIns.j0, if_neg (by simp), if_neg (by simp)]
      obtain ⟨r, e1, e2⟩ := dec_eq a b
      rw [e1, e2, Option.bind_some, Option.bind_some]
      obtain ⟨g, g1, g2, _⟩ := good_eq r.1 r.2.1 r.2.2.1 r.2.2.2.1 r.2.2.2.2.1 r.2.2.2.2.2.1 r.2.2.2.2.2.2 k
      rw [g1, g2, Option.bind_some, Option.bind_some]
      obtain ⟨l, hl⟩ := long_some a
      cases g
      · exact ⟨_, rfl, rfl⟩
      · rw [long_eq, hl]
        exact ⟨_, rfl, rfl⟩
    · simp only [h1, h2, and_self, decide_true, decide_false, Option.bind_some, if_true, Bool.not_false]
      rw [hj, gj]
      exact ⟨_, rfl, rfl⟩
  · simp only [h1, decide_false, Option.bind_some, if_false, Bool.false_eq_true]
    rw [hj, gj]
    exact ⟨_, rfl, rfl⟩

theorem rdM_nat (l : List S47) (i : Nat) : rd_T47 l (i : Int) = l.getD i z47 := by unfold rd_T47; rw [Int.toNat_natCast]
theorem eqS_loop (l : List S47) (hm : l.length ≤ 4611686018427387000) : ∀ (d k i : Nat), i ≤ l.length → l.length - i = d → d < k → laws_eqInsS.l0 k l l (i : Int) = some true := by
  intro d
  induction d with
  | zero =>
    intro k i hi hd hk
    obtain ⟨k, rfl⟩ : ∃ m, k = m + 1 := ⟨k - 1, by omega⟩
    simp only [laws_eqInsS.l0]
    rw [if_neg (by omega)]
  | succ d ih =>
    intro k i hi hd hk
    obtain ⟨k, rfl⟩ : ∃ m, k = m + 1 := ⟨k - 1, by omega⟩
    simp only [laws_eqInsS.l0, laws_eqIns.f, laws_eqOperand.f, if_true, Option.bind_some]
    rw [if_pos (by omega), if_pos (by omega), if_pos (by omega), wnat (by omega)]
    exact ih k (i + 1) (by omega) (by omega) (by omega)
theorem eqS (l : List S47) (k : Nat) (hm : l.length ≤ 1048576) (hk : l.length < k) : laws_eqInsS.f k l l = some true := by
  unfold laws_eqInsS.f
  rw [if_pos rfl]
  exact eqS_loop l (by omega) l.length k 0 (by omega) (by omega) hk
theorem upto_get (l : List S47) (m : Int) : ∀ i, i ≤ l.length → ∀ j, j < i → (laws_markInsS.upto l m i)[j]? = some (laws_markInsS.el (m + 7 * (j : Int))) := by
  intro i
  induction i with
  | zero => intro _ j hj; omega
  | succ i ih =>
    intro hi j hj
    rw [laws_markInsS.upto]
    by_cases e : j = i
    · subst e
      rw [List.getElem?_set_self (by rw [laws_markInsS.upto_length]; omega)]
    · rw [List.getElem?_set_ne (by omega)]
      exact ih (by omega) j (by omega)
theorem heldS_loop (m : Int) (h0 : 0 ≤ m) (h1 : m ≤ 1000000000) (n : Nat) (hn : n ≤ 1048576) (L : List S47) (hl : L.length = n) (hj : ∀ j, j < n → L[j]? = some (laws_markInsS.el (m + 7 * (j : Int)))) : ∀ (d k i : Nat), i ≤ n → n - i = d → d < k →
    laws_heldInsS.l0 k L (m + 7 * (i : Int)) (i : Int) = some (m + 7 * (n : Int)) := by
  intro d
  induction d with
  | zero =>
    intro k i hi hd hk
    obtain ⟨k, rfl⟩ : ∃ m, k = m + 1 := ⟨k - 1, by omega⟩
    simp only [laws_heldInsS.l0]
    rw [if_neg (by omega), show i = n from by omega]
  | succ d ih =>
    intro k i hi hd hk
    obtain ⟨k, rfl⟩ : ∃ m, k = m + 1 := ⟨k - 1, by omega⟩
    have er : rd_T47 L (i : Int) = laws_markInsS.el (m + 7 * (i : Int)) := by
      rw [rdM_nat, List.getD_eq_getElem?_getD, hj i (by omega)]
      rfl
    have hb0 : 0 ≤ m + 7 * (i : Int) := by omega
    have hb1 : m + 7 * (i : Int) ≤ 1100000000 := by omega
    have ih' := ih k (i + 1) (by omega) (by omega) (by omega)
    rw [show m + 7 * ((i + 1 : Nat) : Int) = m + 7 * (i : Int) + 1 + 1 + 1 + 1 + 1 + 1 + 1 from by omega] at ih'
    simp only [laws_heldInsS.l0]
    rw [if_pos (by omega), if_pos (by omega), er, wnat (by omega)]
    generalize m + 7 * (i : Int) = M at hb0 hb1 ih'
    have w1 : ∀ x : Int, 0 ≤ x → x ≤ 1200000000 → wrap64 (x + 1) = x + 1 := fun x _ _ => by unfold wrap64; omega
    rw [w1 M (by omega) (by omega), w1 (M + 1) (by omega) (by omega), w1 (M + 1 + 1) (by omega) (by omega), w1 (M + 1 + 1 + 1) (by omega) (by omega), w1 (M + 1 + 1 + 1 + 1) (by omega) (by omega), w1 (M + 1 + 1 + 1 + 1 + 1) (by omega) (by omega), w1 (M + 1 + 1 + 1 + 1 + 1 + 1) (by omega) (by omega)]
    unfold laws_markInsS.el
    simp only [if_true]
    exact ih'
/-- A list of instructions that is marked, and held so. -/
theorem markS (l : List S47) (m : Int) (h0 : 0 ≤ m) (h1 : m ≤ 1000000000) (hm : l.length ≤ 1048576) :
    ∃ L, laws_markInsS.f l m = some (m + 7 * (l.length : Int), L) ∧ L.length = l.length ∧ ∀ k', l.length < k' → laws_heldInsS.f k' L m = some (m + 7 * (l.length : Int)) := by
  unfold laws_markInsS.f
  rw [if_pos ⟨h0, h1, hm⟩]
  refine ⟨_, rfl, laws_markInsS.upto_length l m _, fun k' hk' => ?_⟩
  have g := heldS_loop m h0 h1 l.length hm (laws_markInsS.upto l m l.length) (laws_markInsS.upto_length l m _) (upto_get l m l.length (by omega)) l.length k' 0 (by omega) (by omega) hk'
  rw [show m + 7 * ((0 : Nat) : Int) = m from by omega] at g
  exact g

theorem dec_ok (a b : Int) (k : Nat) (r : Int × Int × Int × Int × Int × Int × Int × Int × Bool) (h : spec_DecodeIns.f (k + 4) a b = some r) (ho : r.2.2.2.2.2.2.2.2 = true) : (0 ≤ b ∧ b ≤ 65535) ∧ spec_l7Long.f a = some r.2.2.2.2.2.2.2.1 := by
  have hj : spec_DecodeIns.j0 (k + 4) a b true = some (0, 0, 0, 0, 0, 0, 0, 0, false) := by simp [spec_DecodeIns.j0]
  unfold spec_DecodeIns.f spec_l6Word.f at h
  rw [sin, sin] at h
  by_cases h1 : 0 ≤ a ∧ a ≤ 65535
  · by_cases h2 : 0 ≤ b ∧ b ≤ 65535
    · refine ⟨h2, ?_⟩
      simp only [h1, h2, and_self, decide_true, Option.bind_some, if_true, Bool.not_true] at h
      rw [spec_DecodeIns.j0, if_neg (by simp)] at h
      obtain ⟨r', e1, e2⟩ := dec_eq a b
      rw [e1, Option.bind_some] at h
      obtain ⟨g, g1, g2, _⟩ := good_eq r'.1 r'.2.1 r'.2.2.1 r'.2.2.2.1 r'.2.2.2.2.1 r'.2.2.2.2.2.1 r'.2.2.2.2.2.2 k
      rw [g1, Option.bind_some] at h
      obtain ⟨l, hl⟩ := long_some a
      cases g
      · rw [if_neg (by simp)] at h
        obtain rfl := Option.some.inj h
        cases ho
      · rw [if_pos rfl, hl, Option.bind_some] at h
        obtain rfl := Option.some.inj h
        exact hl
    · simp only [h1, h2, and_self, decide_true, decide_false, Option.bind_some, if_true, Bool.not_false] at h
      rw [hj] at h
      obtain rfl := Option.some.inj h
      cases ho
  · simp only [h1, decide_false, Option.bind_some, if_false, Bool.false_eq_true] at h
    rw [hj] at h
    obtain rfl := Option.some.inj h
    cases ho
theorem dec_x (a b : Int) : ∃ r, (∀ k, 4 ≤ k → spec_DecodeIns.f k a b = some r) ∧ impl_DecodeIns.f 9 a b = some r ∧ (r.2.2.2.2.2.2.2.2 = true → (0 ≤ b ∧ b ≤ 65535) ∧ spec_l7Long.f a = some r.2.2.2.2.2.2.2.1) := by
  obtain ⟨r, s1, _⟩ := decode_eq a b 0
  obtain ⟨r', s2, i2⟩ := decode_eq a b 5
  have e : r' = r := by
    have := at_rounds (fun k => spec_DecodeIns.mono a b k) (show 0 + 4 ≤ 5 + 4 by omega) s1
    rw [s2] at this
    exact Option.some.inj this
  subst e
  exact ⟨r', fun k hk => at_rounds (fun k => spec_DecodeIns.mono a b k) (show 0 + 4 ≤ k by omega) s1, i2, fun h => dec_ok a b 0 r' s1 h⟩
theorem long_or (a : Int) : spec_l7Long.f a = some 1 ∨ spec_l7Long.f a = some 2 := by
  unfold spec_l7Long.f spec_l6Ext.f
  simp only [Option.bind_some]
  split
  · exact .inr rfl
  · exact .inl rfl
theorem word_bad (v : Int) : spec_l6Word.f v = some (!impl_DecodeAll.bad v) := by
  unfold spec_l6Word.f impl_DecodeAll.bad
  rw [sin, Option.bind_some, Bool.not_not]
theorem all_end (l : List Int) (k m i : Nat) (acc : List S47) (hi : l.length ≤ i) : spec_DecodeAll.l0 (k + 1) l acc (i : Int) = some (acc, true) ∧ impl_DecodeAll.dec l (m + 1) i acc = some (acc, true) := by
  simp only [spec_DecodeAll.l0, impl_DecodeAll.dec]
  exact ⟨by rw [if_neg (by omega)], by rw [if_neg (by omega)]⟩
theorem all_loop (l : List Int) (hm : l.length ≤ 80) : ∀ (d k i : Nat) (acc : List S47), i ≤ l.length → acc.length ≤ i → l.length - i ≤ d → d + 5 < k →
    ∃ q, spec_DecodeAll.l0 k l acc (i : Int) = some q ∧ q.1.length ≤ 80 ∧ ((l.drop i).any impl_DecodeAll.bad = true → q = ([], false)) ∧ ((l.drop i).any impl_DecodeAll.bad = false → ∀ m, d < m → impl_DecodeAll.dec l m i acc = some q) := by
  intro d
  induction d with
  | zero =>
    intro k i acc hi ha hd hk
    obtain ⟨k, rfl⟩ : ∃ m, k = m + 1 := ⟨k - 1, by omega⟩
    refine ⟨_, (all_end l k 0 i acc (by omega)).1, by show acc.length ≤ 80; omega, fun h => ?_, fun _ m hm => ?_⟩
    · rw [List.drop_eq_nil_of_le (by omega)] at h
      simp at h
    · obtain ⟨m, rfl⟩ : ∃ n, m = n + 1 := ⟨m - 1, by omega⟩
      exact (all_end l k m i acc (by omega)).2
  | succ d ih =>
    intro k i acc hi ha hd hk
    obtain ⟨k, rfl⟩ : ∃ m, k = m + 1 := ⟨k - 1, by omega⟩
    by_cases hlt : i < l.length
    · have er : rd l (i : Int) = l[i] := by
        rw [rd_nat, List.getD_eq_getElem?_getD, List.getElem?_eq_getElem hlt]
        rfl
      have eg : l.getD i 0 = l[i] := by
        rw [List.getD_eq_getElem?_getD, List.getElem?_eq_getElem hlt]
        rfl
      have eI : ∀ m, impl_DecodeAll.dec l (m + 1) i acc = (impl_longOf.f l[i]).bind fun t => (impl_DecodeAll.one l i t).bind fun r => match r with
          | none => some ([], false)
          | some q => if 1 ≤ q.2 ∧ q.2 ≤ 2 ∧ acc.length < 1000 then impl_DecodeAll.dec l m (i + q.2.toNat) (acc ++ [q.1]) else none := fun m => by
        rw [impl_DecodeAll.dec, if_pos hlt, eg]
        rfl
      simp only [spec_DecodeAll.l0]
      rw [if_pos (by omega), if_pos (by omega), er, word_bad, Option.bind_some, List.drop_eq_getElem_cons hlt, List.any_cons]
      cases hb : impl_DecodeAll.bad l[i]
      · rw [Bool.not_false, if_pos rfl, Bool.false_or]
        rcases long_or l[i] with ht | ht
        · -- one word
          rw [ht, Option.bind_some, if_neg (by omega)]
          obtain ⟨r, s1, i1, hr⟩ := dec_x l[i] 0
          rw [s1 k (by omega), Option.bind_some]
          cases ho : r.2.2.2.2.2.2.2.2
          · rw [if_neg (by simp)]
            refine ⟨_, rfl, by simp, fun _ => rfl, fun _ m hm' => ?_⟩
            obtain ⟨m, rfl⟩ : ∃ n, m = n + 1 := ⟨m - 1, by omega⟩
            rw [eI, long_eq, ht]
            simp [impl_DecodeAll.one, impl_DecodeAll.nx, List.getElem?_eq_getElem hlt, i1, ho]
          · obtain ⟨_, hn⟩ := hr ho
            rw [ht] at hn
            have hn := (Option.some.inj hn).symm
            rw [if_pos rfl, if_pos (by omega), hn, wnat (by omega)]
            obtain ⟨q, h1, h2, h3, h4⟩ := ih k (i + 1) (acc ++ [⟨r.1, r.2.1, r.2.2.1, ⟨r.2.2.2.1, r.2.2.2.2.1, r.2.2.2.2.2.1⟩, r.2.2.2.2.2.2.1⟩]) (by omega) (by rw [List.length_append, List.length_singleton]; omega) (by omega) (by omega)
            refine ⟨q, h1, h2, h3, fun h m hm' => ?_⟩
            obtain ⟨m, rfl⟩ : ∃ n, m = n + 1 := ⟨m - 1, by omega⟩
            have h5 := h4 h m (by omega)
            rw [eI, long_eq, ht]
            simp only [impl_DecodeAll.one, impl_DecodeAll.nx, eg, i1, ho, hn, Option.bind_some, Option.map_some, if_true, show ¬ ((1 : Int) = 2) from by omega, if_false]
            rw [if_pos ⟨by omega, by omega, by omega⟩]
            exact h5
        · -- two words
          rw [ht, Option.bind_some, if_pos rfl, wnat (by omega)]
          by_cases hend : i + 1 = l.length
          · rw [if_pos (by omega)]
            refine ⟨_, rfl, by simp, fun _ => rfl, fun _ m hm' => ?_⟩
            obtain ⟨m, rfl⟩ : ∃ n, m = n + 1 := ⟨m - 1, by omega⟩
            rw [eI, long_eq, ht]
            simp [impl_DecodeAll.one, impl_DecodeAll.nx, hend]
          · have hlt2 : i + 1 < l.length := by omega
            have er2 : rd l ((i + 1 : Nat) : Int) = l[i + 1] := by
              rw [rd_nat, List.getD_eq_getElem?_getD, List.getElem?_eq_getElem hlt2]
              rfl
            have eg2 : l.getD (i + 1) 0 = l[i + 1] := by
              rw [List.getD_eq_getElem?_getD, List.getElem?_eq_getElem hlt2]
              rfl
            rw [if_neg (by omega), if_pos (by omega), if_pos (by omega), er2]
            obtain ⟨r, s1, i1, hr⟩ := dec_x l[i] l[i + 1]
            rw [s1 k (by omega), Option.bind_some]
            cases ho : r.2.2.2.2.2.2.2.2
            · rw [if_neg (by simp)]
              refine ⟨_, rfl, by simp, fun _ => rfl, fun _ m hm' => ?_⟩
              obtain ⟨m, rfl⟩ : ∃ n, m = n + 1 := ⟨m - 1, by omega⟩
              rw [eI, long_eq, ht]
              simp only [impl_DecodeAll.one, impl_DecodeAll.nx, eg, eg2, i1, ho, Option.bind_some, Option.map_some, if_true, if_false, hend, Bool.false_eq_true]
            · obtain ⟨hw, hn⟩ := hr ho
              rw [ht] at hn
              have hn := (Option.some.inj hn).symm
              rw [if_pos rfl, if_pos (by omega), hn, show wrap64 ((i : Int) + 2) = ((i + 2 : Nat) : Int) from by unfold wrap64; omega]
              obtain ⟨q, h1, h2, h3, h4⟩ := ih k (i + 2) (acc ++ [⟨r.1, r.2.1, r.2.2.1, ⟨r.2.2.2.1, r.2.2.2.2.1, r.2.2.2.2.2.1⟩, r.2.2.2.2.2.2.1⟩]) (by omega) (by rw [List.length_append, List.length_singleton]; omega) (by omega) (by omega)
              have hb2 : impl_DecodeAll.bad l[i + 1] = false := by
                unfold impl_DecodeAll.bad
                rw [decide_eq_true hw]
                rfl
              rw [List.drop_eq_getElem_cons hlt2, List.any_cons, hb2, Bool.false_or]
              refine ⟨q, h1, h2, h3, fun h m hm' => ?_⟩
              obtain ⟨m, rfl⟩ : ∃ n, m = n + 1 := ⟨m - 1, by omega⟩
              have h5 := h4 h m (by omega)
              rw [eI, long_eq, ht]
              simp only [impl_DecodeAll.one, impl_DecodeAll.nx, eg, eg2, i1, ho, hn, Option.bind_some, Option.map_some, if_true, if_false, hend]
              rw [if_pos ⟨by omega, by omega, by omega⟩]
              exact h5
      · rw [Bool.not_true, if_neg (by simp), Bool.true_or]
        exact ⟨_, rfl, by simp, fun _ => rfl, fun h => by cases h⟩
    · refine ⟨_, (all_end l k 0 i acc (by omega)).1, by show acc.length ≤ 80; omega, fun h => ?_, fun _ m hm => ?_⟩
      · rw [List.drop_eq_nil_of_le (by omega)] at h
        simp at h
      · obtain ⟨m, rfl⟩ : ∃ n, m = n + 1 := ⟨m - 1, by omega⟩
        exact (all_end l k m i acc (by omega)).2
theorem decodeAll_eq (l : List Int) (k : Nat) (hk : 90 < k) : ∃ q, q.1.length ≤ 80 ∧ spec_DecodeAll.f k l = some q ∧ impl_DecodeAll.f l = some q := by
  unfold spec_DecodeAll.f impl_DecodeAll.f
  by_cases c : 80 < l.length
  · exact ⟨([], false), by simp, by rw [if_pos (by omega)], by rw [if_pos (by omega)]⟩
  · obtain ⟨q, h1, h2, h3, h4⟩ := all_loop l (by omega) 80 k 0 [] (by omega) (by simp) (by omega) (by omega)
    rw [List.drop_zero] at h3 h4
    refine ⟨q, h2, ?_, ?_⟩
    · rw [if_neg (by omega)]
      exact h1
    · rw [if_neg (by omega)]
      cases hb : l.any impl_DecodeAll.bad
      · rw [if_neg (by simp)]
        exact h4 hb 100 (by omega)
      · rw [if_pos rfl, h3 hb]
theorem FnExactDecodeAll : laws_FnExactDecodeAll.Pure := by
  intro l _ _ _
  refine ⟨l.length + 200, ?_⟩
  unfold laws_FnExactDecodeAll.f
  by_cases c : (l.length : Int) > 1048576
  · rw [if_pos c]
  · rw [if_neg c]
    have h3 : l.length ≤ 1048576 := by omega
    have tb : ∀ k, l.length + 150 ≤ k → laws_toIntS.f k l = some l := fun k hk => toI l k h3 (by omega)
    have eb : ∀ k, l.length + 150 ≤ k → laws_eqIntS.f k l l = some true := fun k hk => eqI l k h3 (by omega)
    generalize hK : l.length + 200 = K
    obtain ⟨q, hq, s1, i1⟩ := decodeAll_eq l K (by omega)
    have er : ∀ k, l.length + 150 ≤ k → laws_eqInsS.f k q.1 q.1 = some true := fun k hk => eqS q.1 k (by omega) (by omega)
    rw [tb K (by omega), Option.bind_some, s1, Option.bind_some, Option.bind_some, i1, Option.bind_some, er K (by omega), Option.bind_some, if_pos rfl]
    rw [show (q.2 != q.2) = false from by simp]
    obtain ⟨K, rfl⟩ : ∃ m, K = m + 3 := ⟨K - 3, by omega⟩
    obtain ⟨La, ma1, _⟩ := markI0 l (K + 2) 1 (by omega) (by omega) h3 (by omega)
    rw [laws_FnExactDecodeAll.j0, if_neg (by simp), tb _ (by omega), Option.bind_some, eb _ (by omega), Option.bind_some, if_pos rfl, ma1, Option.bind_some, if_neg (by show ¬ ((1 : Int) + (l.length : Int) < 0); omega), er _ (by omega), Option.bind_some, if_pos rfl]
    rw [show (q.2 != q.2) = false from by simp]
    obtain ⟨Lr, mr1, _, hr1⟩ := markS q.1 1 (by omega) (by omega) (by omega)
    rw [laws_FnExactDecodeAll.j1, if_neg (by simp), mr1, Option.bind_some, hr1 _ (by omega), Option.bind_some, if_neg (by omega), if_pos rfl, tb _ (by omega), Option.bind_some, i1, Option.bind_some, er _ (by omega), Option.bind_some, if_pos rfl]
    rw [show (q.2 != q.2) = false from by simp]
    rw [laws_FnExactDecodeAll.j2, if_neg (by simp), hr1 _ (by omega), Option.bind_some, if_neg (by omega), if_pos rfl]
end Go.Proofs.Ytnopjkkglanlfaa.Pure
