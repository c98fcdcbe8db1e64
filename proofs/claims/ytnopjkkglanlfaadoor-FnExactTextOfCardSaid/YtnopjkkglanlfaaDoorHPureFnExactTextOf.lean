/- FnExactTextOf, the plain law: the program's and the reference's TextOf answer alike at every instruction: both write the same decimal numerals. -/
import Derived.Test.YtnopjkkglanlfaaDoorHFnExactTextOfx
import Derived.Test.YtnopjkkglanlfaaDoorBits
namespace Go.Proofs.YtnopjkkglanlfaaDoor.Pure
open Go.RowKit Go.Proofs.YtnopjkkglanlfaaDoor.HFnExactTextOf Go.Proofs.YtnopjkkglanlfaaDoorW.PrintWords Go.Proofs.YtnopjkkglanlfaaDoorW.PrintLast Go.Proofs.YtnopjkkglanlfaaDoor.Bt
set_option linter.unusedVariables false
set_option linter.unusedSimpArgs false

theorem sin (a b c : Int) : spec_l1In.f a b c = some (decide (b ≤ a ∧ a ≤ c)) := by
  unfold spec_l1In.f
  by_cases h : b ≤ a <;> simp [h]
theorem iin (a b c : Int) : impl_within.f a b c = some (decide (b ≤ a ∧ a ≤ c)) := by
  unfold impl_within.f
  by_cases h : b ≤ a <;> simp [h]

def gop (m r e : Int) : Bool := decide ((0 ≤ m ∧ m ≤ 7) ∧ (0 ≤ r ∧ r ≤ 3) ∧ (m ≥ 6 → r = 0) ∧ (0 ≤ e ∧ e ≤ 65535) ∧ (m ≥ 5 ∨ e = 0))
theorem gop_of {m r e : Int} (h : gop m r e = true) : (0 ≤ m ∧ m ≤ 7) ∧ (0 ≤ r ∧ r ≤ 3) ∧ (m ≥ 6 → r = 0) ∧ (0 ≤ e ∧ e ≤ 65535) ∧ (m ≥ 5 ∨ e = 0) := of_decide_eq_true h
theorem sgop (k : Nat) (m r e : Int) : spec_GoodOperand.f (k + 1) m r e = some (gop m r e) := by
  unfold spec_GoodOperand.f
  simp only [sin, Option.bind_some, spec_GoodOperand.j0, spec_l6Word.f, spec_l6Ext.f, decide_eq_true_eq, bne_iff_ne, ne_eq, if_true, if_false, Bool.false_eq_true]
  repeat' split
  all_goals
    refine congrArg some ?_
    rw [Bool.eq_iff_iff]
    simp only [gop, decide_eq_true_eq, beq_iff_eq, Bool.false_eq_true, false_iff, true_iff]
    omega
theorem igop (m r e : Int) : impl_GoodOperand.f m r e = some (gop m r e) := by
  unfold impl_GoodOperand.f
  simp only [iin, Option.bind_some, impl_isWord.f, impl_needsExt.f, ite_bind, decide_eq_true_eq, bne_iff_ne, ne_eq, beq_iff_eq, if_true, if_false, Bool.false_eq_true]
  repeat' split
  all_goals
    refine congrArg some ?_
    rw [Bool.eq_iff_iff]
    simp only [gop, decide_eq_true_eq, beq_iff_eq, Bool.false_eq_true, false_iff, true_iff]
    omega

theorem lits : ((1 : Int) == 1) = true ∧ True := ⟨rfl, trivial⟩
theorem kind_eq (op size reg m r e sub : Int) (k : Nat) : spec_GoodIns.j0 (k + 3) false op size reg m r e sub = impl_isKind.f (k + 3) op size reg m r e sub := by
  by_cases h : 1 ≤ op ∧ op ≤ 19
  · have : op = 1 ∨ op = 2 ∨ op = 3 ∨ op = 4 ∨ op = 5 ∨ op = 6 ∨ op = 7 ∨ op = 8 ∨ op = 9 ∨ op = 10 ∨ op = 11 ∨ op = 12 ∨ op = 13 ∨ op = 14 ∨ op = 15 ∨ op = 16 ∨ op = 17 ∨ op = 18 ∨ op = 19 := by omega
    rcases this with rfl | rfl | rfl | rfl | rfl | rfl | rfl | rfl | rfl | rfl | rfl | rfl | rfl | rfl | rfl | rfl | rfl | rfl | rfl
    all_goals
      simp only [spec_GoodIns.j0, spec_GoodIns.j1, spec_GoodIns.j2, impl_isKind.f, impl_isKind.j0, impl_isKind.j1, impl_isFlow.f, impl_isFlow.j0, impl_isNow.f, impl_isPlain.f, impl_isSettable.f, impl_isMemory.f, spec_l7Memory.f, spec_l7Plain.f, spec_l7Now.f, spec_l7Zero.f, sin, iin, ite_bind, Option.bind_some, Int.reduceEq, Int.reduceBEq, if_true, if_false, Bool.false_eq_true, beq_iff_eq, decide_eq_true_eq, Bool.and_eq_true]
      repeat' split
      all_goals first
        | rfl
        | (exfalso; omega)
        | (refine congrArg some ?_; rw [Bool.eq_iff_iff]; simp only [decide_eq_true_eq, beq_iff_eq, bne_iff_ne, ne_eq, Bool.and_eq_true, Bool.false_eq_true, false_iff, true_iff, iff_true, iff_false, eq_self] <;> omega)
  · have e1 : op ≠ 1 := by omega
    have e2 : op ≠ 2 := by omega
    have e3 : op ≠ 3 := by omega
    have e4 : op ≠ 4 := by omega
    have e5 : op ≠ 5 := by omega
    have e6 : op ≠ 6 := by omega
    have e7 : op ≠ 7 := by omega
    have e8 : op ≠ 8 := by omega
    have e9 : op ≠ 9 := by omega
    have e10 : op ≠ 10 := by omega
    have e11 : op ≠ 11 := by omega
    have e12 : op ≠ 12 := by omega
    have e13 : op ≠ 13 := by omega
    have e14 : op ≠ 14 := by omega
    have e15 : op ≠ 15 := by omega
    have e16 : op ≠ 16 := by omega
    have e17 : op ≠ 17 := by omega
    have e18 : op ≠ 18 := by omega
    have e19 : op ≠ 19 := by omega
    simp [spec_GoodIns.j0, spec_GoodIns.j1, spec_GoodIns.j2, impl_isKind.f, impl_isKind.j0, impl_isKind.j1, *]
/-- An instruction that is right by its Op has one. -/
theorem kind_some (op size reg m r e sub : Int) (k : Nat) : ∃ b, impl_isKind.f (k + 3) op size reg m r e sub = some b ∧ (b = true → 1 ≤ op ∧ op ≤ 19) := by
  by_cases h : 1 ≤ op ∧ op ≤ 19
  · have : op = 1 ∨ op = 2 ∨ op = 3 ∨ op = 4 ∨ op = 5 ∨ op = 6 ∨ op = 7 ∨ op = 8 ∨ op = 9 ∨ op = 10 ∨ op = 11 ∨ op = 12 ∨ op = 13 ∨ op = 14 ∨ op = 15 ∨ op = 16 ∨ op = 17 ∨ op = 18 ∨ op = 19 := by omega
    rcases this with rfl | rfl | rfl | rfl | rfl | rfl | rfl | rfl | rfl | rfl | rfl | rfl | rfl | rfl | rfl | rfl | rfl | rfl | rfl
    all_goals
      simp only [impl_isKind.f, impl_isKind.j0, impl_isKind.j1, impl_isFlow.f, impl_isFlow.j0, impl_isNow.f, impl_isPlain.f, impl_isSettable.f, impl_isMemory.f, iin, ite_bind, Option.bind_some, Int.reduceEq, Int.reduceBEq, if_true, if_false, Bool.false_eq_true, beq_iff_eq, decide_eq_true_eq, Bool.and_eq_true, ← apply_ite some]
      exact ⟨_, rfl, fun _ => by omega⟩
  · have e1 : op ≠ 1 := by omega
    have e2 : op ≠ 2 := by omega
    have e3 : op ≠ 3 := by omega
    have e4 : op ≠ 4 := by omega
    have e5 : op ≠ 5 := by omega
    have e6 : op ≠ 6 := by omega
    have e7 : op ≠ 7 := by omega
    have e8 : op ≠ 8 := by omega
    have e9 : op ≠ 9 := by omega
    have e10 : op ≠ 10 := by omega
    have e11 : op ≠ 11 := by omega
    have e12 : op ≠ 12 := by omega
    have e13 : op ≠ 13 := by omega
    have e14 : op ≠ 14 := by omega
    have e15 : op ≠ 15 := by omega
    have e16 : op ≠ 16 := by omega
    have e17 : op ≠ 17 := by omega
    have e18 : op ≠ 18 := by omega
    have e19 : op ≠ 19 := by omega
    refine ⟨false, ?_, fun h => by cases h⟩
    simp [impl_isKind.f, impl_isKind.j0, impl_isKind.j1, *]
def pre (size reg m r e sub : Int) : Bool := decide ((size = 1 ∨ size = 2) ∧ (0 ≤ reg ∧ reg ≤ 3) ∧ (0 ≤ sub ∧ sub ≤ 7) ∧ gop m r e = true ∧ ¬ (m = 7 ∧ size = 1 ∧ e > 255))
theorem sgood (op size reg m r e sub : Int) (k : Nat) : spec_GoodIns.f (k + 3) op size reg m r e sub = if pre size reg m r e sub = true then spec_GoodIns.j0 (k + 3) false op size reg m r e sub else some false := by
  have hj : spec_GoodIns.j0 (k + 3) true op size reg m r e sub = some false := by simp [spec_GoodIns.j0]
  have hd : ∀ b : Bool, spec_GoodIns.j0 (k + 3) b op size reg m r e sub = if b = true then some false else spec_GoodIns.j0 (k + 3) false op size reg m r e sub := fun b => by cases b <;> simp [hj]
  unfold spec_GoodIns.f spec_l1Size.f
  rw [sgop (k + 2), sin, sin]
  by_cases h1 : size = 1 ∨ size = 2
  · by_cases h2 : 0 ≤ reg ∧ reg ≤ 3
    · by_cases h3 : gop m r e = true
      · by_cases h4 : 0 ≤ sub ∧ sub ≤ 7
        · by_cases h5 : m = 7 ∧ size = 1 ∧ e > 255
          · have hp : pre size reg m r e sub = false := by simp [pre, h5]
            rw [hp]
            obtain ⟨rfl, rfl, h5⟩ := h5
            simp [h2, h3, h4, h5, hj]
          · have hp : pre size reg m r e sub = true := by simp only [pre, decide_eq_true_eq]; exact ⟨h1, h2, h4, h3, h5⟩
            rw [hp, if_pos rfl]
            have hs : (if size = 1 then (some true : Option Bool) else some (size == 2)) = some true := by
              rcases h1 with rfl | rfl <;> rfl
            rw [hs]
            simp only [h2, h3, h4, and_self, decide_true, Option.bind_some, if_true]
            by_cases c7 : m = 7
            · by_cases c1 : size = 1
              · rw [if_pos c7, if_pos c1, hd, if_neg (by simp; omega)]
              · rw [if_pos c7, if_neg c1]
            · rw [if_neg c7]
        · have hp : pre size reg m r e sub = false := by simp only [pre, decide_eq_false_iff_not]; exact fun h => h4 h.2.2.1
          rw [hp]
          rcases h1 with rfl | rfl <;> simp [h2, h3, h4, hj]
      · have hp : pre size reg m r e sub = false := by simp only [pre, decide_eq_false_iff_not]; exact fun h => h3 h.2.2.2.1
        rw [hp]
        rcases h1 with rfl | rfl <;> simp [h2, h3, hj]
    · have hp : pre size reg m r e sub = false := by simp only [pre, decide_eq_false_iff_not]; exact fun h => h2 h.2.1
      rw [hp]
      rcases h1 with rfl | rfl <;> simp [h2, hj]
  · have hp : pre size reg m r e sub = false := by simp only [pre, decide_eq_false_iff_not]; exact fun h => h1 h.1
    rw [hp]
    have c1 : size ≠ 1 := fun h => h1 (.inl h)
    have c2 : size ≠ 2 := fun h => h1 (.inr h)
    simp [c1, c2, hj]
theorem igood (op size reg m r e sub : Int) (k : Nat) : impl_GoodIns.f (k + 3) op size reg m r e sub = if pre size reg m r e sub = true then impl_isKind.f (k + 3) op size reg m r e sub else some false := by
  obtain ⟨b, hb, _⟩ := kind_some op size reg m r e sub k
  unfold impl_GoodIns.f impl_isSize.f
  rw [igop, iin, iin, hb]
  by_cases h1 : size = 1 ∨ size = 2
  · have hs : (if size = 1 then (some true : Option Bool) else some (size == 2)) = some true := by
      rcases h1 with rfl | rfl <;> rfl
    rw [hs]
    by_cases h2 : 0 ≤ reg ∧ reg ≤ 3
    · by_cases h4 : 0 ≤ sub ∧ sub ≤ 7
      · by_cases h3 : gop m r e = true
        · simp only [h2, h3, h4, and_self, decide_true, Option.bind_some, if_true]
          by_cases h5 : m = 7 ∧ size = 1 ∧ e > 255
          · have hp : pre size reg m r e sub = false := by simp [pre, h5]
            rw [hp, if_pos h5.1, if_pos h5.2.1, if_pos h5.2.2]
            rfl
          · have hp : pre size reg m r e sub = true := by simp only [pre, decide_eq_true_eq]; exact ⟨h1, h2, h4, h3, h5⟩
            rw [hp, if_pos rfl]
            by_cases c7 : m = 7
            · by_cases c1 : size = 1
              · rw [if_pos c7, if_pos c1, if_neg (by omega)]
              · rw [if_pos c7, if_neg c1]
            · rw [if_neg c7]
        · have hp : pre size reg m r e sub = false := by simp only [pre, decide_eq_false_iff_not]; exact fun h => h3 h.2.2.2.1
          rw [hp]
          simp [h2, h3, h4]
      · have hp : pre size reg m r e sub = false := by simp only [pre, decide_eq_false_iff_not]; exact fun h => h4 h.2.2.1
        rw [hp]
        simp [h2, h4]
    · have hp : pre size reg m r e sub = false := by simp only [pre, decide_eq_false_iff_not]; exact fun h => h2 h.2.1
      rw [hp]
      simp [h2]
  · have hp : pre size reg m r e sub = false := by simp only [pre, decide_eq_false_iff_not]; exact fun h => h1 h.1
    rw [hp]
    have c1 : size ≠ 1 := fun h => h1 (.inl h)
    have c2 : size ≠ 2 := fun h => h1 (.inr h)
    simp [c1, c2]
/-- Both sides' GoodIns, at any three rounds or more; and what it is good for. -/
theorem good_eq (op size reg m r e sub : Int) (k : Nat) : ∃ b, spec_GoodIns.f (k + 3) op size reg m r e sub = some b ∧ impl_GoodIns.f (k + 3) op size reg m r e sub = some b ∧
    (b = true → (1 ≤ op ∧ op ≤ 19) ∧ (size = 1 ∨ size = 2) ∧ (0 ≤ reg ∧ reg ≤ 3) ∧ (0 ≤ sub ∧ sub ≤ 7) ∧ (0 ≤ m ∧ m ≤ 7) ∧ (0 ≤ r ∧ r ≤ 3) ∧ (0 ≤ e ∧ e ≤ 65535)) := by
  rw [sgood, igood, kind_eq]
  obtain ⟨b, hb, ho⟩ := kind_some op size reg m r e sub k
  rw [hb]
  cases hp : pre size reg m r e sub
  · exact ⟨false, rfl, rfl, fun h => by cases h⟩
  · refine ⟨b, rfl, rfl, fun h => ?_⟩
    have h' := of_decide_eq_true hp
    have g := gop_of h'.2.2.2.1
    exact ⟨ho h, h'.1, h'.2.1, h'.2.2.1, g.1, g.2.1, g.2.2.2.1⟩

/-- A number's text. -/
def num (u : Nat) : ByteArray := ⟨(Lib.decDigits u).toArray⟩
theorem dec_len : ∀ (k u : Nat), u < 10 ^ (k + 1) → (Lib.decDigits u).length ≤ k + 1 := by
  intro k
  induction k with
  | zero =>
    intro u h
    rw [Lib.decDigits, dif_pos (by simpa using h)]
    simp
  | succ k ih =>
    intro u h
    rw [Lib.decDigits]
    by_cases c : u < 10
    · rw [dif_pos c]
      simp
    · rw [dif_neg c, List.length_append, List.length_singleton]
      have h3 : u / 10 < 10 ^ (k + 1) := by
        rw [Nat.pow_succ] at h
        omega
      have := ih _ h3
      omega
theorem num_size {u : Nat} (h : u ≤ 65535) : (num u).size ≤ 21 := by
  have h1 := dec_len 4 u (by omega)
  unfold num
  have h2 : (Lib.decDigits u).length ≤ 21 := by omega
  simpa [ByteArray.size] using h2
theorem snum : ∀ (k u : Nat), u < 10 ^ (k + 1) → u ≤ 65535 → spec_l1Num.f (k + 1) (u : Int) = some (num u) := by
  intro k
  induction k with
  | zero =>
    intro u h1 h2
    have h1' : u < 10 := by simpa using h1
    simp only [spec_l1Num.f]
    rw [if_pos (by omega)]
    refine congrArg some ?_
    unfold num strOfNums
    rw [Lib.decDigits, dif_pos h1', show wrap64 (48 + (u : Int)) % 256 = ((48 + u : Nat) : Int) from by unfold wrap64; omega]
    rfl
  | succ k ih =>
    intro u h1 h2
    rw [spec_l1Num.f]
    by_cases c : u < 10
    · rw [if_pos (by omega)]
      refine congrArg some ?_
      unfold num strOfNums
      rw [Lib.decDigits, dif_pos c, show wrap64 (48 + (u : Int)) % 256 = ((48 + u : Nat) : Int) from by unfold wrap64; omega]
      rfl
    · have h3 : u / 10 < 10 ^ (k + 1) := by
        rw [Nat.pow_succ] at h1
        omega
      have h4 : u / 10 ≤ 65535 := by omega
      have e1 : wrap64 (Int.tdiv (u : Int) 10) = ((u / 10 : Nat) : Int) := by
        rw [Int.tdiv_eq_ediv_of_nonneg (by omega)]
        unfold wrap64
        omega
      have e2 : wrap64 (48 + Int.tmod (u : Int) 10) % 256 = ((48 + u % 10 : Nat) : Int) := by
        rw [Int.tmod_eq_emod_of_nonneg (by omega)]
        unfold wrap64
        omega
      rw [if_neg (by omega), e1, ih _ h3 h4, Option.bind_some, Option.bind_some, e2]
      have h5 := num_size h4
      rw [strOfNums_size, if_pos (by show (num (u / 10)).size + 1 ≤ _; omega)]
      refine congrArg some (ByteArray.ext ?_)
      unfold num strOfNums
      rw [ByteArray.data_append]
      conv => rhs; rw [Lib.decDigits, dif_neg c]
      simp only [List.map_cons, List.map_nil, Int.toNat_natCast, List.append_toArray]
theorem snum_i {n : Int} (h : 0 ≤ n ∧ n ≤ 65535) (k : Nat) (hk : 5 ≤ k) : spec_l1Num.f k n = some (num n.toNat) := by
  obtain ⟨u, rfl⟩ : ∃ u : Nat, n = u := ⟨n.toNat, by omega⟩
  obtain ⟨k, rfl⟩ : ∃ m, k = m + 1 := ⟨k - 1, by omega⟩
  have h1 : (10 : Nat) ^ 5 ≤ 10 ^ (k + 1) := Nat.pow_le_pow_right (by omega) hk
  rw [Int.toNat_natCast]
  exact snum k u (by omega) (by omega)
theorem inum_i {n : Int} (h : 0 ≤ n ∧ n ≤ 65535) : strconv_Itoa_11.f n = some (num n.toNat) := by
  obtain ⟨u, rfl⟩ : ∃ u : Nat, n = u := ⟨n.toNat, by omega⟩
  unfold strconv_Itoa_11.f num
  rw [if_pos h, Lib.itoa_nonneg, Int.toNat_natCast]
theorem lit1 : (⟨#[111, 112]⟩ : ByteArray).size = 2 := rfl
theorem lit2 : (⟨#[46]⟩ : ByteArray).size = 1 := rfl
theorem lit3 : (⟨#[32, 114]⟩ : ByteArray).size = 2 := rfl
theorem lit4 : (⟨#[32, 109]⟩ : ByteArray).size = 2 := rfl
theorem lit5 : (⟨#[58]⟩ : ByteArray).size = 1 := rfl
theorem lit6 : (⟨#[32, 120]⟩ : ByteArray).size = 2 := rfl
theorem lit7 : (⟨#[32, 115]⟩ : ByteArray).size = 2 := rfl
theorem textOf_eq (op size reg m r e sub : Int) (k : Nat) (hk : 5 ≤ k) : ∃ q, spec_TextOf.f k op size reg m r e sub = some q ∧ impl_TextOf.f k op size reg m r e sub = some q := by
  obtain ⟨k, rfl⟩ : ∃ n, k = n + 3 := ⟨k - 3, by omega⟩
  obtain ⟨b, e1, e2, hb⟩ := good_eq op size reg m r e sub k
  unfold spec_TextOf.f impl_TextOf.f
  rw [e1, e2, Option.bind_some, Option.bind_some]
  cases b
  · exact ⟨(⟨#[]⟩, false), by rw [if_neg (by simp)], by rw [if_neg (by simp)]⟩
  · obtain ⟨b1, b2, b3, b4, b5, b6, b7⟩ := hb rfl
    have s : ∀ {n : Int}, 0 ≤ n ∧ n ≤ 65535 → (num n.toNat).size ≤ 21 := fun h => num_size (by omega)
    have g1 : 0 ≤ op ∧ op ≤ 65535 := by omega
    have g2 : 0 ≤ size ∧ size ≤ 65535 := by omega
    have g3 : 0 ≤ reg ∧ reg ≤ 65535 := by omega
    have g4 : 0 ≤ m ∧ m ≤ 65535 := by omega
    have g5 : 0 ≤ r ∧ r ≤ 65535 := by omega
    have g7 : 0 ≤ sub ∧ sub ≤ 65535 := by omega
    have z1 := s g1
    have z2 := s g2
    have z3 := s g3
    have z4 := s g4
    have z5 := s g5
    have z6 := s b7
    have z7 := s g7
    rw [if_pos rfl, if_pos rfl, snum_i g1 _ hk, snum_i g2 _ hk, snum_i g3 _ hk, snum_i g4 _ hk, snum_i g5 _ hk, snum_i b7 _ hk, snum_i g7 _ hk, inum_i g1, inum_i g2, inum_i g3, inum_i g4, inum_i g5, inum_i b7, inum_i g7]
    simp only [Option.bind_some, ByteArray.size_append, lit1, lit2, lit3, lit4, lit5, lit6, lit7]
    generalize num op.toNat = d1 at z1 ⊢
    generalize num size.toNat = d2 at z2 ⊢
    generalize num reg.toNat = d3 at z3 ⊢
    generalize num m.toNat = d4 at z4 ⊢
    generalize num r.toNat = d5 at z5 ⊢
    generalize num e.toNat = d6 at z6 ⊢
    generalize num sub.toNat = d7 at z7 ⊢
    iterate 13 rw [if_pos (by omega)]
    exact ⟨_, rfl, rfl⟩
theorem FnExactTextOf (op size reg m r e sub : Int) (_ : (Lit.int .i64 op).wf = true) (_ : (Lit.int .i64 size).wf = true) (_ : (Lit.int .i64 reg).wf = true) (_ : (Lit.int .i64 m).wf = true) (_ : (Lit.int .i64 r).wf = true) (_ : (Lit.int .i64 e).wf = true) (_ : (Lit.int .i64 sub).wf = true) :
    ∃ k, laws_FnExactTextOf.f k op size reg m r e sub = some true := by
  refine ⟨9, ?_⟩
  obtain ⟨q, s1, i1⟩ := textOf_eq op size reg m r e sub 9 (by omega)
  unfold laws_FnExactTextOf.f laws_toIns.f laws_toOperand.f
  simp only [Option.bind_some]
  rw [s1, Option.bind_some, i1, Option.bind_some, if_pos rfl]
  simp
end Go.Proofs.YtnopjkkglanlfaaDoor.Pure
