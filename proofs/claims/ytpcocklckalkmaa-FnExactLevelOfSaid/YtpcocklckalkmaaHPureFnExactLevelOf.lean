/- FnExactLevelOf, the plain law: the program's and the reference's LevelOf answer alike at every device, and write nothing. -/
import Derived.Test.YtpcocklckalkmaaHFnExactLevelOfx
import Derived.Test.YtpcocklckalkmaaBits
namespace Go.Proofs.Ytpcocklckalkmaa.Pure
open Go.RowKit Go.Proofs.Ytpcocklckalkmaa.HFnExactLevelOf Go.Proofs.YtpcocklckalkmaaW.PrintWords Go.Proofs.YtpcocklckalkmaaW.PrintLast Go.Proofs.Ytpcocklckalkmaa.Bt
set_option linter.unusedVariables false
set_option linter.unusedSimpArgs false

theorem sin (a b c : Int) : spec_l1In.f a b c = some (decide (b ≤ a ∧ a ≤ c)) := by
  unfold spec_l1In.f
  by_cases h : b ≤ a <;> simp [h]
theorem iin (a b c : Int) : impl_within.f a b c = some (decide (b ≤ a ∧ a ≤ c)) := by
  unfold impl_within.f
  by_cases h : b ≤ a <;> simp [h]

theorem wnat {i : Nat} (h : i < 4611686018427387904) : wrap64 ((i : Int) + 1) = ((i + 1 : Nat) : Int) := by unfold wrap64; omega
theorem rd_nat (l : List Int) (i : Nat) : rd l (i : Int) = l.getD i 0 := by unfold rd; rw [Int.toNat_natCast]

theorem toI_loop (l : List Int) (hm : l.length ≤ 4611686018427387000) : ∀ (d k i : Nat) (out : List Int), out.length = l.length → i ≤ l.length → (∀ j, j < i → out[j]? = l[j]?) → l.length - i = d → d < k → laws_toIntS.l0 k l out (i : Int) = some l := by
  intro d
  induction d with
  | zero =>
    intro k i out ho hi hj hd hk
    obtain ⟨k, rfl⟩ : ∃ m, k = m + 1 := ⟨k - 1, by omega⟩
    simp only [laws_toIntS.l0]
    rw [if_neg (by omega)]
    congr 1
    refine List.ext_getElem? fun j => ?_
    by_cases h : j < l.length
    · exact hj j (by omega)
    · rw [List.getElem?_eq_none (by omega), List.getElem?_eq_none (by omega)]
  | succ d ih =>
    intro k i out ho hi hj hd hk
    obtain ⟨k, rfl⟩ : ∃ m, k = m + 1 := ⟨k - 1, by omega⟩
    simp only [laws_toIntS.l0]
    rw [if_pos (by omega), if_pos (by omega), if_pos (by omega), wnat (by omega), rd_nat, Int.toNat_natCast]
    refine ih k (i + 1) _ (by rw [List.length_set]; exact ho) (by omega) ?_ (by omega) (by omega)
    intro j hj'
    by_cases e : j = i
    · subst e
      rw [List.getElem?_set_self (by omega), List.getElem?_eq_getElem (by omega)]
      simp [List.getD, List.getElem?_eq_getElem (show j < l.length by omega)]
    · rw [List.getElem?_set_ne (by omega)]
      exact hj j (by omega)
theorem toI (l : List Int) (k : Nat) (hm : l.length ≤ 1048576) (hk : l.length < k) : laws_toIntS.f k l = some l := by
  unfold laws_toIntS.f
  rw [if_pos (by omega), if_pos (by omega)]
  exact toI_loop l (by omega) l.length k 0 _ (by simp) (by omega) (fun j hj => by omega) (by omega) hk

theorem eqI_loop (l : List Int) (hm : l.length ≤ 4611686018427387000) : ∀ (d k i : Nat), i ≤ l.length → l.length - i = d → d < k → laws_eqIntS.l0 k l l (i : Int) = some true := by
  intro d
  induction d with
  | zero =>
    intro k i hi hd hk
    obtain ⟨k, rfl⟩ : ∃ m, k = m + 1 := ⟨k - 1, by omega⟩
    simp only [laws_eqIntS.l0]
    rw [if_neg (by omega)]
  | succ d ih =>
    intro k i hi hd hk
    obtain ⟨k, rfl⟩ : ∃ m, k = m + 1 := ⟨k - 1, by omega⟩
    simp only [laws_eqIntS.l0]
    rw [if_pos (by omega), if_pos (by omega), if_pos (by omega), if_pos trivial, wnat (by omega)]
    exact ih k (i + 1) (by omega) (by omega) (by omega)
theorem eqI (l : List Int) (k : Nat) (hm : l.length ≤ 1048576) (hk : l.length < k) : laws_eqIntS.f k l l = some true := by
  unfold laws_eqIntS.f
  rw [if_pos rfl]
  exact eqI_loop l (by omega) l.length k 0 (by omega) (by omega) hk

theorem szI (l : List Int) (m : Int) (h0 : 0 ≤ m) (h1 : m ≤ 1048576) (hl : l.length ≤ maxLen) : laws_szIntS.f l m = some (if m < l.length then -1 else m - l.length) := by
  unfold maxLen at hl
  unfold laws_szIntS.f
  rw [wrap_in (n := m - l.length) (by omega) (by omega)]
  by_cases c : m < l.length
  · rw [if_pos (by omega), if_pos c]
  · rw [if_neg (by omega), if_neg c]

theorem drop_any (p : Int → Bool) (l : List Int) (i : Nat) (h : i < l.length) : (l.drop i).any p = (p (l.getD i 0) || (l.drop (i + 1)).any p) := by
  rw [List.drop_eq_getElem_cons h, List.any_cons]
  simp [List.getD, List.getElem?_eq_getElem h]
theorem bytes_loop (l : List Int) (hm : l.length ≤ 1048576) : ∀ (d k i : Nat), i ≤ l.length → l.length - i = d → d < k → spec_l4Bytes.l0 k l (l.length : Int) (i : Int) = some (!((l.drop i).any impl_areBytes.bad)) := by
  intro d
  induction d with
  | zero =>
    intro k i hi hd hk
    obtain ⟨k, rfl⟩ : ∃ m, k = m + 1 := ⟨k - 1, by omega⟩
    simp only [spec_l4Bytes.l0]
    rw [if_neg (by omega), List.drop_eq_nil_of_le (by omega)]
    rfl
  | succ d ih =>
    intro k i hi hd hk
    obtain ⟨k, rfl⟩ : ∃ m, k = m + 1 := ⟨k - 1, by omega⟩
    simp only [spec_l4Bytes.l0]
    rw [if_pos (by omega), if_pos (by omega), if_pos (by omega), rd_nat, sin, Option.bind_some, wnat (by omega), ih k (i + 1) (by omega) (by omega) (by omega), drop_any _ l i (by omega)]
    cases h : impl_areBytes.bad (l.getD i 0)
    · have h' : decide (0 ≤ l.getD i 0 ∧ l.getD i 0 ≤ 255) = true := by rw [impl_areBytes.bad, Bool.not_eq_false'] at h; exact h
      rw [if_pos h', Bool.false_or]
    · have h' : decide (0 ≤ l.getD i 0 ∧ l.getD i 0 ≤ 255) = false := by rw [impl_areBytes.bad, Bool.not_eq_true'] at h; exact h
      rw [if_neg (by rw [h']; simp), Bool.true_or]
      rfl
theorem bytes_eq (l : List Int) (k : Nat) (hm : l.length ≤ 1048576) (hk : l.length < k) : spec_l4Bytes.f k l = some (!(l.any impl_areBytes.bad)) := by
  have := bytes_loop l hm l.length k 0 (by omega) (by omega) hk
  rwa [List.drop_zero] at this

theorem szD (e l : Int) (g : Bool) (i o : List Int) (x : Int) (hd : i.length ≤ maxLen) (ha : o.length ≤ maxLen) : ∃ r, laws_szDevice.f e l g i o x 1048576 = some r ∧ (¬ r < 0 → i.length ≤ 1048576 ∧ o.length ≤ 1048576) := by
  unfold laws_szDevice.f
  rw [szI i _ (by omega) (by omega) hd]
  by_cases c : (1048576 : Int) < i.length
  · exact ⟨-1, by simp [c], fun h => absurd h (by omega)⟩
  · rw [if_neg c, Option.bind_some, if_neg (by omega), szI o _ (by omega) (by omega) ha]
    by_cases c' : (1048576 : Int) - i.length < o.length
    · exact ⟨-1, by simp [c'], fun h => absurd h (by omega)⟩
    · rw [if_neg c', Option.bind_some, if_neg (by omega)]
      exact ⟨_, rfl, fun _ => ⟨by omega, by omega⟩⟩
theorem goodDevice_eq (e l : Int) (g : Bool) (i o : List Int) (x : Int) (k : Nat) (hi : i.length ≤ 1048576) (ho : o.length ≤ 1048576) (hk : i.length + o.length < k) :
    ∃ b, spec_GoodDevice.f k e l g i o x = some b ∧ impl_GoodDevice.f e l g i o x = some b := by
  unfold spec_GoodDevice.f impl_GoodDevice.f
  rw [bytes_eq i k hi (by omega), bytes_eq o k ho (by omega)]
  unfold impl_areBytes.f
  simp only [sin, iin, Option.bind_some]
  generalize (!(i.any impl_areBytes.bad)) = p
  generalize (!(o.any impl_areBytes.bad)) = q
  by_cases h1 : 0 ≤ e ∧ e ≤ 255
  · by_cases h2 : 0 ≤ l ∧ l ≤ e
    · by_cases h3 : (i.length : Int) ≤ 4
      · by_cases h4 : (o.length : Int) ≤ 200
        · cases p <;> cases q <;> simp [h1, h2, h3, h4]
        · cases p <;> cases q <;> simp [h1, h2, h3, h4]
      · cases p <;> cases q <;> simp [h1, h2, h3]
    · simp [h1, h2]
  · simp [h1]
theorem toD (e l : Int) (g : Bool) (i o : List Int) (x : Int) (k : Nat) (hi : i.length ≤ 1048576) (ho : o.length ≤ 1048576) (hk : i.length + o.length < k) : laws_toDevice.f k e l g i o x = some (e, l, g, i, o, x) := by
  unfold laws_toDevice.f
  rw [toI i k hi (by omega), Option.bind_some, toI o k ho (by omega), Option.bind_some]
theorem eqD (e l : Int) (g : Bool) (i o : List Int) (x : Int) (k : Nat) (hi : i.length ≤ 1048576) (ho : o.length ≤ 1048576) (hk : i.length + o.length < k) : laws_eqDevice.f k e l g i o x e l g i o x = some true := by
  unfold laws_eqDevice.f
  rw [if_pos rfl, if_pos rfl, eqI i k hi (by omega), Option.bind_some, if_pos rfl, eqI o k ho (by omega), Option.bind_some]
  simp

theorem levelOf_eq (e l : Int) (g : Bool) (i o : List Int) (x : Int) (k : Nat) (hi : i.length ≤ 1048576) (ho : o.length ≤ 1048576) (hk : i.length + o.length < k) : ∃ r, spec_LevelOf.f k e l g i o x = some r ∧ impl_LevelOf.f e l g i o x = some r := by
  obtain ⟨b, e1, e2⟩ := goodDevice_eq e l g i o x k hi ho hk
  unfold spec_LevelOf.f impl_LevelOf.f spec_l5Level.f
  rw [e1, e2, Option.bind_some, Option.bind_some]
  cases b
  · exact ⟨(0, false), rfl, rfl⟩
  · cases g
    · by_cases c : (i.length : Int) > 0
      · exact ⟨(2, true), by simp only [if_true, Bool.false_eq_true, if_false, if_pos c, Option.bind_some], by simp only [if_true, Bool.false_eq_true, if_false, if_pos c]⟩
      · exact ⟨(0, true), by simp only [if_true, Bool.false_eq_true, if_false, if_neg c, Option.bind_some], by simp only [if_true, Bool.false_eq_true, if_false, if_neg c]⟩
    · exact ⟨(5, true), rfl, rfl⟩
theorem FnExactLevelOf (e l : Int) (g : Bool) (i o : List Int) (x : Int) (_ : (Lit.int .i64 e).wf = true) (_ : (Lit.int .i64 l).wf = true) (hi : i.length ≤ maxLen ∧ ∀ x ∈ i, (Lit.int .i64 x).wf = true) (ho : o.length ≤ maxLen ∧ ∀ x ∈ o, (Lit.int .i64 x).wf = true)
    (_ : (Lit.int .i64 x).wf = true) : ∃ k, laws_FnExactLevelOf.f k e l g i o x = some true := by
  refine ⟨i.length + o.length + 10, ?_⟩
  unfold laws_FnExactLevelOf.f
  obtain ⟨r, hr, hs⟩ := szD e l g i o x hi.1 ho.1
  rw [hr, Option.bind_some]
  by_cases c : r < 0
  · rw [if_pos c]
  · rw [if_neg c]
    obtain ⟨h1, h2⟩ := hs c
    obtain ⟨b, e1, e2⟩ := levelOf_eq e l g i o x (i.length + o.length + 10) h1 h2 (by omega)
    rw [toD e l g i o x _ h1 h2 (by omega)]
    simp only [Option.bind_some, e1, e2, if_true]
    rw [show (b.2 != b.2) = false from by simp, laws_FnExactLevelOf.j0, if_neg (by simp), toD e l g i o x _ h1 h2 (by omega), Option.bind_some, eqD e l g i o x _ h1 h2 (by omega), Option.bind_some, if_pos rfl]
end Go.Proofs.Ytpcocklckalkmaa.Pure
