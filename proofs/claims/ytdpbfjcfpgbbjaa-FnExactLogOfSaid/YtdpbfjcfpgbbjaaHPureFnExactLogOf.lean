/- FnExactLogOf, the plain law: the program's and the reference's LogOf answer alike at every bus and kind, write nothing, and what the answer holds is new. -/
import Derived.Test.YtdpbfjcfpgbbjaaHFnExactLogOfx
import Derived.Test.YtdpbfjcfpgbbjaaBits
namespace Go.Proofs.Ytdpbfjcfpgbbjaa.Pure
open Go.RowKit Go.Proofs.Ytdpbfjcfpgbbjaa.HFnExactLogOf Go.Proofs.YtdpbfjcfpgbbjaaW.PrintWords Go.Proofs.YtdpbfjcfpgbbjaaW.PrintLast Go.Proofs.Ytdpbfjcfpgbbjaa.Bt
set_option linter.unusedVariables false
set_option linter.unusedSimpArgs false

theorem sin (a b c : Int) : spec_l1In.f a b c = some (decide (b ≤ a ∧ a ≤ c)) := by
  unfold spec_l1In.f
  by_cases h : b ≤ a <;> simp [h]
theorem iin (a b c : Int) : impl_within.f a b c = some (decide (b ≤ a ∧ a ≤ c)) := by
  unfold impl_within.f
  by_cases h : b ≤ a <;> simp [h]

theorem lim1 : impl_limitOf.f 1 = some 256 := by decide +kernel
theorem lim2 : impl_limitOf.f 2 = some 65536 := by decide +kernel
theorem top1 : spec_l1Top.f 1 = some 256 := by decide +kernel
theorem top2 : spec_l1Top.f 2 = some 65536 := by decide +kernel
/-- Is v a value of a size: both sides. -/
def val (s v : Int) : Bool := decide ((s = 1 ∧ 0 ≤ v ∧ v ≤ 255) ∨ (s = 2 ∧ 0 ≤ v ∧ v ≤ 65535))
theorem val_of {s v : Int} (h : val s v = true) : (s = 1 ∧ 0 ≤ v ∧ v ≤ 255) ∨ (s = 2 ∧ 0 ≤ v ∧ v ≤ 65535) := by simpa [val] using h
theorem w256 : wrap64 (256 - 1) = 255 := by decide +kernel
theorem w65536 : wrap64 (65536 - 1) = 65535 := by decide +kernel
theorem sval (s v : Int) : spec_l1Value.f s v = some (val s v) := by
  unfold spec_l1Value.f spec_l1Size.f val
  by_cases h1 : s = 1
  · subst h1
    rw [if_pos rfl, Option.bind_some, if_pos rfl, top1, Option.bind_some, w256, sin, Option.bind_some]
    simp
  · by_cases h2 : s = 2
    · subst h2
      rw [if_neg h1, Option.bind_some, if_pos (by decide), top2, Option.bind_some, w65536, sin, Option.bind_some]
      simp
    · simp [h1, h2]
theorem ival (s v : Int) : impl_isValue.f s v = some (val s v) := by
  unfold impl_isValue.f impl_isSize.f val
  by_cases h1 : s = 1
  · subst h1
    rw [if_pos rfl, Option.bind_some, if_pos rfl, lim1, Option.bind_some, w256, iin, Option.bind_some]
    simp
  · by_cases h2 : s = 2
    · subst h2
      rw [if_neg h1, Option.bind_some, if_pos (by decide), lim2, Option.bind_some, w65536, iin, Option.bind_some]
      simp
    · simp [h1, h2]

theorem wnat {i : Nat} (h : i < 4611686018427387904) : wrap64 ((i : Int) + 1) = ((i + 1 : Nat) : Int) := by unfold wrap64; omega
theorem rd_nat (l : List Int) (i : Nat) : rd l (i : Int) = l.getD i 0 := by unfold rd; rw [Int.toNat_natCast]

theorem toI_loop (l : List Int) (hm : l.length ≤ 4611686018427387000) : ∀ (d k i : Nat) (out : List Int), out.length = l.length → i ≤ l.length → (∀ j, j < i → out[j]? = l[j]?) → l.length - i = d → d < k → laws_toIntS.l0 k l out (i : Int) = some l := by
  intro d
  induction d with
  | zero =>
    intro k i out ho hi hj hd hk
    obtain ⟨k, rfl⟩ : ∃ m, k = m + 1 := ⟨k - 1, by omega⟩
    simp only [laws_toIntS.l0]
    rw [if_neg (by omega)]
    congr 1
    refine List.ext_getElem? fun j => ?_
    by_cases h : j < l.length
    · exact hj j (by omega)
    · rw [List.getElem?_eq_none (by omega), List.getElem?_eq_none (by omega)]
  | succ d ih =>
    intro k i out ho hi hj hd hk
    obtain ⟨k, rfl⟩ : ∃ m, k = m + 1 := ⟨k - 1, by omega⟩
    simp only [laws_toIntS.l0]
    rw [if_pos (by omega), if_pos (by omega), if_pos (by omega), wnat (by omega), rd_nat, Int.toNat_natCast]
    refine ih k (i + 1) _ (by rw [List.length_set]; exact ho) (by omega) ?_ (by omega) (by omega)
    intro j hj'
    by_cases e : j = i
    · subst e
      rw [List.getElem?_set_self (by omega), List.getElem?_eq_getElem (by omega)]
      simp [List.getD, List.getElem?_eq_getElem (show j < l.length by omega)]
    · rw [List.getElem?_set_ne (by omega)]
      exact hj j (by omega)
theorem toI (l : List Int) (k : Nat) (hm : l.length ≤ 1048576) (hk : l.length < k) : laws_toIntS.f k l = some l := by
  unfold laws_toIntS.f
  rw [if_pos (by omega), if_pos (by omega)]
  exact toI_loop l (by omega) l.length k 0 _ (by simp) (by omega) (fun j hj => by omega) (by omega) hk

theorem eqI_loop (l : List Int) (hm : l.length ≤ 4611686018427387000) : ∀ (d k i : Nat), i ≤ l.length → l.length - i = d → d < k → laws_eqIntS.l0 k l l (i : Int) = some true := by
  intro d
  induction d with
  | zero =>
    intro k i hi hd hk
    obtain ⟨k, rfl⟩ : ∃ m, k = m + 1 := ⟨k - 1, by omega⟩
    simp only [laws_eqIntS.l0]
    rw [if_neg (by omega)]
  | succ d ih =>
    intro k i hi hd hk
    obtain ⟨k, rfl⟩ : ∃ m, k = m + 1 := ⟨k - 1, by omega⟩
    simp only [laws_eqIntS.l0]
    rw [if_pos (by omega), if_pos (by omega), if_pos (by omega), if_pos trivial, wnat (by omega)]
    exact ih k (i + 1) (by omega) (by omega) (by omega)
theorem eqI (l : List Int) (k : Nat) (hm : l.length ≤ 1048576) (hk : l.length < k) : laws_eqIntS.f k l l = some true := by
  unfold laws_eqIntS.f
  rw [if_pos rfl]
  exact eqI_loop l (by omega) l.length k 0 (by omega) (by omega) hk

theorem szI (l : List Int) (m : Int) (h0 : 0 ≤ m) (h1 : m ≤ 1048576) (hl : l.length ≤ maxLen) : laws_szIntS.f l m = some (if m < l.length then -1 else m - l.length) := by
  unfold maxLen at hl
  unfold laws_szIntS.f
  rw [wrap_in (n := m - l.length) (by omega) (by omega)]
  by_cases c : m < l.length
  · rw [if_pos (by omega), if_pos c]
  · rw [if_neg (by omega), if_neg c]

theorem markI_loop (m : Int) (h0 : 0 ≤ m) (h1 : m ≤ 1000000000) (n : Nat) (hn : n ≤ 1048576) : ∀ (d k i : Nat) (L : List Int), L.length = n → i ≤ n → (∀ j, j < i → L[j]? = some (m + j)) → n - i = d → d < k →
    ∃ L', laws_markIntS.l0 k L (m + i) (i : Int) = some (m + n, L') ∧ L'.length = n ∧ ∀ j, j < n → L'[j]? = some (m + j) := by
  intro d
  induction d with
  | zero =>
    intro k i L hl hi hj hd hk
    obtain ⟨k, rfl⟩ : ∃ m, k = m + 1 := ⟨k - 1, by omega⟩
    simp only [laws_markIntS.l0]
    rw [if_neg (by omega)]
    exact ⟨L, by rw [show i = n from by omega], hl, fun j hj' => hj j (by omega)⟩
  | succ d ih =>
    intro k i L hl hi hj hd hk
    obtain ⟨k, rfl⟩ : ∃ m, k = m + 1 := ⟨k - 1, by omega⟩
    simp only [laws_markIntS.l0]
    rw [if_pos (by omega), if_pos (by omega), wnat (by omega), Int.toNat_natCast, show wrap64 (m + i + 1) = m + ((i + 1 : Nat) : Int) from by unfold wrap64; omega]
    refine ih k (i + 1) _ (by rw [List.length_set]; exact hl) (by omega) ?_ (by omega) (by omega)
    intro j hj'
    by_cases e : j = i
    · subst e
      rw [List.getElem?_set_self (by omega)]
    · rw [List.getElem?_set_ne (by omega)]
      exact hj j (by omega)
theorem markI0 (l : List Int) (k : Nat) (m : Int) (h0 : 0 ≤ m) (h1 : m ≤ 1000000000) (hm : l.length ≤ 1048576) (hk : l.length < k) : ∃ L, laws_markIntS.f k l m = some (m + l.length, L) ∧ L.length = l.length := by
  have h := markI_loop m h0 h1 l.length hm l.length k 0 l rfl (by omega) (fun j hj => by omega) (by omega) hk
  rw [show m + ((0 : Nat) : Int) = m from by omega] at h
  obtain ⟨L, e, hl, _⟩ := h
  exact ⟨L, e, hl⟩

theorem drop_any (p : Int → Bool) (l : List Int) (i : Nat) (h : i < l.length) : (l.drop i).any p = (p (l.getD i 0) || (l.drop (i + 1)).any p) := by
  rw [List.drop_eq_getElem_cons h, List.any_cons]
  simp [List.getD, List.getElem?_eq_getElem h]
theorem bytes_loop (l : List Int) (hm : l.length ≤ 1048576) : ∀ (d k i : Nat), i ≤ l.length → l.length - i = d → d < k → spec_l4Bytes.l0 k l (l.length : Int) (i : Int) = some (!((l.drop i).any impl_GoodBus.bad)) := by
  intro d
  induction d with
  | zero =>
    intro k i hi hd hk
    obtain ⟨k, rfl⟩ : ∃ m, k = m + 1 := ⟨k - 1, by omega⟩
    simp only [spec_l4Bytes.l0]
    rw [if_neg (by omega), List.drop_eq_nil_of_le (by omega)]
    rfl
  | succ d ih =>
    intro k i hi hd hk
    obtain ⟨k, rfl⟩ : ∃ m, k = m + 1 := ⟨k - 1, by omega⟩
    simp only [spec_l4Bytes.l0]
    rw [if_pos (by omega), if_pos (by omega), if_pos (by omega), rd_nat, sin, Option.bind_some, wnat (by omega), ih k (i + 1) (by omega) (by omega) (by omega), drop_any _ l i (by omega)]
    cases h : impl_GoodBus.bad (l.getD i 0)
    · have h' : decide (0 ≤ l.getD i 0 ∧ l.getD i 0 ≤ 255) = true := by rw [impl_GoodBus.bad, Bool.not_eq_false'] at h; exact h
      rw [if_pos h', Bool.false_or]
    · have h' : decide (0 ≤ l.getD i 0 ∧ l.getD i 0 ≤ 255) = false := by rw [impl_GoodBus.bad, Bool.not_eq_true'] at h; exact h
      rw [if_neg (by rw [h']; simp), Bool.true_or]
      rfl
theorem bytes_eq (l : List Int) (k : Nat) (hm : l.length ≤ 1048576) (hk : l.length < k) : spec_l4Bytes.f k l = some (!(l.any impl_GoodBus.bad)) := by
  have := bytes_loop l hm l.length k 0 (by omega) (by omega) hk
  rwa [List.drop_zero] at this

theorem szA (l : List S100) (m : Int) (h0 : 0 ≤ m) (h1 : m ≤ 1048576) (hl : l.length ≤ maxLen) : laws_szAccessS.f l m = some (if m < l.length then -1 else m - l.length) := by
  unfold maxLen at hl
  unfold laws_szAccessS.f
  rw [wrap_in (n := m - l.length) (by omega) (by omega)]
  by_cases c : m < l.length
  · rw [if_pos (by omega), if_pos c]
  · rw [if_neg (by omega), if_neg c]
/-- What is left of m behind a bus: below 0 where it is too great. -/
theorem szB (b : List Int) (l : List S100) (m : Int) (h0 : 0 ≤ m) (h1 : m ≤ 1048576) (hb : b.length ≤ maxLen) (hl : l.length ≤ maxLen) : ∃ r, laws_szBus.f b l m = some r ∧ r ≤ m ∧ (¬ r < 0 → b.length ≤ 1048576 ∧ l.length ≤ 1048576) := by
  unfold laws_szBus.f
  rw [szI b _ h0 h1 hb]
  by_cases c : m < b.length
  · exact ⟨-1, by simp [c], by omega, fun h => absurd h (by omega)⟩
  · rw [if_neg c, Option.bind_some, if_neg (by omega), szA l _ (by omega) (by omega) hl]
    by_cases c' : m - b.length < l.length
    · exact ⟨-1, by simp [c'], by omega, fun h => absurd h (by omega)⟩
    · rw [if_neg c', Option.bind_some, if_neg (by omega)]
      exact ⟨_, rfl, by omega, fun _ => ⟨by omega, by omega⟩⟩
def conv (x : S100) : S91 := ⟨x.f0, x.f1, x.f2, x.f3, x.f4⟩
theorem rdA_nat (l : List S100) (i : Nat) : rd_T100 l (i : Int) = l.getD i z100 := by unfold rd_T100; rw [Int.toNat_natCast]
theorem rdB_nat (l : List S91) (i : Nat) : rd_T91 l (i : Int) = l.getD i z91 := by unfold rd_T91; rw [Int.toNat_natCast]
theorem toA_loop (l : List S100) (hm : l.length ≤ 4611686018427387000) : ∀ (d k i : Nat) (out : List S91), out.length = l.length → i ≤ l.length → (∀ j, j < i → out[j]? = (l.map conv)[j]?) → l.length - i = d → d < k → laws_toAccessS.l0 k l out (i : Int) = some (l.map conv) := by
  intro d
  induction d with
  | zero =>
    intro k i out ho hi hj hd hk
    obtain ⟨k, rfl⟩ : ∃ m, k = m + 1 := ⟨k - 1, by omega⟩
    simp only [laws_toAccessS.l0]
    rw [if_neg (by omega)]
    congr 1
    refine List.ext_getElem? fun j => ?_
    by_cases h : j < l.length
    · exact hj j (by omega)
    · rw [List.getElem?_eq_none (by omega), List.getElem?_eq_none (by rw [List.length_map]; omega)]
  | succ d ih =>
    intro k i out ho hi hj hd hk
    obtain ⟨k, rfl⟩ : ∃ m, k = m + 1 := ⟨k - 1, by omega⟩
    simp only [laws_toAccessS.l0, laws_toAccess.f, Option.bind_some]
    rw [if_pos (by omega), if_pos (by omega), if_pos (by omega), wnat (by omega), rdA_nat, Int.toNat_natCast]
    refine ih k (i + 1) _ (by rw [List.length_set]; exact ho) (by omega) ?_ (by omega) (by omega)
    intro j hj'
    by_cases e : j = i
    · subst e
      rw [List.getElem?_set_self (by omega), List.getElem?_map, List.getElem?_eq_getElem (by omega)]
      simp [List.getD, List.getElem?_eq_getElem (show j < l.length by omega), conv]
    · rw [List.getElem?_set_ne (by omega)]
      exact hj j (by omega)
theorem toA (l : List S100) (k : Nat) (hm : l.length ≤ 1048576) (hk : l.length < k) : laws_toAccessS.f k l = some (l.map conv) := by
  unfold laws_toAccessS.f
  rw [if_pos (by omega), if_pos (by omega)]
  exact toA_loop l (by omega) l.length k 0 _ (by simp) (by omega) (fun j hj => by omega) (by omega) hk
theorem eqA_loop (l : List S91) (hm : l.length ≤ 4611686018427387000) : ∀ (d k i : Nat), i ≤ l.length → l.length - i = d → d < k → laws_eqAccessS.l0 k l l (i : Int) = some true := by
  intro d
  induction d with
  | zero =>
    intro k i hi hd hk
    obtain ⟨k, rfl⟩ : ∃ m, k = m + 1 := ⟨k - 1, by omega⟩
    simp only [laws_eqAccessS.l0]
    rw [if_neg (by omega)]
  | succ d ih =>
    intro k i hi hd hk
    obtain ⟨k, rfl⟩ : ∃ m, k = m + 1 := ⟨k - 1, by omega⟩
    simp only [laws_eqAccessS.l0, laws_eqAccess.f, if_true, Option.bind_some]
    rw [if_pos (by omega), if_pos (by omega), if_pos (by omega), wnat (by omega)]
    exact ih k (i + 1) (by omega) (by omega) (by omega)
theorem eqAS (l : List S91) (k : Nat) (hm : l.length ≤ 1048576) (hk : l.length < k) : laws_eqAccessS.f k l l = some true := by
  unfold laws_eqAccessS.f
  rw [if_pos rfl]
  exact eqA_loop l (by omega) l.length k 0 (by omega) (by omega) hk
theorem toB (b : List Int) (l : List S100) (k : Nat) (hb : b.length ≤ 1048576) (hl : l.length ≤ 1048576) (hk : b.length + l.length < k) : laws_toBus.f k b l = some (b, l.map conv) := by
  unfold laws_toBus.f
  rw [toI b k hb (by omega), Option.bind_some, toA l k hl (by omega), Option.bind_some]
theorem eqB (b : List Int) (l : List S91) (k : Nat) (hb : b.length ≤ 1048576) (hl : l.length ≤ 1048576) (hk : b.length + l.length < k) : laws_eqBus.f k b l b l = some true := by
  unfold laws_eqBus.f
  rw [eqI b k hb (by omega), Option.bind_some, if_pos rfl, eqAS l k hl (by omega), Option.bind_some, if_pos rfl]

theorem sacc (x : S91) : spec_l4Access.f x.f0 x.f1 x.f2 x.f3 x.f4 = some (!impl_GoodBus.badS x) := by
  unfold spec_l4Access.f spec_l4Addr.f impl_GoodBus.badS
  simp only [sin, sval, Option.bind_some, Bool.not_not]
  by_cases h1 : 1 ≤ x.f0 ∧ x.f0 ≤ 3
  · by_cases h2 : 0 ≤ x.f2 ∧ x.f2 ≤ 65535
    · by_cases h3 : (x.f1 = 1 ∧ 0 ≤ x.f3 ∧ x.f3 ≤ 255) ∨ (x.f1 = 2 ∧ 0 ≤ x.f3 ∧ x.f3 ≤ 65535)
      · by_cases h4 : 0 ≤ x.f4 ∧ x.f4 ≤ 3
        · by_cases h5 : x.f0 = 3
          · by_cases h6 : x.f4 = 0 <;> simp [h1, h2, h3, h4, h5, h6, val]
          · simp [h1, h2, h3, h4, h5, val]
        · simp [h1, h2, h3, h4, val]
      · simp [h1, h2, h3, val]
    · cases val x.f1 x.f3 <;> simp [h1, h2]
  · simp [h1]
theorem drop_anyS (l : List S91) (i : Nat) (h : i < l.length) : (l.drop i).any impl_GoodBus.badS = (impl_GoodBus.badS (l.getD i z91) || (l.drop (i + 1)).any impl_GoodBus.badS) := by
  rw [List.drop_eq_getElem_cons h, List.any_cons]
  simp [List.getD, List.getElem?_eq_getElem h]
theorem log_loop (b : List Int) (l : List S91) (hb : b.length ≤ 1048576) (hm : l.length ≤ 1048576) : ∀ (d k i : Nat), i ≤ l.length → l.length - i = d → d + b.length + 1 < k →
    spec_GoodBus.l0 k l (l.length : Int) (i : Int) b l = some ((((b.length : Int) == 512) && decide ((l.length : Int) ≤ 400)) && (!(b.any impl_GoodBus.bad) && !((l.drop i).any impl_GoodBus.badS))) := by
  intro d
  induction d with
  | zero =>
    intro k i hi hd hk
    obtain ⟨k, rfl⟩ : ∃ m, k = m + 1 := ⟨k - 1, by omega⟩
    simp only [spec_GoodBus.l0]
    rw [if_neg (by omega), List.drop_eq_nil_of_le (by omega), bytes_eq b k hb (by omega)]
    by_cases c : (b.length : Int) = 512
    · rw [if_pos c, Option.bind_some]
      cases b.any impl_GoodBus.bad <;> simp [c]
    · rw [if_neg c]
      simp [c]
  | succ d ih =>
    intro k i hi hd hk
    obtain ⟨k, rfl⟩ : ∃ m, k = m + 1 := ⟨k - 1, by omega⟩
    simp only [spec_GoodBus.l0]
    rw [if_pos (by omega), if_pos (by omega), if_pos (by omega), rdB_nat, sacc, Option.bind_some, wnat (by omega), ih k (i + 1) (by omega) (by omega) (by omega), drop_anyS l i (by omega)]
    cases h : impl_GoodBus.badS (l.getD i z91) <;> simp
theorem goodBus_eq (b : List Int) (l : List S91) (k : Nat) (hb : b.length ≤ 1048576) (hl : l.length ≤ 1048576) (hk : b.length + l.length + 1 < k) :
    ∃ r, spec_GoodBus.f k b l = some r ∧ impl_GoodBus.f b l = some r ∧ (r = true → b.length = 512 ∧ b.any impl_GoodBus.bad = false) := by
  have h := log_loop b l hb hl l.length k 0 (by omega) (by omega) (by omega)
  rw [List.drop_zero] at h
  refine ⟨_, h, rfl, fun hr => ?_⟩
  rw [Bool.and_eq_true, Bool.and_eq_true, Bool.and_eq_true, beq_iff_eq, Bool.not_eq_true'] at hr
  exact ⟨by omega, hr.2.1⟩

def el (m : Int) : S91 := ⟨m, m + 1, m + 1 + 1, m + 1 + 1 + 1, m + 1 + 1 + 1 + 1⟩
theorem rdB_set {L : List S91} {i : Nat} (h : i < L.length) (v : S91) : rd_T91 (L.set i v) (i : Int) = v := by
  rw [rdB_nat, List.getD_eq_getElem?_getD, List.getElem?_set_self h]
  rfl
theorem markA_loop (m : Int) (h0 : 0 ≤ m) (h1 : m ≤ 1000000000) (n : Nat) (hn : n ≤ 1048576) : ∀ (d k i : Nat) (L : List S91), L.length = n → i ≤ n → (∀ j, j < i → L[j]? = some (el (m + 5 * j))) → n - i = d → d < k →
    ∃ L', laws_markAccessS.l0 k L (m + 5 * i) (i : Int) = some (m + 5 * n, L') ∧ L'.length = n ∧ ∀ j, j < n → L'[j]? = some (el (m + 5 * j)) := by
  intro d
  induction d with
  | zero =>
    intro k i L hl hi hj hd hk
    obtain ⟨k, rfl⟩ : ∃ m, k = m + 1 := ⟨k - 1, by omega⟩
    simp only [laws_markAccessS.l0]
    rw [if_neg (by omega)]
    exact ⟨L, by rw [show i = n from by omega], hl, fun j hj' => hj j (by omega)⟩
  | succ d ih =>
    intro k i L hl hi hj hd hk
    obtain ⟨k, rfl⟩ : ∃ m, k = m + 1 := ⟨k - 1, by omega⟩
    have hlt : i < L.length := by omega
    obtain ⟨M, hM⟩ : ∃ M : Int, M = m + 5 * i := ⟨_, rfl⟩
    have w1 : wrap64 (M + 1) = M + 1 := wrap_in (by omega) (by omega)
    have w2 : wrap64 (M + 1 + 1) = M + 1 + 1 := wrap_in (by omega) (by omega)
    have w3 : wrap64 (M + 1 + 1 + 1) = M + 1 + 1 + 1 := wrap_in (by omega) (by omega)
    have w4 : wrap64 (M + 1 + 1 + 1 + 1) = M + 1 + 1 + 1 + 1 := wrap_in (by omega) (by omega)
    have w5 : wrap64 (M + 1 + 1 + 1 + 1 + 1) = m + 5 * ((i + 1 : Nat) : Int) := by rw [wrap_in (by omega) (by omega)]; omega
    rw [← hM]
    simp only [laws_markAccessS.l0]
    rw [if_pos (by omega), if_pos (by omega), wnat (by omega)]
    simp only [Option.bind_some, Int.toNat_natCast, rdB_set hlt, List.set_set, w1, w2, w3, w4, w5]
    refine ih k (i + 1) _ (by rw [List.length_set]; exact hl) (by omega) ?_ (by omega) (by omega)
    intro j hj'
    by_cases e : j = i
    · subst e
      rw [List.getElem?_set_self (by omega), ← hM]
      rfl
    · rw [List.getElem?_set_ne (by omega)]
      exact hj j (by omega)
theorem heldA_loop (m : Int) (h0 : 0 ≤ m) (h1 : m ≤ 1000000000) (n : Nat) (hn : n ≤ 1048576) (L : List S91) (hl : L.length = n) (hj : ∀ j, j < n → L[j]? = some (el (m + 5 * j))) : ∀ (d k i : Nat), i ≤ n → n - i = d → d < k →
    laws_heldAccessS.l0 k L (m + 5 * i) (i : Int) = some (m + 5 * n) := by
  intro d
  induction d with
  | zero =>
    intro k i hi hd hk
    obtain ⟨k, rfl⟩ : ∃ m, k = m + 1 := ⟨k - 1, by omega⟩
    simp only [laws_heldAccessS.l0]
    rw [if_neg (by omega), show i = n from by omega]
  | succ d ih =>
    intro k i hi hd hk
    obtain ⟨k, rfl⟩ : ∃ m, k = m + 1 := ⟨k - 1, by omega⟩
    obtain ⟨M, hM⟩ : ∃ M : Int, M = m + 5 * i := ⟨_, rfl⟩
    have w1 : wrap64 (M + 1) = M + 1 := wrap_in (by omega) (by omega)
    have w2 : wrap64 (M + 1 + 1) = M + 1 + 1 := wrap_in (by omega) (by omega)
    have w3 : wrap64 (M + 1 + 1 + 1) = M + 1 + 1 + 1 := wrap_in (by omega) (by omega)
    have w4 : wrap64 (M + 1 + 1 + 1 + 1) = M + 1 + 1 + 1 + 1 := wrap_in (by omega) (by omega)
    have w5 : wrap64 (M + 1 + 1 + 1 + 1 + 1) = m + 5 * ((i + 1 : Nat) : Int) := by rw [wrap_in (by omega) (by omega)]; omega
    have er : rd_T91 L (i : Int) = el M := by
      rw [rdB_nat, List.getD_eq_getElem?_getD, hj i (by omega), hM]
      rfl
    rw [← hM]
    simp only [laws_heldAccessS.l0]
    rw [if_pos (by omega), if_pos (by omega), wnat (by omega)]
    simp only [er, el, w1, w2, w3, w4, w5, if_true]
    exact ih k (i + 1) (by omega) (by omega) (by omega)
/-- A log that is marked, and held so. -/
theorem markA (l : List S91) (k : Nat) (m : Int) (h0 : 0 ≤ m) (h1 : m ≤ 1000000000) (hm : l.length ≤ 1048576) (hk : l.length < k) :
    ∃ L, laws_markAccessS.f k l m = some (m + 5 * l.length, L) ∧ L.length = l.length ∧ ∀ k', l.length < k' → laws_heldAccessS.f k' L m = some (m + 5 * l.length) := by
  have h := markA_loop m h0 h1 l.length hm l.length k 0 l rfl (by omega) (fun j hj => by omega) (by omega) hk
  rw [show m + 5 * ((0 : Nat) : Int) = m from by omega] at h
  obtain ⟨L, e, hl, hj⟩ := h
  refine ⟨L, e, hl, fun k' hk' => ?_⟩
  have g := heldA_loop m h0 h1 l.length hm L hl hj l.length k' 0 (by omega) (by omega) hk'
  rw [show m + 5 * ((0 : Nat) : Int) = m from by omega] at g
  exact g

theorem log_loop_eq (l : List S91) (a : Int) (hm : l.length ≤ 1048576) : ∀ (d k i : Nat) (acc : List S91), i ≤ l.length → acc.length ≤ i → l.length - i = d → d < k → spec_LogOf.l0 k a acc l (l.length : Int) (i : Int) = some (acc ++ (l.drop i).filter (fun x => x.f0 == a), true) := by
  intro d
  induction d with
  | zero =>
    intro k i acc hi ha hd hk
    obtain ⟨k, rfl⟩ : ∃ m, k = m + 1 := ⟨k - 1, by omega⟩
    simp only [spec_LogOf.l0]
    rw [if_neg (by omega), List.drop_eq_nil_of_le (by omega)]
    simp
  | succ d ih =>
    intro k i acc hi ha hd hk
    obtain ⟨k, rfl⟩ : ∃ m, k = m + 1 := ⟨k - 1, by omega⟩
    have hlt : i < l.length := by omega
    have er : rd_T91 l (i : Int) = l[i] := by
      rw [rdB_nat, List.getD_eq_getElem?_getD, List.getElem?_eq_getElem hlt]
      rfl
    simp only [spec_LogOf.l0]
    rw [if_pos (by omega), if_pos (by omega), if_pos (by omega), er, wnat (by omega), List.drop_eq_getElem_cons hlt, List.filter_cons]
    by_cases c : l[i].f0 = a
    · rw [if_pos c, if_pos (by omega), if_pos (by simp [c])]
      have h := ih k (i + 1) (acc ++ [l[i]]) (by omega) (by rw [List.length_append, List.length_singleton]; omega) (by omega) (by omega)
      rw [List.append_assoc, List.singleton_append] at h
      exact h
    · rw [if_neg c, if_neg (by simp [c])]
      exact ih k (i + 1) acc (by omega) (by omega) (by omega) (by omega)
theorem logOf_eq (b : List Int) (l : List S91) (a : Int) (k : Nat) (hb : b.length ≤ 1048576) (hl : l.length ≤ 1048576) (hk : b.length + l.length + 3 < k) :
    ∃ x y, x.length ≤ l.length ∧ spec_LogOf.f k b l a = some (x, y) ∧ impl_LogOf.f b l a = some (x, y) := by
  obtain ⟨t, e1, e2, _⟩ := goodBus_eq b l k hb hl (by omega)
  obtain ⟨k, rfl⟩ : ∃ n, k = n + 1 := ⟨k - 1, by omega⟩
  unfold spec_LogOf.f impl_LogOf.f
  rw [e1, e2, Option.bind_some, Option.bind_some]
  cases t
  · exact ⟨[], false, Nat.zero_le _, by simp [spec_LogOf.j0], by simp⟩
  · rw [if_pos rfl, if_pos rfl, sin, iin, Option.bind_some, Option.bind_some]
    by_cases h : 1 ≤ a ∧ a ≤ 3
    · have h2 := log_loop_eq l a hl l.length k 0 [] (by omega) (by simp) (by omega) (by omega)
      rw [List.drop_zero, List.nil_append] at h2
      refine ⟨l.filter (fun x => x.f0 == a), true, List.length_filter_le _ _, ?_, ?_⟩
      · rw [decide_eq_true h]
        simp only [Bool.not_true, spec_LogOf.j0, Bool.false_eq_true, if_false]
        exact h2
      · rw [decide_eq_true h, if_pos rfl]
    · exact ⟨[], false, Nat.zero_le _, by simp [spec_LogOf.j0, h], by simp [h]⟩
theorem FnExactLogOf (b : List Int) (l : List S100) (a : Int) (hb : b.length ≤ maxLen ∧ ∀ x ∈ b, (Lit.int .i64 x).wf = true) (hl : l.length ≤ maxLen) (_ : (Lit.int .i64 a).wf = true) : ∃ k, laws_FnExactLogOf.f k b l a = some true := by
  refine ⟨b.length + l.length + 100, ?_⟩
  unfold laws_FnExactLogOf.f
  obtain ⟨r, hr, _, hs⟩ := szB b l 1048576 (by omega) (by omega) hb.1 hl
  rw [hr, Option.bind_some]
  by_cases c : r < 0
  · rw [if_pos c]
  · rw [if_neg c]
    obtain ⟨h1, h2⟩ := hs c
    have h3 : (l.map conv).length ≤ 1048576 := by rw [List.length_map]; exact h2
    have h4 : (l.map conv).length = l.length := List.length_map _
    have tb : ∀ k, b.length + l.length + 50 ≤ k → laws_toBus.f k b l = some (b, l.map conv) := fun k hk => toB b l k h1 h2 (by omega)
    have eb : ∀ k, b.length + l.length + 50 ≤ k → laws_eqBus.f k b (l.map conv) b (l.map conv) = some true := fun k hk => eqB b (l.map conv) k h1 h3 (by omega)
    generalize hK : b.length + l.length + 100 = K
    obtain ⟨x, y, hx, s1, i1⟩ := logOf_eq b (l.map conv) a K h1 h3 (by omega)
    have er : ∀ k, b.length + l.length + 50 ≤ k → laws_eqAccessS.f k x x = some true := fun k hk => eqAS x k (by omega) (by omega)
    rw [tb K (by omega), Option.bind_some, s1, Option.bind_some, Option.bind_some, i1, Option.bind_some, er K (by omega), Option.bind_some, if_pos rfl]
    rw [show (y != y) = false from by simp]
    obtain ⟨K, rfl⟩ : ∃ m, K = m + 3 := ⟨K - 3, by omega⟩
    obtain ⟨Lb, mb1, _⟩ := markI0 b (K + 2) 1 (by omega) (by omega) h1 (by omega)
    obtain ⟨Ll, ml1, _, _⟩ := markA (l.map conv) (K + 2) (1 + b.length) (by omega) (by omega) h3 (by omega)
    rw [laws_FnExactLogOf.j0, if_neg (by simp), tb _ (by omega), Option.bind_some, eb _ (by omega), Option.bind_some, if_pos rfl]
    unfold laws_markBus.f
    rw [mb1, Option.bind_some, ml1, Option.bind_some, Option.bind_some, if_neg (by show ¬ ((1 : Int) + (b.length : Int) + 5 * ((l.map conv).length : Int) < 0); omega), er _ (by omega), Option.bind_some, if_pos rfl]
    rw [show (y != y) = false from by simp]
    obtain ⟨Lr, mr1, _, hr1⟩ := markA x (K + 1) 1 (by omega) (by omega) (by omega) (by omega)
    rw [laws_FnExactLogOf.j1, if_neg (by simp), mr1, Option.bind_some, hr1 _ (by omega), Option.bind_some, if_neg (by omega), if_pos rfl, tb _ (by omega), Option.bind_some, i1, Option.bind_some, er _ (by omega), Option.bind_some, if_pos rfl]
    rw [show (y != y) = false from by simp]
    rw [laws_FnExactLogOf.j2, if_neg (by simp), hr1 _ (by omega), Option.bind_some, if_neg (by omega), if_pos rfl]
end Go.Proofs.Ytdpbfjcfpgbbjaa.Pure
