/- Plain facts on whole numbers for this seat's proofs: bounds of an int, masks and joins of Go's bit operations, shifts of 1. No condition beside what each states. -/
import Derived.Laws.BitsLemmas
import Derived.RowKit
import Derived.Test.YtnopjkkglanlfaaDoorWMore
namespace Go.Proofs.YtnopjkkglanlfaaDoor.Bt
open Go Go.RowKit Go.Proofs.YtnopjkkglanlfaaDoorW.PrintWords

theorem wf64 {a : Int} (h : (Lit.int .i64 a).wf = true) : -9223372036854775808 ≤ a ∧ a ≤ 9223372036854775807 := by
  simpa [Lit.wf, IntKind.min, IntKind.max, IntKind.bits, IntKind.signed] using h

/-- A bind behind a test: the test behind the bind. -/
theorem ite_bind {α β : Type} (c : Prop) [Decidable c] (a b : Option α) (f : α → Option β) : (if c then a else b).bind f = if c then a.bind f else b.bind f := by
  split <;> rfl
theorem wrap_in {n : Int} (h0 : -9223372036854775808 ≤ n) (h1 : n ≤ 9223372036854775807) : wrap64 n = n := by
  unfold wrap64; omega
theorem i64_in {n : Int} (h0 : -9223372036854775808 ≤ n) (h1 : n ≤ 9223372036854775807) : IntKind.i64.wrap n = n := by
  rw [IntKind.wrap_i64]; omega
theorem wraps_i64 (n : Int) (h₀ : 0 ≤ n) (h₁ : n < 2 ^ 62) : IntKind.i64.wrap n = n := by
  rw [IntKind.wrap_i64]; omega

theorem toNat64 (x : Int) : (BitVec.ofInt 64 x).toNat = (x % 18446744073709551616).toNat := by
  rw [BitVec.toNat_ofInt]; rfl

/-- A mask of the lowest places, of any int. -/
theorem and_mask (i : Nat) (hi : i ≤ 62) (x : Int) : bits .and .i64 x ((2 : Int) ^ i - 1) = x % (2 : Int) ^ i := by
  have hpos : 0 < 2 ^ i := Nat.two_pow_pos i
  have hle : (2 : Nat) ^ i ≤ 2 ^ 62 := Nat.pow_le_pow_right (by decide) hi
  have hd : (2 : Nat) ^ i ∣ 2 ^ 64 := Nat.pow_dvd_pow 2 (by omega)
  have hc : ((2 : Int) ^ i - 1) = ((2 ^ i - 1 : Nat) : Int) := by rw [Int.natCast_sub hpos]; simp
  have hcast : ((2 : Int) ^ i) = ((2 ^ i : Nat) : Int) := by simp
  have hm : (BitVec.ofInt 64 ((2 : Int) ^ i - 1)).toNat = 2 ^ i - 1 := by
    rw [hc, BitVec.ofInt_natCast, BitVec.toNat_ofNat]; exact Nat.mod_eq_of_lt (by omega)
  show IntKind.i64.wrap ((BitVec.ofInt 64 x &&& BitVec.ofInt 64 ((2 : Int) ^ i - 1)).toNat) = _
  rw [BitVec.toNat_and, hm, Nat.and_two_pow_sub_one_eq_mod]
  have hx : (((BitVec.ofInt 64 x).toNat % 2 ^ i : Nat) : Int) = x % (2 : Int) ^ i := by
    have h64 : ((BitVec.ofInt 64 x).toNat : Int) = x % ((2 ^ 64 : Nat) : Int) := by
      rw [BitVec.toNat_ofInt]
      exact Int.toNat_of_nonneg (Int.emod_nonneg _ (by decide))
    rw [Int.natCast_emod, h64, hcast]
    exact Int.emod_emod_of_dvd x (Int.natCast_dvd_natCast.2 hd)
  rw [hx]
  have h0 : 0 ≤ x % (2 : Int) ^ i := Int.emod_nonneg _ (by rw [hcast]; omega)
  have h1 : x % (2 : Int) ^ i < (2 : Int) ^ i := Int.emod_lt_of_pos _ (by rw [hcast]; omega)
  refine i64_in (by omega) ?_
  rw [hcast] at h1 h0 ⊢
  omega

theorem and1 (x : Int) : bits .and .i64 x 1 = x % 2 := and_mask 1 (by decide) x
theorem and3 (x : Int) : bits .and .i64 x 3 = x % 4 := and_mask 2 (by decide) x
theorem and7 (x : Int) : bits .and .i64 x 7 = x % 8 := and_mask 3 (by decide) x
theorem and15 (x : Int) : bits .and .i64 x 15 = x % 16 := and_mask 4 (by decide) x
theorem and31 (x : Int) : bits .and .i64 x 31 = x % 32 := and_mask 5 (by decide) x
theorem and255 (x : Int) : bits .and .i64 x 255 = x % 256 := and_mask 8 (by decide) x
theorem and65535 (x : Int) : bits .and .i64 x 65535 = x % 65536 := and_mask 16 (by decide) x

/-- A join of a number that has only high places with one that has only low ones. -/
theorem or_join (i : Nat) (x y : Int) (hx₀ : 0 ≤ x) (hx : x % 2 ^ i = 0) (hx₁ : x < 2 ^ 62) (hy₀ : 0 ≤ y) (hy : y < 2 ^ i) (hy₁ : y < 2 ^ 62) : bits .or .i64 x y = x + y :=
  bits_join .i64 62 (by decide) wraps_i64 i x y hx₀ hx hx₁ hy₀ hy hy₁

end Go.Proofs.YtnopjkkglanlfaaDoor.Bt
