/- Masks on an int; which bits are no number; the tape's NaNs. -/
import Derived.Test.Qxb6500378aDoorQuPlain
namespace Go.Qu
set_option linter.unusedVariables false
set_option linter.unusedSimpArgs false
open Ieee Go.RowKit

theorem ofInt64 (b : Int) : (BitVec.ofInt 64 b).toNat = (b % 18446744073709551616).toNat := by
  rw [BitVec.toNat_ofInt]; rfl
theorem and_mask (b : Int) (k : Nat) (hk : k ≤ 63) (m : Int) (hm : m = ((2 ^ k - 1 : Nat) : Int)) : bits .and .i64 b m = b % ((2 ^ k : Nat) : Int) := by
  subst hm
  have h2 : 2 ^ k ≤ 2 ^ 63 := Nat.pow_le_pow_right (by decide) hk
  have h1 : 0 < 2 ^ k := Nat.two_pow_pos k
  have e1 : (BitVec.ofInt 64 ((2 ^ k - 1 : Nat) : Int)).toNat = 2 ^ k - 1 := by rw [ofInt64]; omega
  have e2 : (BitVec.ofInt 64 b &&& BitVec.ofInt 64 ((2 ^ k - 1 : Nat) : Int)).toNat = (b % ((2 ^ k : Nat) : Int)).toNat := by
    rw [BitVec.toNat_and, e1, ofInt64, Nat.and_two_pow_sub_one_eq_mod]
    have h3 : (18446744073709551616 : Nat) = 2 ^ k * 2 ^ (64 - k) := by
      rw [← Nat.pow_add]; have : k + (64 - k) = 64 := by omega
      rw [this]
    have h4 : ((b % 18446744073709551616).toNat : Int) % ((2 ^ k : Nat) : Int) = b % ((2 ^ k : Nat) : Int) := by
      rw [Int.toNat_of_nonneg (by omega)]
      have : (18446744073709551616 : Int) = ((2 ^ k : Nat) : Int) * ((2 ^ (64 - k) : Nat) : Int) := by rw [← Int.natCast_mul, ← h3]; rfl
      rw [this, Int.emod_emod_of_dvd _ (Int.dvd_mul_right _ _)]
    have h5 : (((b % 18446744073709551616).toNat % 2 ^ k : Nat) : Int) = b % ((2 ^ k : Nat) : Int) := by rw [Int.natCast_emod]; exact h4
    omega
  show IntKind.i64.wrap _ = _
  have e3 : ((BitVec.ofInt 64 b &&& BitVec.ofInt 64 ((2 ^ k - 1 : Nat) : Int)).toNat : Int) = b % ((2 ^ k : Nat) : Int) := by
    rw [e2, Int.toNat_of_nonneg (Int.emod_nonneg _ (by omega))]
  have e4 : b % ((2 ^ k : Nat) : Int) < ((2 ^ k : Nat) : Int) := Int.emod_lt_of_pos _ (by omega)
  have e5 : 0 ≤ b % ((2 ^ k : Nat) : Int) := Int.emod_nonneg _ (by omega)
  have : IntKind.i64.wrap ((BitVec.ofInt 64 b &&& BitVec.ofInt 64 ((2 ^ k - 1 : Nat) : Int)).toNat : Int) = b % ((2 ^ k : Nat) : Int) := by
    rw [e3, IntKind.wrap_i64]; omega
  exact this
theorem and_mag (b : Int) : bits .and .i64 b 9223372036854775807 = b % 9223372036854775808 := and_mask b 63 (by decide) _ (by decide +kernel)
theorem and_32 (b : Int) : bits .and .i64 b 4294967295 = b % 4294967296 := and_mask b 32 (by decide) _ (by decide +kernel)
theorem and_31 (b : Int) : bits .and .i64 b 2147483647 = b % 2147483648 := and_mask b 31 (by decide) _ (by decide +kernel)
theorem and_52 (b : Int) : bits .and .i64 b 4503599627370495 = b % 4503599627370496 := and_mask b 52 (by decide) _ (by decide +kernel)
theorem and_23 (b : Int) : bits .and .i64 b 8388607 = b % 8388608 := and_mask b 23 (by decide) _ (by decide +kernel)
theorem and_11 (b : Int) : bits .and .i64 b 2047 = b % 2048 := and_mask b 11 (by decide) _ (by decide +kernel)
theorem and_8 (b : Int) : bits .and .i64 b 255 = b % 256 := and_mask b 8 (by decide) _ (by decide +kernel)
theorem and_1 (b : Int) : bits .and .i64 b 1 = b % 2 := and_mask b 1 (by decide) _ (by decide +kernel)

theorem signWeight_double : double.signWeight = 9223372036854775808 := by decide +kernel
theorem infRung_double : double.infRung = 9218868437227405312 := by decide +kernel
theorem binade_double : double.binade = 4503599627370496 := by decide +kernel
theorem signWeight_single : single.signWeight = 2147483648 := by decide +kernel
theorem infRung_single : single.infRung = 2139095040 := by decide +kernel
theorem binade_single : single.binade = 8388608 := by decide +kernel

theorem num_iff (x : Nat) : num x = decide (x % 9223372036854775808 ≤ 9218868437227405312) := by
  have h1 := signWeight_double
  have h2 := infRung_double
  have h3 := binade_double
  unfold num Format.read
  rw [h1, h2, h3]
  dsimp only
  split
  · symm; simp [Datum.isNaN]; omega
  · split
    · symm; simp [Datum.isNaN]; omega
    · split
      · symm; simp [Datum.isNaN]; omega
      · symm; simp [Datum.isNaN]; omega
theorem num32_iff (x : Nat) : num32 x = decide (x % 2147483648 ≤ 2139095040) := by
  have h1 := signWeight_single
  have h2 := infRung_single
  have h3 := binade_single
  unfold num32 Format.read
  rw [h1, h2, h3]
  dsimp only
  split
  · symm; simp [Datum.isNaN]; omega
  · split
    · symm; simp [Datum.isNaN]; omega
    · split
      · symm; simp [Datum.isNaN]; omega
      · symm; simp [Datum.isNaN]; omega
theorem u64_eq (b : Int) : u64 b = (b % 18446744073709551616).toNat := by unfold u64; rw [IntKind.wrap_u64]
theorem isNaN_num (b : Int) : decide (9218868437227405312 < b % 9223372036854775808) = !num (u64 b) := by
  rw [num_iff, u64_eq]
  rw [Bool.eq_iff_iff]; simp; omega

theorem nan_back (n : Nat) (hn : num n = false) (hb : n < 18446744073709551616) : (!num (u64 (wrap64 n))) = true := by
  have : u64 (wrap64 n) = n := by rw [u64_eq]; unfold wrap64; omega
  rw [this, hn]; rfl

/-- the NaN that the tape gives where min or max meets one -/
def nanMM (isMax : Bool) (x y : Nat) (w : World) : Nat := (Question.nanMinMax .f64 isMax x y).cut (w.tape w.drawn (.nanMinMax .f64 isMax x y))
theorem nanMM_bits (m : Bool) (x y : Nat) (w : World) : num (nanMM m x y w) = false ∧ nanMM m x y w < 18446744073709551616 := by
  rw [num_iff]
  unfold nanMM Question.cut
  dsimp only
  generalize w.tape w.drawn (.nanMinMax .f64 m x y) = t
  have key : ∀ a c : Nat, a < 4503599627370495 → c < 2 → ¬ ((c * 9223372036854775808 + 9218868437227405312 + 1 + a) % 9223372036854775808 ≤ 9218868437227405312) ∧ c * 9223372036854775808 + 9218868437227405312 + 1 + a < 18446744073709551616 := by omega
  have h := key (t / 2 % 4503599627370495) (t % 2) (Nat.mod_lt _ (by decide)) (Nat.mod_lt _ (by decide))
  exact ⟨decide_eq_false h.1, h.2⟩

theorem order_nan_left {x : Nat} (y : Nat) (hx : num x = false) : double.order x y = none := by
  unfold num at hx
  unfold Format.order
  cases hd : double.read x with
  | nan s t => cases double.read y <;> rfl
  | number s m i => rw [hd] at hx; simp [Datum.isNaN] at hx
  | infinity s => rw [hd] at hx; simp [Datum.isNaN] at hx
theorem order_nan_right (x : Nat) {y : Nat} (hy : num y = false) : double.order x y = none := by
  unfold num at hy
  unfold Format.order
  cases hd : double.read y with
  | nan s t => cases double.read x <;> rfl
  | number s m i => rw [hd] at hy; simp [Datum.isNaN] at hy
  | infinity s => rw [hd] at hy; simp [Datum.isNaN] at hy
section
variable {P : Program} (w : World)
theorem run_max_nan (ts : Array TypeId) (t : TypeId) (x y : Nat) (h : double.order x y = none) :
    (Builtin.max_ ts t #[.float .f64 x, .float .f64 y]).run P w = .ok (.float .f64 (nanMM true x y w)) w.drew := by
  have ho' : FloatKind.f64.format.order x y = none := h
  simp [Builtin.max_, Builtin.max2, ho']; rfl
theorem run_min_nan (ts : Array TypeId) (t : TypeId) (x y : Nat) (h : double.order x y = none) :
    (Builtin.min_ ts t #[.float .f64 x, .float .f64 y]).run P w = .ok (.float .f64 (nanMM false x y w)) w.drew := by
  have ho' : FloatKind.f64.format.order x y = none := h
  simp [Builtin.min_, Builtin.min2, ho']; rfl
end
end Go.Qu
