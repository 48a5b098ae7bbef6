/- Go's & and | on an int where they are a remainder and a sum. -/
import Derived.Test.Qxb6500376aDoorQuScale
namespace Go.Qu
set_option linter.unusedVariables false
set_option linter.unusedSimpArgs false
open Ieee Go.RowKit

theorem and_maskN (x : Int) (k : Nat) (hk : k ≤ 63) : bits .and .i64 x ((2 ^ k - 1 : Nat) : Int) = x % ((2 ^ k : Nat) : Int) := by
  have hp := Nat.two_pow_pos k
  have hle : 2 ^ k ≤ 2 ^ 63 := Nat.pow_le_pow_right (by omega) hk
  have e1 : ((((2 ^ k - 1 : Nat) : Int)) % ((2 ^ 64 : Nat) : Int)).toNat = 2 ^ k - 1 := by omega
  show IntKind.i64.wrap (((BitVec.ofInt 64 x &&& BitVec.ofInt 64 ((2 ^ k - 1 : Nat) : Int)).toNat : Nat) : Int) = _
  rw [BitVec.toNat_and, BitVec.toNat_ofInt, BitVec.toNat_ofInt, e1, Nat.and_two_pow_sub_one_eq_mod]
  have hm : (x % ((2 ^ 64 : Nat) : Int)).toNat % 2 ^ k < 2 ^ k := Nat.mod_lt _ hp
  rw [IntKind.wrap_i64]
  have e2 : (((x % ((2 ^ 64 : Nat) : Int)).toNat % 2 ^ k : Nat) : Int) = x % ((2 ^ k : Nat) : Int) := by
    rw [Int.natCast_emod, Int.toNat_of_nonneg (Int.emod_nonneg _ (by decide))]
    apply Int.emod_emod_of_dvd
    exact Int.natCast_dvd_natCast.2 (Nat.pow_dvd_pow 2 (by omega))
  rw [e2]
  have h1 := Int.emod_nonneg x (by omega : ((2 ^ k : Nat) : Int) ≠ 0)
  have h2 := Int.emod_lt_of_pos x (by omega : (0 : Int) < ((2 ^ k : Nat) : Int))
  omega
theorem or_sum (a : Int) (b k : Nat) (hk : k ≤ 63) (hb : b < 2 ^ k) (ha : a % ((2 ^ k : Nat) : Int) = 0) (h1 : -9223372036854775808 ≤ a) (h2 : a + b ≤ 9223372036854775807) : bits .or .i64 a b = a + b := by
  have hp := Nat.two_pow_pos k
  have hle : 2 ^ k ≤ 2 ^ 63 := Nat.pow_le_pow_right (by omega) hk
  have e1 : (((b : Int)) % ((2 ^ 64 : Nat) : Int)).toNat = b := by omega
  show IntKind.i64.wrap (((BitVec.ofInt 64 a ||| BitVec.ofInt 64 (b : Int)).toNat : Nat) : Int) = _
  rw [BitVec.toNat_or, BitVec.toNat_ofInt, BitVec.toNat_ofInt, e1]
  have hd : 2 ^ k ∣ (a % ((2 ^ 64 : Nat) : Int)).toNat := by
    have h3 : ((2 ^ k : Nat) : Int) ∣ a % ((2 ^ 64 : Nat) : Int) := by
      have h4 : ((2 ^ k : Nat) : Int) ∣ a := Int.dvd_of_emod_eq_zero ha
      have h5 : ((2 ^ k : Nat) : Int) ∣ ((2 ^ 64 : Nat) : Int) := Int.natCast_dvd_natCast.2 (Nat.pow_dvd_pow 2 (by omega))
      have h6 := Int.emod_def a ((2 ^ 64 : Nat) : Int)
      rw [h6]
      exact Int.dvd_sub h4 (Int.dvd_trans h5 (Int.dvd_mul_right _ _))
    have h4 : ((a % ((2 ^ 64 : Nat) : Int)).toNat : Int) = a % ((2 ^ 64 : Nat) : Int) := Int.toNat_of_nonneg (Int.emod_nonneg _ (by decide))
    rw [← h4] at h3
    exact Int.natCast_dvd_natCast.1 h3
  obtain ⟨q, hq⟩ := hd
  have e2 : (a % ((2 ^ 64 : Nat) : Int)).toNat ||| b = (a % ((2 ^ 64 : Nat) : Int)).toNat + b := by
    rw [hq, Nat.two_pow_add_eq_or_of_lt hb]
  rw [e2, IntKind.wrap_i64]
  omega
end Go.Qu
