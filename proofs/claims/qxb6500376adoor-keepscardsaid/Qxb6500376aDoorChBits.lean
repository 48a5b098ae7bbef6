/- math/bits.Add64, Sub64 at this translation, over Int. -/
import Derived.Test.Qxb6500376aDoorChJudge
namespace Go.Proofs.Qxb6500376aDoor
set_option linter.unusedVariables false
set_option linter.unusedSimpArgs false
open Go.RowKit Go.Qu

theorem sq_nonneg (v : Int) : 0 ≤ v * v := by
  rcases Int.le_total 0 v with h | h
  · exact Int.mul_nonneg h h
  · exact Int.mul_nonneg_of_nonpos_of_nonpos h h
theorem sq_le (v : Int) (h1 : -2147483648 ≤ v) (h2 : v ≤ 2147483648) : v * v ≤ 4611686018427387904 := by
  have := Int.mul_nonneg (show 0 ≤ 2147483648 - v by omega) (show 0 ≤ 2147483648 + v by omega)
  have e : (2147483648 - v) * (2147483648 + v) = 4611686018427387904 - v * v := by rw [Int.sub_mul, Int.mul_add, Int.mul_add, Int.mul_comm v 2147483648]; omega
  omega
def bor (x y : Int) : Int := if x < y then 1 else 0
theorem bor_01 (x y : Int) : 0 ≤ bor x y ∧ bor x y ≤ 1 := by unfold bor; split <;> omega
theorem x_add64_0 (x y : Int) (hx : 0 ≤ x) (hy : 0 ≤ y) (w : World) : (callFunc 53 #[.int .u64 x, .int .u64 y, .int .u64 0]).run Tryd.prog w =
    .ok (.value (.tuple #[.int .u64 ((x + y) % 18446744073709551616), .int .u64 ((x + y) / 18446744073709551616)])) w := by
  obtain ⟨X, rfl⟩ := Int.eq_ofNat_of_zero_le hx
  obtain ⟨Y, rfl⟩ := Int.eq_ofNat_of_zero_le hy
  have key : ∀ X Y : Nat, (callFunc 53 #[.int .u64 (X : Int), .int .u64 (Y : Int), .int .u64 0]).run Tryd.prog w =
    .ok (.value (Extern.MathBitsCarry.pair ((X + Y + 0) % Extern.MathBitsCarry.m64) ((X + Y + 0) / Extern.MathBitsCarry.m64))) w := fun X Y => by kernel_rfl
  rw [key]
  simp only [Extern.MathBitsCarry.pair, Extern.MathBitsCarry.m64]
  congr 5
theorem x_add64_h (x c : Int) (hx : 0 ≤ x) (h0 : 0 ≤ c) (h1 : c ≤ 1) (w : World) : (callFunc 53 #[.int .u64 x, .int .u64 0, .int .u64 c]).run Tryd.prog w =
    .ok (.value (.tuple #[.int .u64 ((x + c) % 18446744073709551616), .int .u64 ((x + c) / 18446744073709551616)])) w := by
  obtain ⟨X, rfl⟩ := Int.eq_ofNat_of_zero_le hx
  have hc : c = 0 ∨ c = 1 := by omega
  rcases hc with rfl | rfl
  · have key : ∀ X : Nat, (callFunc 53 #[.int .u64 (X : Int), .int .u64 0, .int .u64 0]).run Tryd.prog w =
      .ok (.value (Extern.MathBitsCarry.pair ((X + 0 + 0) % Extern.MathBitsCarry.m64) ((X + 0 + 0) / Extern.MathBitsCarry.m64))) w := fun X => by kernel_rfl
    rw [key]
    simp only [Extern.MathBitsCarry.pair, Extern.MathBitsCarry.m64]
    congr 5 <;> simp
  · have key : ∀ X : Nat, (callFunc 53 #[.int .u64 (X : Int), .int .u64 0, .int .u64 1]).run Tryd.prog w =
      .ok (.value (Extern.MathBitsCarry.pair ((X + 0 + 1) % Extern.MathBitsCarry.m64) ((X + 0 + 1) / Extern.MathBitsCarry.m64))) w := fun X => by kernel_rfl
    rw [key]
    simp only [Extern.MathBitsCarry.pair, Extern.MathBitsCarry.m64]
    congr 5
theorem x_sub64_0 (x y : Int) (hx : 0 ≤ x) (hy : 0 ≤ y) (hy' : y < 18446744073709551616) (w : World) : (callFunc 58 #[.int .u64 x, .int .u64 y, .int .u64 0]).run Tryd.prog w =
    .ok (.value (.tuple #[.int .u64 ((x - y) % 18446744073709551616), .int .u64 (bor x y)])) w := by
  obtain ⟨X, rfl⟩ := Int.eq_ofNat_of_zero_le hx
  obtain ⟨Y, rfl⟩ := Int.eq_ofNat_of_zero_le hy
  have key : ∀ X Y : Nat, (callFunc 58 #[.int .u64 (X : Int), .int .u64 (Y : Int), .int .u64 0]).run Tryd.prog w =
    .ok (.value (Extern.MathBitsCarry.pair ((X + Extern.MathBitsCarry.m64 - Y - 0) % Extern.MathBitsCarry.m64) (if X < Y + 0 then 1 else 0))) w := fun X Y => by kernel_rfl
  rw [key]
  have e1 : (((X + 18446744073709551616 - Y - 0) % 18446744073709551616 : Nat) : Int) = ((X : Int) - Y) % 18446744073709551616 := by omega
  have e2 : ((if X < Y + 0 then 1 else 0 : Nat) : Int) = bor X Y := by unfold bor; split <;> split <;> omega
  rw [← e1, ← e2]
  rfl
theorem x_sub64_h (x b : Int) (hx : 0 ≤ x) (h0 : 0 ≤ b) (h1 : b ≤ 1) (w : World) : (callFunc 58 #[.int .u64 x, .int .u64 0, .int .u64 b]).run Tryd.prog w =
    .ok (.value (.tuple #[.int .u64 ((x - b) % 18446744073709551616), .int .u64 (bor x b)])) w := by
  obtain ⟨X, rfl⟩ := Int.eq_ofNat_of_zero_le hx
  have hc : b = 0 ∨ b = 1 := by omega
  rcases hc with rfl | rfl
  · have key : ∀ X : Nat, (callFunc 58 #[.int .u64 (X : Int), .int .u64 0, .int .u64 0]).run Tryd.prog w =
      .ok (.value (Extern.MathBitsCarry.pair ((X + Extern.MathBitsCarry.m64 - 0 - 0) % Extern.MathBitsCarry.m64) (if X < 0 + 0 then 1 else 0))) w := fun X => by kernel_rfl
    rw [key]
    have e1 : (((X + 18446744073709551616 - 0 - 0) % 18446744073709551616 : Nat) : Int) = ((X : Int) - 0) % 18446744073709551616 := by omega
    have e2 : ((if X < 0 + 0 then 1 else 0 : Nat) : Int) = bor X 0 := by unfold bor; split <;> split <;> omega
    rw [← e1, ← e2]
    rfl
  · have key : ∀ X : Nat, (callFunc 58 #[.int .u64 (X : Int), .int .u64 0, .int .u64 1]).run Tryd.prog w =
      .ok (.value (Extern.MathBitsCarry.pair ((X + Extern.MathBitsCarry.m64 - 0 - 1) % Extern.MathBitsCarry.m64) (if X < 0 + 1 then 1 else 0))) w := fun X => by kernel_rfl
    rw [key]
    have e1 : (((X + 18446744073709551616 - 0 - 1) % 18446744073709551616 : Nat) : Int) = ((X : Int) - 1) % 18446744073709551616 := by omega
    have e2 : ((if X < 0 + 1 then 1 else 0 : Nat) : Int) = bor X 1 := by unfold bor; split <;> split <;> omega
    rw [← e1, ← e2]
    rfl
end Go.Proofs.Qxb6500376aDoor
