/- The model's small functions on bits: what they compute. -/
import Derived.Test.Qxb6500376aDoorQuMask
import Derived.Test.Qxb6500376aDoorQuMem
import Derived.Test.Qxb6500376aDoorProg
namespace Go.Proofs.Qxb6500376aDoor
set_option linter.unusedVariables false
set_option linter.unusedSimpArgs false
open Go.RowKit Go.Qu

theorem and63 (b : Int) : bits .and .i64 b 9223372036854775807 = b % 9223372036854775808 := and_maskN b 63 (by omega)
theorem and52 (b : Int) : bits .and .i64 b 4503599627370495 = b % 4503599627370496 := and_maskN b 52 (by omega)
theorem and32 (b : Int) : bits .and .i64 b 4294967295 = b % 4294967296 := and_maskN b 32 (by omega)
theorem and31 (b : Int) : bits .and .i64 b 2147483647 = b % 2147483648 := and_maskN b 31 (by omega)
theorem and23 (b : Int) : bits .and .i64 b 8388607 = b % 8388608 := and_maskN b 23 (by omega)
theorem and11 (b : Int) : bits .and .i64 b 2047 = b % 2048 := and_maskN b 11 (by omega)
theorem and8 (b : Int) : bits .and .i64 b 255 = b % 256 := and_maskN b 8 (by omega)
theorem and1 (b : Int) : bits .and .i64 b 1 = b % 2 := and_maskN b 1 (by omega)

theorem isNaNm_any (b : Int) (w : World) : Calls Tryd.prog 39 #[.int .i64 b] w fun e w' => e = .returned (.bool (decide (9218868437227405312 < mg b))) ∧ w' = w := by
  have e1 := and63 b
  have e2 : (mg b : Int) = b % 9223372036854775808 := by unfold mg; omega
  have e3 : decide (9218868437227405312 < mg b) = decide (9218868437227405312 < b % 9223372036854775808) := by rw [← e2]; exact decide_eq_decide.2 (by omega)
  rw [e3]
  clear e2 e3
  go_enter Tryd.func39, Tryd.ntmps39
  go_wp2
  go_ret
  exact ⟨rfl, rfl⟩
end Go.Proofs.Qxb6500376aDoor
