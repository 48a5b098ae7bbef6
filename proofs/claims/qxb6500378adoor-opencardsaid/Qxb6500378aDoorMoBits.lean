/- The model's small functions on bits: what they compute. -/
import Derived.Test.Qxb6500378aDoorQuMask
import Derived.Test.Qxb6500378aDoorQuMem
import Derived.Test.Qxb6500378aDoorProg
namespace Go.Proofs.Qxb6500378aDoor
set_option linter.unusedVariables false
set_option linter.unusedSimpArgs false
open Go.RowKit Go.Qu

theorem and63 (b : Int) : bits .and .i64 b 9223372036854775807 = b % 9223372036854775808 := and_maskN b 63 (by omega)
theorem and52 (b : Int) : bits .and .i64 b 4503599627370495 = b % 4503599627370496 := and_maskN b 52 (by omega)
theorem and32 (b : Int) : bits .and .i64 b 4294967295 = b % 4294967296 := and_maskN b 32 (by omega)
theorem and31 (b : Int) : bits .and .i64 b 2147483647 = b % 2147483648 := and_maskN b 31 (by omega)
theorem and23 (b : Int) : bits .and .i64 b 8388607 = b % 8388608 := and_maskN b 23 (by omega)
theorem and11 (b : Int) : bits .and .i64 b 2047 = b % 2048 := and_maskN b 11 (by omega)
theorem and8 (b : Int) : bits .and .i64 b 255 = b % 256 := and_maskN b 8 (by omega)
theorem and1 (b : Int) : bits .and .i64 b 1 = b % 2 := and_maskN b 1 (by omega)

theorem isNaNm_any (b : Int) (w : World) : Calls Tryd.prog 76 #[.int .i64 b] w fun e w' => e = .returned (.bool (decide (9218868437227405312 < mg b))) ∧ w' = w := by
  have e1 := and63 b
  have e2 : (mg b : Int) = b % 9223372036854775808 := by unfold mg; omega
  have e3 : decide (9218868437227405312 < mg b) = decide (9218868437227405312 < b % 9223372036854775808) := by rw [← e2]; exact decide_eq_decide.2 (by omega)
  rw [e3]
  clear e2 e3
  go_enter Tryd.func76, Tryd.ntmps76
  go_wp2
  go_ret
  exact ⟨rfl, rfl⟩
theorem isNaN32_any (b : Int) (w : World) : Calls Tryd.prog 77 #[.int .i64 b] w fun e w' => e = .returned (.bool (decide (2139095040 < b % 2147483648))) ∧ w' = w := by
  have e1 := and31 b
  go_enter Tryd.func77, Tryd.ntmps77
  go_wp2
  go_ret
  exact ⟨rfl, rfl⟩
/-- Nearest, 1 <= sh <= 62, of a magnitude below 2^62 -/
theorem nearest_any (m sh : Nat) (w : World) (hm : m < 4611686018427387904) (h1 : 1 ≤ sh) (h2 : sh ≤ 62) : Calls Tryd.prog 95 #[.int .i64 m, .int .i64 sh] w fun e w' => e = .returned (.int .i64 (nearN m sh)) ∧ w' = w := by
  obtain ⟨G, hG⟩ : ∃ G : Nat, 2 ^ (sh - 1) = G := ⟨_, rfl⟩
  have hG2 : 2 ^ sh = 2 * G := by rw [← hG, Nat.mul_comm, ← Nat.pow_succ, Nat.succ_eq_add_one, Nat.sub_add_cancel h1]
  have hGp : 0 < G := by rw [← hG]; exact Nat.two_pow_pos _
  have hGm : G ≤ 2305843009213693952 := by rw [← hG]; exact Nat.pow_le_pow_right (by omega) (by omega : sh - 1 ≤ 61)
  have hd := Nat.div_add_mod m (2 * G)
  have hr := Nat.mod_lt m (by omega : 0 < 2 * G)
  have eN : nearN m sh = m / (2 * G) + (decide (2 * G < 2 * (m % (2 * G))) || (2 * G == 2 * (m % (2 * G)) && m / (2 * G) % 2 == 1)).toNat := by unfold nearN; rw [hG2]
  rw [eN]
  generalize hq : m / (2 * G) = q at *
  generalize hrr : m % (2 * G) = r at *
  have hqm : q ≤ m := by rw [← hq]; exact Nat.div_le_self _ _
  have c1 : (m : Int) / 2 ^ sh = (q : Int) := by
    have : ((2 : Int) ^ sh) = ((2 * G : Nat) : Int) := by rw [← hG2]; exact_mod_cast rfl
    rw [this, ← hq]; rfl
  have c2 : (2 : Int) ^ (sh - 1) = (G : Int) := by rw [← hG]; exact_mod_cast rfl
  have c3 : (q : Int) * 2 ^ sh = (m : Int) - r := by
    have : ((2 : Int) ^ sh) = ((2 * G : Nat) : Int) := by rw [← hG2]; exact_mod_cast rfl
    rw [this, Int.mul_comm, ← Int.natCast_mul]; omega
  have c4 : bits .and .i64 (q : Int) 1 = (q : Int) % 2 := and1 q
  have k0 : ¬ (sh : Int) = 0 := by omega
  have k1 : ¬ (62 : Int) < sh := by omega
  have k2 : (0 : Int) ≤ sh := by omega
  obtain ⟨N, hN⟩ : ∃ N : Int, N = ((q + (decide (2 * G < 2 * r) || (2 * G == 2 * r && q % 2 == 1)).toNat : Nat) : Int) := ⟨_, rfl⟩
  have hup : (G < r ∨ (G = r ∧ q % 2 = 1)) → N = q + 1 := by
    intro h
    rw [hN]
    have : (decide (2 * G < 2 * r) || (2 * G == 2 * r && q % 2 == 1)) = true := by
      rcases h with h | ⟨h, h'⟩
      · rw [decide_eq_true (by omega)]; rfl
      · rw [h, h']; simp
    rw [this]; rfl
  have hno : ¬ (G < r ∨ (G = r ∧ q % 2 = 1)) → N = q := by
    intro h
    rw [hN]
    have : (decide (2 * G < 2 * r) || (2 * G == 2 * r && q % 2 == 1)) = false := by
      rw [decide_eq_false (by omega), Bool.false_or, Bool.and_eq_false_iff]
      by_cases h1 : G = r
      · exact .inr (by simp; omega)
      · exact .inl (by simp; omega)
    rw [this]; rfl
  rw [← hN]
  have HU : Hid ((G < r ∨ (G = r ∧ q % 2 = 1)) → N = q + 1) := hup
  have HO : Hid (¬ (G < r ∨ (G = r ∧ q % 2 = 1)) → N = q) := hno
  clear hG hG2 hd hq hrr eN hN hup hno
  go_enter Tryd.func95, Tryd.ntmps95
  go_wp2
  all_goals go_ret
  all_goals simp only [beq_iff_eq, beq_eq_false_iff_ne] at *
  all_goals first | rw [HU.out (by omega)] | rw [HO.out (by omega)]
  all_goals exact ⟨rfl, trivial⟩
end Go.Proofs.Qxb6500378aDoor
