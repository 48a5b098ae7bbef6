/- The model's Whole: what it computes. -/
import Derived.Test.Qxb6500376aGreatDoorMoBits
namespace Go.Proofs.Qxb6500376aGreatDoor
set_option linter.unusedVariables false
set_option linter.unusedSimpArgs false
set_option exponentiation.threshold 4000
open Go.RowKit Go.Qu

theorem or_comm64 (a b : Int) : bits .or .i64 a b = bits .or .i64 b a := by
  show IntKind.i64.wrap _ = IntKind.i64.wrap _
  rw [BitVec.or_comm]
theorem or52 (m : Nat) (h : m < 4503599627370496) : bits .or .i64 (m : Int) 4503599627370496 = 4503599627370496 + m := by
  rw [or_comm64]
  exact or_sum 4503599627370496 m 52 (by omega) h (by decide) (by omega) (by omega)
theorem exp_bits (b : Int) : bits .and .i64 (b / 4503599627370496) 2047 = ((mg b / 4503599627370496 : Nat) : Int) := by
  rw [and11]
  unfold mg
  omega
theorem frac_bits (b : Int) : bits .and .i64 b 4503599627370495 = ((mg b % 4503599627370496 : Nat) : Int) := by
  rw [and52]
  unfold mg
  omega
/-- how the four ways decide, in Go's words -/
theorem more_cases (md : Int) (s : Bool) (rest gap low : Nat) : more (way md) s rest gap low =
    if md = 1 then s && rest != 0 else if md = 2 then !s && rest != 0 else if md = 3 then decide (gap < 2 * rest) || (gap == 2 * rest && low % 2 == 1) else false := by
  unfold way
  by_cases h1 : md = 1
  · rw [if_pos h1, if_pos h1]; rfl
  · rw [if_neg h1, if_neg h1]
    by_cases h2 : md = 2
    · rw [if_pos h2, if_pos h2]; rfl
    · rw [if_neg h2, if_neg h2]
      by_cases h3 : md = 3
      · rw [if_pos h3, if_pos h3]; rfl
      · rw [if_neg h3, if_neg h3]; rfl
set_option maxHeartbeats 1000000 in
theorem whole_big (b md : Int) (hb : I64 b) (w : World) (h : 1085 ≤ mg b / 4503599627370496) : Calls Tryz.prog 96 #[.int .i64 b, .int .i64 md] w fun e w' => e = .returned (.tuple #[.int .i64 (wholeM b md).1, .int .i64 (wholeM b md).2]) ∧ w' = w := by
  have e1 := exp_bits b
  have e2 := frac_bits b
  have e3 := or52 (mg b % 4503599627370496) (Nat.mod_lt _ (by decide))
  have hm := mg_lt b
  have hE : mg b / 4503599627370496 ≤ 2047 := by omega
  have hE2 : (1075 : Int) - ((mg b / 4503599627370496 : Nat) : Int) ≥ -972 := by omega
  unfold wholeM
  rw [if_pos h]
  generalize mg b / 4503599627370496 = E at *
  generalize mg b % 4503599627370496 = M at *
  have k1 : ¬ (E : Int) = 0 := by omega
  have k2 : (1075 : Int) - E ≤ -10 := by omega
  by_cases hn : b < 0
  · simp only [hn, if_true]
    go_enter Tryz.func96, Tryz.ntmps96
    go_wp2
    go_ret2
    exact ⟨rfl, rfl⟩
  · simp only [hn, if_false]
    go_enter Tryz.func96, Tryz.ntmps96
    go_wp2
    go_ret2
    exact ⟨rfl, rfl⟩
set_option maxHeartbeats 4000000 in
theorem whole_exact (b md : Int) (hb : I64 b) (w : World) (h1 : 1075 ≤ mg b / 4503599627370496) (h2 : mg b / 4503599627370496 ≤ 1084) : Calls Tryz.prog 96 #[.int .i64 b, .int .i64 md] w fun e w' => e = .returned (.tuple #[.int .i64 (wholeM b md).1, .int .i64 (wholeM b md).2]) ∧ w' = w := by
  have e1 := exp_bits b
  have e2 := frac_bits b
  have hM := Nat.mod_lt (mg b) (by decide : 0 < 4503599627370496)
  have e3 := or52 (mg b % 4503599627370496) hM
  have eW : wholeM b md = (if b < 0 then -(((4503599627370496 + mg b % 4503599627370496) * 2 ^ (mg b / 4503599627370496 - 1075) : Nat) : Int) else ((4503599627370496 + mg b % 4503599627370496) * 2 ^ (mg b / 4503599627370496 - 1075) : Nat), 0) := by
    have eN : ∀ s, wholeN (way md) s (mg b) = (4503599627370496 + mg b % 4503599627370496) * 2 ^ (mg b / 4503599627370496 - 1075) := by
      intro s
      unfold wholeN
      rw [if_neg (by omega), if_pos h1]
    unfold wholeM
    rw [if_neg (by omega), eN, eN]
  rw [eW]
  clear eW
  generalize mg b / 4503599627370496 = E at *
  generalize mg b % 4503599627370496 = M at *
  obtain ⟨S, hS⟩ : ∃ S : Nat, E - 1075 = S := ⟨_, rfl⟩
  have f1 : (1075 : Int) - (E : Int) = -(S : Int) := by omega
  have k1 : ¬ (E : Int) = 0 := by omega
  have k2 : ¬ (-(S : Int)) ≤ -10 := by omega
  have k3 : (-(S : Int)) ≤ 0 := by omega
  have k4 : S ≤ 9 := by omega
  rw [hS]
  obtain ⟨W, hW⟩ : ∃ W : Nat, (4503599627370496 + M) * 2 ^ S = W := ⟨_, rfl⟩
  have hWb : W ≤ 4611686018427387904 := by
    rw [← hW]
    calc (4503599627370496 + M) * 2 ^ S ≤ 9007199254740992 * 2 ^ 9 := Nat.mul_le_mul (by omega) (Nat.pow_le_pow_right (by omega) k4)
      _ = 4611686018427387904 := by decide
  have f2 : ((4503599627370496 : Int) + M) * 2 ^ S = W := by rw [← hW, Int.natCast_mul, Int.natCast_add, Int.natCast_pow]; rfl
  rw [hW]
  clear hS hW h1 h2
  by_cases hn : b < 0
  · simp only [hn, if_true]
    go_enter Tryz.func96, Tryz.ntmps96
    go_wp2
    all_goals go_ret2
    all_goals exact ⟨rfl, rfl⟩
  · simp only [hn, if_false]
    go_enter Tryz.func96, Tryz.ntmps96
    go_wp2
    all_goals go_ret2
    all_goals exact ⟨rfl, rfl⟩
/-- a magnitude far below a half, made whole -/
theorem cut_tiny (md : Int) (s : Bool) (r d : Nat) (h : 2 * r < 2 ^ d) : (way md).cut s r d = (if md = 1 then s && r != 0 else if md = 2 then !s && r != 0 else false).toNat := by
  rw [cut_eq, more_cases, Nat.div_eq_of_lt (by omega), Nat.mod_eq_of_lt (by omega), Nat.zero_add]
  congr 2
  congr 1
  by_cases h3 : md = 3
  · rw [if_pos h3, decide_eq_false (by omega), Bool.false_or, Bool.and_eq_false_iff]
    exact .inl (by simp; omega)
  · rw [if_neg h3]
theorem whole_tiny_val (b md : Int) (h : mg b / 4503599627370496 < 1022) : ∃ N : Int, wholeM b md = (N, 0) ∧
    (((md = 1 ∧ b < 0 ∧ mg b ≠ 0) → N = -1) ∧ ((md = 2 ∧ ¬ b < 0 ∧ mg b ≠ 0) → N = 1) ∧ (¬ ((md = 1 ∧ b < 0 ∧ mg b ≠ 0) ∨ (md = 2 ∧ ¬ b < 0 ∧ mg b ≠ 0)) → N = 0)) := by
  have eN : ∀ s, wholeN (way md) s (mg b) = (if md = 1 then s && mg b != 0 else if md = 2 then !s && mg b != 0 else false).toNat := by
    intro s
    unfold wholeN
    by_cases h1 : mg b < 4503599627370496
    · rw [if_pos h1]
      exact cut_tiny md s _ _ (Nat.lt_of_lt_of_le (by omega : 2 * mg b < 2 ^ 53) (Nat.pow_le_pow_right (by omega) (by omega)))
    · rw [if_neg h1, if_neg (by omega), cut_tiny md s _ _ (Nat.lt_of_lt_of_le (by omega : 2 * (4503599627370496 + mg b % 4503599627370496) < 2 ^ 54) (Nat.pow_le_pow_right (by omega) (by omega)))]
      have z1 : (4503599627370496 + mg b % 4503599627370496 != 0) = true := by simp only [bne_iff_ne]; omega
      have z2 : (mg b != 0) = true := by simp only [bne_iff_ne]; omega
      rw [z1, z2]
  unfold wholeM
  rw [if_neg (by omega), eN, eN]
  refine ⟨_, rfl, ?_, ?_, ?_⟩
  · rintro ⟨h1, h2, h3⟩
    have z : (mg b != 0) = true := by simpa using h3
    rw [if_pos h2, if_pos h1, z]; rfl
  · rintro ⟨h1, h2, h3⟩
    have z : (mg b != 0) = true := by simpa using h3
    rw [if_neg h2, if_neg (by omega), if_pos h1, z]; rfl
  · intro hno
    by_cases hb : b < 0
    · rw [if_pos hb]
      by_cases h1 : md = 1
      · have : mg b = 0 := by omega
        simp [h1, this]
      · simp [h1]
    · rw [if_neg hb]
      by_cases h1 : md = 1
      · simp [h1]
      · by_cases h2 : md = 2
        · have : mg b = 0 := by omega
          simp [h2, this]
        · simp [h1, h2]
set_option maxHeartbeats 4000000 in
theorem whole_tiny (b md : Int) (hb : I64 b) (w : World) (h : mg b / 4503599627370496 < 1022) : Calls Tryz.prog 96 #[.int .i64 b, .int .i64 md] w fun e w' => e = .returned (.tuple #[.int .i64 (wholeM b md).1, .int .i64 (wholeM b md).2]) ∧ w' = w := by
  have e1 := exp_bits b
  have e2 := frac_bits b
  have hM := Nat.mod_lt (mg b) (by decide : 0 < 4503599627370496)
  have e3 := or52 (mg b % 4503599627370496) hM
  obtain ⟨N, eW, n1, n2, n3⟩ := whole_tiny_val b md h
  rw [eW]
  have hz : mg b = 0 ↔ mg b / 4503599627370496 = 0 ∧ mg b % 4503599627370496 = 0 := by omega
  generalize mg b / 4503599627370496 = E at *
  generalize mg b % 4503599627370496 = M at *
  generalize mg b = r at *
  have A1 : Hid ((md = 1 ∧ b < 0 ∧ r ≠ 0) → N = -1) := n1
  have A2 : Hid ((md = 2 ∧ ¬ b < 0 ∧ r ≠ 0) → N = 1) := n2
  have A3 : Hid (¬ ((md = 1 ∧ b < 0 ∧ r ≠ 0) ∨ (md = 2 ∧ ¬ b < 0 ∧ r ≠ 0)) → N = 0) := n3
  have A4 : Hid (r = 0 ↔ E = 0 ∧ M = 0) := hz
  clear n1 n2 n3 hz eW
  dsimp only
  have f1 : (1075 : Int) - (E : Int) > 53 := by omega
  go_enter Tryz.func96, Tryz.ntmps96
  go_wp2
  all_goals go_ret2
  all_goals simp only [beq_iff_eq, beq_eq_false_iff_ne, bne_iff_ne, bne_eq_false_iff_eq, Bool.not_eq_false', Bool.not_eq_true', decide_eq_true_eq, decide_eq_false_iff_not] at *
  all_goals (have a4 := A4.out)
  all_goals first | (exfalso; omega) | rw [A1.out (by omega)] | rw [A2.out (by omega)] | rw [A3.out (by omega)]
  all_goals exact ⟨rfl, by trivial⟩
end Go.Proofs.Qxb6500376aGreatDoor
