/- The product of two factors as a float64, and what that float64 missed. -/
import Derived.Test.Qxb6500376aDoorQuNarrow
namespace Go.Qu
set_option linter.unusedVariables false
set_option linter.unusedSimpArgs false
set_option exponentiation.threshold 4000
open Ieee Go.RowKit

theorem read_num2 (f : Format) {x : Nat} (h : rung f x < f.infRung) :
    ∃ m i, f.read x = .number (sgn f x) m (f.leastPlace + (i : Nat)) ∧ m * 2 ^ i = val f (rung f x) ∧ m < 2 * f.binade ∧ (i = 0 ∨ f.binade ≤ m) := by
  have hB := binade_pos f
  rw [read_eq]
  unfold val
  by_cases h1 : rung f x < f.binade
  · rw [if_pos h1, if_pos h1]
    exact ⟨rung f x, 0, by simp, by simp, by omega, .inl rfl⟩
  · rw [if_neg h1, if_neg h1, if_pos h]
    have := Nat.mod_lt (rung f x) hB
    exact ⟨_, _, rfl, rfl, by omega, .inr (by omega)⟩
theorem cut_scale (w : Toward) (s : Bool) (n v D : Nat) : w.cut s (n * 2 ^ D) (v + D) = w.cut s n v := by
  rw [cut_eq, cut_eq]
  have hp := Nat.two_pow_pos D
  have e1 : n * 2 ^ D / 2 ^ (v + D) = n / 2 ^ v := by rw [Nat.pow_add]; exact Nat.mul_div_mul_right _ _ hp
  have e2 : n * 2 ^ D % 2 ^ (v + D) = n % 2 ^ v * 2 ^ D := by rw [Nat.pow_add, Nat.mul_mod_mul_right]
  rw [e1, e2, Nat.pow_add]
  congr 2
  unfold more
  generalize n % 2 ^ v = R
  generalize 2 ^ v = G
  generalize n / 2 ^ v = Q
  have a1 : (G * 2 ^ D < 2 * (R * 2 ^ D)) ↔ G < 2 * R := by
    rw [← Nat.mul_assoc]; exact Nat.mul_lt_mul_right hp
  have a2 : (G * 2 ^ D = 2 * (R * 2 ^ D)) ↔ G = 2 * R := by
    rw [← Nat.mul_assoc]; exact Nat.mul_left_inj (by omega)
  have a3 : (R * 2 ^ D = 0) ↔ R = 0 := by
    constructor
    · intro h; rcases Nat.mul_eq_zero.1 h with h | h; exact h; omega
    · intro h; rw [h, Nat.zero_mul]
  have b1 : decide (G * 2 ^ D < 2 * (R * 2 ^ D)) = decide (G < 2 * R) := decide_eq_decide.2 a1
  have b2 : (G * 2 ^ D == 2 * (R * 2 ^ D)) = (G == 2 * R) := by
    rw [Bool.eq_iff_iff, beq_iff_eq, beq_iff_eq]; exact a2
  have b3 : (R * 2 ^ D != 0) = (R != 0) := by
    rw [Bool.eq_iff_iff, bne_iff_ne, bne_iff_ne]; exact not_congr a3
  cases w with
  | even => dsimp only; rw [b1, b2]
  | down => dsimp only; rw [b3]
  | up => dsimp only; rw [b3]
  | zero => rfl
theorem nearest_shift (f : Format) (s : Bool) (P D : Nat) (q : Int) (h0 : P ≠ 0) : f.nearest s (P * 2 ^ D) (q - D) = f.nearest s P q := by
  have hne : P * 2 ^ D ≠ 0 := by
    have := Nat.two_pow_pos D
    intro h; rcases Nat.mul_eq_zero.1 h with h | h <;> omega
  unfold Format.nearest
  rw [if_neg hne, if_neg h0, log2_mul_pow P D h0]
  dsimp only
  rw [show q - (D : Int) + ((P.log2 + D : Nat) : Int) - (f.fractionBits : Int) = q + (P.log2 : Int) - (f.fractionBits : Int) by omega]
  generalize max (q + (P.log2 : Int) - (f.fractionBits : Int)) f.leastPlace = last
  congr 3
  rcases Int.lt_or_le q last with h | h
  · rw [show (q - (D : Int) - last).toNat = 0 by omega, show (last - (q - (D : Int))).toNat = (last - q).toNat + D by omega, show (q - last).toNat = 0 by omega, Nat.shiftLeft_eq, Nat.shiftLeft_eq, Nat.pow_zero, Nat.mul_one, Nat.mul_one, cut_scale]
  · rw [show (last - q).toNat = 0 by omega, cut_zero_drop, Nat.shiftLeft_eq, Nat.shiftLeft_eq]
    rcases Nat.le_total D (q - last).toNat with k | k
    · rw [show (last - (q - (D : Int))).toNat = 0 by omega, cut_zero_drop, Nat.mul_assoc, ← Nat.pow_add]
      rw [show D + (q - (D : Int) - last).toNat = (q - last).toNat by omega]
    · rw [show (q - (D : Int) - last).toNat = 0 by omega, Nat.pow_zero, Nat.mul_one]
      have : P * 2 ^ D = P * 2 ^ (q - last).toNat * 2 ^ (last - (q - (D : Int))).toNat := by
        rw [Nat.mul_assoc, ← Nat.pow_add, show (q - last).toNat + (last - (q - (D : Int))).toNat = D by omega]
      rw [this, cut_exact]

/-- what the nearest float64 holds of P -/
def r53 (P : Nat) : Nat := if P < 9007199254740992 then P else nearN P (P.log2 - 52) * 2 ^ (P.log2 - 52)
theorem nearN_bounds {P : Nat} (h : 9007199254740992 ≤ P) : 4503599627370496 ≤ nearN P (P.log2 - 52) ∧ nearN P (P.log2 - 52) ≤ 9007199254740992 := by
  have h0 : P ≠ 0 := by omega
  have hl : 53 ≤ P.log2 := by
    have := lt_log2 P
    rcases Nat.lt_or_ge P.log2 53 with k | k
    · have : 2 ^ (P.log2 + 1) ≤ 2 ^ 53 := Nat.pow_le_pow_right (by omega) (by omega)
      omega
    · exact k
  have a := Nat.log2_self_le h0
  have b := lt_log2 P
  have hp := Nat.two_pow_pos (P.log2 - 52)
  have q1 : 4503599627370496 ≤ P / 2 ^ (P.log2 - 52) := by
    rw [Nat.le_div_iff_mul_le hp]
    calc 4503599627370496 * 2 ^ (P.log2 - 52) = 2 ^ 52 * 2 ^ (P.log2 - 52) := by rfl
      _ = 2 ^ P.log2 := by rw [← Nat.pow_add, show 52 + (P.log2 - 52) = P.log2 by omega]
      _ ≤ P := a
  have q2 : P / 2 ^ (P.log2 - 52) < 9007199254740992 := by
    rw [Nat.div_lt_iff_lt_mul hp]
    calc P < 2 ^ (P.log2 + 1) := b
      _ = 2 ^ 53 * 2 ^ (P.log2 - 52) := by rw [← Nat.pow_add, show 53 + (P.log2 - 52) = P.log2 + 1 by omega]
  have := nearN_le P (P.log2 - 52)
  refine ⟨?_, by omega⟩
  unfold nearN
  omega
/-- the head: the float64 nearest to a whole number below 2^63 -/
theorem head_int (s : Bool) {P : Nat} (h : P < 9223372036854775808) : IsInt (double.nearest s P 0) (if s then -(r53 P : Int) else r53 P) := by
  unfold r53
  have hp : double.leastPlace + ((1074 : Nat) : Int) = 0 := by decide
  by_cases h1 : P < 9007199254740992
  · rw [if_pos h1]
    by_cases h0 : P = 0
    · subst h0
      have e : double.nearest s 0 0 = double.word s 0 := by unfold Format.nearest; rw [if_pos rfl]
      have hw : (0 : Nat) < double.signWeight := by decide
      rw [e]
      refine ⟨by rw [rung_word double s hw]; decide, 0, by rw [rung_word double s hw, val_zero, Nat.zero_mul], by rw [sgn_word double s hw]⟩
    · obtain ⟨r, e1, e2⟩ := nearest_exact double s P 0 1074 h1 h0
      rw [Nat.pow_zero, Nat.mul_one, hp] at e1
      have hr : r < double.infRung := by
        rw [← val_lt_iff double, e2, Nat.zero_add]
        have := small_lt h1
        rwa [Nat.pow_zero, Nat.mul_one] at this
      have hw : r < double.signWeight := Nat.lt_trans hr (by decide)
      rw [e1, Nat.min_eq_left (Nat.le_of_lt hr)]
      exact ⟨by rw [rung_word double s hw]; exact hr, P, by rw [rung_word double s hw, e2, Nat.zero_add], by rw [sgn_word double s hw]⟩
  · rw [if_neg h1]
    obtain ⟨b1, b2⟩ := nearN_bounds (by omega : 9007199254740992 ≤ P)
    have h0 : P ≠ 0 := by omega
    have hl : 53 ≤ P.log2 := by
      have := lt_log2 P
      rcases Nat.lt_or_ge P.log2 53 with k | k
      · have : 2 ^ (P.log2 + 1) ≤ 2 ^ 53 := Nat.pow_le_pow_right (by omega) (by omega)
        omega
      · exact k
    have hl2 : P.log2 < 63 := (Nat.log2_lt h0).2 h
    have e1 : double.nearest s P 0 = double.word s ((P.log2 + 1022) * 4503599627370496 + nearN P (P.log2 - 52)) := by
      unfold Format.nearest
      rw [if_neg h0, d_place, d_binade, d_inf, show double.fractionBits = 52 from rfl]
      dsimp only
      rw [show max (0 + (P.log2 : Int) - ((52 : Nat) : Int)) (-1074) = (P.log2 : Int) - 52 by omega, show ((P.log2 : Int) - 52 - -1074).toNat = P.log2 + 1022 by omega,
        show (0 - ((P.log2 : Int) - 52)).toNat = 0 by omega, show ((P.log2 : Int) - 52 - 0).toNat = P.log2 - 52 by omega, Nat.shiftLeft_eq, Nat.pow_zero, Nat.mul_one, cut_near, Nat.min_eq_left (by omega)]
    generalize nearN P (P.log2 - 52) = K at *
    have hr : (P.log2 + 1022) * 4503599627370496 + K < double.infRung := by rw [d_inf]; omega
    have hw : (P.log2 + 1022) * 4503599627370496 + K < double.signWeight := Nat.lt_trans hr (by decide)
    have hv : val double ((P.log2 + 1022) * 4503599627370496 + K) = K * 2 ^ (P.log2 - 52) * 2 ^ 1074 := by
      rw [Nat.mul_assoc, ← Nat.pow_add, show P.log2 - 52 + 1074 = P.log2 + 1022 by omega]
      by_cases hK : K = 9007199254740992
      · have h2 : (P.log2 + 1022) * 4503599627370496 + K = (P.log2 + 1024) * 4503599627370496 + 0 := by omega
        rw [h2, val_double _ _ (by omega) (by omega), hK, show P.log2 + 1024 - 1 = P.log2 + 1022 + 1 by omega, Nat.pow_succ]
        omega
      · have h2 : (P.log2 + 1022) * 4503599627370496 + K = (P.log2 + 1023) * 4503599627370496 + (K - 4503599627370496) := by omega
        rw [h2, val_double _ _ (by omega) (by omega), show P.log2 + 1023 - 1 = P.log2 + 1022 by omega]
        exact congrArg (· * 2 ^ (P.log2 + 1022)) (Nat.add_sub_cancel' b1)
    have hs := sgn_word double s hw
    have hr2 := rung_word double s hw
    rw [e1]
    generalize double.word s ((P.log2 + 1022) * 4503599627370496 + K) = y at hs hr2 ⊢
    generalize (P.log2 + 1022) * 4503599627370496 + K = R at hr hv hr2
    exact ⟨by rw [hr2]; exact hr, K * 2 ^ (P.log2 - 52), by rw [hr2]; exact hv, by rw [hs]⟩

theorem xor_top {y : Nat} (h : y < 2 ^ 63) : y ^^^ 2 ^ 63 = 2 ^ 63 + y := by
  apply Nat.eq_of_testBit_eq
  intro j
  rw [Nat.testBit_xor, Nat.testBit_two_pow]
  rcases Nat.lt_trichotomy j 63 with k | k | k
  · rw [Nat.testBit_two_pow_add_gt k, decide_eq_false (by omega)]; simp
  · subst k
    rw [Nat.testBit_two_pow_add_eq, Nat.testBit_lt_two_pow h]; simp
  · have : 2 ^ 64 ≤ 2 ^ j := Nat.pow_le_pow_right (by omega) (by omega)
    rw [decide_eq_false (by omega), Nat.testBit_lt_two_pow (by omega : y < 2 ^ j), Nat.testBit_lt_two_pow (by omega : 2 ^ 63 + y < 2 ^ j)]; rfl
theorem negF_eq {x : Nat} (h : x < 18446744073709551616) : Op.negFloat .f64 x = double.word (!sgn double x) (rung double x) := by
  unfold Op.negFloat
  rw [show FloatKind.f64.format.exponentBits + FloatKind.f64.format.fractionBits = 63 from rfl]
  unfold Format.word sgn rung
  rw [d_weight]
  by_cases h1 : x < 9223372036854775808
  · rw [xor_top (by omega), show x / 9223372036854775808 = 0 by omega, show x % 9223372036854775808 = x by omega]
    simp
  · obtain ⟨y, rfl⟩ : ∃ y, x = 2 ^ 63 + y := ⟨x - 2 ^ 63, by omega⟩
    rw [← xor_top (by omega), Nat.xor_assoc, Nat.xor_self, Nat.xor_zero, xor_top (by omega), show (2 ^ 63 + y) / 9223372036854775808 = 1 by omega, show (2 ^ 63 + y) % 9223372036854775808 = y by omega]
    simp

theorem sgn_nearest (s : Bool) (P : Nat) (q : Int) : sgn double (double.nearest s P q) = s := by
  unfold Format.nearest
  dsimp only
  split
  · exact sgn_word double s (by decide)
  · exact sgn_word double s (Nat.lt_of_le_of_lt (Nat.min_le_right _ _) (by decide))
theorem nearN_err (P sh : Nat) (hs : 1 ≤ sh) : 2 * (nearN P sh * 2 ^ sh) ≤ 2 * P + 2 ^ sh ∧ 2 * P ≤ 2 * (nearN P sh * 2 ^ sh) + 2 ^ sh := by
  have hd := Nat.div_add_mod P (2 ^ sh)
  have hm := Nat.mod_lt P (Nat.two_pow_pos sh)
  unfold nearN
  generalize 2 ^ sh = G at *
  generalize P / G = Q at *
  generalize P % G = R at *
  rw [Nat.add_mul, Nat.mul_comm Q G]
  generalize G * Q = A at *
  by_cases h1 : G < 2 * R
  · rw [decide_eq_true h1]; simp; omega
  · rw [decide_eq_false h1, Bool.false_or]
    by_cases h2 : (G == 2 * R && Q % 2 == 1) = true
    · rw [h2]
      have : G = 2 * R := by
        rw [Bool.and_eq_true, beq_iff_eq] at h2; exact h2.1
      simp; omega
    · rw [Bool.eq_false_iff.2 h2]; simp; omega
theorem r53_err {P : Nat} (h : P ≤ 4611686018427387904) : r53 P ≤ P + 512 ∧ P ≤ r53 P + 512 := by
  unfold r53
  by_cases h1 : P < 9007199254740992
  · rw [if_pos h1]; omega
  · rw [if_neg h1]
    have h0 : P ≠ 0 := by omega
    have hl : 53 ≤ P.log2 := by
      have := lt_log2 P
      rcases Nat.lt_or_ge P.log2 53 with k | k
      · have : 2 ^ (P.log2 + 1) ≤ 2 ^ 53 := Nat.pow_le_pow_right (by omega) (by omega)
        omega
      · exact k
    have hl2 : P.log2 < 63 := (Nat.log2_lt h0).2 (by omega)
    have he := nearN_err P (P.log2 - 52) (by omega)
    have : 2 ^ (P.log2 - 52) ≤ 2 ^ 10 := Nat.pow_le_pow_right (by omega) (by omega)
    omega
theorem r53_le {P : Nat} (h : P < 9007199254740992) : r53 P = P := by unfold r53; rw [if_pos h]
theorem ofInt_eq (a : Int) : floatOfInt .f64 a = double.nearest (decide (a < 0)) a.natAbs 0 := rfl
theorem ofInt_read {a : Int} (h : a.natAbs ≤ 2147483648) : ∃ D : Nat, double.read (floatOfInt .f64 a) = .number (decide (a < 0)) (a.natAbs * 2 ^ D) (-(D : Int)) := by
  have hi := head_int (decide (a < 0)) (P := a.natAbs) (by omega)
  rw [ofInt_eq]
  have hs := sgn_nearest (decide (a < 0)) a.natAbs 0
  obtain ⟨h1, W, h2, h3⟩ := hi
  obtain ⟨m, i, e, v, hm, hc⟩ := read_num2 double h1
  rw [r53_le (by omega), hs] at h3
  have hW : W = a.natAbs := by
    cases hd : decide (a < 0) <;> rw [hd] at h3 <;> simp at h3 <;> omega
  rw [h2, hW] at v
  rw [hs] at e
  have hi : i ≤ 1074 := by
    rcases Nat.lt_or_ge 1074 i with k | k
    · rcases hc with hc | hc
      · omega
      · rw [d_binade] at hc
        exfalso
        have e1 : m * 2 ^ i = m * 2 ^ (i - 1074) * 2 ^ 1074 := by rw [Nat.mul_assoc, ← Nat.pow_add, show i - 1074 + 1074 = i by omega]
        rw [e1] at v
        have e2 := Nat.eq_of_mul_eq_mul_right (Nat.two_pow_pos 1074) v
        have e3 : m * 1 ≤ m * 2 ^ (i - 1074) := Nat.mul_le_mul_left _ (Nat.two_pow_pos _)
        omega
    · exact k
  refine ⟨1074 - i, ?_⟩
  have e1 : a.natAbs * 2 ^ 1074 = a.natAbs * 2 ^ (1074 - i) * 2 ^ i := by rw [Nat.mul_assoc, ← Nat.pow_add, show 1074 - i + i = 1074 by omega]
  rw [e1] at v
  have e2 := Nat.eq_of_mul_eq_mul_right (Nat.two_pow_pos i) v
  rw [e, e2, d_place, show -1074 + (i : Int) = -((1074 - i : Nat) : Int) by omega]
theorem nearest_down (s : Bool) (P D : Nat) : double.nearest s (P * 2 ^ D) (-(D : Int)) = double.nearest s P 0 := by
  by_cases h0 : P = 0
  · subst h0
    rw [Nat.zero_mul]
    unfold Format.nearest
    rw [if_pos rfl, if_pos rfl]
  · have := nearest_shift double s P D 0 h0
    rwa [Int.zero_sub] at this
/-- the head of a product, as an integer -/
def headI (a b : Int) : Int := if a * b < 0 then -(r53 (a * b).natAbs : Int) else r53 (a * b).natAbs
theorem xor_sign {a b : Int} (h : (a * b).natAbs ≠ 0) : (decide (a < 0) ^^ decide (b < 0)) = decide (a * b < 0) := by
  have h0 : a * b ≠ 0 := by omega
  have ha : a ≠ 0 := fun e => h0 (by rw [e, Int.zero_mul])
  have hb : b ≠ 0 := fun e => h0 (by rw [e, Int.mul_zero])
  rcases Int.lt_or_gt_of_ne ha with a1 | a1 <;> rcases Int.lt_or_gt_of_ne hb with b1 | b1
  · have := Int.mul_pos_of_neg_of_neg a1 b1
    rw [decide_eq_true a1, decide_eq_true b1, decide_eq_false (by omega)]; rfl
  · have := Int.mul_neg_of_neg_of_pos a1 b1
    rw [decide_eq_true a1, decide_eq_false (by omega), decide_eq_true (by omega)]; rfl
  · have := Int.mul_neg_of_pos_of_neg a1 b1
    rw [decide_eq_false (by omega), decide_eq_true b1, decide_eq_true (by omega)]; rfl
  · have := Int.mul_pos a1 b1
    rw [decide_eq_false (by omega), decide_eq_false (by omega), decide_eq_false (by omega)]; rfl
theorem abs_mul_le {a b : Int} (ha : a.natAbs ≤ 2147483648) (hb : b.natAbs ≤ 2147483648) : (a * b).natAbs ≤ 4611686018427387904 := by
  rw [Int.natAbs_mul]
  calc a.natAbs * b.natAbs ≤ 2147483648 * 2147483648 := Nat.mul_le_mul ha hb
    _ = 4611686018427387904 := by decide
theorem headI_err {a b : Int} (ha : a.natAbs ≤ 2147483648) (hb : b.natAbs ≤ 2147483648) : -512 ≤ a * b - headI a b ∧ a * b - headI a b ≤ 512 := by
  have := r53_err (abs_mul_le ha hb)
  unfold headI
  split <;> omega
theorem r53_zero : r53 0 = 0 := r53_le (by omega)
theorem scale_f {a b : Int} (ha : a.natAbs ≤ 2147483648) (hb : b.natAbs ≤ 2147483648) :
    ∃ h t, floatBits .mul .f64 (floatOfInt .f64 a) (floatOfInt .f64 b) = some h ∧ double.fma (floatOfInt .f64 a) (floatOfInt .f64 b) (Op.negFloat .f64 h) = some t ∧
      floatToIntVal .f64 h .i64 = some (headI a b) ∧ floatToIntVal .f64 t .i64 = some (a * b - headI a b) := by
  obtain ⟨D1, e1⟩ := ofInt_read ha
  obtain ⟨D2, e2⟩ := ofInt_read hb
  have hP := abs_mul_le ha hb
  have herr := headI_err ha hb
  have hr := r53_err hP
  have hprod : (double.read (floatOfInt .f64 a)).product (double.read (floatOfInt .f64 b)) = some (.number (decide (a < 0) ^^ decide (b < 0)) ((a * b).natAbs * 2 ^ (D1 + D2)) (-((D1 + D2 : Nat) : Int))) := by
    rw [e1, e2]
    simp only [Datum.product]
    congr 2
    · rw [Int.natAbs_mul, Nat.pow_add]
      generalize 2 ^ D1 = x
      generalize 2 ^ D2 = y
      rw [Nat.mul_assoc, Nat.mul_assoc, Nat.mul_left_comm x]
    · omega
  generalize hsd : (decide (a < 0) ^^ decide (b < 0)) = s at hprod
  have hsg : (a * b).natAbs ≠ 0 → s = decide (a * b < 0) := fun h => by rw [← hsd]; exact xor_sign h
  clear hsd e1 e2
  generalize D1 + D2 = D at hprod
  have hsigned : (if s then -((a * b).natAbs : Int) else ((a * b).natAbs : Int)) = a * b := by
    by_cases h0 : (a * b).natAbs = 0
    · rw [h0]; cases s <;> simp <;> omega
    · rw [hsg h0]; by_cases hn : a * b < 0 <;> simp [hn] <;> omega
  have hhead : (if s then -(r53 (a * b).natAbs : Int) else (r53 (a * b).natAbs : Int)) = headI a b := by
    unfold headI
    by_cases h0 : (a * b).natAbs = 0
    · rw [h0, r53_zero]; cases s <;> simp
    · rw [hsg h0]; by_cases hn : a * b < 0 <;> simp [hn]
  generalize floatOfInt .f64 a = x at *
  generalize floatOfInt .f64 b = y at *
  generalize hPd : (a * b).natAbs = P at *
  have hint := head_int s (P := P) (by omega)
  rw [hhead] at hint
  have hsgn := sgn_nearest s P 0
  have hlt : double.nearest s P 0 < 18446744073709551616 := double.nearest_lt s P 0
  have hmul : floatBits .mul .f64 x y = some (double.nearest s P 0) := by
    show double.mul x y = _
    unfold Format.mul
    rw [hprod]
    show some (double.nearest s (P * 2 ^ D) (-(D : Int))) = _
    rw [nearest_down]
  refine ⟨double.nearest s P 0, ?_⟩
  generalize double.nearest s P 0 = h at *
  have hfh : floatToIntVal .f64 h .i64 = some (headI a b) := by
    unfold floatToIntVal
    rw [show FloatKind.f64.decode h = double.read h from rfl, hint.toInt]
    dsimp only
    rw [if_pos]
    rw [show IntKind.i64.min = -9223372036854775808 by decide, show IntKind.i64.max = 9223372036854775807 by decide]
    omega
  obtain ⟨hrl, W, hW, hn⟩ := hint
  rw [hsgn] at hn
  have hw : rung double h < double.signWeight := Nat.lt_trans hrl (by decide)
  have hz := negF_eq hlt
  rw [hsgn] at hz
  generalize Op.negFloat .f64 h = z at *
  have rz : rung double z = rung double h := by rw [hz]; exact rung_word double _ hw
  have sz : sgn double z = !s := by rw [hz]; exact sgn_word double _ hw
  obtain ⟨m, i, e, v⟩ := read_num double (x := z) (by rw [rz]; exact hrl)
  rw [rz, hW] at v
  rw [sz, d_place] at e
  obtain ⟨B, hB⟩ : ∃ B : Nat, min (-(D : Int)) (-1074 + (i : Int)) = -(B : Int) := ⟨(-(min (-(D : Int)) (-1074 + (i : Int)))).toNat, by omega⟩
  generalize hτ : a * b - headI a b = τ at *
  have t1 : signed s (P * 2 ^ D) (-(D : Int) - -(B : Int)).toNat = a * b * ((2 ^ B : Nat) : Int) := by
    rw [signed_eq, ← hsigned, Nat.mul_assoc, ← Nat.pow_add, show D + (-(D : Int) - -(B : Int)).toNat = B by omega]
    cases s
    · simp only [Bool.false_eq_true, if_false, Int.natCast_mul]
    · simp only [if_true, Int.natCast_mul, Int.neg_mul]
  have t2 : signed (!s) m (-1074 + (i : Int) - -(B : Int)).toNat = -(headI a b) * ((2 ^ B : Nat) : Int) := by
    have hm : m * 2 ^ (-1074 + (i : Int) - -(B : Int)).toNat = W * 2 ^ B := by
      have : m * 2 ^ (-1074 + (i : Int) - -(B : Int)).toNat * 2 ^ 1074 = W * 2 ^ B * 2 ^ 1074 := by
        rw [Nat.mul_assoc, ← Nat.pow_add, show (-1074 + (i : Int) - -(B : Int)).toNat + 1074 = i + B by omega, Nat.pow_add, ← Nat.mul_assoc, v, Nat.mul_assoc, Nat.mul_assoc, Nat.mul_comm (2 ^ 1074)]
      exact Nat.eq_of_mul_eq_mul_right (Nat.two_pow_pos 1074) this
    rw [signed_eq, hm, hn]
    cases s
    · simp only [Bool.not_false, Bool.false_eq_true, if_true, if_false, Int.natCast_mul, Int.neg_mul]
    · simp only [Bool.not_true, Bool.false_eq_true, if_true, if_false, Int.natCast_mul, Int.neg_mul, Int.neg_neg]
  have htot : signed s (P * 2 ^ D) (-(D : Int) - -(B : Int)).toNat + signed (!s) m (-1074 + (i : Int) - -(B : Int)).toNat = τ * ((2 ^ B : Nat) : Int) := by
    rw [t1, t2, ← hτ, Int.sub_mul, Int.neg_mul, Int.sub_eq_add_neg]
  have hpos : (0 : Int) < ((2 ^ B : Nat) : Int) := by exact_mod_cast Nat.two_pow_pos B
  have hsum : (Datum.number s (P * 2 ^ D) (-(D : Int))).sum (double.read z) = some (.number (if τ * ((2 ^ B : Nat) : Int) = 0 then s && !s else decide (τ * ((2 ^ B : Nat) : Int) < 0)) (τ.natAbs * 2 ^ B) (-(B : Int))) := by
    rw [e]
    simp only [Datum.sum]
    rw [hB, htot]
    congr 2
    rw [Int.natAbs_mul]
    rfl
  have hsg2 : (if τ * ((2 ^ B : Nat) : Int) = 0 then s && !s else decide (τ * ((2 ^ B : Nat) : Int) < 0)) = decide (τ < 0) := by
    by_cases h0 : τ = 0
    · rw [h0, Int.zero_mul, if_pos rfl]; cases s <;> rfl
    · rw [if_neg (fun k => by rcases Int.mul_eq_zero.1 k with k | k <;> omega)]
      have := scale_lt τ 0 B
      rw [Int.zero_mul] at this
      exact decide_eq_decide.2 this
  have hfma : double.fma x y z = some (double.nearest (decide (τ < 0)) τ.natAbs 0) := by
    unfold Format.fma
    rw [hprod]
    show ((Datum.number s (P * 2 ^ D) (-(D : Int))).sum (double.read z)).map double.write = _
    rw [hsum, hsg2]
    show some (double.nearest (decide (τ < 0)) (τ.natAbs * 2 ^ B) (-(B : Int))) = _
    rw [nearest_down]
  refine ⟨_, hmul, hfma, hfh, ?_⟩
  have ht := head_int (decide (τ < 0)) (P := τ.natAbs) (by omega)
  rw [r53_le (by omega)] at ht
  have hte : (if decide (τ < 0) = true then -(τ.natAbs : Int) else (τ.natAbs : Int)) = τ := by
    by_cases h0 : τ < 0 <;> simp [h0] <;> omega
  rw [hte] at ht
  unfold floatToIntVal
  rw [show FloatKind.f64.decode (double.nearest (decide (τ < 0)) τ.natAbs 0) = double.read (double.nearest (decide (τ < 0)) τ.natAbs 0) from rfl, ht.toInt]
  dsimp only
  rw [if_pos]
  rw [show IntKind.i64.min = -9223372036854775808 by decide, show IntKind.i64.max = 9223372036854775807 by decide]
  omega
end Go.Qu
