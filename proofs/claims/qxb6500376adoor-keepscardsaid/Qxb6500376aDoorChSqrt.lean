/- The float square root of a whole number, cut: the whole root. -/
import Derived.Test.Qxb6500376aDoorQuScale
namespace Go.Qu
set_option linter.unusedVariables false
set_option linter.unusedSimpArgs false
set_option exponentiation.threshold 4000
open Ieee

theorem rootFrom_ok (n : Nat) : ∀ (todo root : Nat), root * root ≤ n → n < (root + 2 ^ todo) * (root + 2 ^ todo) → Datum.rootFrom n todo root * Datum.rootFrom n todo root ≤ n ∧ n < (Datum.rootFrom n todo root + 1) * (Datum.rootFrom n todo root + 1)
  | 0, root, h1, h2 => by unfold Datum.rootFrom; exact ⟨h1, by simpa using h2⟩
  | todo + 1, root, h1, h2 => by
    unfold Datum.rootFrom
    dsimp only
    rw [Nat.shiftLeft_eq, Nat.one_mul]
    by_cases h : (root + 2 ^ todo) * (root + 2 ^ todo) ≤ n
    · rw [if_pos h]
      refine rootFrom_ok n todo _ h ?_
      rw [show root + 2 ^ todo + 2 ^ todo = root + 2 ^ (todo + 1) by rw [Nat.pow_succ]; omega]
      exact h2
    · rw [if_neg h]
      exact rootFrom_ok n todo root h1 (by omega)

theorem wholeN_zero (s : Bool) (r : Nat) : wholeN .zero s r = val double r / 2 ^ 1074 := by
  have hz : ∀ n d, Toward.zero.cut s n d = n / 2 ^ d := by
    intro n d; rw [cut_eq]; unfold more; simp
  unfold wholeN val
  rw [d_binade]
  by_cases h1 : r < 4503599627370496
  · rw [if_pos h1, if_pos h1, hz]
  · rw [if_neg h1, if_neg h1]
    have hE : 1 ≤ r / 4503599627370496 := by omega
    generalize r / 4503599627370496 = E at *
    generalize r % 4503599627370496 = M at *
    by_cases h2 : 1075 ≤ E
    · rw [if_pos h2, show E - 1 = (E - 1075) + 1074 by omega, Nat.pow_add, ← Nat.mul_assoc, Nat.mul_div_cancel _ (Nat.two_pow_pos _)]
    · rw [if_neg h2, hz]
      have e : (2 : Nat) ^ 1074 = 2 ^ (1075 - E) * 2 ^ (E - 1) := by rw [← Nat.pow_add]; congr 1; omega
      rw [e, Nat.mul_div_mul_right _ _ (Nat.two_pow_pos _)]

/-- the place where the nearest double of V / 2^(j+1) lies, for V of at least 53 digits -/
theorem nearest_val (V j : Nat) (h1 : 9007199254740992 ≤ V) (hj : j ≤ 1000) (hV : V < 2 ^ (j + 60)) (hj2 : 29 ≤ j) :
    ∃ r, double.nearest false V (-(j : Int) - 1) = double.word false r ∧ r < double.infRung ∧ val double r * 2 ^ (j + 1) = nearN V (V.log2 - 52) * 2 ^ (V.log2 - 52) * 2 ^ 1074 := by
  have h0 : V ≠ 0 := by omega
  have l : 53 ≤ V.log2 := (Nat.le_log2 h0).2 (by omega)
  have lu : V.log2 < j + 60 := (Nat.log2_lt h0).2 hV
  obtain ⟨L, hL⟩ : ∃ L, V.log2 = L := ⟨_, rfl⟩
  have hb := nearN_bounds h1
  unfold Format.nearest
  rw [if_neg h0, hL, d_place, d_binade, d_inf, show double.fractionBits = 52 from rfl]
  rw [hL] at l lu hb
  dsimp only
  rw [show max (-(j : Int) - 1 + ((L : Nat) : Int) - ((52 : Nat) : Int)) (-1074) = (L : Int) - 53 - j by omega,
    show ((L : Int) - 53 - j - -1074).toNat = L + 1021 - j by omega, show (-(j : Int) - 1 - ((L : Int) - 53 - j)).toNat = 0 by omega,
    show ((L : Int) - 53 - j - (-(j : Int) - 1)).toNat = L - 52 by omega, Nat.shiftLeft_eq, Nat.pow_zero, Nat.mul_one, cut_near]
  generalize nearN V (L - 52) = K at *
  have hr : (L + 1021 - j) * 4503599627370496 + K < 9218868437227405312 := by omega
  refine ⟨(L + 1021 - j) * 4503599627370496 + K, by rw [Nat.min_eq_left (by omega)], hr, ?_⟩
  have hv : val double ((L + 1021 - j) * 4503599627370496 + K) = K * 2 ^ (L + 1021 - j) := by
    by_cases hk : K < 9007199254740992
    · have := val_norm double (L + 1021 - j) K (by rw [d_binade]; omega) (by rw [d_binade]; omega)
      rw [d_binade] at this; exact this
    · have hk2 : K = 9007199254740992 := by omega
      have := val_norm double (L + 1021 - j + 1) 4503599627370496 (by rw [d_binade]; omega) (by rw [d_binade]; omega)
      rw [d_binade] at this
      rw [hk2, show (L + 1021 - j) * 4503599627370496 + 9007199254740992 = (L + 1021 - j + 1) * 4503599627370496 + 4503599627370496 by omega, this, Nat.pow_succ]
      omega
  rw [hv, Nat.mul_assoc, Nat.mul_assoc, ← Nat.pow_add, ← Nat.pow_add]
  congr 2
  omega

theorem sqrt_gap {n k j W : Nat} (hj : 27 ≤ j) (hk : n < (k + 1) * (k + 1)) (hkb : k + 1 ≤ 67108864) (hW : W * W ≤ n * (2 ^ j * 2 ^ j)) : W + 2 ^ (j - 27) ≤ (k + 1) * 2 ^ j := by
  obtain ⟨G, hG⟩ : ∃ G, 2 ^ (j - 27) = G := ⟨_, rfl⟩
  have hP : 2 ^ j = 134217728 * G := by rw [← hG, show (134217728 : Nat) = 2 ^ 27 by decide, ← Nat.pow_add]; congr 1; omega
  have hGp : 0 < G := by rw [← hG]; exact Nat.two_pow_pos _
  rw [hG, hP]
  rw [hP] at hW
  rcases Nat.lt_or_ge ((k + 1) * (134217728 * G)) (W + G) with h | h
  · exfalso
    obtain ⟨B, hB⟩ : ∃ B, (k + 1) * (134217728 * G) = B := ⟨_, rfl⟩
    rw [hB] at h
    have hGB : G ≤ B := by
      rw [← hB]
      calc G ≤ 1 * (134217728 * G) := by omega
        _ ≤ (k + 1) * (134217728 * G) := Nat.mul_le_mul_right _ (by omega)
    obtain ⟨X, hX⟩ : ∃ X, B = X + G := ⟨B - G, by omega⟩
    have h1 : X + 1 ≤ W := by omega
    have h2 : (X + 1) * (X + 1) ≤ W * W := Nat.mul_le_mul h1 h1
    have h3 : n * (134217728 * G * (134217728 * G)) ≤ ((k + 1) * (k + 1) - 1) * (134217728 * G * (134217728 * G)) := Nat.mul_le_mul_right _ (by omega)
    have h4 : ((k + 1) * (k + 1) - 1) * (134217728 * G * (134217728 * G)) + 134217728 * G * (134217728 * G) = B * B := by
      rw [← Nat.succ_mul, Nat.succ_eq_add_one, Nat.sub_add_cancel (by have : 0 < (k + 1) * (k + 1) := Nat.mul_pos (by omega) (by omega); omega), ← hB]
      exact Nat.mul_mul_mul_comm _ _ _ _
    have h5 : 2 * (B * G) ≤ 134217728 * G * (134217728 * G) := by
      have : B ≤ 67108864 * (134217728 * G) := by rw [← hB]; exact Nat.mul_le_mul_right _ hkb
      calc 2 * (B * G) ≤ 2 * (67108864 * (134217728 * G) * G) := Nat.mul_le_mul_left _ (Nat.mul_le_mul_right _ this)
        _ = 134217728 * G * (134217728 * G) := by
          rw [show 67108864 * (134217728 * G) * G = 67108864 * (134217728 * G * G) from Nat.mul_assoc _ _ _, show 134217728 * G * (134217728 * G) = 134217728 * (G * (134217728 * G)) from Nat.mul_assoc _ _ _, show G * (134217728 * G) = 134217728 * G * G from Nat.mul_comm _ _]
          omega
    have h6 : B * B = X * X + 2 * (X * G) + G * G := by
      rw [hX, Nat.add_mul, Nat.mul_add, Nat.mul_add, Nat.mul_comm G X]; omega
    have h7 : B * G = X * G + G * G := by rw [hX, Nat.add_mul]
    have h8 : (X + 1) * (X + 1) = X * X + 2 * X + 1 := by rw [Nat.add_mul, Nat.mul_add]; omega
    omega
  · exact h

/-- the whole root -/
def isq (n : Nat) : Nat := Datum.rootFrom n 32 0
theorem isq_ok {n : Nat} (h : n < 18446744073709551616) : isq n * isq n ≤ n ∧ n < (isq n + 1) * (isq n + 1) :=
  rootFrom_ok n 32 0 (by omega) (by have e : (0 + 2 ^ 32) * (0 + 2 ^ 32) = 18446744073709551616 := by decide
                                    omega)
theorem isq_unique {n r k : Nat} (h1 : r * r ≤ n) (h2 : n < (r + 1) * (r + 1)) (h3 : k * k ≤ n) (h4 : n < (k + 1) * (k + 1)) : r = k := by
  rcases Nat.lt_trichotomy r k with h | h | h
  · have := Nat.mul_le_mul (show r + 1 ≤ k by omega) (show r + 1 ≤ k by omega); omega
  · exact h
  · have := Nat.mul_le_mul (show k + 1 ≤ r by omega) (show k + 1 ≤ r by omega); omega

theorem sqrt_int {n : Nat} (hn : n ≤ 2251799813685248) : ∃ r, double.sqrt (floatOfInt .f64 (n : Int)) = some r ∧ floatToIntVal .f64 r .i64 = some (isq n : Int) := by
  rcases Nat.eq_zero_or_pos n with h0 | h0
  · subst h0; exact ⟨0, by decide +kernel, by decide +kernel⟩
  have hi := head_int false (P := n) (by omega)
  rw [r53_le (by omega)] at hi
  rw [ofInt_eq, show decide ((n : Int) < 0) = false from decide_eq_false (by omega), show ((n : Int)).natAbs = n by omega]
  have hs := sgn_nearest false n 0
  generalize double.nearest false n 0 = x at hi hs
  obtain ⟨hx, W, hv, hW⟩ := hi
  rw [hs] at hW
  have hW : W = n := by simp at hW; omega
  subst hW
  obtain ⟨m, i, e1, e2, e3, e4⟩ := read_num2 double hx
  rw [hv] at e2
  rw [d_binade] at e3 e4
  -- the place: 1074 - i is at least 1, and m has 53 digits
  have hm : 4503599627370496 ≤ m := by
    rcases e4 with h | h
    · subst h
      rw [Nat.pow_zero, Nat.mul_one] at e2
      have : 2 ^ 1074 ≤ W * 2 ^ 1074 := Nat.le_mul_of_pos_left _ h0
      have h53 : 2 ^ 53 ≤ 2 ^ 1074 := Nat.pow_le_pow_right (by omega) (by omega)
      omega
    · exact h
  have hi1 : i < 1074 := by
    rcases Nat.lt_or_ge i 1074 with h | h
    · exact h
    · exfalso
      have : m * 2 ^ 1074 ≤ m * 2 ^ i := Nat.mul_le_mul_left _ (Nat.pow_le_pow_right (by omega) h)
      have h2 : W * 2 ^ 1074 < m * 2 ^ 1074 := Nat.mul_lt_mul_of_pos_right (by omega) (Nat.two_pow_pos _)
      omega
  obtain ⟨t, ht⟩ : ∃ t, 1074 - i = t := ⟨_, rfl⟩
  have hmW : m = W * 2 ^ t := by
    have : (2 : Nat) ^ 1074 = 2 ^ t * 2 ^ i := by rw [← Nat.pow_add]; congr 1; omega
    rw [this, ← Nat.mul_assoc] at e2
    exact Nat.eq_of_mul_eq_mul_right (Nat.two_pow_pos i) e2
  have hml : m.log2 = 52 := by
    rw [Nat.log2_eq_iff (by omega)]; omega
  have ht53 : t ≤ 52 := by
    rcases Nat.lt_or_ge t 53 with h | h
    · omega
    · have : 2 ^ 53 ≤ 2 ^ t := Nat.pow_le_pow_right (by omega) h
      have h2 : 2 ^ t ≤ W * 2 ^ t := Nat.le_mul_of_pos_left _ h0
      omega
  -- the shift that makes the place even
  obtain ⟨j, hj⟩ : ∃ j : Nat, 56 + t + (t % 2) = 2 * j := ⟨(56 + t + t % 2) / 2, by omega⟩
  have hj29 : 29 ≤ j := by omega
  have hj55 : j ≤ 55 := by omega
  unfold Format.sqrt
  rw [e1, hs]
  have hroot : (Datum.number false m (double.leastPlace + (i : Nat))).root (double.fractionBits + 2) = some (.number false (2 * Datum.rootFrom (W * (2 ^ j * 2 ^ j)) ((W * (2 ^ j * 2 ^ j)).log2 / 2 + 1) 0 + (Datum.rootFrom (W * (2 ^ j * 2 ^ j)) ((W * (2 ^ j * 2 ^ j)).log2 / 2 + 1) 0 * Datum.rootFrom (W * (2 ^ j * 2 ^ j)) ((W * (2 ^ j * 2 ^ j)).log2 / 2 + 1) 0 != W * (2 ^ j * 2 ^ j)).toNat) (-(j : Int) - 1)) := by
    unfold Datum.root
    dsimp only
    rw [if_neg (by omega), if_neg (by decide), hml, d_place, show double.fractionBits = 52 from rfl]
    have e5 : 2 * (52 + 2) - 52 = 56 := by omega
    rw [e5]
    have e6 : ((-1074 + ((i : Nat) : Int) - ((56 : Nat) : Int)) % 2).toNat = t % 2 := by omega
    rw [e6]
    have e7 : m <<< (56 + t % 2) = W * (2 ^ j * 2 ^ j) := by
      rw [Nat.shiftLeft_eq, hmW, Nat.mul_assoc, ← Nat.pow_add, ← Nat.pow_add]
      congr 2; omega
    rw [e7]
    have e8 : (-1074 + ((i : Nat) : Int) - ((56 + t % 2 : Nat) : Int)) / 2 - 1 = -(j : Int) - 1 := by omega
    rw [e8]
  have hNm : W * (2 ^ j * 2 ^ j) = m * 2 ^ (56 + t % 2) := by
    rw [hmW, Nat.mul_assoc, ← Nat.pow_add, ← Nat.pow_add]
    congr 2; omega
  rw [hroot]
  obtain ⟨Nn, hNn⟩ : ∃ N, W * (2 ^ j * 2 ^ j) = N := ⟨_, rfl⟩
  rw [hNn]
  have hNpos : 0 < Nn := by rw [← hNn]; exact Nat.mul_pos h0 (Nat.mul_pos (Nat.two_pow_pos _) (Nat.two_pow_pos _))
  have hrt := rootFrom_ok Nn (Nn.log2 / 2 + 1) 0 (by omega) (by
    have h1 := lt_log2 Nn
    rw [Nat.zero_add, ← Nat.pow_add]
    calc Nn < 2 ^ (Nn.log2 + 1) := h1
      _ ≤ 2 ^ (Nn.log2 / 2 + 1 + (Nn.log2 / 2 + 1)) := Nat.pow_le_pow_right (by omega) (by omega))
  generalize Datum.rootFrom Nn (Nn.log2 / 2 + 1) 0 = R at hrt ⊢
  obtain ⟨r1, r2⟩ := hrt
  -- the whole root k
  have hk := isq_ok (n := W) (by omega)
  generalize hkk : isq W = k at hk ⊢
  obtain ⟨k1, k2⟩ := hk
  have hkb : k + 1 ≤ 67108864 := by
    rcases Nat.lt_or_ge k 67108864 with h | h
    · omega
    · have := Nat.mul_le_mul h h; omega
  have hgap := sqrt_gap (j := j) (by omega) k2 hkb (by rw [hNn]; exact r1)
  have hlow : k * 2 ^ j ≤ R := by
    rcases Nat.lt_or_ge R (k * 2 ^ j) with h | h
    · exfalso
      have h1 : (R + 1) * (R + 1) ≤ (k * 2 ^ j) * (k * 2 ^ j) := Nat.mul_le_mul h h
      have h2 : (k * 2 ^ j) * (k * 2 ^ j) = k * k * (2 ^ j * 2 ^ j) := (Nat.mul_mul_mul_comm k k (2 ^ j) (2 ^ j)).symm
      have h3 : k * k * (2 ^ j * 2 ^ j) ≤ W * (2 ^ j * 2 ^ j) := Nat.mul_le_mul_right _ k1
      omega
    · exact h
  have hkpos : 1 ≤ k := by
    rcases Nat.eq_zero_or_pos k with h | h
    · subst h; simp at k2; omega
    · exact h
  obtain ⟨V, hV⟩ : ∃ V, 2 * R + (R * R != Nn).toNat = V := ⟨_, rfl⟩
  have hV1 : 2 * R ≤ V := by omega
  have hV2 : V ≤ 2 * R + 1 := by have := Bool.toNat_le (R * R != Nn); omega
  rw [hV]
  clear hV hroot
  have hR54 : 18014398509481984 ≤ R := by
    rcases Nat.lt_or_ge R 18014398509481984 with h | h
    · exfalso
      have h1 : (R + 1) * (R + 1) ≤ 18014398509481984 * 18014398509481984 := Nat.mul_le_mul h h
      have h2 : 4503599627370496 * 2 ^ 56 ≤ m * 2 ^ (56 + t % 2) := Nat.mul_le_mul hm (Nat.pow_le_pow_right (by omega) (by omega))
      have h3 : 4503599627370496 * 2 ^ 56 = 18014398509481984 * 18014398509481984 := by decide
      omega
    · exact h
  obtain ⟨G, hG⟩ : ∃ G, 2 ^ (j - 27) = G := ⟨_, rfl⟩
  have hP : 2 ^ j = 134217728 * G := by rw [← hG, show (134217728 : Nat) = 2 ^ 27 by decide, ← Nat.pow_add]; congr 1; omega
  have hG4 : 4 ≤ G := by
    rw [← hG]
    calc 4 = 2 ^ 2 := by decide
      _ ≤ 2 ^ (j - 27) := Nat.pow_le_pow_right (by omega) (by omega)
  rw [hG] at hgap
  have hVlt : V < 2 ^ (j + 27) := by
    have h1 : (k + 1) * 2 ^ j ≤ 67108864 * 2 ^ j := Nat.mul_le_mul_right _ hkb
    have h2 : 2 ^ (j + 27) = 134217728 * 2 ^ j := by rw [Nat.pow_add, Nat.mul_comm]
    omega
  have h0V : V ≠ 0 := by omega
  have hL1 : V.log2 < j + 27 := (Nat.log2_lt h0V).2 hVlt
  have hL2 : 53 ≤ V.log2 := (Nat.le_log2 h0V).2 (by omega)
  obtain ⟨r, g1, g2, g3⟩ := nearest_val V j (by omega) (by omega) (Nat.lt_of_lt_of_le hVlt (Nat.pow_le_pow_right (by omega) (by omega))) hj29
  obtain ⟨D, hD⟩ : ∃ D, V.log2 - 52 = D := ⟨_, rfl⟩
  rw [hD] at g3
  have hDj : D ≤ j - 26 := by omega
  have hD1 : 1 ≤ D := by omega
  obtain ⟨P, hPD⟩ : ∃ P, 2 ^ D = P := ⟨_, rfl⟩
  have hPG : P ≤ 2 * G := by
    rw [← hPD, ← hG, Nat.mul_comm, ← Nat.pow_succ]
    exact Nat.pow_le_pow_right (by omega) (by omega)
  have herr := nearN_err V D hD1
  have hfl : V / 2 ^ D ≤ nearN V D := by unfold nearN; omega
  obtain ⟨K, hK⟩ : ∃ K, nearN V D = K := ⟨_, rfl⟩
  rw [hK] at herr g3 hfl
  have hlowK : k * 2 ^ (j + 1) ≤ K * 2 ^ D := by
    have e : (2 : Nat) ^ (j + 1) = 2 ^ (j + 1 - D) * 2 ^ D := by rw [← Nat.pow_add]; congr 1; omega
    have h1 : k * 2 ^ (j + 1 - D) ≤ V / 2 ^ D := by
      rw [Nat.le_div_iff_mul_le (Nat.two_pow_pos D), Nat.mul_assoc, ← e, Nat.pow_succ, ← Nat.mul_assoc]
      omega
    rw [e, ← Nat.mul_assoc]
    exact Nat.mul_le_mul_right _ (Nat.le_trans h1 hfl)
  have hupK : K * 2 ^ D < (k + 1) * 2 ^ (j + 1) := by
    rw [Nat.pow_succ, ← Nat.mul_assoc]
    rw [hPD] at herr ⊢
    omega
  have hfloor : val double r / 2 ^ 1074 = k := by
    have hp := Nat.two_pow_pos (j + 1)
    have a1 : k * 2 ^ 1074 ≤ val double r := by
      refine Nat.le_of_mul_le_mul_right ?_ hp
      rw [g3, Nat.mul_right_comm]
      exact Nat.mul_le_mul_right _ hlowK
    have a2 : val double r < (k + 1) * 2 ^ 1074 := by
      refine Nat.lt_of_mul_lt_mul_right (a := 2 ^ (j + 1)) ?_
      rw [g3, Nat.mul_right_comm (k + 1)]
      exact Nat.mul_lt_mul_of_pos_right hupK (Nat.two_pow_pos _)
    exact Nat.div_eq_of_lt_le a1 a2
  have hw : r < double.signWeight := by rw [d_weight]; rw [d_inf] at g2; omega
  refine ⟨double.word false r, ?_, ?_⟩
  · show some (double.nearest false V (-(j : Int) - 1)) = _
    rw [g1]
  · unfold floatToIntVal
    rw [show FloatKind.f64.decode (double.word false r) = double.read (double.word false r) from rfl]
    unfold Datum.toInt
    rw [integral_read .zero (by rw [rung_word double _ hw]; exact g2), rung_word double _ hw, wholeN_zero, hfloor, sgn_word double _ hw]
    dsimp only
    rw [signed_eq]
    simp only [Bool.false_eq_true, if_false, Nat.pow_zero, Nat.mul_one]
    rw [if_pos (by rw [show IntKind.i64.min = -9223372036854775808 by decide, show IntKind.i64.max = 9223372036854775807 by decide]; omega)]
end Go.Qu
