/- A float64 made whole, held within bounds and turned into an integer: the same in plain numbers. -/
import Derived.Test.Qxb6500376aDoorQuFloat
namespace Go.Qu
set_option linter.unusedVariables false
set_option linter.unusedSimpArgs false
set_option exponentiation.threshold 4000
open Ieee Go.RowKit

theorem d_weight : double.signWeight = 9223372036854775808 := by decide
theorem d_binade : double.binade = 4503599627370496 := by decide
theorem d_inf : double.infRung = 9218868437227405312 := by decide
theorem d_place : double.leastPlace = -1074 := by decide
theorem d_bi : double.binade ≤ double.infRung := by decide
/-- the magnitude's bits -/
def mg (b : Int) : Nat := (b % 9223372036854775808).toNat
def I64 (b : Int) : Prop := -9223372036854775808 ≤ b ∧ b ≤ 9223372036854775807
theorem u64_val (b : Int) : (u64 b : Int) = b % 18446744073709551616 := by
  unfold u64
  rw [IntKind.wrap_u64]
  omega
theorem rung_u64 (b : Int) : rung double (u64 b) = mg b := by
  have := u64_val b
  unfold rung mg
  rw [d_weight]
  omega
theorem sgn_u64 {b : Int} (h : I64 b) : sgn double (u64 b) = decide (b < 0) := by
  have h1 := u64_val b
  unfold I64 at h
  unfold sgn
  rw [d_weight]
  rcases Int.lt_or_le b 0 with hb | hb
  · rw [decide_eq_true hb]
    have : u64 b / 9223372036854775808 = 1 := by omega
    rw [this]; rfl
  · rw [decide_eq_false (by omega)]
    have : u64 b / 9223372036854775808 = 0 := by omega
    rw [this]; rfl
theorem numR_iff (x : Nat) : num x = decide (rung double x ≤ double.infRung) := by
  unfold num
  rcases Nat.lt_trichotomy (rung double x) double.infRung with h | h | h
  · obtain ⟨m, i, e, _⟩ := read_num double h
    rw [e, decide_eq_true (by omega)]; rfl
  · rw [read_inf double h d_bi, decide_eq_true (by omega)]; rfl
  · rw [decide_eq_false (by omega)]
    have h' : double.infRung < x % double.signWeight := h
    have hbi := d_bi
    unfold Format.read
    dsimp only
    rw [if_neg (by omega), if_neg (by omega), if_neg (by omega)]
    rfl

/-- the word y stands for the integer n -/
def IsInt (y : Nat) (n : Int) : Prop := rung double y < double.infRung ∧ ∃ W, val double (rung double y) = W * 2 ^ 1074 ∧ n = if sgn double y then -(W : Int) else W
theorem IsInt.toInt {y : Nat} {n : Int} (h : IsInt y n) : (double.read y).toInt .zero = some n := by
  obtain ⟨h1, W, h2, rfl⟩ := h
  obtain ⟨m, i, e, v⟩ := read_num double h1
  rw [h2] at v
  rw [e]
  unfold Datum.toInt Datum.integral
  dsimp only
  have hW : Toward.zero.cut (sgn double y) (m <<< (double.leastPlace + (i : Int)).toNat) (-(double.leastPlace + (i : Int))).toNat = W := by
    rw [d_place]
    rcases Nat.le_total 1074 i with hi | hi
    · rw [show (-(-1074 + (i : Int))).toNat = 0 by omega, show (-1074 + (i : Int)).toNat = i - 1074 by omega, cut_zero_drop, Nat.shiftLeft_eq]
      have : m * 2 ^ (i - 1074) * 2 ^ 1074 = W * 2 ^ 1074 := by rw [← v, Nat.mul_assoc, ← Nat.pow_add]; congr 2; omega
      exact Nat.eq_of_mul_eq_mul_right (Nat.two_pow_pos 1074) this
    · rw [show (-(-1074 + (i : Int))).toNat = 1074 - i by omega, show (-1074 + (i : Int)).toNat = 0 by omega, Nat.shiftLeft_eq, Nat.pow_zero, Nat.mul_one]
      have : m = W * 2 ^ (1074 - i) := by
        have h3 : m * 2 ^ i = W * 2 ^ (1074 - i) * 2 ^ i := by rw [v, Nat.mul_assoc, ← Nat.pow_add]; congr 2; omega
        exact Nat.eq_of_mul_eq_mul_right (Nat.two_pow_pos i) h3
      rw [this, cut_exact]
  rw [hW, signed_eq, Nat.pow_zero, Nat.mul_one]
theorem IsInt.le {y y' : Nat} {n n' : Int} (h : IsInt y n) (h' : IsInt y' n') : sr double y < sr double y' ↔ n < n' := by
  obtain ⟨h1, W, h2, rfl⟩ := h
  obtain ⟨h1', W', h2', rfl⟩ := h'
  unfold sr
  rw [← sv_lt double, h2, h2', ← scale_lt (if sgn double y then -(W : Int) else W) (if sgn double y' then -(W' : Int) else W') 1074]
  have e1 : ∀ (s : Bool) (W : Nat), (if s then -((W * 2 ^ 1074 : Nat) : Int) else ((W * 2 ^ 1074 : Nat) : Int)) = (if s then -(W : Int) else (W : Int)) * ((2 ^ 1074 : Nat) : Int) := by
    intro s W
    cases s
    · simp only [Bool.false_eq_true, if_false, Int.natCast_mul]
    · simp only [if_true, Int.natCast_mul, Int.neg_mul]
  rw [e1, e1]

/-! ### the clamp -/
theorem read_neg (f : Format) (x : Nat) : (f.read x).neg = sgn f x := by
  unfold Format.read sgn
  dsimp only
  split
  · rfl
  · split
    · rfl
    · split <;> rfl
theorem sr_neg {f : Format} {x : Nat} (h : sr f x < 0) : sgn f x = true := by
  unfold sr at h
  cases hs : sgn f x
  · rw [hs] at h; simp at h; omega
  · rfl
theorem sr_pos {f : Format} {x : Nat} (h : 0 < sr f x) : sgn f x = false := by
  unfold sr at h
  cases hs : sgn f x
  · rfl
  · rw [hs] at h; simp at h; omega
theorem maxF_sr {x y : Nat} (hx : rung double x ≤ double.infRung) (hy : rung double y ≤ double.infRung) : maxF x y = if sr double x < sr double y then y else if sr double y < sr double x then x else if sgn double x then y else x := by
  unfold maxF
  rw [order_sr double d_bi hx hy, read_neg]
  by_cases h : sr double x < sr double y
  · rw [if_pos h, cmp_lt h]
  · rw [if_neg h]
    by_cases k : sr double y < sr double x
    · rw [if_pos k, cmp_gt k]
    · rw [if_neg k, cmp_eq (by omega)]
theorem minF_sr {x y : Nat} (hx : rung double x ≤ double.infRung) (hy : rung double y ≤ double.infRung) : minF x y = if sr double x < sr double y then x else if sr double y < sr double x then y else if sgn double x then x else y := by
  unfold minF
  rw [order_sr double d_bi hx hy, read_neg]
  by_cases h : sr double x < sr double y
  · rw [if_pos h, cmp_lt h]
  · rw [if_neg h]
    by_cases k : sr double y < sr double x
    · rw [if_pos k, cmp_gt k]
    · rw [if_neg k, cmp_eq (by omega)]
theorem clamp_sr {x lo hi : Nat} (hx : rung double x ≤ double.infRung) (hlo : rung double lo ≤ double.infRung) (hhi : rung double hi ≤ double.infRung) (l0 : sr double lo < 0) (h0 : 0 < sr double hi) :
    clampF x lo hi = if sr double x ≤ sr double lo then lo else if sr double hi ≤ sr double x then hi else x := by
  have e1 : maxF x lo = if sr double x ≤ sr double lo then lo else x := by
    rw [maxF_sr hx hlo]
    by_cases h : sr double x < sr double lo
    · rw [if_pos h, if_pos (by omega)]
    · rw [if_neg h]
      by_cases k : sr double lo < sr double x
      · rw [if_pos k, if_neg (by omega)]
      · have hs := sr_neg (by omega : sr double x < 0)
        rw [if_neg k, hs, if_pos rfl, if_pos (by omega)]
  unfold clampF
  rw [e1]
  by_cases h : sr double x ≤ sr double lo
  · rw [if_pos h, if_pos h, minF_sr hlo hhi, if_pos (by omega)]
  · rw [if_neg h, if_neg h, minF_sr hx hhi]
    by_cases k : sr double hi ≤ sr double x
    · rw [if_pos k, if_neg (by omega)]
      by_cases k2 : sr double hi < sr double x
      · rw [if_pos k2]
      · rw [if_neg k2, sr_pos (by omega : 0 < sr double x), if_neg (by simp)]
    · rw [if_neg k, if_pos (by omega)]
theorem moved_sr {x y : Nat} (hx : rung double x ≤ double.infRung) (hy : rung double y ≤ double.infRung) : moved x y = decide (sr double x ≠ sr double y) := by
  unfold moved
  rw [order_sr double d_bi hx hy]
  by_cases h : sr double x = sr double y
  · rw [cmp_eq h, decide_eq_false (by simpa using h)]; rfl
  · rw [decide_eq_true h]
    rcases Int.lt_or_gt_of_ne h with k | k
    · rw [cmp_lt k]; rfl
    · rw [cmp_gt k]; rfl

/-! ### made whole -/
/-- the magnitude of the rung r (of a number), made whole -/
def wholeN (w : Toward) (s : Bool) (r : Nat) : Nat :=
  if r < 4503599627370496 then w.cut s r 1074
  else if 1075 ≤ r / 4503599627370496 then (4503599627370496 + r % 4503599627370496) * 2 ^ (r / 4503599627370496 - 1075)
  else w.cut s (4503599627370496 + r % 4503599627370496) (1075 - r / 4503599627370496)
theorem integral_read (w : Toward) {x : Nat} (h : rung double x < double.infRung) : (double.read x).integral w = .number (sgn double x) (wholeN w (sgn double x) (rung double x)) 0 := by
  unfold rung at h ⊢
  unfold Format.read
  unfold sgn wholeN
  dsimp only
  rw [d_binade]
  by_cases h1 : x % double.signWeight < 4503599627370496
  · rw [if_pos h1, if_pos h1]
    unfold Datum.integral
    rw [d_place]
    rfl
  · rw [if_neg h1, if_pos h, if_neg h1]
    unfold Datum.integral
    dsimp only
    rw [d_place]
    generalize hq : x % double.signWeight / 4503599627370496 = q
    have hq1 : 1 ≤ q := by omega
    by_cases h2 : 1075 ≤ q
    · rw [if_pos h2, show (-(-1074 + ((q - 1 : Nat) : Int))).toNat = 0 by omega, show (-1074 + ((q - 1 : Nat) : Int)).toNat = q - 1075 by omega, cut_zero_drop, Nat.shiftLeft_eq]
    · rw [if_neg h2, show (-(-1074 + ((q - 1 : Nat) : Int))).toNat = 1075 - q by omega, show (-1074 + ((q - 1 : Nat) : Int)).toNat = 0 by omega, Nat.shiftLeft_eq, Nat.pow_zero, Nat.mul_one]
theorem more_le (w : Toward) (s : Bool) (n d : Nat) : w.cut s n d ≤ n / 2 ^ d + 1 := by
  rw [cut_eq]
  have := Bool.toNat_le (more w s (n % 2 ^ d) (2 ^ d) (n / 2 ^ d))
  omega
theorem val_infRung : val double double.infRung = 2 ^ 2098 := by decide +kernel
theorem small_lt {k : Nat} (hk : k < 2 ^ 53) : k * 2 ^ 0 * 2 ^ 1074 < val double double.infRung := by
  rw [val_infRung, Nat.pow_zero, Nat.mul_one]
  calc k * 2 ^ 1074 < 2 ^ 53 * 2 ^ 1074 := Nat.mul_lt_mul_of_pos_right hk (Nat.two_pow_pos _)
    _ = 2 ^ 1127 := by rw [← Nat.pow_add]
    _ ≤ 2 ^ 2098 := Nat.pow_le_pow_right (by omega) (by omega)
/-- what is written of a whole number of that kind stands for it -/
theorem wholeF_int {x : Nat} (m : Int) (h : rung double x < double.infRung) : IsInt (wholeF x m) (if sgn double x then -(wholeN (way m) (sgn double x) (rung double x) : Int) else wholeN (way m) (sgn double x) (rung double x)) := by
  unfold wholeF
  rw [integral_read (way m) h]
  generalize sgn double x = s
  have key : ∃ k t, wholeN (way m) s (rung double x) = k * 2 ^ t ∧ k < 2 ^ 53 ∧ k * 2 ^ t * 2 ^ 1074 < val double double.infRung := by
    unfold wholeN
    by_cases h1 : rung double x < 4503599627370496
    · rw [if_pos h1]
      have h2 := more_le (way m) s (rung double x) 1074
      have h3 : rung double x / 2 ^ 1074 = 0 := Nat.div_eq_of_lt (Nat.lt_trans h1 (by decide +kernel))
      have hk : (way m).cut s (rung double x) 1074 < 2 ^ 53 := by omega
      exact ⟨_, 0, by rw [Nat.pow_zero, Nat.mul_one], hk, small_lt hk⟩
    · rw [if_neg h1]
      by_cases h2 : 1075 ≤ rung double x / 4503599627370496
      · rw [if_pos h2]
        refine ⟨_, _, rfl, by omega, ?_⟩
        have hv := val_lt double h
        unfold val at hv
        rw [d_binade, if_neg h1] at hv
        rw [Nat.mul_assoc, ← Nat.pow_add, show rung double x / 4503599627370496 - 1075 + 1074 = rung double x / 4503599627370496 - 1 by omega]
        unfold val
        rw [d_binade]
        exact hv
      · rw [if_neg h2]
        have h3 := more_le (way m) s (4503599627370496 + rung double x % 4503599627370496) (1075 - rung double x / 4503599627370496)
        have h4 : (4503599627370496 + rung double x % 4503599627370496) / 2 ^ (1075 - rung double x / 4503599627370496) ≤ (4503599627370496 + rung double x % 4503599627370496) / 2 ^ 1 :=
          Nat.div_le_div_left (Nat.pow_le_pow_right (by omega) (by omega)) (by decide)
        have hk : (way m).cut s (4503599627370496 + rung double x % 4503599627370496) (1075 - rung double x / 4503599627370496) < 2 ^ 53 := by omega
        exact ⟨_, 0, by rw [Nat.pow_zero, Nat.mul_one], hk, small_lt hk⟩
  obtain ⟨k, t, e, hk, hv⟩ := key
  rw [e]
  show IsInt (double.nearest s (k * 2 ^ t) 0) _
  by_cases hk0 : k = 0
  · subst hk0
    have : double.nearest s (0 * 2 ^ t) 0 = double.word s 0 := by rw [Nat.zero_mul]; rfl
    rw [this]
    have hw : (0 : Nat) < double.signWeight := by decide
    refine ⟨?_, 0, ?_, ?_⟩
    · unfold rung; rw [word_mod double s hw]; decide
    · unfold rung; rw [word_mod double s hw]; decide
    · cases s <;> simp
  · obtain ⟨r, e1, e2⟩ := nearest_exact double s k t 1074 hk hk0
    have hp : double.leastPlace + ((1074 : Nat) : Int) = 0 := by decide
    rw [hp] at e1
    have hr : r < double.infRung := by
      rw [← val_lt_iff double, e2, Nat.pow_add, ← Nat.mul_assoc]; exact hv
    rw [Nat.min_eq_left (Nat.le_of_lt hr)] at e1
    have hw : r < double.signWeight := Nat.lt_trans hr (by decide)
    rw [e1]
    refine ⟨?_, k * 2 ^ t, ?_, ?_⟩
    · unfold rung; rw [word_mod double s hw]; exact hr
    · unfold rung; rw [word_mod double s hw, e2, Nat.pow_add, Nat.mul_assoc]
    · unfold sgn; rw [word_div double s hw]

/-! ### the guarded rounding in plain numbers -/
/-- the model's Whole: the number made whole, and whether it is beyond all bounds -/
def wholeM (b m : Int) : Int × Int :=
  if 1085 ≤ mg b / 4503599627370496 then (0, if b < 0 then -1 else 1)
  else (if b < 0 then -(wholeN (way m) true (mg b) : Int) else wholeN (way m) false (mg b), 0)
def roundI (b m lo hi : Int) : Int × Bool :=
  if (wholeM b m).2 > 0 ∨ (wholeM b m).1 > hi then (hi, true)
  else if (wholeM b m).2 < 0 ∨ (wholeM b m).1 < lo then (lo, true)
  else ((wholeM b m).1, false)
theorem sr_zero : sr double 0 = 0 := by decide
theorem isInt_zero : IsInt 0 0 := ⟨by decide, 0, by decide, by simp⟩
theorem mg_lt (b : Int) : mg b < 9223372036854775808 := by unfold mg; omega
theorem big_val (w : Toward) (s : Bool) {r : Nat} (h : 1085 ≤ r / 4503599627370496) : 4611686018427387904 ≤ wholeN w s r := by
  unfold wholeN
  rw [if_neg (by omega), if_pos (by omega)]
  calc 4611686018427387904 = 4503599627370496 * 2 ^ 10 := by decide
    _ ≤ (4503599627370496 + r % 4503599627370496) * 2 ^ (r / 4503599627370496 - 1075) := Nat.mul_le_mul (by omega) (Nat.pow_le_pow_right (by omega) (by omega))
theorem round_f {b m : Int} (hb : I64 b) (hn : mg b ≤ double.infRung) {lo hi : Nat} {LO HI : Int} (hlo : IsInt lo LO) (hhi : IsInt hi HI) (l0 : LO < 0) (h0 : 0 < HI) (l1 : -4611686018427387904 < LO) (h1 : HI < 4611686018427387904)
    {k : IntKind} (k0 : k.min ≤ LO) (k1 : HI ≤ k.max) :
    floatToIntVal .f64 (clampF (wholeF (u64 b) m) lo hi) k = some (roundI b m LO HI).1 ∧ moved (clampF (wholeF (u64 b) m) lo hi) (wholeF (u64 b) m) = (roundI b m LO HI).2 := by
  have slo : sr double lo < 0 := by have := (hlo.le isInt_zero).2 l0; rwa [sr_zero] at this
  have shi : 0 < sr double hi := by have := (isInt_zero.le hhi).2 h0; rwa [sr_zero] at this
  have rlo : rung double lo ≤ double.infRung := Nat.le_of_lt hlo.1
  have rhi : rung double hi ≤ double.infRung := Nat.le_of_lt hhi.1
  have fin : ∀ {y : Nat} {n : Int}, IsInt y n → LO ≤ n → n ≤ HI → floatToIntVal .f64 y k = some n := by
    intro y n hy a1 a2
    unfold floatToIntVal
    rw [show FloatKind.f64.decode y = double.read y from rfl, hy.toInt]
    dsimp only
    rw [if_pos ⟨by omega, by omega⟩]
  rcases Nat.lt_or_ge (mg b) double.infRung with hf | hf
  · have hr : rung double (u64 b) < double.infRung := by rw [rung_u64]; exact hf
    have hy := wholeF_int m hr
    rw [rung_u64, sgn_u64 hb] at hy
    have en : (if decide (b < 0) = true then -(wholeN (way m) (decide (b < 0)) (mg b) : Int) else wholeN (way m) (decide (b < 0)) (mg b)) = if b < 0 then -(wholeN (way m) true (mg b) : Int) else wholeN (way m) false (mg b) := by
      by_cases hb0 : b < 0
      · simp [hb0]
      · simp [hb0]
    rw [en] at hy
    generalize eN : (if b < 0 then -(wholeN (way m) true (mg b) : Int) else wholeN (way m) false (mg b)) = N at hy
    generalize wholeF (u64 b) m = y at hy
    have ry : rung double y ≤ double.infRung := Nat.le_of_lt hy.1
    have o1 := hy.le hlo
    have o2 := hlo.le hy
    have o3 := hy.le hhi
    have o4 := hhi.le hy
    have hR : roundI b m LO HI = if HI < N then (HI, true) else if N < LO then (LO, true) else (N, false) := by
      unfold roundI wholeM
      by_cases hbig : 1085 ≤ mg b / 4503599627370496
      · rw [if_pos hbig]
        have b1 := big_val (way m) true hbig
        have b2 := big_val (way m) false hbig
        by_cases hb0 : b < 0
        · rw [if_pos hb0] at eN
          simp only [hb0, if_true]
          rw [if_neg (by omega), if_pos (by omega), if_neg (by omega), if_pos (by omega)]
        · rw [if_neg hb0] at eN
          simp only [hb0, if_false]
          rw [if_pos (by omega), if_pos (by omega)]
      · rw [if_neg hbig]
        simp only [eN]
        by_cases c1 : HI < N
        · rw [if_pos (by omega), if_pos c1]
        · rw [if_neg (by omega), if_neg c1]
          by_cases c2 : N < LO
          · rw [if_pos (by omega), if_pos c2]
          · rw [if_neg (by omega), if_neg c2]
    rw [hR, clamp_sr ry rlo rhi slo shi]
    by_cases c1 : N ≤ LO
    · rw [if_pos (by omega : sr double y ≤ sr double lo), moved_sr rlo ry]
      refine ⟨?_, ?_⟩
      · rw [if_neg (by omega)]
        by_cases c2 : N < LO
        · rw [if_pos c2]; exact fin hlo (Int.le_refl _) (by omega)
        · rw [if_neg c2, show N = LO by omega]; exact fin hlo (Int.le_refl _) (by omega)
      · rw [if_neg (by omega)]
        by_cases c2 : N < LO
        · rw [if_pos c2, decide_eq_true (by omega)]
        · rw [if_neg c2, decide_eq_false (by omega)]
    · rw [if_neg (by omega : ¬ sr double y ≤ sr double lo)]
      by_cases c3 : HI ≤ N
      · rw [if_pos (by omega : sr double hi ≤ sr double y), moved_sr rhi ry]
        refine ⟨?_, ?_⟩
        · by_cases c2 : HI < N
          · rw [if_pos c2]; exact fin hhi (by omega) (Int.le_refl _)
          · rw [if_neg c2, if_neg (by omega), show N = HI by omega]; exact fin hhi (by omega) (Int.le_refl _)
        · by_cases c2 : HI < N
          · rw [if_pos c2, decide_eq_true (by omega)]
          · rw [if_neg c2, if_neg (by omega), decide_eq_false (by omega)]
      · rw [if_neg (by omega : ¬ sr double hi ≤ sr double y), moved_sr ry ry, if_neg (by omega), if_neg (by omega)]
        exact ⟨fin hy (by omega) (by omega), by simp⟩
  · have hi' : mg b = double.infRung := by omega
    have hr : rung double (u64 b) = double.infRung := by rw [rung_u64]; exact hi'
    have hy : wholeF (u64 b) m = double.word (decide (b < 0)) double.infRung := by
      unfold wholeF
      rw [read_inf double hr d_bi, sgn_u64 hb]
      rfl
    have hw : double.infRung < double.signWeight := by decide
    have ry' : rung double (wholeF (u64 b) m) = double.infRung := by rw [hy]; unfold rung; rw [word_mod double _ hw]
    have sy : sgn double (wholeF (u64 b) m) = decide (b < 0) := by rw [hy]; unfold sgn; rw [word_div double _ hw]
    have ry : rung double (wholeF (u64 b) m) ≤ double.infRung := by omega
    have e : sr double (wholeF (u64 b) m) = if b < 0 then -(double.infRung : Int) else double.infRung := by
      unfold sr; rw [ry', sy]
      by_cases hb0 : b < 0
      · simp [hb0]
      · simp [hb0]
    generalize wholeF (u64 b) m = y at *
    have hbig : 1085 ≤ mg b / 4503599627370496 := by rw [hi', d_inf]; decide
    have hR : roundI b m LO HI = if b < 0 then (LO, true) else (HI, true) := by
      unfold roundI wholeM
      rw [if_pos hbig]
      by_cases hb0 : b < 0
      · simp only [hb0, if_true]; rw [if_neg (by omega), if_pos (by omega)]
      · simp only [hb0, if_false]; rw [if_pos (by omega)]
    have blo : -(double.infRung : Int) < sr double lo := by unfold sr; have := hlo.1; split <;> omega
    have bhi : sr double hi < (double.infRung : Int) := by unfold sr; have := hhi.1; split <;> omega
    rw [hR, clamp_sr ry rlo rhi slo shi]
    by_cases hb0 : b < 0
    · rw [if_pos hb0] at e
      rw [if_pos (by omega), if_pos hb0, moved_sr rlo ry]
      exact ⟨fin hlo (Int.le_refl _) (by omega), decide_eq_true (by omega)⟩
    · rw [if_neg hb0] at e
      rw [if_neg (by omega), if_pos (by omega), if_neg hb0, moved_sr rhi ry]
      exact ⟨fin hhi (by omega) (Int.le_refl _), decide_eq_true (by omega)⟩
theorem int_lo32 : IsInt 13970166044103278592 (-2147483648) := ⟨by decide +kernel, 2147483648, by decide +kernel, by decide +kernel⟩
theorem int_hi32 : IsInt 4746794007244308480 2147483647 := ⟨by decide +kernel, 2147483647, by decide +kernel, by decide +kernel⟩
theorem int_lo16 : IsInt 13898108450065350656 (-32768) := ⟨by decide +kernel, 32768, by decide +kernel, by decide +kernel⟩
theorem int_hi16 : IsInt 4674736138332667904 32767 := ⟨by decide +kernel, 32767, by decide +kernel, by decide +kernel⟩
theorem round32_f {b m : Int} (hb : I64 b) (hn : mg b ≤ double.infRung) :
    floatToIntVal .f64 (clampF (wholeF (u64 b) m) 13970166044103278592 4746794007244308480) .i32 = some (roundI b m (-2147483648) 2147483647).1 ∧
    moved (clampF (wholeF (u64 b) m) 13970166044103278592 4746794007244308480) (wholeF (u64 b) m) = (roundI b m (-2147483648) 2147483647).2 :=
  round_f hb hn int_lo32 int_hi32 (by decide) (by decide) (by decide) (by decide) (by decide) (by decide)
theorem round16_f {b m : Int} (hb : I64 b) (hn : mg b ≤ double.infRung) :
    floatToIntVal .f64 (clampF (wholeF (u64 b) m) 13898108450065350656 4674736138332667904) .i16 = some (roundI b m (-32768) 32767).1 ∧
    moved (clampF (wholeF (u64 b) m) 13898108450065350656 4674736138332667904) (wholeF (u64 b) m) = (roundI b m (-32768) 32767).2 :=
  round_f hb hn int_lo16 int_hi16 (by decide) (by decide) (by decide) (by decide) (by decide) (by decide)
end Go.Qu
