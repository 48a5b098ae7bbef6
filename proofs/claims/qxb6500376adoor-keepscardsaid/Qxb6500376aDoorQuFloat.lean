/- Floats as rungs: the value of a rung, the order of words, exact writing. No program in sight. -/
import Derived.Test.Qxb6500376aDoorQuPlain
namespace Go.Qu
set_option linter.unusedVariables false
set_option linter.unusedSimpArgs false
open Ieee

/-- the value of a rung, in units of the least place -/
def val (f : Format) (r : Nat) : Nat := if r < f.binade then r else (f.binade + r % f.binade) * 2 ^ (r / f.binade - 1)
theorem binade_pos (f : Format) : 0 < f.binade := Nat.two_pow_pos _
theorem val_succ (f : Format) (r : Nat) : val f r < val f (r + 1) := by
  have hB := binade_pos f
  generalize eB : f.binade = B at *
  unfold val
  rw [eB]
  by_cases h1 : r + 1 < B
  · rw [if_pos (by omega), if_pos h1]; omega
  · rw [if_neg h1]
    by_cases h0 : r < B
    · have hr : r + 1 = B := by omega
      rw [if_pos h0, hr, Nat.mod_self, Nat.div_self hB]
      simp; omega
    · rw [if_neg h0]
      have hq : 1 ≤ r / B := (Nat.le_div_iff_mul_le hB).2 (by omega)
      have hm : r % B < B := Nat.mod_lt _ hB
      have hd : B * (r / B) + r % B = r := Nat.div_add_mod r B
      by_cases h2 : r % B + 1 < B
      · have e1 : (r + 1) / B = r / B := by
          apply Nat.div_eq_of_lt_le
          · rw [Nat.mul_comm]; omega
          · rw [Nat.add_mul, Nat.mul_comm]; omega
        have e2 : (r + 1) % B = r % B + 1 := by
          have := Nat.div_add_mod (r + 1) B; rw [e1] at this; omega
        rw [e1, e2]
        exact Nat.mul_lt_mul_of_pos_right (by omega) (Nat.two_pow_pos _)
      · have h3 : r % B + 1 = B := by omega
        have e1 : (r + 1) / B = r / B + 1 := by
          apply Nat.div_eq_of_lt_le
          · rw [Nat.add_mul, Nat.mul_comm]; omega
          · rw [Nat.add_mul, Nat.add_mul, Nat.mul_comm]; omega
        have e2 : (r + 1) % B = 0 := by
          have h4 := Nat.div_add_mod (r + 1) B
          rw [e1, Nat.mul_add] at h4
          omega
        rw [e1, e2]
        obtain ⟨q, hq'⟩ : ∃ q, r / B = q + 1 := ⟨r / B - 1, by omega⟩
        rw [hq']
        simp only [Nat.add_sub_cancel, Nat.add_zero, Nat.pow_succ]
        have : (B + r % B) * 2 ^ q < (2 * B) * 2 ^ q := Nat.mul_lt_mul_of_pos_right (by omega) (Nat.two_pow_pos _)
        calc (B + r % B) * 2 ^ q < (2 * B) * 2 ^ q := this
          _ = B * (2 ^ q * 2) := by rw [Nat.mul_comm 2 B, Nat.mul_assoc, Nat.mul_comm 2]
theorem val_lt (f : Format) {r s : Nat} (h : r < s) : val f r < val f s := by
  induction s with
  | zero => omega
  | succ s ih =>
    rcases Nat.lt_or_ge r s with h1 | h1
    · exact Nat.lt_trans (ih h1) (val_succ f s)
    · obtain rfl : r = s := by omega
      exact val_succ f r
theorem val_le (f : Format) {r s : Nat} (h : r ≤ s) : val f r ≤ val f s := by
  rcases Nat.lt_or_ge r s with h1 | h1
  · exact Nat.le_of_lt (val_lt f h1)
  · obtain rfl : r = s := by omega
    exact Nat.le_refl _
theorem val_inj (f : Format) {r s : Nat} (h : val f r = val f s) : r = s := by
  rcases Nat.lt_trichotomy r s with h1 | h1 | h1
  · have := val_lt f h1; omega
  · exact h1
  · have := val_lt f h1; omega
theorem val_lt_iff (f : Format) {r s : Nat} : val f r < val f s ↔ r < s := by
  constructor
  · intro h; rcases Nat.lt_or_ge r s with h1 | h1; exact h1; have := val_le f h1; omega
  · exact val_lt f

/-- sign and rung of a word -/
def sgn (f : Format) (x : Nat) : Bool := x / f.signWeight % 2 == 1
def rung (f : Format) (x : Nat) : Nat := x % f.signWeight
theorem read_num (f : Format) {x : Nat} (h : rung f x < f.infRung) :
    ∃ m i, f.read x = .number (sgn f x) m (f.leastPlace + (i : Nat)) ∧ m * 2 ^ i = val f (rung f x) := by
  unfold rung at h
  unfold Format.read
  unfold rung sgn val
  dsimp only
  by_cases h1 : x % f.signWeight < f.binade
  · rw [if_pos h1]
    exact ⟨x % f.signWeight, 0, by simp, by rw [if_pos h1]; simp⟩
  · rw [if_neg h1, if_pos h]
    exact ⟨_, _, rfl, by rw [if_neg h1]⟩
theorem read_inf (f : Format) {x : Nat} (h : rung f x = f.infRung) (hb : f.binade ≤ f.infRung) : f.read x = .infinity (sgn f x) := by
  unfold rung at h
  unfold Format.read sgn
  dsimp only
  rw [if_neg (by omega), if_neg (by omega), if_pos h]
/-- a rung with its sign -/
def sr (f : Format) (x : Nat) : Int := if sgn f x then -(rung f x : Int) else rung f x

theorem signed_eq (s : Bool) (m k : Nat) : signed s m k = if s then -((m * 2 ^ k : Nat) : Int) else ((m * 2 ^ k : Nat) : Int) := by
  unfold signed
  rw [Nat.shiftLeft_eq]
theorem cmp_def (a b : Int) : compare a b = if a < b then .lt else if a = b then .eq else .gt := rfl
theorem cmp_lt {a b : Int} (h : a < b) : compare a b = .lt := by rw [cmp_def, if_pos h]
theorem cmp_gt {a b : Int} (h : b < a) : compare a b = .gt := by rw [cmp_def, if_neg (by omega), if_neg (by omega)]
theorem cmp_eq {a b : Int} (h : a = b) : compare a b = .eq := by rw [cmp_def, if_neg (by omega), if_pos h]
theorem cmp_of {a b a' b' : Int} (h1 : a < b ↔ a' < b') (h2 : b < a ↔ b' < a') : compare a b = compare a' b' := by
  rw [cmp_def, cmp_def]
  by_cases h : a < b
  · rw [if_pos h, if_pos (h1.1 h)]
  · rw [if_neg h, if_neg (mt h1.2 h)]
    by_cases k : b < a
    · have := h2.1 k
      rw [if_neg (by omega), if_neg (by omega)]
    · have k' := mt h2.2 k
      have h' := mt h1.2 h
      rw [if_pos (by omega), if_pos (by omega)]
theorem sv_lt (f : Format) (s t : Bool) (r q : Nat) : ((if s then -(val f r : Int) else val f r) < (if t then -(val f q : Int) else val f q)) ↔ ((if s then -(r : Int) else r) < (if t then -(q : Int) else q)) := by
  have h1 := @val_lt_iff f r q
  have h2 := @val_lt_iff f q r
  have hz : val f 0 = 0 := by unfold val; rw [if_pos (binade_pos f)]
  have h3 := @val_lt_iff f 0 r
  have h4 := @val_lt_iff f 0 q
  rw [hz] at h3 h4
  cases s <;> cases t <;> simp <;> omega
theorem scale_lt (a b : Int) (k : Nat) : a * (2 ^ k : Nat) < b * (2 ^ k : Nat) ↔ a < b := by
  have : (0 : Int) < ((2 ^ k : Nat) : Int) := by exact_mod_cast Nat.two_pow_pos k
  exact Int.mul_lt_mul_right this
theorem signed_scale (s : Bool) (m i k : Nat) : signed s m i * ((2 ^ k : Nat) : Int) = if s then -((m * 2 ^ (i + k) : Nat) : Int) else ((m * 2 ^ (i + k) : Nat) : Int) := by
  rw [signed_eq, Nat.pow_add, ← Nat.mul_assoc]
  cases s
  · simp
  · simp [Int.neg_mul]
/-- the order of two words that are numbers or infinities is the order of their signed rungs -/
theorem order_sr (f : Format) (hb : f.binade ≤ f.infRung) {x y : Nat} (hx : rung f x ≤ f.infRung) (hy : rung f y ≤ f.infRung) : f.order x y = some (compare (sr f x) (sr f y)) := by
  unfold Format.order sr
  rcases Nat.lt_or_ge (rung f x) f.infRung with h1 | h1
  · obtain ⟨m, i, e1, v1⟩ := read_num f h1
    rw [e1]
    rcases Nat.lt_or_ge (rung f y) f.infRung with h2 | h2
    · obtain ⟨n, j, e2, v2⟩ := read_num f h2
      rw [e2]
      simp only [Datum.order]
      congr 1
      have hi : (f.leastPlace + (i : Int) - min (f.leastPlace + (i : Int)) (f.leastPlace + (j : Int))).toNat = i - min i j := by omega
      have hj : (f.leastPlace + (j : Int) - min (f.leastPlace + (i : Int)) (f.leastPlace + (j : Int))).toNat = j - min i j := by omega
      rw [hi, hj]
      have s1 := signed_scale (sgn f x) m (i - min i j) (min i j)
      have s2 := signed_scale (sgn f y) n (j - min i j) (min i j)
      rw [show i - min i j + min i j = i by omega, v1] at s1
      rw [show j - min i j + min i j = j by omega, v2] at s2
      apply cmp_of
      · rw [← scale_lt _ _ (min i j), s1, s2]; exact sv_lt f _ _ _ _
      · rw [← scale_lt _ _ (min i j), s1, s2]; exact sv_lt f _ _ _ _
    · have h2' : rung f y = f.infRung := by omega
      rw [read_inf f h2' hb]
      simp only [Datum.order]
      rw [h2']
      cases sgn f y
      · rw [cmp_lt]; rfl
        cases sgn f x <;> simp <;> omega
      · rw [cmp_gt]; rfl
        cases sgn f x <;> simp <;> omega
  · have h1' : rung f x = f.infRung := by omega
    rw [read_inf f h1' hb]
    rcases Nat.lt_or_ge (rung f y) f.infRung with h2 | h2
    · obtain ⟨n, j, e2, v2⟩ := read_num f h2
      rw [e2]
      simp only [Datum.order]
      rw [h1']
      cases sgn f x
      · rw [cmp_gt]; rfl
        cases sgn f y <;> simp <;> omega
      · rw [cmp_lt]; rfl
        cases sgn f y <;> simp <;> omega
    · have h2' : rung f y = f.infRung := by omega
      rw [read_inf f h2' hb]
      simp only [Datum.order]
      rw [h1', h2']
      have hp : 0 < f.infRung := Nat.lt_of_lt_of_le (binade_pos f) hb
      cases sgn f x <;> cases sgn f y
      · rw [cmp_eq rfl]; rfl
      · rw [cmp_gt (by simp; omega)]; rfl
      · rw [cmp_lt (by simp; omega)]; rfl
      · rw [cmp_eq rfl]; rfl

/-! ### the cut -/
def more (way : Toward) (neg : Bool) (rest gap low : Nat) : Bool := match way with
  | .even => gap < 2 * rest || (gap == 2 * rest && low % 2 == 1)
  | .down => neg && rest != 0
  | .up => !neg && rest != 0
  | .zero => false
theorem lt_log2 (n : Nat) : n < 2 ^ (n.log2 + 1) := Nat.lt_log2_self
theorem cut_eq (way : Toward) (neg : Bool) (n d : Nat) : way.cut neg n d = n / 2 ^ d + (more way neg (n % 2 ^ d) (2 ^ d) (n / 2 ^ d)).toNat := by
  have key : way.cut neg n d = n / (1 <<< min d (n.log2 + 2)) + (more way neg (n % (1 <<< min d (n.log2 + 2))) (1 <<< min d (n.log2 + 2)) (n / (1 <<< min d (n.log2 + 2)))).toNat := by
    cases way <;> rfl
  rw [key, Nat.shiftLeft_eq, Nat.one_mul]
  rcases Nat.le_total d (n.log2 + 2) with h | h
  · rw [Nat.min_eq_left h]
  · rw [Nat.min_eq_right h]
    have h1 := lt_log2 n
    have h2 : 2 ^ (n.log2 + 2) = 2 * 2 ^ (n.log2 + 1) := by rw [Nat.pow_succ, Nat.mul_comm]
    have h3 : 2 ^ (n.log2 + 2) ≤ 2 ^ d := Nat.pow_le_pow_right (by omega) h
    rw [Nat.div_eq_of_lt (by omega), Nat.div_eq_of_lt (by omega), Nat.mod_eq_of_lt (by omega), Nat.mod_eq_of_lt (by omega)]
    congr 2
    unfold more
    cases way with
    | even =>
      dsimp only
      rw [decide_eq_false (by omega : ¬ 2 ^ (n.log2 + 2) < 2 * n), decide_eq_false (by omega : ¬ 2 ^ d < 2 * n)]
      simp
    | down => rfl
    | up => rfl
    | zero => rfl
theorem cut_zero_drop (way : Toward) (neg : Bool) (n : Nat) : way.cut neg n 0 = n := by
  rw [cut_eq]
  simp only [Nat.pow_zero, Nat.div_one, Nat.mod_one]
  unfold more
  cases way <;> simp
theorem cut_exact (way : Toward) (neg : Bool) (n d : Nat) : way.cut neg (n * 2 ^ d) d = n := by
  rw [cut_eq, Nat.mul_div_cancel _ (Nat.two_pow_pos d), Nat.mul_mod_left]
  unfold more
  have := Nat.two_pow_pos d
  cases way <;> simp <;> omega

/-! ### writing what the format holds -/
theorem log2_mul_pow (k t : Nat) (hk : k ≠ 0) : (k * 2 ^ t).log2 = k.log2 + t := by
  have hp : 0 < 2 ^ t := Nat.two_pow_pos t
  have hne : k * 2 ^ t ≠ 0 := by
    intro h; rcases Nat.mul_eq_zero.1 h with h | h <;> omega
  rw [Nat.log2_eq_iff hne]
  have h1 := Nat.log2_self_le hk
  have h2 := lt_log2 k
  constructor
  · rw [Nat.pow_add]; exact Nat.mul_le_mul_right _ h1
  · rw [show k.log2 + t + 1 = k.log2 + 1 + t by omega, Nat.pow_add]; exact Nat.mul_lt_mul_of_pos_right h2 hp
theorem val_norm (f : Format) (e K : Nat) (h1 : f.binade ≤ K) (h2 : K < 2 * f.binade) : val f (e * f.binade + K) = K * 2 ^ e := by
  have hB := binade_pos f
  unfold val
  generalize f.binade = B at *
  have d1 : (e * B + K) / B = e + 1 := by
    apply Nat.div_eq_of_lt_le
    · rw [Nat.add_mul]; omega
    · rw [Nat.add_mul, Nat.add_mul]; omega
  have d2 : (e * B + K) % B = K - B := by
    have := Nat.div_add_mod (e * B + K) B
    rw [d1, Nat.mul_add, Nat.mul_comm B e] at this
    omega
  have : ¬ e * B + K < B := by
    have : 0 ≤ e * B := Nat.zero_le _
    omega
  rw [if_neg this, d1, d2, Nat.add_sub_cancel, Nat.add_sub_cancel' h1]
theorem nearest_exact (f : Format) (s : Bool) (k t p : Nat) (hk : k < 2 ^ (f.fractionBits + 1)) (h0 : k ≠ 0) :
    ∃ r, f.nearest s (k * 2 ^ t) (f.leastPlace + (p : Int)) = f.word s (min r f.infRung) ∧ val f r = k * 2 ^ (t + p) := by
  have hne : k * 2 ^ t ≠ 0 := by
    have := Nat.two_pow_pos t
    intro h; rcases Nat.mul_eq_zero.1 h with h | h <;> omega
  have hl : k.log2 ≤ f.fractionBits := by
    have := (Nat.log2_lt h0).2 hk
    omega
  have hK1 : f.binade ≤ k * 2 ^ (f.fractionBits - k.log2) := by
    have := Nat.log2_self_le h0
    calc f.binade = 2 ^ k.log2 * 2 ^ (f.fractionBits - k.log2) := by unfold Format.binade; rw [← Nat.pow_add]; congr 1; omega
      _ ≤ _ := Nat.mul_le_mul_right _ this
  have hK2 : k * 2 ^ (f.fractionBits - k.log2) < 2 * f.binade := by
    have := lt_log2 k
    calc k * 2 ^ (f.fractionBits - k.log2) < 2 ^ (k.log2 + 1) * 2 ^ (f.fractionBits - k.log2) := Nat.mul_lt_mul_of_pos_right this (Nat.two_pow_pos _)
      _ = 2 * f.binade := by unfold Format.binade; rw [← Nat.pow_add, show k.log2 + 1 + (f.fractionBits - k.log2) = f.fractionBits + 1 by omega, Nat.pow_succ, Nat.mul_comm]
  unfold Format.nearest
  rw [if_neg hne, log2_mul_pow k t h0]
  dsimp only
  rcases Nat.lt_or_ge (p + k.log2 + t) f.fractionBits with h | h
  · refine ⟨k * 2 ^ (t + p), ?_, ?_⟩
    · rw [show max (f.leastPlace + (p : Int) + ((k.log2 + t : Nat) : Int) - (f.fractionBits : Int)) f.leastPlace = f.leastPlace by omega]
      rw [show (f.leastPlace + (p : Int) - f.leastPlace).toNat = p by omega, show (f.leastPlace - (f.leastPlace + (p : Int))).toNat = 0 by omega, show (f.leastPlace - f.leastPlace).toNat = 0 by omega]
      rw [cut_zero_drop, Nat.shiftLeft_eq, Nat.zero_mul, Nat.zero_add, Nat.mul_assoc, ← Nat.pow_add]
    · unfold val
      rw [if_pos]
      calc k * 2 ^ (t + p) < 2 ^ (k.log2 + 1) * 2 ^ (t + p) := Nat.mul_lt_mul_of_pos_right (lt_log2 k) (Nat.two_pow_pos _)
        _ = 2 ^ (k.log2 + 1 + (t + p)) := by rw [← Nat.pow_add]
        _ ≤ 2 ^ f.fractionBits := Nat.pow_le_pow_right (by omega) (by omega)
  · refine ⟨(p + k.log2 + t - f.fractionBits) * f.binade + k * 2 ^ (f.fractionBits - k.log2), ?_, ?_⟩
    · rw [show max (f.leastPlace + (p : Int) + ((k.log2 + t : Nat) : Int) - (f.fractionBits : Int)) f.leastPlace = f.leastPlace + ((p + k.log2 + t - f.fractionBits : Nat) : Int) by omega]
      rw [show (f.leastPlace + ((p + k.log2 + t - f.fractionBits : Nat) : Int) - f.leastPlace).toNat = p + k.log2 + t - f.fractionBits by omega]
      rw [show (f.leastPlace + (p : Int) - (f.leastPlace + ((p + k.log2 + t - f.fractionBits : Nat) : Int))).toNat = f.fractionBits - k.log2 - t by omega]
      rw [show (f.leastPlace + ((p + k.log2 + t - f.fractionBits : Nat) : Int) - (f.leastPlace + (p : Int))).toNat = t - (f.fractionBits - k.log2) by omega]
      congr 3
      rcases Nat.le_total t (f.fractionBits - k.log2) with ht | ht
      · rw [show t - (f.fractionBits - k.log2) = 0 by omega, cut_zero_drop, Nat.shiftLeft_eq, Nat.mul_assoc, ← Nat.pow_add]
        congr 2; omega
      · rw [show f.fractionBits - k.log2 - t = 0 by omega, Nat.shiftLeft_eq, Nat.pow_zero, Nat.mul_one]
        have : k * 2 ^ t = k * 2 ^ (f.fractionBits - k.log2) * 2 ^ (t - (f.fractionBits - k.log2)) := by
          rw [Nat.mul_assoc, ← Nat.pow_add]; congr 2; omega
        rw [this, cut_exact]
    · rw [val_norm f _ _ hK1 hK2, Nat.mul_assoc, ← Nat.pow_add]
      congr 2; omega
end Go.Qu
