/- The converter's step as a plain function on ints, and the plain laws of Keeps. -/
import Derived.Test.Qxb6500376aDoorQuScale
namespace Go.Qu
set_option linter.unusedVariables false
set_option linter.unusedSimpArgs false
open Ieee Go.RowKit

/-- what a step answers (error, two numbers) and what it counts (clips, NaNs) -/
structure Out where
  e : Int
  n : Int
  k : Int
  dc : Int
  dz : Int

def r32O (b m : Int) : Out := if m < 0 ∨ 3 < m then ⟨2, 0, 0, 0, 0⟩ else if 9218868437227405312 < mg b then ⟨4, 0, 0, 0, 1⟩ else ⟨0, (roundI b m (-2147483648) 2147483647).1, 0, (roundI b m (-2147483648) 2147483647).2.toNat, 0⟩
def r16O (b m : Int) : Out := if m < 0 ∨ 3 < m then ⟨2, 0, 0, 0, 0⟩ else if 9218868437227405312 < mg b then ⟨4, 0, 0, 0, 1⟩ else ⟨0, (roundI b m (-32768) 32767).1, 0, (roundI b m (-32768) 32767).2.toNat, 0⟩
def narrowO (b : Int) : Out := if 9218868437227405312 < mg b then ⟨4, 0, 0, 0, 1⟩ else ⟨0, (narrowM b).1, 0, (narrowM b).2.toNat, 0⟩
def widenI (b : Int) : Int := (to64R (b % 2147483648).toNat : Int) + (if 2147483648 ≤ b then -9223372036854775808 else 0)
def widenO (b : Int) : Out := if b < 0 ∨ 4294967295 < b then ⟨5, 0, 0, 0, 0⟩ else if 2139095040 < b % 2147483648 then ⟨4, 0, 0, 0, 1⟩ else ⟨0, widenI b, 0, 0, 0⟩
def scaleO (a b : Int) : Out := if a < -2147483648 ∨ 2147483648 < a ∨ b < -2147483648 ∨ 2147483648 < b then ⟨6, 0, 0, 0, 0⟩ else ⟨0, headI a b, a * b - headI a b, 0, 0⟩
def shiftI (v n : Int) : Int := if 32 ≤ n then 0 else if 0 ≤ n then wrap32 (v * 2 ^ n.toNat) else if n ≤ -32 then (if v < 0 then -1 else 0) else v / 2 ^ (-n).toNat
def shiftO (v n : Int) : Out := if v < -2147483648 ∨ 2147483647 < v then ⟨5, 0, 0, 0, 0⟩ else ⟨0, shiftI v n, 0, 0, 0⟩

def stepO (kd a b c z : Int) : Out :=
  if kd = 1 then r32O a b else if kd = 2 then r16O a b else if kd = 3 then narrowO a else if kd = 4 then widenO a
  else if kd = 5 then scaleO a b else if kd = 6 then shiftO a b else if kd = 9 then ⟨0, c, 0, 0, 0⟩ else if kd = 10 then ⟨0, z, 0, 0, 0⟩
  else if kd = 12 then ⟨0, 1, 0, 0, 0⟩ else ⟨0, 0, 0, 0, 0⟩
def owesI (kd a b : Int) : Int :=
  if kd = 1 ∨ kd = 2 then (if b < 0 ∨ 3 < b then 2 else if 9218868437227405312 < mg a then 4 else 0)
  else if kd = 3 then (if 9218868437227405312 < mg a then 4 else 0)
  else if kd = 4 then (if a < 0 ∨ 4294967295 < a then 5 else if 2139095040 < a % 2147483648 then 4 else 0)
  else if kd = 5 then (if a < -2147483648 ∨ 2147483648 < a ∨ b < -2147483648 ∨ 2147483648 < b then 6 else 0)
  else if kd = 6 then (if a < -2147483648 ∨ 2147483647 < a then 5 else 0)
  else 0

theorem stepO_e (kd a b c z : Int) : (stepO kd a b c z).e = owesI kd a b := by
  unfold stepO owesI r32O r16O narrowO widenO scaleO shiftO
  by_cases h1 : kd = 1
  · subst h1; simp only [if_true, true_or]; (repeat' split) <;> rfl
  by_cases h2 : kd = 2
  · subst h2; simp only [if_true, or_true, if_neg (show ¬ (2:Int) = 1 by decide)]; (repeat' split) <;> rfl
  have h12 : ¬ (kd = 1 ∨ kd = 2) := by omega
  rw [if_neg h1, if_neg h2, if_neg h12]
  by_cases h3 : kd = 3
  · simp only [if_pos h3]; split <;> rfl
  simp only [if_neg h3]
  by_cases h4 : kd = 4
  · simp only [if_pos h4]; (repeat' split) <;> rfl
  simp only [if_neg h4]
  by_cases h5 : kd = 5
  · simp only [if_pos h5]; split <;> rfl
  simp only [if_neg h5]
  by_cases h6 : kd = 6
  · simp only [if_pos h6]; split <;> rfl
  simp only [if_neg h6]
  (repeat' split) <;> rfl

/-- of every step: the counts; at a refusal nothing else -/
theorem stepO_counts (kd a b c z : Int) : 0 ≤ (stepO kd a b c z).dc ∧ 0 ≤ (stepO kd a b c z).dz ∧ (stepO kd a b c z).dc + (stepO kd a b c z).dz ≤ 1 ∧
    ((stepO kd a b c z).e = 4 ↔ (stepO kd a b c z).dz = 1) ∧ ((stepO kd a b c z).e ≠ 0 → (stepO kd a b c z).dc = 0 ∧ (stepO kd a b c z).n = 0 ∧ (stepO kd a b c z).k = 0) := by
  have t : ∀ x : Bool, (0 : Int) ≤ x.toNat ∧ (x.toNat : Int) ≤ 1 := by intro x; cases x <;> decide
  have t1 := t (roundI a b (-2147483648) 2147483647).2
  have t2 := t (roundI a b (-32768) 32767).2
  have t3 := t (narrowM a).2
  unfold stepO
  split
  · unfold r32O; (repeat' split) <;> simp <;> omega
  split
  · unfold r16O; (repeat' split) <;> simp <;> omega
  split
  · unfold narrowO; (repeat' split) <;> simp <;> omega
  split
  · unfold widenO; (repeat' split) <;> simp
  split
  · unfold scaleO; split <;> simp
  split
  · unfold shiftO; split <;> simp
  (repeat' split) <;> simp

/-! ### between -/
theorem wholeN_split (r : Nat) : ∃ Q R G : Nat, R < G ∧ ∀ w s, wholeN w s r = Q + (more w s R G Q).toNat := by
  by_cases h1 : r < 4503599627370496
  · refine ⟨r / 2 ^ 1074, r % 2 ^ 1074, 2 ^ 1074, Nat.mod_lt _ (Nat.two_pow_pos _), fun w s => ?_⟩
    unfold wholeN; rw [if_pos h1, cut_eq]
  by_cases h2 : 1075 ≤ r / 4503599627370496
  · refine ⟨(4503599627370496 + r % 4503599627370496) * 2 ^ (r / 4503599627370496 - 1075), 0, 1, by omega, fun w s => ?_⟩
    unfold wholeN; rw [if_neg h1, if_pos h2]
    unfold more; cases w <;> simp
  · refine ⟨(4503599627370496 + r % 4503599627370496) / 2 ^ (1075 - r / 4503599627370496), (4503599627370496 + r % 4503599627370496) % 2 ^ (1075 - r / 4503599627370496), 2 ^ (1075 - r / 4503599627370496), Nat.mod_lt _ (Nat.two_pow_pos _), fun w s => ?_⟩
    unfold wholeN; rw [if_neg h1, if_neg h2, cut_eq]

theorem roundI_bounds (b m lo hi : Int) (h : lo ≤ hi) : lo ≤ (roundI b m lo hi).1 ∧ (roundI b m lo hi).1 ≤ hi ∧ ((roundI b m lo hi).2 = true → (roundI b m lo hi).1 = lo ∨ (roundI b m lo hi).1 = hi) := by
  unfold roundI
  split
  · exact ⟨h, Int.le_refl _, fun _ => .inr rfl⟩
  split
  · exact ⟨Int.le_refl _, h, fun _ => .inl rfl⟩
  · exact ⟨by omega, by omega, fun e => by simp at e⟩

theorem roundI_16 (b m : Int) (h : (roundI b m (-32768) 32767).2 = false) : (roundI b m (-2147483648) 2147483647).1 = (roundI b m (-32768) 32767).1 := by
  unfold roundI at *
  split at h
  · simp at h
  split at h
  · simp at h
  rw [if_neg (by omega), if_neg (by omega), if_neg (by omega), if_neg (by omega)]

theorem roundI_big (b m lo hi : Int) (hl : lo < 0) (hh : 0 < hi) (h : 1085 ≤ mg b / 4503599627370496) : (roundI b m lo hi).1 = if b < 0 then lo else hi := by
  unfold roundI wholeM
  simp only [if_pos h]
  by_cases h0 : b < 0
  · simp only [if_pos h0]
    rw [if_neg (by omega), if_pos (by omega)]
  · simp only [if_neg h0]
    rw [if_pos (by omega)]
theorem roundI_small (b m lo hi : Int) (hl : lo < 0) (hh : 0 < hi) (h : ¬ 1085 ≤ mg b / 4503599627370496) {n : Int} (hn : (if b < 0 then -(wholeN (way m) true (mg b) : Int) else wholeN (way m) false (mg b)) = n) :
    (lo ≤ n ∧ n ≤ hi ∧ (roundI b m lo hi).1 = n) ∨ (n < lo ∧ (roundI b m lo hi).1 = lo) ∨ (hi < n ∧ (roundI b m lo hi).1 = hi) := by
  unfold roundI wholeM
  simp only [if_neg h, hn]
  split
  · dsimp only; omega
  split
  · dsimp only; omega
  · dsimp only; omega

theorem between_plain (b lo hi : Int) (hl : lo < 0) (hh : 0 < hi) :
    (roundI b 1 lo hi).1 ≤ (roundI b 3 lo hi).1 ∧ (roundI b 3 lo hi).1 ≤ (roundI b 2 lo hi).1 ∧ (roundI b 2 lo hi).1 - (roundI b 1 lo hi).1 ≤ 1 ∧
    ((roundI b 0 lo hi).1 = (roundI b 1 lo hi).1 ∨ (roundI b 0 lo hi).1 = (roundI b 2 lo hi).1) ∧
    ((roundI b 0 lo hi).1 < 0 → (roundI b 0 lo hi).1 = (roundI b 2 lo hi).1) ∧ (0 < (roundI b 0 lo hi).1 → (roundI b 0 lo hi).1 = (roundI b 1 lo hi).1) := by
  by_cases hB : 1085 ≤ mg b / 4503599627370496
  · rw [roundI_big _ _ _ _ hl hh hB, roundI_big _ _ _ _ hl hh hB, roundI_big _ _ _ _ hl hh hB, roundI_big _ _ _ _ hl hh hB]
    refine ⟨by omega, by omega, by omega, .inl rfl, fun _ => rfl, fun _ => rfl⟩
  · have g0 := roundI_small b 0 lo hi hl hh hB rfl
    have g1 := roundI_small b 1 lo hi hl hh hB rfl
    have g2 := roundI_small b 2 lo hi hl hh hB rfl
    have g3 := roundI_small b 3 lo hi hl hh hB rfl
    obtain ⟨Q, R, G, hR, hw⟩ := wholeN_split (mg b)
    simp only [hw] at g0 g1 g2 g3
    rw [show way 0 = .zero from rfl] at g0
    rw [show way 1 = .down from rfl] at g1
    rw [show way 2 = .up from rfl] at g2
    rw [show way 3 = .even from rfl] at g3
    have a1 : (more .down true R G Q).toNat = (R != 0).toNat := by unfold more; simp
    have a2 : (more .down false R G Q).toNat = 0 := by unfold more; simp
    have a3 : (more .up true R G Q).toNat = 0 := by unfold more; simp
    have a4 : (more .up false R G Q).toNat = (R != 0).toNat := by unfold more; simp
    have a5 : ∀ s, (more .zero s R G Q).toNat = 0 := by intro s; unfold more; simp
    have a6 : ∀ s, (more .even s R G Q).toNat ≤ (R != 0).toNat := by
      intro s; unfold more
      by_cases hr : R = 0
      · subst hr; simp; omega
      · have : (R != 0) = true := by simpa using hr
        rw [this]; exact Bool.toNat_le _
    have a7 := a6 true
    have a8 := a6 false
    have a9 : (R != 0).toNat ≤ 1 := Bool.toNat_le _
    rw [a5, a5] at g0
    rw [a1, a2] at g1
    rw [a3, a4] at g2
    clear a1 a2 a3 a4 a5 a6 hw
    generalize (more .even true R G Q).toNat = E1 at *
    generalize (more .even false R G Q).toNat = E2 at *
    generalize (R != 0).toNat = B at *
    generalize (roundI b 0 lo hi).1 = x0 at *
    generalize (roundI b 1 lo hi).1 = x1 at *
    generalize (roundI b 2 lo hi).1 = x2 at *
    generalize (roundI b 3 lo hi).1 = x3 at *
    by_cases h0 : b < 0
    · rw [if_pos h0] at g0 g1 g2 g3
      clear h0 hB hR
      refine ⟨?_, ?_, ?_, ?_, ?_, ?_⟩ <;> omega
    · rw [if_neg h0] at g0 g1 g2 g3
      clear h0 hB hR
      refine ⟨?_, ?_, ?_, ?_, ?_, ?_⟩ <;> omega

theorem fast_fits (b m : Int) (hb : I64 b) (hm : (roundI b m (-2147483648) 2147483647).2 = false) : floatToIntVal .f64 (wholeF (u64 b) m) .i32 = some (roundI b m (-2147483648) 2147483647).1 := by
  have hbig : ¬ 1085 ≤ mg b / 4503599627370496 := by
    intro h; unfold roundI wholeM at hm; rw [if_pos h] at hm
    by_cases h0 : b < 0
    · simp only [if_pos h0] at hm; simp at hm
    · simp only [if_neg h0] at hm; simp at hm
  have hr : rung double (u64 b) < double.infRung := by rw [rung_u64, d_inf]; omega
  have hI := wholeF_int m hr
  rw [rung_u64, sgn_u64 hb] at hI
  have e1 : wholeM b m = ((if b < 0 then -(wholeN (way m) true (mg b) : Int) else wholeN (way m) false (mg b)), 0) := by unfold wholeM; rw [if_neg hbig]
  have e2 : (if decide (b < 0) = true then -(wholeN (way m) (decide (b < 0)) (mg b) : Int) else wholeN (way m) (decide (b < 0)) (mg b)) = (wholeM b m).1 := by
    rw [e1]; by_cases h0 : b < 0 <;> simp [h0]
  rw [e2] at hI
  have ht := hI.toInt
  unfold roundI at hm ⊢
  split at hm
  · simp at hm
  split at hm
  · simp at hm
  rename_i g1 g2
  rw [if_neg g1, if_neg g2]
  unfold floatToIntVal
  rw [show FloatKind.f64.decode (wholeF (u64 b) m) = double.read (wholeF (u64 b) m) from rfl, ht]
  dsimp only
  rw [if_pos]
  rw [show IntKind.i32.min = -2147483648 by decide, show IntKind.i32.max = 2147483647 by decide]
  omega

/-! ### there and back -/
theorem to32R_bound (r : Nat) (h : r ≤ 5183643170566569984) : to32R r < 2139095040 := by
  have := to32R_lt (r := r) h
  rw [s_inf] at this; exact this
theorem word_single (s : Bool) (r : Nat) (h : r < 2147483648) : single.word s r = r + (if s then 2147483648 else 0) := by
  unfold Format.word
  rw [show single.signWeight = 2147483648 by decide]
  cases s <;> simp <;> omega
theorem narrowM_val (b : Int) : ∃ r : Nat, r < 2139095040 ∧ ((narrowM b).1 : Int) = r + (if b < 0 then 2147483648 else 0) ∧ r = (if 5183643170566569984 < mg b then 2139095039 else to32R (mg b)) := by
  unfold narrowM
  by_cases h : 5183643170566569984 < mg b
  · refine ⟨2139095039, by omega, ?_, by rw [if_pos h]⟩
    rw [if_pos h]; dsimp only; rw [word_single _ _ (by omega)]
    by_cases h0 : b < 0 <;> simp [h0]
  · refine ⟨to32R (mg b), to32R_bound _ (by omega), ?_, by rw [if_neg h]⟩
    rw [if_neg h]; dsimp only; rw [word_single _ _ (by have := to32R_bound (mg b) (by omega); omega)]
    by_cases h0 : b < 0 <;> simp [h0]
theorem narrow_range (b : Int) : 0 ≤ ((narrowM b).1 : Int) ∧ ((narrowM b).1 : Int) ≤ 4294967295 ∧ ((narrowM b).1 : Int) % 2147483648 < 2139095040 := by
  obtain ⟨r, h1, h2, _⟩ := narrowM_val b
  rw [h2]; split <;> omega
theorem widenI_facts (b : Int) (h0 : 0 ≤ b) (h1 : b ≤ 4294967295) (h2 : b % 2147483648 ≤ 2139095040) : I64 (widenI b) ∧ mg (widenI b) = to64R (b % 2147483648).toNat ∧ (widenI b < 0 ↔ 2147483648 ≤ b) := by
  have hle : to64R (b % 2147483648).toNat ≤ 9218868437227405312 := by
    by_cases h : (b % 2147483648).toNat = 2139095040
    · rw [h]; unfold to64R; rw [if_pos rfl]; omega
    · have := to64_le (r := (b % 2147483648).toNat) (by omega); omega
  unfold I64 mg widenI
  split <;> omega
theorem back_again (b : Int) (h0 : 0 ≤ b) (h1 : b ≤ 4294967295) (h2 : b % 2147483648 < 2139095040) : ((narrowM (widenI b)).1 : Int) = b ∧ (narrowM (widenI b)).2 = false ∧ mg (widenI b) ≤ 5183643170566569984 := by
  obtain ⟨g1, g2, g3⟩ := widenI_facts b h0 h1 (by omega)
  have hle := to64_le (r := (b % 2147483648).toNat) (by omega)
  have hb := to32_to64 (r := (b % 2147483648).toNat) (by omega)
  obtain ⟨r, k1, k2, k3⟩ := narrowM_val (widenI b)
  rw [g2, if_neg (by omega), hb] at k3
  refine ⟨?_, ?_, by omega⟩
  · rw [k2, k3]
    by_cases h : 2147483648 ≤ b
    · rw [if_pos (g3.2 h)]; omega
    · rw [if_neg (fun e => h (g3.1 e))]; omega
  · unfold narrowM; rw [if_neg (by omega)]
theorem back_inf (b : Int) (h0 : 0 ≤ b) (h1 : b ≤ 4294967295) (h2 : b % 2147483648 = 2139095040) : ((narrowM (widenI b)).1 : Int) = b - 1 ∧ (narrowM (widenI b)).2 = true ∧ mg (widenI b) = 9218868437227405312 := by
  obtain ⟨g1, g2, g3⟩ := widenI_facts b h0 h1 (by omega)
  have e : to64R (b % 2147483648).toNat = 9218868437227405312 := by rw [h2]; unfold to64R; exact if_pos rfl
  obtain ⟨r, k1, k2, k3⟩ := narrowM_val (widenI b)
  rw [g2, e, if_pos (by omega)] at k3
  refine ⟨?_, ?_, by rw [g2, e]⟩
  · rw [k2, k3]
    by_cases h : 2147483648 ≤ b
    · rw [if_pos (g3.2 h)]; omega
    · rw [if_neg (fun e => h (g3.1 e))]; omega
  · unfold narrowM; rw [if_pos (by omega)]
end Go.Qu
