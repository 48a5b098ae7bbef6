/- The converter's guarded calls over ints: each answers and counts as the plain step says. -/
import Derived.Test.Qxb6500378aDoorQuLast
import Derived.Test.Qxb6500378aDoorQuFast
import Derived.Test.Qxb6500378aDoorStPlain
namespace Go.Proofs.Qxb6500378aDoor
set_option linter.unusedVariables false
set_option linter.unusedSimpArgs false
open Go.RowKit Go.Qu Ieee

/-- a converter at p with these counts -/
abbrev Cv (w : World) (p : Nat) (c z : Int) : Prop := Has 52 w p [.int .i64 c, .int .i64 z]
def Sm (c : Int) : Prop := 0 ≤ c ∧ c ≤ 4611686018427387904
theorem bump_small {c : Int} (h : Sm c) (d : Bool) : bump c d = c + (d.toNat : Int) := by
  unfold Sm at h
  unfold bump
  cases d
  · simp
  · simp only [if_true]; rw [wrap64]; simp; omega
theorem wrap_inc {c : Int} (h : Sm c) : wrap64 (c + 1) = c + 1 := by
  unfold Sm at h
  rw [wrap64]; omega
theorem num_mg (b : Int) : num (u64 b) = decide (mg b ≤ 9218868437227405312) := by
  rw [Go.Qu.numR_iff, rung_u64, d_inf]

theorem round32_o (p : Nat) (b m c z : Int) (w : World) (hb : I64 b) (hq : Cv w p c z) (hc : Sm c) (hz : Sm z) :
    Calls Tryd.prog 22 #[.pointer (some ⟨p, 0, none⟩), .int .i64 b, .int .i64 m] w fun e w' => e = .returned (.tuple #[.int .i64 (r32O b m).e, .int .i64 (r32O b m).n]) ∧ Cv w' p (c + (r32O b m).dc) (z + (r32O b m).dz) ∧ Chg (· = p) w w' := by
  unfold r32O
  by_cases hm : m < 0 ∨ 3 < m
  · simp only [if_pos hm, Int.add_zero]
    exact (round32_mode p b m w hm).mono fun e w' ⟨he, hw⟩ => by subst hw; exact ⟨he, hq, Chg.refl _ _⟩
  · simp only [if_neg hm]
    by_cases hn : 9218868437227405312 < mg b
    · simp only [if_pos hn, Int.add_zero]
      refine (round32_nan p b m c z w (by omega) (by omega) (by rw [num_mg]; exact decide_eq_false (by omega)) hq).mono fun e w' ⟨he, hw⟩ => ?_
      subst hw
      rw [wrap_inc hz]
      exact ⟨he, hq.setCell 1 _, Chg.set1 w p 1 _⟩
    · simp only [if_neg hn, Int.add_zero]
      obtain ⟨h1, h2⟩ := round32_f (b := b) (m := m) hb (by rw [d_inf]; omega)
      refine (round32_num p b m c z _ w (by omega) (by omega) (by rw [num_mg]; exact decide_eq_true (by omega)) hq h1).mono fun e w' ⟨he, hw, hk⟩ => ?_
      rw [h2, bump_small hc] at hw
      exact ⟨he, hw, hk⟩

theorem round16_o (p : Nat) (b m c z : Int) (w : World) (hb : I64 b) (hq : Cv w p c z) (hc : Sm c) (hz : Sm z) :
    Calls Tryd.prog 23 #[.pointer (some ⟨p, 0, none⟩), .int .i64 b, .int .i64 m] w fun e w' => e = .returned (.tuple #[.int .i64 (r16O b m).e, .int .i64 (r16O b m).n]) ∧ Cv w' p (c + (r16O b m).dc) (z + (r16O b m).dz) ∧ Chg (· = p) w w' := by
  unfold r16O
  by_cases hm : m < 0 ∨ 3 < m
  · simp only [if_pos hm, Int.add_zero]
    exact (round16_mode p b m w hm).mono fun e w' ⟨he, hw⟩ => by subst hw; exact ⟨he, hq, Chg.refl _ _⟩
  · simp only [if_neg hm]
    by_cases hn : 9218868437227405312 < mg b
    · simp only [if_pos hn, Int.add_zero]
      refine (round16_nan p b m c z w (by omega) (by omega) (by rw [num_mg]; exact decide_eq_false (by omega)) hq).mono fun e w' ⟨he, hw⟩ => ?_
      subst hw
      rw [wrap_inc hz]
      exact ⟨he, hq.setCell 1 _, Chg.set1 w p 1 _⟩
    · simp only [if_neg hn, Int.add_zero]
      obtain ⟨h1, h2⟩ := round16_f (b := b) (m := m) hb (by rw [d_inf]; omega)
      refine (round16_num p b m c z _ w (by omega) (by omega) (by rw [num_mg]; exact decide_eq_true (by omega)) hq h1).mono fun e w' ⟨he, hw, hk⟩ => ?_
      rw [h2, bump_small hc] at hw
      exact ⟨he, hw, hk⟩

theorem narrow_o (p : Nat) (b c z : Int) (w : World) (hb : I64 b) (hq : Cv w p c z) (hc : Sm c) (hz : Sm z) :
    Calls Tryd.prog 24 #[.pointer (some ⟨p, 0, none⟩), .int .i64 b] w fun e w' => e = .returned (.tuple #[.int .i64 (narrowO b).e, .int .i64 (narrowO b).n]) ∧ Cv w' p (c + (narrowO b).dc) (z + (narrowO b).dz) ∧ Chg (· = p) w w' := by
  unfold narrowO
  by_cases hn : 9218868437227405312 < mg b
  · simp only [if_pos hn, Int.add_zero]
    refine (narrow_nan p b c z w (by rw [num_mg]; exact decide_eq_false (by omega)) hq).mono fun e w' ⟨he, hw⟩ => ?_
    subst hw
    rw [wrap_inc hz]
    exact ⟨he, hq.setCell 1 _, Chg.set1 w p 1 _⟩
  · simp only [if_neg hn, Int.add_zero]
    obtain ⟨h1, h2⟩ := narrow_f (b := b) hb (by rw [d_inf]; omega)
    refine (narrow_num p b c z _ w (by rw [num_mg]; exact decide_eq_true (by omega)) hq h1 (narrow_range b).2.1).mono fun e w' ⟨he, hw, hk⟩ => ?_
    rw [h2, bump_small hc] at hw
    exact ⟨he, hw, hk⟩

theorem u32_val {b : Int} (h0 : 0 ≤ b) (h1 : b ≤ 4294967295) : u32 b = b.toNat := by
  unfold u32; rw [IntKind.wrap_u32]; omega
theorem rung_u32 {b : Int} (h0 : 0 ≤ b) (h1 : b ≤ 4294967295) : rung single (u32 b) = (b % 2147483648).toNat := by
  rw [u32_val h0 h1]; unfold rung; rw [show single.signWeight = 2147483648 by decide]; omega
theorem sgn_u32 {b : Int} (h0 : 0 ≤ b) (h1 : b ≤ 4294967295) : sgn single (u32 b) = decide (2147483648 ≤ b) := by
  rw [u32_val h0 h1]; unfold sgn; rw [show single.signWeight = 2147483648 by decide]
  by_cases h : 2147483648 ≤ b
  · rw [show b.toNat / 2147483648 = 1 by omega]; simp [h]
  · rw [show b.toNat / 2147483648 = 0 by omega]; simp [h]
theorem num32_mg {b : Int} (h0 : 0 ≤ b) (h1 : b ≤ 4294967295) : num32 (u32 b) = decide (b % 2147483648 ≤ 2139095040) := by
  rw [num32_iff, u32_val h0 h1]
  exact decide_eq_decide.2 (by omega)
theorem widen_bits {b : Int} (h0 : 0 ≤ b) (h1 : b ≤ 4294967295) (h2 : b % 2147483648 ≤ 2139095040) : wrap64 ((double.word (sgn single (u32 b)) (to64R (rung single (u32 b))) : Nat) : Int) = widenI b := by
  rw [rung_u32 h0 h1, sgn_u32 h0 h1]
  have hle : to64R (b % 2147483648).toNat ≤ 9218868437227405312 := by
    by_cases h : (b % 2147483648).toNat = 2139095040
    · rw [h]; unfold to64R; rw [if_pos rfl]; omega
    · have := to64_le (r := (b % 2147483648).toNat) (by omega); omega
  unfold widenI Format.word
  rw [d_weight, wrap64]
  by_cases h : 2147483648 ≤ b
  · simp only [h, decide_true, if_true]; omega
  · simp only [h, decide_false, if_false, Bool.false_eq_true]; omega

theorem widen_o (p : Nat) (b c z : Int) (w : World) (hq : Cv w p c z) (hc : Sm c) (hz : Sm z) :
    Calls Tryd.prog 27 #[.pointer (some ⟨p, 0, none⟩), .int .i64 b] w fun e w' => e = .returned (.tuple #[.int .i64 (widenO b).e, .int .i64 (widenO b).n]) ∧ Cv w' p (c + (widenO b).dc) (z + (widenO b).dz) ∧ Chg (· = p) w w' := by
  unfold widenO
  by_cases hr : b < 0 ∨ 4294967295 < b
  · simp only [if_pos hr, Int.add_zero]
    exact (widen_range p b w hr).mono fun e w' ⟨he, hw⟩ => by subst hw; exact ⟨he, hq, Chg.refl _ _⟩
  · simp only [if_neg hr]
    by_cases hn : 2139095040 < b % 2147483648
    · simp only [if_pos hn, Int.add_zero]
      refine (widen_nan p b c z w (by omega) (by omega) (by rw [num32_mg (by omega) (by omega)]; exact decide_eq_false (by omega)) hq).mono fun e w' ⟨he, hw⟩ => ?_
      subst hw
      rw [wrap_inc hz]
      exact ⟨he, hq.setCell 1 _, Chg.set1 w p 1 _⟩
    · simp only [if_neg hn, Int.add_zero]
      refine (widen_num p b _ w (by omega) (by omega) (by rw [num32_mg (by omega) (by omega)]; exact decide_eq_true (by omega)) (widen_read (by rw [rung_u32 (by omega) (by omega)]; omega))).mono fun e w' ⟨he, hw⟩ => ?_
      subst hw
      rw [widen_bits (by omega) (by omega) (by omega)] at he
      exact ⟨he, hq, Chg.refl _ _⟩

theorem scale_o (p : Nat) (a b : Int) (w : World) :
    Calls Tryd.prog 54 #[.pointer (some ⟨p, 0, none⟩), .int .i64 a, .int .i64 b] w fun e w' => e = .returned (.tuple #[.int .i64 (scaleO a b).e, .int .i64 (scaleO a b).n, .int .i64 (scaleO a b).k]) ∧ w' = w := by
  unfold scaleO
  by_cases hr : a < -2147483648 ∨ 2147483648 < a ∨ b < -2147483648 ∨ 2147483648 < b
  · simp only [if_pos hr]
    exact scale_factor p a b w hr
  · simp only [if_neg hr]
    obtain ⟨h, t, h1, h2, h3, h4⟩ := scale_f (a := a) (b := b) (by omega) (by omega)
    exact scale_num p a b _ _ h t w (by omega) (by omega) (by omega) (by omega) h1 h2 h3 h4

theorem shift_o (p : Nat) (v n : Int) (w : World) :
    Calls Tryd.prog 55 #[.pointer (some ⟨p, 0, none⟩), .int .i64 v, .int .i64 n] w fun e w' => e = .returned (.tuple #[.int .i64 (shiftO v n).e, .int .i64 (shiftO v n).n]) ∧ Chg (fun _ => False) w w' := by
  unfold shiftO
  by_cases h1 : v < -2147483648
  · simp only [if_pos (Or.inl h1 : v < -2147483648 ∨ 2147483647 < v)]
    exact (shift_low p v n w h1).mono fun e w' ⟨he, hw⟩ => by subst hw; exact ⟨he, Chg.refl _ _⟩
  by_cases h2 : 2147483647 < v
  · simp only [if_pos (Or.inr h2 : v < -2147483648 ∨ 2147483647 < v)]
    exact (shift_high p v n w h2).mono fun e w' ⟨he, hw⟩ => by subst hw; exact ⟨he, Chg.refl _ _⟩
  simp only [if_neg (show ¬ (v < -2147483648 ∨ 2147483647 < v) by omega)]
  unfold shiftI
  have w32 : ∀ x : Int, wrap64 (wrap32 x) = wrap32 x := by intro x; rw [wrap32, wrap64]; omega
  by_cases h3 : 32 ≤ n
  · simp only [if_pos h3]
    refine (shift_gone p v n w (by omega) (by omega) h3).mono fun e w' ⟨he, hw⟩ => ?_
    subst hw
    rw [w32, show wrap32 (v * 4294967296) = 0 by rw [wrap32]; omega] at he
    exact ⟨he, (Chg.refl _ _).drew⟩
  simp only [if_neg h3]
  by_cases h4 : 0 ≤ n
  · simp only [if_pos h4]
    refine (shift_left p v n w (by omega) (by omega) h4 (by omega)).mono fun e w' ⟨he, hw⟩ => ?_
    subst hw
    rw [w32] at he
    exact ⟨he, (Chg.refl _ _).drew⟩
  simp only [if_neg h4]
  by_cases h5 : n ≤ -32
  · simp only [if_pos h5]
    refine (shift_sign p v n w (by omega) (by omega) h5).mono fun e w' ⟨he, hw⟩ => ?_
    subst hw
    rw [show v / 4294967296 = if v < 0 then -1 else 0 by split <;> omega] at he
    exact ⟨he, (Chg.refl _ _).drew⟩
  simp only [if_neg h5]
  refine (shift_right p v n w (by omega) (by omega) (by omega) (by omega)).mono fun e w' ⟨he, hw⟩ => ?_
  subst hw
  have hb : wrap64 (v / 2 ^ (-n).toNat) = v / 2 ^ (-n).toNat := by
    have hp : (1 : Int) ≤ 2 ^ (-n).toNat := by
      have := Nat.two_pow_pos (-n).toNat
      have e : ((2 ^ (-n).toNat : Nat) : Int) = 2 ^ (-n).toNat := by simp
      omega
    have g1 : -2147483648 ≤ v / 2 ^ (-n).toNat := by
      rw [Int.le_ediv_iff_mul_le (by omega)]
      have : (-2147483648 : Int) * 2 ^ (-n).toNat ≤ -2147483648 * 1 := Int.mul_le_mul_of_nonpos_left (by omega) hp
      omega
    have g2 : v / 2 ^ (-n).toNat ≤ 2147483647 := by
      have : v / 2 ^ (-n).toNat ≤ 2147483647 ↔ v / 2 ^ (-n).toNat < 2147483648 := by omega
      rw [this, Int.ediv_lt_iff_lt_mul (by omega)]
      have : (2147483648 : Int) * 1 ≤ 2147483648 * 2 ^ (-n).toNat := Int.mul_le_mul_of_nonneg_left hp (by omega)
      omega
    rw [wrap64]; omega
  rw [hb] at he
  exact ⟨he, (Chg.refl _ _).drew⟩

theorem nans_any (p : Nat) (c z : Int) (w : World) (hq : Cv w p c z) :
    Calls Tryd.prog 33 #[.pointer (some ⟨p, 0, none⟩)] w fun e w' => e = .returned (.int .i64 z) ∧ w' = w := by
  have h1 : w.cell? ⟨p, 1, none⟩ = some (.int .i64 z) := hq.cell 1
  clear hq
  go_enter Tryd.func33, Tryd.ntmps33
  go_wp2
  go_ret
  exact ⟨rfl, rfl⟩

theorem checkQ_any (p : Nat) (c z : Int) (w : World) (hq : Cv w p c z) (hc : Sm c) (hz : Sm z) :
    Calls Tryd.prog 56 #[.pointer (some ⟨p, 0, none⟩)] w fun e w' => e = .returned (.bool true) ∧ w' = w := by
  have h0 : w.cell? ⟨p, 0, none⟩ = some (.int .i64 c) := hq.cell 0
  have h1 : w.cell? ⟨p, 1, none⟩ = some (.int .i64 z) := hq.cell 1
  have k0 : 0 ≤ c := hc.1
  have k1 : 0 ≤ z := hz.1
  clear hq hc hz
  go_enter Tryd.func56, Tryd.ntmps56
  go_wp2
  go_ret
  exact ⟨rfl, rfl⟩

theorem clone_any (p : Nat) (c z : Int) (w : World) (hq : Cv w p c z) :
    Calls Tryd.prog 58 #[.pointer (some ⟨p, 0, none⟩)] w fun e w' => e = .returned (.pointer (some ⟨w.heap.size, 0, none⟩)) ∧ Cv w' w.heap.size c z ∧ w.heap.size < w'.heap.size ∧ Chg (fun _ => False) w w' := by
  have h0 : w.cell? ⟨p, 0, none⟩ = some (.int .i64 c) := hq.cell 0
  have h1 : w.cell? ⟨p, 1, none⟩ = some (.int .i64 z) := hq.cell 1
  clear hq
  go_enter Tryd.func58, Tryd.ntmps58
  go_wp2
  go_ret
  exact ⟨rfl, Has.new _ _ _, by simp, (Chg.refl _ _).alloc _⟩

theorem fast32_o (p : Nat) (b : Int) (w : World) (hb : I64 b) (hn : ¬ 9218868437227405312 < mg b) (hm : (roundI b 3 (-2147483648) 2147483647).2 = false) :
    Calls Tryd.prog 29 #[.pointer (some ⟨p, 0, none⟩), .int .i64 b, .int .i64 3] w fun e w' => e = .returned (.int .i64 (roundI b 3 (-2147483648) 2147483647).1) ∧ w' = w :=
  fast32_fits p b 3 _ w (by rw [num_mg]; exact decide_eq_true (by omega)) (by unfold roundedF; rw [if_pos (by omega)]; exact fast_fits b 3 hb hm)
end Go.Proofs.Qxb6500378aDoor
