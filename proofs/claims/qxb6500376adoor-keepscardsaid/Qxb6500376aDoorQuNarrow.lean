/- float64 to float32 and back, in plain numbers. -/
import Derived.Test.Qxb6500376aDoorQuWhole
namespace Go.Qu
set_option linter.unusedVariables false
set_option linter.unusedSimpArgs false
set_option exponentiation.threshold 4000
open Ieee Go.RowKit

theorem s_weight : single.signWeight = 2147483648 := by decide
theorem s_binade : single.binade = 8388608 := by decide
theorem s_inf : single.infRung = 2139095040 := by decide
theorem s_place : single.leastPlace = -149 := by decide
theorem s_bi : single.binade ≤ single.infRung := by decide
/-- m / 2^sh to the nearest, a half to the even -/
def nearN (m sh : Nat) : Nat := m / 2 ^ sh + (decide (2 ^ sh < 2 * (m % 2 ^ sh)) || (2 ^ sh == 2 * (m % 2 ^ sh) && m / 2 ^ sh % 2 == 1)).toNat
theorem cut_near (s : Bool) (m sh : Nat) : Toward.even.cut s m sh = nearN m sh := by rw [cut_eq]; rfl
theorem nearN_small {m sh : Nat} (h : 2 * m < 2 ^ sh) : nearN m sh = 0 := by
  unfold nearN
  rw [Nat.div_eq_of_lt (by omega), Nat.mod_eq_of_lt (by omega), decide_eq_false (by omega)]
  simp
/-- the rung of the float32 nearest to the float64 of the rung r -/
def to32R (r : Nat) : Nat :=
  if r / 4503599627370496 < 872 then 0
  else if r / 4503599627370496 < 897 then nearN (4503599627370496 + r % 4503599627370496) (926 - r / 4503599627370496)
  else (r / 4503599627370496 - 897) * 8388608 + nearN (4503599627370496 + r % 4503599627370496) 29
theorem log2_52 {m : Nat} (h : m < 4503599627370496) : (4503599627370496 + m).log2 = 52 := by
  rw [Nat.log2_eq_iff (by omega)]
  omega
theorem nearN_le (m sh : Nat) : nearN m sh ≤ m / 2 ^ sh + 1 := by
  unfold nearN
  have := Bool.toNat_le (decide (2 ^ sh < 2 * (m % 2 ^ sh)) || (2 ^ sh == 2 * (m % 2 ^ sh) && m / 2 ^ sh % 2 == 1))
  omega
theorem to32R_lt {r : Nat} (h : r ≤ 5183643170566569984) : to32R r < single.infRung := by
  rw [s_inf]
  unfold to32R
  by_cases h1 : r / 4503599627370496 < 872
  · rw [if_pos h1]; omega
  · rw [if_neg h1]
    by_cases h2 : r / 4503599627370496 < 897
    · rw [if_pos h2]
      have h3 := nearN_le (4503599627370496 + r % 4503599627370496) (926 - r / 4503599627370496)
      have h4 : (4503599627370496 + r % 4503599627370496) / 2 ^ (926 - r / 4503599627370496) ≤ (4503599627370496 + r % 4503599627370496) / 2 ^ 30 :=
        Nat.div_le_div_left (Nat.pow_le_pow_right (by omega) (by omega)) (by decide)
      omega
    · rw [if_neg h2]
      have h3 := nearN_le (4503599627370496 + r % 4503599627370496) 29
      by_cases h5 : r / 4503599627370496 < 1150
      · omega
      · have h6 : r / 4503599627370496 = 1150 := by omega
        have h7 : r % 4503599627370496 ≤ 4503599090499584 := by omega
        rw [h6]
        have h8 : nearN (4503599627370496 + r % 4503599627370496) 29 ≤ 16777215 := by
          by_cases h9 : (4503599627370496 + r % 4503599627370496) / 2 ^ 29 < 16777215
          · omega
          · have e1 : (4503599627370496 + r % 4503599627370496) / 2 ^ 29 = 16777215 := by omega
            have e2 : (4503599627370496 + r % 4503599627370496) % 2 ^ 29 = 0 := by omega
            unfold nearN
            rw [e1, e2]
            decide
        omega
theorem read_eq (f : Format) (x : Nat) : f.read x = if rung f x < f.binade then .number (sgn f x) (rung f x) f.leastPlace
    else if rung f x < f.infRung then .number (sgn f x) (f.binade + rung f x % f.binade) (f.leastPlace + (rung f x / f.binade - 1 : Nat))
    else if rung f x = f.infRung then .infinity (sgn f x) else .nan (sgn f x) (rung f x - f.infRung) := rfl
theorem rung_word (f : Format) (s : Bool) {r : Nat} (h : r < f.signWeight) : rung f (f.word s r) = r := word_mod f s h
theorem sgn_word (f : Format) (s : Bool) {r : Nat} (h : r < f.signWeight) : sgn f (f.word s r) = s := word_div f s h
theorem narrow_read {x : Nat} (h : rung double x ≤ 5183643170566569984) : floatToFloatBits .f64 x .f32 = some (single.word (sgn double x) (to32R (rung double x))) := by
  have hlt := to32R_lt h
  have key : ∃ m i, double.read x = .number (sgn double x) m i ∧ single.nearest (sgn double x) m i = single.word (sgn double x) (to32R (rung double x)) := by
    rw [read_eq, d_binade, d_place]
    have hd := d_inf
    generalize rung double x = r at *
    by_cases h1 : r < 4503599627370496
    · rw [if_pos h1]
      refine ⟨_, _, rfl, ?_⟩
      have e0 : to32R (r) = 0 := by unfold to32R; rw [if_pos (by omega)]
      rw [e0]
      unfold Format.nearest
      by_cases hz : r = 0
      · rw [if_pos hz]
      · rw [if_neg hz]
        have hl : (r).log2 < 52 := (Nat.log2_lt hz).2 (by omega)
        dsimp only
        rw [s_place, show single.fractionBits = 23 from rfl, show max (-1074 + ((r).log2 : Int) - ((23 : Nat) : Int)) (-149) = -149 by omega,
          show ((-149 : Int) - -149).toNat = 0 by omega, show (-1074 - (-149 : Int)).toNat = 0 by omega, show ((-149 : Int) - -1074).toNat = 925 by omega, Nat.shiftLeft_eq, Nat.pow_zero, Nat.mul_one, cut_near, nearN_small, Nat.zero_mul]
        · rfl
        · calc 2 * r < 2 ^ 53 := by omega
            _ ≤ 2 ^ 925 := Nat.pow_le_pow_right (by omega) (by omega)
    · rw [if_neg h1, if_pos (by omega)]
      refine ⟨_, _, rfl, ?_⟩
      have hm : r % 4503599627370496 < 4503599627370496 := Nat.mod_lt _ (by decide)
      have hlt' := hlt
      rw [s_inf] at hlt'
      unfold to32R at hlt' ⊢
      generalize r % 4503599627370496 = m at *
      generalize he : r / 4503599627370496 = e at *
      have he1 : 1 ≤ e := by omega
      unfold Format.nearest
      rw [if_neg (by omega), log2_52 hm, s_place, s_binade, s_inf, show single.fractionBits = 23 from rfl]
      dsimp only
      by_cases c1 : e < 897
      · rw [show max (-1074 + ((e - 1 : Nat) : Int) + ((52 : Nat) : Int) - ((23 : Nat) : Int)) (-149) = -149 by omega,
          show ((-149 : Int) - -149).toNat = 0 by omega, show (-1074 + ((e - 1 : Nat) : Int) - (-149 : Int)).toNat = 0 by omega, show ((-149 : Int) - (-1074 + ((e - 1 : Nat) : Int))).toNat = 926 - e by omega, Nat.shiftLeft_eq, Nat.pow_zero, Nat.mul_one, cut_near, Nat.zero_mul, Nat.zero_add]
        by_cases c2 : e < 872
        · rw [if_pos c2, nearN_small]
          · rfl
          · calc 2 * (4503599627370496 + m) < 2 ^ 54 := by omega
              _ ≤ 2 ^ (926 - e) := Nat.pow_le_pow_right (by omega) (by omega)
        · rw [if_neg c2, if_pos c1] at hlt' ⊢
          rw [Nat.min_eq_left (Nat.le_of_lt hlt')]
      · rw [if_neg (by omega), if_neg c1] at hlt' ⊢
        rw [show max (-1074 + ((e - 1 : Nat) : Int) + ((52 : Nat) : Int) - ((23 : Nat) : Int)) (-149) = (e : Int) - 1046 by omega,
          show ((e : Int) - 1046 - -149).toNat = e - 897 by omega, show (-1074 + ((e - 1 : Nat) : Int) - ((e : Int) - 1046)).toNat = 0 by omega, show ((e : Int) - 1046 - (-1074 + ((e - 1 : Nat) : Int))).toNat = 29 by omega, Nat.shiftLeft_eq, Nat.pow_zero, Nat.mul_one, cut_near]
        rw [Nat.min_eq_left (Nat.le_of_lt hlt')]
  obtain ⟨m, i, e1, e2⟩ := key
  unfold floatToFloatBits
  rw [if_neg (by decide), show FloatKind.f64.decode x = double.read x from rfl, e1]
  dsimp only
  rw [show FloatKind.f32.encode (.number (sgn double x) m i) = single.nearest (sgn double x) m i from rfl, e2]
  have hw : to32R (rung double x) < single.signWeight := Nat.lt_trans hlt (by decide)
  rw [show FloatKind.f32.decode (single.word (sgn double x) (to32R (rung double x))) = single.read (single.word (sgn double x) (to32R (rung double x))) from rfl]
  obtain ⟨m', i', e3, _⟩ := read_num single (x := single.word (sgn double x) (to32R (rung double x))) (by rw [rung_word single _ hw]; exact hlt)
  rw [e3]
  rfl

/-- Narrow: the float32's bits, and whether the guard moved the sample -/
def narrowM (b : Int) : Nat × Bool := if 5183643170566569984 < mg b then (single.word (decide (b < 0)) 2139095039, true) else (single.word (decide (b < 0)) (to32R (mg b)), false)
theorem word_self {x : Nat} (h : x < 18446744073709551616) : double.word (sgn double x) (rung double x) = x := by
  unfold Format.word sgn rung
  rw [d_weight]
  by_cases h1 : x < 9223372036854775808
  · rw [show x / 9223372036854775808 = 0 by omega]; simp; omega
  · rw [show x / 9223372036854775808 = 1 by omega]; simp; omega
theorem u64_lt (b : Int) : u64 b < 18446744073709551616 := by have := u64_val b; omega
theorem narrow_f {b : Int} (hb : I64 b) (hn : mg b ≤ double.infRung) :
    floatToFloatBits .f64 (clampF (u64 b) 14407015207421345792 5183643170566569984) .f32 = some (narrowM b).1 ∧
    moved (clampF (u64 b) 14407015207421345792 5183643170566569984) (u64 b) = (narrowM b).2 := by
  have hx : rung double (u64 b) ≤ double.infRung := by rw [rung_u64]; exact hn
  have r1 : rung double 14407015207421345792 = 5183643170566569984 := by decide +kernel
  have r2 : rung double 5183643170566569984 = 5183643170566569984 := by decide +kernel
  have g1 : sgn double 14407015207421345792 = true := by decide +kernel
  have g2 : sgn double 5183643170566569984 = false := by decide +kernel
  have hinf := d_inf
  have rlo : rung double 14407015207421345792 ≤ double.infRung := by omega
  have rhi : rung double 5183643170566569984 ≤ double.infRung := by omega
  have q1 : sr double 14407015207421345792 = -5183643170566569984 := by unfold sr; rw [r1, g1]; rfl
  have q2 : sr double 5183643170566569984 = 5183643170566569984 := by unfold sr; rw [r2, g2]; rfl
  have qx : sr double (u64 b) = if b < 0 then -(mg b : Int) else mg b := by
    unfold sr; rw [rung_u64, sgn_u64 hb]; by_cases h0 : b < 0 <;> simp [h0]
  have hw := word_self (u64_lt b)
  rw [rung_u64, sgn_u64 hb] at hw
  rw [clamp_sr hx rlo rhi (by omega) (by omega), q1, q2]
  unfold narrowM
  by_cases hT : 5183643170566569984 < mg b
  · rw [if_pos hT]
    by_cases h0 : b < 0
    · rw [if_pos h0] at qx
      rw [if_pos (by omega), moved_sr rlo hx, decide_eq_true h0, decide_eq_true (by omega)]
      exact ⟨by decide +kernel, rfl⟩
    · rw [if_neg h0] at qx
      rw [if_neg (by omega), if_pos (by omega), moved_sr rhi hx, decide_eq_false h0, decide_eq_true (by omega)]
      exact ⟨by decide +kernel, rfl⟩
  · rw [if_neg hT]
    have hc : (if sr double (u64 b) ≤ -5183643170566569984 then 14407015207421345792 else if 5183643170566569984 ≤ sr double (u64 b) then 5183643170566569984 else u64 b) = u64 b := by
      by_cases h0 : b < 0
      · rw [if_pos h0] at qx
        by_cases h1 : mg b = 5183643170566569984
        · rw [if_pos (by omega), ← hw, h1, decide_eq_true h0]; decide +kernel
        · rw [if_neg (by omega), if_neg (by omega)]
      · rw [if_neg h0] at qx
        by_cases h1 : mg b = 5183643170566569984
        · rw [if_neg (by omega), if_pos (by omega), ← hw, h1, decide_eq_false h0]; decide +kernel
        · rw [if_neg (by omega), if_neg (by omega)]
    rw [hc, narrow_read (by rw [rung_u64]; omega), rung_u64, sgn_u64 hb, moved_sr hx hx]
    exact ⟨rfl, by simp⟩

/-! ### float32 to float64 -/
def to64R (r : Nat) : Nat :=
  if r = 2139095040 then 9218868437227405312
  else if r = 0 then 0
  else if r < 8388608 then (874 + r.log2) * 4503599627370496 + (r * 2 ^ (23 - r.log2) - 8388608) * 536870912
  else (r / 8388608 + 896) * 4503599627370496 + r % 8388608 * 536870912
theorem val_double (e m : Nat) (he : 1 ≤ e) (hm : m < 4503599627370496) : val double (e * 4503599627370496 + m) = (4503599627370496 + m) * 2 ^ (e - 1) := by
  have := val_norm double (e - 1) (4503599627370496 + m) (by rw [d_binade]; omega) (by rw [d_binade]; omega)
  rw [d_binade] at this
  have h2 : e * 4503599627370496 + m = (e - 1) * 4503599627370496 + (4503599627370496 + m) := by omega
  rw [h2, this]
theorem sub_norm {r : Nat} (h0 : r ≠ 0) (h1 : r < 8388608) : r.log2 ≤ 22 ∧ 8388608 ≤ r * 2 ^ (23 - r.log2) ∧ r * 2 ^ (23 - r.log2) < 16777216 := by
  have hl : r.log2 < 23 := (Nat.log2_lt h0).2 (by omega)
  have a := Nat.log2_self_le h0
  have b := lt_log2 r
  refine ⟨by omega, ?_, ?_⟩
  · calc 8388608 = 2 ^ r.log2 * 2 ^ (23 - r.log2) := by rw [← Nat.pow_add, show r.log2 + (23 - r.log2) = 23 by omega]
      _ ≤ _ := Nat.mul_le_mul_right _ a
  · calc r * 2 ^ (23 - r.log2) < 2 ^ (r.log2 + 1) * 2 ^ (23 - r.log2) := Nat.mul_lt_mul_of_pos_right b (Nat.two_pow_pos _)
      _ = 16777216 := by rw [← Nat.pow_add, show r.log2 + 1 + (23 - r.log2) = 24 by omega]
theorem to64_val {r : Nat} (h : r < 2139095040) : val double (to64R r) = val single r * 2 ^ 925 := by
  unfold to64R
  rw [if_neg (by omega)]
  by_cases h0 : r = 0
  · rw [if_pos h0, h0]; decide +kernel
  · rw [if_neg h0]
    by_cases h1 : r < 8388608
    · obtain ⟨hl, n1, n2⟩ := sub_norm h0 h1
      rw [if_pos h1, val_double _ _ (by omega) (by omega)]
      have e1 : val single r = r := by unfold val; rw [s_binade, if_pos h1]
      have e2 : 4503599627370496 + (r * 2 ^ (23 - r.log2) - 8388608) * 536870912 = r * 2 ^ (23 - r.log2) * 2 ^ 29 := by omega
      have e3 : 23 - r.log2 + (29 + (874 + r.log2 - 1)) = 925 := by omega
      rw [e1, e2, Nat.mul_assoc, Nat.mul_assoc, ← Nat.pow_add, ← Nat.pow_add, e3]
    · rw [if_neg h1]
      have hm : r % 8388608 < 8388608 := Nat.mod_lt _ (by decide)
      rw [val_double _ _ (by omega) (by omega)]
      have e1 : val single r = (8388608 + r % 8388608) * 2 ^ (r / 8388608 - 1) := by unfold val; rw [s_binade, if_neg h1]
      have e2 : 4503599627370496 + r % 8388608 * 536870912 = (8388608 + r % 8388608) * 2 ^ 29 := by omega
      have e3 : 29 + (r / 8388608 + 896 - 1) = r / 8388608 - 1 + 925 := by omega
      rw [e1, e2, Nat.mul_assoc, Nat.mul_assoc, ← Nat.pow_add, ← Nat.pow_add, e3]
theorem to64_le {r : Nat} (h : r < 2139095040) : to64R r ≤ 5183643170566569984 := by
  unfold to64R
  rw [if_neg (by omega)]
  by_cases h0 : r = 0
  · rw [if_pos h0]; omega
  · rw [if_neg h0]
    by_cases h1 : r < 8388608
    · obtain ⟨hl, n1, n2⟩ := sub_norm h0 h1
      rw [if_pos h1]; omega
    · rw [if_neg h1]; omega
theorem val_zero (f : Format) : val f 0 = 0 := by unfold val; rw [if_pos (binade_pos f)]
theorem to64_inf : to64R single.infRung = double.infRung := by rw [s_inf, d_inf]; unfold to64R; rw [if_pos rfl]
theorem to64_zero : to64R 0 = 0 := by unfold to64R; rw [if_neg (by omega), if_pos rfl]
theorem widen_read {x : Nat} (h : rung single x ≤ 2139095040) : floatToFloatBits .f32 x .f64 = some (double.word (sgn single x) (to64R (rung single x))) := by
  unfold floatToFloatBits
  rw [if_neg (by decide), show FloatKind.f32.decode x = single.read x from rfl]
  rcases Nat.lt_or_ge (rung single x) single.infRung with hf | hf
  · have hlt := hf
    rw [s_inf] at hlt
    obtain ⟨m, i, e, v⟩ := read_num single hf
    have hm : m < 2 ^ 53 := by
      have he := e
      rw [read_eq, s_binade] at he
      split at he
      · injection he with _ h2 _; omega
      · injection he with _ h2 _
        have := Nat.mod_lt (rung single x) (by decide : 0 < 8388608); omega
    have hw := to64_le hlt
    have key : double.nearest (sgn single x) m (single.leastPlace + (i : Int)) = double.word (sgn single x) (to64R (rung single x)) := by
      by_cases hm0 : m = 0
      · have hz : rung single x = 0 := by
          have : val single (rung single x) = val single 0 := by rw [← v, hm0, Nat.zero_mul, val_zero]
          exact val_inj single this
        rw [hm0, hz, to64_zero]
        unfold Format.nearest
        rw [if_pos rfl]
      · obtain ⟨r, e1, e2⟩ := nearest_exact double (sgn single x) m 0 (i + 925) hm hm0
        have hp : double.leastPlace + ((i + 925 : Nat) : Int) = single.leastPlace + (i : Int) := by rw [d_place, s_place]; omega
        rw [Nat.pow_zero, Nat.mul_one, hp] at e1
        have hr : r = to64R (rung single x) := by
          apply val_inj double
          rw [e2, to64_val hlt, ← v, Nat.zero_add, Nat.pow_add, Nat.mul_assoc]
        rw [e1, hr, Nat.min_eq_left (by rw [d_inf]; omega)]
    rw [e]
    dsimp only
    rw [show FloatKind.f64.encode (.number (sgn single x) m (single.leastPlace + (i : Int))) = double.nearest (sgn single x) m (single.leastPlace + (i : Int)) from rfl, key]
    have hw2 : to64R (rung single x) < double.signWeight := by rw [d_weight]; omega
    rw [show FloatKind.f64.decode (double.word (sgn single x) (to64R (rung single x))) = double.read (double.word (sgn single x) (to64R (rung single x))) from rfl]
    obtain ⟨m', i', e3, _⟩ := read_num double (x := double.word (sgn single x) (to64R (rung single x))) (by rw [rung_word double _ hw2, d_inf]; omega)
    rw [e3]
    rfl
  · have he : rung single x = single.infRung := by rw [s_inf] at hf ⊢; omega
    rw [read_inf single he s_bi, he, to64_inf]
    rfl
theorem to32_to64 {r : Nat} (h : r < 2139095040) : to32R (to64R r) = r := by
  unfold to64R
  rw [if_neg (by omega)]
  by_cases h0 : r = 0
  · rw [if_pos h0, h0]; decide +kernel
  · rw [if_neg h0]
    by_cases h1 : r < 8388608
    · obtain ⟨hl, n1, n2⟩ := sub_norm h0 h1
      rw [if_pos h1]
      generalize hk : r * 2 ^ (23 - r.log2) = K at *
      have d1 : ((874 + r.log2) * 4503599627370496 + (K - 8388608) * 536870912) / 4503599627370496 = 874 + r.log2 := by omega
      have d2 : ((874 + r.log2) * 4503599627370496 + (K - 8388608) * 536870912) % 4503599627370496 = (K - 8388608) * 536870912 := by omega
      unfold to32R
      rw [d1, d2, if_neg (by omega), if_pos (by omega)]
      have e2 : 4503599627370496 + (K - 8388608) * 536870912 = r * 2 ^ (926 - (874 + r.log2)) := by
        have : K * 536870912 = r * 2 ^ (926 - (874 + r.log2)) := by
          have e3 : 23 - r.log2 + 29 = 926 - (874 + r.log2) := by omega
          rw [← hk, show (536870912 : Nat) = 2 ^ 29 by decide, Nat.mul_assoc, ← Nat.pow_add, e3]
        omega
      rw [e2, ← cut_near false, cut_exact]
    · rw [if_neg h1]
      have d1 : ((r / 8388608 + 896) * 4503599627370496 + r % 8388608 * 536870912) / 4503599627370496 = r / 8388608 + 896 := by omega
      have d2 : ((r / 8388608 + 896) * 4503599627370496 + r % 8388608 * 536870912) % 4503599627370496 = r % 8388608 * 536870912 := by omega
      unfold to32R
      rw [d1, d2, if_neg (by omega), if_neg (by omega)]
      have e2 : 4503599627370496 + r % 8388608 * 536870912 = (8388608 + r % 8388608) * 2 ^ 29 := by omega
      rw [e2, ← cut_near false, cut_exact]
      omega
end Go.Qu
