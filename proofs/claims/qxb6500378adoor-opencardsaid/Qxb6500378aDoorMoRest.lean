/- The model's converter: To32, Narrow, Wrap32, Shift, Check. -/
import Derived.Test.Qxb6500378aDoorMoRound
namespace Go.Proofs.Qxb6500378aDoor
set_option linter.unusedVariables false
set_option linter.unusedSimpArgs false
set_option maxHeartbeats 2000000
open Go.RowKit Go.Qu Ieee

theorem checkm_any (p : Nat) (c z : Int) (w : World) (hq : Cm w p c z) (hc : Sq c) (hz : Sq z) :
    Calls Tryd.prog 69 #[.pointer (some ⟨p, 0, none⟩)] w fun e w' => e = .returned (.bool true) ∧ Cm w' p c z ∧ Chg (· = p) w w' := by
  have h0 : w.cell? ⟨p, 0, none⟩ = some (.int .i64 c) := hq.cell 0
  have h1 : w.cell? ⟨p, 1, none⟩ = some (.int .i64 z) := hq.cell 1
  have k0 : 0 ≤ c := hc.1
  have k1 : 0 ≤ z := hz.1
  have HQ : Hid (Cm w p c z) := hq
  clear hq hc hz
  go_enter Tryd.func69, Tryd.ntmps69
  go_wp2
  go_ret
  exact ⟨rfl, HQ.out, Chg.refl _ _⟩
theorem sign_bit (b : Int) (hb : I64 b) : bits .and .i64 (b / 9223372036854775808) 1 = if b < 0 then 1 else 0 := by
  unfold I64 at hb
  rw [and1]
  split <;> omega

theorem to32_any (b : Int) (hb : I64 b) (h : mg b ≤ 5183643170566569984) (w : World) :
    Calls Tryd.prog 78 #[.int .i64 b] w fun e w' => e = .returned (.int .i64 ((to32R (mg b) : Int) + (if b < 0 then 2147483648 else 0))) ∧ w' = w := by
  have e1 := exp_bits b
  have e2 := frac_bits b
  have e4 := sign_bit b hb
  have hM := Nat.mod_lt (mg b) (by decide : 0 < 4503599627370496)
  have e3 : bits .or .i64 ((mg b % 4503599627370496 : Nat) : Int) 4503599627370496 = ((4503599627370496 + mg b % 4503599627370496 : Nat) : Int) := by
    rw [or52 (mg b % 4503599627370496) hM]; rfl
  have hlt := to32R_bound (mg b) h
  have hE : mg b / 4503599627370496 ≤ 1150 := by omega
  unfold to32R at hlt ⊢
  generalize mg b / 4503599627370496 = E at *
  generalize hX : 4503599627370496 + mg b % 4503599627370496 = X at *
  generalize mg b % 4503599627370496 = M at *
  obtain ⟨sg, hsg⟩ : ∃ sg : Int, (if b < 0 then (1 : Int) else 0) = sg := ⟨_, rfl⟩
  have hs : (if b < 0 then (2147483648 : Int) else 0) = sg * 2147483648 := by rw [← hsg]; split <;> rfl
  have s0 : 0 ≤ sg := by rw [← hsg]; split <;> omega
  have s1 : sg ≤ 1 := by rw [← hsg]; split <;> omega
  rw [hs]
  rw [hsg] at e4
  clear hs hsg h
  have hXb : X < 4611686018427387904 := by omega
  by_cases h1 : E < 872
  · simp only [if_pos h1]
    have k1 : (E : Int) - 1023 < -151 := by omega
    clear hlt
    go_enter Tryd.func78, Tryd.ntmps78
    go_wp2
    go_ret
    exact ⟨by simp, rfl⟩
  simp only [if_neg h1] at hlt ⊢
  have k1 : ¬ (E : Int) - 1023 < -151 := by omega
  by_cases h2 : E < 897
  · simp only [if_pos h2] at hlt ⊢
    have k2 : (E : Int) - 1023 < -126 := by omega
    have k3 : (-97 : Int) - ((E : Int) - 1023) = ((926 - E : Nat) : Int) := by omega
    have R := nearest_any X (926 - E) w hXb (by omega) (by omega)
    generalize nearN X (926 - E) = n at R hlt ⊢
    generalize 926 - E = S at R k3
    have HR : Hid (Calls _ _ _ _ _) := R
    clear R hM hX
    go_enter Tryd.func78, Tryd.ntmps78
    go_wp2_with (go_at_call 95; refine Calls.mono HR.out ?_; rintro e w' ⟨rfl, hw⟩; rw [hw]; clear hw)
    go_ret
    exact ⟨by simp [Int.add_comm], rfl⟩
  · simp only [if_neg h2] at hlt ⊢
    have k2 : ¬ (E : Int) - 1023 < -126 := by omega
    have R := nearest_any X 29 w hXb (by omega) (by omega)
    generalize nearN X 29 = n at R hlt ⊢
    have HR : Hid (Calls _ _ _ _ _) := R
    have k4 : (((E - 897) * 8388608 + n : Nat) : Int) = ((E : Int) - 1023 + 126) * 8388608 + n := by omega
    rw [k4]
    clear R hM hX
    go_enter Tryd.func78, Tryd.ntmps78
    go_wp2_with (go_at_call 95; refine Calls.mono HR.out ?_; rintro e w' ⟨rfl, hw⟩; rw [hw]; clear hw)
    go_ret
    refine ⟨congrArg (fun x => Ending.returned (.int .i64 x)) ?_, rfl⟩
    omega

theorem narrowm_o (p : Nat) (b c z : Int) (w : World) (hb : I64 b) (hq : Cm w p c z) (hc : Sq c) (hz : Sq z) :
    Calls Tryd.prog 62 #[.pointer (some ⟨p, 0, none⟩), .int .i64 b] w fun e w' => e = .returned (.tuple #[.int .i64 (narrowO b).e, .int .i64 (narrowO b).n]) ∧ Cm w' p (c + (narrowO b).dc) (z + (narrowO b).dz) ∧ Chg (· = p) w w' := by
  obtain ⟨c0, c1⟩ := hc
  obtain ⟨z0, z1⟩ := hz
  have h0 : w.cell? ⟨p, 0, none⟩ = some (.int .i64 c) := hq.cell 0
  have h1 : w.cell? ⟨p, 1, none⟩ = some (.int .i64 z) := hq.cell 1
  have g0 := hq.frozen 0
  have g1 := hq.frozen 1
  have HQ : Hid (Cm w p c z) := hq
  clear hq
  have e4 := sign_bit b hb
  have e5 : bits .and .i64 b 9223372036854775807 = (mg b : Int) := by rw [and63]; unfold mg; omega
  obtain ⟨r, r1, r2, r3⟩ := narrowM_val b
  unfold narrowO
  by_cases hn : 9218868437227405312 < mg b
  · simp only [if_pos hn, Int.add_zero]
    have dn : decide (9218868437227405312 < mg b) = true := decide_eq_true hn
    clear hn hb
    go_enter Tryd.func62, Tryd.ntmps62
    go_wp2_with (go_at_call 76; refine (isNaNm_any b _).mono ?_; rintro e w' ⟨rfl, h2⟩; rw [h2, dn]; clear h2)
    go_ret2
    exact ⟨rfl, HQ.out.setCell 1 _, Chg.set1 w p 1 _⟩
  simp only [if_neg hn, Int.add_zero]
  have dn : decide (9218868437227405312 < mg b) = false := decide_eq_false hn
  rw [r2]
  by_cases ht : 5183643170566569984 < mg b
  · have e6 : (narrowM b).2 = true := by unfold narrowM; rw [if_pos ht]
    rw [if_pos ht] at r3
    rw [e6, r3]
    have k1 : (5183643170566569984 : Int) < mg b := by omega
    obtain ⟨sg, hsg⟩ : ∃ sg : Int, (if b < 0 then (1 : Int) else 0) = sg := ⟨_, rfl⟩
    have hs : (if b < 0 then (2147483648 : Int) else 0) = sg * 2147483648 := by rw [← hsg]; split <;> rfl
    have s0 : 0 ≤ sg := by rw [← hsg]; split <;> omega
    have s1 : sg ≤ 1 := by rw [← hsg]; split <;> omega
    rw [hs]
    rw [hsg] at e4
    clear hs hsg ht hn hb r2 r3 e6
    go_enter Tryd.func62, Tryd.ntmps62
    go_wp2_with (go_at_call 76; refine (isNaNm_any b _).mono ?_; rintro e w' ⟨rfl, h2⟩; rw [h2, dn]; clear h2)
    go_ret2
    refine ⟨congrArg (fun x => Ending.returned (.tuple #[.int .i64 0, .int .i64 x])) ?_, HQ.out.setCell 0 _, Chg.set1 w p 0 _⟩
    omega
  · have e6 : (narrowM b).2 = false := by unfold narrowM; rw [if_neg ht]
    rw [if_neg ht] at r3
    rw [e6, r3]
    have k1 : ¬ (5183643170566569984 : Int) < mg b := by omega
    have R := to32_any b hb (by omega) w
    obtain ⟨v, hv⟩ : ∃ v : Int, (to32R (mg b) : Int) + (if b < 0 then 2147483648 else 0) = v := ⟨_, rfl⟩
    rw [hv] at R ⊢
    have HR : Hid (Calls _ _ _ _ _) := R
    clear R hv ht hn hb r2 r3 e6 e4
    go_enter Tryd.func62, Tryd.ntmps62
    go_wp2_with (first
      | (go_at_call 76; refine (isNaNm_any b _).mono ?_; rintro e w' ⟨rfl, h2⟩; rw [h2, dn]; clear h2)
      | (go_at_call 78; refine Calls.mono HR.out ?_; rintro e w' ⟨rfl, hw⟩; rw [hw]; clear hw))
    go_ret2
    exact ⟨rfl, by simpa using HQ.out, Chg.refl _ _⟩

theorem wrap32m_any (n : Int) (w : World) : Calls Tryd.prog 80 #[.int .i64 n] w fun e w' => e = .returned (.int .i64 (wrap32 n)) ∧ w' = w := by
  have e1 := and32 n
  have b0 : 0 ≤ n % 4294967296 := by omega
  have b1 : n % 4294967296 ≤ 4294967295 := by omega
  obtain ⟨r, hr⟩ : ∃ r, n % 4294967296 = r := ⟨_, rfl⟩
  have hw : wrap32 n = if r ≤ 2147483647 then r else r - 4294967296 := by rw [wrap32]; split <;> omega
  rw [hw]
  rw [hr] at e1 b0 b1
  clear hw hr
  by_cases h : r ≤ 2147483647
  · rw [if_pos h]
    have k : ¬ 2147483647 < r := by omega
    go_enter Tryd.func80, Tryd.ntmps80
    go_wp2
    go_ret
    exact ⟨rfl, rfl⟩
  · rw [if_neg h]
    have k : 2147483647 < r := by omega
    go_enter Tryd.func80, Tryd.ntmps80
    go_wp2
    go_ret
    exact ⟨rfl, rfl⟩

theorem shiftm_o (p : Nat) (v n c z : Int) (w : World) (hv : I64 v) (hq : Cm w p c z) :
    Calls Tryd.prog 65 #[.pointer (some ⟨p, 0, none⟩), .int .i64 v, .int .i64 n] w fun e w' => e = .returned (.tuple #[.int .i64 (shiftO v n).e, .int .i64 (shiftO v n).n]) ∧ Cm w' p c z ∧ Chg (· = p) w w' := by
  have HQ : Hid (Cm w p c z) := hq
  clear hq
  unfold I64 at hv
  unfold shiftO shiftI
  by_cases h1 : v < -2147483648
  · simp only [if_pos (Or.inl h1 : v < -2147483648 ∨ 2147483647 < v)]
    go_enter Tryd.func65, Tryd.ntmps65
    go_wp2
    go_ret2
    exact ⟨rfl, HQ.out, Chg.refl _ _⟩
  by_cases h2 : 2147483647 < v
  · simp only [if_pos (Or.inr h2 : v < -2147483648 ∨ 2147483647 < v)]
    go_enter Tryd.func65, Tryd.ntmps65
    go_wp2
    go_ret2
    exact ⟨rfl, HQ.out, Chg.refl _ _⟩
  simp only [if_neg (show ¬ (v < -2147483648 ∨ 2147483647 < v) by omega)]
  by_cases h3 : 32 ≤ n
  · simp only [if_pos h3]
    go_enter Tryd.func65, Tryd.ntmps65
    go_wp2
    go_ret2
    exact ⟨rfl, HQ.out, Chg.refl _ _⟩
  simp only [if_neg h3]
  by_cases h4 : 0 ≤ n
  · simp only [if_pos h4]
    have m1 : wrap64 (v * 2 ^ n.toNat) = v * 2 ^ n.toNat := by
      have e31 : (2 : Int) ^ 31 = 2147483648 := by decide
      have q1 : (2 : Int) ^ n.toNat ≤ 2147483648 := by
        have h := Nat.pow_le_pow_right (by omega : 0 < 2) (show n.toNat ≤ 31 by omega)
        have e : ((2 ^ n.toNat : Nat) : Int) = 2 ^ n.toNat := by simp
        omega
      have q0 : (0 : Int) ≤ 2 ^ n.toNat := by
        have h := Nat.two_pow_pos n.toNat
        have e : ((2 ^ n.toNat : Nat) : Int) = 2 ^ n.toNat := by simp
        omega
      have a1 : v * 2 ^ n.toNat ≤ 2147483648 * 2 ^ n.toNat := Int.mul_le_mul_of_nonneg_right (by omega) q0
      have a2 : (-2147483648 : Int) * 2 ^ n.toNat ≤ v * 2 ^ n.toNat := Int.mul_le_mul_of_nonneg_right (by omega) q0
      rw [wrap64]; omega
    have k3 : ¬ 32 ≤ n := h3
    clear h3
    go_enter Tryd.func65, Tryd.ntmps65
    go_wp2_with (go_at_call 80; refine (wrap32m_any (v * 2 ^ n.toNat) _).mono ?_; rintro e w' ⟨rfl, hw⟩; rw [hw]; clear hw)
    go_ret2
    exact ⟨rfl, HQ.out, Chg.refl _ _⟩
  simp only [if_neg h4]
  by_cases h5 : n ≤ -32
  · simp only [if_pos h5]
    obtain ⟨sv, hsv⟩ : ∃ sv : Int, (if v < 0 then (-1 : Int) else 0) = sv := ⟨_, rfl⟩
    have m1 : v / 9223372036854775808 = sv := by rw [← hsv]; split <;> omega
    rw [hsv]
    clear hsv
    go_enter Tryd.func65, Tryd.ntmps65
    go_wp2
    go_ret2
    exact ⟨rfl, HQ.out, Chg.refl _ _⟩
  · simp only [if_neg h5]
    go_enter Tryd.func65, Tryd.ntmps65
    go_wp2
    go_ret2
    exact ⟨rfl, HQ.out, Chg.refl _ _⟩
end Go.Proofs.Qxb6500378aDoor
