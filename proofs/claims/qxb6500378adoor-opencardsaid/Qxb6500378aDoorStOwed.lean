/- Owed: what the fast calls answered is owed. -/
import Derived.Test.Qxb6500378aDoorStFastDo
namespace Go.Proofs.Qxb6500378aDoor
set_option linter.unusedVariables false
set_option linter.unusedSimpArgs false
set_option maxHeartbeats 4000000
set_option maxRecDepth 100000
open Go.RowKit Go.Qu Ieee

theorem two' (w : World) (kd a b cc : Int) (s t : ByteArray) (e n k : Int) (u : ByteArray) :
    Chg (fun _ => False) w ((w.alloc (.cells #[.int .i64 kd, .int .i64 a, .int .i64 b, .int .i64 cc, .string s, .string t] 42)).alloc (.cells #[.int .i64 e, .int .i64 n, .int .i64 k, .string u] 39)) := ((Chg.refl _ w).alloc _).alloc _

theorem fits_true (a b n lo hi : Int) (w : World) (ha : I64 a) (hF : F32 lo hi a b n) :
    Calls Tryd.prog 75 #[.int .i64 a, .int .i64 b, .int .i64 n, .int .i64 lo, .int .i64 hi] w fun e w' => e = .returned (.bool true) ∧ w' = w := by
  obtain ⟨h1, h2, h3⟩ := hF
  have k1 : ¬ n < lo := by omega
  have k2 : ¬ hi < n := by omega
  have W := whole_any a b ha
  obtain ⟨⟨x, bg⟩, e1⟩ : ∃ r, wholeM a b = r := ⟨_, rfl⟩
  rw [e1] at W h3
  dsimp only at W h3
  have HW : Hid (∀ w, _) := fun w => W w
  have H3 : Hid (mg a ≤ 9218868437227405312 → bg = 0 → lo ≤ x → x ≤ hi → n = x) := h3
  clear W e1 h3 h1 h2 ha
  go_enter Tryd.func75, Tryd.ntmps75
  go_wp2_with (first
    | (go_at_call 76; refine (isNaNm_any a _).mono ?_; rintro e w' ⟨rfl, h2⟩; rw [h2]; clear h2)
    | (go_at_call 94; refine (HW.out _).mono ?_; rintro e w' ⟨rfl, h2⟩; rw [h2]; clear h2))
  all_goals (try go_ret)
  all_goals first
    | exact ⟨rfl, rfl⟩
    | (refine ⟨?_, rfl⟩
       show Ending.returned (Value.bool _) = Ending.returned (Value.bool true)
       have h3 := H3.out
       simp only [Ending.returned.injEq, Value.bool.injEq, bne_iff_ne, ne_eq, bne_eq_false_iff_eq, beq_iff_eq, decide_eq_true_eq, decide_eq_false_iff_not, Bool.not_eq_true] at *
       omega)

def keyI (b : Int) : Int := if 0 ≤ b then b else -(mg b : Int) - 1
theorem key_any (b : Int) (w : World) : Calls Tryd.prog 79 #[.int .i64 b] w fun e w' => e = .returned (.int .i64 (keyI b)) ∧ w' = w := by
  have e5 : bits .and .i64 b 9223372036854775807 = (mg b : Int) := by rw [and63]; unfold mg; omega
  have hm := mg_lt b
  obtain ⟨K, hK⟩ : ∃ K, keyI b = K := ⟨_, rfl⟩
  have HK : Hid (keyI b = K) := hK
  obtain ⟨m, hmm⟩ : ∃ m : Int, (mg b : Int) = m := ⟨_, rfl⟩
  have m0 : 0 ≤ m := by omega
  have m1 : m ≤ 9223372036854775807 := by omega
  have HM : Hid ((mg b : Int) = m) := hmm
  rw [hK]
  rw [hmm] at e5
  clear hK hm hmm
  go_enter Tryd.func79, Tryd.ntmps79
  go_wp2
  all_goals go_ret
  all_goals (
    refine ⟨congrArg (fun x => Ending.returned (.int .i64 x)) ?_, rfl⟩
    rw [← HK.out]
    unfold keyI
    rw [HM.out]
    split <;> first | rfl | (exfalso; omega) | omega)

theorem owed_21 (a b cc : Int) (s t : ByteArray) (n : Int) (w : World) (ha : I64 a) (hF : F32 (-2147483648) 2147483647 a b n) :
    Calls Tryd.prog 40 #[opV 21 a b cc s t, ansV 0 n 0 ⟨#[]⟩] w fun e w' => e = .returned (.bool true) ∧ Chg (fun _ => False) w w' := by
  unfold opV ansV
  have C : Hid _ := two' w 21 a b cc s t 0 n 0 ⟨#[]⟩
  have HF : Hid (I64 a ∧ F32 (-2147483648) 2147483647 a b n) := ⟨ha, hF⟩
  clear ha hF
  go_enter Tryd.func40, Tryd.ntmps40
  go_wp2_with (go_at_call 75; refine (fits_true a b n _ _ _ HF.out.1 HF.out.2).mono ?_; rintro e w' ⟨rfl, h2⟩; rw [h2]; clear h2)
  go_ret
  exact ⟨rfl, C.out⟩
theorem owed_22 (a b cc : Int) (s t : ByteArray) (n : Int) (w : World) (ha : I64 a) (hF : F32 (-32768) 32767 a b n) :
    Calls Tryd.prog 40 #[opV 22 a b cc s t, ansV 0 n 0 ⟨#[]⟩] w fun e w' => e = .returned (.bool true) ∧ Chg (fun _ => False) w w' := by
  unfold opV ansV
  have C : Hid _ := two' w 22 a b cc s t 0 n 0 ⟨#[]⟩
  have HF : Hid (I64 a ∧ F32 (-32768) 32767 a b n) := ⟨ha, hF⟩
  clear ha hF
  go_enter Tryd.func40, Tryd.ntmps40
  go_wp2_with (go_at_call 75; refine (fits_true a b n _ _ _ HF.out.1 HF.out.2).mono ?_; rintro e w' ⟨rfl, h2⟩; rw [h2]; clear h2)
  go_ret
  exact ⟨rfl, C.out⟩

theorem owed_23 (a b cc : Int) (s t : ByteArray) (n : Int) (w : World) (ha : I64 a) (hF : FN a n) :
    Calls Tryd.prog 40 #[opV 23 a b cc s t, ansV 0 n 0 ⟨#[]⟩] w fun e w' => e = .returned (.bool true) ∧ Chg (fun _ => False) w w' := by
  unfold opV ansV
  have C : Hid _ := two' w 23 a b cc s t 0 n 0 ⟨#[]⟩
  obtain ⟨f1, f2, f3, f4⟩ := hF
  have e5 : bits .and .i64 a 9223372036854775807 = (mg a : Int) := by rw [and63]; unfold mg; omega
  have k1 : ¬ n < 0 := by omega
  have k2 : ¬ 4294967295 < n := by omega
  by_cases hn : 9218868437227405312 < mg a
  · have dn : decide (9218868437227405312 < mg a) = true := decide_eq_true hn
    have dm : decide (2139095040 < n % 2147483648) = true := decide_eq_true (f3 hn)
    clear hn f3 f4 ha
    go_enter Tryd.func40, Tryd.ntmps40
    go_wp2_with (first
      | (go_at_call 76; refine (isNaNm_any a _).mono ?_; rintro e w' ⟨rfl, h2⟩; rw [h2, dn]; clear h2)
      | (go_at_call 77; refine (isNaN32_any n _).mono ?_; rintro e w' ⟨rfl, h2⟩; rw [h2, dm]; clear h2))
    go_ret
    exact ⟨rfl, C.out⟩
  have dn : decide (9218868437227405312 < mg a) = false := decide_eq_false hn
  by_cases ht : 5183643170566569984 < mg a
  · have k3 : (5183643170566569984 : Int) < mg a := by omega
    obtain ⟨m, hm⟩ : ∃ m : Int, (mg a : Int) = m := ⟨_, rfl⟩
    rw [hm] at e5 k3
    clear hn f3 f4 ha ht hm
    go_enter Tryd.func40, Tryd.ntmps40
    go_wp2_with (go_at_call 76; refine (isNaNm_any a _).mono ?_; rintro e w' ⟨rfl, h2⟩; rw [h2, dn]; clear h2)
    go_ret
    exact ⟨rfl, C.out⟩
  · have k3 : ¬ (5183643170566569984 : Int) < mg a := by omega
    have R := to32_any a ha (by omega)
    rw [← f4 (by omega)] at R
    have HR : Hid (∀ w, _) := R
    obtain ⟨m, hm⟩ : ∃ m : Int, (mg a : Int) = m := ⟨_, rfl⟩
    rw [hm] at e5 k3
    clear hn f3 f4 ha ht hm R
    go_enter Tryd.func40, Tryd.ntmps40
    go_wp2_with (go_at_call 76; refine (isNaNm_any a _).mono ?_; rintro e w' ⟨rfl, h2⟩; rw [h2, dn]; clear h2)
    go_quiet ((first | (go_at_call 78; exact Calls.quiet_of_same (HR.out _))))
    go_wp2
    go_ret
    exact ⟨by simp, Chg.drewN C.out nq⟩

theorem owed_24 (a b cc : Int) (s t : ByteArray) (n : Int) (w : World) (ha : I64 a) (hF : FC a n) :
    Calls Tryd.prog 40 #[opV 24 a b cc s t, ansV 0 n 0 ⟨#[]⟩] w fun e w' => e = .returned (.bool true) ∧ Chg (fun _ => False) w w' := by
  unfold opV ansV
  have C : Hid _ := two' w 24 a b cc s t 0 n 0 ⟨#[]⟩
  obtain ⟨f1, f2⟩ := hF
  by_cases hn : 9218868437227405312 < mg a
  · have dn : decide (9218868437227405312 < mg a) = true := decide_eq_true hn
    have dm : decide (9218868437227405312 < mg n) = true := decide_eq_true (f1 hn)
    clear hn f1 f2 ha
    go_enter Tryd.func40, Tryd.ntmps40
    go_wp2_with fail
    refine (isNaNm_any a _).mono ?_; rintro e w' ⟨rfl, h2⟩; rw [h2, dn]; clear h2
    go_wp2_with fail
    refine (isNaNm_any n _).mono ?_; rintro e w' ⟨rfl, h2⟩; rw [h2, dm]; clear h2
    go_wp2_with fail
    go_ret
    exact ⟨rfl, C.out⟩
  · have dn : decide (9218868437227405312 < mg a) = false := decide_eq_false hn
    have hv := mg_val ha
    have hk : keyI a = if 0 ≤ a then a else -(mg a : Int) - 1 := rfl
    have hk2 : keyI (-4476578029606273024) = -4746794007248502785 := by decide +kernel
    have hc : n = clampI a := f2 (by omega)
    unfold clampI at hc
    have HK := fun w => key_any a w
    have HL := fun w => key_any (-4476578029606273024) w
    rw [hk2] at HL
    obtain ⟨K, hK⟩ : ∃ K, keyI a = K := ⟨_, rfl⟩
    rw [hK] at HK hk
    obtain ⟨m, hm⟩ : ∃ m : Int, (mg a : Int) = m := ⟨_, rfl⟩
    have hm0 : 0 ≤ m := by omega
    have hF : (K < -4746794007248502785 → n = -4476578029606273024) ∧ (¬ K < -4746794007248502785 → 4746794007244308480 < K → n = 4746794007244308480) ∧ (¬ K < -4746794007248502785 → ¬ 4746794007244308480 < K → n = a) := by
      by_cases h0 : a < 0
      · rw [if_pos h0] at hc
        rw [if_neg (by omega)] at hk
        by_cases h1 : 4746794007248502784 < mg a
        · rw [if_pos h1] at hc
          exact ⟨fun _ => hc, fun h => by omega, fun h => by omega⟩
        · rw [if_neg h1] at hc
          exact ⟨fun h => by omega, fun _ h => by omega, fun _ _ => hc⟩
      · rw [if_neg h0] at hc
        rw [if_pos (by omega)] at hk
        by_cases h1 : 4746794007244308480 < a
        · rw [if_pos h1] at hc
          exact ⟨fun h => by omega, fun _ _ => hc, fun _ h => by omega⟩
        · rw [if_neg h1] at hc
          exact ⟨fun h => by omega, fun _ h => by omega, fun _ _ => hc⟩
    have HF : Hid _ := hF
    have HHK : Hid (∀ w, _) := HK
    have HHL : Hid (∀ w, _) := HL
    clear hn f1 f2 ha hv hk hk2 hc HK HL hK hm hm0 hF
    go_enter Tryd.func40, Tryd.ntmps40
    go_wp2_with fail
    refine (isNaNm_any a _).mono ?_; rintro e w' ⟨rfl, h2⟩; rw [h2, dn]; clear h2
    go_wp2_with fail
    refine (HHK.out _).mono ?_; rintro e w' ⟨rfl, h2⟩; rw [h2]; clear h2
    go_wp2_with fail
    refine (HHL.out _).mono ?_; rintro e w' ⟨rfl, h2⟩; rw [h2]; clear h2
    go_wp2_with fail
    all_goals go_ret
    all_goals (
      refine ⟨?_, C.out⟩
      show Ending.returned (Value.bool _) = Ending.returned (Value.bool true)
      have hf := HF.out
      simp only [Ending.returned.injEq, Value.bool.injEq, beq_iff_eq]
      first
        | exact hf.1 (by omega)
        | exact hf.2.1 (by omega) (by omega)
        | exact hf.2.2 (by omega) (by omega))

theorem owed_26 (a b cc : Int) (s t : ByteArray) (n : Int) (w : World) (ha : I64 a) (hF : FC a n) :
    Calls Tryd.prog 40 #[opV 26 a b cc s t, ansV 0 n 0 ⟨#[]⟩] w fun e w' => e = .returned (.bool true) ∧ Chg (fun _ => False) w w' := by
  unfold opV ansV
  have C : Hid _ := two' w 26 a b cc s t 0 n 0 ⟨#[]⟩
  obtain ⟨f1, f2⟩ := hF
  by_cases hn : 9218868437227405312 < mg a
  · have dn : decide (9218868437227405312 < mg a) = true := decide_eq_true hn
    have dm : decide (9218868437227405312 < mg n) = true := decide_eq_true (f1 hn)
    clear hn f1 f2 ha
    go_enter Tryd.func40, Tryd.ntmps40
    go_wp2_with fail
    refine (isNaNm_any a _).mono ?_; rintro e w' ⟨rfl, h2⟩; rw [h2, dn]; clear h2
    go_wp2_with fail
    refine (isNaNm_any n _).mono ?_; rintro e w' ⟨rfl, h2⟩; rw [h2, dm]; clear h2
    go_wp2_with fail
    go_ret
    exact ⟨rfl, C.out⟩
  · have dn : decide (9218868437227405312 < mg a) = false := decide_eq_false hn
    have hv := mg_val ha
    have hk : keyI a = if 0 ≤ a then a else -(mg a : Int) - 1 := rfl
    have hk2 : keyI (-4476578029606273024) = -4746794007248502785 := by decide +kernel
    have hc : n = clampI a := f2 (by omega)
    unfold clampI at hc
    have HK := fun w => key_any a w
    have HL := fun w => key_any (-4476578029606273024) w
    rw [hk2] at HL
    obtain ⟨K, hK⟩ : ∃ K, keyI a = K := ⟨_, rfl⟩
    rw [hK] at HK hk
    obtain ⟨m, hm⟩ : ∃ m : Int, (mg a : Int) = m := ⟨_, rfl⟩
    have hm0 : 0 ≤ m := by omega
    have hF : (K < -4746794007248502785 → n = -4476578029606273024) ∧ (¬ K < -4746794007248502785 → 4746794007244308480 < K → n = 4746794007244308480) ∧ (¬ K < -4746794007248502785 → ¬ 4746794007244308480 < K → n = a) := by
      by_cases h0 : a < 0
      · rw [if_pos h0] at hc
        rw [if_neg (by omega)] at hk
        by_cases h1 : 4746794007248502784 < mg a
        · rw [if_pos h1] at hc
          exact ⟨fun _ => hc, fun h => by omega, fun h => by omega⟩
        · rw [if_neg h1] at hc
          exact ⟨fun h => by omega, fun _ h => by omega, fun _ _ => hc⟩
      · rw [if_neg h0] at hc
        rw [if_pos (by omega)] at hk
        by_cases h1 : 4746794007244308480 < a
        · rw [if_pos h1] at hc
          exact ⟨fun h => by omega, fun _ _ => hc, fun _ h => by omega⟩
        · rw [if_neg h1] at hc
          exact ⟨fun h => by omega, fun _ h => by omega, fun _ _ => hc⟩
    have HF : Hid _ := hF
    have HHK : Hid (∀ w, _) := HK
    have HHL : Hid (∀ w, _) := HL
    clear hn f1 f2 ha hv hk hk2 hc HK HL hK hm hm0 hF
    go_enter Tryd.func40, Tryd.ntmps40
    go_wp2_with fail
    refine (isNaNm_any a _).mono ?_; rintro e w' ⟨rfl, h2⟩; rw [h2, dn]; clear h2
    go_wp2_with fail
    refine (HHK.out _).mono ?_; rintro e w' ⟨rfl, h2⟩; rw [h2]; clear h2
    go_wp2_with fail
    refine (HHL.out _).mono ?_; rintro e w' ⟨rfl, h2⟩; rw [h2]; clear h2
    go_wp2_with fail
    all_goals go_ret
    all_goals (
      refine ⟨?_, C.out⟩
      show Ending.returned (Value.bool _) = Ending.returned (Value.bool true)
      have hf := HF.out
      simp only [Ending.returned.injEq, Value.bool.injEq, beq_iff_eq]
      first
        | exact hf.1 (by omega)
        | exact hf.2.1 (by omega) (by omega)
        | exact hf.2.2 (by omega) (by omega))

theorem owed_25 (a b cc : Int) (s t : ByteArray) (e n : Int) (w : World) (hF : FS a b e n) :
    Calls Tryd.prog 40 #[opV 25 a b cc s t, ansV e n 0 ⟨#[]⟩] w fun e w' => e = .returned (.bool true) ∧ Chg (fun _ => False) w w' := by
  unfold opV ansV
  obtain ⟨f1, f2⟩ := hF
  by_cases h0 : b < 0
  · obtain ⟨rfl, rfl⟩ := f1 h0
    have C : Hid _ := two' w 25 a b cc s t 8 0 0 ⟨#[]⟩
    clear f1 f2
    go_enter Tryd.func40, Tryd.ntmps40
    go_wp2
    go_ret
    exact ⟨rfl, C.out⟩
  obtain ⟨rfl, rfl⟩ := f2 (by omega)
  have C : Hid _ := two' w 25 a b cc s t 0 (shlI a b) 0 ⟨#[]⟩
  unfold shlI at C ⊢
  clear f1 f2
  by_cases h1 : 32 ≤ b
  · rw [if_pos h1] at C ⊢
    go_enter Tryd.func40, Tryd.ntmps40
    go_wp2
    go_ret
    exact ⟨rfl, C.out⟩
  · rw [if_neg h1] at C ⊢
    have k0 : 0 ≤ b := by omega
    have k1 : ¬ 32 ≤ b := h1
    have hw := wrap32 a
    obtain ⟨v, hv⟩ : ∃ v, wrap32 a = v := ⟨_, rfl⟩
    have v1 : -2147483648 ≤ v := by rw [← hv, wrap32]; omega
    have v2 : v ≤ 2147483647 := by rw [← hv, wrap32]; omega
    have HW : Hid (∀ w, _) := fun w => wrap32m_any a w
    rw [hv] at HW C ⊢
    have m1 : wrap64 (v * 2 ^ b.toNat) = v * 2 ^ b.toNat := by
      have e31 : (2 : Int) ^ 31 = 2147483648 := by decide
      have q1 : (2 : Int) ^ b.toNat ≤ 2147483648 := by
        have h := Nat.pow_le_pow_right (by omega : 0 < 2) (show b.toNat ≤ 31 by omega)
        have e : ((2 ^ b.toNat : Nat) : Int) = 2 ^ b.toNat := by simp
        omega
      have q0 : (0 : Int) ≤ 2 ^ b.toNat := by
        have h := Nat.two_pow_pos b.toNat
        have e : ((2 ^ b.toNat : Nat) : Int) = 2 ^ b.toNat := by simp
        omega
      have a1 : v * 2 ^ b.toNat ≤ 2147483648 * 2 ^ b.toNat := Int.mul_le_mul_of_nonneg_right (by omega) q0
      have a2 : (-2147483648 : Int) * 2 ^ b.toNat ≤ v * 2 ^ b.toNat := Int.mul_le_mul_of_nonneg_right (by omega) q0
      rw [wrap64]; omega
    have HV : Hid (∀ w, _) := fun w => wrap32m_any (v * 2 ^ b.toNat) w
    obtain ⟨R, hR⟩ : ∃ R, wrap32 (v * 2 ^ b.toNat) = R := ⟨_, rfl⟩
    rw [hR] at HV C ⊢
    clear h1 hw hv hR
    go_enter Tryd.func40, Tryd.ntmps40
    go_wp2_with fail
    refine (HW.out _).mono ?_; rintro e w' ⟨rfl, h2⟩; rw [h2]; clear h2
    go_wp2_with fail
    go_quiet ((first | (go_at_call 80; exact Calls.quiet_of_same (HV.out _))))
    go_wp2
    go_ret
    exact ⟨by simp, Chg.drewN C.out nq⟩
theorem owed_0 (kd a b cc : Int) (s t : ByteArray) (w : World) (h21 : kd ≠ 21) (h22 : kd ≠ 22) (h23 : kd ≠ 23) (h24 : kd ≠ 24) (h25 : kd ≠ 25) (h26 : kd ≠ 26) :
    Calls Tryd.prog 40 #[opV kd a b cc s t, ansV 0 0 0 ⟨#[]⟩] w fun e w' => e = .returned (.bool true) ∧ Chg (fun _ => False) w w' := by
  unfold opV ansV
  have C : Hid _ := two' w kd a b cc s t 0 0 0 ⟨#[]⟩
  have k21 : (kd == 21) = false := by simpa using h21
  have k22 : (kd == 22) = false := by simpa using h22
  have k23 : (kd == 23) = false := by simpa using h23
  have k24 : (kd == 24) = false := by simpa using h24
  have k25 : (kd == 25) = false := by simpa using h25
  have k26 : (kd == 26) = false := by simpa using h26
  clear h21 h22 h23 h24 h25 h26
  go_enter Tryd.func40, Tryd.ntmps40
  go_wp2
  go_ret
  exact ⟨by simp, C.out⟩
end Go.Proofs.Qxb6500378aDoor
