/- The model's converter: To64, Widen, Round53, Scale. -/
import Derived.Test.Qxb6500378aDoorMoRest
import Derived.Deep.LoopGhost
namespace Go.Proofs.Qxb6500378aDoor
set_option linter.unusedVariables false
set_option linter.unusedSimpArgs false
set_option maxHeartbeats 2000000
open Go.RowKit Go.Qu Ieee

theorem or_sign (sg A : Int) (hs : sg = 0 ∨ sg = -9223372036854775808) (a0 : 0 ≤ A) (a1 : A ≤ 9223372036854775807) : bits .or .i64 sg A = sg + A := by
  obtain ⟨n, rfl⟩ : ∃ n : Nat, A = n := ⟨A.toNat, by omega⟩
  exact or_sum sg n 63 (by omega) (by have e : 2 ^ 63 = 9223372036854775808 := by decide
                                      omega) (by have e : ((2 ^ 63 : Nat) : Int) = 9223372036854775808 := by decide
                                                 rw [e]; omega) (by omega) (by omega)
theorem or_low (X B : Int) (hx : X % 4503599627370496 = 0) (x0 : -9223372036854775808 ≤ X) (b0 : 0 ≤ B) (b1 : B < 4503599627370496) (h : X + B ≤ 9223372036854775807) : bits .or .i64 X B = X + B := by
  obtain ⟨n, rfl⟩ : ∃ n : Nat, B = n := ⟨B.toNat, by omega⟩
  exact or_sum X n 52 (by omega) (by have e : 2 ^ 52 = 4503599627370496 := by decide
                                     omega) (by have e : ((2 ^ 52 : Nat) : Int) = 4503599627370496 := by decide
                                                rw [e]; exact hx) x0 (by omega)

theorem to64_any (b : Int) (b0 : 0 ≤ b) (b1 : b ≤ 4294967295) (h : b % 2147483648 ≤ 2139095040) (w : World) :
    Calls Tryd.prog 90 #[.int .i64 b] w fun e w' => e = .returned (.int .i64 (widenI b)) ∧ w' = w := by
  obtain ⟨sg, hsg⟩ : ∃ sg : Int, (if 2147483648 ≤ b then (-9223372036854775808 : Int) else 0) = sg := ⟨_, rfl⟩
  have e1 : wrap64 (b / 2147483648 * 9223372036854775808) = sg := by rw [← hsg, wrap64]; split <;> omega
  have s2 : sg = 0 ∨ sg = -9223372036854775808 := by rw [← hsg]; split <;> simp
  have e2 : bits .and .i64 (b / 8388608) 255 = b / 8388608 % 256 := and8 _
  have e3 : bits .and .i64 b 8388607 = b % 8388608 := and23 _
  unfold widenI
  rw [hsg]
  have hr : (b % 2147483648).toNat / 8388608 = (b / 8388608 % 256).toNat ∧ (b % 2147483648).toNat % 8388608 = (b % 8388608).toNat := by omega
  obtain ⟨r, hrr⟩ : ∃ r : Nat, (b % 2147483648).toNat = r := ⟨_, rfl⟩
  rw [hrr] at hr ⊢
  have hr0 : r ≤ 2139095040 := by omega
  obtain ⟨E, hE⟩ : ∃ E : Int, b / 8388608 % 256 = E := ⟨_, rfl⟩
  obtain ⟨M, hM⟩ : ∃ M : Int, b % 8388608 = M := ⟨_, rfl⟩
  rw [hE] at e2 hr
  rw [hM] at e3 hr
  have E0 : 0 ≤ E := by omega
  have E1 : E ≤ 255 := by omega
  have M0 : 0 ≤ M := by omega
  have M1 : M ≤ 8388607 := by omega
  have hr1 : (r : Int) = E * 8388608 + M := by omega
  clear hr hrr hE hM hsg h
  unfold to64R
  by_cases h1 : r = 2139095040
  · rw [if_pos h1]
    have k1 : E = 255 := by omega
    subst k1
    have k2 := or_sign sg 9218868437227405312 s2 (by omega) (by omega)
    clear s2 hr1
    go_enter Tryd.func90, Tryd.ntmps90
    go_wp2
    go_ret
    refine ⟨congrArg (fun x => Ending.returned (.int .i64 x)) ?_, rfl⟩
    omega
  rw [if_neg h1]
  have k1 : ¬ E = 255 := by omega
  by_cases h2 : r = 0
  · rw [if_pos h2]
    have k2 : E = 0 := by omega
    have k3 : M = 0 := by omega
    subst k2 k3
    clear s2 hr1 k1
    go_enter Tryd.func90, Tryd.ntmps90
    go_wp2
    go_ret
    refine ⟨congrArg (fun x => Ending.returned (.int .i64 x)) ?_, rfl⟩
    omega
  rw [if_neg h2]
  by_cases h3 : r < 8388608
  · rw [if_pos h3]
    have k2 : E = 0 := by omega
    have k3 : ¬ M = 0 := by omega
    subst k2
    obtain ⟨l1, l2, l3⟩ := sub_norm h2 h3
    obtain ⟨T, hT⟩ : ∃ T : Nat, 23 - r.log2 = T := ⟨_, rfl⟩
    have hlow : ∀ i, i < T → r * 2 ^ i < 8388608 := by
      intro i hi
      have a := lt_log2 r
      have hp : 0 < 2 ^ i := Nat.two_pow_pos i
      calc r * 2 ^ i < 2 ^ (r.log2 + 1) * 2 ^ i := Nat.mul_lt_mul_of_pos_right a hp
        _ = 2 ^ (r.log2 + 1 + i) := (Nat.pow_add 2 _ _).symm
        _ ≤ 2 ^ 23 := Nat.pow_le_pow_right (by omega) (by omega)
        _ = 8388608 := by decide
    rw [hT] at l2 l3 ⊢
    have hM : M = (r : Int) := by omega
    have hA : ((874 + r.log2 : Nat) : Int) = 897 - T := by omega
    have HH : Hid ((∀ i, i < T → r * 2 ^ i < 8388608) ∧ 8388608 ≤ r * 2 ^ T ∧ r * 2 ^ T < 16777216 ∧ ((874 + r.log2 : Nat) : Int) = 897 - T ∧ M = (r : Int) ∧ T ≤ 23 ∧ 1 ≤ T) := ⟨hlow, l2, l3, hA, hM, by omega, by omega⟩
    have HS : Hid (sg = 0 ∨ sg = -9223372036854775808) := s2
    obtain ⟨V, hV⟩ : ∃ V : Int, (((874 + r.log2) * 4503599627370496 + (r * 2 ^ T - 8388608) * 536870912 : Nat) : Int) + sg = V := ⟨_, rfl⟩
    have HV : Hid ((((874 + r.log2) * 4503599627370496 + (r * 2 ^ T - 8388608) * 536870912 : Nat) : Int) + sg = V) := hV
    rw [hV]
    clear hV
    clear hlow l1 l2 l3 hA hM hT hr1 s2
    go_enter Tryd.func90, Tryd.ntmps90
    go_wp2
    go_loopg [4, 5] T (fun gk e m wr => ∃ (i : Nat) (ev mv : Int), i ≤ T ∧ gk = T - i ∧ e = .int .i64 ev ∧ m = .int .i64 mv ∧ ev = 1 - i ∧ mv = ((r * 2 ^ i : Nat) : Int) ∧ wr = w)
    case atStart => exact ⟨0, 1, M, by omega, by omega, rfl, rfl, by omega, by rw [HH.out.2.2.2.2.1]; simp, rfl⟩
    case round =>
      obtain ⟨i, ev, mv, hi, rfl, rfl, rfl, hev, hmv, rfl⟩ := hrel
      have hh := HH.out
      by_cases hiT : i < T
      · have k4 : mv < 8388608 := by rw [hmv]; have := hh.1 i hiT; omega
        have k5 : 0 ≤ mv := by omega
        have k6 : -23 ≤ ev := by omega
        have k7 : ev ≤ 1 := by omega
        have HI : Hid (ev = 1 - i ∧ mv = ((r * 2 ^ i : Nat) : Int) ∧ i < T) := ⟨hev, hmv, hiT⟩
        clear hev hmv hi hiT hh
        go_wp2
        go_roundg (T - (i + 1))
        case measure => have := HI.out.2.2; omega
        case rel => exact ⟨i + 1, ev - 1, mv * 2, by have := HI.out.2.2; omega, rfl, rfl, rfl, by have := HI.out.1; omega, by rw [HI.out.2.1, Nat.pow_succ, ← Nat.mul_assoc, Int.natCast_mul]; rfl, rfl⟩
      · have hi' : i = T := by omega
        subst hi'
        have k4 : ¬ mv < 8388608 := by rw [hmv]; have := hh.2.1; omega
        have k5 : mv < 16777216 := by rw [hmv]; have := hh.2.2.1; omega
        have k6 : -23 ≤ ev := by omega
        have k7 : ev ≤ 1 := by omega
        obtain ⟨A, hAA⟩ : ∃ A : Int, (ev + 896) * 4503599627370496 = A := ⟨_, rfl⟩
        have a0 : 0 ≤ A := by omega
        have a1 : A ≤ 4039728865751334912 := by omega
        have k8 := or_sign sg A HS.out (by omega) (by omega)
        have k9 := or_low (sg + A) ((mv - 8388608) * 536870912) (by have := HS.out; omega) (by have := HS.out; omega) (by omega) (by omega) (by have := HS.out; omega)
        have hres : sg + A + (mv - 8388608) * 536870912 = V := by
          have q0 := HV.out
          have q1 := hh.2.2.2.1
          have q2 := hh.2.1
          omega
        have HRES : Hid (sg + A + (mv - 8388608) * 536870912 = V) := hres
        clear hres hmv hev hh HH HS hi HV
        go_wp2
        go_ret
        exact ⟨congrArg (fun x => Ending.returned (.int .i64 x)) HRES.out, rfl⟩
  · rw [if_neg h3]
    have k2 : ¬ E = 0 := by omega
    have hA : (r / 8388608 : Nat) = E.toNat := by omega
    have hB : (r % 8388608 : Nat) = M.toNat := by omega
    obtain ⟨A, hAA⟩ : ∃ A : Int, (E + 896) * 4503599627370496 = A := ⟨_, rfl⟩
    have a0 : 0 ≤ A := by omega
    have a1 : A ≤ 5183643171103440896 := by omega
    have k8 := or_sign sg A s2 (by omega) (by omega)
    have k9 := or_low (sg + A) (M * 536870912) (by omega) (by omega) (by omega) (by omega) (by omega)
    have hres : (((r / 8388608 + 896) * 4503599627370496 + r % 8388608 * 536870912 : Nat) : Int) + sg = sg + A + M * 536870912 := by omega
    rw [hres]
    clear hres hA hB s2 hr1 h1 h2 h3 hr0
    go_enter Tryd.func90, Tryd.ntmps90
    go_wp2
    go_ret
    exact ⟨rfl, rfl⟩

theorem widenm_o (p : Nat) (b c z : Int) (w : World) (hq : Cm w p c z) (hc : Sq c) (hz : Sq z) :
    Calls Tryd.prog 63 #[.pointer (some ⟨p, 0, none⟩), .int .i64 b] w fun e w' => e = .returned (.tuple #[.int .i64 (widenO b).e, .int .i64 (widenO b).n]) ∧ Cm w' p (c + (widenO b).dc) (z + (widenO b).dz) ∧ Chg (· = p) w w' := by
  obtain ⟨z0, z1⟩ := hz
  have h1 : w.cell? ⟨p, 1, none⟩ = some (.int .i64 z) := hq.cell 1
  have g1 := hq.frozen 1
  have HQ : Hid (Cm w p c z) := hq
  clear hq hc
  unfold widenO
  by_cases r1 : b < 0
  · simp only [if_pos (Or.inl r1 : b < 0 ∨ 4294967295 < b), Int.add_zero]
    go_enter Tryd.func63, Tryd.ntmps63
    go_wp2
    go_ret2
    exact ⟨rfl, HQ.out, Chg.refl _ _⟩
  by_cases r2 : 4294967295 < b
  · simp only [if_pos (Or.inr r2 : b < 0 ∨ 4294967295 < b), Int.add_zero]
    go_enter Tryd.func63, Tryd.ntmps63
    go_wp2
    go_ret2
    exact ⟨rfl, HQ.out, Chg.refl _ _⟩
  simp only [if_neg (show ¬ (b < 0 ∨ 4294967295 < b) by omega)]
  by_cases hn : 2139095040 < b % 2147483648
  · simp only [if_pos hn, Int.add_zero]
    have dn : decide (2139095040 < b % 2147483648) = true := decide_eq_true hn
    clear hn
    go_enter Tryd.func63, Tryd.ntmps63
    go_wp2_with (go_at_call 77; refine (isNaN32_any b _).mono ?_; rintro e w' ⟨rfl, h2⟩; rw [h2, dn]; clear h2)
    go_ret2
    exact ⟨rfl, HQ.out.setCell 1 _, Chg.set1 w p 1 _⟩
  simp only [if_neg hn, Int.add_zero]
  have dn : decide (2139095040 < b % 2147483648) = false := decide_eq_false hn
  have R := fun w => to64_any b (by omega) (by omega) (by omega) w
  generalize widenI b = v at R ⊢
  have HR : Hid (∀ w, _) := R
  clear R hn
  go_enter Tryd.func63, Tryd.ntmps63
  go_wp2_with (first
    | (go_at_call 77; refine (isNaN32_any b _).mono ?_; rintro e w' ⟨rfl, h2⟩; rw [h2, dn]; clear h2)
    | (go_at_call 90; refine (HR.out _).mono ?_; rintro e w' ⟨rfl, hw⟩; rw [hw]; clear hw))
  go_ret2
  exact ⟨rfl, HQ.out, Chg.refl _ _⟩
end Go.Proofs.Qxb6500378aDoor
