/- The model's converter: Round53, Scale. -/
import Derived.Test.Qxb6500378aDoorMoLoop
namespace Go.Proofs.Qxb6500378aDoor
set_option linter.unusedVariables false
set_option linter.unusedSimpArgs false
set_option maxHeartbeats 2000000
open Go.RowKit Go.Qu Ieee

theorem nearest_zero (m : Int) (w : World) : Calls Tryd.prog 95 #[.int .i64 m, .int .i64 0] w fun e w' => e = .returned (.int .i64 m) ∧ w' = w := by
  go_enter Tryd.func95, Tryd.ntmps95
  go_wp2
  go_ret
  exact ⟨rfl, rfl⟩

def t53 (P : Nat) : Nat := if P < 9007199254740992 then 0 else P.log2 - 52
theorem t53_le {P : Nat} (h : P ≤ 4611686018427387904) : t53 P ≤ 10 := by
  unfold t53
  split
  · omega
  · have h0 : P ≠ 0 := by omega
    have : P.log2 < 63 := (Nat.log2_lt h0).2 (by omega)
    omega
theorem t53_lo {P i : Nat} (hi : i < t53 P) : 9007199254740992 ≤ P / 2 ^ i := by
  unfold t53 at hi
  split at hi
  · omega
  · have h0 : P ≠ 0 := by omega
    have a := Nat.log2_self_le h0
    rw [Nat.le_div_iff_mul_le (Nat.two_pow_pos i)]
    calc 9007199254740992 * 2 ^ i = 2 ^ 53 * 2 ^ i := rfl
      _ = 2 ^ (53 + i) := (Nat.pow_add 2 _ _).symm
      _ ≤ 2 ^ P.log2 := Nat.pow_le_pow_right (by omega) (by omega)
      _ ≤ P := a
theorem t53_hi (P : Nat) : P / 2 ^ t53 P < 9007199254740992 := by
  unfold t53
  split
  · simpa using (by assumption)
  · rename_i h
    have a := lt_log2 P
    have h0 : P ≠ 0 := by omega
    have l : 53 ≤ P.log2 := (Nat.le_log2 h0).2 (by omega)
    rw [Nat.div_lt_iff_lt_mul (Nat.two_pow_pos _)]
    calc P < 2 ^ (P.log2 + 1) := a
      _ = 2 ^ (53 + (P.log2 - 52)) := by rw [show P.log2 + 1 = 53 + (P.log2 - 52) by omega]
      _ = 2 ^ 53 * 2 ^ (P.log2 - 52) := Nat.pow_add 2 _ _
      _ = 9007199254740992 * 2 ^ (P.log2 - 52) := rfl
theorem nearest_any2 (m sh : Nat) (w : World) (hm : m ≤ 4611686018427387904) (h1 : 1 ≤ sh) (h2 : sh ≤ 62) : Calls Tryd.prog 95 #[.int .i64 m, .int .i64 sh] w fun e w' => e = .returned (.int .i64 (nearN m sh)) ∧ w' = w := by
  obtain ⟨G, hG⟩ : ∃ G : Nat, 2 ^ (sh - 1) = G := ⟨_, rfl⟩
  have hG2 : 2 ^ sh = 2 * G := by rw [← hG, Nat.mul_comm, ← Nat.pow_succ, Nat.succ_eq_add_one, Nat.sub_add_cancel h1]
  have hGp : 0 < G := by rw [← hG]; exact Nat.two_pow_pos _
  have hGm : G ≤ 2305843009213693952 := by rw [← hG]; exact Nat.pow_le_pow_right (by omega) (by omega : sh - 1 ≤ 61)
  have hd := Nat.div_add_mod m (2 * G)
  have hr := Nat.mod_lt m (by omega : 0 < 2 * G)
  have eN : nearN m sh = m / (2 * G) + (decide (2 * G < 2 * (m % (2 * G))) || (2 * G == 2 * (m % (2 * G)) && m / (2 * G) % 2 == 1)).toNat := by unfold nearN; rw [hG2]
  rw [eN]
  generalize hq : m / (2 * G) = q at *
  generalize hrr : m % (2 * G) = r at *
  have hqm : q ≤ m := by rw [← hq]; exact Nat.div_le_self _ _
  have c1 : (m : Int) / 2 ^ sh = (q : Int) := by
    have : ((2 : Int) ^ sh) = ((2 * G : Nat) : Int) := by rw [← hG2]; exact_mod_cast rfl
    rw [this, ← hq]; rfl
  have c2 : (2 : Int) ^ (sh - 1) = (G : Int) := by rw [← hG]; exact_mod_cast rfl
  have c3 : (q : Int) * 2 ^ sh = (m : Int) - r := by
    have : ((2 : Int) ^ sh) = ((2 * G : Nat) : Int) := by rw [← hG2]; exact_mod_cast rfl
    rw [this, Int.mul_comm, ← Int.natCast_mul]; omega
  have c4 : bits .and .i64 (q : Int) 1 = (q : Int) % 2 := and1 q
  have k0 : ¬ (sh : Int) = 0 := by omega
  have k1 : ¬ (62 : Int) < sh := by omega
  have k2 : (0 : Int) ≤ sh := by omega
  obtain ⟨N, hN⟩ : ∃ N : Int, N = ((q + (decide (2 * G < 2 * r) || (2 * G == 2 * r && q % 2 == 1)).toNat : Nat) : Int) := ⟨_, rfl⟩
  have hup : (G < r ∨ (G = r ∧ q % 2 = 1)) → N = q + 1 := by
    intro h
    rw [hN]
    have : (decide (2 * G < 2 * r) || (2 * G == 2 * r && q % 2 == 1)) = true := by
      rcases h with h | ⟨h, h'⟩
      · rw [decide_eq_true (by omega)]; rfl
      · rw [h, h']; simp
    rw [this]; rfl
  have hno : ¬ (G < r ∨ (G = r ∧ q % 2 = 1)) → N = q := by
    intro h
    rw [hN]
    have : (decide (2 * G < 2 * r) || (2 * G == 2 * r && q % 2 == 1)) = false := by
      rw [decide_eq_false (by omega), Bool.false_or, Bool.and_eq_false_iff]
      by_cases h1 : G = r
      · exact .inr (by simp; omega)
      · exact .inl (by simp; omega)
    rw [this]; rfl
  rw [← hN]
  have HU : Hid ((G < r ∨ (G = r ∧ q % 2 = 1)) → N = q + 1) := hup
  have HO : Hid (¬ (G < r ∨ (G = r ∧ q % 2 = 1)) → N = q) := hno
  clear hG hG2 hd hq hrr eN hN hup hno
  go_enter Tryd.func95, Tryd.ntmps95
  go_wp2
  all_goals go_ret
  all_goals simp only [beq_iff_eq, beq_eq_false_iff_ne] at *
  all_goals first | rw [HU.out (by omega)] | rw [HO.out (by omega)]
  all_goals exact ⟨rfl, trivial⟩

theorem r53_t {P : Nat} : r53 P = if t53 P = 0 then P else nearN P (t53 P) * 2 ^ t53 P := by
  unfold r53 t53
  by_cases h : P < 9007199254740992
  · rw [if_pos h, if_pos h, if_pos rfl]
  · have h0 : P ≠ 0 := by omega
    have l : 53 ≤ P.log2 := (Nat.le_log2 h0).2 (by omega)
    rw [if_neg h, if_neg h, if_neg (by omega)]

theorem round53_any (x : Int) (hx : x.natAbs ≤ 4611686018427387904) (w : World) : Calls Tryd.prog 91 #[.int .i64 x] w fun e w' => e = .returned (.int .i64 (if x < 0 then -(r53 x.natAbs : Int) else r53 x.natAbs)) ∧ w' = w := by
  obtain ⟨P, hP⟩ : ∃ P : Nat, x.natAbs = P := ⟨_, rfl⟩
  rw [hP] at hx ⊢
  obtain ⟨T, hT⟩ : ∃ T : Nat, t53 P = T := ⟨_, rfl⟩
  have T10 := t53_le hx
  have Tlo := fun i => @t53_lo P i
  have Thi := t53_hi P
  have rP := @r53_t P
  have rE := r53_err hx
  rw [hT] at T10 Thi rP
  simp only [hT] at Tlo
  obtain ⟨R, hR⟩ : ∃ R : Nat, r53 P = R := ⟨_, rfl⟩
  rw [hR] at rP rE ⊢
  obtain ⟨V, hV⟩ : ∃ V : Int, (if x < 0 then -(R : Int) else R) = V := ⟨_, rfl⟩
  rw [hV]
  have HV : Hid ((if x < 0 then -(R : Int) else R) = V) := hV
  have HP : Hid (x.natAbs = P) := hP
  have HT : Hid (T ≤ 10 ∧ (∀ i, i < T → 9007199254740992 ≤ P / 2 ^ i) ∧ P / 2 ^ T < 9007199254740992 ∧ R = (if T = 0 then P else nearN P T * 2 ^ T) ∧ R ≤ P + 512) := ⟨T10, Tlo, Thi, rP, rE.1⟩
  obtain ⟨A, hA⟩ : ∃ A : Int, (P : Int) = A := ⟨_, rfl⟩
  have HA : Hid ((P : Int) = A) := hA
  have A0 : 0 ≤ A := by omega
  have A1 : A ≤ 4611686018427387904 := by omega
  have hxA : x = A ∨ x = -A := by omega
  clear hP hV T10 Tlo Thi rP rE hT hR hA
  rcases Int.lt_or_le x 0 with hneg | hpos
  · have hx2 : -x = A := by omega
    have hx3 : -4611686018427387904 ≤ x := by omega
    clear hxA hx
    go_enter Tryd.func91, Tryd.ntmps91
    go_wp2
    go_loopg [4] T (fun gk s wr => ∃ (i : Nat) (v : Int), i ≤ T ∧ gk = T - i ∧ s = .int .i64 v ∧ v = i ∧ wr = w)
    case atStart => exact ⟨0, 0, by omega, by omega, rfl, by omega, rfl⟩
    case round =>
      obtain ⟨i, v, hi, rfl, rfl, hv, rfl⟩ := hrel
      have hh := HT.out
      have v0 : 0 ≤ v := by omega
      have v1 : v ≤ 10 := by omega
      have hpw : ∀ i : Nat, ((P / 2 ^ i : Nat) : Int) = A / 2 ^ i := by
        intro i; rw [Int.natCast_ediv, Int.natCast_pow, HA.out]; rfl
      have ev : v.toNat = i := by omega
      by_cases hiT : i < T
      · have k1 : 9007199254740992 ≤ A / 2 ^ v.toNat := by
          rw [ev, ← hpw i]; have := hh.2.1 i hiT; omega
        have HI : Hid (v = i ∧ i < T) := ⟨hv, hiT⟩
        clear hv hiT hh hi hpw ev
        go_wp2
        go_roundg (T - (i + 1))
        case measure => have := HI.out.2; omega
        case rel => exact ⟨i + 1, v + 1, by have := HI.out.2; omega, rfl, rfl, by have := HI.out.1; omega, rfl⟩
      · have hi' : i = T := by omega
        subst hi'
        have k1 : ¬ 9007199254740992 ≤ A / 2 ^ v.toNat := by
          rw [ev, ← hpw i]; have := hh.2.2.1; omega
        by_cases hz : i = 0
        · subst hz
          have hR : (R : Int) = A := by rw [hh.2.2.2.1, if_pos rfl]; exact HA.out
          have hv0 : v = 0 := by omega
          subst hv0
          have HR : Hid ((R : Int) = A) := hR
          have k2 : ¬ 9007199254740992 ≤ A := by simpa using k1
          clear k1 hR hv hh hpw ev hi hiT
          go_wp2_with (go_at_call 95; refine (nearest_zero A _).mono ?_; rintro e w' ⟨rfl, hw⟩; rw [hw]; clear hw)
          go_ret
          have h1 := HV.out
          have h2 := HR.out
          rw [if_pos hneg] at h1
          exact ⟨congrArg (fun x => Ending.returned (.int .i64 x)) (by omega), rfl⟩
        · have hR : (R : Int) = (nearN P i : Int) * 2 ^ v.toNat := by rw [hh.2.2.2.1, if_neg hz, Int.natCast_mul, Int.natCast_pow, ev]; rfl
          have hA := HA.out
          have NR := nearest_any2 P i wr (by omega) (by omega) (by omega)
          rw [HA.out, ← hv] at NR
          have r1 := hh.2.2.2.2
          generalize (nearN P i : Int) = n at hR NR
          have HR : Hid (Calls _ _ _ _ _) := NR
          have n1 : n * 2 ^ v.toNat = (R : Int) := hR.symm
          have n2 : (R : Int) ≤ 4611686018427388416 := by omega
          clear hR hv hh hpw ev hi hiT hz NR r1
          go_wp2_with (go_at_call 95; refine Calls.mono HR.out ?_; rintro e w' ⟨rfl, hw⟩; rw [hw]; clear hw)
          go_ret
          have h1 := HV.out
          rw [if_pos hneg] at h1
          exact ⟨congrArg (fun x => Ending.returned (.int .i64 x)) (by omega), rfl⟩
  · have hx2 : x = A := by omega
    subst hx2
    have hx3 : ¬ x < 0 := by omega
    clear hxA hx
    go_enter Tryd.func91, Tryd.ntmps91
    go_wp2
    go_loopg [4] T (fun gk s wr => ∃ (i : Nat) (v : Int), i ≤ T ∧ gk = T - i ∧ s = .int .i64 v ∧ v = i ∧ wr = w)
    case atStart => exact ⟨0, 0, by omega, by omega, rfl, by omega, rfl⟩
    case round =>
      obtain ⟨i, v, hi, rfl, rfl, hv, rfl⟩ := hrel
      have hh := HT.out
      have v0 : 0 ≤ v := by omega
      have v1 : v ≤ 10 := by omega
      have hpw : ∀ i : Nat, ((P / 2 ^ i : Nat) : Int) = x / 2 ^ i := by
        intro i; rw [Int.natCast_ediv, Int.natCast_pow, HA.out]; rfl
      have ev : v.toNat = i := by omega
      by_cases hiT : i < T
      · have k1 : 9007199254740992 ≤ x / 2 ^ v.toNat := by
          rw [ev, ← hpw i]; have := hh.2.1 i hiT; omega
        have HI : Hid (v = i ∧ i < T) := ⟨hv, hiT⟩
        clear hv hiT hh hi hpw ev
        go_wp2
        go_roundg (T - (i + 1))
        case measure => have := HI.out.2; omega
        case rel => exact ⟨i + 1, v + 1, by have := HI.out.2; omega, rfl, rfl, by have := HI.out.1; omega, rfl⟩
      · have hi' : i = T := by omega
        subst hi'
        have k1 : ¬ 9007199254740992 ≤ x / 2 ^ v.toNat := by
          rw [ev, ← hpw i]; have := hh.2.2.1; omega
        by_cases hz : i = 0
        · subst hz
          have hR : (R : Int) = x := by rw [hh.2.2.2.1, if_pos rfl]; exact HA.out
          have hv0 : v = 0 := by omega
          subst hv0
          have HR : Hid ((R : Int) = x) := hR
          have k2 : ¬ 9007199254740992 ≤ x := by simpa using k1
          clear k1 hR hv hh hpw ev hi hiT
          go_wp2_with (go_at_call 95; refine (nearest_zero x _).mono ?_; rintro e w' ⟨rfl, hw⟩; rw [hw]; clear hw)
          go_ret
          have h1 := HV.out
          have h2 := HR.out
          rw [if_neg (by omega)] at h1
          exact ⟨congrArg (fun x => Ending.returned (.int .i64 x)) (by omega), rfl⟩
        · have hR : (R : Int) = (nearN P i : Int) * 2 ^ v.toNat := by rw [hh.2.2.2.1, if_neg hz, Int.natCast_mul, Int.natCast_pow, ev]; rfl
          have hA := HA.out
          have NR := nearest_any2 P i wr (by omega) (by omega) (by omega)
          rw [HA.out, ← hv] at NR
          have r1 := hh.2.2.2.2
          generalize (nearN P i : Int) = n at hR NR
          have HR : Hid (Calls _ _ _ _ _) := NR
          have n1 : n * 2 ^ v.toNat = (R : Int) := hR.symm
          have n2 : (R : Int) ≤ 4611686018427388416 := by omega
          clear hR hv hh hpw ev hi hiT hz NR r1
          go_wp2_with (go_at_call 95; refine Calls.mono HR.out ?_; rintro e w' ⟨rfl, hw⟩; rw [hw]; clear hw)
          go_ret
          have h1 := HV.out
          rw [if_neg (by omega)] at h1
          exact ⟨congrArg (fun x => Ending.returned (.int .i64 x)) (by omega), rfl⟩

theorem scalem_o (p : Nat) (a b c z : Int) (w : World) (hq : Cm w p c z) :
    Calls Tryd.prog 64 #[.pointer (some ⟨p, 0, none⟩), .int .i64 a, .int .i64 b] w fun e w' => e = .returned (.tuple #[.int .i64 (scaleO a b).e, .int .i64 (scaleO a b).n, .int .i64 (scaleO a b).k]) ∧ Cm w' p c z ∧ Chg (· = p) w w' := by
  have HQ : Hid (Cm w p c z) := hq
  clear hq
  unfold scaleO
  by_cases hr : a < -2147483648 ∨ 2147483648 < a ∨ b < -2147483648 ∨ 2147483648 < b
  · simp only [if_pos hr]
    have HR : Hid _ := hr
    clear hr
    go_enter Tryd.func64, Tryd.ntmps64
    go_wp2_with fail
    all_goals (try go_ret3)
    all_goals first
      | exact ⟨rfl, HQ.out, Chg.refl _ _⟩
      | (exfalso; have := HR.out; omega)
  · simp only [if_neg hr]
    have hp := abs_mul_le (a := a) (b := b) (by omega) (by omega)
    have he := headI_err (a := a) (b := b) (by omega) (by omega)
    have R := fun w => round53_any (a * b) hp w
    have k1 : ¬ a < -2147483648 := by omega
    have k2 : ¬ 2147483648 < a := by omega
    have k3 : ¬ b < -2147483648 := by omega
    have k4 : ¬ 2147483648 < b := by omega
    have m1 : wrap64 (a * b) = a * b := by rw [wrap64]; omega
    change ∀ w, Calls Tryd.prog 91 #[.int .i64 (a * b)] w fun e w' => e = .returned (.int .i64 (headI a b)) ∧ w' = w at R
    have m2 : wrap64 (a * b - headI a b) = a * b - headI a b := by rw [wrap64]; omega
    generalize headI a b = h at R m2 ⊢
    have HR : Hid (∀ w, _) := R
    have HM : Hid (wrap64 (a * b - h) = a * b - h) := m2
    clear R hr hp he m2
    go_enter Tryd.func64, Tryd.ntmps64
    go_wp2_with (go_at_call 91; refine (HR.out _).mono ?_; rintro e w' ⟨rfl, hw⟩; rw [hw]; clear hw)
    go_ret3
    exact ⟨congrArg (fun x => Ending.returned (.tuple #[.int .i64 0, .int .i64 h, .int .i64 x])) HM.out, HQ.out, Chg.refl _ _⟩
end Go.Proofs.Qxb6500378aDoor
