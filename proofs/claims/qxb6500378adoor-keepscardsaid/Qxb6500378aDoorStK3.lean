/- kept: true behind every step. -/
import Derived.Test.Qxb6500378aDoorStK2
namespace Go.Proofs.Qxb6500378aDoor
set_option linter.unusedVariables false
set_option linter.unusedSimpArgs false
set_option maxHeartbeats 1000000
open Go.RowKit Go.Qu Ieee

theorem pow_pos_int (k : Nat) : (1 : Int) ≤ 2 ^ k := by
  have h := Nat.two_pow_pos k
  have e : ((2 ^ k : Nat) : Int) = 2 ^ k := by simp
  omega
theorem pow_le_int {k m : Nat} (h : k ≤ m) : (2 : Int) ^ k ≤ 2 ^ m := by
  have h := Nat.pow_le_pow_right (by omega : 0 < 2) h
  have e : ((2 ^ k : Nat) : Int) = 2 ^ k := by simp
  have e' : ((2 ^ m : Nat) : Int) = 2 ^ m := by simp
  omega
theorem mul_bounds {a G B H : Int} (a0 : -B ≤ a) (a1 : a ≤ B) (g0 : 0 ≤ G) (g1 : G ≤ H) (b0 : 0 ≤ B) : -(B * H) ≤ a * G ∧ a * G ≤ B * H := by
  have h1 : a * G ≤ B * G := Int.mul_le_mul_of_nonneg_right a1 g0
  have h2 : B * G ≤ B * H := Int.mul_le_mul_of_nonneg_left g1 b0
  have h3 : -B * G ≤ a * G := Int.mul_le_mul_of_nonneg_right a0 g0
  have h4 : -B * G = -(B * G) := Int.neg_mul _ _
  omega

theorem kept_any (p : Nat) (kd a b cc : Int) (s t : ByteArray) (c z : Int) (w : World) (ha : I64 a) (hb : I64 b) (hq : Cv w p (c + (stepO kd a b c z).dc) (z + (stepO kd a b c z).dz))
    (c0 : 0 ≤ c) (c1 : c ≤ 1152921504606846976) (z0 : 0 ≤ z) (z1 : z ≤ 1152921504606846976) :
    Calls Tryd.prog 35 #[.pointer (some ⟨p, 0, none⟩), opV kd a b cc s t, ansV (stepO kd a b c z).e (stepO kd a b c z).n (stepO kd a b c z).k (stepS kd c z), .int .i64 c, .int .i64 z] w fun e w' => e = .returned (.bool true) ∧ Chg (fun _ => False) w w' := by
  have hE := stepO_e kd a b c z
  obtain ⟨g1, g2, g3, g4, g5⟩ := stepO_counts kd a b c z
  by_cases he : owesI kd a b = 0
  · have hz : (stepO kd a b c z).dz = 0 := by
      have : ¬ (stepO kd a b c z).dz = 1 := fun h => by have := g4.2 h; omega
      omega
    rw [hE, he]
    rw [hz, Int.add_zero] at hq
    by_cases k1 : kd = 1
    · subst k1
      have h1 : ¬ (b < 0 ∨ 3 < b) := fun h => by unfold owesI at he; simp [h] at he
      have h2 : ¬ 9218868437227405312 < mg a := fun h => by unfold owesI at he; simp [h1, h] at he
      have eo : stepO 1 a b c z = ⟨0, (roundI a b (-2147483648) 2147483647).1, 0, (roundI a b (-2147483648) 2147483647).2.toNat, 0⟩ := by
        show r32O a b = _; unfold r32O; rw [if_neg h1, if_neg h2]
      obtain ⟨r1, r2, r3⟩ := roundI_bounds a b (-2147483648) 2147483647 (by decide)
      rw [eo] at hq g1 g3 ⊢
      refine kept_1 p a b cc s t c z _ w hq he c0 c1 z0 z1 g1 (by simpa using g3) _ r1 r2 (fun h => r3 ?_) ha h2
      cases hd : (roundI a b (-2147483648) 2147483647).2
      · rw [hd] at h; simp at h
      · rfl
    by_cases k2 : kd = 2
    · subst k2
      have h1 : ¬ (b < 0 ∨ 3 < b) := fun h => by unfold owesI at he; simp [h] at he
      have h2 : ¬ 9218868437227405312 < mg a := fun h => by unfold owesI at he; simp [h1, h] at he
      have eo : stepO 2 a b c z = ⟨0, (roundI a b (-32768) 32767).1, 0, (roundI a b (-32768) 32767).2.toNat, 0⟩ := by
        show r16O a b = _; unfold r16O; rw [if_neg h1, if_neg h2]
      obtain ⟨r1, r2, r3⟩ := roundI_bounds a b (-32768) 32767 (by decide)
      rw [eo] at hq g1 g3 ⊢
      refine kept_2 p a b cc s t c z _ w hq he c0 c1 z0 z1 g1 (by simpa using g3) _ _ _ rfl (fun h => r3 ?_) (fun h => ⟨roundI_16 a b ?_, r1, r2⟩) ha h2 (by omega) (by omega)
      · cases hd : (roundI a b (-32768) 32767).2
        · rw [hd] at h; simp at h
        · rfl
      · cases hd : (roundI a b (-32768) 32767).2
        · rfl
        · rw [hd] at h; simp at h
    by_cases k3 : kd = 3
    · subst k3
      have h2 : ¬ 9218868437227405312 < mg a := fun h => by unfold owesI at he; simp [h] at he
      have eo : stepO 3 a b c z = ⟨0, (narrowM a).1, 0, (narrowM a).2.toNat, 0⟩ := by
        show narrowO a = _; unfold narrowO; rw [if_neg h2]
      obtain ⟨r1, r2, r3⟩ := narrow_range a
      obtain ⟨b1, b2, b3⟩ := back_again _ r1 r2 r3
      have hw : widenO (narrowM a).1 = ⟨0, widenI (narrowM a).1, 0, 0, 0⟩ := by unfold widenO; rw [if_neg (by omega), if_neg (by omega)]
      have hr : narrowO (widenI (narrowM a).1) = ⟨0, (narrowM a).1, 0, 0, 0⟩ := by unfold narrowO; rw [if_neg (by omega), b1, b2]; rfl
      rw [eo] at hq g1 g3 ⊢
      exact kept_3 p a b cc s t c z _ w hq he c0 c1 z0 z1 g1 (by simpa using g3) _ _ (widenI_facts _ r1 r2 (by omega)).1 hw hr
    by_cases k4 : kd = 4
    · subst k4
      have h1 : ¬ (a < 0 ∨ 4294967295 < a) := fun h => by unfold owesI at he; simp [h] at he
      have h2 : ¬ 2139095040 < a % 2147483648 := fun h => by unfold owesI at he; simp [h1, h] at he
      have eo : stepO 4 a b c z = ⟨0, widenI a, 0, 0, 0⟩ := by
        show widenO a = _; unfold widenO; rw [if_neg h1, if_neg h2]
      have hI := (widenI_facts a (by omega) (by omega) (by omega)).1
      rw [eo] at hq ⊢
      have hq' : Cv w p c z := by simpa using hq
      by_cases hi : a % 2147483648 = 2139095040
      · obtain ⟨b1, b2, b3⟩ := back_inf a (by omega) (by omega) hi
        have hr : narrowO (widenI a) = ⟨0, a - 1, 0, 1, 0⟩ := by unfold narrowO; rw [if_neg (by omega), b1, b2]; rfl
        exact kept_4 p a b cc s t c z w hq' he c0 c1 z0 z1 _ _ _ hI hr (by omega) (by omega) (by omega) (by omega) (fun _ => ⟨rfl, rfl⟩) (fun h => absurd hi h)
      · obtain ⟨b1, b2, b3⟩ := back_again a (by omega) (by omega) (by omega)
        have hr : narrowO (widenI a) = ⟨0, a, 0, 0, 0⟩ := by unfold narrowO; rw [if_neg (by omega), b1, b2]; rfl
        exact kept_4 p a b cc s t c z w hq' he c0 c1 z0 z1 _ _ _ hI hr (by omega) (by omega) (by omega) (by omega) (fun h => absurd h hi) (fun _ => ⟨rfl, rfl⟩)
    by_cases k5 : kd = 5
    · subst k5
      have h1 : ¬ (a < -2147483648 ∨ 2147483648 < a ∨ b < -2147483648 ∨ 2147483648 < b) := fun h => by unfold owesI at he; simp [h] at he
      have eo : stepO 5 a b c z = ⟨0, headI a b, a * b - headI a b, 0, 0⟩ := by
        show scaleO a b = _; unfold scaleO; rw [if_neg h1]
      have hr := headI_err (a := a) (b := b) (by omega) (by omega)
      have hp := abs_mul_le (a := a) (b := b) (by omega) (by omega)
      rw [eo] at hq ⊢
      have hq' : Cv w p c z := by simpa using hq
      exact kept_5 p a b cc s t c z w hq' he c0 c1 z0 z1 (headI a b) (a * b - headI a b) (a * b) rfl (by omega) (by omega) (by omega) (by omega) (by omega)
    by_cases k6 : kd = 6
    · subst k6
      have h1 : ¬ (a < -2147483648 ∨ 2147483647 < a) := fun h => by unfold owesI at he; simp [h] at he
      have eo : stepO 6 a b c z = ⟨0, shiftI a b, 0, 0, 0⟩ := by
        show shiftO a b = _; unfold shiftO; rw [if_neg h1]
      rw [eo] at hq ⊢
      have hq' : Cv w p c z := by simpa using hq
      show Calls Tryd.prog 35 #[.pointer (some ⟨p, 0, none⟩), opV 6 a b cc s t, ansV 0 (shiftI a b) 0 ⟨#[]⟩, .int .i64 c, .int .i64 z] w _
      unfold shiftI
      by_cases s1 : 32 ≤ b
      · rw [if_pos s1]; exact kept_6e p a b cc s t c z w hq' he c0 c1 z0 z1 s1
      rw [if_neg s1]
      by_cases s2 : 0 ≤ b
      · rw [if_pos s2]
        have e31 : (2 : Int) ^ 31 = 2147483648 := by decide
        have q1 := pow_le_int (show b.toNat ≤ 31 by omega)
        have q0 := pow_pos_int b.toNat
        obtain ⟨p1, p2⟩ := mul_bounds (a := a) (G := 2 ^ b.toNat) (B := 2147483648) (H := 2147483648) (by omega) (by omega) (by omega) (by omega) (by omega)
        obtain ⟨P, hP⟩ : ∃ P, a * 2 ^ b.toNat = P := ⟨_, rfl⟩
        rw [hP] at p1 p2 ⊢
        exact kept_6a p a b cc s t c z w hq' he c0 c1 z0 z1 _ P s2 (by omega) hP (by omega) (by omega) (by rw [wrap32]; omega) (by rw [wrap32]; omega) (by rw [wrap32]; omega)
      rw [if_neg s2]
      by_cases s3 : b ≤ -32
      · rw [if_pos s3]
        by_cases s4 : a < 0
        · rw [if_pos s4]; exact kept_6c p a b cc s t c z w hq' he c0 c1 z0 z1 s3 s4
        · rw [if_neg s4]; exact kept_6d p a b cc s t c z w hq' he c0 c1 z0 z1 s3 (by omega)
      rw [if_neg s3]
      have e31 : (2 : Int) ^ 31 = 2147483648 := by decide
      have q1 := pow_le_int (show (-b).toNat ≤ 31 by omega)
      have q0 := pow_pos_int (-b).toNat
      have d1 := Int.emod_add_mul_ediv a (2 ^ (-b).toNat)
      have d2 := Int.emod_nonneg a (b := 2 ^ (-b).toNat) (by omega)
      have d3 := Int.emod_lt_of_pos a (b := 2 ^ (-b).toNat) (by omega)
      have d4 : a / 2 ^ (-b).toNat * 2 ^ (-b).toNat = 2 ^ (-b).toNat * (a / 2 ^ (-b).toNat) := Int.mul_comm _ _
      exact kept_6b p a b cc s t c z w hq' he c0 c1 z0 z1 _ _ _ (by omega) (by omega) rfl rfl (by omega) (by omega) (by omega) (by omega) (by omega) (by omega)
    by_cases k9 : kd = 9
    · subst k9
      rw [show stepO 9 a b c z = ⟨0, c, 0, 0, 0⟩ from rfl] at hq ⊢
      exact kept_9 p a b cc s t c z w (by simpa using hq) he c0 c1 z0 z1
    by_cases k10 : kd = 10
    · subst k10
      rw [show stepO 10 a b c z = ⟨0, z, 0, 0, 0⟩ from rfl] at hq ⊢
      exact kept_10 p a b cc s t c z w (by simpa using hq) he c0 c1 z0 z1
    have eo : (stepO kd a b c z).k = 0 ∧ (stepO kd a b c z).dc = 0 := by
      unfold stepO; rw [if_neg k1, if_neg k2, if_neg k3, if_neg k4, if_neg k5, if_neg k6, if_neg k9, if_neg k10]; split <;> exact ⟨rfl, rfl⟩
    rw [eo.1]
    rw [eo.2, Int.add_zero] at hq
    exact kept_0 p kd a b cc s t c z w hq he c0 c1 z0 z1 _ _ k1 k2 k4 k3 k5 k6 k9 k10
  · have hne : (stepO kd a b c z).e ≠ 0 := by omega
    obtain ⟨x1, x2, x3⟩ := g5 hne
    have hk : kd ≠ 11 := fun h => he (by subst h; rfl)
    rw [x2, x3, show stepS kd c z = ⟨#[]⟩ by unfold stepS; rw [if_neg hk]]
    rw [x1, Int.add_zero] at hq
    exact kept_err p kd a b cc s t _ c z _ w hq hE.symm hne c0 c1 z0 z1 g2 (by omega) g4
end Go.Proofs.Qxb6500378aDoor
