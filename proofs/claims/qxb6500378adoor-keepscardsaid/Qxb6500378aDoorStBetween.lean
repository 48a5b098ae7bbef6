/- between: true of every sample that is a number. -/
import Derived.Test.Qxb6500378aDoorStKept
namespace Go.Proofs.Qxb6500378aDoor
set_option linter.unusedVariables false
set_option linter.unusedSimpArgs false
set_option maxHeartbeats 2000000
open Go.RowKit Go.Qu Ieee

theorem round32_x (m : Int) (m0 : 0 ≤ m) (m3 : m ≤ 3) (p : Nat) (b c z : Int) (w : World) (hb : I64 b) (hn : ¬ 9218868437227405312 < mg b) (hq : Cv w p c z) (hc : Sm c) (hz : Sm z) {x : Int} {d : Bool} (hx : roundI b m (-2147483648) 2147483647 = (x, d)) :
    Calls Tryd.prog 22 #[.pointer (some ⟨p, 0, none⟩), .int .i64 b, .int .i64 m] w fun e w' => e = .returned (.tuple #[.int .i64 0, .int .i64 x]) ∧ Cv w' p (c + (d.toNat : Int)) z ∧ Chg (· = p) w w' := by
  have e : r32O b m = ⟨0, x, 0, (d.toNat : Int), 0⟩ := by unfold r32O; rw [if_neg (by omega), if_neg hn, hx]
  have h := round32_o p b m c z w hb hq hc hz
  rw [e] at h
  simpa using h

theorem between_true (p : Nat) (b c z : Int) (w : World) (hb : I64 b) (hn : ¬ 9218868437227405312 < mg b) (hq : Cv w p c z) (c0 : 0 ≤ c) (c1 : c ≤ 2305843009213693952) (hz : Sm z) :
    Calls Tryd.prog 59 #[.pointer (some ⟨p, 0, none⟩), .int .i64 b] w fun e w' => e = .returned (.bool true) ∧ Chg (· = p) w w' := by
  have B := between_plain b (-2147483648) 2147483647 (by decide) (by decide)
  have s0 := roundI_bounds b 0 (-2147483648) 2147483647 (by decide)
  have s1 := roundI_bounds b 1 (-2147483648) 2147483647 (by decide)
  have s2 := roundI_bounds b 2 (-2147483648) 2147483647 (by decide)
  have s3 := roundI_bounds b 3 (-2147483648) 2147483647 (by decide)
  obtain ⟨⟨x0, d0⟩, e0⟩ : ∃ r, roundI b 0 (-2147483648) 2147483647 = r := ⟨_, rfl⟩
  obtain ⟨⟨x1, d1⟩, e1⟩ : ∃ r, roundI b 1 (-2147483648) 2147483647 = r := ⟨_, rfl⟩
  obtain ⟨⟨x2, d2⟩, e2⟩ : ∃ r, roundI b 2 (-2147483648) 2147483647 = r := ⟨_, rfl⟩
  obtain ⟨⟨x3, d3⟩, e3⟩ : ∃ r, roundI b 3 (-2147483648) 2147483647 = r := ⟨_, rfl⟩
  rw [e0] at s0; rw [e1] at s1; rw [e2] at s2; rw [e3] at s3
  rw [e0, e1, e2, e3] at B
  dsimp only at B s0 s1 s2 s3
  have g0 := s0.1; have G0 := s0.2.1
  have g1 := s1.1; have G1 := s1.2.1
  have g2 := s2.1; have G2 := s2.2.1
  have g3 := s3.1; have G3 := s3.2.1
  clear s0 s1 s2 s3
  have t : ∀ d : Bool, (0 : Int) ≤ d.toNat ∧ (d.toNat : Int) ≤ 1 := by intro d; cases d <;> decide
  have t0 := t d0; have t1 := t d1; have t2 := t d2; have t3 := t d3
  clear t
  obtain ⟨n0, hn0⟩ : ∃ n : Int, (d0.toNat : Int) = n := ⟨_, rfl⟩
  obtain ⟨n1, hn1⟩ : ∃ n : Int, (d1.toNat : Int) = n := ⟨_, rfl⟩
  obtain ⟨n2, hn2⟩ : ∃ n : Int, (d2.toNat : Int) = n := ⟨_, rfl⟩
  obtain ⟨n3, hn3⟩ : ∃ n : Int, (d3.toNat : Int) = n := ⟨_, rfl⟩
  have R0 := fun w c hq hc => round32_x 0 (by omega) (by omega) p b c z w hb hn hq hc hz e0
  have R1 := fun w c hq hc => round32_x 1 (by omega) (by omega) p b c z w hb hn hq hc hz e1
  have R2 := fun w c hq hc => round32_x 2 (by omega) (by omega) p b c z w hb hn hq hc hz e2
  have R3 := fun w c hq hc => round32_x 3 (by omega) (by omega) p b c z w hb hn hq hc hz e3
  have F3 : Hid (d3 = false → ∀ w, _) := fun h w => fast32_o p b w hb hn (by rw [e3, h])
  rw [e3] at F3
  have D3 : Hid (n3 = 0 → d3 = false) := fun h => by cases d3; rfl; simp at hn3; omega
  rw [hn0] at R0 t0; rw [hn1] at R1 t1; rw [hn2] at R2 t2; rw [hn3] at R3 t3
  have HR : Hid (_ ∧ _ ∧ _ ∧ _) := ⟨R0, R1, R2, R3⟩
  have HB : Hid _ := B
  obtain ⟨b1, b2, b3, b4, b5, b6⟩ := B
  have i1 : ¬ x3 < x1 := by omega
  have i2 : ¬ x2 < x3 := by omega
  have i3 : ¬ 1 < x2 - x1 := by omega
  clear R0 R1 R2 R3 b1 b2 b3 b4 b5 b6 e0 e1 e2 e3 hn0 hn1 hn2 hn3
  go_enter Tryd.func59, Tryd.ntmps59
  go_wp2_with fail
  refine (clips_any p c z _ hq).mono ?_; rintro e w' ⟨rfl, rfl⟩
  go_wp2_with fail
  refine (HR.out.2.1 _ c hq ⟨by omega, by omega⟩).mono ?_; rintro e w1 ⟨rfl, q1, k1⟩
  go_wp2_with fail
  refine (HR.out.2.2.1 _ (c + n1) q1 ⟨by omega, by omega⟩).mono ?_; rintro e w2 ⟨rfl, q2, k2⟩
  go_wp2_with fail
  refine (HR.out.1 _ (c + n1 + n2) q2 ⟨by omega, by omega⟩).mono ?_; rintro e w3 ⟨rfl, q3, k3⟩
  go_wp2_with fail
  refine (HR.out.2.2.2 _ (c + n1 + n2 + n0) q3 ⟨by omega, by omega⟩).mono ?_; rintro e w4 ⟨rfl, q4, k4⟩
  have K : Hid (Chg (· = p) w' w4) := ((k1.trans k2).trans k3).trans k4
  have Q : Hid _ := q4
  clear k1 k2 k3 k4 q1 q2 q3 q4 hq
  go_wp2_with (first
    | (go_at_call 26; refine (clips_any p (c + n1 + n2 + n0 + n3) z _ Q.out).mono ?_; rintro e w5 ⟨rfl, rfl⟩)
    | (go_at_call 29; have hh : (c + n1 + n2 + n0 + n3 != c) = false := by assumption
       refine (F3.out (D3.out (by simp only [bne_eq_false_iff_eq] at hh; omega)) _).mono ?_; rintro e w6 ⟨rfl, rfl⟩))
  all_goals (try go_ret)
  all_goals (first
    | exact ⟨rfl, K.out⟩
    | (exfalso; have hB := HB.out; clear HB HR F3 D3 K Q; simp only [bne_iff_ne, ne_eq, bne_eq_false_iff_eq] at *; omega)
    | (refine ⟨?_, K.out⟩; simp; done))
end Go.Proofs.Qxb6500378aDoor
