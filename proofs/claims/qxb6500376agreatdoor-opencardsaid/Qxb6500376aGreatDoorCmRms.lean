/- The pipeline's model: Rms. -/
import Derived.Test.Qxb6500376aGreatDoorCmLoop
namespace Go.Proofs.Qxb6500376aGreatDoor
set_option linter.unusedVariables false
set_option linter.unusedSimpArgs false
set_option maxHeartbeats 4000000
set_option maxRecDepth 100000
open Go.RowKit Go.Qu Ieee

theorem RmsM (p q : Nat) (g : PS) (n : Int) (w : World) (hg : Good g n) (h : Md w p q g) :
    Calls Tryz.prog 41 #[.pointer (some ⟨p, 0, none⟩)] w fun e w' => e = .returned (.int .i64 (isq (sumSq g.ring / 16384).toNat)) ∧ Md w' p q g ∧ Chg (fun k => k = p ∨ k = q) w w' := by
  have HE := EnergyM p q g n w hg h
  have en := hg.en
  obtain ⟨E, hE⟩ : ∃ E : Nat, sumSq g.ring = E := ⟨(sumSq g.ring).toNat, by omega⟩
  rw [hE] at HE en ⊢
  have hN : bits .or .i64 (((E : Int) / 4294967296) * 262144) ((E : Int) % 4294967296 / 16384) = ((E / 16384 : Nat) : Int) := by
    have := or_sum (((E : Int) / 4294967296) * 262144) (E % 4294967296 / 16384) 18 (by omega) (by omega) (by omega) (by omega) (by omega)
    rw [show (((E % 4294967296 / 16384 : Nat)) : Int) = (E : Int) % 4294967296 / 16384 by omega] at this
    rw [this]; omega
  rw [show ((E : Int) / 16384).toNat = E / 16384 by omega]
  have h52 : E / 16384 ≤ 2251799813685248 := by omega
  have g0 : 0 ≤ (E : Int) / 4294967296 := by omega
  have g1 : (E : Int) / 4294967296 ≤ 8589934592 := by omega
  have g2 : 0 ≤ (E : Int) % 4294967296 := by omega
  have g3 : (E : Int) % 4294967296 ≤ 4294967295 := by omega
  generalize (E : Int) / 4294967296 = A at *
  generalize (E : Int) % 4294967296 = B at *
  generalize E / 16384 = N at *
  have HH : Hid (Calls _ _ _ _ _) := HE
  clear HE en hE hg h
  go_enter Tryz.func41, Tryz.ntmps41
  go_wp2_with fail
  refine Calls.mono HH.out ?_; rintro e w1 ⟨rfl, h1, c1⟩
  have H1 : Hid (Md w1 p q g ∧ Chg (fun k => k = p ∨ k = q) w w1) := ⟨h1, c1⟩
  clear h1 c1
  have NI : (N : Int) ≤ 2251799813685248 := by omega
  obtain ⟨NN, hNN⟩ : ∃ NN : Int, (N : Int) = NN := ⟨_, rfl⟩
  have HNN : Hid ((N : Int) = NN ∧ N ≤ 2251799813685248) := ⟨hNN, h52⟩
  rw [hNN] at hN NI
  clear hNN h52
  go_wp2
  go_loopg [6, 7] 26 (fun gk r b wr => ∃ R P : Nat, r = .int .i64 R ∧ b = .int .i64 P ∧ P = 2 ^ gk / 2 ∧ R * R ≤ N ∧ N < (R + 2 ^ gk) * (R + 2 ^ gk) ∧ R + 2 ^ gk ≤ 67108864 ∧ gk ≤ 26 ∧ wr = w1)
  case atStart => exact ⟨0, 33554432, rfl, rfl, by decide, by omega, by have := HNN.out.2; have e : (0 + 2 ^ 26) * (0 + 2 ^ 26) = 4503599627370496 := by decide
                                                                        omega, by decide, by omega, rfl⟩
  case round =>
    obtain ⟨R, P, rfl, rfl, hP, hR1, hR2, hR3, hk, rfl⟩ := hrel
    cases gk with
    | zero =>
      have hP0 : P = 0 := hP
      subst hP0
      have hi := isq_ok (n := N) (by have := HNN.out.2; omega)
      have hu := isq_unique hR1 (by simpa using hR2) hi.1 hi.2
      have HU : Hid (R = isq N) := hu
      clear hP hR1 hR2 hR3 hi hu
      rw [show ((0 : Nat) : Int) = 0 from rfl]
      go_wp2
      go_ret
      exact ⟨by rw [HU.out]; rfl, H1.out.1, H1.out.2⟩
    | succ t =>
      have e2 : 2 ^ (t + 1) = 2 * 2 ^ t := by rw [Nat.pow_succ]; omega
      have hpos := Nat.two_pow_pos t
      obtain ⟨D, hD⟩ : ∃ D, 2 ^ t = D := ⟨_, rfl⟩
      rw [e2] at hP hR2 hR3
      rw [hD] at hP hR2 hR3 hpos
      have hPD : P = D := by omega
      subst hPD
      have hsq : (R + P) * (R + P) ≤ 67108864 * 67108864 := Nat.mul_le_mul (by omega) (by omega)
      obtain ⟨ri, hri⟩ : ∃ ri : Int, (R : Int) = ri := ⟨_, rfl⟩
      obtain ⟨pi, hpi⟩ : ∃ pi : Int, (P : Int) = pi := ⟨_, rfl⟩
      have hT : ((R + P : Nat) : Int) * ((R + P : Nat) : Int) = (ri + pi) * (ri + pi) := by rw [Int.natCast_add, hri, hpi]
      have hT2 : (((R + P) * (R + P) : Nat) : Int) = (ri + pi) * (ri + pi) := by rw [Int.natCast_mul, hT]
      have X0 : 0 ≤ (ri + pi) * (ri + pi) := by rw [← hT2]; omega
      have X1 : (ri + pi) * (ri + pi) ≤ 4503599627370496 := by rw [← hT2]; omega
      have r0 : 0 ≤ ri := by omega
      have r1 : ri ≤ 67108864 := by omega
      have p0 : 0 < pi := by omega
      have p1 : pi ≤ 67108864 := by omega
      have hh2 : pi / 2 = ((P / 2 : Nat) : Int) := by omega
      have HX : Hid ((R : Int) = ri ∧ (P : Int) = pi ∧ 2 ^ t = P ∧ R * R ≤ N ∧ N < (R + 2 * P) * (R + 2 * P) ∧ R + 2 * P ≤ 67108864 ∧ t + 1 ≤ 26 ∧ 0 < P ∧ (((R + P) * (R + P) : Nat) : Int) = (ri + pi) * (ri + pi)) := ⟨hri, hpi, hD, hR1, hR2, hR3, hk, hpos, hT2⟩
      rw [hri, hpi]
      clear hD hP hR1 hR2 hR3 hpos hk hsq hri hpi hT hT2 e2 hN
      by_cases hle : (ri + pi) * (ri + pi) ≤ NN
      · go_wp2
        have hx := HX.out
        have hnn := HNN.out
        obtain ⟨x1, x2, x3, x4, x5, x6, x7, x8, x9⟩ := hx
        go_roundg t
        case measure => omega
        case rel => exact ⟨R + P, P / 2, by rw [Int.natCast_add, x1, x2], by congr 1, by rw [x3], by omega, by rw [x3, show R + P + P = R + 2 * P by omega]; exact x5, by rw [x3]; omega, by omega, rfl⟩
      · have hlt : NN < (ri + pi) * (ri + pi) := by omega
        go_wp2
        have hx := HX.out
        have hnn := HNN.out
        obtain ⟨x1, x2, x3, x4, x5, x6, x7, x8, x9⟩ := hx
        go_roundg t
        case measure => omega
        case rel => exact ⟨R, P / 2, by rw [x1], by congr 1, by rw [x3], x4, by rw [x3]; omega, by rw [x3]; omega, by omega, rfl⟩
end Go.Proofs.Qxb6500376aGreatDoor
