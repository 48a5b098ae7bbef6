/- quantm.Whole, the middle and whole; quantm's round. -/
import Derived.Test.Qxb6500376aGreatDoorMoWhole
namespace Go.Proofs.Qxb6500376aGreatDoor
set_option linter.unusedVariables false
set_option linter.unusedSimpArgs false
open Go.RowKit Go.Qu Ieee

theorem whole_mid_val (b md : Int) (S G q r : Nat) (h1 : 1022 ≤ mg b / 4503599627370496) (h2 : mg b / 4503599627370496 ≤ 1074) (hS : 1075 - mg b / 4503599627370496 = S) (hG : 2 ^ S = 2 * G) (hq : (4503599627370496 + mg b % 4503599627370496) / (2 * G) = q) (hr : (4503599627370496 + mg b % 4503599627370496) % (2 * G) = r) :
    ∃ N : Int, wholeM b md = (N, 0) ∧ (∀ up : Prop, (up ↔ ((md = 1 ∧ b < 0 ∧ r ≠ 0) ∨ (md = 2 ∧ ¬ b < 0 ∧ r ≠ 0) ∨ (md = 3 ∧ (G < r ∨ (G = r ∧ q % 2 = 1))))) →
      (b < 0 → up → N = -(q + 1)) ∧ (b < 0 → ¬ up → N = -q) ∧ (¬ b < 0 → up → N = q + 1) ∧ (¬ b < 0 → ¬ up → N = q)) := by
  have eN : ∀ s, wholeN (way md) s (mg b) = q + (more (way md) s r (2 * G) q).toNat := by
    intro s
    unfold wholeN
    rw [if_neg (by omega), if_neg (by omega), hS, cut_eq, hG, hq, hr]
  have hm : ∀ s : Bool, (((md = 1 ∧ s = true ∧ r ≠ 0) ∨ (md = 2 ∧ s = false ∧ r ≠ 0) ∨ (md = 3 ∧ (G < r ∨ (G = r ∧ q % 2 = 1)))) → more (way md) s r (2 * G) q = true) ∧
      (¬ ((md = 1 ∧ s = true ∧ r ≠ 0) ∨ (md = 2 ∧ s = false ∧ r ≠ 0) ∨ (md = 3 ∧ (G < r ∨ (G = r ∧ q % 2 = 1)))) → more (way md) s r (2 * G) q = false) := by
    intro s
    rw [more_cases]
    by_cases m1 : md = 1
    · subst m1
      cases s <;> by_cases r0 : r = 0 <;> simp [r0]
    by_cases m2 : md = 2
    · subst m2
      cases s <;> by_cases r0 : r = 0 <;> simp [r0]
    by_cases m3 : md = 3
    · subst m3
      simp only [if_neg (show ¬ (3 : Int) = 1 by omega), if_neg (show ¬ (3 : Int) = 2 by omega), if_true]
      constructor
      · intro h
        have h' : G < r ∨ (G = r ∧ q % 2 = 1) := by omega
        rcases h' with h' | ⟨h', h''⟩
        · rw [decide_eq_true (by omega)]; rfl
        · rw [h', h'']; simp
      · intro h
        have h' : ¬ (G < r ∨ (G = r ∧ q % 2 = 1)) := fun g => h (.inr (.inr ⟨by trivial, g⟩))
        clear h
        rw [decide_eq_false (by omega), Bool.false_or, Bool.and_eq_false_iff]
        by_cases hg : G = r
        · exact .inr (by simp; omega)
        · exact .inl (by simp; omega)
    · rw [if_neg m1, if_neg m2, if_neg m3]
      exact ⟨fun h => by omega, fun _ => rfl⟩
  unfold wholeM
  rw [if_neg (by omega), eN, eN]
  refine ⟨_, rfl, fun up hup => ?_⟩
  have ht := hm true
  have hf := hm false
  refine ⟨fun hb hu => ?_, fun hb hu => ?_, fun hb hu => ?_, fun hb hu => ?_⟩
  · rw [if_pos hb, ht.1 (by rcases hup.1 hu with h | h | h; exact .inl ⟨h.1, rfl, h.2.2⟩; exact absurd hb h.2.1; exact .inr (.inr h))]; simp
  · rw [if_pos hb, ht.2 (fun h => hu (hup.2 (by rcases h with h | h | h; exact .inl ⟨h.1, hb, h.2.2⟩; exact absurd h.2.1 (by simp); exact .inr (.inr h))))]; simp
  · rw [if_neg hb, hf.1 (by rcases hup.1 hu with h | h | h; exact absurd h.2.1 hb; exact .inr (.inl ⟨h.1, rfl, h.2.2⟩); exact .inr (.inr h))]; simp
  · rw [if_neg hb, hf.2 (fun h => hu (hup.2 (by rcases h with h | h | h; exact absurd h.2.1 (by simp); exact .inr (.inl ⟨h.1, hb, h.2.2⟩); exact .inr (.inr h))))]; simp

set_option maxHeartbeats 4000000 in
theorem whole_mid (b md : Int) (hb : I64 b) (w : World) (h1 : 1022 ≤ mg b / 4503599627370496) (h2 : mg b / 4503599627370496 ≤ 1074) : Calls Tryz.prog 96 #[.int .i64 b, .int .i64 md] w fun e w' => e = .returned (.tuple #[.int .i64 (wholeM b md).1, .int .i64 (wholeM b md).2]) ∧ w' = w := by
  have e1 := exp_bits b
  have e2 := frac_bits b
  have hM := Nat.mod_lt (mg b) (by decide : 0 < 4503599627370496)
  have e3 := or52 (mg b % 4503599627370496) hM
  obtain ⟨S, hS⟩ : ∃ S : Nat, 1075 - mg b / 4503599627370496 = S := ⟨_, rfl⟩
  obtain ⟨G, hG⟩ : ∃ G : Nat, 2 ^ (S - 1) = G := ⟨_, rfl⟩
  have hG2 : 2 ^ S = 2 * G := by rw [← hG, Nat.mul_comm, ← Nat.pow_succ, Nat.succ_eq_add_one, Nat.sub_add_cancel (by omega)]
  have hGp : 0 < G := by rw [← hG]; exact Nat.two_pow_pos _
  have hGm : G ≤ 4503599627370496 := by rw [← hG]; exact Nat.pow_le_pow_right (by omega) (by omega : S - 1 ≤ 52)
  obtain ⟨q, hq⟩ : ∃ q : Nat, (4503599627370496 + mg b % 4503599627370496) / (2 * G) = q := ⟨_, rfl⟩
  obtain ⟨r, hr⟩ : ∃ r : Nat, (4503599627370496 + mg b % 4503599627370496) % (2 * G) = r := ⟨_, rfl⟩
  obtain ⟨N, eW, hN⟩ := whole_mid_val b md S G q r h1 h2 hS hG2 hq hr
  have hN := hN _ Iff.rfl
  have HN : Hid _ := hN
  rw [eW]
  clear eW hN
  dsimp only
  have hqm : q ≤ 9007199254740992 := by
    have := Nat.div_le_self (4503599627370496 + mg b % 4503599627370496) (2 * G)
    omega
  have hrm : r < 2 * G := by rw [← hr]; exact Nat.mod_lt _ (by omega)
  have hd := Nat.div_add_mod (4503599627370496 + mg b % 4503599627370496) (2 * G)
  rw [hq, hr] at hd
  generalize mg b / 4503599627370496 = E at *
  generalize mg b % 4503599627370496 = M at *
  have f1 : (1075 : Int) - (E : Int) = (S : Int) := by omega
  have eP : ((2 : Int) ^ S) = ((2 * G : Nat) : Int) := by rw [← hG2]; exact_mod_cast rfl
  have c1 : ((4503599627370496 : Int) + M) / 2 ^ S = (q : Int) := by
    rw [eP, ← hq]; rfl
  have c2 : (2 : Int) ^ (S - 1) = (G : Int) := by rw [← hG]; exact_mod_cast rfl
  have c3 : (q : Int) * 2 ^ S = (4503599627370496 : Int) + M - r := by
    rw [eP, Int.mul_comm, ← Int.natCast_mul]; omega
  have c4 : bits .and .i64 (q : Int) 1 = (q : Int) % 2 := and1 q
  have k1 : ¬ (E : Int) = 0 := by omega
  have k2 : ¬ (S : Int) ≤ -10 := by omega
  have k3 : ¬ (S : Int) ≤ 0 := by omega
  have k4 : ¬ (53 : Int) < S := by omega
  have k5 : (0 : Int) ≤ S := by omega
  clear hS hG hG2 hq hr hd eP h1 h2
  by_cases hn : b < 0
  · go_enter Tryz.func96, Tryz.ntmps96
    go_wp2
    all_goals go_ret2
    all_goals simp only [beq_iff_eq, beq_eq_false_iff_ne, bne_iff_ne, bne_eq_false_iff_eq, Bool.not_eq_false', Bool.not_eq_true', decide_eq_true_eq, decide_eq_false_iff_not] at *
    all_goals first | (exfalso; omega) | rw [HN.out.1 hn (by omega)] | rw [HN.out.2.1 hn (by omega)]
    all_goals exact ⟨rfl, by trivial⟩
  · go_enter Tryz.func96, Tryz.ntmps96
    go_wp2
    all_goals go_ret2
    all_goals simp only [beq_iff_eq, beq_eq_false_iff_ne, bne_iff_ne, bne_eq_false_iff_eq, Bool.not_eq_false', Bool.not_eq_true', decide_eq_true_eq, decide_eq_false_iff_not] at *
    all_goals first | (exfalso; omega) | rw [HN.out.2.2.1 hn (by omega)] | rw [HN.out.2.2.2 hn (by omega)]
    all_goals exact ⟨rfl, by trivial⟩
theorem whole_any (b md : Int) (hb : I64 b) (w : World) : Calls Tryz.prog 96 #[.int .i64 b, .int .i64 md] w fun e w' => e = .returned (.tuple #[.int .i64 (wholeM b md).1, .int .i64 (wholeM b md).2]) ∧ w' = w := by
  by_cases h1 : 1085 ≤ mg b / 4503599627370496
  · exact whole_big b md hb w h1
  by_cases h2 : 1075 ≤ mg b / 4503599627370496
  · exact whole_exact b md hb w h2 (by omega)
  by_cases h3 : 1022 ≤ mg b / 4503599627370496
  · exact whole_mid b md hb w h3 (by omega)
  · exact whole_tiny b md hb w (by omega)
end Go.Proofs.Qxb6500376aGreatDoor
