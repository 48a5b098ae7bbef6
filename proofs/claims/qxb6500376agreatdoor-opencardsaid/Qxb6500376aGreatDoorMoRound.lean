/- The model's converter: round, Round32, Round16, New, Clips, NaNs, Check. -/
import Derived.Test.Qxb6500376aGreatDoorMoWhole2
import Derived.Test.Qxb6500376aGreatDoorStPlain
namespace Go.Proofs.Qxb6500376aGreatDoor
set_option linter.unusedVariables false
set_option linter.unusedSimpArgs false
set_option maxHeartbeats 2000000
open Go.RowKit Go.Qu Ieee

/-- a model's converter at p with these counts -/
abbrev Cm (w : World) (p : Nat) (c z : Int) : Prop := Has 95 w p [.int .i64 c, .int .i64 z]
def Sq (c : Int) : Prop := 0 ≤ c ∧ c ≤ 4611686018427387904
def roundO (b m lo hi : Int) : Out := if m < 0 ∨ 3 < m then ⟨2, 0, 0, 0, 0⟩ else if 9218868437227405312 < mg b then ⟨4, 0, 0, 0, 1⟩ else ⟨0, (roundI b m lo hi).1, 0, (roundI b m lo hi).2.toNat, 0⟩

theorem roundm_any (p : Nat) (b m lo hi c z : Int) (w : World) (hb : I64 b) (hq : Cm w p c z) (hc : Sq c) (hz : Sq z) :
    Calls Tryz.prog 85 #[.pointer (some ⟨p, 0, none⟩), .int .i64 b, .int .i64 m, .int .i64 lo, .int .i64 hi] w fun e w' => e = .returned (.tuple #[.int .i64 (roundO b m lo hi).e, .int .i64 (roundO b m lo hi).n]) ∧ Cm w' p (c + (roundO b m lo hi).dc) (z + (roundO b m lo hi).dz) ∧ Chg (· = p) w w' := by
  obtain ⟨c0, c1⟩ := hc
  obtain ⟨z0, z1⟩ := hz
  have h0 : w.cell? ⟨p, 0, none⟩ = some (.int .i64 c) := hq.cell 0
  have h1 : w.cell? ⟨p, 1, none⟩ = some (.int .i64 z) := hq.cell 1
  have g0 := hq.frozen 0
  have g1 := hq.frozen 1
  have HQ : Hid (Cm w p c z) := hq
  have HB : Hid (I64 b) := hb
  clear hq hb
  unfold roundO roundI
  by_cases m1 : m < 0
  · simp only [if_pos (Or.inl m1 : m < 0 ∨ 3 < m), Int.add_zero]
    go_enter Tryz.func85, Tryz.ntmps85
    go_wp2
    go_ret2
    exact ⟨rfl, HQ.out, Chg.refl _ _⟩
  by_cases m2 : 3 < m
  · simp only [if_pos (Or.inr m2 : m < 0 ∨ 3 < m), Int.add_zero]
    go_enter Tryz.func85, Tryz.ntmps85
    go_wp2
    go_ret2
    exact ⟨rfl, HQ.out, Chg.refl _ _⟩
  simp only [if_neg (show ¬ (m < 0 ∨ 3 < m) by omega)]
  by_cases hn : 9218868437227405312 < mg b
  · simp only [if_pos hn, Int.add_zero]
    have dn : decide (9218868437227405312 < mg b) = true := decide_eq_true hn
    clear hn
    go_enter Tryz.func85, Tryz.ntmps85
    go_wp2_with (go_at_call 95; refine (isNaNm_any b _).mono ?_; rintro e w' ⟨rfl, h2⟩; rw [h2, dn]; clear h2)
    go_ret2
    exact ⟨rfl, HQ.out.setCell 1 _, Chg.set1 w p 1 _⟩
  simp only [if_neg hn, Int.add_zero]
  have dn : decide (9218868437227405312 < mg b) = false := decide_eq_false hn
  clear hn
  have W := whole_any b m HB.out
  obtain ⟨⟨n, bg⟩, e1⟩ : ∃ r, wholeM b m = r := ⟨_, rfl⟩
  rw [e1] at W ⊢
  dsimp only at W ⊢
  have HW : Hid (∀ w, _) := fun w => W w
  clear W e1
  by_cases b1 : bg > 0 ∨ n > hi
  · simp only [if_pos b1]
    have HB1 : Hid (bg > 0 ∨ n > hi) := b1
    clear b1
    go_enter Tryz.func85, Tryz.ntmps85
    go_wp2_with (first
      | (go_at_call 95; refine (isNaNm_any b _).mono ?_; rintro e w' ⟨rfl, h2⟩; rw [h2, dn]; clear h2)
      | (go_at_call 96; refine (HW.out _).mono ?_; rintro e w' ⟨rfl, h2⟩; rw [h2]; clear h2))
    all_goals (try go_ret2)
    all_goals first
      | exact ⟨rfl, HQ.out.setCell 0 _, Chg.set1 w p 0 _⟩
      | (exfalso; have := HB1.out; omega)
  simp only [if_neg b1]
  by_cases b2 : bg < 0 ∨ n < lo
  · simp only [if_pos b2]
    have HB1 : Hid (¬ (bg > 0 ∨ n > hi)) := b1
    have HB2 : Hid (bg < 0 ∨ n < lo) := b2
    clear b1 b2
    go_enter Tryz.func85, Tryz.ntmps85
    go_wp2_with (first
      | (go_at_call 95; refine (isNaNm_any b _).mono ?_; rintro e w' ⟨rfl, h2⟩; rw [h2, dn]; clear h2)
      | (go_at_call 96; refine (HW.out _).mono ?_; rintro e w' ⟨rfl, h2⟩; rw [h2]; clear h2))
    all_goals (try go_ret2)
    all_goals first
      | (exfalso; have := HB1.out; have := HB2.out; omega)
      | exact ⟨rfl, HQ.out.setCell 0 _, Chg.set1 w p 0 _⟩
  simp only [if_neg b2]
  have i1 : ¬ 0 < bg := by omega
  have i2 : ¬ hi < n := by omega
  have i3 : ¬ bg < 0 := by omega
  have i4 : ¬ n < lo := by omega
  clear b1 b2
  go_enter Tryz.func85, Tryz.ntmps85
  go_wp2_with (first
    | (go_at_call 95; refine (isNaNm_any b _).mono ?_; rintro e w' ⟨rfl, h2⟩; rw [h2, dn]; clear h2)
    | (go_at_call 96; refine (HW.out _).mono ?_; rintro e w' ⟨rfl, h2⟩; rw [h2]; clear h2))
  go_ret2
  exact ⟨rfl, by simpa using HQ.out, Chg.refl _ _⟩

theorem round32m_o (p : Nat) (b m c z : Int) (w : World) (hb : I64 b) (hq : Cm w p c z) (hc : Sq c) (hz : Sq z) :
    Calls Tryz.prog 69 #[.pointer (some ⟨p, 0, none⟩), .int .i64 b, .int .i64 m] w fun e w' => e = .returned (.tuple #[.int .i64 (r32O b m).e, .int .i64 (r32O b m).n]) ∧ Cm w' p (c + (r32O b m).dc) (z + (r32O b m).dz) ∧ Chg (· = p) w w' := by
  have R := roundm_any p b m (-2147483648) 2147483647 c z w hb hq hc hz
  rw [show roundO b m (-2147483648) 2147483647 = r32O b m from rfl] at R
  generalize r32O b m = O at R ⊢
  have HR : Hid (Calls _ _ _ _ _) := R
  clear R hq hb hc hz
  go_enter Tryz.func69, Tryz.ntmps69
  go_wp2_with (go_at_call 85; refine Calls.mono HR.out ?_; rintro e w' ⟨rfl, q1, c1⟩)
  go_ret2
  exact ⟨rfl, q1, c1⟩
theorem newm_any (w : World) :
    Calls Tryz.prog 57 #[] w fun e w' => e = .returned (.pointer (some ⟨w.heap.size, 0, none⟩)) ∧ Cm w' w.heap.size 0 0 ∧ w.heap.size < w'.heap.size ∧ Chg (fun _ => False) w w' := by
  go_enter Tryz.func57, Tryz.ntmps57
  go_wp2
  go_ret
  exact ⟨rfl, Has.new _ _ _, by simp, (Chg.refl _ _).alloc _⟩
end Go.Proofs.Qxb6500376aGreatDoor
