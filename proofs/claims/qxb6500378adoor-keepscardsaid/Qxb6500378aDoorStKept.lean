/- owes, between, kept. -/
import Derived.Test.Qxb6500378aDoorStDo
import Derived.Test.Qxb6500378aDoorMoBits
import Derived.Deep.RegionHeld3
namespace Go.Proofs.Qxb6500378aDoor
set_option linter.unusedVariables false
set_option linter.unusedSimpArgs false
set_option maxHeartbeats 2000000
open Go.RowKit Go.Qu Ieee

theorem owes_any (kd a b cc : Int) (s t : ByteArray) (w : World) :
    Calls Tryd.prog 57 #[opV kd a b cc s t] w fun e w' => e = .returned (.int .i64 (owesI kd a b)) ∧ Chg (fun _ => False) w w' := by
  unfold opV
  have hC : Hid (∀ o, Chg (fun _ => False) w (w.alloc o)) := fun o => (Chg.refl _ w).alloc o
  have e0 : ∀ x : Int, owesI kd a b = x → Ending.returned (.int .i64 x) = Ending.returned (.int .i64 (owesI kd a b)) := fun x h => by rw [h]
  by_cases h1 : kd = 1
  · subst h1
    go_enter Tryd.func57, Tryd.ntmps57
    go_wp2_with (first | (go_at_call 76; refine (isNaNm_any a _).mono ?_; rintro e w' ⟨rfl, rfl⟩) | (go_at_call 77; refine (isNaN32_any a _).mono ?_; rintro e w' ⟨rfl, rfl⟩))
    all_goals (try go_ret)
    all_goals (refine ⟨e0 _ ?_, hC.out _⟩)
    all_goals (try simp only [decide_eq_true_eq, decide_eq_false_iff_not] at *)
    all_goals (unfold owesI; rw [if_pos (by omega)]; (repeat' split) <;> first | rfl | (exfalso; omega))
  by_cases h2 : kd = 2
  · subst h2
    go_enter Tryd.func57, Tryd.ntmps57
    go_wp2_with (first | (go_at_call 76; refine (isNaNm_any a _).mono ?_; rintro e w' ⟨rfl, rfl⟩) | (go_at_call 77; refine (isNaN32_any a _).mono ?_; rintro e w' ⟨rfl, rfl⟩))
    all_goals (try go_ret)
    all_goals (refine ⟨e0 _ ?_, hC.out _⟩)
    all_goals (try simp only [decide_eq_true_eq, decide_eq_false_iff_not] at *)
    all_goals (unfold owesI; rw [if_pos (by omega)]; (repeat' split) <;> first | rfl | (exfalso; omega))
  by_cases h3 : kd = 3
  · subst h3
    go_enter Tryd.func57, Tryd.ntmps57
    go_wp2_with (first | (go_at_call 76; refine (isNaNm_any a _).mono ?_; rintro e w' ⟨rfl, rfl⟩) | (go_at_call 77; refine (isNaN32_any a _).mono ?_; rintro e w' ⟨rfl, rfl⟩))
    all_goals (try go_ret)
    all_goals (refine ⟨e0 _ ?_, hC.out _⟩)
    all_goals (try simp only [decide_eq_true_eq, decide_eq_false_iff_not] at *)
    all_goals (unfold owesI; simp only [show ¬ (((3 : Int) = 1) ∨ ((3 : Int) = 2)) by omega, if_false, if_true]; (repeat' split) <;> first | rfl | (exfalso; omega))
  by_cases h4 : kd = 4
  · subst h4
    go_enter Tryd.func57, Tryd.ntmps57
    go_wp2_with (first | (go_at_call 76; refine (isNaNm_any a _).mono ?_; rintro e w' ⟨rfl, rfl⟩) | (go_at_call 77; refine (isNaN32_any a _).mono ?_; rintro e w' ⟨rfl, rfl⟩))
    all_goals (try go_ret)
    all_goals (refine ⟨e0 _ ?_, hC.out _⟩)
    all_goals (try simp only [decide_eq_true_eq, decide_eq_false_iff_not] at *)
    all_goals (unfold owesI; simp only [show ¬ (((4 : Int) = 1) ∨ ((4 : Int) = 2)) by omega, show ¬ ((4 : Int) = 3) by omega, if_false, if_true]; (repeat' split) <;> first | rfl | (exfalso; omega))
  by_cases h5 : kd = 5
  · subst h5
    go_enter Tryd.func57, Tryd.ntmps57
    go_wp2_with (first | (go_at_call 76; refine (isNaNm_any a _).mono ?_; rintro e w' ⟨rfl, rfl⟩) | (go_at_call 77; refine (isNaN32_any a _).mono ?_; rintro e w' ⟨rfl, rfl⟩))
    all_goals (try go_ret)
    all_goals (refine ⟨e0 _ ?_, hC.out _⟩)
    all_goals (try simp only [decide_eq_true_eq, decide_eq_false_iff_not] at *)
    all_goals (unfold owesI; simp only [show ¬ (((5 : Int) = 1) ∨ ((5 : Int) = 2)) by omega, show ¬ ((5 : Int) = 3) by omega, show ¬ ((5 : Int) = 4) by omega, if_false, if_true]; (repeat' split) <;> first | rfl | (exfalso; omega))
  by_cases h6 : kd = 6
  · subst h6
    go_enter Tryd.func57, Tryd.ntmps57
    go_wp2_with (first | (go_at_call 76; refine (isNaNm_any a _).mono ?_; rintro e w' ⟨rfl, rfl⟩) | (go_at_call 77; refine (isNaN32_any a _).mono ?_; rintro e w' ⟨rfl, rfl⟩))
    all_goals (try go_ret)
    all_goals (refine ⟨e0 _ ?_, hC.out _⟩)
    all_goals (try simp only [decide_eq_true_eq, decide_eq_false_iff_not] at *)
    all_goals (unfold owesI; simp only [show ¬ (((6 : Int) = 1) ∨ ((6 : Int) = 2)) by omega, show ¬ ((6 : Int) = 3) by omega, show ¬ ((6 : Int) = 4) by omega, show ¬ ((6 : Int) = 5) by omega, if_false, if_true]; (repeat' split) <;> first | rfl | (exfalso; omega))
  have e1 : owesI kd a b = 0 := by unfold owesI; rw [if_neg (by omega), if_neg h3, if_neg h4, if_neg h5, if_neg h6]
  rw [e1]
  have k1 : (kd == 1) = false := by simpa using h1
  have k2 : (kd == 2) = false := by simpa using h2
  have k3 : (kd == 3) = false := by simpa using h3
  have k4 : (kd == 4) = false := by simpa using h4
  have k5 : (kd == 5) = false := by simpa using h5
  have k6 : (kd == 6) = false := by simpa using h6
  clear h1 h2 h3 h4 h5 h6 e0 e1
  go_enter Tryd.func57, Tryd.ntmps57
  go_wp2
  go_ret
  exact ⟨rfl, hC.out _⟩
end Go.Proofs.Qxb6500378aDoor
