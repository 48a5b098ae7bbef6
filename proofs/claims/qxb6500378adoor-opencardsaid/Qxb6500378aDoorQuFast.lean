/- The fast calls. -/
import Derived.Test.Qxb6500378aDoorQuLast
import Derived.Test.Qxb6500378aDoorQuBits
namespace Go.Proofs.Qxb6500378aDoor
set_option linter.unusedVariables false
set_option linter.unusedSimpArgs false
open Go.RowKit Go.Qu

theorem isNaN_any (b : Int) (w : World) : Calls Tryd.prog 76 #[.int .i64 b] w fun e w' => e = .returned (.bool (!num (u64 b))) ∧ w' = w := by
  have h := isNaN_num b
  rw [← h]
  clear h
  have y1 := and_mag b
  go_enter Tryd.func76, Tryd.ntmps76
  go_wp2
  go_ret
  exact ⟨rfl, rfl⟩

theorem fastClamp_num (p : Nat) (b : Int) (w : World) (hx : num (u64 b) = true) :
    Calls Tryd.prog 72 #[.pointer (some ⟨p, 0, none⟩), .int .i64 b] w fun e w' => e = .returned (.int .i64 (wrap64 (clampF (u64 b) 13970166044103278592 4746794007244308480))) ∧ w' = w := by
  have y1 := fun w => run_max (P := Tryd.prog) w #[53, 53] 53 (u64 b) 13970166044103278592 hx num_lo32
  have y2 := fun w => run_min (P := Tryd.prog) w #[53, 53] 53 (maxF (u64 b) 13970166044103278592) 4746794007244308480 (num_maxF hx num_lo32) num_hi32
  have y3 := x_f64from
  have y4 := x_f64bits
  clear hx
  unfold clampF
  unfold u64 at *
  go_enter Tryd.func72, Tryd.ntmps72
  go_wp2
  go_ret
  exact ⟨rfl, rfl⟩

theorem fastClamp_nan (p : Nat) (b : Int) (w : World) (hx : num (u64 b) = false) :
    Calls Tryd.prog 72 #[.pointer (some ⟨p, 0, none⟩), .int .i64 b] w fun e w' => ∃ n : Nat, e = .returned (.int .i64 (wrap64 n)) ∧ num n = false ∧ n < 18446744073709551616 ∧ w' = w.drew.drew := by
  have y1 := fun w => run_max_nan (P := Tryd.prog) w #[53, 53] 53 (u64 b) 13970166044103278592 (order_nan_left _ hx)
  have y2 := fun v w => run_min_nan (P := Tryd.prog) w #[53, 53] 53 (nanMM true (u64 b) 13970166044103278592 v) 4746794007244308480 (order_nan_left _ (nanMM_bits _ _ _ _).1)
  have y3 := x_f64from
  have y4 := x_f64bits
  clear hx
  unfold u64 at *
  go_enter Tryd.func72, Tryd.ntmps72
  go_wp2
  go_ret
  exact ⟨_, rfl, (nanMM_bits _ _ _ _).1, (nanMM_bits _ _ _ _).2, rfl⟩

theorem fastBack_num (p : Nat) (b : Int) (w : World) (hx : num (u64 b) = true) :
    Calls Tryd.prog 73 #[.pointer (some ⟨p, 0, none⟩), .int .i64 b] w fun e w' => e = .returned (.int .i64 (wrap64 (minF 4746794007244308480 (maxF 13970166044103278592 (u64 b))))) ∧ w' = w := by
  have y1 := fun w => run_max (P := Tryd.prog) w #[53, 53] 53 13970166044103278592 (u64 b) num_lo32 hx
  have y2 := fun w => run_min (P := Tryd.prog) w #[53, 53] 53 4746794007244308480 (maxF 13970166044103278592 (u64 b)) num_hi32 (num_maxF num_lo32 hx)
  have y3 := x_f64from
  have y4 := x_f64bits
  clear hx
  unfold u64 at *
  go_enter Tryd.func73, Tryd.ntmps73
  go_wp2
  go_ret
  exact ⟨rfl, rfl⟩

theorem fastBack_nan (p : Nat) (b : Int) (w : World) (hx : num (u64 b) = false) :
    Calls Tryd.prog 73 #[.pointer (some ⟨p, 0, none⟩), .int .i64 b] w fun e w' => ∃ n : Nat, e = .returned (.int .i64 (wrap64 n)) ∧ num n = false ∧ n < 18446744073709551616 ∧ w' = w.drew.drew := by
  have y1 := fun w => run_max_nan (P := Tryd.prog) w #[53, 53] 53 13970166044103278592 (u64 b) (order_nan_right _ hx)
  have y2 := fun v w => run_min_nan (P := Tryd.prog) w #[53, 53] 53 4746794007244308480 (nanMM true 13970166044103278592 (u64 b) v) (order_nan_right _ (nanMM_bits _ _ _ _).1)
  have y3 := x_f64from
  have y4 := x_f64bits
  clear hx
  unfold u64 at *
  go_enter Tryd.func73, Tryd.ntmps73
  go_wp2
  go_ret
  exact ⟨_, rfl, (nanMM_bits _ _ _ _).1, (nanMM_bits _ _ _ _).2, rfl⟩

/-- the fast calls' rounding: towards zero is left to the conversion -/
def roundedF (x : Nat) (m : Int) : Nat := if m = 1 ∨ m = 2 ∨ m = 3 then wholeF x m else x

theorem rounded_num (x : Nat) (m : Int) (w : World) (hx : num x = true) :
    Calls Tryd.prog 52 #[.float .f64 x, .int .i64 m] w fun e w' => e = .returned (.float .f64 (roundedF x m)) ∧ w' = w := by
  unfold roundedF
  by_cases h1 : m = 1
  · subst h1
    rw [if_pos (by decide)]
    go_enter Tryd.func52, Tryd.ntmps52
    go_wp2_with (go_at_call 44; refine (whole_num x 1 _ hx).mono ?_; rintro e w' ⟨rfl, rfl⟩)
    go_ret
    exact ⟨rfl, rfl⟩
  by_cases h2 : m = 2
  · subst h2
    rw [if_pos (by decide)]
    go_enter Tryd.func52, Tryd.ntmps52
    go_wp2_with (go_at_call 44; refine (whole_num x 2 _ hx).mono ?_; rintro e w' ⟨rfl, rfl⟩)
    go_ret
    exact ⟨rfl, rfl⟩
  by_cases h3 : m = 3
  · subst h3
    rw [if_pos (by decide)]
    go_enter Tryd.func52, Tryd.ntmps52
    go_wp2_with (go_at_call 44; refine (whole_num x 3 _ hx).mono ?_; rintro e w' ⟨rfl, rfl⟩)
    go_ret
    exact ⟨rfl, rfl⟩
  rw [if_neg (by omega)]
  have k1 : (m == 1) = false := by simpa using h1
  have k2 : (m == 2) = false := by simpa using h2
  have k3 : (m == 3) = false := by simpa using h3
  clear h1 h2 h3
  go_enter Tryd.func52, Tryd.ntmps52
  go_wp2
  go_ret
  exact ⟨rfl, rfl⟩

theorem fast32_fits (p : Nat) (b m n : Int) (w : World) (hx : num (u64 b) = true) (hn : floatToIntVal .f64 (roundedF (u64 b) m) .i32 = some n) :
    Calls Tryd.prog 29 #[.pointer (some ⟨p, 0, none⟩), .int .i64 b, .int .i64 m] w fun e w' => e = .returned (.int .i64 n) ∧ w' = w := by
  have hb := toInt_bounds hn
  have b1 : -2147483648 ≤ n := hb.1
  have b2 : n ≤ 2147483647 := hb.2
  have y1 := fun w => run_convert_float_int (P := Tryd.prog) w 53 21 .f64 .i32 _ n (by rw [Tryd.underlying53]; rfl) Tryd.underlying21 hn
  have y3 := x_f64from
  clear hb hn
  go_enter Tryd.func29, Tryd.ntmps29
  go_wp2_with (go_at_call 52; refine (rounded_num (u64 b) m _ hx).mono ?_; rintro e w' ⟨rfl, rfl⟩)
  go_ret
  exact ⟨rfl, rfl⟩

theorem fast16_fits (p : Nat) (b m n : Int) (w : World) (hx : num (u64 b) = true) (hn : floatToIntVal .f64 (roundedF (u64 b) m) .i16 = some n) :
    Calls Tryd.prog 70 #[.pointer (some ⟨p, 0, none⟩), .int .i64 b, .int .i64 m] w fun e w' => e = .returned (.int .i64 n) ∧ w' = w := by
  have hb := toInt_bounds hn
  have b1 : -32768 ≤ n := hb.1
  have b2 : n ≤ 32767 := hb.2
  have y1 := fun w => run_convert_float_int (P := Tryd.prog) w 53 58 .f64 .i16 _ n (by rw [Tryd.underlying53]; rfl) Tryd.underlying58 hn
  have y3 := x_f64from
  clear hb hn
  go_enter Tryd.func70, Tryd.ntmps70
  go_wp2_with (go_at_call 52; refine (rounded_num (u64 b) m _ hx).mono ?_; rintro e w' ⟨rfl, rfl⟩)
  go_ret
  exact ⟨rfl, rfl⟩
end Go.Proofs.Qxb6500378aDoor
