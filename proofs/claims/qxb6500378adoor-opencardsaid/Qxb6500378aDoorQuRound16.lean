/- Round16. -/
import Derived.Test.Qxb6500378aDoorQuRound
namespace Go.Proofs.Qxb6500378aDoor
set_option linter.unusedVariables false
set_option linter.unusedSimpArgs false
open Go.RowKit Go.Qu

theorem num_lo16 : num 13898108450065350656 = true := by decide +kernel
theorem num_hi16 : num 4674736138332667904 = true := by decide +kernel

theorem round16_mode (p : Nat) (b m : Int) (w : World) (hm : m < 0 ∨ 3 < m) :
    Calls Tryd.prog 23 #[.pointer (some ⟨p, 0, none⟩), .int .i64 b, .int .i64 m] w fun e w' => e = .returned (.tuple #[.int .i64 2, .int .i64 0]) ∧ w' = w := by
  rcases hm with hm | hm
  · go_enter Tryd.func23, Tryd.ntmps23
    go_wp2
    go_ret2
    exact ⟨rfl, rfl⟩
  · have h0 : ¬ m < 0 := by omega
    go_enter Tryd.func23, Tryd.ntmps23
    go_wp2
    go_ret2
    exact ⟨rfl, rfl⟩

theorem round16_nan (p : Nat) (b m c z : Int) (w : World) (h0 : 0 ≤ m) (h3 : m ≤ 3) (hx : num (u64 b) = false) (hq : Has 52 w p [.int .i64 c, .int .i64 z]) :
    Calls Tryd.prog 23 #[.pointer (some ⟨p, 0, none⟩), .int .i64 b, .int .i64 m] w fun e w' => e = .returned (.tuple #[.int .i64 4, .int .i64 0]) ∧ w' = w.setCell ⟨p, 1, none⟩ (.int .i64 (wrap64 (z + 1))) := by
  have k0 : ¬ m < 0 := by omega
  have k3 : ¬ 3 < m := by omega
  go_enter Tryd.func23, Tryd.ntmps23
  go_wp2_with (go_at_call 42; refine (sample_nan p b c z _ hx hq).mono ?_; rintro e w' ⟨rfl, rfl⟩)
  go_ret2
  exact ⟨rfl, rfl⟩

theorem round16_num (p : Nat) (b m c z n : Int) (w : World) (h0 : 0 ≤ m) (h3 : m ≤ 3) (hx : num (u64 b) = true) (hq : Has 52 w p [.int .i64 c, .int .i64 z])
    (hn : floatToIntVal .f64 (clampF (wholeF (u64 b) m) 13898108450065350656 4674736138332667904) .i16 = some n) :
    Calls Tryd.prog 23 #[.pointer (some ⟨p, 0, none⟩), .int .i64 b, .int .i64 m] w fun e w' => e = .returned (.tuple #[.int .i64 0, .int .i64 n]) ∧
      Has 52 w' p [.int .i64 (bump c (moved (clampF (wholeF (u64 b) m) 13898108450065350656 4674736138332667904) (wholeF (u64 b) m))), .int .i64 z] ∧ Chg (· = p) w w' := by
  have k0 : ¬ m < 0 := by omega
  have k3 : ¬ 3 < m := by omega
  have hb := toInt_bounds hn
  have b1 : -32768 ≤ n := hb.1
  have b2 : n ≤ 32767 := hb.2
  have y1 := fun w => run_convert_float_int (P := Tryd.prog) w 53 58 .f64 .i16 _ n (by rw [Tryd.underlying53]; rfl) Tryd.underlying58 hn
  clear hb hn
  go_enter Tryd.func23, Tryd.ntmps23
  go_wp2_with (first
    | (go_at_call 42; refine (sample_num p b _ hx).mono ?_; rintro e w' ⟨rfl, rfl⟩)
    | (go_at_call 44; refine (whole_num (u64 b) m _ hx).mono ?_; rintro e w' ⟨rfl, rfl⟩)
    | (go_at_call 43; refine (clamp_any p (wholeF (u64 b) m) 13898108450065350656 4674736138332667904 c z _ (num_wholeF m hx) num_lo16 num_hi16 hq).mono ?_; rintro e w' ⟨rfl, hq1, hc1⟩))
  go_ret2
  exact ⟨rfl, hq1, hc1⟩
end Go.Proofs.Qxb6500378aDoor
