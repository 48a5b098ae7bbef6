/- Round32, Round16. -/
import Derived.Test.Qxb6500376aDoorQuWalk
namespace Go.Proofs.Qxb6500376aDoor
set_option linter.unusedVariables false
set_option linter.unusedSimpArgs false
open Go.RowKit Go.Qu

theorem toInt_bounds {src : FloatKind} {x : Nat} {k : IntKind} {n : Int} (h : floatToIntVal src x k = some n) : k.min ≤ n ∧ n ≤ k.max := by
  unfold floatToIntVal at h
  split at h
  · split at h
    · rename_i hb; cases h; exact hb
    · cases h
  · cases h
theorem num_lo32 : num 13970166044103278592 = true := by decide +kernel
theorem num_hi32 : num 4746794007244308480 = true := by decide +kernel

theorem round32_mode (p : Nat) (b m : Int) (w : World) (hm : m < 0 ∨ 3 < m) :
    Calls Tryd.prog 38 #[.pointer (some ⟨p, 0, none⟩), .int .i64 b, .int .i64 m] w fun e w' => e = .returned (.tuple #[.int .i64 2, .int .i64 0]) ∧ w' = w := by
  rcases hm with hm | hm
  · go_enter Tryd.func38, Tryd.ntmps38
    go_wp2
    go_ret2
    exact ⟨rfl, rfl⟩
  · have h0 : ¬ m < 0 := by omega
    go_enter Tryd.func38, Tryd.ntmps38
    go_wp2
    go_ret2
    exact ⟨rfl, rfl⟩

theorem round32_nan (p : Nat) (b m c z : Int) (w : World) (h0 : 0 ≤ m) (h3 : m ≤ 3) (hx : num (u64 b) = false) (hq : Has 89 w p [.int .i64 c, .int .i64 z]) :
    Calls Tryd.prog 38 #[.pointer (some ⟨p, 0, none⟩), .int .i64 b, .int .i64 m] w fun e w' => e = .returned (.tuple #[.int .i64 4, .int .i64 0]) ∧ w' = w.setCell ⟨p, 1, none⟩ (.int .i64 (wrap64 (z + 1))) := by
  have k0 : ¬ m < 0 := by omega
  have k3 : ¬ 3 < m := by omega
  go_enter Tryd.func38, Tryd.ntmps38
  go_wp2_with (go_at_call 54; refine (sample_nan p b c z _ hx hq).mono ?_; rintro e w' ⟨rfl, rfl⟩)
  go_ret2
  exact ⟨rfl, rfl⟩

theorem round32_nan2 (p : Nat) (b m c z : Int) (w : World) (h0 : 0 ≤ m) (h3 : m ≤ 3) (hx : num (u64 b) = false) (hq : Has 89 w p [.int .i64 c, .int .i64 z]) :
    Calls Tryd.prog 38 #[.pointer (some ⟨p, 0, none⟩), .int .i64 b, .int .i64 m] w fun e w' => e = .returned (.tuple #[.int .i64 4, .int .i64 0]) ∧ Has 89 w' p [.int .i64 c, .int .i64 (wrap64 (z + 1))] ∧ Chg (· = p) w w' :=
  (round32_nan p b m c z w h0 h3 hx hq).mono fun e w' ⟨he, hw⟩ => by subst hw; exact ⟨he, hq.setCell 1 _, Chg.set1 w p 1 _⟩

theorem round32_num (p : Nat) (b m c z n : Int) (w : World) (h0 : 0 ≤ m) (h3 : m ≤ 3) (hx : num (u64 b) = true) (hq : Has 89 w p [.int .i64 c, .int .i64 z])
    (hn : floatToIntVal .f64 (clampF (wholeF (u64 b) m) 13970166044103278592 4746794007244308480) .i32 = some n) :
    Calls Tryd.prog 38 #[.pointer (some ⟨p, 0, none⟩), .int .i64 b, .int .i64 m] w fun e w' => e = .returned (.tuple #[.int .i64 0, .int .i64 n]) ∧
      Has 89 w' p [.int .i64 (bump c (moved (clampF (wholeF (u64 b) m) 13970166044103278592 4746794007244308480) (wholeF (u64 b) m))), .int .i64 z] ∧ Chg (· = p) w w' := by
  have k0 : ¬ m < 0 := by omega
  have k3 : ¬ 3 < m := by omega
  have hb := toInt_bounds hn
  have b1 : -2147483648 ≤ n := hb.1
  have b2 : n ≤ 2147483647 := hb.2
  have y1 := fun w => run_convert_float_int (P := Tryd.prog) w 56 21 .f64 .i32 _ n (by rw [Tryd.underlying56]; rfl) Tryd.underlying21 hn
  clear hb hn
  go_enter Tryd.func38, Tryd.ntmps38
  go_wp2_with (first
    | (go_at_call 54; refine (sample_num p b _ hx).mono ?_; rintro e w' ⟨rfl, rfl⟩)
    | (go_at_call 56; refine (whole_num (u64 b) m _ hx).mono ?_; rintro e w' ⟨rfl, rfl⟩)
    | (go_at_call 55; refine (clamp_any p (wholeF (u64 b) m) 13970166044103278592 4746794007244308480 c z _ (num_wholeF m hx) num_lo32 num_hi32 hq).mono ?_; rintro e w' ⟨rfl, hq1, hc1⟩))
  go_ret2
  exact ⟨rfl, hq1, hc1⟩
end Go.Proofs.Qxb6500376aDoor
