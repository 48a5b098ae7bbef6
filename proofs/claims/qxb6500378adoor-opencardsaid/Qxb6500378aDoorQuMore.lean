/- New, Clips, Narrow, Widen. -/
import Derived.Test.Qxb6500378aDoorQuRound16
import Derived.Test.Qxb6500378aDoorQuNew
namespace Go.Proofs.Qxb6500378aDoor
set_option linter.unusedVariables false
set_option linter.unusedSimpArgs false
open Go.RowKit Go.Qu

theorem clips_any (p : Nat) (c z : Int) (w : World) (hq : Has 52 w p [.int .i64 c, .int .i64 z]) :
    Calls Tryd.prog 26 #[.pointer (some ⟨p, 0, none⟩)] w fun e w' => e = .returned (.int .i64 c) ∧ w' = w := by
  have h1 : w.cell? ⟨p, 0, none⟩ = some (.int .i64 c) := hq.cell 0
  clear hq
  go_enter Tryd.func26, Tryd.ntmps26
  go_wp2
  go_ret
  exact ⟨rfl, rfl⟩

theorem num_lof : num 14407015207421345792 = true := by decide +kernel
theorem num_hif : num 5183643170566569984 = true := by decide +kernel
theorem x_f32bits (n : Nat) (w : World) : (callFunc 45 #[.float .f32 n]).run Tryd.prog w = .ok (.value (.int .u32 n)) w := by kernel_rfl
theorem x_f32from (n : Int) (w : World) : (callFunc 48 #[.int .u32 n]).run Tryd.prog w = .ok (.value (.float .f32 n.toNat)) w := by kernel_rfl

theorem narrow_nan (p : Nat) (b c z : Int) (w : World) (hx : num (u64 b) = false) (hq : Has 52 w p [.int .i64 c, .int .i64 z]) :
    Calls Tryd.prog 24 #[.pointer (some ⟨p, 0, none⟩), .int .i64 b] w fun e w' => e = .returned (.tuple #[.int .i64 4, .int .i64 0]) ∧ w' = w.setCell ⟨p, 1, none⟩ (.int .i64 (wrap64 (z + 1))) := by
  go_enter Tryd.func24, Tryd.ntmps24
  go_wp2_with (go_at_call 42; refine (sample_nan p b c z _ hx hq).mono ?_; rintro e w' ⟨rfl, rfl⟩)
  go_ret2
  exact ⟨rfl, rfl⟩

theorem narrow_num (p : Nat) (b c z : Int) (r : Nat) (w : World) (hx : num (u64 b) = true) (hq : Has 52 w p [.int .i64 c, .int .i64 z])
    (hr : floatToFloatBits .f64 (clampF (u64 b) 14407015207421345792 5183643170566569984) .f32 = some r) (hr2 : (r : Int) ≤ 4294967295) :
    Calls Tryd.prog 24 #[.pointer (some ⟨p, 0, none⟩), .int .i64 b] w fun e w' => e = .returned (.tuple #[.int .i64 0, .int .i64 r]) ∧
      Has 52 w' p [.int .i64 (bump c (moved (clampF (u64 b) 14407015207421345792 5183643170566569984) (u64 b))), .int .i64 z] ∧ Chg (· = p) w w' := by
  have y1 := fun w => run_convert_float_float (P := Tryd.prog) w 53 59 .f64 .f32 _ r (by rw [Tryd.underlying53]; rfl) Tryd.underlying59 hr
  have y2 := x_f32bits
  clear hr
  go_enter Tryd.func24, Tryd.ntmps24
  go_wp2_with (first
    | (go_at_call 42; refine (sample_num p b _ hx).mono ?_; rintro e w' ⟨rfl, rfl⟩)
    | (go_at_call 43; refine (clamp_any p (u64 b) 14407015207421345792 5183643170566569984 c z _ hx num_lof num_hif hq).mono ?_; rintro e w' ⟨rfl, hq1, hc1⟩))
  go_ret2
  exact ⟨rfl, hq1, hc1⟩

theorem widen_range (p : Nat) (b : Int) (w : World) (hb : b < 0 ∨ 4294967295 < b) :
    Calls Tryd.prog 27 #[.pointer (some ⟨p, 0, none⟩), .int .i64 b] w fun e w' => e = .returned (.tuple #[.int .i64 5, .int .i64 0]) ∧ w' = w := by
  rcases hb with hb | hb
  · go_enter Tryd.func27, Tryd.ntmps27
    go_wp2
    go_ret2
    exact ⟨rfl, rfl⟩
  · have h0 : ¬ b < 0 := by omega
    go_enter Tryd.func27, Tryd.ntmps27
    go_wp2
    go_ret2
    exact ⟨rfl, rfl⟩

theorem widen_nan (p : Nat) (b c z : Int) (w : World) (h0 : 0 ≤ b) (h1 : b ≤ 4294967295) (hx : num32 (u32 b) = false) (hq : Has 52 w p [.int .i64 c, .int .i64 z]) :
    Calls Tryd.prog 27 #[.pointer (some ⟨p, 0, none⟩), .int .i64 b] w fun e w' => e = .returned (.tuple #[.int .i64 4, .int .i64 0]) ∧ w' = w.setCell ⟨p, 1, none⟩ (.int .i64 (wrap64 (z + 1))) := by
  have k0 : ¬ b < 0 := by omega
  have k1 : ¬ 4294967295 < b := by omega
  have e0 : IntKind.u32.wrap b = b := by rw [IntKind.wrap_u32]; omega
  have y2 := x_f32from
  have y3 : (FloatKind.f32.format.order b.toNat b.toNat != some .eq) = true := by
    have := neq_self32 (u32 b); rw [hx] at this; unfold u32 at this; rw [e0] at this; exact this
  have h1 : w.cell? ⟨p, 1, none⟩ = some (.int .i64 z) := hq.cell 1
  have g1 := hq.frozen 1
  clear hx hq
  go_enter Tryd.func27, Tryd.ntmps27
  go_wp2
  go_ret2
  exact ⟨rfl, rfl⟩
end Go.Proofs.Qxb6500378aDoor
