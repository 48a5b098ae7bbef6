/- The converter's real methods: each computes the plain function of QuPlain. -/
import Derived.Test.Qxb6500376aDoorProg
import Derived.Test.Qxb6500376aDoorQuPlain
import Derived.Test.Qxb6500376aDoorQuMem
import Derived.Outline
import Derived.RegionTactic
namespace Go.Proofs.Qxb6500376aDoor
set_option linter.unusedVariables false
set_option linter.unusedSimpArgs false
open Go.RowKit Go.Qu

theorem x_f64from (n : Int) (w : World) : (callFunc 45 #[.int .u64 n]).run Tryd.prog w = .ok (.value (.float .f64 n.toNat)) w := by kernel_rfl
theorem x_f64bits (n : Nat) (w : World) : (callFunc 49 #[.float .f64 n]).run Tryd.prog w = .ok (.value (.int .u64 n)) w := by kernel_rfl
theorem x_floor (x : Nat) (hx : num x = true) (w : World) : (callFunc 77 #[.float .f64 x]).run Tryd.prog w = .ok (.value (.float .f64 (Ieee.double.write ((Ieee.double.read x).integral .down)))) w := by
  rw [run_callFunc_extern (e := Extern.MathFloor.toIntegral "math.archFloor" .down) Tryd.func77 (by kernel_rfl) (by kernel_rfl) (by kernel_rfl) (by kernel_rfl), run_integral w _ _ x hx]; rfl
theorem x_ceil (x : Nat) (hx : num x = true) (w : World) : (callFunc 79 #[.float .f64 x]).run Tryd.prog w = .ok (.value (.float .f64 (Ieee.double.write ((Ieee.double.read x).integral .up)))) w := by
  rw [run_callFunc_extern (e := Extern.MathFloor.toIntegral "math.archCeil" .up) Tryd.func79 (by kernel_rfl) (by kernel_rfl) (by kernel_rfl) (by kernel_rfl), run_integral w _ _ x hx]; rfl
theorem x_trunc (x : Nat) (hx : num x = true) (w : World) : (callFunc 81 #[.float .f64 x]).run Tryd.prog w = .ok (.value (.float .f64 (Ieee.double.write ((Ieee.double.read x).integral .zero)))) w := by
  rw [run_callFunc_extern (e := Extern.MathFloor.toIntegral "math.archTrunc" .zero) Tryd.func81 (by kernel_rfl) (by kernel_rfl) (by kernel_rfl) (by kernel_rfl), run_integral w _ _ x hx]; rfl
theorem x_even (x : Nat) (hx : num x = true) (w : World) : (callFunc 67 #[.float .f64 x]).run Tryd.prog w = .ok (.value (.float .f64 (Ieee.double.write ((Ieee.double.read x).integral .even)))) w := by
  rw [run_callFunc_extern (e := Extern.MathFloor.toIntegral "math.RoundToEven" .even) Tryd.func67 (by kernel_rfl) (by kernel_rfl) (by kernel_rfl) (by kernel_rfl), run_integral w _ _ x hx]; rfl

theorem sample_num (p : Nat) (b : Int) (w : World) (hx : num (u64 b) = true) :
    Calls Tryd.prog 54 #[.pointer (some ⟨p, 0, none⟩), .int .i64 b] w fun e w' => e = .returned (.tuple #[.float .f64 (u64 b), .bool true]) ∧ w' = w := by
  have y1 := x_f64from
  have y3 : (FloatKind.f64.format.order (IntKind.u64.wrap b).toNat (IntKind.u64.wrap b).toNat != some .eq) = false := by
    have := neq_self (u64 b); rw [hx] at this; exact this
  clear hx
  go_enter Tryd.func54, Tryd.ntmps54
  go_wp2
  go_ret2
  exact ⟨rfl, rfl⟩

theorem sample_nan (p : Nat) (b c z : Int) (w : World) (hx : num (u64 b) = false) (hq : Has 89 w p [.int .i64 c, .int .i64 z]) :
    Calls Tryd.prog 54 #[.pointer (some ⟨p, 0, none⟩), .int .i64 b] w fun e w' => e = .returned (.tuple #[.float .f64 0, .bool false]) ∧ w' = w.setCell ⟨p, 1, none⟩ (.int .i64 (wrap64 (z + 1))) := by
  have y1 := x_f64from
  have y3 : (FloatKind.f64.format.order (IntKind.u64.wrap b).toNat (IntKind.u64.wrap b).toNat != some .eq) = true := by
    have := neq_self (u64 b); rw [hx] at this; exact this
  have h1 : w.cell? ⟨p, 1, none⟩ = some (.int .i64 z) := hq.cell 1
  have g1 := hq.frozen 1
  clear hx hq
  go_enter Tryd.func54, Tryd.ntmps54
  go_wp2
  go_ret2
  exact ⟨rfl, rfl⟩

theorem whole_num (x : Nat) (m : Int) (w : World) (hx : num x = true) :
    Calls Tryd.prog 56 #[.float .f64 x, .int .i64 m] w fun e w' => e = .returned (.float .f64 (wholeF x m)) ∧ w' = w := by
  have y1 := x_floor x hx
  have y2 := x_ceil x hx
  have y3 := x_trunc x hx
  have y4 := x_even x hx
  unfold wholeF way
  by_cases h1 : m = 1
  · subst h1
    go_enter Tryd.func56, Tryd.ntmps56
    go_wp2
    go_ret
    exact ⟨rfl, rfl⟩
  by_cases h2 : m = 2
  · subst h2
    go_enter Tryd.func56, Tryd.ntmps56
    go_wp2
    go_ret
    exact ⟨rfl, rfl⟩
  by_cases h3 : m = 3
  · subst h3
    go_enter Tryd.func56, Tryd.ntmps56
    go_wp2
    go_ret
    exact ⟨rfl, rfl⟩
  rw [if_neg h1, if_neg h2, if_neg h3]
  have k1 : (m == 1) = false := by simpa using h1
  have k2 : (m == 2) = false := by simpa using h2
  have k3 : (m == 3) = false := by simpa using h3
  clear h1 h2 h3
  go_enter Tryd.func56, Tryd.ntmps56
  go_wp2
  go_ret
  exact ⟨rfl, rfl⟩

theorem clamp_kept (p x lo hi : Nat) (w : World) (hx : num x = true) (hl : num lo = true) (hh : num hi = true) (hm : moved (clampF x lo hi) x = false) :
    Calls Tryd.prog 55 #[.pointer (some ⟨p, 0, none⟩), .float .f64 x, .float .f64 lo, .float .f64 hi] w fun e w' => e = .returned (.float .f64 (clampF x lo hi)) ∧ w' = w := by
  have y1 := fun w => run_max (P := Tryd.prog) w #[56, 56] 56 x lo hx hl
  have y2 := fun w => run_min (P := Tryd.prog) w #[56, 56] 56 (maxF x lo) hi (num_maxF hx hl) hh
  have hm' : (FloatKind.f64.format.order (minF (maxF x lo) hi) x != some .eq) = _ := hm
  clear hm
  unfold clampF
  clear hx hl hh
  go_enter Tryd.func55, Tryd.ntmps55
  go_wp2
  go_ret
  exact ⟨rfl, rfl⟩

theorem clamp_moved (p x lo hi : Nat) (c z : Int) (w : World) (hx : num x = true) (hl : num lo = true) (hh : num hi = true) (hm : moved (clampF x lo hi) x = true)
    (hq : Has 89 w p [.int .i64 c, .int .i64 z]) :
    Calls Tryd.prog 55 #[.pointer (some ⟨p, 0, none⟩), .float .f64 x, .float .f64 lo, .float .f64 hi] w fun e w' => e = .returned (.float .f64 (clampF x lo hi)) ∧ w' = w.setCell ⟨p, 0, none⟩ (.int .i64 (wrap64 (c + 1))) := by
  have y1 := fun w => run_max (P := Tryd.prog) w #[56, 56] 56 x lo hx hl
  have y2 := fun w => run_min (P := Tryd.prog) w #[56, 56] 56 (maxF x lo) hi (num_maxF hx hl) hh
  have h1 : w.cell? ⟨p, 0, none⟩ = some (.int .i64 c) := hq.cell 0
  have g1 := hq.frozen 0
  have hm' : (FloatKind.f64.format.order (minF (maxF x lo) hi) x != some .eq) = _ := hm
  clear hm
  unfold clampF
  clear hx hl hh hq
  go_enter Tryd.func55, Tryd.ntmps55
  go_wp2
  go_ret
  exact ⟨rfl, rfl⟩

theorem clamp_any (p x lo hi : Nat) (c z : Int) (w : World) (hx : num x = true) (hl : num lo = true) (hh : num hi = true)
    (hq : Has 89 w p [.int .i64 c, .int .i64 z]) :
    Calls Tryd.prog 55 #[.pointer (some ⟨p, 0, none⟩), .float .f64 x, .float .f64 lo, .float .f64 hi] w fun e w' => e = .returned (.float .f64 (clampF x lo hi)) ∧ Has 89 w' p [.int .i64 (bump c (moved (clampF x lo hi) x)), .int .i64 z] ∧ Chg (· = p) w w' := by
  cases hm : moved (clampF x lo hi) x with
  | false => exact (clamp_kept p x lo hi w hx hl hh hm).mono fun e w' ⟨he, hw⟩ => by subst hw; exact ⟨he, hq, Chg.refl _ _⟩
  | true => exact (clamp_moved p x lo hi c z w hx hl hh hm hq).mono fun e w' ⟨he, hw⟩ => by subst hw; exact ⟨he, hq.setCell 0 _, Chg.set1 w p 0 _⟩
end Go.Proofs.Qxb6500376aDoor
