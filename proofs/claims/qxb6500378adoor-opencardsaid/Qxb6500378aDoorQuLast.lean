/- Widen's number, Scale, the fast calls. -/
import Derived.Test.Qxb6500378aDoorQuMore
namespace Go.Proofs.Qxb6500378aDoor
set_option linter.unusedVariables false
set_option linter.unusedSimpArgs false
open Go.RowKit Go.Qu

theorem widen_num (p : Nat) (b : Int) (r : Nat) (w : World) (h0 : 0 ≤ b) (h1 : b ≤ 4294967295) (hx : num32 (u32 b) = true)
    (hr : floatToFloatBits .f32 (u32 b) .f64 = some r) :
    Calls Tryd.prog 27 #[.pointer (some ⟨p, 0, none⟩), .int .i64 b] w fun e w' => e = .returned (.tuple #[.int .i64 0, .int .i64 (wrap64 r)]) ∧ w' = w := by
  have k0 : ¬ b < 0 := by omega
  have k1 : ¬ 4294967295 < b := by omega
  have e0 : IntKind.u32.wrap b = b := by rw [IntKind.wrap_u32]; omega
  have y2 := x_f32from
  have y4 := x_f64bits
  have y3 : (FloatKind.f32.format.order b.toNat b.toNat != some .eq) = false := by
    have := neq_self32 (u32 b); rw [hx] at this; unfold u32 at this; rw [e0] at this; exact this
  unfold u32 at hr; rw [e0] at hr
  have y1 := fun w => run_convert_float_float (P := Tryd.prog) w 59 53 .f32 .f64 _ r (by rw [Tryd.underlying59]; rfl) Tryd.underlying53 hr
  clear hx hr
  go_enter Tryd.func27, Tryd.ntmps27
  go_wp2
  go_ret2
  exact ⟨rfl, rfl⟩

theorem scale_factor (p : Nat) (a b : Int) (w : World) (h : a < -2147483648 ∨ 2147483648 < a ∨ b < -2147483648 ∨ 2147483648 < b) :
    Calls Tryd.prog 54 #[.pointer (some ⟨p, 0, none⟩), .int .i64 a, .int .i64 b] w fun e w' => e = .returned (.tuple #[.int .i64 6, .int .i64 0, .int .i64 0]) ∧ w' = w := by
  by_cases c1 : a < -2147483648
  · go_enter Tryd.func54, Tryd.ntmps54
    go_wp2
    go_ret3
    exact ⟨rfl, rfl⟩
  by_cases c2 : 2147483648 < a
  · go_enter Tryd.func54, Tryd.ntmps54
    go_wp2
    go_ret3
    exact ⟨rfl, rfl⟩
  by_cases c3 : b < -2147483648
  · go_enter Tryd.func54, Tryd.ntmps54
    go_wp2
    go_ret3
    exact ⟨rfl, rfl⟩
  have c4 : 2147483648 < b := by omega
  go_enter Tryd.func54, Tryd.ntmps54
  go_wp2
  go_ret3
  exact ⟨rfl, rfl⟩

theorem x_fma (x y z r : Nat) (h : Ieee.double.fma x y z = some r) (w : World) : (callFunc 88 #[.float .f64 x, .float .f64 y, .float .f64 z]).run Tryd.prog w = .ok (.value (.float .f64 r)) w := by
  rw [run_callFunc_extern (e := Extern.MathFMA.fma) Tryd.func88 (by kernel_rfl) (by kernel_rfl) (by kernel_rfl) (by kernel_rfl)]
  change ((Sem.run Tryd.prog (match Ieee.double.fma x y z with
    | some r => pure (Value.float .f64 r)
    | none => _) w).andThen _) = _
  rw [h]
  rfl
theorem x_neg (x : Nat) (w : World) : (Op.unary .neg (.float .f64 x)).run Tryd.prog w = .ok (.float .f64 (Op.negFloat .f64 x)) w := by kernel_rfl

theorem scale_num (p : Nat) (a b n k : Int) (h t : Nat) (w : World) (a1 : -2147483648 ≤ a) (a2 : a ≤ 2147483648) (b1 : -2147483648 ≤ b) (b2 : b ≤ 2147483648)
    (hh : floatBits .mul .f64 (floatOfInt .f64 a) (floatOfInt .f64 b) = some h) (ht : Ieee.double.fma (floatOfInt .f64 a) (floatOfInt .f64 b) (Op.negFloat .f64 h) = some t)
    (hn : floatToIntVal .f64 h .i64 = some n) (hk : floatToIntVal .f64 t .i64 = some k) :
    Calls Tryd.prog 54 #[.pointer (some ⟨p, 0, none⟩), .int .i64 a, .int .i64 b] w fun e w' => e = .returned (.tuple #[.int .i64 0, .int .i64 n, .int .i64 k]) ∧ w' = w := by
  have c1 : ¬ a < -2147483648 := by omega
  have c2 : ¬ 2147483648 < a := by omega
  have c3 : ¬ b < -2147483648 := by omega
  have c4 : ¬ 2147483648 < b := by omega
  have y1 := fun w => run_float_arith (P := Tryd.prog) w .mul 53 .f64 _ _ h hh
  have y2 := x_neg
  have y3 := x_fma _ _ _ _ ht
  have y4 := fun w => run_convert_float_int (P := Tryd.prog) w 53 3 .f64 .i64 _ n (by rw [Tryd.underlying53]; rfl) Tryd.underlying3 hn
  have y5 := fun w => run_convert_float_int (P := Tryd.prog) w 53 3 .f64 .i64 _ k (by rw [Tryd.underlying53]; rfl) Tryd.underlying3 hk
  clear hh ht hn hk a1 a2 b1 b2
  go_enter Tryd.func54, Tryd.ntmps54
  go_wp2
  go_ret3
  exact ⟨rfl, rfl⟩

theorem shift_low (p : Nat) (v n : Int) (w : World) (h : v < -2147483648) :
    Calls Tryd.prog 55 #[.pointer (some ⟨p, 0, none⟩), .int .i64 v, .int .i64 n] w fun e w' => e = .returned (.tuple #[.int .i64 5, .int .i64 0]) ∧ w' = w := by
  go_enter Tryd.func55, Tryd.ntmps55
  go_wp2
  go_ret2
  exact ⟨rfl, rfl⟩

theorem shift_high (p : Nat) (v n : Int) (w : World) (h : 2147483647 < v) :
    Calls Tryd.prog 55 #[.pointer (some ⟨p, 0, none⟩), .int .i64 v, .int .i64 n] w fun e w' => e = .returned (.tuple #[.int .i64 5, .int .i64 0]) ∧ w' = w := by
  have c1 : ¬ v < -2147483648 := by omega
  go_enter Tryd.func55, Tryd.ntmps55
  go_wp2
  go_ret2
  exact ⟨rfl, rfl⟩

theorem shift_left (p : Nat) (v n : Int) (w : World) (h1 : -2147483648 ≤ v) (h2 : v ≤ 2147483647) (h3 : 0 ≤ n) (h4 : n < 32) :
    Calls Tryd.prog 55 #[.pointer (some ⟨p, 0, none⟩), .int .i64 v, .int .i64 n] w fun e w' => e = .returned (.tuple #[.int .i64 0, .int .i64 (wrap64 (wrap32 (v * 2 ^ n.toNat)))]) ∧ w' = w.drew := by
  have c1 : ¬ v < -2147483648 := by omega
  have c2 : ¬ 2147483647 < v := by omega
  go_enter Tryd.func55, Tryd.ntmps55
  go_wp2
  go_region
  go_wp2
  go_ret2
  exact ⟨rfl, rfl⟩

theorem shift_gone (p : Nat) (v n : Int) (w : World) (h1 : -2147483648 ≤ v) (h2 : v ≤ 2147483647) (h3 : 32 ≤ n) :
    Calls Tryd.prog 55 #[.pointer (some ⟨p, 0, none⟩), .int .i64 v, .int .i64 n] w fun e w' => e = .returned (.tuple #[.int .i64 0, .int .i64 (wrap64 (wrap32 (v * 4294967296)))]) ∧ w' = w.drew := by
  have c1 : ¬ v < -2147483648 := by omega
  have c2 : ¬ 2147483647 < v := by omega
  have h4 : 0 ≤ n := by omega
  go_enter Tryd.func55, Tryd.ntmps55
  go_wp2
  go_region
  go_wp2
  go_ret2
  exact ⟨rfl, rfl⟩

theorem shift_right (p : Nat) (v n : Int) (w : World) (h1 : -2147483648 ≤ v) (h2 : v ≤ 2147483647) (h3 : n < 0) (h4 : -32 < n) :
    Calls Tryd.prog 55 #[.pointer (some ⟨p, 0, none⟩), .int .i64 v, .int .i64 n] w fun e w' => e = .returned (.tuple #[.int .i64 0, .int .i64 (wrap64 (v / 2 ^ (-n).toNat))]) ∧ w' = w.drew := by
  have c1 : ¬ v < -2147483648 := by omega
  have c2 : ¬ 2147483647 < v := by omega
  go_enter Tryd.func55, Tryd.ntmps55
  go_wp2
  go_region
  go_wp2
  go_ret2
  exact ⟨rfl, rfl⟩

theorem shift_sign (p : Nat) (v n : Int) (w : World) (h1 : -2147483648 ≤ v) (h2 : v ≤ 2147483647) (h3 : n ≤ -32) :
    Calls Tryd.prog 55 #[.pointer (some ⟨p, 0, none⟩), .int .i64 v, .int .i64 n] w fun e w' => e = .returned (.tuple #[.int .i64 0, .int .i64 (v / 4294967296)]) ∧ w' = w.drew := by
  have c1 : ¬ v < -2147483648 := by omega
  have c2 : ¬ 2147483647 < v := by omega
  by_cases h5 : n = -32
  · subst h5
    clear h3
    go_enter Tryd.func55, Tryd.ntmps55
    go_wp2
    go_region
    go_wp2
    go_ret2
    exact ⟨rfl, rfl⟩
  · have h6 : n < -32 := by omega
    have h7 : n < 0 := by omega
    have h8 : ¬ 0 ≤ n := by omega
    clear h3 h5
    go_enter Tryd.func55, Tryd.ntmps55
    go_wp2
    go_region
    go_wp2
    go_ret2
    exact ⟨rfl, rfl⟩
end Go.Proofs.Qxb6500378aDoor
