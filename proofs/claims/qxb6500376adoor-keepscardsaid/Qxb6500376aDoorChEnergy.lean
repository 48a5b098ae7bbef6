/- Energy, Rms, Span. -/
import Derived.Test.Qxb6500376aDoorChTune
namespace Go.Proofs.Qxb6500376aDoor
set_option linter.unusedVariables false
set_option linter.unusedSimpArgs false
open Go.RowKit Go.Qu

def enHi (s : CS) : Int := wrap64 (bits .or .u64 (IntKind.u64.wrap (s.hi * 4294967296)) (s.lo / 4294967296))
def enLo (s : CS) : Int := wrap64 (bits .and .u64 s.lo 4294967295)
set_option maxHeartbeats 1000000 in
theorem energy_any (p : Nat) (l : Lk) (s : CS) (c z : Int) (w : World) (h : CA w p l s c z) (l1 : 0 ≤ s.lo) (l2 : s.lo < 18446744073709551616) (i1 : 0 ≤ s.hi) (i2 : s.hi < 18446744073709551616) :
    Calls Tryd.prog 30 #[.pointer (some ⟨p, 0, none⟩)] w fun e w' => e = .returned (.tuple #[.int .i64 (enHi s), .int .i64 (enLo s)]) ∧ ∃ n, w' = w.drewN n := by
  have h15 := h.c15
  have h16 := h.c16
  clear h
  go_enter Tryd.func30, Tryd.ntmps30
  go_wp2
  go_quiet (fail)
  go_wp2
  go_ret2
  exact ⟨rfl, nq, rfl⟩

def rmsN (s : CS) : Int := bits .or .u64 (IntKind.u64.wrap (s.hi * 1125899906842624)) (s.lo / 16384)
theorem x_sqrt (x r : Nat) (h : Ieee.double.sqrt x = some r) (w : World) : (callFunc 60 #[.float .f64 x]).run Tryd.prog w = .ok (.value (.float .f64 r)) w := by
  rw [run_callFunc_extern (e := Extern.MathSqrt.sqrt) Tryd.func60 (by kernel_rfl) (by kernel_rfl) (by kernel_rfl) (by kernel_rfl)]
  change ((Sem.run Tryd.prog (match Ieee.double.sqrt x with
    | some r => pure (Value.float .f64 r)
    | none => _) w).andThen _) = _
  rw [h]
  rfl
set_option maxRecDepth 100000 in
set_option maxHeartbeats 1000000 in
theorem rms_any (p : Nat) (l : Lk) (s : CS) (c z k : Int) (r : Nat) (w : World) (h : CA w p l s c z) (l1 : 0 ≤ s.lo) (l2 : s.lo < 18446744073709551616) (i1 : 0 ≤ s.hi) (i2 : s.hi < 18446744073709551616)
    (hr : Ieee.double.sqrt (floatOfInt .f64 (rmsN s)) = some r) (hk : floatToIntVal .f64 r .i64 = some k) :
    Calls Tryd.prog 33 #[.pointer (some ⟨p, 0, none⟩)] w fun e w' => e = .returned (.int .i64 k) ∧ ∃ n, w' = w.drewN n := by
  have h15 := h.c15
  have h16 := h.c16
  unfold rmsN at hr
  have y1 := x_sqrt _ r hr
  have y2 := fun w => run_convert_float_int (P := Tryd.prog) w 56 3 .f64 .i64 _ k (by rw [Tryd.underlying56]; rfl) Tryd.underlying3 hk
  clear h hr hk
  go_enter Tryd.func33, Tryd.ntmps33
  go_wp2
  go_quiet (fail)
  go_wp2
  go_ret
  exact ⟨rfl, nq, rfl⟩

def pickF (neg : Bool) (win : Ordering) (x y : Nat) : Nat :=
  if Ieee.double.read x == .infinity neg || Ieee.double.read y == .infinity neg then Ieee.double.write (.infinity neg)
  else if (Ieee.double.read x).isNaN || (Ieee.double.read y).isNaN then 9221120237041090561
  else if (Ieee.double.read x).isZero && (Ieee.double.read y).isZero then (if (Ieee.double.read x).neg == neg then x else y)
  else if (Ieee.double.read x).order (Ieee.double.read y) == some win then x else y
theorem x_max (x y : Nat) (w : World) : (callFunc 61 #[.float .f64 x, .float .f64 y]).run Tryd.prog w = .ok (.value (.float .f64 (pickF false .gt x y))) w := by kernel_rfl
theorem x_min (x y : Nat) (w : World) : (callFunc 63 #[.float .f64 x, .float .f64 y]).run Tryd.prog w = .ok (.value (.float .f64 (pickF true .lt x y))) w := by kernel_rfl
theorem mathMax_any (x y : Nat) (w : World) : Calls Tryd.prog 51 #[.float .f64 x, .float .f64 y] w fun e w' => e = .returned (.float .f64 (pickF false .gt x y)) ∧ w' = w := by
  have y1 := x_max
  go_enter Tryd.func51, Tryd.ntmps51
  go_wp2
  go_ret
  exact ⟨rfl, rfl⟩
theorem mathMin_any (x y : Nat) (w : World) : Calls Tryd.prog 52 #[.float .f64 x, .float .f64 y] w fun e w' => e = .returned (.float .f64 (pickF true .lt x y)) ∧ w' = w := by
  have y1 := x_min
  go_enter Tryd.func52, Tryd.ntmps52
  go_wp2
  go_ret
  exact ⟨rfl, rfl⟩
theorem x_neg (x : Nat) (w : World) : (Op.unary .neg (.float .f64 x)).run Tryd.prog w = .ok (.float .f64 (Op.negFloat .f64 x)) w := by kernel_rfl
set_option maxHeartbeats 1000000 in
theorem span_any (p : Nat) (l : Lk) (s : CS) (c z : Int) (w : World) (h : CA w p l s c z) :
    Calls Tryd.prog 34 #[.pointer (some ⟨p, 0, none⟩)] w fun e w' => e = .returned (.tuple #[.int .i64 (wrap64 (pickF false .gt s.peak (Op.negFloat .f64 s.dip))), .int .i64 (wrap64 (pickF true .lt s.peak (Op.negFloat .f64 s.dip)))]) ∧ ∃ n, w' = w.drewN n := by
  have h4 := h.c4
  have h5 := h.c5
  have y1 := x_f64bits
  have y2 := x_neg
  clear h
  go_enter Tryd.func34, Tryd.ntmps34
  go_wp2
  go_quiet ((first
    | (go_at_call 51; exact Calls.quiet_of_same (mathMax_any _ _ _))
    | (go_at_call 52; exact Calls.quiet_of_same (mathMin_any _ _ _))))
  go_wp2
  go_ret2
  exact ⟨rfl, nq, rfl⟩
end Go.Proofs.Qxb6500376aDoor
