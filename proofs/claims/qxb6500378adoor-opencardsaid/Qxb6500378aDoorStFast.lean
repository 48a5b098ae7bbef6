/- The fast calls on every input. -/
import Derived.Test.Qxb6500378aDoorQuWild
import Derived.Test.Qxb6500378aDoorStReal
import Derived.Test.Qxb6500378aDoorMoBits
namespace Go.Proofs.Qxb6500378aDoor
set_option linter.unusedVariables false
set_option linter.unusedSimpArgs false
set_option maxHeartbeats 2000000
open Go.RowKit Go.Qu Ieee

theorem no_int {x : Nat} (h : double.infRung ≤ rung double x) (k : IntKind) : floatToIntVal .f64 x k = none := by
  unfold floatToIntVal
  rw [show FloatKind.f64.decode x = double.read x from rfl]
  have : (double.read x).toInt .zero = none := by
    rcases Nat.lt_or_ge double.infRung (rung double x) with h1 | h1
    · unfold rung at h1
      unfold Format.read
      dsimp only
      rw [if_neg (by have := d_bi; omega), if_neg (by omega), if_neg (by omega)]
      rfl
    · rw [read_inf double (by omega) d_bi]; rfl
  rw [this]

/-- what the library's rounding makes of no number -/
def nanV (x : Nat) (w : World) : Nat := match double.read x with
  | .nan s t => if double.quiet t = t then x else if (Question.extern "math.Floor,Ceil,Trunc,RoundToEven.signallingNaN kept" 2).cut (w.tape w.drawn (.extern "math.Floor,Ceil,Trunc,RoundToEven.signallingNaN kept" 2)) == 1 then x else double.write (.nan s (double.quiet t))
  | _ => x
def nanW (x : Nat) (w : World) : World := match double.read x with
  | .nan s t => if double.quiet t = t then w else w.drew
  | _ => w
theorem nanW_chg (x : Nat) (w : World) : Chg (fun _ => False) w (nanW x w) := by
  unfold nanW
  split
  · split
    · exact Chg.refl _ _
    · exact (Chg.refl _ _).drew
  · exact Chg.refl _ _
theorem nanV_rung (x : Nat) (w : World) (hx : double.infRung < rung double x) : double.infRung ≤ rung double (nanV x w) := by
  unfold nanV
  split
  · split
    · omega
    · split
      · omega
      · rename_i s t _ _ _
        have e : double.write (.nan s (double.quiet t)) = double.word s (double.infRung + double.quiet t % double.binade) := rfl
        have hb := d_binade
        have hi := d_inf
        have hw := d_weight
        have := Nat.mod_lt (double.quiet t) (by rw [hb]; decide : 0 < double.binade)
        rw [e, rung_word double _ (by omega)]
        omega
  · omega
theorem nan_read {x : Nat} (hx : double.infRung < rung double x) : ∃ s t, double.read x = .nan s t := by
  unfold rung at hx
  unfold Format.read
  dsimp only
  rw [if_neg (by have := d_bi; omega), if_neg (by omega), if_neg (by omega)]
  exact ⟨_, _, rfl⟩
theorem run_nan {P : Program} (w : World) (name : String) (g : Toward) (x : Nat) (hx : double.infRung < rung double x) : (Extern.MathFloor.toIntegral name g #[.float .f64 x]).run P w = .ok (.float .f64 (nanV x w)) (nanW x w) := by
  obtain ⟨s, t, e⟩ := nan_read hx
  unfold nanV nanW
  change Sem.run P (match double.read x with
    | .nan s t => if FloatKind.f64.format.quiet t = t then pure (Value.float .f64 x) else _
    | d => pure (Value.float .f64 (FloatKind.f64.encode (d.integral g)))) w = _
  rw [e]
  dsimp only
  by_cases hq : double.quiet t = t
  · rw [if_pos (by exact hq), if_pos hq, if_pos hq]; rfl
  · rw [if_neg (by exact hq), if_neg hq, if_neg hq]
    rfl
theorem n_floor (x : Nat) (hx : double.infRung < rung double x) (w : World) : (callFunc 96 #[.float .f64 x]).run Tryd.prog w = .ok (.value (.float .f64 (nanV x w))) (nanW x w) := by
  rw [run_callFunc_extern (e := Extern.MathFloor.toIntegral "math.archFloor" .down) Tryd.func96 (by kernel_rfl) (by kernel_rfl) (by kernel_rfl) (by kernel_rfl), run_nan w _ _ x hx]; rfl
theorem n_ceil (x : Nat) (hx : double.infRung < rung double x) (w : World) : (callFunc 98 #[.float .f64 x]).run Tryd.prog w = .ok (.value (.float .f64 (nanV x w))) (nanW x w) := by
  rw [run_callFunc_extern (e := Extern.MathFloor.toIntegral "math.archCeil" .up) Tryd.func98 (by kernel_rfl) (by kernel_rfl) (by kernel_rfl) (by kernel_rfl), run_nan w _ _ x hx]; rfl
theorem n_even (x : Nat) (hx : double.infRung < rung double x) (w : World) : (callFunc 47 #[.float .f64 x]).run Tryd.prog w = .ok (.value (.float .f64 (nanV x w))) (nanW x w) := by
  rw [run_callFunc_extern (e := Extern.MathFloor.toIntegral "math.RoundToEven" .even) Tryd.func47 (by kernel_rfl) (by kernel_rfl) (by kernel_rfl) (by kernel_rfl), run_nan w _ _ x hx]; rfl

theorem whole_nan (x : Nat) (m : Int) (w : World) (hx : double.infRung < rung double x) (hm : m = 1 ∨ m = 2 ∨ m = 3) :
    Calls Tryd.prog 44 #[.float .f64 x, .int .i64 m] w fun e w' => e = .returned (.float .f64 (nanV x w)) ∧ w' = nanW x w := by
  have y1 := n_floor x hx
  have y2 := n_ceil x hx
  have y4 := n_even x hx
  rcases hm with rfl | rfl | rfl
  · go_enter Tryd.func44, Tryd.ntmps44
    go_wp2
    go_ret
    exact ⟨rfl, rfl⟩
  · go_enter Tryd.func44, Tryd.ntmps44
    go_wp2
    go_ret
    exact ⟨rfl, rfl⟩
  · go_enter Tryd.func44, Tryd.ntmps44
    go_wp2
    go_ret
    exact ⟨rfl, rfl⟩

/-- the fast rounding, on every sample -/
theorem rounded_any (x : Nat) (m : Int) (w : World) :
    Calls Tryd.prog 52 #[.float .f64 x, .int .i64 m] w fun e w' => ∃ r : Nat, e = .returned (.float .f64 r) ∧ Chg (fun _ => False) w w' ∧ (rung double x ≤ double.infRung → r = roundedF x m) ∧ (double.infRung < rung double x → double.infRung ≤ rung double r) := by
  by_cases hx : double.infRung < rung double x
  · by_cases hm : m = 1 ∨ m = 2 ∨ m = 3
    · have hm2 : m = 1 ∨ m = 2 ∨ m = 3 := hm
      have HX : Hid (double.infRung < rung double x) := hx
      clear hx
      rcases hm with rfl | rfl | rfl <;>
      · go_enter Tryd.func52, Tryd.ntmps52
        go_wp2_with (go_at_call 44; refine (whole_nan x _ _ HX.out hm2).mono ?_; rintro e w' ⟨rfl, rfl⟩)
        go_ret
        exact ⟨_, rfl, nanW_chg x w, fun h => absurd HX.out (by omega), fun _ => nanV_rung x w HX.out⟩
    · refine (rounded_plain x m w (by omega) (by omega) (by omega)).mono ?_
      rintro e w' ⟨rfl, rfl⟩
      exact ⟨x, rfl, Chg.refl _ _, fun h => by omega, fun h => by omega⟩
  · refine (rounded_num x m w (by rw [numR_iff]; exact decide_eq_true (by omega))).mono ?_
    rintro e w' ⟨rfl, rfl⟩
    exact ⟨_, rfl, Chg.refl _ _, fun _ => rfl, fun h => absurd h hx⟩

theorem rounded_int {b m : Int} (hb : I64 b) (hn : mg b ≤ 9218868437227405312) (h0 : (wholeM b m).2 = 0) : (double.read (roundedF (u64 b) m)).toInt .zero = some (wholeM b m).1 := by
  have hbig : ¬ 1085 ≤ mg b / 4503599627370496 := by
    intro h; unfold wholeM at h0; rw [if_pos h] at h0
    by_cases hb : b < 0
    · simp only [if_pos hb] at h0; simp at h0
    · simp only [if_neg hb] at h0; simp at h0
  have hr : rung double (u64 b) < double.infRung := by rw [rung_u64, d_inf]; omega
  have e1 : wholeM b m = ((if b < 0 then -(wholeN (way m) true (mg b) : Int) else wholeN (way m) false (mg b)), 0) := by unfold wholeM; rw [if_neg hbig]
  unfold roundedF
  by_cases hm : m = 1 ∨ m = 2 ∨ m = 3
  · rw [if_pos hm]
    have hI := wholeF_int m hr
    rw [rung_u64, sgn_u64 hb] at hI
    have e2 : (if decide (b < 0) = true then -(wholeN (way m) (decide (b < 0)) (mg b) : Int) else wholeN (way m) (decide (b < 0)) (mg b)) = (wholeM b m).1 := by
      rw [e1]; by_cases h0 : b < 0 <;> simp [h0]
    rw [e2] at hI
    exact hI.toInt
  · rw [if_neg hm]
    have hw : way m = .zero := by unfold way; rw [if_neg (by omega), if_neg (by omega), if_neg (by omega)]
    unfold Datum.toInt
    rw [integral_read .zero hr, rung_u64, sgn_u64 hb, e1, hw]
    dsimp only
    rw [signed_eq]
    by_cases h0 : b < 0
    · simp [h0]
    · simp [h0]

theorem fast_any32 (p : Nat) (b m : Int) (w : World) (hb : I64 b) :
    Calls Tryd.prog 29 #[.pointer (some ⟨p, 0, none⟩), .int .i64 b, .int .i64 m] w fun e w' => ∃ n : Int, e = .returned (.int .i64 n) ∧ -2147483648 ≤ n ∧ n ≤ 2147483647 ∧ (mg b ≤ 9218868437227405312 → (wholeM b m).2 = 0 → -2147483648 ≤ (wholeM b m).1 → (wholeM b m).1 ≤ 2147483647 → n = (wholeM b m).1) ∧ Chg (fun _ => False) w w' := by
  have y3 := x_f64from
  have HB : Hid (I64 b) := hb
  clear hb
  go_enter Tryd.func29, Tryd.ntmps29
  go_wp2_with fail
  refine (rounded_any (u64 b) m _).mono ?_
  rintro e w1 ⟨r, rfl, k1, r1, r2⟩
  rw [rung_u64] at r1 r2
  have K1 : Hid (Chg (fun _ => False) w w1) := k1
  have R1 : Hid (mg b ≤ double.infRung → r = roundedF (u64 b) m) := r1
  clear k1 r1 r2
  rcases hc : floatToIntVal .f64 r .i32 with _ | n
  · have y1 := fun w => run_convert_any (P := Tryd.prog) w 53 21 .f64 .i32 r (by rw [Tryd.underlying53]; rfl) Tryd.underlying21 hc
    have hbn : ∀ w, -2147483648 ≤ anyInt .f64 r .i32 w ∧ anyInt .f64 r .i32 w ≤ 2147483647 := fun w => by unfold anyInt; rw [IntKind.wrap_i32]; omega
    have b1 := (hbn w1).1
    have b2 := (hbn w1).2
    have HC : Hid (floatToIntVal .f64 r .i32 = none) := hc
    clear hc hbn
    go_wp2
    go_ret
    refine ⟨_, rfl, b1, b2, fun g1 g2 g3 g4 => ?_, K1.out.drew⟩
    exfalso
    have h1 := rounded_int (m := m) HB.out g1 g2
    rw [← R1.out (by rw [d_inf]; exact g1)] at h1
    have h2 := HC.out
    unfold floatToIntVal at h2
    rw [show FloatKind.f64.decode r = double.read r from rfl, h1] at h2
    dsimp only at h2
    rw [if_pos (by rw [show IntKind.i32.min = -2147483648 by decide, show IntKind.i32.max = 2147483647 by decide]; omega)] at h2
    cases h2
  · have hbn := toInt_bounds hc
    have b1 : -2147483648 ≤ n := hbn.1
    have b2 : n ≤ 2147483647 := hbn.2
    have y1 := fun w => run_convert_float_int (P := Tryd.prog) w 53 21 .f64 .i32 _ n (by rw [Tryd.underlying53]; rfl) Tryd.underlying21 hc
    have HC : Hid (floatToIntVal .f64 r .i32 = some n) := hc
    clear hc hbn
    go_wp2
    go_ret
    refine ⟨_, rfl, b1, b2, fun g1 g2 g3 g4 => ?_, K1.out⟩
    have h1 := rounded_int (m := m) HB.out g1 g2
    rw [← R1.out (by rw [d_inf]; exact g1)] at h1
    have h2 := HC.out
    unfold floatToIntVal at h2
    rw [show FloatKind.f64.decode r = double.read r from rfl, h1] at h2
    dsimp only at h2
    rw [if_pos (by rw [show IntKind.i32.min = -2147483648 by decide, show IntKind.i32.max = 2147483647 by decide]; omega)] at h2
    cases h2
    rfl
end Go.Proofs.Qxb6500378aDoor
