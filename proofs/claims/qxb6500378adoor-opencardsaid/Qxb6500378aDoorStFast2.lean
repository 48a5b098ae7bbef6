/- The fast calls on every input, second part. -/
import Derived.Test.Qxb6500378aDoorStFast

import Derived.Test.Qxb6500378aDoorQuShift
namespace Go.Qu
set_option linter.unusedVariables false
set_option linter.unusedSimpArgs false
open Ieee
/-- the answer to a conversion to float32 that Go leaves open -/
def anyF (b : Nat) (w : World) : Nat := match double.read b with
  | .nan _ _ => (Question.nanConv .f32 b).cut (w.tape w.drawn (.nanConv .f32 b))
  | _ => (Question.floatToFloat b).cut (w.tape w.drawn (.floatToFloat b))
theorem anyF_lt (b : Nat) (w : World) : anyF b w < 4294967296 := by
  unfold anyF
  split
  · show (_ % 2) * 2 ^ 31 + 0x7f800000 + 1 + (_ / 2) % (2 ^ 23 - 1) < 4294967296
    omega
  · show _ % 2 ^ 32 < 4294967296
    omega
theorem anyF_nan (b : Nat) (w : World) {s : Bool} {t : Nat} (h : double.read b = .nan s t) : 2139095040 < anyF b w % 2147483648 := by
  unfold anyF
  rw [h]
  show 2139095040 < ((w.tape w.drawn (.nanConv .f32 b) % 2) * 2 ^ 31 + 0x7f800000 + 1 + (w.tape w.drawn (.nanConv .f32 b) / 2) % (2 ^ 23 - 1)) % 2147483648
  generalize w.tape w.drawn (.nanConv .f32 b) = n
  obtain ⟨k, hk⟩ : ∃ k, n / 2 % (2 ^ 23 - 1) = k := ⟨_, rfl⟩
  have hk2 : k < 8388607 := by rw [← hk]; exact Nat.mod_lt _ (by decide)
  have hp : n % 2 = 0 ∨ n % 2 = 1 := by omega
  rw [hk]
  rcases hp with hp | hp <;> rw [hp] <;> omega
theorem run_convert_anyF {P : Program} (w : World) (src dst : TypeId) (b : Nat) (hs : (P.underlying src).isSome = true) (hd : P.underlying dst = some (.float .f32)) (h : floatToFloatBits .f64 b .f32 = none) :
    (convert src dst (.float .f64 b)).run P w = .ok (.float .f32 (anyF b w)) w.drew := by
  obtain ⟨u, hs'⟩ := Option.isSome_iff_exists.1 hs
  unfold floatToFloatBits at h
  rw [if_neg (by decide), show FloatKind.f64.decode b = double.read b from rfl] at h
  unfold anyF
  split at h
  · rename_i s t e
    cases u <;> simp [convert, run_underlying hs', run_underlying hd, Conv.floatToFloat, show FloatKind.f64.decode b = double.read b from rfl, e, Question.forced] <;> rfl
  · cases h
  · rename_i s m i e
    split at h
    · rename_i hi
      cases u <;> simp [convert, run_underlying hs', run_underlying hd, Conv.floatToFloat, show FloatKind.f64.decode b = double.read b from rfl, e, hi, Question.forced] <;> rfl
    · cases h
/-- FastClamp's answer to a number, as bits -/
def clampI (b : Int) : Int := if b < 0 then (if 4746794007248502784 < mg b then -4476578029606273024 else b) else (if 4746794007244308480 < b then 4746794007244308480 else b)
theorem sr_u64 {b : Int} (hb : I64 b) : sr double (u64 b) = if b < 0 then -(mg b : Int) else mg b := by
  unfold sr; rw [rung_u64, sgn_u64 hb]; by_cases h0 : b < 0 <;> simp [h0]
theorem lo_sr : sr double 13970166044103278592 = -4746794007248502784 := by decide +kernel
theorem hi_sr : sr double 4746794007244308480 = 4746794007244308480 := by decide +kernel
theorem lo_rung : rung double 13970166044103278592 ≤ double.infRung := by decide +kernel
theorem hi_rung : rung double 4746794007244308480 ≤ double.infRung := by decide +kernel
theorem back_bits {b : Int} (hb : I64 b) : Go.RowKit.wrap64 (u64 b : Int) = b := by
  have h := u64_val b
  unfold I64 at hb
  rw [Go.RowKit.wrap64]; omega
theorem mg_val {b : Int} (hb : I64 b) : (mg b : Int) = if b < 0 then b + 9223372036854775808 else b := by
  unfold I64 at hb; unfold mg; split <;> omega
theorem clamp_bits {b : Int} (hb : I64 b) (hn : mg b ≤ 9218868437227405312) : Go.RowKit.wrap64 (clampF (u64 b) 13970166044103278592 4746794007244308480 : Int) = clampI b := by
  have hx : rung double (u64 b) ≤ double.infRung := by rw [rung_u64, d_inf]; exact hn
  rw [clamp_sr hx lo_rung hi_rung (by rw [lo_sr]; decide) (by rw [hi_sr]; decide), lo_sr, hi_sr, sr_u64 hb]
  have hv := mg_val hb
  unfold clampI
  by_cases h0 : b < 0
  · rw [if_pos h0, if_pos h0]
    rw [if_pos h0] at hv
    by_cases h1 : 4746794007248502784 < mg b
    · rw [if_pos (by omega), if_pos h1]; decide +kernel
    · rw [if_neg h1]
      by_cases h2 : mg b = 4746794007248502784
      · rw [if_pos (by omega)]
        have : b = -4476578029606273024 := by omega
        subst this; decide +kernel
      · rw [if_neg (by omega), if_neg (by omega), back_bits hb]
  · rw [if_neg h0, if_neg h0]
    rw [if_neg h0] at hv
    by_cases h1 : 4746794007244308480 < b
    · rw [if_neg (by omega), if_pos (by omega), if_pos h1]; decide +kernel
    · rw [if_neg h1]
      by_cases h2 : b = 4746794007244308480
      · rw [if_neg (by omega), if_pos (by omega)]
        subst h2; decide +kernel
      · rw [if_neg (by omega), if_neg (by omega), back_bits hb]
theorem clampBack_bits {b : Int} (hb : I64 b) (hn : mg b ≤ 9218868437227405312) : Go.RowKit.wrap64 (minF 4746794007244308480 (maxF 13970166044103278592 (u64 b)) : Int) = clampI b := by
  have hx : rung double (u64 b) ≤ double.infRung := by rw [rung_u64, d_inf]; exact hn
  have hv := mg_val hb
  have hlo : sgn double 13970166044103278592 = true := by decide +kernel
  have hhi : sgn double 4746794007244308480 = false := by decide +kernel
  have e1 : maxF 13970166044103278592 (u64 b) = if sr double (u64 b) < -4746794007248502784 then 13970166044103278592 else u64 b := by
    rw [maxF_sr lo_rung hx, lo_sr]
    by_cases h1 : (-4746794007248502784 : Int) < sr double (u64 b)
    · rw [if_pos h1, if_neg (by omega)]
    · rw [if_neg h1]
      by_cases h2 : sr double (u64 b) < -4746794007248502784
      · rw [if_pos h2, if_pos h2]
      · rw [if_neg h2, if_neg h2, hlo]; rfl
  rw [e1]
  unfold clampI
  by_cases h0 : b < 0
  · have hs := sr_u64 hb
    rw [if_pos h0] at hs hv
    rw [if_pos h0]
    by_cases h1 : 4746794007248502784 < mg b
    · rw [if_pos (by omega), if_pos h1]; decide +kernel
    · rw [if_neg (by omega), if_neg h1, minF_sr hi_rung hx, hi_sr, if_neg (by omega), if_pos (by omega), back_bits hb]
  · have hs := sr_u64 hb
    rw [if_neg h0] at hs hv
    rw [if_neg h0, if_neg (by omega), minF_sr hi_rung hx, hi_sr, hhi]
    by_cases h1 : 4746794007244308480 < b
    · rw [if_pos (by omega), if_pos h1]; decide +kernel
    · rw [if_neg h1, if_neg (by omega)]
      by_cases h2 : sr double (u64 b) < 4746794007244308480
      · rw [if_pos h2, back_bits hb]
      · rw [if_neg h2, if_neg (by decide), back_bits hb]
end Go.Qu
namespace Go.Proofs.Qxb6500378aDoor
set_option linter.unusedVariables false
set_option linter.unusedSimpArgs false
set_option maxHeartbeats 2000000
set_option maxRecDepth 100000
open Go.RowKit Go.Qu Ieee

theorem fast_any16 (p : Nat) (b m : Int) (w : World) (hb : I64 b) :
    Calls Tryd.prog 70 #[.pointer (some ⟨p, 0, none⟩), .int .i64 b, .int .i64 m] w fun e w' => ∃ n : Int, e = .returned (.int .i64 n) ∧ -32768 ≤ n ∧ n ≤ 32767 ∧ (mg b ≤ 9218868437227405312 → (wholeM b m).2 = 0 → -32768 ≤ (wholeM b m).1 → (wholeM b m).1 ≤ 32767 → n = (wholeM b m).1) ∧ Chg (fun _ => False) w w' := by
  have y3 := x_f64from
  have HB : Hid (I64 b) := hb
  clear hb
  go_enter Tryd.func70, Tryd.ntmps70
  go_wp2_with fail
  refine (rounded_any (u64 b) m _).mono ?_
  rintro e w1 ⟨r, rfl, k1, r1, r2⟩
  rw [rung_u64] at r1 r2
  have K1 : Hid (Chg (fun _ => False) w w1) := k1
  have R1 : Hid (mg b ≤ double.infRung → r = roundedF (u64 b) m) := r1
  clear k1 r1 r2
  rcases hc : floatToIntVal .f64 r .i16 with _ | n
  · have y1 := fun w => run_convert_any (P := Tryd.prog) w 53 58 .f64 .i16 r (by rw [Tryd.underlying53]; rfl) Tryd.underlying58 hc
    have hbn : ∀ w, -32768 ≤ anyInt .f64 r .i16 w ∧ anyInt .f64 r .i16 w ≤ 32767 := fun w => by unfold anyInt; exact ⟨(wrap_within .i16 _).1, (wrap_within .i16 _).2⟩
    have b1 := (hbn w1).1
    have b2 := (hbn w1).2
    have HC : Hid (floatToIntVal .f64 r .i16 = none) := hc
    clear hc hbn
    go_wp2
    go_ret
    refine ⟨_, rfl, b1, b2, fun g1 g2 g3 g4 => ?_, K1.out.drew⟩
    exfalso
    have h1 := rounded_int (m := m) HB.out g1 g2
    rw [← R1.out (by rw [d_inf]; exact g1)] at h1
    have h2 := HC.out
    unfold floatToIntVal at h2
    rw [show FloatKind.f64.decode r = double.read r from rfl, h1] at h2
    dsimp only at h2
    rw [if_pos (by rw [show IntKind.i16.min = -32768 by decide, show IntKind.i16.max = 32767 by decide]; omega)] at h2
    cases h2
  · have hbn := toInt_bounds hc
    have b1 : -32768 ≤ n := hbn.1
    have b2 : n ≤ 32767 := hbn.2
    have y1 := fun w => run_convert_float_int (P := Tryd.prog) w 53 58 .f64 .i16 _ n (by rw [Tryd.underlying53]; rfl) Tryd.underlying58 hc
    have HC : Hid (floatToIntVal .f64 r .i16 = some n) := hc
    clear hc hbn
    go_wp2
    go_ret
    refine ⟨_, rfl, b1, b2, fun g1 g2 g3 g4 => ?_, K1.out⟩
    have h1 := rounded_int (m := m) HB.out g1 g2
    rw [← R1.out (by rw [d_inf]; exact g1)] at h1
    have h2 := HC.out
    unfold floatToIntVal at h2
    rw [show FloatKind.f64.decode r = double.read r from rfl, h1] at h2
    dsimp only at h2
    rw [if_pos (by rw [show IntKind.i16.min = -32768 by decide, show IntKind.i16.max = 32767 by decide]; omega)] at h2
    cases h2
    rfl

theorem fastNarrow_any (p : Nat) (b : Int) (w : World) (hb : I64 b) :
    Calls Tryd.prog 71 #[.pointer (some ⟨p, 0, none⟩), .int .i64 b] w fun e w' => ∃ n : Int, e = .returned (.int .i64 n) ∧ 0 ≤ n ∧ n ≤ 4294967295 ∧ (9218868437227405312 < mg b → 2139095040 < n % 2147483648) ∧ (mg b ≤ 5183643170566569984 → n = (to32R (mg b) : Int) + (if b < 0 then 2147483648 else 0)) ∧ Chg (fun _ => False) w w' := by
  obtain ⟨V, hV⟩ : ∃ V : Int, (to32R (mg b) : Int) + (if b < 0 then 2147483648 else 0) = V := ⟨_, rfl⟩
  rw [hV]
  have HV : Hid ((to32R (mg b) : Int) + (if b < 0 then 2147483648 else 0) = V) := hV
  clear hV
  have y3 := x_f64from
  have y2 := x_f32bits
  rcases hc : floatToFloatBits .f64 (u64 b) .f32 with _ | r
  · have y1 := fun w => run_convert_anyF (P := Tryd.prog) w 53 59 (u64 b) (by rw [Tryd.underlying53]; rfl) Tryd.underlying59 hc
    have HC : Hid (floatToFloatBits .f64 (u64 b) .f32 = none ∧ I64 b) := ⟨hc, hb⟩
    have b1 : ((anyF (u64 b) w : Nat) : Int) ≤ 4294967295 := by have := anyF_lt (u64 b) w; omega
    clear hc hb
    unfold u64 at y1 b1
    go_enter Tryd.func71, Tryd.ntmps71
    go_wp2
    go_ret
    refine ⟨_, rfl, by omega, b1, fun hn => ?_, fun hs => ?_, (Chg.refl _ w).drew⟩
    · obtain ⟨s, t, e⟩ := nan_read (x := u64 b) (by rw [rung_u64, d_inf]; exact hn)
      have h3 := anyF_nan (u64 b) w e
      unfold u64 at h3
      omega
    · exfalso
      have h1 := HC.out.1
      rw [narrow_read (by rw [rung_u64]; omega)] at h1
      cases h1
  · have y1 := fun w => run_convert_float_float (P := Tryd.prog) w 53 59 .f64 .f32 _ r (by rw [Tryd.underlying53]; rfl) Tryd.underlying59 hc
    have hw : r < 4294967296 := by
      have := floatToFloatBits_wf (by show decide _ = true; exact decide_eq_true (u64_lt b)) hc
      exact of_decide_eq_true this
    have b1 : (r : Int) ≤ 4294967295 := by omega
    have HC : Hid (floatToFloatBits .f64 (u64 b) .f32 = some r ∧ I64 b) := ⟨hc, hb⟩
    clear hc hb hw
    unfold u64 at y1
    go_enter Tryd.func71, Tryd.ntmps71
    go_wp2
    go_ret
    refine ⟨_, rfl, by omega, b1, fun hn => ?_, fun hs => ?_, Chg.refl _ w⟩
    · exfalso
      obtain ⟨s, t, e⟩ := nan_read (x := u64 b) (by rw [rung_u64, d_inf]; exact hn)
      have h1 := HC.out.1
      unfold floatToFloatBits at h1
      rw [if_neg (by decide), show FloatKind.f64.decode (u64 b) = double.read (u64 b) from rfl, e] at h1
      cases h1
    · have h1 := HC.out.1
      rw [narrow_read (by rw [rung_u64]; omega), rung_u64, sgn_u64 HC.out.2] at h1
      cases h1
      have hlt := to32R_bound (mg b) hs
      rw [word_single _ _ (by omega), ← HV.out]
      by_cases h0 : b < 0 <;> simp [h0]

theorem fastClamp_any (p : Nat) (b : Int) (w : World) (hb : I64 b) :
    Calls Tryd.prog 72 #[.pointer (some ⟨p, 0, none⟩), .int .i64 b] w fun e w' => ∃ n : Int, e = .returned (.int .i64 n) ∧ (9218868437227405312 < mg b → 9218868437227405312 < mg n) ∧ (mg b ≤ 9218868437227405312 → n = clampI b) ∧ Chg (fun _ => False) w w' := by
  by_cases hn : 9218868437227405312 < mg b
  · refine (fastClamp_nan p b w (by rw [num_mg]; exact decide_eq_false (by omega))).mono ?_
    rintro e w' ⟨n, rfl, h1, h2, rfl⟩
    refine ⟨_, rfl, fun _ => ?_, fun h => by omega, ((Chg.refl _ w).drew).drew⟩
    have := nan_back n h1 h2
    rw [num_mg] at this
    simpa using this
  · refine (fastClamp_num p b w (by rw [num_mg]; exact decide_eq_true (by omega))).mono ?_
    rintro e w' ⟨rfl, rfl⟩
    exact ⟨_, rfl, fun h => absurd h hn, fun h => clamp_bits hb h, Chg.refl _ _⟩
theorem fastBack_any (p : Nat) (b : Int) (w : World) (hb : I64 b) :
    Calls Tryd.prog 73 #[.pointer (some ⟨p, 0, none⟩), .int .i64 b] w fun e w' => ∃ n : Int, e = .returned (.int .i64 n) ∧ (9218868437227405312 < mg b → 9218868437227405312 < mg n) ∧ (mg b ≤ 9218868437227405312 → n = clampI b) ∧ Chg (fun _ => False) w w' := by
  by_cases hn : 9218868437227405312 < mg b
  · refine (fastBack_nan p b w (by rw [num_mg]; exact decide_eq_false (by omega))).mono ?_
    rintro e w' ⟨n, rfl, h1, h2, rfl⟩
    refine ⟨_, rfl, fun _ => ?_, fun h => by omega, ((Chg.refl _ w).drew).drew⟩
    have := nan_back n h1 h2
    rw [num_mg] at this
    simpa using this
  · refine (fastBack_num p b w (by rw [num_mg]; exact decide_eq_true (by omega))).mono ?_
    rintro e w' ⟨rfl, rfl⟩
    exact ⟨_, rfl, fun h => absurd h hn, fun h => clampBack_bits hb h, Chg.refl _ _⟩
end Go.Proofs.Qxb6500378aDoor
