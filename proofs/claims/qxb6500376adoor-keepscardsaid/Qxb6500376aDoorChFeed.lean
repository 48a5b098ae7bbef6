/- feed: the pipeline proper. -/
import Derived.Test.Qxb6500376aDoorChPush
import Derived.Deep.RegionHeld3
namespace Go.Proofs.Qxb6500376aDoor
set_option linter.unusedVariables false
set_option linter.unusedSimpArgs false
open Go.RowKit Go.Qu

set_option maxHeartbeats 1000000 in
theorem feed_nan (p : Nat) (l : Lk) (s : CS) (c z b d : Int) (w : World) (h : CA w p l s c z) (m0 : 0 ≤ s.mode) (m3 : s.mode ≤ 3) (hx : num (u64 b) = false) :
    Calls Tryd.prog 21 #[.pointer (some ⟨p, 0, none⟩), .int .i64 b, .int .i32 d] w fun e w' => e = .returned (.tuple #[.int .i64 4, .int .i64 0, .int .i64 0]) ∧ CA w' p l s c (wrap64 (z + 1)) ∧ Chg (fun k => k = p ∨ k = l.q) w w' := by
  have h0 := h.c0
  have h2 := h.c2
  have H : Hid (CA w p l s c z) := h
  clear h
  go_enter Tryd.func21, Tryd.ntmps21
  go_wp2
  go_region_held3 (fun w' => w'.cell? ⟨p, 0, none⟩ = some (.pointer (some ⟨l.q, 0, none⟩)) ∧ w'.cell? ⟨p, 2, none⟩ = some (.int .i64 s.mode)) (first | (simp [go_sem, h0, h2]; done) | exact ⟨by assumption, by assumption⟩)
    (first | (go_at_call 38; refine (round32_nan2 l.q b s.mode c z _ m0 m3 hx (by exact H.out.drew.qu)).mono ?_; rintro e w1 ⟨rfl, q1, c1⟩; have H1 : Hid (CA w1 p l s c (wrap64 (z + 1))) := H.out.drew.count c1 q1; have C1 : Hid (Chg (· = l.q) w.drew w1) := c1; have k0 := H1.out.c0; have k2 := H1.out.c2; clear q1 c1))
  go_wp2
  go_ret3
  exact ⟨rfl, H1.out, (Chg.drew (Chg.refl _ w)).trans (C1.out.mono fun k _ e => Or.inr e)⟩

theorem store_float (a : Addr) (k : FloatKind) (b : Nat) (m : Mode) (w : World) : (store a (.float k b) m).run Tryd.prog w = stored Tryd.prog w a (.float k b) m := run_store Tryd.prog w a _ m rfl
def met (s : CS) (x : Nat) : CS := { s with peak := maxF s.peak x, dip := minF s.dip x }
def wordOf (s : CS) (n d : Int) : Int := wrap32 (n + d) / 2 ^ (32 - s.depth).toNat

set_option maxHeartbeats 2000000 in
theorem feed_drop (p : Nat) (l : Lk) (s : CS) (c z b d n : Int) (w : World) (h : CA w p l s c z) (m0 : 0 ≤ s.mode) (m3 : s.mode ≤ 3) (hx : num (u64 b) = true) (hp : num s.peak = true) (hd : num s.dip = true) (d1 : 1 ≤ s.depth) (d2 : s.depth ≤ 32)
    (hn : floatToIntVal .f64 (clampF (wholeF (u64 b) s.mode) 13970166044103278592 4746794007244308480) .i32 = some n) (hw0 : wordOf s n d = 0) :
    Calls Tryd.prog 21 #[.pointer (some ⟨p, 0, none⟩), .int .i64 b, .int .i32 d] w fun e w' => e = .returned (.tuple #[.int .i64 0, .int .i64 n, .int .i64 0]) ∧
      CA w' p l { met s (u64 b) with dropped := wrap64 (s.dropped + 1) } (bump c (moved (clampF (wholeF (u64 b) s.mode) 13970166044103278592 4746794007244308480) (wholeF (u64 b) s.mode))) z ∧ Chg (fun k => k = p ∨ k = l.q) w w' := by
  unfold wordOf at hw0
  have y3 := tag_same
  have h0 := h.c0
  have h2 := h.c2
  have H : Hid (CA w p l s c z) := h
  have HN : Hid (floatToIntVal .f64 (clampF (wholeF (u64 b) s.mode) 13970166044103278592 4746794007244308480) .i32 = some n) := hn
  have b1 : -2147483648 ≤ n := (toInt_bounds hn).1
  have b2 : n ≤ 2147483647 := (toInt_bounds hn).2
  have e0 : IntKind.i32.wrap n = n := by rw [IntKind.wrap_i32]; omega
  have y0 := x_f64from
  have y1 := fun w => run_max (P := Tryd.prog) w #[56, 56] 56 s.peak (u64 b) hp hx
  have y2 := fun w => run_min (P := Tryd.prog) w #[56, 56] 56 s.dip (u64 b) hd hx
  have y4 := store_float
  generalize hb : bump c (moved (clampF (wholeF (u64 b) s.mode) 13970166044103278592 4746794007244308480) (wholeF (u64 b) s.mode)) = c' at *
  have HB : Hid (bump c (moved (clampF (wholeF (u64 b) s.mode) 13970166044103278592 4746794007244308480) (wholeF (u64 b) s.mode)) = c') := hb
  clear h hn hb
  go_enter Tryd.func21, Tryd.ntmps21
  go_wp2
  go_region_held3 (fun w' => w'.cell? ⟨p, 0, none⟩ = some (.pointer (some ⟨l.q, 0, none⟩)) ∧ w'.cell? ⟨p, 2, none⟩ = some (.int .i64 s.mode)) (first | (simp [go_sem, h0, h2]; done) | exact ⟨by assumption, by assumption⟩)
    (first | (go_at_call 38; refine (round32_num l.q b s.mode c z n _ m0 m3 hx (by exact H.out.drew.qu) HN.out).mono ?_; rintro e w1 ⟨rfl, q1, c1⟩; rw [HB.out] at q1; have H1 : Hid (CA w1 p l s c' z) := H.out.drew.count c1 q1; have C1 : Hid (Chg (· = l.q) w.drew w1) := c1; have k0 := H1.out.c0; have k2 := H1.out.c2; clear q1 c1))
  have h1 := H1.out.c1
  have h4 := H1.out.c4
  have h5 := H1.out.c5
  have g4 := H1.out.frozen 4
  have g5 := H1.out.frozen 5
  unfold u64 at y1 y2
  go_wp2
  go_region
  go_wp2
  have H2 := ((H1.out.set_peak (maxF s.peak (IntKind.u64.wrap b).toNat)).set_dip (minF s.dip (IntKind.u64.wrap b).toNat)).drew
  have C2 : Chg (· = p) w1 ((w1.setCell ⟨p, 4, none⟩ (.float .f64 (maxF s.peak (IntKind.u64.wrap b).toNat))).setCell ⟨p, 5, none⟩ (.float .f64 (minF s.dip (IntKind.u64.wrap b).toNat))).drew := ((Chg.set1 w1 p 4 _).trans (Chg.set1 _ p 5 _)).drew
  generalize ((w1.setCell ⟨p, 4, none⟩ (.float .f64 (maxF s.peak (IntKind.u64.wrap b).toNat))).setCell ⟨p, 5, none⟩ (.float .f64 (minF s.dip (IntKind.u64.wrap b).toNat))).drew = w2 at H2 C2 ⊢
  have HH : Hid (CA w2 p l (met s (u64 b)) c' z) := H2
  have CC : Hid (Chg (fun k => k = p ∨ k = l.q) w w2) := ((Chg.drew (Chg.refl _ w)).trans (C1.out.mono fun k _ e => Or.inr e)).trans (C2.mono fun k _ e => Or.inl e)
  clear H2 C2 h0 h1 h2 h4 h5 g4 g5 k0 k2 y1 y2
  have f21 := HH.out.c21
  have f18 : w2.cell? ⟨p, 18, none⟩ = some (.int .i64 s.dropped) := HH.out.c18
  have g18 := HH.out.frozen 18
  go_quiet ((go_at_call 46; refine (judge_zero p l _ c' z _ (by exact HH.out.drewN _)).mono ?_; rintro e w'' ⟨rfl, rfl⟩; exact ⟨rfl, _, rfl⟩))
  go_wp2
  go_ret3
  exact ⟨rfl, (HH.out.drewN nq).set_dropped _, (CC.out.drewN nq).trans ((Chg.set1 _ p 18 _).mono fun k _ e => Or.inl e)⟩

def kept (s : CS) (x : Nat) (v : Int) : CS := { met s x with sum := wrap32 (wrap32 (s.sum * 31) + v) }
set_option maxHeartbeats 2000000 in
theorem feed_keep (p : Nat) (l : Lk) (s : CS) (c z b d n v : Int) (a : Nat) (w : World) (h : CA w p l s c z) (m0 : 0 ≤ s.mode) (m3 : s.mode ≤ 3) (hx : num (u64 b) = true) (hp : num s.peak = true) (hd : num s.dip = true) (d1 : 1 ≤ s.depth) (d2 : s.depth ≤ 32)
    (hn : floatToIntVal .f64 (clampF (wholeF (u64 b) s.mode) 13970166044103278592 4746794007244308480) .i32 = some n) (hv : wordOf s n d = v) (hv0 : v ≠ 0) (v1 : -2147483648 ≤ v) (v2 : v ≤ 2147483647) (ha : s.at_ = a) (ha8 : a < 8)
    (o1 : -2147483648 ≤ s.ring.getD a 0) (o2 : s.ring.getD a 0 ≤ 2147483647) (l1 : 0 ≤ s.lo) (l2 : s.lo < 18446744073709551616) (i1 : 0 ≤ s.hi) (i2 : s.hi < 18446744073709551616) :
    Calls Tryd.prog 21 #[.pointer (some ⟨p, 0, none⟩), .int .i64 b, .int .i32 d] w fun e w' => e = .returned (.tuple #[.int .i64 0, .int .i64 n, .int .i64 v]) ∧
      CA w' p l (pushed (kept s (u64 b) v) a v) (bump c (moved (clampF (wholeF (u64 b) s.mode) 13970166044103278592 4746794007244308480) (wholeF (u64 b) s.mode))) z ∧ Chg (fun k => k = p ∨ k = l.q) w w' := by
  unfold wordOf at hv
  have HA : Hid (s.at_ = a) := ha
  have HV0 : Hid (v ≠ 0) := hv0
  clear ha hv0
  have h0 := h.c0
  have h2 := h.c2
  have H : Hid (CA w p l s c z) := h
  have HN : Hid (floatToIntVal .f64 (clampF (wholeF (u64 b) s.mode) 13970166044103278592 4746794007244308480) .i32 = some n) := hn
  have b1 : -2147483648 ≤ n := (toInt_bounds hn).1
  have b2 : n ≤ 2147483647 := (toInt_bounds hn).2
  have e0 : IntKind.i32.wrap n = n := by rw [IntKind.wrap_i32]; omega
  have y0 := x_f64from
  have y1 := fun w => run_max (P := Tryd.prog) w #[56, 56] 56 s.peak (u64 b) hp hx
  have y2 := fun w => run_min (P := Tryd.prog) w #[56, 56] 56 s.dip (u64 b) hd hx
  have y4 := store_float
  generalize hb : bump c (moved (clampF (wholeF (u64 b) s.mode) 13970166044103278592 4746794007244308480) (wholeF (u64 b) s.mode)) = c' at *
  have HB : Hid (bump c (moved (clampF (wholeF (u64 b) s.mode) 13970166044103278592 4746794007244308480) (wholeF (u64 b) s.mode)) = c') := hb
  clear h hn hb
  go_enter Tryd.func21, Tryd.ntmps21
  go_wp2
  go_region_held3 (fun w' => w'.cell? ⟨p, 0, none⟩ = some (.pointer (some ⟨l.q, 0, none⟩)) ∧ w'.cell? ⟨p, 2, none⟩ = some (.int .i64 s.mode)) (first | (simp [go_sem, h0, h2]; done) | exact ⟨by assumption, by assumption⟩)
    (first | (go_at_call 38; refine (round32_num l.q b s.mode c z n _ m0 m3 hx (by exact H.out.drew.qu) HN.out).mono ?_; rintro e w1 ⟨rfl, q1, c1⟩; rw [HB.out] at q1; have H1 : Hid (CA w1 p l s c' z) := H.out.drew.count c1 q1; have C1 : Hid (Chg (· = l.q) w.drew w1) := c1; have k0 := H1.out.c0; have k2 := H1.out.c2; clear q1 c1))
  have h1 := H1.out.c1
  have h4 := H1.out.c4
  have h5 := H1.out.c5
  have g4 := H1.out.frozen 4
  have g5 := H1.out.frozen 5
  unfold u64 at y1 y2
  go_wp2
  go_region
  go_wp2
  have H2 := ((H1.out.set_peak (maxF s.peak (IntKind.u64.wrap b).toNat)).set_dip (minF s.dip (IntKind.u64.wrap b).toNat)).drew
  have C2 : Chg (· = p) w1 ((w1.setCell ⟨p, 4, none⟩ (.float .f64 (maxF s.peak (IntKind.u64.wrap b).toNat))).setCell ⟨p, 5, none⟩ (.float .f64 (minF s.dip (IntKind.u64.wrap b).toNat))).drew := ((Chg.set1 w1 p 4 _).trans (Chg.set1 _ p 5 _)).drew
  generalize ((w1.setCell ⟨p, 4, none⟩ (.float .f64 (maxF s.peak (IntKind.u64.wrap b).toNat))).setCell ⟨p, 5, none⟩ (.float .f64 (minF s.dip (IntKind.u64.wrap b).toNat))).drew = w2 at H2 C2 ⊢
  have HH : Hid (CA w2 p l (met s (u64 b)) c' z) := H2
  have CC : Hid (Chg (fun k => k = p ∨ k = l.q) w w2) := ((Chg.drew (Chg.refl _ w)).trans (C1.out.mono fun k _ e => Or.inr e)).trans (C2.mono fun k _ e => Or.inl e)
  clear H2 C2 h0 h1 h2 h4 h5 g4 g5 k0 k2 y1 y2
  have f21 := HH.out.c21
  have f3 : w2.cell? ⟨p, 3, none⟩ = some (.int .i32 s.sum) := HH.out.c3
  have g3 := HH.out.frozen 3
  have y3 : ∀ n, (binOp .eql 60 (.pointer (some ⟨l.k, 0, none⟩)) (.pointer (some ⟨l.dr, 0, none⟩))).run Tryd.prog (w2.drewN n) = .ok (.bool false) (w2.drewN n) :=
    fun n => tag_other (a := ⟨l.k, 0, none⟩) (b := ⟨l.dr, 0, none⟩) (fun e => HH.out.kdr (congrArg Addr.block e)) (HH.out.drewN n).k (HH.out.drewN n).dr
  go_quiet ((go_at_call 46; refine (judge_sound p l _ c' z _ _ (by exact HH.out.drewN _) (by exact HV0.out)).mono ?_; rintro e w'' ⟨rfl, rfl⟩; exact ⟨rfl, _, rfl⟩))
  go_wp2_with fail
  have HK : CA ((w2.drewN nq).setCell ⟨p, 3, none⟩ (.int .i32 (wrap32 (wrap32 (s.sum * 31) + v)))) p l (kept s (u64 b) v) c' z := (HH.out.drewN nq).set_sum _
  refine (push_any p l (kept s (u64 b) v) c' z v a _ HK HA.out ha8 v1 v2 o1 o2 l1 l2 i1 i2).mono ?_
  rintro e w3 ⟨rfl, h3, c3⟩
  have H3 : Hid (CA w3 p l (pushed (kept s (u64 b) v) a v) c' z) := h3
  have C3 : Hid (Chg (fun k => k = p ∨ k = l.q) w w3) := ((CC.out.drewN nq).trans ((Chg.set1 _ p 3 _).mono fun k _ e => Or.inl e)).trans (c3.mono fun k _ e => Or.inl e)
  clear h3 c3 HK
  go_wp2
  go_ret3
  exact ⟨rfl, H3.out, C3.out⟩
end Go.Proofs.Qxb6500376aDoor
