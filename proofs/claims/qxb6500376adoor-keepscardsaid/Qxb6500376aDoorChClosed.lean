/- The pipeline's calls at closed states: one closed check each. -/
import Derived.Test.Qxb6500376aDoorChEnergy
namespace Go.Proofs.Qxb6500376aDoor
set_option linter.unusedVariables false
set_option linter.unusedSimpArgs false
open Go.RowKit Go.Qu

def csEq (s t : CS) : Bool := decide (s.depth = t.depth) && decide (s.mode = t.mode) && decide (s.sum = t.sum) && decide (s.peak = t.peak) && decide (s.dip = t.dip) && decide (s.ring = t.ring) && decide (s.at_ = t.at_) && decide (s.hi = t.hi) && decide (s.lo = t.lo) && decide (s.seq = t.seq) && decide (s.dropped = t.dropped)
theorem csEq_eq {s t : CS} (h : csEq s t = true) : s = t := by
  cases s; cases t
  simp only [csEq, Bool.and_eq_true, decide_eq_true_eq] at h
  obtain ⟨⟨⟨⟨⟨⟨⟨⟨⟨⟨h1, h2⟩, h3⟩, h4⟩, h5⟩, h6⟩, h7⟩, h8⟩, h9⟩, h10⟩, h11⟩ := h
  subst h1 h2 h3 h4 h5 h6 h7 h8 h9 h10 h11
  rfl
def cl (s : CS) (b : Int) : Nat := clampF (wholeF (u64 b) s.mode) 13970166044103278592 4746794007244308480
def baseOk (s : CS) (b c n c' : Int) : Bool := decide (0 ≤ s.mode) && decide (s.mode ≤ 3) && num (u64 b) && num s.peak && num s.dip && decide (1 ≤ s.depth) && decide (s.depth ≤ 32) && decide (floatToIntVal .f64 (cl s b) .i32 = some n) && decide (bump c (moved (cl s b) (wholeF (u64 b) s.mode)) = c')
def dropOk (s : CS) (b d c n c' : Int) (s' : CS) : Bool := baseOk s b c n c' && decide (wordOf s n d = 0) && csEq { met s (u64 b) with dropped := wrap64 (s.dropped + 1) } s'
def keepOk (s : CS) (b d c n v : Int) (a : Nat) (c' : Int) (s' : CS) : Bool := baseOk s b c n c' && decide (wordOf s n d = v) && decide (v ≠ 0) && decide (-2147483648 ≤ v) && decide (v ≤ 2147483647) && decide (s.at_ = a) && decide (a < 8) && decide (-2147483648 ≤ s.ring.getD a 0) && decide (s.ring.getD a 0 ≤ 2147483647) &&
  decide (0 ≤ s.lo) && decide (s.lo < 18446744073709551616) && decide (0 ≤ s.hi) && decide (s.hi < 18446744073709551616) && csEq (pushed (kept s (u64 b) v) a v) s'

theorem feedC_drop (d n c' : Int) (s' : CS) {b : Int} {p : Nat} {l : Lk} {s : CS} {c z : Int} {w : World} (h : CA w p l s c z) (hk : dropOk s b d c n c' s' = true) :
    Calls Tryd.prog 21 #[.pointer (some ⟨p, 0, none⟩), .int .i64 b, .int .i32 d] w fun e w' => e = .returned (.tuple #[.int .i64 0, .int .i64 n, .int .i64 0]) ∧ CA w' p l s' c' z ∧ Chg (fun k => k = p ∨ k = l.q) w w' := by
  simp only [dropOk, baseOk, Bool.and_eq_true, decide_eq_true_eq] at hk
  obtain ⟨⟨⟨⟨⟨⟨⟨⟨⟨⟨m0, m3⟩, hx⟩, hp⟩, hd⟩, d1⟩, d2⟩, hn⟩, hc⟩, hw⟩, hs⟩ := hk
  have := feed_drop p l s c z b d n w h m0 m3 hx hp hd d1 d2 hn hw
  unfold cl at hc
  rw [hc, csEq_eq hs] at this
  exact this
theorem feedC_keep (d n v : Int) (a : Nat) (c' : Int) (s' : CS) {b : Int} {p : Nat} {l : Lk} {s : CS} {c z : Int} {w : World} (h : CA w p l s c z) (hk : keepOk s b d c n v a c' s' = true) :
    Calls Tryd.prog 21 #[.pointer (some ⟨p, 0, none⟩), .int .i64 b, .int .i32 d] w fun e w' => e = .returned (.tuple #[.int .i64 0, .int .i64 n, .int .i64 v]) ∧ CA w' p l s' c' z ∧ Chg (fun k => k = p ∨ k = l.q) w w' := by
  simp only [keepOk, baseOk, Bool.and_eq_true, decide_eq_true_eq] at hk
  obtain ⟨⟨⟨⟨⟨⟨⟨⟨⟨⟨⟨⟨⟨⟨⟨⟨⟨⟨⟨⟨⟨m0, m3⟩, hx⟩, hp⟩, hd⟩, d1⟩, d2⟩, hn⟩, hc⟩, hv⟩, hv0⟩, v1⟩, v2⟩, ha⟩, ha8⟩, o1⟩, o2⟩, l1⟩, l2⟩, i1⟩, i2⟩, hs⟩ := hk
  have := feed_keep p l s c z b d n v a w h m0 m3 hx hp hd d1 d2 hn hv hv0 v1 v2 ha ha8 o1 o2 l1 l2 i1 i2
  unfold cl at hc
  rw [hc, csEq_eq hs] at this
  exact this
theorem three {x y z' : Int} {P : World → Prop} : ∀ (e : Ending) (w' : World), (e = .returned (.tuple #[.int .i64 x, .int .i64 y, .int .i64 z']) ∧ P w') → ∃ x y z, e = .returned (.tuple #[.int .i64 x, .int .i64 y, .int .i64 z]) := fun e w' h => ⟨x, y, z', h.1⟩

/-- Feed at a closed state, the word dropped. -/
theorem feed_drop_at (b n c' : Int) (a : Nat) (s' : CS) {p : Nat} {l : Lk} {s : CS} {c z : Int} {w : World} (h : CA w p l s c z) (ha : s.at_ = a) (ha8 : a < 8) (hk : dropOk s b (6 * (a : Int)) c n c' s' = true) :
    Calls Tryd.prog 32 #[.pointer (some ⟨p, 0, none⟩), .int .i64 b] w fun e w' => e = .returned (.tuple #[.int .i64 0, .int .i64 n, .int .i64 0]) ∧ CA w' p l s' c' z ∧ Chg (fun k => k = p ∨ k = l.q) w w' :=
  feed_of p l s c z b a w h ha ha8 ((feedC_drop _ n c' s' h.drew hk).mono fun e w' ⟨he, h', hc⟩ => ⟨he, h', (Chg.drew (Chg.refl _ w)).trans hc⟩) three
theorem feed_keep_at (b n v : Int) (a : Nat) (c' : Int) (s' : CS) {p : Nat} {l : Lk} {s : CS} {c z : Int} {w : World} (h : CA w p l s c z) (ha : s.at_ = a) (ha8 : a < 8) (hk : keepOk s b (6 * (a : Int)) c n v a c' s' = true) :
    Calls Tryd.prog 32 #[.pointer (some ⟨p, 0, none⟩), .int .i64 b] w fun e w' => e = .returned (.tuple #[.int .i64 0, .int .i64 n, .int .i64 v]) ∧ CA w' p l s' c' z ∧ Chg (fun k => k = p ∨ k = l.q) w w' :=
  feed_of p l s c z b a w h ha ha8 ((feedC_keep _ n v a c' s' h.drew hk).mono fun e w' ⟨he, h', hc⟩ => ⟨he, h', (Chg.drew (Chg.refl _ w)).trans hc⟩) three
theorem feedWith_keep_at (b m n v : Int) (a : Nat) (c' : Int) (s' : CS) {p : Nat} {l : Lk} {s : CS} {c z : Int} {w : World} (h : CA w p l s c z) (hk : keepOk s b (wrap32 m) c n v a c' s' = true) :
    Calls Tryd.prog 10 #[.pointer (some ⟨p, 0, none⟩), .int .i64 b, .int .i64 m] w fun e w' => e = .returned (.tuple #[.int .i64 0, .int .i64 n, .int .i64 v]) ∧ CA w' p l s' c' z ∧ Chg (fun k => k = p ∨ k = l.q) w w' :=
  feedWith_of p b m w (feedC_keep _ n v a c' s' h hk) three
theorem tune_at (d m : Int) (s' : CS) {p : Nat} {l : Lk} {s : CS} {c z : Int} {w : World} (h : CA w p l s c z) (hk : (decide (1 ≤ d) && decide (d ≤ 32) && decide (0 ≤ m) && decide (m ≤ 3) && csEq { s with depth := d, mode := m } s') = true) :
    Calls Tryd.prog 9 #[.pointer (some ⟨p, 0, none⟩), .int .i64 d, .int .i64 m] w fun e w' => e = .returned (.int .i64 0) ∧ CA w' p l s' c z ∧ Chg (fun k => k = p ∨ k = l.q) w w' := by
  simp only [Bool.and_eq_true, decide_eq_true_eq] at hk
  obtain ⟨⟨⟨⟨d1, d2⟩, m1⟩, m2⟩, hs⟩ := hk
  refine (tune_ok p l s c z d m w h d1 d2 m1 m2).mono fun e w' ⟨he, h', hc⟩ => ⟨he, ?_, hc.mono fun k _ e => Or.inl e⟩
  rw [csEq_eq hs] at h'
  exact h'
theorem Chg.both {p q B : Nat} {w w' : World} (h : Chg (fun k => k = p ∨ k = q) w w') (hp : B ≤ p) (hq : B ≤ q) : Chg (B ≤ ·) w w' := h.mono fun k _ e => by rcases e with rfl | rfl <;> assumption
theorem peak_at (v : Int) {p : Nat} {l : Lk} {s : CS} {c z : Int} {w : World} (h : CA w p l s c z) (hv : wrap64 s.peak = v) : Calls Tryd.prog 24 #[.pointer (some ⟨p, 0, none⟩)] w fun e w' => e = .returned (.int .i64 v) ∧ w' = w := by
  have := peak_any p l s c z w h
  rw [hv] at this
  exact this
theorem dip_at (v : Int) {p : Nat} {l : Lk} {s : CS} {c z : Int} {w : World} (h : CA w p l s c z) (hv : wrap64 s.dip = v) : Calls Tryd.prog 25 #[.pointer (some ⟨p, 0, none⟩)] w fun e w' => e = .returned (.int .i64 v) ∧ w' = w := by
  have := dip_any p l s c z w h
  rw [hv] at this
  exact this
theorem seq_at (v : Int) {p : Nat} {l : Lk} {s : CS} {c z : Int} {w : World} (h : CA w p l s c z) (hv : s.seq = v) : Calls Tryd.prog 13 #[.pointer (some ⟨p, 0, none⟩)] w fun e w' => e = .returned (.int .i64 v) ∧ w' = w := by
  have := seq_any p l s c z w h
  rw [hv] at this
  exact this
theorem dropped_at (v : Int) {p : Nat} {l : Lk} {s : CS} {c z : Int} {w : World} (h : CA w p l s c z) (hv : s.dropped = v) : Calls Tryd.prog 31 #[.pointer (some ⟨p, 0, none⟩)] w fun e w' => e = .returned (.int .i64 v) ∧ w' = w := by
  have := dropped_any p l s c z w h
  rw [hv] at this
  exact this
theorem sum_at (v : Int) {p : Nat} {l : Lk} {s : CS} {c z : Int} {w : World} (h : CA w p l s c z) (hv : (decide (s.sum = v) && decide (-2147483648 ≤ v) && decide (v ≤ 2147483647)) = true) : Calls Tryd.prog 12 #[.pointer (some ⟨p, 0, none⟩)] w fun e w' => e = .returned (.int .i64 v) ∧ w' = w := by
  simp only [Bool.and_eq_true, decide_eq_true_eq] at hv
  obtain ⟨⟨hv, b1⟩, b2⟩ := hv
  have := sum_any p l s c z w h (by omega) (by omega)
  rw [hv] at this
  exact this
theorem stamp_at (v q : Int) (s' : CS) {p : Nat} {l : Lk} {s : CS} {c z : Int} {w : World} (h : CA w p l s c z) (hv : (decide (s.seq = v) && decide (wrap64 (s.seq + 1) = q) && csEq { s with seq := q } s') = true) : Calls Tryd.prog 11 #[.pointer (some ⟨p, 0, none⟩)] w fun e w' => e = .returned (.tuple #[.int .i64 v, .int .i64 q]) ∧ CA w' p l s' c z ∧ Chg (fun k => k = p ∨ k = l.q) w w' := by
  simp only [Bool.and_eq_true, decide_eq_true_eq] at hv
  obtain ⟨⟨hv, hq⟩, hs⟩ := hv
  refine (stamp_any p l s c z w h).mono fun e w' ⟨he, h', hc⟩ => ?_
  rw [hq, hv] at he
  rw [hq, csEq_eq hs] at h'
  exact ⟨he, h', hc.mono fun k _ e => Or.inl e⟩
theorem ditherC_at (i : Nat) (n : Int) (s' : CS) {p : Nat} {l : Lk} {s : CS} {c z : Int} {w : World} (h : CA w p l s c z) (hv : (decide (i < 8) && decide (wrap64 (6 * i + wrap64 (s.seq + 1)) = n) && csEq { s with seq := wrap64 (s.seq + 1) } s') = true) : Calls Tryd.prog 35 #[.pointer (some ⟨p, 0, none⟩), .int .i64 i] w fun e w' => e = .returned (.tuple #[.int .i64 0, .int .i64 n]) ∧ CA w' p l s' c z ∧ Chg (fun k => k = p ∨ k = l.q) w w' := by
  simp only [Bool.and_eq_true, decide_eq_true_eq] at hv
  obtain ⟨⟨hi, hn⟩, hs⟩ := hv
  refine (dither_in p l s c z i w h hi).mono fun e w' ⟨he, h', hc⟩ => ?_
  rw [hn] at he
  rw [csEq_eq hs] at h'
  exact ⟨he, h', hc.mono fun k _ e => Or.inl e⟩
theorem squelchZ_at (v : Int) (s' : CS) {p : Nat} {l : Lk} {s : CS} {c z : Int} {w : World} (h : CA w p l s c z) (hv : (decide (wrap32 v = 0) && csEq { s with dropped := wrap64 (s.dropped + 1) } s') = true) : Calls Tryd.prog 36 #[.pointer (some ⟨p, 0, none⟩), .int .i64 v] w fun e w' => e = .returned (.int .i64 1) ∧ CA w' p l s' c z ∧ Chg (fun k => k = p ∨ k = l.q) w w' := by
  simp only [Bool.and_eq_true, decide_eq_true_eq] at hv
  obtain ⟨hv, hs⟩ := hv
  refine (squelch_zero p l s c z v w h hv).mono fun e w' ⟨he, h', hc⟩ => ?_
  rw [csEq_eq hs] at h'
  exact ⟨he, h', hc.mono fun k _ e => Or.inl e⟩
theorem energy_at (n m : Int) {p : Nat} {l : Lk} {s : CS} {c z : Int} {w : World} (h : CA w p l s c z) (hv : (decide (0 ≤ s.lo) && decide (s.lo < 18446744073709551616) && decide (0 ≤ s.hi) && decide (s.hi < 18446744073709551616) && decide (enHi s = n) && decide (enLo s = m)) = true) : Calls Tryd.prog 30 #[.pointer (some ⟨p, 0, none⟩)] w fun e w' => e = .returned (.tuple #[.int .i64 n, .int .i64 m]) ∧ CA w' p l s c z ∧ Chg (fun k => k = p ∨ k = l.q) w w' := by
  simp only [Bool.and_eq_true, decide_eq_true_eq] at hv
  obtain ⟨⟨⟨⟨⟨l1, l2⟩, i1⟩, i2⟩, hn⟩, hm⟩ := hv
  refine (energy_any p l s c z w h l1 l2 i1 i2).mono fun e w' ⟨he, k, hw⟩ => ?_
  subst hw
  rw [hn, hm] at he
  exact ⟨he, h.drewN k, (Chg.refl _ w).drewN k⟩
theorem rms_at (k : Int) (r : Nat) {p : Nat} {l : Lk} {s : CS} {c z : Int} {w : World} (h : CA w p l s c z) (hv : (decide (0 ≤ s.lo) && decide (s.lo < 18446744073709551616) && decide (0 ≤ s.hi) && decide (s.hi < 18446744073709551616) && decide (Ieee.double.sqrt (floatOfInt .f64 (rmsN s)) = some r) && decide (floatToIntVal .f64 r .i64 = some k)) = true) : Calls Tryd.prog 33 #[.pointer (some ⟨p, 0, none⟩)] w fun e w' => e = .returned (.int .i64 k) ∧ CA w' p l s c z ∧ Chg (fun k => k = p ∨ k = l.q) w w' := by
  simp only [Bool.and_eq_true, decide_eq_true_eq] at hv
  obtain ⟨⟨⟨⟨⟨l1, l2⟩, i1⟩, i2⟩, hn⟩, hm⟩ := hv
  refine (rms_any p l s c z k r w h l1 l2 i1 i2 hn hm).mono fun e w' ⟨he, k, hw⟩ => ?_
  subst hw
  exact ⟨he, h.drewN k, (Chg.refl _ w).drewN k⟩
theorem span_at (n m : Int) {p : Nat} {l : Lk} {s : CS} {c z : Int} {w : World} (h : CA w p l s c z) (hv : (decide (wrap64 (pickF false .gt s.peak (Op.negFloat .f64 s.dip)) = n) && decide (wrap64 (pickF true .lt s.peak (Op.negFloat .f64 s.dip)) = m)) = true) : Calls Tryd.prog 34 #[.pointer (some ⟨p, 0, none⟩)] w fun e w' => e = .returned (.tuple #[.int .i64 n, .int .i64 m]) ∧ CA w' p l s c z ∧ Chg (fun k => k = p ∨ k = l.q) w w' := by
  simp only [Bool.and_eq_true, decide_eq_true_eq] at hv
  obtain ⟨hn, hm⟩ := hv
  refine (span_any p l s c z w h).mono fun e w' ⟨he, k, hw⟩ => ?_
  subst hw
  rw [hn, hm] at he
  exact ⟨he, h.drewN k, (Chg.refl _ w).drewN k⟩
end Go.Proofs.Qxb6500376aDoor
