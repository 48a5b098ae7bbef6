/- The pipeline's step in plain ints, and the real methods over it. -/
import Derived.Test.Qxb6500376aDoorChPlain
import Derived.Test.Qxb6500376aDoorChTune
import Derived.Test.Qxb6500376aDoorChShow
namespace Go.Proofs.Qxb6500376aDoor
set_option linter.unusedVariables false
set_option linter.unusedSimpArgs false
set_option maxHeartbeats 1000000
open Go.RowKit Go.Qu Ieee

structure An where
  e : Int
  n : Int
  k : Int
def wordP (g : PS) (v d : Int) : Int := wrap32 (v + d) / 2 ^ (32 - g.depth).toNat
def fedP (g : PS) (b d : Int) : An × PS :=
  if 9218868437227405312 < mg b then (⟨4, 0, 0⟩, { g with z := g.z + 1 })
  else if wordP g (roundI b g.mode (-2147483648) 2147483647).1 d = 0 then
    (⟨0, (roundI b g.mode (-2147483648) 2147483647).1, 0⟩, { g with peak := peakI g.peak b, dip := dipI g.dip b, c := g.c + (roundI b g.mode (-2147483648) 2147483647).2.toNat, dropped := g.dropped + 1 })
  else (⟨0, (roundI b g.mode (-2147483648) 2147483647).1, wordP g (roundI b g.mode (-2147483648) 2147483647).1 d⟩,
    { g with peak := peakI g.peak b, dip := dipI g.dip b, c := g.c + (roundI b g.mode (-2147483648) 2147483647).2.toNat, sum := wrap32 (g.sum * 31 + wordP g (roundI b g.mode (-2147483648) 2147483647).1 d),
             ring := g.ring.set g.at_.toNat (wordP g (roundI b g.mode (-2147483648) 2147483647).1 d), at_ := (g.at_ + 1) % 8 })
def tuneP (g : PS) (d m : Int) : An × PS := if d < 1 ∨ 32 < d then (⟨9, 0, 0⟩, g) else if m < 0 ∨ 3 < m then (⟨2, 0, 0⟩, g) else (⟨0, 0, 0⟩, { g with depth := d, mode := m })
def ditherP (g : PS) (i : Int) : An × PS := if i < 0 ∨ 8 ≤ i then (⟨10, 0, 0⟩, g) else (⟨0, 6 * i + (g.seq + 1), 0⟩, { g with seq := g.seq + 1 })
def squelchP (g : PS) (v : Int) : An × PS := if wrap32 v = 0 then (⟨0, 1, 0⟩, { g with dropped := g.dropped + 1 }) else (⟨0, 0, 0⟩, g)
def spanP (g : PS) : An := if keyI g.peak < keyI (negI g.dip) then ⟨0, negI g.dip, g.peak⟩ else ⟨0, g.peak, negI g.dip⟩
def stepP (g : PS) (kd a b : Int) : An × PS :=
  if kd = 1 then tuneP g a b else if kd = 2 then fedP g a (6 * g.at_) else if kd = 16 then fedP g a (wrap32 b)
  else if kd = 3 then (⟨0, g.sum, 0⟩, g) else if kd = 4 then (⟨0, g.peak, 0⟩, g) else if kd = 5 then (⟨0, g.dip, 0⟩, g)
  else if kd = 6 then (⟨0, sumSq g.ring / 4294967296, sumSq g.ring % 4294967296⟩, g)
  else if kd = 7 then (⟨0, isq (sumSq g.ring / 16384).toNat, 0⟩, g)
  else if kd = 8 then (spanP g, g)
  else if kd = 9 then (⟨0, g.seq, g.seq + 1⟩, { g with seq := g.seq + 1 })
  else if kd = 10 then ditherP g a else if kd = 11 then squelchP g a
  else if kd = 12 then (⟨0, g.dropped, 0⟩, g) else if kd = 13 then (⟨0, g.seq, 0⟩, g)
  else if kd = 15 then (⟨0, 1, 0⟩, g) else (⟨0, 0, 0⟩, g)

theorem pow_pos' (k : Nat) : (1 : Int) ≤ 2 ^ k := by
  have h := Nat.two_pow_pos k
  have e : ((2 ^ k : Nat) : Int) = 2 ^ k := by simp
  omega
theorem div_small {v : Int} (k : Nat) (h1 : -2147483648 ≤ v) (h2 : v ≤ 2147483647) : -2147483648 ≤ v / 2 ^ k ∧ v / 2 ^ k ≤ 2147483647 := by
  have hp := pow_pos' k
  constructor
  · rw [Int.le_ediv_iff_mul_le (by omega)]
    have : (-2147483648 : Int) * 2 ^ k ≤ -2147483648 * 1 := Int.mul_le_mul_of_nonpos_left (by omega) hp
    omega
  · have h3 : v / 2 ^ k < 2147483648 := by
      rw [Int.ediv_lt_iff_lt_mul (by omega)]
      have : (2147483648 : Int) * 1 ≤ 2147483648 * 2 ^ k := Int.mul_le_mul_of_nonneg_left hp (by omega)
      omega
    omega
theorem wrap32_bounds (v : Int) : -2147483648 ≤ wrap32 v ∧ wrap32 v ≤ 2147483647 := by rw [wrap32]; omega
theorem wordP_bounds (g : PS) (v d : Int) : -2147483648 ≤ wordP g v d ∧ wordP g v d ≤ 2147483647 := div_small _ (wrap32_bounds _).1 (wrap32_bounds _).2
theorem peakI_or (p b : Int) : peakI p b = p ∨ peakI p b = b := by unfold peakI; split <;> simp
theorem dipI_or (p b : Int) : dipI p b = p ∨ dipI p b = b := by unfold dipI; split <;> simp
theorem toNat01 (d : Bool) : (0 : Int) ≤ d.toNat ∧ (d.toNat : Int) ≤ 1 := by cases d <;> decide
theorem set_all {l : List Int} (h : ∀ r ∈ l, -2147483648 ≤ r ∧ r ≤ 2147483647) (a : Nat) {v : Int} (h1 : -2147483648 ≤ v) (h2 : v ≤ 2147483647) : ∀ r ∈ l.set a v, -2147483648 ≤ r ∧ r ≤ 2147483647 := fun r hr => by
  rcases List.mem_or_eq_of_mem_set hr with h' | h'
  · exact h r h'
  · subst h'; exact ⟨h1, h2⟩
theorem Good.up {g : PS} {n : Int} (h : Good g n) : Good g (n + 1) := { h with q1 := by have := h.q1; omega, r1 := by have := h.r1; omega, c1 := by have := h.c1; omega, z1 := by have := h.z1; omega }
theorem fedP_good {g : PS} {n : Int} (h : Good g n) {b : Int} (hb : I64 b) (d : Int) : Good (fedP g b d).2 (n + 1) := by
  have h' := h.up
  have q1 := h.q1; have r1 := h.r1; have c1 := h.c1; have z1 := h.z1; have c0 := h.c0; have z0 := h.z0; have r0 := h.r0
  unfold fedP
  split
  · exact { h' with z0 := by dsimp only; omega, z1 := by dsimp only; omega }
  · rename_i hn
    have t := toNat01 (roundI b g.mode (-2147483648) 2147483647).2
    have pk : I64 (peakI g.peak b) := by rcases peakI_or g.peak b with e | e <;> rw [e]; exact h.pk; exact hb
    have pn : mg (peakI g.peak b) ≤ 9218868437227405312 := by rcases peakI_or g.peak b with e | e <;> rw [e]; exact h.pn; omega
    have dp : I64 (dipI g.dip b) := by rcases dipI_or g.dip b with e | e <;> rw [e]; exact h.dp; exact hb
    have dn : mg (dipI g.dip b) ≤ 9218868437227405312 := by rcases dipI_or g.dip b with e | e <;> rw [e]; exact h.dn; omega
    split
    · exact { h' with pk := pk, pn := pn, dp := dp, dn := dn, c0 := by dsimp only; omega, c1 := by dsimp only; omega, r0 := by dsimp only; omega, r1 := by dsimp only; omega }
    · have wb := wordP_bounds g (roundI b g.mode (-2147483648) 2147483647).1 d
      have sb := wrap32_bounds (g.sum * 31 + wordP g (roundI b g.mode (-2147483648) 2147483647).1 d)
      exact { h' with pk := pk, pn := pn, dp := dp, dn := dn, c0 := by dsimp only; omega, c1 := by dsimp only; omega, s1 := sb.1, s2 := sb.2, len := by simpa using h.len, rg := set_all h.rg _ wb.1 wb.2, a0 := by dsimp only; omega, a8 := by dsimp only; omega }
theorem stepP_good {g : PS} {n : Int} (h : Good g n) (kd : Int) {a : Int} (ha : I64 a) (b : Int) : Good (stepP g kd a b).2 (n + 1) := by
  have h' := h.up
  have q0 := h.q0; have q1 := h.q1; have r0 := h.r0; have r1 := h.r1
  unfold stepP
  by_cases k1 : kd = 1
  · rw [if_pos k1]
    unfold tuneP
    by_cases e1 : a < 1 ∨ 32 < a
    · rw [if_pos e1]; exact h'
    · rw [if_neg e1]
      by_cases e2 : b < 0 ∨ 3 < b
      · rw [if_pos e2]; exact h'
      · rw [if_neg e2]; exact { h' with d1 := by dsimp only; omega, d2 := by dsimp only; omega, m0 := by dsimp only; omega, m3 := by dsimp only; omega }
  rw [if_neg k1]
  by_cases k2 : kd = 2
  · rw [if_pos k2]
    exact fedP_good h ha _
  rw [if_neg k2]
  by_cases k16 : kd = 16
  · rw [if_pos k16]
    exact fedP_good h ha _
  rw [if_neg k16]
  by_cases k3 : kd = 3
  · rw [if_pos k3]
    exact h'
  rw [if_neg k3]
  by_cases k4 : kd = 4
  · rw [if_pos k4]
    exact h'
  rw [if_neg k4]
  by_cases k5 : kd = 5
  · rw [if_pos k5]
    exact h'
  rw [if_neg k5]
  by_cases k6 : kd = 6
  · rw [if_pos k6]
    exact h'
  rw [if_neg k6]
  by_cases k7 : kd = 7
  · rw [if_pos k7]
    exact h'
  rw [if_neg k7]
  by_cases k8 : kd = 8
  · rw [if_pos k8]
    exact h'
  rw [if_neg k8]
  by_cases k9 : kd = 9
  · rw [if_pos k9]
    exact { h' with q0 := by dsimp only; omega, q1 := by dsimp only; omega }
  rw [if_neg k9]
  by_cases k10 : kd = 10
  · rw [if_pos k10]
    unfold ditherP
    by_cases e1 : a < 0 ∨ 8 ≤ a
    · rw [if_pos e1]; exact h'
    · rw [if_neg e1]; exact { h' with q0 := by dsimp only; omega, q1 := by dsimp only; omega }
  rw [if_neg k10]
  by_cases k11 : kd = 11
  · rw [if_pos k11]
    unfold squelchP
    by_cases e1 : wrap32 a = 0
    · rw [if_pos e1]; exact { h' with r0 := by dsimp only; omega, r1 := by dsimp only; omega }
    · rw [if_neg e1]; exact h'
  rw [if_neg k11]
  by_cases k12 : kd = 12
  · rw [if_pos k12]
    exact h'
  rw [if_neg k12]
  by_cases k13 : kd = 13
  · rw [if_pos k13]
    exact h'
  rw [if_neg k13]
  by_cases k15 : kd = 15
  · rw [if_pos k15]
    exact h'
  rw [if_neg k15]
  exact h'

/-! ### the real methods -/
abbrev Ap (w : World) (p : Nat) (l : Lk) (g : PS) : Prop := CA w p l (realS g) g.c g.z
theorem feedR (p : Nat) (l : Lk) (g : PS) (n b d : Int) (w : World) (hg : Good g n) (hn : n ≤ 4611686018427387904) (hb : I64 b) (h : Ap w p l g) :
    Calls Tryd.prog 21 #[.pointer (some ⟨p, 0, none⟩), .int .i64 b, .int .i32 d] w fun e w' => e = .returned (.tuple #[.int .i64 (fedP g b d).1.e, .int .i64 (fedP g b d).1.n, .int .i64 (fedP g b d).1.k]) ∧ Ap w' p l (fedP g b d).2 ∧ Chg (fun k => k = p ∨ k = l.q) w w' := by
  have en := hg.en
  have zz := hg.z0; have z1 := hg.z1; have c0 := hg.c0; have c1 := hg.c1; have r0 := hg.r0; have r1 := hg.r1
  unfold fedP
  by_cases hx : 9218868437227405312 < mg b
  · rw [if_pos hx]
    refine (feed_nan p l (realS g) g.c g.z b d w h hg.m0 hg.m3 (by rw [numR_iff, rung_u64, d_inf]; exact decide_eq_false (by omega))).mono ?_
    rintro e w' ⟨rfl, h1, h2⟩
    refine ⟨rfl, ?_, h2⟩
    rw [show wrap64 (g.z + 1) = g.z + 1 by rw [wrap64]; omega] at h1
    exact h1
  rw [if_neg hx]
  obtain ⟨f1, f2⟩ := round32_f (b := b) (m := g.mode) hb (by rw [d_inf]; omega)
  have t := toNat01 (roundI b g.mode (-2147483648) 2147483647).2
  have hbump : bump g.c (moved (clampF (wholeF (u64 b) g.mode) 13970166044103278592 4746794007244308480) (wholeF (u64 b) g.mode)) = g.c + ((roundI b g.mode (-2147483648) 2147483647).2.toNat : Int) := by
    rw [f2]; unfold bump
    cases (roundI b g.mode (-2147483648) 2147483647).2
    · simp
    · simp only [if_true]; rw [wrap64]; simp; omega
  have hnum : num (u64 b) = true := num_of_mg (by omega)
  have hp := max_key hg.pk hb hg.pn (by omega)
  have hd := min_key hg.dp hb hg.dn (by omega)
  by_cases hw : wordP g (roundI b g.mode (-2147483648) 2147483647).1 d = 0
  · rw [if_pos hw]
    refine (feed_drop p l (realS g) g.c g.z b d _ w h hg.m0 hg.m3 hnum (num_of_mg hg.pn) (num_of_mg hg.dn) hg.d1 hg.d2 f1 hw).mono ?_
    rintro e w' ⟨rfl, h1, h2⟩
    refine ⟨rfl, ?_, h2⟩
    have e1 : bump g.c (moved (clampF (wholeF (u64 b) (realS g).mode) 13970166044103278592 4746794007244308480) (wholeF (u64 b) (realS g).mode)) = _ := hbump
    rw [e1] at h1
    have e2 : ({ met (realS g) (u64 b) with dropped := wrap64 ((realS g).dropped + 1) } : CS) = realS { g with peak := peakI g.peak b, dip := dipI g.dip b, c := g.c + ((roundI b g.mode (-2147483648) 2147483647).2.toNat : Int), dropped := g.dropped + 1 } := by
      unfold met realS
      dsimp only
      rw [hp, hd, show wrap64 (g.dropped + 1) = g.dropped + 1 by rw [wrap64]; omega]
    rw [e2] at h1
    exact h1
  · rw [if_neg hw]
    have wb := wordP_bounds g (roundI b g.mode (-2147483648) 2147483647).1 d
    have ha : g.at_ = (g.at_.toNat : Nat) := by have := hg.a0; omega
    have ha8 : g.at_.toNat < 8 := by have := hg.a8; have := hg.a0; omega
    have hm : g.ring.getD g.at_.toNat 0 ∈ g.ring := by
      rw [List.getD_eq_getElem?_getD, List.getElem?_eq_getElem (by rw [hg.len]; exact ha8)]; simp
    have hr := hg.rg _ hm
    refine (feed_keep p l (realS g) g.c g.z b d _ (wordP g (roundI b g.mode (-2147483648) 2147483647).1 d) g.at_.toNat w h hg.m0 hg.m3 hnum (num_of_mg hg.pn) (num_of_mg hg.dn) hg.d1 hg.d2 f1 rfl hw wb.1 wb.2 ha ha8 hr.1 hr.2 (by unfold realS; dsimp only; omega) (by unfold realS; dsimp only; omega) (by unfold realS; dsimp only; omega) (by unfold realS; dsimp only; omega)).mono ?_
    rintro e w' ⟨rfl, h1, h2⟩
    refine ⟨rfl, ?_, h2⟩
    have e1 : bump g.c (moved (clampF (wholeF (u64 b) (realS g).mode) 13970166044103278592 4746794007244308480) (wholeF (u64 b) (realS g).mode)) = _ := hbump
    rw [e1] at h1
    rw [pushed_real hg g.at_.toNat ha _ wb.1 wb.2 _ rfl rfl rfl] at h1
    have hs : wrap32 (wrap32 (g.sum * 31) + wordP g (roundI b g.mode (-2147483648) 2147483647).1 d) = wrap32 (g.sum * 31 + wordP g (roundI b g.mode (-2147483648) 2147483647).1 d) := by
      rw [wrap32, wrap32, wrap32]; omega
    unfold Ap realS
    unfold kept met realS at h1
    dsimp only at h1 ⊢
    rw [hp, hd, hs, ← ha] at h1
    exact h1

theorem chg_p {p q : Nat} {w w' : World} (h : Chg (· = p) w w') : Chg (fun k => k = p ∨ k = q) w w' := h.mono fun k _ e => Or.inl e
theorem chg_0 {p q : Nat} {w w' : World} (h : Chg (fun _ => False) w w') : Chg (fun k => k = p ∨ k = q) w w' := h.mono fun k _ e => e.elim
theorem FeedR (p : Nat) (l : Lk) (g : PS) (n b : Int) (w : World) (hg : Good g n) (hn : n ≤ 4611686018427387904) (hb : I64 b) (h : Ap w p l g) :
    Calls Tryd.prog 32 #[.pointer (some ⟨p, 0, none⟩), .int .i64 b] w fun e w' => e = .returned (.tuple #[.int .i64 (fedP g b (6 * g.at_)).1.e, .int .i64 (fedP g b (6 * g.at_)).1.n, .int .i64 (fedP g b (6 * g.at_)).1.k]) ∧ Ap w' p l (fedP g b (6 * g.at_)).2 ∧ Chg (fun k => k = p ∨ k = l.q) w w' := by
  have ha : g.at_ = (g.at_.toNat : Nat) := by have := hg.a0; omega
  have ha8 : g.at_.toNat < 8 := by have := hg.a8; have := hg.a0; omega
  have hf := feedR p l g n b (6 * g.at_) w.drew hg hn hb h.drew
  rw [show 6 * g.at_ = 6 * ((g.at_.toNat : Nat) : Int) by omega] at hf ⊢
  refine feed_of p l (realS g) g.c g.z b g.at_.toNat w h ha ha8 (hf.mono fun e w' ⟨he, h1, h2⟩ => ⟨he, h1, ((Chg.refl _ w).drew).trans h2⟩) ?_
  rintro e w' ⟨he, _⟩
  exact ⟨_, _, _, he⟩
theorem FeedWithR (p : Nat) (l : Lk) (g : PS) (n b m : Int) (w : World) (hg : Good g n) (hn : n ≤ 4611686018427387904) (hb : I64 b) (h : Ap w p l g) :
    Calls Tryd.prog 10 #[.pointer (some ⟨p, 0, none⟩), .int .i64 b, .int .i64 m] w fun e w' => e = .returned (.tuple #[.int .i64 (fedP g b (wrap32 m)).1.e, .int .i64 (fedP g b (wrap32 m)).1.n, .int .i64 (fedP g b (wrap32 m)).1.k]) ∧ Ap w' p l (fedP g b (wrap32 m)).2 ∧ Chg (fun k => k = p ∨ k = l.q) w w' := by
  refine feedWith_of p b m w (feedR p l g n b (wrap32 m) w hg hn hb h) ?_
  rintro e w' ⟨he, _⟩
  exact ⟨_, _, _, he⟩
theorem TuneR (p : Nat) (l : Lk) (g : PS) (d m : Int) (w : World) (h : Ap w p l g) :
    Calls Tryd.prog 9 #[.pointer (some ⟨p, 0, none⟩), .int .i64 d, .int .i64 m] w fun e w' => e = .returned (.int .i64 (tuneP g d m).1.e) ∧ Ap w' p l (tuneP g d m).2 ∧ Chg (fun k => k = p ∨ k = l.q) w w' := by
  unfold tuneP
  by_cases e1 : d < 1 ∨ 32 < d
  · rw [if_pos e1]; exact (tune_depth p d m w e1).mono fun e w' ⟨he, hw⟩ => by subst hw; exact ⟨he, h, Chg.refl _ _⟩
  rw [if_neg e1]
  by_cases e2 : m < 0 ∨ 3 < m
  · rw [if_pos e2]; exact (tune_mode p d m w (by omega) (by omega) e2).mono fun e w' ⟨he, hw⟩ => by subst hw; exact ⟨he, h, Chg.refl _ _⟩
  rw [if_neg e2]
  exact (tune_ok p l (realS g) g.c g.z d m w h (by omega) (by omega) (by omega) (by omega)).mono fun e w' ⟨he, h1, h2⟩ => ⟨he, h1, chg_p h2⟩
theorem SumR (p : Nat) (l : Lk) (g : PS) (n : Int) (w : World) (hg : Good g n) (h : Ap w p l g) :
    Calls Tryd.prog 12 #[.pointer (some ⟨p, 0, none⟩)] w fun e w' => e = .returned (.int .i64 g.sum) ∧ Ap w' p l g ∧ Chg (fun k => k = p ∨ k = l.q) w w' :=
  (sum_any p l (realS g) g.c g.z w h hg.s1 hg.s2).mono fun e w' ⟨he, hw⟩ => by subst hw; exact ⟨he, h, Chg.refl _ _⟩
theorem PeakR (p : Nat) (l : Lk) (g : PS) (n : Int) (w : World) (hg : Good g n) (h : Ap w p l g) :
    Calls Tryd.prog 24 #[.pointer (some ⟨p, 0, none⟩)] w fun e w' => e = .returned (.int .i64 g.peak) ∧ Ap w' p l g ∧ Chg (fun k => k = p ∨ k = l.q) w w' :=
  (peak_any p l (realS g) g.c g.z w h).mono fun e w' ⟨he, hw⟩ => by
    subst hw
    rw [show wrap64 ((realS g).peak : Int) = g.peak from back_bits hg.pk] at he
    exact ⟨he, h, Chg.refl _ _⟩
theorem DipR (p : Nat) (l : Lk) (g : PS) (n : Int) (w : World) (hg : Good g n) (h : Ap w p l g) :
    Calls Tryd.prog 25 #[.pointer (some ⟨p, 0, none⟩)] w fun e w' => e = .returned (.int .i64 g.dip) ∧ Ap w' p l g ∧ Chg (fun k => k = p ∨ k = l.q) w w' :=
  (dip_any p l (realS g) g.c g.z w h).mono fun e w' ⟨he, hw⟩ => by
    subst hw
    rw [show wrap64 ((realS g).dip : Int) = g.dip from back_bits hg.dp] at he
    exact ⟨he, h, Chg.refl _ _⟩
theorem SeqR (p : Nat) (l : Lk) (g : PS) (w : World) (h : Ap w p l g) :
    Calls Tryd.prog 13 #[.pointer (some ⟨p, 0, none⟩)] w fun e w' => e = .returned (.int .i64 g.seq) ∧ Ap w' p l g ∧ Chg (fun k => k = p ∨ k = l.q) w w' :=
  (seq_any p l (realS g) g.c g.z w h).mono fun e w' ⟨he, hw⟩ => by subst hw; exact ⟨he, h, Chg.refl _ _⟩
theorem DroppedR (p : Nat) (l : Lk) (g : PS) (w : World) (h : Ap w p l g) :
    Calls Tryd.prog 31 #[.pointer (some ⟨p, 0, none⟩)] w fun e w' => e = .returned (.int .i64 g.dropped) ∧ Ap w' p l g ∧ Chg (fun k => k = p ∨ k = l.q) w w' :=
  (dropped_any p l (realS g) g.c g.z w h).mono fun e w' ⟨he, hw⟩ => by subst hw; exact ⟨he, h, Chg.refl _ _⟩
theorem StampR (p : Nat) (l : Lk) (g : PS) (n : Int) (w : World) (hg : Good g n) (hn : n ≤ 4611686018427387904) (h : Ap w p l g) :
    Calls Tryd.prog 11 #[.pointer (some ⟨p, 0, none⟩)] w fun e w' => e = .returned (.tuple #[.int .i64 g.seq, .int .i64 (g.seq + 1)]) ∧ Ap w' p l { g with seq := g.seq + 1 } ∧ Chg (fun k => k = p ∨ k = l.q) w w' :=
  (stamp_any p l (realS g) g.c g.z w h).mono fun e w' ⟨he, h1, h2⟩ => by
    have e1 : wrap64 ((realS g).seq + 1) = g.seq + 1 := by have := hg.q0; have := hg.q1; rw [wrap64]; show _ = _; unfold realS; dsimp only; omega
    rw [e1] at he h1
    exact ⟨he, h1, chg_p h2⟩
theorem DitherR (p : Nat) (l : Lk) (g : PS) (n i : Int) (w : World) (hg : Good g n) (hn : n ≤ 4611686018427387904) (h : Ap w p l g) :
    Calls Tryd.prog 35 #[.pointer (some ⟨p, 0, none⟩), .int .i64 i] w fun e w' => e = .returned (.tuple #[.int .i64 (ditherP g i).1.e, .int .i64 (ditherP g i).1.n]) ∧ Ap w' p l (ditherP g i).2 ∧ Chg (fun k => k = p ∨ k = l.q) w w' := by
  unfold ditherP
  by_cases e1 : i < 0 ∨ 8 ≤ i
  · rw [if_pos e1]; exact (dither_out p l (realS g) g.c g.z i w h e1).mono fun e w' ⟨he, hw⟩ => by subst hw; exact ⟨he, h, Chg.refl _ _⟩
  rw [if_neg e1]
  obtain ⟨k, rfl⟩ : ∃ k : Nat, i = k := ⟨i.toNat, by omega⟩
  refine (dither_in p l (realS g) g.c g.z k w h (by omega)).mono fun e w' ⟨he, h1, h2⟩ => ?_
  have q0 := hg.q0; have q1 := hg.q1
  have e2 : wrap64 ((realS g).seq + 1) = g.seq + 1 := by rw [wrap64]; show _ = _; unfold realS; dsimp only; omega
  rw [e2] at he h1
  rw [show wrap64 (6 * (k : Int) + (g.seq + 1)) = 6 * (k : Int) + (g.seq + 1) by rw [wrap64]; omega] at he
  exact ⟨he, h1, chg_p h2⟩
theorem SquelchR (p : Nat) (l : Lk) (g : PS) (n v : Int) (w : World) (hg : Good g n) (hn : n ≤ 4611686018427387904) (h : Ap w p l g) :
    Calls Tryd.prog 36 #[.pointer (some ⟨p, 0, none⟩), .int .i64 v] w fun e w' => e = .returned (.int .i64 (squelchP g v).1.n) ∧ Ap w' p l (squelchP g v).2 ∧ Chg (fun k => k = p ∨ k = l.q) w w' := by
  unfold squelchP
  by_cases e1 : wrap32 v = 0
  · rw [if_pos e1]
    refine (squelch_zero p l (realS g) g.c g.z v w h e1).mono fun e w' ⟨he, h1, h2⟩ => ?_
    have e2 : wrap64 ((realS g).dropped + 1) = g.dropped + 1 := by have := hg.r0; have := hg.r1; rw [wrap64]; show _ = _; unfold realS; dsimp only; omega
    rw [e2] at h1
    exact ⟨he, h1, chg_p h2⟩
  · rw [if_neg e1]
    exact (squelch_sound p l (realS g) g.c g.z v w h e1).mono fun e w' ⟨he, h1, h2⟩ => ⟨he, h1, chg_0 h2⟩
end Go.Proofs.Qxb6500376aDoor
