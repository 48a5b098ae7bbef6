/- The pipeline's state in plain ints; the real state as a function of it. -/
import Derived.Test.Qxb6500376aDoorChSqrt
import Derived.Test.Qxb6500376aDoorStPlain
import Derived.Test.Qxb6500376aDoorChEnergy
import Derived.Test.Qxb6500376aDoorChCheck
import Derived.Test.Qxb6500376aDoorChFeed
import Derived.Test.Qxb6500376aDoorQuMask
namespace Go.Qu
set_option linter.unusedVariables false
set_option linter.unusedSimpArgs false
open Ieee Go.RowKit

def keyI (b : Int) : Int := if 0 ≤ b then b else -(mg b : Int) - 1
theorem mg_val {b : Int} (hb : I64 b) : (mg b : Int) = if b < 0 then b + 9223372036854775808 else b := by
  unfold I64 at hb; unfold mg; split <;> omega
theorem sr_u64 {b : Int} (hb : I64 b) : sr double (u64 b) = if b < 0 then -(mg b : Int) else mg b := by
  unfold sr; rw [rung_u64, sgn_u64 hb]; by_cases h0 : b < 0 <;> simp [h0]
theorem back_bits {b : Int} (hb : I64 b) : wrap64 (u64 b : Int) = b := by
  have h := u64_val b
  unfold I64 at hb
  rw [wrap64]; omega
theorem num_of_mg {b : Int} (h : mg b ≤ 9218868437227405312) : num (u64 b) = true := by
  rw [numR_iff, rung_u64, d_inf]; exact decide_eq_true h
def peakI (p b : Int) : Int := if keyI p < keyI b then b else p
def dipI (d b : Int) : Int := if keyI b < keyI d then b else d
theorem rung_le {b : Int} (h : mg b ≤ 9218868437227405312) : rung double (u64 b) ≤ double.infRung := by rw [rung_u64, d_inf]; exact h
theorem max_key {p b : Int} (hp : I64 p) (hb : I64 b) (np : mg p ≤ 9218868437227405312) (nb : mg b ≤ 9218868437227405312) : maxF (u64 p) (u64 b) = u64 (peakI p b) := by
  rw [maxF_sr (rung_le np) (rung_le nb), sr_u64 hp, sr_u64 hb, sgn_u64 hp]
  have vp := mg_val hp
  have vb := mg_val hb
  unfold I64 at hp hb
  unfold peakI keyI
  by_cases h1 : p < 0
  · rw [if_pos h1] at vp ⊢
    rw [decide_eq_true h1, if_neg (by omega : ¬ 0 ≤ p)]
    by_cases h2 : b < 0
    · rw [if_pos h2] at vb ⊢
      rw [if_neg (by omega : ¬ 0 ≤ b)]
      by_cases h3 : -(mg p : Int) < -(mg b : Int)
      · rw [if_pos h3, if_pos (by omega)]
      · rw [if_neg h3]
        by_cases h4 : -(mg b : Int) < -(mg p : Int)
        · rw [if_pos h4, if_neg (by omega)]
        · have e : b = p := by omega
          subst e; simp
    · rw [if_neg h2] at vb ⊢
      rw [if_pos (by omega : 0 ≤ b)]
      rw [if_pos (show -(mg p : Int) - 1 < b by omega)]
      by_cases h3 : -(mg p : Int) < (mg b : Int)
      · rw [if_pos h3]
      · rw [if_neg h3, if_neg (by omega)]; rfl
  · rw [if_neg h1] at vp ⊢
    rw [decide_eq_false h1, if_pos (by omega : 0 ≤ p)]
    by_cases h2 : b < 0
    · rw [if_pos h2] at vb ⊢
      rw [if_neg (by omega : ¬ 0 ≤ b), if_neg (show ¬ p < -(mg b : Int) - 1 by omega), if_neg (by omega)]
      by_cases h4 : -(mg b : Int) < (mg p : Int)
      · rw [if_pos h4]
      · rw [if_neg h4]; rfl
    · rw [if_neg h2] at vb ⊢
      rw [if_pos (by omega : 0 ≤ b)]
      by_cases h3 : p < b
      · rw [if_pos (by omega), if_pos h3]
      · rw [if_neg (by omega), if_neg h3]
        by_cases h4 : (mg b : Int) < (mg p : Int)
        · rw [if_pos h4]
        · rw [if_neg h4]; rfl
theorem min_key {p b : Int} (hp : I64 p) (hb : I64 b) (np : mg p ≤ 9218868437227405312) (nb : mg b ≤ 9218868437227405312) : minF (u64 p) (u64 b) = u64 (dipI p b) := by
  rw [minF_sr (rung_le np) (rung_le nb), sr_u64 hp, sr_u64 hb, sgn_u64 hp]
  have vp := mg_val hp
  have vb := mg_val hb
  unfold I64 at hp hb
  unfold dipI keyI
  by_cases h1 : p < 0
  · rw [if_pos h1] at vp ⊢
    rw [decide_eq_true h1, if_neg (by omega : ¬ 0 ≤ p)]
    by_cases h2 : b < 0
    · rw [if_pos h2] at vb ⊢
      rw [if_neg (by omega : ¬ 0 ≤ b)]
      by_cases h3 : -(mg p : Int) < -(mg b : Int)
      · rw [if_pos h3, if_neg (by omega)]
      · rw [if_neg h3]
        by_cases h4 : -(mg b : Int) < -(mg p : Int)
        · rw [if_pos h4, if_pos (by omega)]
        · have e : b = p := by omega
          subst e; simp
    · rw [if_neg h2] at vb ⊢
      rw [if_pos (by omega : 0 ≤ b)]
      rw [if_neg (show ¬ b < -(mg p : Int) - 1 by omega)]
      by_cases h3 : -(mg p : Int) < (mg b : Int)
      · rw [if_pos h3]
      · rw [if_neg h3, if_neg (by omega)]; rfl
  · rw [if_neg h1] at vp ⊢
    rw [decide_eq_false h1, if_pos (by omega : 0 ≤ p)]
    by_cases h2 : b < 0
    · rw [if_pos h2] at vb ⊢
      rw [if_neg (by omega : ¬ 0 ≤ b), if_pos (show -(mg b : Int) - 1 < p by omega), if_neg (by omega)]
      by_cases h4 : -(mg b : Int) < (mg p : Int)
      · rw [if_pos h4]
      · rw [if_neg h4]; rfl
    · rw [if_neg h2] at vb ⊢
      rw [if_pos (by omega : 0 ≤ b)]
      by_cases h3 : b < p
      · rw [if_neg (by omega), if_pos (by omega), if_pos h3]
      · rw [if_neg h3]
        by_cases h4 : (mg p : Int) < (mg b : Int)
        · rw [if_pos h4]
        · rw [if_neg h4, if_neg (by omega)]
          simp only [Bool.false_eq_true, if_false]
          congr 1; omega

/-! ### the energy -/
def sumSq : List Int → Int
  | [] => 0
  | r :: l => r * r + sumSq l
theorem sq_bound {r : Int} (h1 : -2147483648 ≤ r) (h2 : r ≤ 2147483647) : 0 ≤ r * r ∧ r * r ≤ 4611686018427387904 := by
  refine ⟨by rcases Int.le_total 0 r with h | h; exact Int.mul_nonneg h h; exact Int.mul_nonneg_of_nonpos_of_nonpos h h, ?_⟩
  have h3 : (r.natAbs : Int) * r.natAbs = r * r := by rw [← Int.natAbs_mul_self' r]
  have h4 : r.natAbs ≤ 2147483648 := by omega
  have h5 : r.natAbs * r.natAbs ≤ 2147483648 * 2147483648 := Nat.mul_le_mul h4 h4
  omega
theorem sumSq_bound : ∀ (l : List Int), (∀ r ∈ l, -2147483648 ≤ r ∧ r ≤ 2147483647) → 0 ≤ sumSq l ∧ sumSq l ≤ l.length * 4611686018427387904
  | [], _ => by simp [sumSq]
  | r :: l, h => by
    have h1 := sumSq_bound l (fun x hx => h x (by simp [hx]))
    have h2 := h r (by simp)
    have h3 := sq_bound h2.1 h2.2
    simp only [sumSq, List.length_cons]
    omega
theorem sumSq_set : ∀ (l : List Int) (a : Nat) (v : Int), a < l.length → sumSq (l.set a v) = sumSq l + v * v - l.getD a 0 * l.getD a 0
  | [], a, v, h => by simp at h
  | r :: l, 0, v, h => by simp [sumSq]; omega
  | r :: l, a + 1, v, h => by
    have := sumSq_set l a v (by simpa using h)
    simp only [List.set_cons_succ, sumSq, List.getD_cons_succ]
    omega

/-! ### Span -/
def negI (d : Int) : Int := if d < 0 then d + 9223372036854775808 else d - 9223372036854775808
theorem negI_facts {d : Int} (h : I64 d) : I64 (negI d) ∧ mg (negI d) = mg d := by
  unfold I64 at h ⊢
  unfold negI mg
  split <;> omega
theorem neg_bits {d : Int} (h : I64 d) : Op.negFloat .f64 (u64 d) = u64 (negI d) := by
  rw [negF_eq (u64_lt d), rung_u64, sgn_u64 h]
  have h1 := u64_val (negI d)
  have h2 := mg_lt d
  have h3 := mg_val h
  unfold I64 at h
  unfold Format.word
  rw [d_weight]
  unfold negI at h1 ⊢
  by_cases h0 : d < 0
  · rw [if_pos h0] at h1 h3 ⊢
    simp only [h0, decide_true, Bool.not_true, Bool.false_eq_true, if_false]; omega
  · rw [if_neg h0] at h1 h3 ⊢
    simp only [h0, decide_false, Bool.not_false, if_true]; omega
theorem is_inf {x : Nat} (hx : rung double x ≤ double.infRung) (s : Bool) : (double.read x == Datum.infinity s) = (decide (rung double x = double.infRung) && (sgn double x == s)) := by
  rcases Nat.lt_or_ge (rung double x) double.infRung with h | h
  · obtain ⟨m, i, e, _⟩ := read_num double h
    rw [e, decide_eq_false (by omega)]; rfl
  · rw [read_inf double (by omega) d_bi, decide_eq_true (by omega)]
    cases sgn double x <;> cases s <;> rfl
theorem not_nan {x : Nat} (hx : rung double x ≤ double.infRung) : (double.read x).isNaN = false := by
  rcases Nat.lt_or_ge (rung double x) double.infRung with h | h
  · obtain ⟨m, i, e, _⟩ := read_num double h
    rw [e]; rfl
  · rw [read_inf double (by omega) d_bi]; rfl
theorem is_zero {x : Nat} (hx : rung double x ≤ double.infRung) : (double.read x).isZero = decide (rung double x = 0) := by
  have hz : val double 0 = 0 := val_zero double
  rcases Nat.lt_or_ge (rung double x) double.infRung with h | h
  · obtain ⟨m, i, e, v⟩ := read_num double h
    rw [e]
    by_cases h0 : rung double x = 0
    · rw [decide_eq_true h0]
      rw [h0, hz] at v
      have hm : m = 0 := by
        rcases Nat.mul_eq_zero.1 v with h | h
        · exact h
        · have := Nat.two_pow_pos i; omega
      subst hm; rfl
    · rw [decide_eq_false h0]
      have hm : m ≠ 0 := by
        intro hm; subst hm
        rw [Nat.zero_mul] at v
        exact h0 (val_inj double (by rw [hz]; exact v.symm))
      cases m with
      | zero => exact absurd rfl hm
      | succ m => rfl
  · rw [read_inf double (by omega) d_bi, decide_eq_false (by rw [d_inf] at h; omega)]; rfl
end Go.Qu
namespace Go.Proofs.Qxb6500376aDoor
set_option linter.unusedVariables false
set_option linter.unusedSimpArgs false
open Go.RowKit Go.Qu Ieee
theorem foldl_en : ∀ (l : List Int) (A : Int), 0 ≤ A → (∀ r ∈ l, 0 ≤ r * r) → l.foldl enStep (A / 18446744073709551616 % 18446744073709551616, A % 18446744073709551616) = ((A + sumSq l) / 18446744073709551616 % 18446744073709551616, (A + sumSq l) % 18446744073709551616)
  | [], A, _, _ => by simp [sumSq]
  | r :: l, A, hA, h => by
    have h1 := h r (by simp)
    have h2 := foldl_en l (A + r * r) (by omega) (fun x hx => h x (by simp [hx]))
    simp only [List.foldl_cons, sumSq]
    have e : enStep (A / 18446744073709551616 % 18446744073709551616, A % 18446744073709551616) r = ((A + r * r) / 18446744073709551616 % 18446744073709551616, (A + r * r) % 18446744073709551616) := by
      unfold enStep; dsimp only
      refine Prod.ext ?_ ?_ <;> dsimp only <;> omega
    rw [e, h2, show A + r * r + sumSq l = A + (r * r + sumSq l) by omega]

theorem pick_max {x y : Nat} (hx : rung double x ≤ double.infRung) (hy : rung double y ≤ double.infRung) (x64 : x < 18446744073709551616) (y64 : y < 18446744073709551616) : pickF false .gt x y = maxF x y := by
  have wx := word_self x64
  have wy := word_self y64
  rw [maxF_sr hx hy]
  unfold pickF
  rw [is_inf hx, is_inf hy, not_nan hx, not_nan hy, is_zero hx, is_zero hy, read_neg, show (double.read x).order (double.read y) = double.order x y from rfl, order_sr double d_bi hx hy, show double.write (.infinity false) = double.word false double.infRung from rfl]
  have sx : sr double x = if sgn double x then -(rung double x : Int) else rung double x := rfl
  have sy : sr double y = if sgn double y then -(rung double y : Int) else rung double y := rfl
  by_cases c1 : (decide (rung double x = double.infRung) && (sgn double x == false)) = true
  · simp only [Bool.and_eq_true, decide_eq_true_eq, beq_iff_eq] at c1
    rw [c1.1, c1.2] at wx sx
    simp only [c1.1, c1.2, decide_true, beq_self_eq_true, Bool.and_self, Bool.true_or, if_true]
    simp only [Bool.false_eq_true, if_false] at sx ⊢
    rw [wx]
    by_cases h1 : sr double x < sr double y
    · exfalso; rw [sx, sy] at h1; split at h1 <;> omega
    · rw [if_neg h1]
      split <;> rfl
  by_cases c2 : (decide (rung double y = double.infRung) && (sgn double y == false)) = true
  · simp only [Bool.and_eq_true, decide_eq_true_eq, beq_iff_eq] at c2
    rw [c2.1, c2.2] at wy sy
    rw [show (decide (rung double x = double.infRung) && (sgn double x == false)) = false by simpa using c1]
    simp only [c2.1, c2.2, decide_true, beq_self_eq_true, Bool.and_self, Bool.or_true, if_true]
    simp only [Bool.false_eq_true, if_false] at sy
    rw [wy]
    by_cases h1 : sr double x < sr double y
    · rw [if_pos h1]
    · exfalso
      simp only [Bool.and_eq_true, decide_eq_true_eq, beq_iff_eq] at c1
      rw [sx, sy] at h1
      cases hs : sgn double x
      · rw [hs] at h1 c1; simp at h1 c1; omega
      · rw [hs] at h1; simp at h1; rw [d_inf] at h1; omega
  rw [show (decide (rung double x = double.infRung) && (sgn double x == false)) = false by simpa using c1, show (decide (rung double y = double.infRung) && (sgn double y == false)) = false by simpa using c2]
  simp only [Bool.or_self, Bool.false_eq_true, if_false]
  by_cases c3 : (decide (rung double x = 0) && decide (rung double y = 0)) = true
  · rw [if_pos c3]
    simp only [Bool.and_eq_true, decide_eq_true_eq] at c3
    rw [c3.1] at sx; rw [c3.2] at sy
    have sx0 : sr double x = 0 := by rw [sx]; split <;> simp
    have sy0 : sr double y = 0 := by rw [sy]; split <;> simp
    rw [sx0, sy0]
    cases sgn double x <;> simp
  · rw [if_neg c3]
    by_cases h1 : sr double x < sr double y
    · rw [if_pos h1, cmp_lt h1]; rfl
    · rw [if_neg h1]
      by_cases h2 : sr double y < sr double x
      · rw [if_pos h2, cmp_gt h2]; rfl
      · rw [if_neg h2, cmp_eq (by omega)]
        have e : x = y := by
          simp only [Bool.and_eq_true, decide_eq_true_eq] at c3
          have h3 : sr double x = sr double y := by omega
          rw [sx, sy] at h3
          rw [← wx, ← wy]
          cases hs : sgn double x <;> cases ht : sgn double y <;> rw [hs, ht] at h3 <;> simp at h3
          · have : rung double x = rung double y := by omega
            rw [this]
          · exfalso; omega
          · exfalso; omega
          · have : rung double x = rung double y := by omega
            rw [this]
        subst e
        split <;> split <;> rfl
theorem pick_min {x y : Nat} (hx : rung double x ≤ double.infRung) (hy : rung double y ≤ double.infRung) (x64 : x < 18446744073709551616) (y64 : y < 18446744073709551616) : pickF true .lt x y = minF x y := by
  have wx := word_self x64
  have wy := word_self y64
  rw [minF_sr hx hy]
  unfold pickF
  rw [is_inf hx, is_inf hy, not_nan hx, not_nan hy, is_zero hx, is_zero hy, read_neg, show (double.read x).order (double.read y) = double.order x y from rfl, order_sr double d_bi hx hy, show double.write (.infinity true) = double.word true double.infRung from rfl]
  have sx : sr double x = if sgn double x then -(rung double x : Int) else rung double x := rfl
  have sy : sr double y = if sgn double y then -(rung double y : Int) else rung double y := rfl
  by_cases c1 : (decide (rung double x = double.infRung) && (sgn double x == true)) = true
  · simp only [Bool.and_eq_true, decide_eq_true_eq, beq_iff_eq] at c1
    rw [c1.1, c1.2] at wx sx
    simp only [c1.1, c1.2, decide_true, beq_self_eq_true, Bool.and_self, Bool.true_or, if_true]
    simp only [if_true] at sx
    rw [wx]
    by_cases h1 : sr double x < sr double y
    · rw [if_pos h1]
    · rw [if_neg h1]
      by_cases h2 : sr double y < sr double x
      · exfalso; rw [sx, sy] at h2; split at h2 <;> omega
      · rw [if_neg h2]
  by_cases c2 : (decide (rung double y = double.infRung) && (sgn double y == true)) = true
  · simp only [Bool.and_eq_true, decide_eq_true_eq, beq_iff_eq] at c2
    rw [c2.1, c2.2] at wy sy
    rw [show (decide (rung double x = double.infRung) && (sgn double x == true)) = false by simpa using c1]
    simp only [c2.1, c2.2, decide_true, beq_self_eq_true, Bool.and_self, Bool.or_true, if_true]
    simp only [if_true] at sy
    rw [wy]
    have h2 : sr double y < sr double x := by
      simp only [Bool.and_eq_true, decide_eq_true_eq, beq_iff_eq] at c1
      rw [sx, sy]
      cases hs : sgn double x
      · simp; rw [d_inf]; omega
      · rw [hs] at c1; simp at c1 ⊢; omega
    rw [if_neg (by omega), if_pos h2]
  rw [show (decide (rung double x = double.infRung) && (sgn double x == true)) = false by simpa using c1, show (decide (rung double y = double.infRung) && (sgn double y == true)) = false by simpa using c2]
  simp only [Bool.or_self, Bool.false_eq_true, if_false]
  by_cases c3 : (decide (rung double x = 0) && decide (rung double y = 0)) = true
  · rw [if_pos c3]
    simp only [Bool.and_eq_true, decide_eq_true_eq] at c3
    rw [c3.1] at sx; rw [c3.2] at sy
    have sx0 : sr double x = 0 := by rw [sx]; split <;> simp
    have sy0 : sr double y = 0 := by rw [sy]; split <;> simp
    rw [sx0, sy0]
    cases sgn double x <;> simp
  · rw [if_neg c3]
    by_cases h1 : sr double x < sr double y
    · rw [if_pos h1, cmp_lt h1]; rfl
    · rw [if_neg h1]
      by_cases h2 : sr double y < sr double x
      · rw [if_pos h2, cmp_gt h2]; rfl
      · rw [if_neg h2, cmp_eq (by omega)]
        have e : x = y := by
          simp only [Bool.and_eq_true, decide_eq_true_eq] at c3
          have h3 : sr double x = sr double y := by omega
          rw [sx, sy] at h3
          rw [← wx, ← wy]
          cases hs : sgn double x <;> cases ht : sgn double y <;> rw [hs, ht] at h3 <;> simp at h3
          · have : rung double x = rung double y := by omega
            rw [this]
          · exfalso; omega
          · exfalso; omega
          · have : rung double x = rung double y := by omega
            rw [this]
        subst e
        split <;> split <;> rfl
/-- the pipeline in plain ints -/
structure PS where
  depth : Int
  mode : Int
  sum : Int
  peak : Int
  dip : Int
  ring : List Int
  at_ : Int
  seq : Int
  dropped : Int
  c : Int
  z : Int
def realS (g : PS) : CS := { depth := g.depth, mode := g.mode, sum := g.sum, peak := u64 g.peak, dip := u64 g.dip, ring := g.ring, at_ := g.at_, hi := sumSq g.ring / 18446744073709551616, lo := sumSq g.ring % 18446744073709551616, seq := g.seq, dropped := g.dropped }
structure Good (g : PS) (n : Int) : Prop where
  len : g.ring.length = 8
  d1 : 1 ≤ g.depth
  d2 : g.depth ≤ 32
  m0 : 0 ≤ g.mode
  m3 : g.mode ≤ 3
  s1 : -2147483648 ≤ g.sum
  s2 : g.sum ≤ 2147483647
  pk : I64 g.peak
  pn : mg g.peak ≤ 9218868437227405312
  dp : I64 g.dip
  dn : mg g.dip ≤ 9218868437227405312
  rg : ∀ r ∈ g.ring, -2147483648 ≤ r ∧ r ≤ 2147483647
  a0 : 0 ≤ g.at_
  a8 : g.at_ < 8
  q0 : 0 ≤ g.seq
  q1 : g.seq ≤ n
  r0 : 0 ≤ g.dropped
  r1 : g.dropped ≤ n
  c0 : 0 ≤ g.c
  c1 : g.c ≤ n
  z0 : 0 ≤ g.z
  z1 : g.z ≤ n
theorem Good.en {g : PS} {n : Int} (h : Good g n) : 0 ≤ sumSq g.ring ∧ sumSq g.ring ≤ 36893488147419103232 := by
  have := sumSq_bound g.ring h.rg
  rw [h.len] at this
  omega
theorem Good.check {g : PS} {n : Int} (h : Good g n) : g.ring.foldl enStep (0, 0) = ((realS g).hi, (realS g).lo) := by
  have h1 := foldl_en g.ring 0 (by omega) (fun r hr => (sq_bound (h.rg r hr).1 (h.rg r hr).2).1)
  have h2 := h.en
  have e : ((0 : Int) / 18446744073709551616 % 18446744073709551616, (0 : Int) % 18446744073709551616) = (0, 0) := by decide
  rw [e] at h1
  rw [h1]
  unfold realS; dsimp only
  refine Prod.ext ?_ ?_ <;> dsimp only <;> omega
/-- a word laid into the ring -/
theorem pushed_real {g : PS} {n : Int} (h : Good g n) (a : Nat) (ha : g.at_ = a) (v : Int) (v1 : -2147483648 ≤ v) (v2 : v ≤ 2147483647) (s : CS) (hs : s.ring = g.ring) (hh : s.hi = sumSq g.ring / 18446744073709551616) (hl : s.lo = sumSq g.ring % 18446744073709551616) :
    pushed s a v = { s with ring := g.ring.set a v, at_ := ((a : Int) + 1) % 8, lo := sumSq (g.ring.set a v) % 18446744073709551616, hi := sumSq (g.ring.set a v) / 18446744073709551616 } := by
  have ha8 : a < g.ring.length := by rw [h.len]; have := h.a8; omega
  have e1 := sumSq_set g.ring a v ha8
  have e2 := h.en
  have e3 := sq_bound v1 v2
  have e4 : g.ring.getD a 0 ∈ g.ring := by
    rw [List.getD_eq_getElem?_getD, List.getElem?_eq_getElem ha8]; simp
  have e5 := h.rg _ e4
  have e6 := sq_bound e5.1 e5.2
  have e7 : 0 ≤ sumSq (g.ring.set a v) := (sumSq_bound _ (fun r hr => by
    rcases List.mem_or_eq_of_mem_set hr with h' | h'
    · exact h.rg r h'
    · subst h'; exact ⟨v1, v2⟩)).1
  unfold pushed
  rw [hs, hh, hl]
  obtain ⟨X, hX⟩ : ∃ X, g.ring.getD a 0 * g.ring.getD a 0 = X := ⟨_, rfl⟩
  obtain ⟨Y, hY⟩ : ∃ Y, v * v = Y := ⟨_, rfl⟩
  rw [hX] at e1 e6 ⊢
  rw [hY] at e1 e3 ⊢
  rw [e1] at e7 ⊢
  have b1 := bor_01 ((sumSq g.ring % 18446744073709551616 + Y) % 18446744073709551616) X
  have b2 : bor ((sumSq g.ring % 18446744073709551616 + Y) % 18446744073709551616) X = if (sumSq g.ring % 18446744073709551616 + Y) % 18446744073709551616 < X then 1 else 0 := rfl
  congr 1
  · rw [b2]
    split <;> omega
  · omega
end Go.Proofs.Qxb6500376aDoor
