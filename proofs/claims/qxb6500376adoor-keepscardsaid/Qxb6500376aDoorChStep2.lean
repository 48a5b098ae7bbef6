/- The pipeline's meters over the plain state. -/
import Derived.Test.Qxb6500376aDoorChStep
namespace Go.Qu
set_option linter.unusedVariables false
set_option linter.unusedSimpArgs false
open Ieee Go.RowKit
theorem and32U {x : Int} (h0 : 0 ≤ x) (h1 : x < 18446744073709551616) : bits .and .u64 x 4294967295 = x % 4294967296 := by
  show IntKind.u64.wrap (((BitVec.ofInt 64 x &&& BitVec.ofInt 64 (4294967295 : Int)).toNat : Nat) : Int) = _
  rw [BitVec.toNat_and, BitVec.toNat_ofInt, BitVec.toNat_ofInt, show ((4294967295 : Int) % ((2 ^ 64 : Nat) : Int)).toNat = 2 ^ 32 - 1 by decide, Nat.and_two_pow_sub_one_eq_mod, IntKind.wrap_u64]
  omega
theorem or_sumU {a b : Nat} (k : Nat) (hk : k ≤ 63) (hb : b < 2 ^ k) (ha : a % 2 ^ k = 0) (h : a + b < 18446744073709551616) : bits .or .u64 (a : Int) (b : Int) = (a : Int) + b := by
  show IntKind.u64.wrap (((BitVec.ofInt 64 (a : Int) ||| BitVec.ofInt 64 (b : Int)).toNat : Nat) : Int) = _
  rw [BitVec.toNat_or, BitVec.toNat_ofInt, BitVec.toNat_ofInt, show ((a : Int) % ((2 ^ 64 : Nat) : Int)).toNat = a by omega, show ((b : Int) % ((2 ^ 64 : Nat) : Int)).toNat = b by omega]
  obtain ⟨q, hq⟩ := Nat.dvd_of_mod_eq_zero ha
  have e2 : a ||| b = a + b := by rw [hq, Nat.two_pow_add_eq_or_of_lt hb]
  rw [e2, IntKind.wrap_u64]
  omega
end Go.Qu
namespace Go.Proofs.Qxb6500376aDoor
set_option linter.unusedVariables false
set_option linter.unusedSimpArgs false
set_option maxHeartbeats 1000000
open Go.RowKit Go.Qu Ieee

theorem Good.enHi {g : PS} {n : Int} (h : Good g n) : enHi (realS g) = sumSq g.ring / 4294967296 ∧ enLo (realS g) = sumSq g.ring % 4294967296 ∧ rmsN (realS g) = sumSq g.ring / 16384 := by
  have en := h.en
  obtain ⟨E, hE⟩ : ∃ E : Nat, sumSq g.ring = E := ⟨(sumSq g.ring).toNat, by omega⟩
  have e1 : (realS g).hi = ((E / 18446744073709551616 : Nat) : Int) := by unfold realS; dsimp only; rw [hE]; rfl
  have e2 : (realS g).lo = ((E % 18446744073709551616 : Nat) : Int) := by unfold realS; dsimp only; rw [hE]; rfl
  rw [hE] at en ⊢
  have hh : E / 18446744073709551616 ≤ 2 := by omega
  refine ⟨?_, ?_, ?_⟩
  · unfold Go.Proofs.Qxb6500376aDoor.enHi
    rw [e1, e2, show IntKind.u64.wrap (((E / 18446744073709551616 : Nat) : Int) * 4294967296) = ((E / 18446744073709551616 * 4294967296 : Nat) : Int) by rw [IntKind.wrap_u64]; omega,
      show ((E % 18446744073709551616 : Nat) : Int) / 4294967296 = ((E % 18446744073709551616 / 4294967296 : Nat) : Int) by omega,
      or_sumU 32 (by omega) (by omega) (by omega) (by omega), wrap64]
    omega
  · unfold enLo
    rw [e2, and32U (by omega) (by omega), wrap64]
    omega
  · unfold rmsN
    rw [e1, e2, show IntKind.u64.wrap (((E / 18446744073709551616 : Nat) : Int) * 1125899906842624) = ((E / 18446744073709551616 * 1125899906842624 : Nat) : Int) by rw [IntKind.wrap_u64]; omega,
      show ((E % 18446744073709551616 : Nat) : Int) / 16384 = ((E % 18446744073709551616 / 16384 : Nat) : Int) by omega,
      or_sumU 50 (by omega) (by omega) (by omega) (by omega)]
    omega
theorem ap_drewN {w : World} {p : Nat} {l : Lk} {g : PS} (h : Ap w p l g) (n : Nat) : Ap (w.drewN n) p l g := h.drewN n
theorem EnergyR (p : Nat) (l : Lk) (g : PS) (n : Int) (w : World) (hg : Good g n) (h : Ap w p l g) :
    Calls Tryd.prog 30 #[.pointer (some ⟨p, 0, none⟩)] w fun e w' => e = .returned (.tuple #[.int .i64 (sumSq g.ring / 4294967296), .int .i64 (sumSq g.ring % 4294967296)]) ∧ Ap w' p l g ∧ Chg (fun k => k = p ∨ k = l.q) w w' := by
  have en := hg.en
  refine (energy_any p l (realS g) g.c g.z w h (by unfold realS; dsimp only; omega) (by unfold realS; dsimp only; omega) (by unfold realS; dsimp only; omega) (by unfold realS; dsimp only; omega)).mono ?_
  rintro e w' ⟨rfl, k, rfl⟩
  rw [hg.enHi.1, hg.enHi.2.1]
  exact ⟨rfl, ap_drewN h k, (Chg.refl _ w).drewN k⟩
theorem RmsR (p : Nat) (l : Lk) (g : PS) (n : Int) (w : World) (hg : Good g n) (h : Ap w p l g) :
    Calls Tryd.prog 33 #[.pointer (some ⟨p, 0, none⟩)] w fun e w' => e = .returned (.int .i64 (isq (sumSq g.ring / 16384).toNat)) ∧ Ap w' p l g ∧ Chg (fun k => k = p ∨ k = l.q) w w' := by
  have en := hg.en
  obtain ⟨r, h1, h2⟩ := sqrt_int (n := (sumSq g.ring / 16384).toNat) (by omega)
  rw [show (((sumSq g.ring / 16384).toNat : Nat) : Int) = rmsN (realS g) by rw [hg.enHi.2.2]; omega] at h1
  refine (rms_any p l (realS g) g.c g.z _ r w h (by unfold realS; dsimp only; omega) (by unfold realS; dsimp only; omega) (by unfold realS; dsimp only; omega) (by unfold realS; dsimp only; omega) h1 h2).mono ?_
  rintro e w' ⟨rfl, k, rfl⟩
  exact ⟨rfl, ap_drewN h k, (Chg.refl _ w).drewN k⟩
theorem SpanR (p : Nat) (l : Lk) (g : PS) (n : Int) (w : World) (hg : Good g n) (h : Ap w p l g) :
    Calls Tryd.prog 34 #[.pointer (some ⟨p, 0, none⟩)] w fun e w' => e = .returned (.tuple #[.int .i64 (spanP g).n, .int .i64 (spanP g).k]) ∧ Ap w' p l g ∧ Chg (fun k => k = p ∨ k = l.q) w w' := by
  have nf := negI_facts hg.dp
  have hnn : mg (negI g.dip) ≤ 9218868437227405312 := by rw [nf.2]; exact hg.dn
  have e1 : pickF false .gt (realS g).peak (Op.negFloat .f64 (realS g).dip) = u64 (peakI g.peak (negI g.dip)) := by
    show pickF false .gt (u64 g.peak) (Op.negFloat .f64 (u64 g.dip)) = _
    rw [neg_bits hg.dp, pick_max (rung_le hg.pn) (rung_le hnn) (u64_lt _) (u64_lt _), max_key hg.pk nf.1 hg.pn hnn]
  have e2 : pickF true .lt (realS g).peak (Op.negFloat .f64 (realS g).dip) = u64 (dipI g.peak (negI g.dip)) := by
    show pickF true .lt (u64 g.peak) (Op.negFloat .f64 (u64 g.dip)) = _
    rw [neg_bits hg.dp, pick_min (rung_le hg.pn) (rung_le hnn) (u64_lt _) (u64_lt _), min_key hg.pk nf.1 hg.pn hnn]
  refine (span_any p l (realS g) g.c g.z w h).mono ?_
  rintro e w' ⟨rfl, k, rfl⟩
  refine ⟨?_, ap_drewN h k, (Chg.refl _ w).drewN k⟩
  have i1 : I64 (peakI g.peak (negI g.dip)) := by rcases peakI_or g.peak (negI g.dip) with e | e <;> rw [e]; exact hg.pk; exact nf.1
  have i2 : I64 (dipI g.peak (negI g.dip)) := by rcases dipI_or g.peak (negI g.dip) with e | e <;> rw [e]; exact hg.pk; exact nf.1
  rw [e1, e2, back_bits i1, back_bits i2]
  unfold spanP peakI dipI
  by_cases h1 : keyI g.peak < keyI (negI g.dip)
  · rw [if_pos h1, if_pos h1, if_neg (by omega)]
  · rw [if_neg h1, if_neg h1]
    by_cases h2 : keyI (negI g.dip) < keyI g.peak
    · rw [if_pos h2]
    · rw [if_neg h2]
      have h3 : keyI g.peak = keyI (negI g.dip) := by omega
      have : g.peak = negI g.dip := by
        have a1 := mg_val hg.pk
        have a2 := mg_val nf.1
        have b1 := hg.pk
        have b2 := nf.1
        unfold I64 at b1 b2
        unfold keyI at h3
        by_cases c1 : 0 ≤ g.peak <;> by_cases c2 : 0 ≤ negI g.dip
        · rw [if_pos c1, if_pos c2] at h3; omega
        · rw [if_pos c1, if_neg c2] at h3; omega
        · rw [if_neg c1, if_pos c2] at h3; omega
        · rw [if_neg c1, if_neg c2] at h3; rw [if_pos (by omega)] at a1 a2; omega
      rw [← this]
theorem CheckR (p : Nat) (l : Lk) (g : PS) (n : Int) (w : World) (hg : Good g n) (h : Ap w p l g) :
    Calls Tryd.prog 37 #[.pointer (some ⟨p, 0, none⟩)] w fun e w' => e = .returned (.bool true) ∧ Ap w' p l g ∧ Chg (fun k => k = p ∨ k = l.q) w w' := by
  refine (check_true p l (realS g) g.c g.z w h hg.d1 hg.d2 hg.m0 hg.m3 (num_of_mg hg.pn) (num_of_mg hg.dn) hg.rg hg.check hg.a0 hg.a8).mono ?_
  rintro e w' ⟨rfl, hc⟩
  exact ⟨rfl, h.kept hc (fun h => h) (fun h => h) (fun h => h) (fun h => h) (fun h => h) (fun h => h) (fun h => h), chg_0 hc⟩
def textP (g : PS) : ByteArray := bs (showC (realS g) g.c g.z)
theorem ShowR (p : Nat) (l : Lk) (g : PS) (n : Int) (w : World) (hg : Good g n) (hn : n ≤ 4611686018427387904) (h : Ap w p l g) (ht : Tab w) :
    Calls Tryd.prog 14 #[.pointer (some ⟨p, 0, none⟩)] w fun e w' => e = .returned (.string (textP g)) ∧ Ap w' p l g ∧ Chg (fun k => k = p ∨ k = l.q) w w' := by
  have hs : Sized (realS g) g.c g.z := by
    have d1 := hg.d1; have d2 := hg.d2; have m0 := hg.m0; have m3 := hg.m3; have a0 := hg.a0; have a8 := hg.a8; have q0 := hg.q0; have q1 := hg.q1; have r0 := hg.r0; have r1 := hg.r1; have c0 := hg.c0; have c1 := hg.c1; have z0 := hg.z0; have z1 := hg.z1
    exact { depth := ⟨by unfold realS; dsimp only; omega, by unfold realS; dsimp only; omega⟩, mode := ⟨by unfold realS; dsimp only; omega, by unfold realS; dsimp only; omega⟩, sum := ⟨hg.s1, hg.s2⟩, at_ := ⟨by unfold realS; dsimp only; omega, by unfold realS; dsimp only; omega⟩, seq := ⟨by unfold realS; dsimp only; omega, by unfold realS; dsimp only; omega⟩, dropped := ⟨by unfold realS; dsimp only; omega, by unfold realS; dsimp only; omega⟩, ring := hg.rg, c := ⟨by omega, by omega⟩, z := ⟨by omega, by omega⟩ }
  exact (chShow_any p l (realS g) g.c g.z w h hs ht).mono fun e w' ⟨he, h1, h2⟩ => ⟨he, h1, chg_0 h2⟩
end Go.Proofs.Qxb6500376aDoor
