/- push: the ring and the energy. -/
import Derived.Test.Qxb6500376aDoorChBits
namespace Go.Proofs.Qxb6500376aDoor
set_option linter.unusedVariables false
set_option linter.unusedSimpArgs false
open Go.RowKit Go.Qu

def pushed (s : CS) (a : Nat) (v : Int) : CS :=
  { s with
    ring := s.ring.set a v
    at_ := ((a : Int) + 1) % 8
    lo := (s.lo + v * v - s.ring.getD a 0 * s.ring.getD a 0) % 18446744073709551616
    hi := (s.hi + (s.lo + v * v) / 18446744073709551616 - bor ((s.lo + v * v) % 18446744073709551616) (s.ring.getD a 0 * s.ring.getD a 0)) % 18446744073709551616 }

set_option maxHeartbeats 1000000 in
theorem push_any (p : Nat) (l : Lk) (s : CS) (c z v : Int) (a : Nat) (w : World) (h : CA w p l s c z) (ha : s.at_ = a) (ha8 : a < 8) (v1 : -2147483648 ≤ v) (v2 : v ≤ 2147483647)
    (o1 : -2147483648 ≤ s.ring.getD a 0) (o2 : s.ring.getD a 0 ≤ 2147483647) (l1 : 0 ≤ s.lo) (l2 : s.lo < 18446744073709551616) (i1 : 0 ≤ s.hi) (i2 : s.hi < 18446744073709551616) :
    Calls Tryd.prog 47 #[.pointer (some ⟨p, 0, none⟩), .int .i32 v] w fun e w' => e = .returned (.tuple #[]) ∧ CA w' p l (pushed s a v) c z ∧ Chg (· = p) w w' := by
  have h14 : w.cell? ⟨p, 14, none⟩ = some (.int .i64 (a : Int)) := by rw [h.c14, ha]
  have h15 := h.c15
  have h16 := h.c16
  have hr := h.ring a ha8
  have g14 := h.frozen 14
  have g15 := h.frozen 15
  have g16 := h.frozen 16
  have gr := h.frozen (6 + a)
  have H : Hid (CA w p l s c z) := h
  clear h ha
  generalize hold : s.ring.getD a 0 = old at *
  have HO : Hid (s.ring.getD a 0 = old) := hold
  clear hold
  have a8 : (a : Int) < 8 := by omega
  have k14 : ∀ (w : World) (v : Value), (w.setCell ⟨p, 6 + a, none⟩ v).cell? ⟨p, 14, none⟩ = w.cell? ⟨p, 14, none⟩ := fun w v => World.cell?_setCell_other w _ _ v (fun e => by have := congrArg Addr.off e; simp only at this; omega)
  have k15 : ∀ (w : World) (v : Value), (w.setCell ⟨p, 6 + a, none⟩ v).cell? ⟨p, 15, none⟩ = w.cell? ⟨p, 15, none⟩ := fun w v => World.cell?_setCell_other w _ _ v (fun e => by have := congrArg Addr.off e; simp only at this; omega)
  have k16 : ∀ (w : World) (v : Value), (w.setCell ⟨p, 6 + a, none⟩ v).cell? ⟨p, 16, none⟩ = w.cell? ⟨p, 16, none⟩ := fun w v => World.cell?_setCell_other w _ _ v (fun e => by have := congrArg Addr.off e; simp only at this; omega)
  have sq1 : 0 ≤ v * v := sq_nonneg v
  have sq2 : v * v ≤ 4611686018427387904 := sq_le v v1 (by omega)
  have so1 : 0 ≤ old * old := sq_nonneg old
  have so2 : old * old ≤ 4611686018427387904 := sq_le old o1 (by omega)
  have y1 := x_add64_0 s.lo (v * v) l1 sq1
  have y2 := x_add64_h s.hi ((s.lo + v * v) / 18446744073709551616) i1 (by omega) (by omega)
  have y3 := x_sub64_0 ((s.lo + v * v) % 18446744073709551616) (old * old) (by omega) so1 (by omega)
  have y4 := x_sub64_h ((s.hi + (s.lo + v * v) / 18446744073709551616) % 18446744073709551616) (bor ((s.lo + v * v) % 18446744073709551616) (old * old)) (by omega) (bor_01 _ _).1 (bor_01 _ _).2
  have u1 : IntKind.u64.wrap (v * v) = v * v := by rw [IntKind.wrap_u64]; omega
  have u2 : IntKind.u64.wrap (old * old) = old * old := by rw [IntKind.wrap_u64]; omega
  go_enter Tryd.func47, Tryd.ntmps47
  go_wp2
  go_quiet (fail)
  go_wp2
  go_region
  go_wp2
  go_end0
  refine ⟨rfl, ?_, ?_⟩
  · unfold pushed
    rw [HO.out]
    exact ((((((H.out.drewN _).set_ring a ha8 v).set_at_ _).set_lo _).set_hi _).set_lo _).set_hi _
  · exact (((((((Chg.refl _ w).drewN _).trans (Chg.set1 _ p _ _)).trans (Chg.set1 _ p _ _)).trans (Chg.set1 _ p _ _)).trans (Chg.set1 _ p _ _)).trans (Chg.set1 _ p _ _)).trans (Chg.set1 _ p _ _)
end Go.Proofs.Qxb6500376aDoor
