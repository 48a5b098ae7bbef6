/- The model's Show. -/
import Derived.Test.Qxb6500376aGreatDoorMoItoa
import Derived.Test.Qxb6500376aGreatDoorQuShow
namespace Go.Proofs.Qxb6500376aGreatDoor
set_option linter.unusedVariables false
set_option linter.unusedSimpArgs false
set_option maxHeartbeats 2000000
open Go.RowKit Go.Qu

theorem showm_any (p : Nat) (c z : Int) (w : World) (hq : Cm w p c z) (hc : Sq c) (hz : Sq z) :
    Calls Tryz.prog 73 #[.pointer (some ⟨p, 0, none⟩)] w fun e w' => e = .returned (.string ⟨(showQ c z).toArray⟩) ∧ Cm w' p c z ∧ Chg (· = p) w w' := by
  obtain ⟨c0, c1⟩ := hc
  obtain ⟨z0, z1⟩ := hz
  have h0 : w.cell? ⟨p, 0, none⟩ = some (.int .i64 c) := hq.cell 0
  have h1 : w.cell? ⟨p, 1, none⟩ = some (.int .i64 z) := hq.cell 1
  have HQ : Hid (Cm w p c z) := hq
  have s1 := Lib.itoa_length_le c (by omega) (by omega)
  have s2 := Lib.itoa_length_le z (by omega) (by omega)
  have y1 := cat1 c s1
  have y2 := cat2 c s1
  have y3 := cat3 c z s1 s2
  clear hq s1 s2
  go_enter Tryz.func73, Tryz.ntmps73
  go_wp2_with fail
  refine (itoam_any c ⟨by omega, by omega⟩ _).mono ?_; rintro e w1 ⟨rfl, k1⟩
  have q1 : Cm w1 p c z := Has.kept HQ.out k1 (fun h => h)
  have a0 : w1.cell? ⟨p, 0, none⟩ = some (.int .i64 c) := q1.cell 0
  have a1 : w1.cell? ⟨p, 1, none⟩ = some (.int .i64 z) := q1.cell 1
  have Q1 : Hid (Cm w1 p c z) := q1
  have K1 : Hid (Chg (fun _ => False) w w1) := k1
  clear k1 q1
  go_wp2_with fail
  refine (itoam_any z ⟨by omega, by omega⟩ _).mono ?_; rintro e w2 ⟨rfl, k2⟩
  have Q2 : Hid (Cm w2 p c z) := Has.kept Q1.out k2 (fun h => h)
  have K2 : Hid (Chg (fun _ => False) w w2) := K1.out.trans k2
  clear k2
  go_wp2_with fail
  go_ret
  exact ⟨rfl, Q2.out, K2.out.mono (by intro _ _ h; exact h.elim)⟩
end Go.Proofs.Qxb6500376aGreatDoor
