/- The pipeline's making and its small methods. -/
import Derived.Test.Qxb6500376aDoorQuRound
import Derived.Test.Qxb6500376aDoorChMem
import Derived.LoopN
namespace Go.Proofs.Qxb6500376aDoor
set_option linter.unusedVariables false
set_option linter.unusedSimpArgs false
open Go.RowKit Go.Qu

abbrev CA := ChAt 63 89 21 70 72
def cs0 : CS := { depth := 16, mode := 0, sum := 0, peak := 18442240474082181120, dip := 9218868437227405312, ring := [0, 0, 0, 0, 0, 0, 0, 0], at_ := 0, hi := 0, lo := 0, seq := 0, dropped := 0 }

theorem lay_6 (w : World) : Calls Tryd.prog 29 #[.int .i32 6] w fun e w' => e = .returned (.slice (some ⟨w.heap.size, 0, none⟩) 8 8) ∧ w' = w.alloc (.cells #[.int .i32 0, .int .i32 6, .int .i32 12, .int .i32 18, .int .i32 24, .int .i32 30, .int .i32 36, .int .i32 42] 21) := by
  have hmk : ∀ w, (Instr.makeSlice 59 (.int .i64 8) (.int .i64 8)).run Tryd.prog w = .ok (.slice (some ⟨w.heap.size, 0, none⟩) 8 8) (w.alloc (.cells #[.int .i32 0, .int .i32 0, .int .i32 0, .int .i32 0, .int .i32 0, .int .i32 0, .int .i32 0, .int .i32 0] 21)) := fun _ => by kernel_rfl
  go_enter Tryd.func29, Tryd.ntmps29
  go_wp2
  refine wp_loop_rounds 9 ?_
  rw [rounds_succ]; go_wp2
  rw [rounds_succ]; go_wp2
  rw [rounds_succ]; go_wp2
  rw [rounds_succ]; go_wp2
  rw [rounds_succ]; go_wp2
  rw [rounds_succ]; go_wp2
  rw [rounds_succ]; go_wp2
  rw [rounds_succ]; go_wp2
  rw [rounds_succ]; go_wp2
  go_ret
  exact ⟨rfl, rfl⟩

theorem chnew_any (q : Nat) (c z : Int) (w : World) (hq : Has 89 w q [.int .i64 c, .int .i64 z]) : Calls Tryd.prog 16 #[.pointer (some ⟨q, 0, none⟩)] w fun e w' =>
    ∃ p l, e = .returned (.pointer (some ⟨p, 0, none⟩)) ∧ CA w' p l cs0 c z ∧ l.q = q ∧ w.heap.size ≤ p ∧ w.heap.size ≤ l.d ∧ w.heap.size ≤ l.k ∧ w.heap.size ≤ l.dr ∧ w.heap.size ≤ l.k0 ∧ w.heap.size ≤ l.d0 ∧ Chg (fun _ => False) w w' := by
  have y1 := x_f64from
  have hlt := hq.lt
  have HQ : Hid (Has 89 w q [.int .i64 c, .int .i64 z]) := hq
  clear hq
  go_enter Tryd.func16, Tryd.ntmps16
  go_wp2_with (first | (go_at_call 28; go_in) | (go_at_call 29; refine (lay_6 _).mono ?_; rintro e w' ⟨rfl, rfl⟩))
  go_ret
  refine ⟨w.heap.size + 1 + 1 + 1 + 1 + 1, ⟨q, w.heap.size, w.heap.size + 1, w.heap.size + 1 + 1, w.heap.size + 1 + 1 + 1, w.heap.size + 1 + 1 + 1 + 1⟩, rfl, ?_, rfl, by omega, by simp, by simp, by simp; omega, by simp; omega, by simp; omega, ?_⟩
  · have h1 := Has.new 21 w ramp
    have h2 := Has.new 70 (w.alloc (.cells ramp.toArray 21)) [.int .i8 0]
    have h3 := Has.new 70 ((w.alloc (.cells ramp.toArray 21)).alloc (.cells [Value.int .i8 0].toArray 70)) [.int .i8 0]
    have h4 := Has.new 72 (((w.alloc (.cells ramp.toArray 21)).alloc (.cells [Value.int .i8 0].toArray 70)).alloc (.cells [Value.int .i8 0].toArray 70)) []
    have h5 := Has.new 72 ((((w.alloc (.cells ramp.toArray 21)).alloc (.cells [Value.int .i8 0].toArray 70)).alloc (.cells [Value.int .i8 0].toArray 70)).alloc (.cells ([] : List Value).toArray 72)) []
    have h6 := Has.new 63 (((((w.alloc (.cells ramp.toArray 21)).alloc (.cells [Value.int .i8 0].toArray 70)).alloc (.cells [Value.int .i8 0].toArray 70)).alloc (.cells ([] : List Value).toArray 72)).alloc (.cells ([] : List Value).toArray 72))
      (chCells ⟨q, w.heap.size, w.heap.size + 1, w.heap.size + 1 + 1, w.heap.size + 1 + 1 + 1, w.heap.size + 1 + 1 + 1 + 1⟩ cs0)
    simp only [World.size_alloc] at h2 h3 h4 h5 h6
    refine ⟨rfl, h6, ((((((HQ.out.alloc _).alloc _).alloc _).alloc _).alloc _).alloc _), (((((h1.alloc _).alloc _).alloc _).alloc _).alloc _), ((((h2.alloc _).alloc _).alloc _).alloc _), (((h3.alloc _).alloc _).alloc _), ((h4.alloc _).alloc _), (h5.alloc _), ?_, ?_, ?_, ?_, ?_, ?_, ?_, ?_, ?_, ?_, ?_, ?_, ?_⟩ <;> simp <;> omega
  · exact ((((((Chg.refl _ _).alloc _).alloc _).alloc _).alloc _).alloc _).alloc _
end Go.Proofs.Qxb6500376aDoor
