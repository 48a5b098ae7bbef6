/- A fresh converter. -/
import Derived.Test.Qxb6500378aQuWalk
namespace Go.Proofs.Qxb6500378a
set_option linter.unusedVariables false
set_option linter.unusedSimpArgs false
open Go.RowKit Go.Qu

theorem new_any (w : World) :
    Calls Try.prog 20 #[] w fun e w' => e = .returned (.pointer (some ⟨w.heap.size, 0, none⟩)) ∧ Has 36 w' w.heap.size [.int .i64 0, .int .i64 0] ∧ w.heap.size < w'.heap.size ∧ Chg (fun _ => False) w w' := by
  go_enter Try.func20, Try.ntmps20
  go_wp2
  go_ret
  exact ⟨rfl, Has.new _ _ _, by simp, (Chg.refl _ _).alloc _⟩

end Go.Proofs.Qxb6500378a
