/- A fresh converter. -/
import Derived.Test.Qxb6500376aDoorQuWalk
namespace Go.Proofs.Qxb6500376aDoor
set_option linter.unusedVariables false
set_option linter.unusedSimpArgs false
open Go.RowKit Go.Qu

theorem new_any (w : World) :
    Calls Tryd.prog 27 #[] w fun e w' => e = .returned (.pointer (some ⟨w.heap.size, 0, none⟩)) ∧ Has 89 w' w.heap.size [.int .i64 0, .int .i64 0] ∧ w.heap.size < w'.heap.size ∧ Chg (fun _ => False) w w' := by
  go_enter Tryd.func27, Tryd.ntmps27
  go_wp2
  go_ret
  exact ⟨rfl, Has.new _ _ _, by simp, (Chg.refl _ _).alloc _⟩

end Go.Proofs.Qxb6500376aDoor
