/- A fresh converter. -/
import Derived.Test.Qxb6500378aDoorQuWalk
namespace Go.Proofs.Qxb6500378aDoor
set_option linter.unusedVariables false
set_option linter.unusedSimpArgs false
open Go.RowKit Go.Qu

theorem new_any (w : World) :
    Calls Tryd.prog 21 #[] w fun e w' => e = .returned (.pointer (some ⟨w.heap.size, 0, none⟩)) ∧ Has 52 w' w.heap.size [.int .i64 0, .int .i64 0] ∧ w.heap.size < w'.heap.size ∧ Chg (fun _ => False) w w' := by
  go_enter Tryd.func21, Tryd.ntmps21
  go_wp2
  go_ret
  exact ⟨rfl, Has.new _ _ _, by simp, (Chg.refl _ _).alloc _⟩

end Go.Proofs.Qxb6500378aDoor
