/- KeepsQuiet: cells of other blocks. -/
import Derived.Test.Qxb6500376aDoorKqTake
namespace Go.Proofs.Qxb6500376aDoor
set_option linter.unusedVariables false
open Go.RowKit Go.Qu Ieee
theorem far_cell (W : World) {x y : Nat} (h : x ≠ y) (i j : Nat) (v : Value) : (W.setCell ⟨x, i, none⟩ v).cell? ⟨y, j, none⟩ = W.cell? ⟨y, j, none⟩ := World.cell?_setCell_other W _ _ v (fun e => h (congrArg Addr.block e))
theorem frame4 {T U : TypeId} (w : World) (os us vs : List Value) :
    Has U (((w.alloc (.cells os.toArray U)).alloc (.cells us.toArray T)).alloc (.cells vs.toArray T)) w.heap.size os := ((Has.new U w os).alloc _).alloc _
end Go.Proofs.Qxb6500376aDoor
