/- A function that defers: what its post looks at when it dies. -/
import Derived.Defers
import Derived.Recover
import Derived.RegionDies
namespace Go.Qu
set_option linter.unusedVariables false
set_option linter.unusedSimpArgs false
theorem leaves_congr {P : Program} {fn : Func} {R : Ending → World → Prop} {t t' : Array Value} (h : results fn t = results fn t') : ∀ (ds : List Deferred) (u : FrameMode) (w : World), Leaves P fn t R ds u w → Leaves P fn t' R ds u w := by
  intro ds
  induction ds with
  | nil =>
    intro u w hl
    cases u with
    | run => exact hl
    | returning => unfold Leaves at hl ⊢; rw [← h]; exact hl
    | panicking c => exact hl
  | cons d ds ih =>
    intro u w hl
    unfold Leaves at hl ⊢
    obtain ⟨h1, fv, cap, f, args, h2, h3, h4⟩ := hl
    refine ⟨h1, fv, cap, f, args, h2, h3, ?_⟩
    refine h4.mono ?_
    intro e u' w' he
    cases e with
    | returned v => exact ih _ _ he
    | panicked c => exact ih _ _ he
    | outgrown => exact he
theorem put_panic {P : Program} {fn : Func} {R : Ending → World → Prop} {d : Nat} {v : Value} (h : ∀ t, results fn (t.setIfInBounds d v) = results fn t) (c : List PanicEntry) (a : Act) (w : World)
    (hq : bodyPostD P fn R (.panic c) (a.put (some d) v) w) : bodyPostD P fn R (.panic c) a w :=
  leaves_congr (h a.tmps) _ _ _ hq
end Go.Qu
