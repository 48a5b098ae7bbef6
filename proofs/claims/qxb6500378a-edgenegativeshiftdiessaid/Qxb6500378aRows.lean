/-
  No cell of these rows narrows 'for every input' (looked for: loops, veiled, ifaces, maps, wideKeys, modest, calm, conditions, laid).
  DERIVED. THE GIVEN ROWS OF THIS SEAT. 17 by the template 'for every input the law returns true; each argument reads behind the call as it read before'; 0 by the template 'total and deterministic' (their statements: Qxb6500378aTotals.lean).
  GIVEN WITH THE SEED: the statements are not yours to turn. If you find one false, say at which input.
  Laid BY PROGRAM, IN A SANDBOX (cutbox-rows.mjs): the forced cells as the released guide's own fill.sh prints them over the translation da128945cca5cc41… (all of the seat's roots in one cut). By AI agents, Wed Nov 11 2026. No macro, syntax, notation, axiom, sorry.
-/
import Derived.Test.Qxb6500378aChecked
import GoSem.Claim
import GoSem.ClaimJoined
import GoSem.ClaimMapViews
import Derived.JoinedTies
import Derived.KernelRfl
namespace Go.Proofs.Qxb6500378a
/- THE CELL 'sum', in the pinned program and in every row, IS THE sha256 OF THE DUMP (.gsa) THAT Qxb6500378aProg.lean LOADS. Nothing in Lean hashes anything: it is a label: what it is worth is what the hold of that sum in a sandbox is worth. -/
noncomputable def Try.pinned : Pinned := { name := "qxb6500378a", sum := "da128945cca5cc41919e148da6d075828612de2c6e5471ec347d7dcc4ac9cd0d", checked := Try.checked }
namespace Rows
def none {H : Type} : Left H := { results := [], args := [] }

/-- 'quantlaw.EdgeNegativeShiftDies': WHATEVER THE INPUT: true; the input reads as it did. -/
def edgeNegativeShiftDiesSpec : ChangeSpec := { name := "edgeNegativeShiftDies", fn := fun _ => fun
  | [] => { results := [.lit (.bool true)], args := [] }
  | _ => none }
def edgeNegativeShiftDiesRow : OpenClaim := { program := "qxb6500378a", sum := "da128945cca5cc41919e148da6d075828612de2c6e5471ec347d7dcc4ac9cd0d", func := "e2e/quantlaw.EdgeNegativeShiftDies", spec := "edgeNegativeShiftDies", unfollowed := true, recurses := true, apart := false }
def EdgeNegativeShiftDiesSaid : Prop := edgeNegativeShiftDiesRow.holds Try.pinned (OpenSpec.ofChange edgeNegativeShiftDiesSpec)

/-- ITS FALSE NEIGHBOUR: 'it returns false'. Refute it at one input. -/
def edgeNegativeShiftDiesWrong : ChangeSpec := { name := "edgeNegativeShiftDies", fn := fun _ => fun
  | [] => { results := [.lit (.bool false)], args := [] }
  | _ => none }
def EdgeNegativeShiftDiesWrongFalsely : Prop := edgeNegativeShiftDiesRow.holds Try.pinned (OpenSpec.ofChange edgeNegativeShiftDiesWrong)

/-- 'quantlaw.EdgeLeastCount': WHATEVER THE INPUT: true; the input reads as it did. -/
def edgeLeastCountSpec : ChangeSpec := { name := "edgeLeastCount", fn := fun _ => fun
  | [] => { results := [.lit (.bool true)], args := [] }
  | _ => none }
def edgeLeastCountRow : OpenClaim := { program := "qxb6500378a", sum := "da128945cca5cc41919e148da6d075828612de2c6e5471ec347d7dcc4ac9cd0d", func := "e2e/quantlaw.EdgeLeastCount", spec := "edgeLeastCount", apart := false }
def EdgeLeastCountSaid : Prop := edgeLeastCountRow.holds Try.pinned (OpenSpec.ofChange edgeLeastCountSpec)

/-- ITS FALSE NEIGHBOUR: 'it returns false'. Refute it at one input. -/
def edgeLeastCountWrong : ChangeSpec := { name := "edgeLeastCount", fn := fun _ => fun
  | [] => { results := [.lit (.bool false)], args := [] }
  | _ => none }
def EdgeLeastCountWrongFalsely : Prop := edgeLeastCountRow.holds Try.pinned (OpenSpec.ofChange edgeLeastCountWrong)

/-- 'quantlaw.EdgeShiftBeyondTheWord': WHATEVER THE INPUT: true; the input reads as it did. -/
def edgeShiftBeyondTheWordSpec : ChangeSpec := { name := "edgeShiftBeyondTheWord", fn := fun _ => fun
  | [] => { results := [.lit (.bool true)], args := [] }
  | _ => none }
def edgeShiftBeyondTheWordRow : OpenClaim := { program := "qxb6500378a", sum := "da128945cca5cc41919e148da6d075828612de2c6e5471ec347d7dcc4ac9cd0d", func := "e2e/quantlaw.EdgeShiftBeyondTheWord", spec := "edgeShiftBeyondTheWord", apart := false }
def EdgeShiftBeyondTheWordSaid : Prop := edgeShiftBeyondTheWordRow.holds Try.pinned (OpenSpec.ofChange edgeShiftBeyondTheWordSpec)

/-- ITS FALSE NEIGHBOUR: 'it returns false'. Refute it at one input. -/
def edgeShiftBeyondTheWordWrong : ChangeSpec := { name := "edgeShiftBeyondTheWord", fn := fun _ => fun
  | [] => { results := [.lit (.bool false)], args := [] }
  | _ => none }
def EdgeShiftBeyondTheWordWrongFalsely : Prop := edgeShiftBeyondTheWordRow.holds Try.pinned (OpenSpec.ofChange edgeShiftBeyondTheWordWrong)

/-- 'quantlaw.EdgeShiftWraps': WHATEVER THE INPUT: true; the input reads as it did. -/
def edgeShiftWrapsSpec : ChangeSpec := { name := "edgeShiftWraps", fn := fun _ => fun
  | [] => { results := [.lit (.bool true)], args := [] }
  | _ => none }
def edgeShiftWrapsRow : OpenClaim := { program := "qxb6500378a", sum := "da128945cca5cc41919e148da6d075828612de2c6e5471ec347d7dcc4ac9cd0d", func := "e2e/quantlaw.EdgeShiftWraps", spec := "edgeShiftWraps", apart := false }
def EdgeShiftWrapsSaid : Prop := edgeShiftWrapsRow.holds Try.pinned (OpenSpec.ofChange edgeShiftWrapsSpec)

/-- ITS FALSE NEIGHBOUR: 'it returns false'. Refute it at one input. -/
def edgeShiftWrapsWrong : ChangeSpec := { name := "edgeShiftWraps", fn := fun _ => fun
  | [] => { results := [.lit (.bool false)], args := [] }
  | _ => none }
def EdgeShiftWrapsWrongFalsely : Prop := edgeShiftWrapsRow.holds Try.pinned (OpenSpec.ofChange edgeShiftWrapsWrong)

/-- 'quantlaw.EdgeBrim32': WHATEVER THE INPUT: true; the input reads as it did. -/
def edgeBrim32Spec : ChangeSpec := { name := "edgeBrim32", fn := fun _ => fun
  | [] => { results := [.lit (.bool true)], args := [] }
  | _ => none }
def edgeBrim32Row : OpenClaim := { program := "qxb6500378a", sum := "da128945cca5cc41919e148da6d075828612de2c6e5471ec347d7dcc4ac9cd0d", func := "e2e/quantlaw.EdgeBrim32", spec := "edgeBrim32", inPlace := ["math.Float64frombits", "math.archFloor", "math.Float64bits", "math.archTrunc", "math.archCeil", "math.RoundToEven"], apart := false }
def EdgeBrim32Said : Prop := edgeBrim32Row.holds Try.pinned (OpenSpec.ofChange edgeBrim32Spec)

/-- ITS FALSE NEIGHBOUR: 'it returns false'. Refute it at one input. -/
def edgeBrim32Wrong : ChangeSpec := { name := "edgeBrim32", fn := fun _ => fun
  | [] => { results := [.lit (.bool false)], args := [] }
  | _ => none }
def EdgeBrim32WrongFalsely : Prop := edgeBrim32Row.holds Try.pinned (OpenSpec.ofChange edgeBrim32Wrong)

/-- 'quantlaw.EdgeBrim16': WHATEVER THE INPUT: true; the input reads as it did. -/
def edgeBrim16Spec : ChangeSpec := { name := "edgeBrim16", fn := fun _ => fun
  | [] => { results := [.lit (.bool true)], args := [] }
  | _ => none }
def edgeBrim16Row : OpenClaim := { program := "qxb6500378a", sum := "da128945cca5cc41919e148da6d075828612de2c6e5471ec347d7dcc4ac9cd0d", func := "e2e/quantlaw.EdgeBrim16", spec := "edgeBrim16", inPlace := ["math.Float64frombits", "math.archFloor", "math.Float64bits", "math.archTrunc", "math.archCeil", "math.RoundToEven"], apart := false }
def EdgeBrim16Said : Prop := edgeBrim16Row.holds Try.pinned (OpenSpec.ofChange edgeBrim16Spec)

/-- ITS FALSE NEIGHBOUR: 'it returns false'. Refute it at one input. -/
def edgeBrim16Wrong : ChangeSpec := { name := "edgeBrim16", fn := fun _ => fun
  | [] => { results := [.lit (.bool false)], args := [] }
  | _ => none }
def EdgeBrim16WrongFalsely : Prop := edgeBrim16Row.holds Try.pinned (OpenSpec.ofChange edgeBrim16Wrong)

/-- 'quantlaw.EdgeHalfToEven': WHATEVER THE INPUT: true; the input reads as it did. -/
def edgeHalfToEvenSpec : ChangeSpec := { name := "edgeHalfToEven", fn := fun _ => fun
  | [] => { results := [.lit (.bool true)], args := [] }
  | _ => none }
def edgeHalfToEvenRow : OpenClaim := { program := "qxb6500378a", sum := "da128945cca5cc41919e148da6d075828612de2c6e5471ec347d7dcc4ac9cd0d", func := "e2e/quantlaw.EdgeHalfToEven", spec := "edgeHalfToEven", inPlace := ["math.Float64frombits", "math.archFloor", "math.Float64bits", "math.archTrunc", "math.archCeil", "math.RoundToEven"], apart := false }
def EdgeHalfToEvenSaid : Prop := edgeHalfToEvenRow.holds Try.pinned (OpenSpec.ofChange edgeHalfToEvenSpec)

/-- ITS FALSE NEIGHBOUR: 'it returns false'. Refute it at one input. -/
def edgeHalfToEvenWrong : ChangeSpec := { name := "edgeHalfToEven", fn := fun _ => fun
  | [] => { results := [.lit (.bool false)], args := [] }
  | _ => none }
def EdgeHalfToEvenWrongFalsely : Prop := edgeHalfToEvenRow.holds Try.pinned (OpenSpec.ofChange edgeHalfToEvenWrong)

/-- 'quantlaw.EdgeNarrowTop': WHATEVER THE INPUT: true; the input reads as it did. -/
def edgeNarrowTopSpec : ChangeSpec := { name := "edgeNarrowTop", fn := fun _ => fun
  | [] => { results := [.lit (.bool true)], args := [] }
  | _ => none }
def edgeNarrowTopRow : OpenClaim := { program := "qxb6500378a", sum := "da128945cca5cc41919e148da6d075828612de2c6e5471ec347d7dcc4ac9cd0d", func := "e2e/quantlaw.EdgeNarrowTop", spec := "edgeNarrowTop", inPlace := ["math.Float64frombits", "math.Float32bits"], apart := false }
def EdgeNarrowTopSaid : Prop := edgeNarrowTopRow.holds Try.pinned (OpenSpec.ofChange edgeNarrowTopSpec)

/-- ITS FALSE NEIGHBOUR: 'it returns false'. Refute it at one input. -/
def edgeNarrowTopWrong : ChangeSpec := { name := "edgeNarrowTop", fn := fun _ => fun
  | [] => { results := [.lit (.bool false)], args := [] }
  | _ => none }
def EdgeNarrowTopWrongFalsely : Prop := edgeNarrowTopRow.holds Try.pinned (OpenSpec.ofChange edgeNarrowTopWrong)

/-- 'quantlaw.EdgeNarrowBottom': WHATEVER THE INPUT: true; the input reads as it did. -/
def edgeNarrowBottomSpec : ChangeSpec := { name := "edgeNarrowBottom", fn := fun _ => fun
  | [] => { results := [.lit (.bool true)], args := [] }
  | _ => none }
def edgeNarrowBottomRow : OpenClaim := { program := "qxb6500378a", sum := "da128945cca5cc41919e148da6d075828612de2c6e5471ec347d7dcc4ac9cd0d", func := "e2e/quantlaw.EdgeNarrowBottom", spec := "edgeNarrowBottom", inPlace := ["math.Float64frombits", "math.Float32bits"], apart := false }
def EdgeNarrowBottomSaid : Prop := edgeNarrowBottomRow.holds Try.pinned (OpenSpec.ofChange edgeNarrowBottomSpec)

/-- ITS FALSE NEIGHBOUR: 'it returns false'. Refute it at one input. -/
def edgeNarrowBottomWrong : ChangeSpec := { name := "edgeNarrowBottom", fn := fun _ => fun
  | [] => { results := [.lit (.bool false)], args := [] }
  | _ => none }
def EdgeNarrowBottomWrongFalsely : Prop := edgeNarrowBottomRow.holds Try.pinned (OpenSpec.ofChange edgeNarrowBottomWrong)

/-- 'quantlaw.EdgeFusedTail': WHATEVER THE INPUT: true; the input reads as it did. -/
def edgeFusedTailSpec : ChangeSpec := { name := "edgeFusedTail", fn := fun _ => fun
  | [] => { results := [.lit (.bool true)], args := [] }
  | _ => none }
def edgeFusedTailRow : OpenClaim := { program := "qxb6500378a", sum := "da128945cca5cc41919e148da6d075828612de2c6e5471ec347d7dcc4ac9cd0d", func := "e2e/quantlaw.EdgeFusedTail", spec := "edgeFusedTail", inPlace := ["math.FMA"], apart := false }
def EdgeFusedTailSaid : Prop := edgeFusedTailRow.holds Try.pinned (OpenSpec.ofChange edgeFusedTailSpec)

/-- ITS FALSE NEIGHBOUR: 'it returns false'. Refute it at one input. -/
def edgeFusedTailWrong : ChangeSpec := { name := "edgeFusedTail", fn := fun _ => fun
  | [] => { results := [.lit (.bool false)], args := [] }
  | _ => none }
def EdgeFusedTailWrongFalsely : Prop := edgeFusedTailRow.holds Try.pinned (OpenSpec.ofChange edgeFusedTailWrong)

/-- 'quantlaw.EdgeNaNThroughMinMax': WHATEVER THE INPUT: true; the input reads as it did. -/
def edgeNaNThroughMinMaxSpec : ChangeSpec := { name := "edgeNaNThroughMinMax", fn := fun _ => fun
  | [] => { results := [.lit (.bool true)], args := [] }
  | _ => none }
def edgeNaNThroughMinMaxRow : OpenClaim := { program := "qxb6500378a", sum := "da128945cca5cc41919e148da6d075828612de2c6e5471ec347d7dcc4ac9cd0d", func := "e2e/quantlaw.EdgeNaNThroughMinMax", spec := "edgeNaNThroughMinMax", inPlace := ["math.Float64frombits", "math.Float64bits"], apart := false }
def EdgeNaNThroughMinMaxSaid : Prop := edgeNaNThroughMinMaxRow.holds Try.pinned (OpenSpec.ofChange edgeNaNThroughMinMaxSpec)

/-- ITS FALSE NEIGHBOUR: 'it returns false'. Refute it at one input. -/
def edgeNaNThroughMinMaxWrong : ChangeSpec := { name := "edgeNaNThroughMinMax", fn := fun _ => fun
  | [] => { results := [.lit (.bool false)], args := [] }
  | _ => none }
def EdgeNaNThroughMinMaxWrongFalsely : Prop := edgeNaNThroughMinMaxRow.holds Try.pinned (OpenSpec.ofChange edgeNaNThroughMinMaxWrong)

/-- 'quantlaw.EdgeNaNInSecondPlace': WHATEVER THE INPUT: true; the input reads as it did. -/
def edgeNaNInSecondPlaceSpec : ChangeSpec := { name := "edgeNaNInSecondPlace", fn := fun _ => fun
  | [] => { results := [.lit (.bool true)], args := [] }
  | _ => none }
def edgeNaNInSecondPlaceRow : OpenClaim := { program := "qxb6500378a", sum := "da128945cca5cc41919e148da6d075828612de2c6e5471ec347d7dcc4ac9cd0d", func := "e2e/quantlaw.EdgeNaNInSecondPlace", spec := "edgeNaNInSecondPlace", inPlace := ["math.Float64frombits", "math.Float64bits"], apart := false }
def EdgeNaNInSecondPlaceSaid : Prop := edgeNaNInSecondPlaceRow.holds Try.pinned (OpenSpec.ofChange edgeNaNInSecondPlaceSpec)

/-- ITS FALSE NEIGHBOUR: 'it returns false'. Refute it at one input. -/
def edgeNaNInSecondPlaceWrong : ChangeSpec := { name := "edgeNaNInSecondPlace", fn := fun _ => fun
  | [] => { results := [.lit (.bool false)], args := [] }
  | _ => none }
def EdgeNaNInSecondPlaceWrongFalsely : Prop := edgeNaNInSecondPlaceRow.holds Try.pinned (OpenSpec.ofChange edgeNaNInSecondPlaceWrong)

/-- 'quantlaw.EdgeCutTowardsZero': WHATEVER THE INPUT: true; the input reads as it did. -/
def edgeCutTowardsZeroSpec : ChangeSpec := { name := "edgeCutTowardsZero", fn := fun _ => fun
  | [] => { results := [.lit (.bool true)], args := [] }
  | _ => none }
def edgeCutTowardsZeroRow : OpenClaim := { program := "qxb6500378a", sum := "da128945cca5cc41919e148da6d075828612de2c6e5471ec347d7dcc4ac9cd0d", func := "e2e/quantlaw.EdgeCutTowardsZero", spec := "edgeCutTowardsZero", inPlace := ["math.Float64frombits", "math.archFloor", "math.Float64bits", "math.archTrunc", "math.archCeil", "math.RoundToEven"], apart := false }
def EdgeCutTowardsZeroSaid : Prop := edgeCutTowardsZeroRow.holds Try.pinned (OpenSpec.ofChange edgeCutTowardsZeroSpec)

/-- ITS FALSE NEIGHBOUR: 'it returns false'. Refute it at one input. -/
def edgeCutTowardsZeroWrong : ChangeSpec := { name := "edgeCutTowardsZero", fn := fun _ => fun
  | [] => { results := [.lit (.bool false)], args := [] }
  | _ => none }
def EdgeCutTowardsZeroWrongFalsely : Prop := edgeCutTowardsZeroRow.holds Try.pinned (OpenSpec.ofChange edgeCutTowardsZeroWrong)

/-- 'quantlaw.EdgeMinusZeroThroughMinMax': WHATEVER THE INPUT: true; the input reads as it did. -/
def edgeMinusZeroThroughMinMaxSpec : ChangeSpec := { name := "edgeMinusZeroThroughMinMax", fn := fun _ => fun
  | [] => { results := [.lit (.bool true)], args := [] }
  | _ => none }
def edgeMinusZeroThroughMinMaxRow : OpenClaim := { program := "qxb6500378a", sum := "da128945cca5cc41919e148da6d075828612de2c6e5471ec347d7dcc4ac9cd0d", func := "e2e/quantlaw.EdgeMinusZeroThroughMinMax", spec := "edgeMinusZeroThroughMinMax", inPlace := ["math.Float64frombits", "math.Float64bits"], apart := false }
def EdgeMinusZeroThroughMinMaxSaid : Prop := edgeMinusZeroThroughMinMaxRow.holds Try.pinned (OpenSpec.ofChange edgeMinusZeroThroughMinMaxSpec)

/-- ITS FALSE NEIGHBOUR: 'it returns false'. Refute it at one input. -/
def edgeMinusZeroThroughMinMaxWrong : ChangeSpec := { name := "edgeMinusZeroThroughMinMax", fn := fun _ => fun
  | [] => { results := [.lit (.bool false)], args := [] }
  | _ => none }
def EdgeMinusZeroThroughMinMaxWrongFalsely : Prop := edgeMinusZeroThroughMinMaxRow.holds Try.pinned (OpenSpec.ofChange edgeMinusZeroThroughMinMaxWrong)

/-- 'quantlaw.EdgeOpenFloat32': WHATEVER THE INPUT: true; the input reads as it did. -/
def edgeOpenFloat32Spec : ChangeSpec := { name := "edgeOpenFloat32", fn := fun _ => fun
  | [] => { results := [.lit (.bool true)], args := [] }
  | _ => none }
def edgeOpenFloat32Row : OpenClaim := { program := "qxb6500378a", sum := "da128945cca5cc41919e148da6d075828612de2c6e5471ec347d7dcc4ac9cd0d", func := "e2e/quantlaw.EdgeOpenFloat32", spec := "edgeOpenFloat32", inPlace := ["math.Float64frombits", "math.Float32bits"], apart := false }
def EdgeOpenFloat32Said : Prop := edgeOpenFloat32Row.holds Try.pinned (OpenSpec.ofChange edgeOpenFloat32Spec)

/-- ITS FALSE NEIGHBOUR: 'it returns false'. Refute it at one input. -/
def edgeOpenFloat32Wrong : ChangeSpec := { name := "edgeOpenFloat32", fn := fun _ => fun
  | [] => { results := [.lit (.bool false)], args := [] }
  | _ => none }
def EdgeOpenFloat32WrongFalsely : Prop := edgeOpenFloat32Row.holds Try.pinned (OpenSpec.ofChange edgeOpenFloat32Wrong)

/-- 'quantlaw.EdgeFactorBrim': WHATEVER THE INPUT: true; the input reads as it did. -/
def edgeFactorBrimSpec : ChangeSpec := { name := "edgeFactorBrim", fn := fun _ => fun
  | [] => { results := [.lit (.bool true)], args := [] }
  | _ => none }
def edgeFactorBrimRow : OpenClaim := { program := "qxb6500378a", sum := "da128945cca5cc41919e148da6d075828612de2c6e5471ec347d7dcc4ac9cd0d", func := "e2e/quantlaw.EdgeFactorBrim", spec := "edgeFactorBrim", inPlace := ["math.FMA"], apart := false }
def EdgeFactorBrimSaid : Prop := edgeFactorBrimRow.holds Try.pinned (OpenSpec.ofChange edgeFactorBrimSpec)

/-- ITS FALSE NEIGHBOUR: 'it returns false'. Refute it at one input. -/
def edgeFactorBrimWrong : ChangeSpec := { name := "edgeFactorBrim", fn := fun _ => fun
  | [] => { results := [.lit (.bool false)], args := [] }
  | _ => none }
def EdgeFactorBrimWrongFalsely : Prop := edgeFactorBrimRow.holds Try.pinned (OpenSpec.ofChange edgeFactorBrimWrong)

/-- 'quantlaw.EdgeRangeBrims': WHATEVER THE INPUT: true; the input reads as it did. -/
def edgeRangeBrimsSpec : ChangeSpec := { name := "edgeRangeBrims", fn := fun _ => fun
  | [] => { results := [.lit (.bool true)], args := [] }
  | _ => none }
def edgeRangeBrimsRow : OpenClaim := { program := "qxb6500378a", sum := "da128945cca5cc41919e148da6d075828612de2c6e5471ec347d7dcc4ac9cd0d", func := "e2e/quantlaw.EdgeRangeBrims", spec := "edgeRangeBrims", inPlace := ["math.Float32frombits", "math.Float64bits"], apart := false }
def EdgeRangeBrimsSaid : Prop := edgeRangeBrimsRow.holds Try.pinned (OpenSpec.ofChange edgeRangeBrimsSpec)

/-- ITS FALSE NEIGHBOUR: 'it returns false'. Refute it at one input. -/
def edgeRangeBrimsWrong : ChangeSpec := { name := "edgeRangeBrims", fn := fun _ => fun
  | [] => { results := [.lit (.bool false)], args := [] }
  | _ => none }
def EdgeRangeBrimsWrongFalsely : Prop := edgeRangeBrimsRow.holds Try.pinned (OpenSpec.ofChange edgeRangeBrimsWrong)

end Rows
end Go.Proofs.Qxb6500378a
