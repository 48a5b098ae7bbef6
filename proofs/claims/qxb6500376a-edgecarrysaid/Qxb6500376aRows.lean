/-
  No cell of these rows narrows 'for every input' (looked for: loops, veiled, ifaces, maps, wideKeys, modest, calm, conditions, laid).
  DERIVED. THE GIVEN ROWS OF THIS SEAT. 17 by the template 'for every input the law returns true; each argument reads behind the call as it read before'; 0 by the template 'total and deterministic' (their statements: Qxb6500376aTotals.lean).
  GIVEN WITH THE SEED: the statements are not yours to turn. If you find one false, say at which input.
  Laid BY PROGRAM, IN A SANDBOX (cutbox-rows.mjs): the forced cells as the released guide's own fill.sh prints them over the translation b30a0e81769b5144… (all of the seat's roots in one cut). By AI agents, Wed Nov 11 2026. No macro, syntax, notation, axiom, sorry.
-/
import Derived.Test.Qxb6500376aChecked
import GoSem.Claim
import GoSem.ClaimJoined
import GoSem.ClaimMapViews
import Derived.JoinedTies
import Derived.KernelRfl
namespace Go.Proofs.Qxb6500376a
/- THE CELL 'sum', in the pinned program and in every row, IS THE sha256 OF THE DUMP (.gsa) THAT Qxb6500376aProg.lean LOADS. Nothing in Lean hashes anything: it is a label: what it is worth is what the hold of that sum in a sandbox is worth. -/
noncomputable def Try.pinned : Pinned := { name := "qxb6500376a", sum := "b30a0e81769b514495c186af7f4a6b53b35ebb255f869fad1364b2a851957be9", checked := Try.checked }
namespace Rows
def none {H : Type} : Left H := { results := [], args := [] }

/-- 'chainlaw.EdgeTwoZeros': WHATEVER THE INPUT: true; the input reads as it did. -/
def edgeTwoZerosSpec : ChangeSpec := { name := "edgeTwoZeros", fn := fun _ => fun
  | [] => { results := [.lit (.bool true)], args := [] }
  | _ => none }
def edgeTwoZerosRow : OpenClaim := { program := "qxb6500376a", sum := "b30a0e81769b514495c186af7f4a6b53b35ebb255f869fad1364b2a851957be9", func := "e2e/chainlaw.EdgeTwoZeros", spec := "edgeTwoZeros", inPlace := ["math.Float64frombits", "math.archFloor", "math.Float64bits", "math.archTrunc", "math.archCeil", "math.RoundToEven", "math/bits.Add64", "math/bits.Sub64"], apart := false }
def EdgeTwoZerosSaid : Prop := edgeTwoZerosRow.holds Try.pinned (OpenSpec.ofChange edgeTwoZerosSpec)

/-- ITS FALSE NEIGHBOUR: 'it returns false'. Refute it at one input. -/
def edgeTwoZerosWrong : ChangeSpec := { name := "edgeTwoZeros", fn := fun _ => fun
  | [] => { results := [.lit (.bool false)], args := [] }
  | _ => none }
def EdgeTwoZerosWrongFalsely : Prop := edgeTwoZerosRow.holds Try.pinned (OpenSpec.ofChange edgeTwoZerosWrong)

/-- 'chainlaw.EdgeSumWraps': WHATEVER THE INPUT: true; the input reads as it did. -/
def edgeSumWrapsSpec : ChangeSpec := { name := "edgeSumWraps", fn := fun _ => fun
  | [] => { results := [.lit (.bool true)], args := [] }
  | _ => none }
def edgeSumWrapsRow : OpenClaim := { program := "qxb6500376a", sum := "b30a0e81769b514495c186af7f4a6b53b35ebb255f869fad1364b2a851957be9", func := "e2e/chainlaw.EdgeSumWraps", spec := "edgeSumWraps", inPlace := ["math.Float64frombits", "math.archFloor", "math.Float64bits", "math.archTrunc", "math.archCeil", "math.RoundToEven", "math/bits.Add64", "math/bits.Sub64"], apart := false }
def EdgeSumWrapsSaid : Prop := edgeSumWrapsRow.holds Try.pinned (OpenSpec.ofChange edgeSumWrapsSpec)

/-- ITS FALSE NEIGHBOUR: 'it returns false'. Refute it at one input. -/
def edgeSumWrapsWrong : ChangeSpec := { name := "edgeSumWraps", fn := fun _ => fun
  | [] => { results := [.lit (.bool false)], args := [] }
  | _ => none }
def EdgeSumWrapsWrongFalsely : Prop := edgeSumWrapsRow.holds Try.pinned (OpenSpec.ofChange edgeSumWrapsWrong)

/-- 'chainlaw.EdgeCarry': WHATEVER THE INPUT: true; the input reads as it did. -/
def edgeCarrySpec : ChangeSpec := { name := "edgeCarry", fn := fun _ => fun
  | [] => { results := [.lit (.bool true)], args := [] }
  | _ => none }
def edgeCarryRow : OpenClaim := { program := "qxb6500376a", sum := "b30a0e81769b514495c186af7f4a6b53b35ebb255f869fad1364b2a851957be9", func := "e2e/chainlaw.EdgeCarry", spec := "edgeCarry", inPlace := ["math.Float64frombits", "math.archFloor", "math.Float64bits", "math.archTrunc", "math.archCeil", "math.RoundToEven", "math/bits.Add64", "math/bits.Sub64"], apart := false }
def EdgeCarrySaid : Prop := edgeCarryRow.holds Try.pinned (OpenSpec.ofChange edgeCarrySpec)

/-- ITS FALSE NEIGHBOUR: 'it returns false'. Refute it at one input. -/
def edgeCarryWrong : ChangeSpec := { name := "edgeCarry", fn := fun _ => fun
  | [] => { results := [.lit (.bool false)], args := [] }
  | _ => none }
def EdgeCarryWrongFalsely : Prop := edgeCarryRow.holds Try.pinned (OpenSpec.ofChange edgeCarryWrong)

/-- 'chainlaw.EdgeBorrow': WHATEVER THE INPUT: true; the input reads as it did. -/
def edgeBorrowSpec : ChangeSpec := { name := "edgeBorrow", fn := fun _ => fun
  | [] => { results := [.lit (.bool true)], args := [] }
  | _ => none }
def edgeBorrowRow : OpenClaim := { program := "qxb6500376a", sum := "b30a0e81769b514495c186af7f4a6b53b35ebb255f869fad1364b2a851957be9", func := "e2e/chainlaw.EdgeBorrow", spec := "edgeBorrow", inPlace := ["math.Float64frombits", "math.archFloor", "math.Float64bits", "math.archTrunc", "math.archCeil", "math.RoundToEven", "math/bits.Add64", "math/bits.Sub64"], apart := false }
def EdgeBorrowSaid : Prop := edgeBorrowRow.holds Try.pinned (OpenSpec.ofChange edgeBorrowSpec)

/-- ITS FALSE NEIGHBOUR: 'it returns false'. Refute it at one input. -/
def edgeBorrowWrong : ChangeSpec := { name := "edgeBorrow", fn := fun _ => fun
  | [] => { results := [.lit (.bool false)], args := [] }
  | _ => none }
def EdgeBorrowWrongFalsely : Prop := edgeBorrowRow.holds Try.pinned (OpenSpec.ofChange edgeBorrowWrong)

/-- 'chainlaw.EdgeDepthGuard': WHATEVER THE INPUT: true; the input reads as it did. -/
def edgeDepthGuardSpec : ChangeSpec := { name := "edgeDepthGuard", fn := fun _ => fun
  | [] => { results := [.lit (.bool true)], args := [] }
  | _ => none }
def edgeDepthGuardRow : OpenClaim := { program := "qxb6500376a", sum := "b30a0e81769b514495c186af7f4a6b53b35ebb255f869fad1364b2a851957be9", func := "e2e/chainlaw.EdgeDepthGuard", spec := "edgeDepthGuard", inPlace := ["math.Float64frombits", "math.archFloor", "math.Float64bits", "math.archTrunc", "math.archCeil", "math.RoundToEven", "math/bits.Add64", "math/bits.Sub64"], apart := false }
def EdgeDepthGuardSaid : Prop := edgeDepthGuardRow.holds Try.pinned (OpenSpec.ofChange edgeDepthGuardSpec)

/-- ITS FALSE NEIGHBOUR: 'it returns false'. Refute it at one input. -/
def edgeDepthGuardWrong : ChangeSpec := { name := "edgeDepthGuard", fn := fun _ => fun
  | [] => { results := [.lit (.bool false)], args := [] }
  | _ => none }
def EdgeDepthGuardWrongFalsely : Prop := edgeDepthGuardRow.holds Try.pinned (OpenSpec.ofChange edgeDepthGuardWrong)

/-- 'chainlaw.EdgeModesHeeded': WHATEVER THE INPUT: true; the input reads as it did. -/
def edgeModesHeededSpec : ChangeSpec := { name := "edgeModesHeeded", fn := fun _ => fun
  | [] => { results := [.lit (.bool true)], args := [] }
  | _ => none }
def edgeModesHeededRow : OpenClaim := { program := "qxb6500376a", sum := "b30a0e81769b514495c186af7f4a6b53b35ebb255f869fad1364b2a851957be9", func := "e2e/chainlaw.EdgeModesHeeded", spec := "edgeModesHeeded", inPlace := ["math.Float64frombits", "math.archFloor", "math.Float64bits", "math.archTrunc", "math.archCeil", "math.RoundToEven", "math/bits.Add64", "math/bits.Sub64"], apart := false }
def EdgeModesHeededSaid : Prop := edgeModesHeededRow.holds Try.pinned (OpenSpec.ofChange edgeModesHeededSpec)

/-- ITS FALSE NEIGHBOUR: 'it returns false'. Refute it at one input. -/
def edgeModesHeededWrong : ChangeSpec := { name := "edgeModesHeeded", fn := fun _ => fun
  | [] => { results := [.lit (.bool false)], args := [] }
  | _ => none }
def EdgeModesHeededWrongFalsely : Prop := edgeModesHeededRow.holds Try.pinned (OpenSpec.ofChange edgeModesHeededWrong)

/-- 'chainlaw.EdgeRoot': WHATEVER THE INPUT: true; the input reads as it did. -/
def edgeRootSpec : ChangeSpec := { name := "edgeRoot", fn := fun _ => fun
  | [] => { results := [.lit (.bool true)], args := [] }
  | _ => none }
def edgeRootRow : OpenClaim := { program := "qxb6500376a", sum := "b30a0e81769b514495c186af7f4a6b53b35ebb255f869fad1364b2a851957be9", func := "e2e/chainlaw.EdgeRoot", spec := "edgeRoot", inPlace := ["math.Float64frombits", "math.archFloor", "math.Float64bits", "math.archTrunc", "math.archCeil", "math.RoundToEven", "math/bits.Add64", "math/bits.Sub64", "math.sqrt"], apart := false }
def EdgeRootSaid : Prop := edgeRootRow.holds Try.pinned (OpenSpec.ofChange edgeRootSpec)

/-- ITS FALSE NEIGHBOUR: 'it returns false'. Refute it at one input. -/
def edgeRootWrong : ChangeSpec := { name := "edgeRoot", fn := fun _ => fun
  | [] => { results := [.lit (.bool false)], args := [] }
  | _ => none }
def EdgeRootWrongFalsely : Prop := edgeRootRow.holds Try.pinned (OpenSpec.ofChange edgeRootWrong)

/-- 'chainlaw.EdgeSpanAtFirst': WHATEVER THE INPUT: true; the input reads as it did. -/
def edgeSpanAtFirstSpec : ChangeSpec := { name := "edgeSpanAtFirst", fn := fun _ => fun
  | [] => { results := [.lit (.bool true)], args := [] }
  | _ => none }
def edgeSpanAtFirstRow : OpenClaim := { program := "qxb6500376a", sum := "b30a0e81769b514495c186af7f4a6b53b35ebb255f869fad1364b2a851957be9", func := "e2e/chainlaw.EdgeSpanAtFirst", spec := "edgeSpanAtFirst", inPlace := ["math.Float64frombits", "math.archMax", "math.Float64bits", "math.archMin"], apart := false }
def EdgeSpanAtFirstSaid : Prop := edgeSpanAtFirstRow.holds Try.pinned (OpenSpec.ofChange edgeSpanAtFirstSpec)

/-- ITS FALSE NEIGHBOUR: 'it returns false'. Refute it at one input. -/
def edgeSpanAtFirstWrong : ChangeSpec := { name := "edgeSpanAtFirst", fn := fun _ => fun
  | [] => { results := [.lit (.bool false)], args := [] }
  | _ => none }
def EdgeSpanAtFirstWrongFalsely : Prop := edgeSpanAtFirstRow.holds Try.pinned (OpenSpec.ofChange edgeSpanAtFirstWrong)

/-- 'chainlaw.EdgeSpanZeros': WHATEVER THE INPUT: true; the input reads as it did. -/
def edgeSpanZerosSpec : ChangeSpec := { name := "edgeSpanZeros", fn := fun _ => fun
  | [] => { results := [.lit (.bool true)], args := [] }
  | _ => none }
def edgeSpanZerosRow : OpenClaim := { program := "qxb6500376a", sum := "b30a0e81769b514495c186af7f4a6b53b35ebb255f869fad1364b2a851957be9", func := "e2e/chainlaw.EdgeSpanZeros", spec := "edgeSpanZeros", inPlace := ["math.Float64frombits", "math.archFloor", "math.Float64bits", "math.archTrunc", "math.archCeil", "math.RoundToEven", "math/bits.Add64", "math/bits.Sub64", "math.archMax", "math.archMin"], apart := false }
def EdgeSpanZerosSaid : Prop := edgeSpanZerosRow.holds Try.pinned (OpenSpec.ofChange edgeSpanZerosSpec)

/-- ITS FALSE NEIGHBOUR: 'it returns false'. Refute it at one input. -/
def edgeSpanZerosWrong : ChangeSpec := { name := "edgeSpanZeros", fn := fun _ => fun
  | [] => { results := [.lit (.bool false)], args := [] }
  | _ => none }
def EdgeSpanZerosWrongFalsely : Prop := edgeSpanZerosRow.holds Try.pinned (OpenSpec.ofChange edgeSpanZerosWrong)

/-- 'chainlaw.EdgeStampOpen': WHATEVER THE INPUT: true; the input reads as it did. -/
def edgeStampOpenSpec : ChangeSpec := { name := "edgeStampOpen", fn := fun _ => fun
  | [] => { results := [.lit (.bool true)], args := [] }
  | _ => none }
def edgeStampOpenRow : OpenClaim := { program := "qxb6500376a", sum := "b30a0e81769b514495c186af7f4a6b53b35ebb255f869fad1364b2a851957be9", func := "e2e/chainlaw.EdgeStampOpen", spec := "edgeStampOpen", inPlace := ["math.Float64frombits"], apart := false }
def EdgeStampOpenSaid : Prop := edgeStampOpenRow.holds Try.pinned (OpenSpec.ofChange edgeStampOpenSpec)

/-- ITS FALSE NEIGHBOUR: 'it returns false'. Refute it at one input. -/
def edgeStampOpenWrong : ChangeSpec := { name := "edgeStampOpen", fn := fun _ => fun
  | [] => { results := [.lit (.bool false)], args := [] }
  | _ => none }
def EdgeStampOpenWrongFalsely : Prop := edgeStampOpenRow.holds Try.pinned (OpenSpec.ofChange edgeStampOpenWrong)

/-- 'chainlaw.EdgeStampGuarded': WHATEVER THE INPUT: true; the input reads as it did. -/
def edgeStampGuardedSpec : ChangeSpec := { name := "edgeStampGuarded", fn := fun _ => fun
  | [] => { results := [.lit (.bool true)], args := [] }
  | _ => none }
def edgeStampGuardedRow : OpenClaim := { program := "qxb6500376a", sum := "b30a0e81769b514495c186af7f4a6b53b35ebb255f869fad1364b2a851957be9", func := "e2e/chainlaw.EdgeStampGuarded", spec := "edgeStampGuarded", inPlace := ["math.Float64frombits"], apart := false }
def EdgeStampGuardedSaid : Prop := edgeStampGuardedRow.holds Try.pinned (OpenSpec.ofChange edgeStampGuardedSpec)

/-- ITS FALSE NEIGHBOUR: 'it returns false'. Refute it at one input. -/
def edgeStampGuardedWrong : ChangeSpec := { name := "edgeStampGuarded", fn := fun _ => fun
  | [] => { results := [.lit (.bool false)], args := [] }
  | _ => none }
def EdgeStampGuardedWrongFalsely : Prop := edgeStampGuardedRow.holds Try.pinned (OpenSpec.ofChange edgeStampGuardedWrong)

/-- 'chainlaw.EdgePanicMomentOpen': WHATEVER THE INPUT: true; the input reads as it did. -/
def edgePanicMomentOpenSpec : ChangeSpec := { name := "edgePanicMomentOpen", fn := fun _ => fun
  | [] => { results := [.lit (.bool true)], args := [] }
  | _ => none }
def edgePanicMomentOpenRow : OpenClaim := { program := "qxb6500376a", sum := "b30a0e81769b514495c186af7f4a6b53b35ebb255f869fad1364b2a851957be9", func := "e2e/chainlaw.EdgePanicMomentOpen", spec := "edgePanicMomentOpen", inPlace := ["math.Float64frombits"], unfollowed := true, recurses := true, apart := false }
def EdgePanicMomentOpenSaid : Prop := edgePanicMomentOpenRow.holds Try.pinned (OpenSpec.ofChange edgePanicMomentOpenSpec)

/-- ITS FALSE NEIGHBOUR: 'it returns false'. Refute it at one input. -/
def edgePanicMomentOpenWrong : ChangeSpec := { name := "edgePanicMomentOpen", fn := fun _ => fun
  | [] => { results := [.lit (.bool false)], args := [] }
  | _ => none }
def EdgePanicMomentOpenWrongFalsely : Prop := edgePanicMomentOpenRow.holds Try.pinned (OpenSpec.ofChange edgePanicMomentOpenWrong)

/-- 'chainlaw.EdgePanicMomentGuarded': WHATEVER THE INPUT: true; the input reads as it did. -/
def edgePanicMomentGuardedSpec : ChangeSpec := { name := "edgePanicMomentGuarded", fn := fun _ => fun
  | [] => { results := [.lit (.bool true)], args := [] }
  | _ => none }
def edgePanicMomentGuardedRow : OpenClaim := { program := "qxb6500376a", sum := "b30a0e81769b514495c186af7f4a6b53b35ebb255f869fad1364b2a851957be9", func := "e2e/chainlaw.EdgePanicMomentGuarded", spec := "edgePanicMomentGuarded", inPlace := ["math.Float64frombits"], apart := false }
def EdgePanicMomentGuardedSaid : Prop := edgePanicMomentGuardedRow.holds Try.pinned (OpenSpec.ofChange edgePanicMomentGuardedSpec)

/-- ITS FALSE NEIGHBOUR: 'it returns false'. Refute it at one input. -/
def edgePanicMomentGuardedWrong : ChangeSpec := { name := "edgePanicMomentGuarded", fn := fun _ => fun
  | [] => { results := [.lit (.bool false)], args := [] }
  | _ => none }
def EdgePanicMomentGuardedWrongFalsely : Prop := edgePanicMomentGuardedRow.holds Try.pinned (OpenSpec.ofChange edgePanicMomentGuardedWrong)

/-- 'chainlaw.EdgeZeroSizeOpen': WHATEVER THE INPUT: true; the input reads as it did. -/
def edgeZeroSizeOpenSpec : ChangeSpec := { name := "edgeZeroSizeOpen", fn := fun _ => fun
  | [] => { results := [.lit (.bool true)], args := [] }
  | _ => none }
def edgeZeroSizeOpenRow : OpenClaim := { program := "qxb6500376a", sum := "b30a0e81769b514495c186af7f4a6b53b35ebb255f869fad1364b2a851957be9", func := "e2e/chainlaw.EdgeZeroSizeOpen", spec := "edgeZeroSizeOpen", inPlace := ["math.Float64frombits"], apart := false }
def EdgeZeroSizeOpenSaid : Prop := edgeZeroSizeOpenRow.holds Try.pinned (OpenSpec.ofChange edgeZeroSizeOpenSpec)

/-- ITS FALSE NEIGHBOUR: 'it returns false'. Refute it at one input. -/
def edgeZeroSizeOpenWrong : ChangeSpec := { name := "edgeZeroSizeOpen", fn := fun _ => fun
  | [] => { results := [.lit (.bool false)], args := [] }
  | _ => none }
def EdgeZeroSizeOpenWrongFalsely : Prop := edgeZeroSizeOpenRow.holds Try.pinned (OpenSpec.ofChange edgeZeroSizeOpenWrong)

/-- 'chainlaw.EdgeTagsApart': WHATEVER THE INPUT: true; the input reads as it did. -/
def edgeTagsApartSpec : ChangeSpec := { name := "edgeTagsApart", fn := fun _ => fun
  | [] => { results := [.lit (.bool true)], args := [] }
  | _ => none }
def edgeTagsApartRow : OpenClaim := { program := "qxb6500376a", sum := "b30a0e81769b514495c186af7f4a6b53b35ebb255f869fad1364b2a851957be9", func := "e2e/chainlaw.EdgeTagsApart", spec := "edgeTagsApart", inPlace := ["math.Float64frombits"], apart := false }
def EdgeTagsApartSaid : Prop := edgeTagsApartRow.holds Try.pinned (OpenSpec.ofChange edgeTagsApartSpec)

/-- ITS FALSE NEIGHBOUR: 'it returns false'. Refute it at one input. -/
def edgeTagsApartWrong : ChangeSpec := { name := "edgeTagsApart", fn := fun _ => fun
  | [] => { results := [.lit (.bool false)], args := [] }
  | _ => none }
def EdgeTagsApartWrongFalsely : Prop := edgeTagsApartRow.holds Try.pinned (OpenSpec.ofChange edgeTagsApartWrong)

/-- 'chainlaw.EdgeLateTable': WHATEVER THE INPUT: true; the input reads as it did. -/
def edgeLateTableSpec : ChangeSpec := { name := "edgeLateTable", fn := fun _ => fun
  | [] => { results := [.lit (.bool true)], args := [] }
  | _ => none }
def edgeLateTableRow : OpenClaim := { program := "qxb6500376a", sum := "b30a0e81769b514495c186af7f4a6b53b35ebb255f869fad1364b2a851957be9", func := "e2e/chainlaw.EdgeLateTable", spec := "edgeLateTable", inPlace := ["math.Float64frombits"], apart := false }
def EdgeLateTableSaid : Prop := edgeLateTableRow.holds Try.pinned (OpenSpec.ofChange edgeLateTableSpec)

/-- ITS FALSE NEIGHBOUR: 'it returns false'. Refute it at one input. -/
def edgeLateTableWrong : ChangeSpec := { name := "edgeLateTable", fn := fun _ => fun
  | [] => { results := [.lit (.bool false)], args := [] }
  | _ => none }
def EdgeLateTableWrongFalsely : Prop := edgeLateTableRow.holds Try.pinned (OpenSpec.ofChange edgeLateTableWrong)

/-- 'chainlaw.EdgeBackToBack': WHATEVER THE INPUT: true; the input reads as it did. -/
def edgeBackToBackSpec : ChangeSpec := { name := "edgeBackToBack", fn := fun _ => fun
  | [] => { results := [.lit (.bool true)], args := [] }
  | _ => none }
def edgeBackToBackRow : OpenClaim := { program := "qxb6500376a", sum := "b30a0e81769b514495c186af7f4a6b53b35ebb255f869fad1364b2a851957be9", func := "e2e/chainlaw.EdgeBackToBack", spec := "edgeBackToBack", inPlace := ["math.Float64frombits", "math.archFloor", "math.Float64bits", "math.archTrunc", "math.archCeil", "math.RoundToEven", "math/bits.Add64", "math/bits.Sub64"], apart := false }
def EdgeBackToBackSaid : Prop := edgeBackToBackRow.holds Try.pinned (OpenSpec.ofChange edgeBackToBackSpec)

/-- ITS FALSE NEIGHBOUR: 'it returns false'. Refute it at one input. -/
def edgeBackToBackWrong : ChangeSpec := { name := "edgeBackToBack", fn := fun _ => fun
  | [] => { results := [.lit (.bool false)], args := [] }
  | _ => none }
def EdgeBackToBackWrongFalsely : Prop := edgeBackToBackRow.holds Try.pinned (OpenSpec.ofChange edgeBackToBackWrong)

end Rows
end Go.Proofs.Qxb6500376a
