/-
  DERIVED. GIVEN WITH THE SEED: THE CARDS: each row of Qxb6500376aDoorRows.lean that lists a variable, with what it lists TIED to the program's text (the seventh form; the later family's looks); each row that meets fmt, with fmt's text TOLD by the authors' own Lean function (tested against real Go, not proved from fmt's source: count such statements apart). THE CARD IS WHAT COUNTS. Prove the row's statement (the work); the ties are given (Qxb6500376aDoorTie.lean); close each card by the builder's one call (the guide's Derived/Test/ToyasCard.lean, 'card_holds'). Laid BY PROGRAM, IN A SANDBOX (cutbox-door.mjs). By AI agents, Wed Nov 11 2026. No macro, syntax, notation, axiom, sorry.
-/
import Derived.Test.Qxb6500376aDoorRows
import GoSem.ClaimSeven
namespace Go.Proofs.Qxb6500376aDoor
namespace Rows

/-- THE TIED CARD OF 'chainlaw.Keeps'. -/
def keepsCard : Claim7 := { stood := { row := keepsRow, standIns := [], harness := (true, "a54315fc9a6490aa1bf0213e19b19b72c7e1f2952953a361d8b334fd2c637a37"), looks := false }, kinds := [], alts := [], laidByText := true, laidKinds := [.data, .data, .data], laidTests := true, laidLooks := .later }
def KeepsCardSaid : Prop := Claim7.holds Tryd.pinned (.plain (OpenSpec.ofChange keepsSpec)) keepsCard

/-- THE TIED CARD OF 'chainlaw.KeepsQuiet'. -/
def keepsQuietCard : Claim7 := { stood := { row := keepsQuietRow, standIns := [], harness := (true, "a54315fc9a6490aa1bf0213e19b19b72c7e1f2952953a361d8b334fd2c637a37"), looks := false }, kinds := [], alts := [], laidByText := true, laidKinds := [.data, .data, .data], laidTests := true, laidLooks := .later }
def KeepsQuietCardSaid : Prop := Claim7.holds Tryd.pinned (.plain (OpenSpec.ofChange keepsQuietSpec)) keepsQuietCard

/-- THE TIED CARD OF 'chainlaw.EdgeTwoPipelines'. -/
def edgeTwoPipelinesCard : Claim7 := { stood := { row := edgeTwoPipelinesRow, standIns := [], harness := (true, "a54315fc9a6490aa1bf0213e19b19b72c7e1f2952953a361d8b334fd2c637a37"), looks := false }, kinds := [], alts := [], laidByText := true, laidKinds := [.data, .data, .data], laidTests := true, laidLooks := .later }
def EdgeTwoPipelinesCardSaid : Prop := Claim7.holds Tryd.pinned (.plain (OpenSpec.ofChange edgeTwoPipelinesSpec)) edgeTwoPipelinesCard
end Rows
end Go.Proofs.Qxb6500376aDoor
