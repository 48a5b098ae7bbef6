/-
  DERIVED. GIVEN WITH THE SEED: THE CARDS: each row of Qxb6500378aDoorRows.lean that lists a variable, with what it lists TIED to the program's text (the seventh form; the later family's looks); each row that meets fmt, with fmt's text TOLD by the authors' own Lean function (tested against real Go, not proved from fmt's source: count such statements apart). THE CARD IS WHAT COUNTS. Prove the row's statement (the work); the ties are given (Qxb6500378aDoorTie.lean); close each card by the builder's one call (the guide's Derived/Test/ToyasCard.lean, 'card_holds'). Laid BY PROGRAM, IN A SANDBOX (cutbox-door.mjs). By AI agents, Wed Nov 11 2026. No macro, syntax, notation, axiom, sorry.
-/
import Derived.Test.Qxb6500378aDoorRows
import GoSem.ClaimSeven
namespace Go.Proofs.Qxb6500378aDoor
namespace Rows

/-- THE TIED CARD OF 'quantlaw.Keeps'. -/
def keepsCard : Claim7 := { stood := { row := keepsRow, standIns := [], harness := (true, "7a27e1b282de908e130bfc6929fa6ababbeaaf87fc0ebd4a1023f2cf2f6af2a2"), looks := true }, kinds := [], alts := [], laidByText := true, laidKinds := [.data, .data, .data], laidTests := true, laidLooks := .later }
def KeepsCardSaid : Prop := Claim7.holds Tryd.pinned (.plain (OpenSpec.ofChange keepsSpec)) keepsCard

/-- THE TIED CARD OF 'quantlaw.Refines'. -/
def refinesCard : Claim7 := { stood := { row := refinesRow, standIns := [], harness := (true, "7a27e1b282de908e130bfc6929fa6ababbeaaf87fc0ebd4a1023f2cf2f6af2a2"), looks := true }, kinds := [], alts := [], laidByText := true, laidKinds := [.data, .data, .data], laidTests := true, laidLooks := .later }
def RefinesCardSaid : Prop := Claim7.holds Tryd.pinned (.plain (OpenSpec.ofChange refinesSpec)) refinesCard

/-- THE TIED CARD OF 'quantlaw.RefinesQuiet'. -/
def refinesQuietCard : Claim7 := { stood := { row := refinesQuietRow, standIns := [], harness := (true, "7a27e1b282de908e130bfc6929fa6ababbeaaf87fc0ebd4a1023f2cf2f6af2a2"), looks := true }, kinds := [], alts := [], laidByText := true, laidKinds := [.data, .data, .data], laidTests := true, laidLooks := .later }
def RefinesQuietCardSaid : Prop := Claim7.holds Tryd.pinned (.plain (OpenSpec.ofChange refinesQuietSpec)) refinesQuietCard

/-- THE TIED CARD OF 'quantlaw.Open'. -/
def openCard : Claim7 := { stood := { row := openRow, standIns := [], harness := (true, "7a27e1b282de908e130bfc6929fa6ababbeaaf87fc0ebd4a1023f2cf2f6af2a2"), looks := true }, kinds := [], alts := [], laidByText := true, laidKinds := [.data, .data, .data], laidTests := true, laidLooks := .later }
def OpenCardSaid : Prop := Claim7.holds Tryd.pinned (.plain (OpenSpec.ofChange openSpec)) openCard

/-- THE TIED CARD OF 'quantlaw.EdgeInfinities'. -/
def edgeInfinitiesCard : Claim7 := { stood := { row := edgeInfinitiesRow, standIns := [], harness := (true, "7a27e1b282de908e130bfc6929fa6ababbeaaf87fc0ebd4a1023f2cf2f6af2a2"), looks := true }, kinds := [], alts := [], laidByText := true, laidKinds := [.data, .data, .widerDeep, .widerDeep, .data, .data, .data, .data, .data, .sentinel, .sentinel, .pinned, .pinned], laidTests := true, laidLooks := .later }
def EdgeInfinitiesCardSaid : Prop := Claim7.holds Tryd.pinned (.plain (OpenSpec.ofChange edgeInfinitiesSpec)) edgeInfinitiesCard

/-- THE TIED CARD OF 'quantlaw.EdgeNaNAtTheDoor'. -/
def edgeNaNAtTheDoorCard : Claim7 := { stood := { row := edgeNaNAtTheDoorRow, standIns := [], harness := (true, "7a27e1b282de908e130bfc6929fa6ababbeaaf87fc0ebd4a1023f2cf2f6af2a2"), looks := true }, kinds := [], alts := [], laidByText := true, laidKinds := [.data, .data, .data], laidTests := true, laidLooks := .later }
def EdgeNaNAtTheDoorCardSaid : Prop := Claim7.holds Tryd.pinned (.plain (OpenSpec.ofChange edgeNaNAtTheDoorSpec)) edgeNaNAtTheDoorCard

/-- THE TIED CARD OF 'quantlaw.EdgeOpenInt32'. -/
def edgeOpenInt32Card : Claim7 := { stood := { row := edgeOpenInt32Row, standIns := [], harness := (true, "7a27e1b282de908e130bfc6929fa6ababbeaaf87fc0ebd4a1023f2cf2f6af2a2"), looks := true }, kinds := [], alts := [], laidByText := true, laidKinds := [.data, .data, .data], laidTests := true, laidLooks := .later }
def EdgeOpenInt32CardSaid : Prop := Claim7.holds Tryd.pinned (.plain (OpenSpec.ofChange edgeOpenInt32Spec)) edgeOpenInt32Card

/-- THE TIED CARD OF 'quantlaw.EdgeNearestFloat'. -/
def edgeNearestFloatCard : Claim7 := { stood := { row := edgeNearestFloatRow, standIns := [], harness := (true, "7a27e1b282de908e130bfc6929fa6ababbeaaf87fc0ebd4a1023f2cf2f6af2a2"), looks := true }, kinds := [], alts := [], laidByText := true, laidKinds := [.data, .data, .widerDeep, .widerDeep, .data, .data, .data, .data, .data, .sentinel, .sentinel, .pinned, .pinned], laidTests := true, laidLooks := .later }
def EdgeNearestFloatCardSaid : Prop := Claim7.holds Tryd.pinned (.plain (OpenSpec.ofChange edgeNearestFloatSpec)) edgeNearestFloatCard

/-- THE TIED CARD OF 'quantlaw.EdgeHalfAPlace'. -/
def edgeHalfAPlaceCard : Claim7 := { stood := { row := edgeHalfAPlaceRow, standIns := [], harness := (true, "7a27e1b282de908e130bfc6929fa6ababbeaaf87fc0ebd4a1023f2cf2f6af2a2"), looks := true }, kinds := [], alts := [], laidByText := true, laidKinds := [.data, .data, .data, .data, .pinned, .pinned], laidTests := true, laidLooks := .later }
def EdgeHalfAPlaceCardSaid : Prop := Claim7.holds Tryd.pinned (.plain (OpenSpec.ofChange edgeHalfAPlaceSpec)) edgeHalfAPlaceCard

/-- THE TIED CARD OF 'quantlaw.EdgeTwoRoundings'. -/
def edgeTwoRoundingsCard : Claim7 := { stood := { row := edgeTwoRoundingsRow, standIns := [], harness := (true, "7a27e1b282de908e130bfc6929fa6ababbeaaf87fc0ebd4a1023f2cf2f6af2a2"), looks := true }, kinds := [], alts := [], laidByText := true, laidKinds := [.data, .data, .widerDeep, .widerDeep, .data, .data, .data, .data, .data, .sentinel, .sentinel, .pinned, .pinned], laidTests := true, laidLooks := .later }
def EdgeTwoRoundingsCardSaid : Prop := Claim7.holds Tryd.pinned (.plain (OpenSpec.ofChange edgeTwoRoundingsSpec)) edgeTwoRoundingsCard

/-- THE TIED CARD OF 'quantlaw.EdgeLabelBrims'. -/
def edgeLabelBrimsCard : Claim7 := { stood := { row := edgeLabelBrimsRow, standIns := [], harness := (true, "7a27e1b282de908e130bfc6929fa6ababbeaaf87fc0ebd4a1023f2cf2f6af2a2"), looks := true }, kinds := [], alts := [], laidByText := true, laidKinds := [.data, .data, .data, .data, .pinned, .pinned], laidTests := true, laidLooks := .later }
def EdgeLabelBrimsCardSaid : Prop := Claim7.holds Tryd.pinned (.plain (OpenSpec.ofChange edgeLabelBrimsSpec)) edgeLabelBrimsCard

/-- THE TIED CARD OF 'quantlaw.EdgeGrammar'. -/
def edgeGrammarCard : Claim7 := { stood := { row := edgeGrammarRow, standIns := [], harness := (true, "7a27e1b282de908e130bfc6929fa6ababbeaaf87fc0ebd4a1023f2cf2f6af2a2"), looks := true }, kinds := [], alts := [], laidByText := true, laidKinds := [.data, .data, .widerDeep, .widerDeep, .data, .data, .data, .data, .data, .sentinel, .sentinel, .pinned, .pinned], laidTests := true, laidLooks := .later }
def EdgeGrammarCardSaid : Prop := Claim7.holds Tryd.pinned (.plain (OpenSpec.ofChange edgeGrammarSpec)) edgeGrammarCard

/-- THE TIED CARD OF 'quantlaw.EdgeCountsUnlooked'. -/
def edgeCountsUnlookedCard : Claim7 := { stood := { row := edgeCountsUnlookedRow, standIns := [], harness := (true, "7a27e1b282de908e130bfc6929fa6ababbeaaf87fc0ebd4a1023f2cf2f6af2a2"), looks := true }, kinds := [], alts := [], laidByText := true, laidKinds := [.data, .data, .data], laidTests := true, laidLooks := .later }
def EdgeCountsUnlookedCardSaid : Prop := Claim7.holds Tryd.pinned (.plain (OpenSpec.ofChange edgeCountsUnlookedSpec)) edgeCountsUnlookedCard

/-- THE TIED CARD OF 'quantlaw.EdgeTexts'. -/
def edgeTextsCard : Claim7 := { stood := { row := edgeTextsRow, standIns := [], harness := (true, "7a27e1b282de908e130bfc6929fa6ababbeaaf87fc0ebd4a1023f2cf2f6af2a2"), looks := true }, kinds := [], alts := [], laidByText := true, laidKinds := [.data, .data, .widerDeep, .widerDeep, .data, .data, .data, .data, .data, .sentinel, .sentinel, .pinned, .pinned], laidTests := true, laidLooks := .later }
def EdgeTextsCardSaid : Prop := Claim7.holds Tryd.pinned (.plain (OpenSpec.ofChange edgeTextsSpec)) edgeTextsCard
end Rows
end Go.Proofs.Qxb6500378aDoor
