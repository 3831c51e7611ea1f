/-
  DERIVED. GIVEN WITH THE SEED: THE CARDS: each row of YtlmfmioljeppfaaGreatDoorRows.lean that lists a variable, with what it lists TIED to the program's text (the seventh form; the later family's looks); each row that meets fmt, with fmt's text TOLD by the authors' own Lean function (tested against real Go, not proved from fmt's source: count such statements apart). THE CARD IS WHAT COUNTS. Prove the row's statement (the work); the ties are given (YtlmfmioljeppfaaGreatDoorTie.lean); close each card by the builder's one call (the guide's Derived/Test/ToyasCard.lean, 'card_holds'). Laid BY PROGRAM, IN A SANDBOX (cutbox-door.mjs). By AI agents, Wed Nov 11 2026. No macro, syntax, notation, axiom, sorry.
-/
import Derived.Test.YtlmfmioljeppfaaGreatDoorRows
import GoSem.ClaimSeven
namespace Go.Proofs.YtlmfmioljeppfaaGreatDoor
namespace Rows

/-- THE TIED CARD OF 'coffeehouselaw3.FrameSteps'. -/
def frameStepsCard : Claim7 := { stood := { row := frameStepsRow, standIns := [], harness := (true, "2f6801f5f4cc6968496851d05a503c3a559b2eeca6fb4bd0841d6a67bfb8e09c"), looks := true }, kinds := [], alts := [], laidByText := true, laidKinds := [.data, .data, .pinned], laidTests := true, laidLooks := .later }
def FrameStepsCardSaid : Prop := Claim7.holds Tryz.pinned (.plain (OpenSpec.ofChange frameStepsSpec)) frameStepsCard

/-- THE TIED CARD OF 'coffeehouselaw3.CheckTells'. -/
def checkTellsCard : Claim7 := { stood := { row := checkTellsRow, standIns := [], harness := (true, "2f6801f5f4cc6968496851d05a503c3a559b2eeca6fb4bd0841d6a67bfb8e09c"), looks := true }, kinds := [], alts := [], laidByText := true, laidKinds := [.data, .data, .pinned], laidTests := true, laidLooks := .later }
def CheckTellsCardSaid : Prop := Claim7.holds Tryz.pinned (.plain (OpenSpec.ofChange checkTellsSpec)) checkTellsCard

/-- THE TIED CARD OF 'coffeehouselaw3.CheckLeast'. -/
def checkLeastCard : Claim7 := { stood := { row := checkLeastRow, standIns := [], harness := (true, "2f6801f5f4cc6968496851d05a503c3a559b2eeca6fb4bd0841d6a67bfb8e09c"), looks := true }, kinds := [], alts := [], laidByText := true, laidKinds := [.data, .data, .pinned], laidTests := true, laidLooks := .later }
def CheckLeastCardSaid : Prop := Claim7.holds Tryz.pinned (.plain (OpenSpec.ofChange checkLeastSpec)) checkLeastCard

/-- THE TIED CARD OF 'coffeehouselaw3.MapsSound'. -/
def mapsSoundCard : Claim7 := { stood := { row := mapsSoundRow, standIns := [], harness := (true, "2f6801f5f4cc6968496851d05a503c3a559b2eeca6fb4bd0841d6a67bfb8e09c"), looks := true }, kinds := [], alts := [], laidByText := true, laidKinds := [.data, .data, .pinned], laidTests := true, laidLooks := .later }
def MapsSoundCardSaid : Prop := Claim7.holds Tryz.pinned (.plain (OpenSpec.ofChange mapsSoundSpec)) mapsSoundCard

/-- THE TIED CARD OF 'coffeehouselaw3.MapsNeeds'. -/
def mapsNeedsCard : Claim7 := { stood := { row := mapsNeedsRow, standIns := [], harness := (true, "2f6801f5f4cc6968496851d05a503c3a559b2eeca6fb4bd0841d6a67bfb8e09c"), looks := true }, kinds := [], alts := [], laidByText := true, laidKinds := [.data, .data, .pinned], laidTests := true, laidLooks := .later }
def MapsNeedsCardSaid : Prop := Claim7.holds Tryz.pinned (.plain (OpenSpec.ofChange mapsNeedsSpec)) mapsNeedsCard

/-- THE TIED CARD OF 'coffeehouselaw3.MapsEnough'. -/
def mapsEnoughCard : Claim7 := { stood := { row := mapsEnoughRow, standIns := [], harness := (true, "2f6801f5f4cc6968496851d05a503c3a559b2eeca6fb4bd0841d6a67bfb8e09c"), looks := true }, kinds := [], alts := [], laidByText := true, laidKinds := [.data, .data, .pinned], laidTests := true, laidLooks := .later }
def MapsEnoughCardSaid : Prop := Claim7.holds Tryz.pinned (.plain (OpenSpec.ofChange mapsEnoughSpec)) mapsEnoughCard

/-- THE TIED CARD OF 'coffeehouselaw3.MapsWanting'. -/
def mapsWantingCard : Claim7 := { stood := { row := mapsWantingRow, standIns := [], harness := (true, "2f6801f5f4cc6968496851d05a503c3a559b2eeca6fb4bd0841d6a67bfb8e09c"), looks := true }, kinds := [], alts := [], laidByText := true, laidKinds := [.data, .data, .pinned], laidTests := true, laidLooks := .later }
def MapsWantingCardSaid : Prop := Claim7.holds Tryz.pinned (.plain (OpenSpec.ofChange mapsWantingSpec)) mapsWantingCard

/-- THE SECOND FORM's CARD OF 'coffeehouselaw3.FrameSteps'. -/
def frameStepsUptoCard : Claim7 := { stood := { row := frameStepsUptoRow, standIns := [], harness := (true, "2f6801f5f4cc6968496851d05a503c3a559b2eeca6fb4bd0841d6a67bfb8e09c"), looks := true }, kinds := [], alts := [], laidByText := true, laidKinds := [.data, .data, .pinned], laidTests := true, laidLooks := .later }
def FrameStepsUptoCardSaid : Prop := Claim7.holds Tryz.pinned (.plain (OpenSpec.upto frameStepsSpec)) frameStepsUptoCard

/-- THE SECOND FORM's CARD OF 'coffeehouselaw3.CheckTells'. -/
def checkTellsUptoCard : Claim7 := { stood := { row := checkTellsUptoRow, standIns := [], harness := (true, "2f6801f5f4cc6968496851d05a503c3a559b2eeca6fb4bd0841d6a67bfb8e09c"), looks := true }, kinds := [], alts := [], laidByText := true, laidKinds := [.data, .data, .pinned], laidTests := true, laidLooks := .later }
def CheckTellsUptoCardSaid : Prop := Claim7.holds Tryz.pinned (.plain (OpenSpec.upto checkTellsSpec)) checkTellsUptoCard

/-- THE SECOND FORM's CARD OF 'coffeehouselaw3.CheckLeast'. -/
def checkLeastUptoCard : Claim7 := { stood := { row := checkLeastUptoRow, standIns := [], harness := (true, "2f6801f5f4cc6968496851d05a503c3a559b2eeca6fb4bd0841d6a67bfb8e09c"), looks := true }, kinds := [], alts := [], laidByText := true, laidKinds := [.data, .data, .pinned], laidTests := true, laidLooks := .later }
def CheckLeastUptoCardSaid : Prop := Claim7.holds Tryz.pinned (.plain (OpenSpec.upto checkLeastSpec)) checkLeastUptoCard

/-- THE SECOND FORM's CARD OF 'coffeehouselaw3.MapsSound'. -/
def mapsSoundUptoCard : Claim7 := { stood := { row := mapsSoundUptoRow, standIns := [], harness := (true, "2f6801f5f4cc6968496851d05a503c3a559b2eeca6fb4bd0841d6a67bfb8e09c"), looks := true }, kinds := [], alts := [], laidByText := true, laidKinds := [.data, .data, .pinned], laidTests := true, laidLooks := .later }
def MapsSoundUptoCardSaid : Prop := Claim7.holds Tryz.pinned (.plain (OpenSpec.upto mapsSoundSpec)) mapsSoundUptoCard

/-- THE SECOND FORM's CARD OF 'coffeehouselaw3.MapsNeeds'. -/
def mapsNeedsUptoCard : Claim7 := { stood := { row := mapsNeedsUptoRow, standIns := [], harness := (true, "2f6801f5f4cc6968496851d05a503c3a559b2eeca6fb4bd0841d6a67bfb8e09c"), looks := true }, kinds := [], alts := [], laidByText := true, laidKinds := [.data, .data, .pinned], laidTests := true, laidLooks := .later }
def MapsNeedsUptoCardSaid : Prop := Claim7.holds Tryz.pinned (.plain (OpenSpec.upto mapsNeedsSpec)) mapsNeedsUptoCard

/-- THE SECOND FORM's CARD OF 'coffeehouselaw3.MapsEnough'. -/
def mapsEnoughUptoCard : Claim7 := { stood := { row := mapsEnoughUptoRow, standIns := [], harness := (true, "2f6801f5f4cc6968496851d05a503c3a559b2eeca6fb4bd0841d6a67bfb8e09c"), looks := true }, kinds := [], alts := [], laidByText := true, laidKinds := [.data, .data, .pinned], laidTests := true, laidLooks := .later }
def MapsEnoughUptoCardSaid : Prop := Claim7.holds Tryz.pinned (.plain (OpenSpec.upto mapsEnoughSpec)) mapsEnoughUptoCard

/-- THE SECOND FORM's CARD OF 'coffeehouselaw3.MapsWanting'. -/
def mapsWantingUptoCard : Claim7 := { stood := { row := mapsWantingUptoRow, standIns := [], harness := (true, "2f6801f5f4cc6968496851d05a503c3a559b2eeca6fb4bd0841d6a67bfb8e09c"), looks := true }, kinds := [], alts := [], laidByText := true, laidKinds := [.data, .data, .pinned], laidTests := true, laidLooks := .later }
def MapsWantingUptoCardSaid : Prop := Claim7.holds Tryz.pinned (.plain (OpenSpec.upto mapsWantingSpec)) mapsWantingUptoCard
end Rows
end Go.Proofs.YtlmfmioljeppfaaGreatDoor
