/-
  DERIVED. GIVEN WITH THE SEED: THE CARDS: each row of YtehhmedjgmbpgaaGreatDoorRows.lean that lists a variable, with what it lists TIED to the program's text (the seventh form; the later family's looks); each row that meets fmt, with fmt's text TOLD by the authors' own Lean function (tested against real Go, not proved from fmt's source: count such statements apart). THE CARD IS WHAT COUNTS. Prove the row's statement (the work); the ties are given (YtehhmedjgmbpgaaGreatDoorTie.lean); close each card by the builder's one call (the guide's Derived/Test/ToyasCard.lean, 'card_holds'). Laid BY PROGRAM, IN A SANDBOX (cutbox-door.mjs). By AI agents, Wed Nov 11 2026. No macro, syntax, notation, axiom, sorry.
-/
import Derived.Test.YtehhmedjgmbpgaaGreatDoorRows
import GoSem.ClaimSeven
namespace Go.Proofs.YtehhmedjgmbpgaaGreatDoor
namespace Rows

/-- THE TIED CARD OF 'coffeehouselaw2.VtabPrefix'. -/
def vtabPrefixCard : Claim7 := { stood := { row := vtabPrefixRow, standIns := [], harness := (true, "88f2a131a3e1ccf3eea19fa3554ae95c84200085612034faec2daaf278b41236"), looks := true }, kinds := [], alts := [], laidByText := true, laidKinds := [.data, .data, .pinned], laidTests := true, laidLooks := .later }
def VtabPrefixCardSaid : Prop := Claim7.holds Tryz.pinned (.plain (OpenSpec.ofChange vtabPrefixSpec)) vtabPrefixCard

/-- THE TIED CARD OF 'coffeehouselaw2.VtabTells'. -/
def vtabTellsCard : Claim7 := { stood := { row := vtabTellsRow, standIns := [], harness := (true, "88f2a131a3e1ccf3eea19fa3554ae95c84200085612034faec2daaf278b41236"), looks := true }, kinds := [], alts := [], laidByText := true, laidKinds := [.data, .data, .pinned], laidTests := true, laidLooks := .later }
def VtabTellsCardSaid : Prop := Claim7.holds Tryz.pinned (.plain (OpenSpec.ofChange vtabTellsSpec)) vtabTellsCard

/-- THE TIED CARD OF 'coffeehouselaw3.HeapAll'. -/
def heapAllCard : Claim7 := { stood := { row := heapAllRow, standIns := [], harness := (true, "88f2a131a3e1ccf3eea19fa3554ae95c84200085612034faec2daaf278b41236"), looks := true }, kinds := [], alts := [], laidByText := true, laidKinds := [.data, .data, .pinned], laidTests := true, laidLooks := .later }
def HeapAllCardSaid : Prop := Claim7.holds Tryz.pinned (.plain (OpenSpec.ofChange heapAllSpec)) heapAllCard

/-- THE TIED CARD OF 'coffeehouselaw3.HeapTells'. -/
def heapTellsCard : Claim7 := { stood := { row := heapTellsRow, standIns := [], harness := (true, "88f2a131a3e1ccf3eea19fa3554ae95c84200085612034faec2daaf278b41236"), looks := true }, kinds := [], alts := [], laidByText := true, laidKinds := [.data, .data, .pinned], laidTests := true, laidLooks := .later }
def HeapTellsCardSaid : Prop := Claim7.holds Tryz.pinned (.plain (OpenSpec.ofChange heapTellsSpec)) heapTellsCard

/-- THE TIED CARD OF 'coffeehouselaw3.HeapMakes'. -/
def heapMakesCard : Claim7 := { stood := { row := heapMakesRow, standIns := [], harness := (true, "88f2a131a3e1ccf3eea19fa3554ae95c84200085612034faec2daaf278b41236"), looks := true }, kinds := [], alts := [], laidByText := true, laidKinds := [.data, .data, .pinned], laidTests := true, laidLooks := .later }
def HeapMakesCardSaid : Prop := Claim7.holds Tryz.pinned (.plain (OpenSpec.ofChange heapMakesSpec)) heapMakesCard

/-- THE TIED CARD OF 'coffeehouselaw3.FrameSteps'. -/
def frameStepsCard : Claim7 := { stood := { row := frameStepsRow, standIns := [], harness := (true, "88f2a131a3e1ccf3eea19fa3554ae95c84200085612034faec2daaf278b41236"), looks := true }, kinds := [], alts := [], laidByText := true, laidKinds := [.data, .data, .pinned], laidTests := true, laidLooks := .later }
def FrameStepsCardSaid : Prop := Claim7.holds Tryz.pinned (.plain (OpenSpec.ofChange frameStepsSpec)) frameStepsCard

/-- THE TIED CARD OF 'coffeehouselaw3.FrameDeeper'. -/
def frameDeeperCard : Claim7 := { stood := { row := frameDeeperRow, standIns := [], harness := (true, "88f2a131a3e1ccf3eea19fa3554ae95c84200085612034faec2daaf278b41236"), looks := true }, kinds := [], alts := [], laidByText := true, laidKinds := [.data, .data, .pinned], laidTests := true, laidLooks := .later }
def FrameDeeperCardSaid : Prop := Claim7.holds Tryz.pinned (.plain (OpenSpec.ofChange frameDeeperSpec)) frameDeeperCard

/-- THE TIED CARD OF 'coffeehouselaw3.FrameGrows'. -/
def frameGrowsCard : Claim7 := { stood := { row := frameGrowsRow, standIns := [], harness := (true, "88f2a131a3e1ccf3eea19fa3554ae95c84200085612034faec2daaf278b41236"), looks := true }, kinds := [], alts := [], laidByText := true, laidKinds := [.data, .data, .pinned], laidTests := true, laidLooks := .later }
def FrameGrowsCardSaid : Prop := Claim7.holds Tryz.pinned (.plain (OpenSpec.ofChange frameGrowsSpec)) frameGrowsCard

/-- THE TIED CARD OF 'coffeehouselaw3.FrameTells'. -/
def frameTellsCard : Claim7 := { stood := { row := frameTellsRow, standIns := [], harness := (true, "88f2a131a3e1ccf3eea19fa3554ae95c84200085612034faec2daaf278b41236"), looks := true }, kinds := [], alts := [], laidByText := true, laidKinds := [.data, .data, .pinned], laidTests := true, laidLooks := .later }
def FrameTellsCardSaid : Prop := Claim7.holds Tryz.pinned (.plain (OpenSpec.ofChange frameTellsSpec)) frameTellsCard

/-- THE SECOND FORM's CARD OF 'coffeehouselaw2.VtabPrefix'. -/
def vtabPrefixUptoCard : Claim7 := { stood := { row := vtabPrefixUptoRow, standIns := [], harness := (true, "88f2a131a3e1ccf3eea19fa3554ae95c84200085612034faec2daaf278b41236"), looks := true }, kinds := [], alts := [], laidByText := true, laidKinds := [.data, .data, .pinned], laidTests := true, laidLooks := .later }
def VtabPrefixUptoCardSaid : Prop := Claim7.holds Tryz.pinned (.plain (OpenSpec.upto vtabPrefixSpec)) vtabPrefixUptoCard

/-- THE SECOND FORM's CARD OF 'coffeehouselaw2.VtabTells'. -/
def vtabTellsUptoCard : Claim7 := { stood := { row := vtabTellsUptoRow, standIns := [], harness := (true, "88f2a131a3e1ccf3eea19fa3554ae95c84200085612034faec2daaf278b41236"), looks := true }, kinds := [], alts := [], laidByText := true, laidKinds := [.data, .data, .pinned], laidTests := true, laidLooks := .later }
def VtabTellsUptoCardSaid : Prop := Claim7.holds Tryz.pinned (.plain (OpenSpec.upto vtabTellsSpec)) vtabTellsUptoCard

/-- THE SECOND FORM's CARD OF 'coffeehouselaw3.HeapAll'. -/
def heapAllUptoCard : Claim7 := { stood := { row := heapAllUptoRow, standIns := [], harness := (true, "88f2a131a3e1ccf3eea19fa3554ae95c84200085612034faec2daaf278b41236"), looks := true }, kinds := [], alts := [], laidByText := true, laidKinds := [.data, .data, .pinned], laidTests := true, laidLooks := .later }
def HeapAllUptoCardSaid : Prop := Claim7.holds Tryz.pinned (.plain (OpenSpec.upto heapAllSpec)) heapAllUptoCard

/-- THE SECOND FORM's CARD OF 'coffeehouselaw3.HeapTells'. -/
def heapTellsUptoCard : Claim7 := { stood := { row := heapTellsUptoRow, standIns := [], harness := (true, "88f2a131a3e1ccf3eea19fa3554ae95c84200085612034faec2daaf278b41236"), looks := true }, kinds := [], alts := [], laidByText := true, laidKinds := [.data, .data, .pinned], laidTests := true, laidLooks := .later }
def HeapTellsUptoCardSaid : Prop := Claim7.holds Tryz.pinned (.plain (OpenSpec.upto heapTellsSpec)) heapTellsUptoCard

/-- THE SECOND FORM's CARD OF 'coffeehouselaw3.HeapMakes'. -/
def heapMakesUptoCard : Claim7 := { stood := { row := heapMakesUptoRow, standIns := [], harness := (true, "88f2a131a3e1ccf3eea19fa3554ae95c84200085612034faec2daaf278b41236"), looks := true }, kinds := [], alts := [], laidByText := true, laidKinds := [.data, .data, .pinned], laidTests := true, laidLooks := .later }
def HeapMakesUptoCardSaid : Prop := Claim7.holds Tryz.pinned (.plain (OpenSpec.upto heapMakesSpec)) heapMakesUptoCard

/-- THE SECOND FORM's CARD OF 'coffeehouselaw3.FrameSteps'. -/
def frameStepsUptoCard : Claim7 := { stood := { row := frameStepsUptoRow, standIns := [], harness := (true, "88f2a131a3e1ccf3eea19fa3554ae95c84200085612034faec2daaf278b41236"), looks := true }, kinds := [], alts := [], laidByText := true, laidKinds := [.data, .data, .pinned], laidTests := true, laidLooks := .later }
def FrameStepsUptoCardSaid : Prop := Claim7.holds Tryz.pinned (.plain (OpenSpec.upto frameStepsSpec)) frameStepsUptoCard

/-- THE SECOND FORM's CARD OF 'coffeehouselaw3.FrameDeeper'. -/
def frameDeeperUptoCard : Claim7 := { stood := { row := frameDeeperUptoRow, standIns := [], harness := (true, "88f2a131a3e1ccf3eea19fa3554ae95c84200085612034faec2daaf278b41236"), looks := true }, kinds := [], alts := [], laidByText := true, laidKinds := [.data, .data, .pinned], laidTests := true, laidLooks := .later }
def FrameDeeperUptoCardSaid : Prop := Claim7.holds Tryz.pinned (.plain (OpenSpec.upto frameDeeperSpec)) frameDeeperUptoCard

/-- THE SECOND FORM's CARD OF 'coffeehouselaw3.FrameGrows'. -/
def frameGrowsUptoCard : Claim7 := { stood := { row := frameGrowsUptoRow, standIns := [], harness := (true, "88f2a131a3e1ccf3eea19fa3554ae95c84200085612034faec2daaf278b41236"), looks := true }, kinds := [], alts := [], laidByText := true, laidKinds := [.data, .data, .pinned], laidTests := true, laidLooks := .later }
def FrameGrowsUptoCardSaid : Prop := Claim7.holds Tryz.pinned (.plain (OpenSpec.upto frameGrowsSpec)) frameGrowsUptoCard

/-- THE SECOND FORM's CARD OF 'coffeehouselaw3.FrameTells'. -/
def frameTellsUptoCard : Claim7 := { stood := { row := frameTellsUptoRow, standIns := [], harness := (true, "88f2a131a3e1ccf3eea19fa3554ae95c84200085612034faec2daaf278b41236"), looks := true }, kinds := [], alts := [], laidByText := true, laidKinds := [.data, .data, .pinned], laidTests := true, laidLooks := .later }
def FrameTellsUptoCardSaid : Prop := Claim7.holds Tryz.pinned (.plain (OpenSpec.upto frameTellsSpec)) frameTellsUptoCard
end Rows
end Go.Proofs.YtehhmedjgmbpgaaGreatDoor
