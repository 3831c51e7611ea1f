/-
  DERIVED. GIVEN WITH THE SEED: THE CARDS: each row of YtbakcdgjibmceaaGreatDoorRows.lean that lists a variable, with what it lists TIED to the program's text (the seventh form; the later family's looks); each row that meets fmt, with fmt's text TOLD by the authors' own Lean function (tested against real Go, not proved from fmt's source: count such statements apart). THE CARD IS WHAT COUNTS. Prove the row's statement (the work); the ties are given (YtbakcdgjibmceaaGreatDoorTie.lean); close each card by the builder's one call (the guide's Derived/Test/ToyasCard.lean, 'card_holds'). Laid BY PROGRAM, IN A SANDBOX (cutbox-door.mjs). By AI agents, Wed Nov 11 2026. No macro, syntax, notation, axiom, sorry.
-/
import Derived.Test.YtbakcdgjibmceaaGreatDoorRows
import GoSem.ClaimSeven
namespace Go.Proofs.YtbakcdgjibmceaaGreatDoor
namespace Rows

/-- THE TIED CARD OF 'coffeehouselaw3.HeapAll'. -/
def heapAllCard : Claim7 := { stood := { row := heapAllRow, standIns := [], harness := (true, "9cde303659a4d98384d832133c541966b8664afe4acbab9c43e3328fac471407"), looks := true }, kinds := [], alts := [], laidByText := true, laidKinds := [.data, .data, .pinned], laidTests := true, laidLooks := .later }
def HeapAllCardSaid : Prop := Claim7.holds Tryz.pinned (.plain (OpenSpec.ofChange heapAllSpec)) heapAllCard

/-- THE TIED CARD OF 'coffeehouselaw3.HeapTells'. -/
def heapTellsCard : Claim7 := { stood := { row := heapTellsRow, standIns := [], harness := (true, "9cde303659a4d98384d832133c541966b8664afe4acbab9c43e3328fac471407"), looks := true }, kinds := [], alts := [], laidByText := true, laidKinds := [.data, .data, .pinned], laidTests := true, laidLooks := .later }
def HeapTellsCardSaid : Prop := Claim7.holds Tryz.pinned (.plain (OpenSpec.ofChange heapTellsSpec)) heapTellsCard

/-- THE TIED CARD OF 'coffeehouselaw3.HeapMakes'. -/
def heapMakesCard : Claim7 := { stood := { row := heapMakesRow, standIns := [], harness := (true, "9cde303659a4d98384d832133c541966b8664afe4acbab9c43e3328fac471407"), looks := true }, kinds := [], alts := [], laidByText := true, laidKinds := [.data, .data, .pinned], laidTests := true, laidLooks := .later }
def HeapMakesCardSaid : Prop := Claim7.holds Tryz.pinned (.plain (OpenSpec.ofChange heapMakesSpec)) heapMakesCard

/-- THE TIED CARD OF 'coffeehouselaw3.FrameSteps'. -/
def frameStepsCard : Claim7 := { stood := { row := frameStepsRow, standIns := [], harness := (true, "9cde303659a4d98384d832133c541966b8664afe4acbab9c43e3328fac471407"), looks := true }, kinds := [], alts := [], laidByText := true, laidKinds := [.data, .data, .pinned], laidTests := true, laidLooks := .later }
def FrameStepsCardSaid : Prop := Claim7.holds Tryz.pinned (.plain (OpenSpec.ofChange frameStepsSpec)) frameStepsCard

/-- THE TIED CARD OF 'coffeehouselaw3.FrameDeeper'. -/
def frameDeeperCard : Claim7 := { stood := { row := frameDeeperRow, standIns := [], harness := (true, "9cde303659a4d98384d832133c541966b8664afe4acbab9c43e3328fac471407"), looks := true }, kinds := [], alts := [], laidByText := true, laidKinds := [.data, .data, .pinned], laidTests := true, laidLooks := .later }
def FrameDeeperCardSaid : Prop := Claim7.holds Tryz.pinned (.plain (OpenSpec.ofChange frameDeeperSpec)) frameDeeperCard

/-- THE TIED CARD OF 'coffeehouselaw3.FrameGrows'. -/
def frameGrowsCard : Claim7 := { stood := { row := frameGrowsRow, standIns := [], harness := (true, "9cde303659a4d98384d832133c541966b8664afe4acbab9c43e3328fac471407"), looks := true }, kinds := [], alts := [], laidByText := true, laidKinds := [.data, .data, .pinned], laidTests := true, laidLooks := .later }
def FrameGrowsCardSaid : Prop := Claim7.holds Tryz.pinned (.plain (OpenSpec.ofChange frameGrowsSpec)) frameGrowsCard

/-- THE TIED CARD OF 'coffeehouselaw3.FrameTells'. -/
def frameTellsCard : Claim7 := { stood := { row := frameTellsRow, standIns := [], harness := (true, "9cde303659a4d98384d832133c541966b8664afe4acbab9c43e3328fac471407"), looks := true }, kinds := [], alts := [], laidByText := true, laidKinds := [.data, .data, .pinned], laidTests := true, laidLooks := .later }
def FrameTellsCardSaid : Prop := Claim7.holds Tryz.pinned (.plain (OpenSpec.ofChange frameTellsSpec)) frameTellsCard

/-- THE SECOND FORM's CARD OF 'coffeehouselaw3.HeapAll'. -/
def heapAllUptoCard : Claim7 := { stood := { row := heapAllUptoRow, standIns := [], harness := (true, "9cde303659a4d98384d832133c541966b8664afe4acbab9c43e3328fac471407"), looks := true }, kinds := [], alts := [], laidByText := true, laidKinds := [.data, .data, .pinned], laidTests := true, laidLooks := .later }
def HeapAllUptoCardSaid : Prop := Claim7.holds Tryz.pinned (.plain (OpenSpec.upto heapAllSpec)) heapAllUptoCard

/-- THE SECOND FORM's CARD OF 'coffeehouselaw3.HeapTells'. -/
def heapTellsUptoCard : Claim7 := { stood := { row := heapTellsUptoRow, standIns := [], harness := (true, "9cde303659a4d98384d832133c541966b8664afe4acbab9c43e3328fac471407"), looks := true }, kinds := [], alts := [], laidByText := true, laidKinds := [.data, .data, .pinned], laidTests := true, laidLooks := .later }
def HeapTellsUptoCardSaid : Prop := Claim7.holds Tryz.pinned (.plain (OpenSpec.upto heapTellsSpec)) heapTellsUptoCard

/-- THE SECOND FORM's CARD OF 'coffeehouselaw3.HeapMakes'. -/
def heapMakesUptoCard : Claim7 := { stood := { row := heapMakesUptoRow, standIns := [], harness := (true, "9cde303659a4d98384d832133c541966b8664afe4acbab9c43e3328fac471407"), looks := true }, kinds := [], alts := [], laidByText := true, laidKinds := [.data, .data, .pinned], laidTests := true, laidLooks := .later }
def HeapMakesUptoCardSaid : Prop := Claim7.holds Tryz.pinned (.plain (OpenSpec.upto heapMakesSpec)) heapMakesUptoCard

/-- THE SECOND FORM's CARD OF 'coffeehouselaw3.FrameSteps'. -/
def frameStepsUptoCard : Claim7 := { stood := { row := frameStepsUptoRow, standIns := [], harness := (true, "9cde303659a4d98384d832133c541966b8664afe4acbab9c43e3328fac471407"), looks := true }, kinds := [], alts := [], laidByText := true, laidKinds := [.data, .data, .pinned], laidTests := true, laidLooks := .later }
def FrameStepsUptoCardSaid : Prop := Claim7.holds Tryz.pinned (.plain (OpenSpec.upto frameStepsSpec)) frameStepsUptoCard

/-- THE SECOND FORM's CARD OF 'coffeehouselaw3.FrameDeeper'. -/
def frameDeeperUptoCard : Claim7 := { stood := { row := frameDeeperUptoRow, standIns := [], harness := (true, "9cde303659a4d98384d832133c541966b8664afe4acbab9c43e3328fac471407"), looks := true }, kinds := [], alts := [], laidByText := true, laidKinds := [.data, .data, .pinned], laidTests := true, laidLooks := .later }
def FrameDeeperUptoCardSaid : Prop := Claim7.holds Tryz.pinned (.plain (OpenSpec.upto frameDeeperSpec)) frameDeeperUptoCard

/-- THE SECOND FORM's CARD OF 'coffeehouselaw3.FrameGrows'. -/
def frameGrowsUptoCard : Claim7 := { stood := { row := frameGrowsUptoRow, standIns := [], harness := (true, "9cde303659a4d98384d832133c541966b8664afe4acbab9c43e3328fac471407"), looks := true }, kinds := [], alts := [], laidByText := true, laidKinds := [.data, .data, .pinned], laidTests := true, laidLooks := .later }
def FrameGrowsUptoCardSaid : Prop := Claim7.holds Tryz.pinned (.plain (OpenSpec.upto frameGrowsSpec)) frameGrowsUptoCard

/-- THE SECOND FORM's CARD OF 'coffeehouselaw3.FrameTells'. -/
def frameTellsUptoCard : Claim7 := { stood := { row := frameTellsUptoRow, standIns := [], harness := (true, "9cde303659a4d98384d832133c541966b8664afe4acbab9c43e3328fac471407"), looks := true }, kinds := [], alts := [], laidByText := true, laidKinds := [.data, .data, .pinned], laidTests := true, laidLooks := .later }
def FrameTellsUptoCardSaid : Prop := Claim7.holds Tryz.pinned (.plain (OpenSpec.upto frameTellsSpec)) frameTellsUptoCard
end Rows
end Go.Proofs.YtbakcdgjibmceaaGreatDoor
