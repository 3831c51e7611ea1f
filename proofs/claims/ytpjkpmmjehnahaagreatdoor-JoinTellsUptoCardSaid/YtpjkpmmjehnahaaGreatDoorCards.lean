/-
  DERIVED. GIVEN WITH THE SEED: THE CARDS: each row of YtpjkpmmjehnahaaGreatDoorRows.lean that lists a variable, with what it lists TIED to the program's text (the seventh form; the later family's looks); each row that meets fmt, with fmt's text TOLD by the authors' own Lean function (tested against real Go, not proved from fmt's source: count such statements apart). THE CARD IS WHAT COUNTS. Prove the row's statement (the work); the ties are given (YtpjkpmmjehnahaaGreatDoorTie.lean); close each card by the builder's one call (the guide's Derived/Test/ToyasCard.lean, 'card_holds'). Laid BY PROGRAM, IN A SANDBOX (cutbox-door.mjs). By AI agents, Wed Nov 11 2026. No macro, syntax, notation, axiom, sorry.
-/
import Derived.Test.YtpjkpmmjehnahaaGreatDoorRows
import GoSem.ClaimSeven
namespace Go.Proofs.YtpjkpmmjehnahaaGreatDoor
namespace Rows

/-- THE TIED CARD OF 'coffeehouselaw2.RightTells'. -/
def rightTellsCard : Claim7 := { stood := { row := rightTellsRow, standIns := [], harness := (true, "c0c4fd2fe587df6a8343a2d01a62dccc571e8f7ece1885a3f1ea7b02e1aad54e"), looks := true }, kinds := [], alts := [], laidByText := true, laidKinds := [.data, .data, .pinned], laidTests := true, laidLooks := .later }
def RightTellsCardSaid : Prop := Claim7.holds Tryz.pinned (.plain (OpenSpec.ofChange rightTellsSpec)) rightTellsCard

/-- THE TIED CARD OF 'coffeehouselaw2.VtabPrefix'. -/
def vtabPrefixCard : Claim7 := { stood := { row := vtabPrefixRow, standIns := [], harness := (true, "c0c4fd2fe587df6a8343a2d01a62dccc571e8f7ece1885a3f1ea7b02e1aad54e"), looks := true }, kinds := [], alts := [], laidByText := true, laidKinds := [.data, .data, .pinned], laidTests := true, laidLooks := .later }
def VtabPrefixCardSaid : Prop := Claim7.holds Tryz.pinned (.plain (OpenSpec.ofChange vtabPrefixSpec)) vtabPrefixCard

/-- THE TIED CARD OF 'coffeehouselaw2.FindTells'. -/
def findTellsCard : Claim7 := { stood := { row := findTellsRow, standIns := [], harness := (true, "c0c4fd2fe587df6a8343a2d01a62dccc571e8f7ece1885a3f1ea7b02e1aad54e"), looks := true }, kinds := [], alts := [], laidByText := true, laidKinds := [.data, .data, .pinned], laidTests := true, laidLooks := .later }
def FindTellsCardSaid : Prop := Claim7.holds Tryz.pinned (.plain (OpenSpec.ofChange findTellsSpec)) findTellsCard

/-- THE TIED CARD OF 'coffeehouselaw2.LayTells'. -/
def layTellsCard : Claim7 := { stood := { row := layTellsRow, standIns := [], harness := (true, "c0c4fd2fe587df6a8343a2d01a62dccc571e8f7ece1885a3f1ea7b02e1aad54e"), looks := true }, kinds := [], alts := [], laidByText := true, laidKinds := [.data, .data, .pinned], laidTests := true, laidLooks := .later }
def LayTellsCardSaid : Prop := Claim7.holds Tryz.pinned (.plain (OpenSpec.ofChange layTellsSpec)) layTellsCard

/-- THE TIED CARD OF 'coffeehouselaw2.SubTells'. -/
def subTellsCard : Claim7 := { stood := { row := subTellsRow, standIns := [], harness := (true, "c0c4fd2fe587df6a8343a2d01a62dccc571e8f7ece1885a3f1ea7b02e1aad54e"), looks := true }, kinds := [], alts := [], laidByText := true, laidKinds := [.data, .data, .pinned], laidTests := true, laidLooks := .later }
def SubTellsCardSaid : Prop := Claim7.holds Tryz.pinned (.plain (OpenSpec.ofChange subTellsSpec)) subTellsCard

/-- THE TIED CARD OF 'coffeehouselaw2.SubOrder'. -/
def subOrderCard : Claim7 := { stood := { row := subOrderRow, standIns := [], harness := (true, "c0c4fd2fe587df6a8343a2d01a62dccc571e8f7ece1885a3f1ea7b02e1aad54e"), looks := true }, kinds := [], alts := [], laidByText := true, laidKinds := [.data, .data, .pinned], laidTests := true, laidLooks := .later }
def SubOrderCardSaid : Prop := Claim7.holds Tryz.pinned (.plain (OpenSpec.ofChange subOrderSpec)) subOrderCard

/-- THE TIED CARD OF 'coffeehouselaw2.JoinLattice'. -/
def joinLatticeCard : Claim7 := { stood := { row := joinLatticeRow, standIns := [], harness := (true, "c0c4fd2fe587df6a8343a2d01a62dccc571e8f7ece1885a3f1ea7b02e1aad54e"), looks := true }, kinds := [], alts := [], laidByText := true, laidKinds := [.data, .data, .pinned], laidTests := true, laidLooks := .later }
def JoinLatticeCardSaid : Prop := Claim7.holds Tryz.pinned (.plain (OpenSpec.ofChange joinLatticeSpec)) joinLatticeCard

/-- THE TIED CARD OF 'coffeehouselaw2.JoinTells'. -/
def joinTellsCard : Claim7 := { stood := { row := joinTellsRow, standIns := [], harness := (true, "c0c4fd2fe587df6a8343a2d01a62dccc571e8f7ece1885a3f1ea7b02e1aad54e"), looks := true }, kinds := [], alts := [], laidByText := true, laidKinds := [.data, .data, .pinned], laidTests := true, laidLooks := .later }
def JoinTellsCardSaid : Prop := Claim7.holds Tryz.pinned (.plain (OpenSpec.ofChange joinTellsSpec)) joinTellsCard

/-- THE TIED CARD OF 'coffeehouselaw2.VtabTells'. -/
def vtabTellsCard : Claim7 := { stood := { row := vtabTellsRow, standIns := [], harness := (true, "c0c4fd2fe587df6a8343a2d01a62dccc571e8f7ece1885a3f1ea7b02e1aad54e"), looks := true }, kinds := [], alts := [], laidByText := true, laidKinds := [.data, .data, .pinned], laidTests := true, laidLooks := .later }
def VtabTellsCardSaid : Prop := Claim7.holds Tryz.pinned (.plain (OpenSpec.ofChange vtabTellsSpec)) vtabTellsCard

/-- THE TIED CARD OF 'coffeehouselaw2.JoinAbove'. -/
def joinAboveCard : Claim7 := { stood := { row := joinAboveRow, standIns := [], harness := (true, "c0c4fd2fe587df6a8343a2d01a62dccc571e8f7ece1885a3f1ea7b02e1aad54e"), looks := true }, kinds := [], alts := [], laidByText := true, laidKinds := [.data, .data, .pinned], laidTests := true, laidLooks := .later }
def JoinAboveCardSaid : Prop := Claim7.holds Tryz.pinned (.plain (OpenSpec.ofChange joinAboveSpec)) joinAboveCard

/-- THE SECOND FORM's CARD OF 'coffeehouselaw2.RightTells'. -/
def rightTellsUptoCard : Claim7 := { stood := { row := rightTellsUptoRow, standIns := [], harness := (true, "c0c4fd2fe587df6a8343a2d01a62dccc571e8f7ece1885a3f1ea7b02e1aad54e"), looks := true }, kinds := [], alts := [], laidByText := true, laidKinds := [.data, .data, .pinned], laidTests := true, laidLooks := .later }
def RightTellsUptoCardSaid : Prop := Claim7.holds Tryz.pinned (.plain (OpenSpec.upto rightTellsSpec)) rightTellsUptoCard

/-- THE SECOND FORM's CARD OF 'coffeehouselaw2.VtabPrefix'. -/
def vtabPrefixUptoCard : Claim7 := { stood := { row := vtabPrefixUptoRow, standIns := [], harness := (true, "c0c4fd2fe587df6a8343a2d01a62dccc571e8f7ece1885a3f1ea7b02e1aad54e"), looks := true }, kinds := [], alts := [], laidByText := true, laidKinds := [.data, .data, .pinned], laidTests := true, laidLooks := .later }
def VtabPrefixUptoCardSaid : Prop := Claim7.holds Tryz.pinned (.plain (OpenSpec.upto vtabPrefixSpec)) vtabPrefixUptoCard

/-- THE SECOND FORM's CARD OF 'coffeehouselaw2.FindTells'. -/
def findTellsUptoCard : Claim7 := { stood := { row := findTellsUptoRow, standIns := [], harness := (true, "c0c4fd2fe587df6a8343a2d01a62dccc571e8f7ece1885a3f1ea7b02e1aad54e"), looks := true }, kinds := [], alts := [], laidByText := true, laidKinds := [.data, .data, .pinned], laidTests := true, laidLooks := .later }
def FindTellsUptoCardSaid : Prop := Claim7.holds Tryz.pinned (.plain (OpenSpec.upto findTellsSpec)) findTellsUptoCard

/-- THE SECOND FORM's CARD OF 'coffeehouselaw2.LayTells'. -/
def layTellsUptoCard : Claim7 := { stood := { row := layTellsUptoRow, standIns := [], harness := (true, "c0c4fd2fe587df6a8343a2d01a62dccc571e8f7ece1885a3f1ea7b02e1aad54e"), looks := true }, kinds := [], alts := [], laidByText := true, laidKinds := [.data, .data, .pinned], laidTests := true, laidLooks := .later }
def LayTellsUptoCardSaid : Prop := Claim7.holds Tryz.pinned (.plain (OpenSpec.upto layTellsSpec)) layTellsUptoCard

/-- THE SECOND FORM's CARD OF 'coffeehouselaw2.SubTells'. -/
def subTellsUptoCard : Claim7 := { stood := { row := subTellsUptoRow, standIns := [], harness := (true, "c0c4fd2fe587df6a8343a2d01a62dccc571e8f7ece1885a3f1ea7b02e1aad54e"), looks := true }, kinds := [], alts := [], laidByText := true, laidKinds := [.data, .data, .pinned], laidTests := true, laidLooks := .later }
def SubTellsUptoCardSaid : Prop := Claim7.holds Tryz.pinned (.plain (OpenSpec.upto subTellsSpec)) subTellsUptoCard

/-- THE SECOND FORM's CARD OF 'coffeehouselaw2.SubOrder'. -/
def subOrderUptoCard : Claim7 := { stood := { row := subOrderUptoRow, standIns := [], harness := (true, "c0c4fd2fe587df6a8343a2d01a62dccc571e8f7ece1885a3f1ea7b02e1aad54e"), looks := true }, kinds := [], alts := [], laidByText := true, laidKinds := [.data, .data, .pinned], laidTests := true, laidLooks := .later }
def SubOrderUptoCardSaid : Prop := Claim7.holds Tryz.pinned (.plain (OpenSpec.upto subOrderSpec)) subOrderUptoCard

/-- THE SECOND FORM's CARD OF 'coffeehouselaw2.JoinLattice'. -/
def joinLatticeUptoCard : Claim7 := { stood := { row := joinLatticeUptoRow, standIns := [], harness := (true, "c0c4fd2fe587df6a8343a2d01a62dccc571e8f7ece1885a3f1ea7b02e1aad54e"), looks := true }, kinds := [], alts := [], laidByText := true, laidKinds := [.data, .data, .pinned], laidTests := true, laidLooks := .later }
def JoinLatticeUptoCardSaid : Prop := Claim7.holds Tryz.pinned (.plain (OpenSpec.upto joinLatticeSpec)) joinLatticeUptoCard

/-- THE SECOND FORM's CARD OF 'coffeehouselaw2.JoinTells'. -/
def joinTellsUptoCard : Claim7 := { stood := { row := joinTellsUptoRow, standIns := [], harness := (true, "c0c4fd2fe587df6a8343a2d01a62dccc571e8f7ece1885a3f1ea7b02e1aad54e"), looks := true }, kinds := [], alts := [], laidByText := true, laidKinds := [.data, .data, .pinned], laidTests := true, laidLooks := .later }
def JoinTellsUptoCardSaid : Prop := Claim7.holds Tryz.pinned (.plain (OpenSpec.upto joinTellsSpec)) joinTellsUptoCard

/-- THE SECOND FORM's CARD OF 'coffeehouselaw2.VtabTells'. -/
def vtabTellsUptoCard : Claim7 := { stood := { row := vtabTellsUptoRow, standIns := [], harness := (true, "c0c4fd2fe587df6a8343a2d01a62dccc571e8f7ece1885a3f1ea7b02e1aad54e"), looks := true }, kinds := [], alts := [], laidByText := true, laidKinds := [.data, .data, .pinned], laidTests := true, laidLooks := .later }
def VtabTellsUptoCardSaid : Prop := Claim7.holds Tryz.pinned (.plain (OpenSpec.upto vtabTellsSpec)) vtabTellsUptoCard

/-- THE SECOND FORM's CARD OF 'coffeehouselaw2.JoinAbove'. -/
def joinAboveUptoCard : Claim7 := { stood := { row := joinAboveUptoRow, standIns := [], harness := (true, "c0c4fd2fe587df6a8343a2d01a62dccc571e8f7ece1885a3f1ea7b02e1aad54e"), looks := true }, kinds := [], alts := [], laidByText := true, laidKinds := [.data, .data, .pinned], laidTests := true, laidLooks := .later }
def JoinAboveUptoCardSaid : Prop := Claim7.holds Tryz.pinned (.plain (OpenSpec.upto joinAboveSpec)) joinAboveUptoCard
end Rows
end Go.Proofs.YtpjkpmmjehnahaaGreatDoor
