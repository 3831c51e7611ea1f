/-
  DERIVED. GIVEN WITH THE SEED: THE CARDS: each row of YtmclocdhcblbiaaGreatDoorRows.lean that lists a variable, with what it lists TIED to the program's text (the seventh form; the later family's looks); each row that meets fmt, with fmt's text TOLD by the authors' own Lean function (tested against real Go, not proved from fmt's source: count such statements apart). THE CARD IS WHAT COUNTS. Prove the row's statement (the work); the ties are given (YtmclocdhcblbiaaGreatDoorTie.lean); close each card by the builder's one call (the guide's Derived/Test/ToyasCard.lean, 'card_holds'). Laid BY PROGRAM, IN A SANDBOX (cutbox-door.mjs). By AI agents, Wed Nov 11 2026. No macro, syntax, notation, axiom, sorry.
-/
import Derived.Test.YtmclocdhcblbiaaGreatDoorRows
import GoSem.ClaimSeven
namespace Go.Proofs.YtmclocdhcblbiaaGreatDoor
namespace Rows

/-- THE TIED CARD OF 'coffeehousetop.TopPicks'. -/
def topPicksCard : Claim7 := { stood := { row := topPicksRow, standIns := [], harness := (true, "1320c46794bdcabb1dde2e365dfa62c1eefc701af3e652fc48c106ad8afea95e"), looks := true }, kinds := [], alts := [], laidByText := true, laidKinds := [.data, .data, .pinned], laidTests := true, laidLooks := .later }
def TopPicksCardSaid : Prop := Claim7.holds Tryz.pinned (.plain (OpenSpec.ofChange topPicksSpec)) topPicksCard

/-- THE TIED CARD OF 'coffeehouselaw3.RunFuel'. -/
def runFuelCard : Claim7 := { stood := { row := runFuelRow, standIns := [], harness := (true, "1320c46794bdcabb1dde2e365dfa62c1eefc701af3e652fc48c106ad8afea95e"), looks := true }, kinds := [], alts := [], laidByText := true, laidKinds := [.data, .data, .pinned], laidTests := true, laidLooks := .later }
def RunFuelCardSaid : Prop := Claim7.holds Tryz.pinned (.plain (OpenSpec.ofChange runFuelSpec)) runFuelCard

/-- THE TIED CARD OF 'coffeehouselaw3.RunNops'. -/
def runNopsCard : Claim7 := { stood := { row := runNopsRow, standIns := [], harness := (true, "1320c46794bdcabb1dde2e365dfa62c1eefc701af3e652fc48c106ad8afea95e"), looks := true }, kinds := [], alts := [], laidByText := true, laidKinds := [.data, .data, .pinned], laidTests := true, laidLooks := .later }
def RunNopsCardSaid : Prop := Claim7.holds Tryz.pinned (.plain (OpenSpec.ofChange runNopsSpec)) runNopsCard

/-- THE TIED CARD OF 'coffeehouselaw3.RunSound'. -/
def runSoundCard : Claim7 := { stood := { row := runSoundRow, standIns := [], harness := (true, "1320c46794bdcabb1dde2e365dfa62c1eefc701af3e652fc48c106ad8afea95e"), looks := true }, kinds := [], alts := [], laidByText := true, laidKinds := [.data, .data, .pinned], laidTests := true, laidLooks := .later }
def RunSoundCardSaid : Prop := Claim7.holds Tryz.pinned (.plain (OpenSpec.ofChange runSoundSpec)) runSoundCard

/-- THE SECOND FORM's CARD OF 'coffeehousetop.TopPicks'. -/
def topPicksUptoCard : Claim7 := { stood := { row := topPicksUptoRow, standIns := [], harness := (true, "1320c46794bdcabb1dde2e365dfa62c1eefc701af3e652fc48c106ad8afea95e"), looks := true }, kinds := [], alts := [], laidByText := true, laidKinds := [.data, .data, .pinned], laidTests := true, laidLooks := .later }
def TopPicksUptoCardSaid : Prop := Claim7.holds Tryz.pinned (.plain (OpenSpec.upto topPicksSpec)) topPicksUptoCard

/-- THE SECOND FORM's CARD OF 'coffeehouselaw3.RunFuel'. -/
def runFuelUptoCard : Claim7 := { stood := { row := runFuelUptoRow, standIns := [], harness := (true, "1320c46794bdcabb1dde2e365dfa62c1eefc701af3e652fc48c106ad8afea95e"), looks := true }, kinds := [], alts := [], laidByText := true, laidKinds := [.data, .data, .pinned], laidTests := true, laidLooks := .later }
def RunFuelUptoCardSaid : Prop := Claim7.holds Tryz.pinned (.plain (OpenSpec.upto runFuelSpec)) runFuelUptoCard

/-- THE SECOND FORM's CARD OF 'coffeehouselaw3.RunNops'. -/
def runNopsUptoCard : Claim7 := { stood := { row := runNopsUptoRow, standIns := [], harness := (true, "1320c46794bdcabb1dde2e365dfa62c1eefc701af3e652fc48c106ad8afea95e"), looks := true }, kinds := [], alts := [], laidByText := true, laidKinds := [.data, .data, .pinned], laidTests := true, laidLooks := .later }
def RunNopsUptoCardSaid : Prop := Claim7.holds Tryz.pinned (.plain (OpenSpec.upto runNopsSpec)) runNopsUptoCard

/-- THE SECOND FORM's CARD OF 'coffeehouselaw3.RunSound'. -/
def runSoundUptoCard : Claim7 := { stood := { row := runSoundUptoRow, standIns := [], harness := (true, "1320c46794bdcabb1dde2e365dfa62c1eefc701af3e652fc48c106ad8afea95e"), looks := true }, kinds := [], alts := [], laidByText := true, laidKinds := [.data, .data, .pinned], laidTests := true, laidLooks := .later }
def RunSoundUptoCardSaid : Prop := Claim7.holds Tryz.pinned (.plain (OpenSpec.upto runSoundSpec)) runSoundUptoCard
end Rows
end Go.Proofs.YtmclocdhcblbiaaGreatDoor
