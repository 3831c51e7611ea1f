/-
  DERIVED. GIVEN WITH THE SEED: THE CARDS: each row of YtinccnehfalfnaaGreatDoorRows.lean that lists a variable, with what it lists TIED to the program's text (the seventh form; the later family's looks); each row that meets fmt, with fmt's text TOLD by the authors' own Lean function (tested against real Go, not proved from fmt's source: count such statements apart). THE CARD IS WHAT COUNTS. Prove the row's statement (the work); the ties are given (YtinccnehfalfnaaGreatDoorTie.lean); close each card by the builder's one call (the guide's Derived/Test/ToyasCard.lean, 'card_holds'). Laid BY PROGRAM, IN A SANDBOX (cutbox-door.mjs). By AI agents, Wed Nov 11 2026. No macro, syntax, notation, axiom, sorry.
-/
import Derived.Test.YtinccnehfalfnaaGreatDoorRows
import GoSem.ClaimSeven
namespace Go.Proofs.YtinccnehfalfnaaGreatDoor
namespace Rows

/-- THE TIED CARD OF 'coffeehouselaw2.StartTells'. -/
def startTellsCard : Claim7 := { stood := { row := startTellsRow, standIns := [], harness := (true, "c3dac157b357c268bae27fcd7410aeca2549266cf7455cfeae30fda783f31b0d"), looks := true }, kinds := [], alts := [], laidByText := true, laidKinds := [.data, .data, .pinned], laidTests := true, laidLooks := .later }
def StartTellsCardSaid : Prop := Claim7.holds Tryz.pinned (.plain (OpenSpec.ofChange startTellsSpec)) startTellsCard

/-- THE TIED CARD OF 'coffeehouselaw2.WorldTells'. -/
def worldTellsCard : Claim7 := { stood := { row := worldTellsRow, standIns := [], harness := (true, "c3dac157b357c268bae27fcd7410aeca2549266cf7455cfeae30fda783f31b0d"), looks := true }, kinds := [], alts := [], laidByText := true, laidKinds := [.data, .data, .pinned], laidTests := true, laidLooks := .later }
def WorldTellsCardSaid : Prop := Claim7.holds Tryz.pinned (.plain (OpenSpec.ofChange worldTellsSpec)) worldTellsCard

/-- THE TIED CARD OF 'coffeehouselaw2.WorldUp'. -/
def worldUpCard : Claim7 := { stood := { row := worldUpRow, standIns := [], harness := (true, "c3dac157b357c268bae27fcd7410aeca2549266cf7455cfeae30fda783f31b0d"), looks := true }, kinds := [], alts := [], laidByText := true, laidKinds := [.data, .data, .pinned], laidTests := true, laidLooks := .later }
def WorldUpCardSaid : Prop := Claim7.holds Tryz.pinned (.plain (OpenSpec.ofChange worldUpSpec)) worldUpCard

/-- THE TIED CARD OF 'coffeehouselaw2.StartFirst'. -/
def startFirstCard : Claim7 := { stood := { row := startFirstRow, standIns := [], harness := (true, "c3dac157b357c268bae27fcd7410aeca2549266cf7455cfeae30fda783f31b0d"), looks := true }, kinds := [], alts := [], laidByText := true, laidKinds := [.data, .data, .pinned], laidTests := true, laidLooks := .later }
def StartFirstCardSaid : Prop := Claim7.holds Tryz.pinned (.plain (OpenSpec.ofChange startFirstSpec)) startFirstCard

/-- THE SECOND FORM's CARD OF 'coffeehouselaw2.StartTells'. -/
def startTellsUptoCard : Claim7 := { stood := { row := startTellsUptoRow, standIns := [], harness := (true, "c3dac157b357c268bae27fcd7410aeca2549266cf7455cfeae30fda783f31b0d"), looks := true }, kinds := [], alts := [], laidByText := true, laidKinds := [.data, .data, .pinned], laidTests := true, laidLooks := .later }
def StartTellsUptoCardSaid : Prop := Claim7.holds Tryz.pinned (.plain (OpenSpec.upto startTellsSpec)) startTellsUptoCard

/-- THE SECOND FORM's CARD OF 'coffeehouselaw2.WorldTells'. -/
def worldTellsUptoCard : Claim7 := { stood := { row := worldTellsUptoRow, standIns := [], harness := (true, "c3dac157b357c268bae27fcd7410aeca2549266cf7455cfeae30fda783f31b0d"), looks := true }, kinds := [], alts := [], laidByText := true, laidKinds := [.data, .data, .pinned], laidTests := true, laidLooks := .later }
def WorldTellsUptoCardSaid : Prop := Claim7.holds Tryz.pinned (.plain (OpenSpec.upto worldTellsSpec)) worldTellsUptoCard

/-- THE SECOND FORM's CARD OF 'coffeehouselaw2.WorldUp'. -/
def worldUpUptoCard : Claim7 := { stood := { row := worldUpUptoRow, standIns := [], harness := (true, "c3dac157b357c268bae27fcd7410aeca2549266cf7455cfeae30fda783f31b0d"), looks := true }, kinds := [], alts := [], laidByText := true, laidKinds := [.data, .data, .pinned], laidTests := true, laidLooks := .later }
def WorldUpUptoCardSaid : Prop := Claim7.holds Tryz.pinned (.plain (OpenSpec.upto worldUpSpec)) worldUpUptoCard

/-- THE SECOND FORM's CARD OF 'coffeehouselaw2.StartFirst'. -/
def startFirstUptoCard : Claim7 := { stood := { row := startFirstUptoRow, standIns := [], harness := (true, "c3dac157b357c268bae27fcd7410aeca2549266cf7455cfeae30fda783f31b0d"), looks := true }, kinds := [], alts := [], laidByText := true, laidKinds := [.data, .data, .pinned], laidTests := true, laidLooks := .later }
def StartFirstUptoCardSaid : Prop := Claim7.holds Tryz.pinned (.plain (OpenSpec.upto startFirstSpec)) startFirstUptoCard
end Rows
end Go.Proofs.YtinccnehfalfnaaGreatDoor
