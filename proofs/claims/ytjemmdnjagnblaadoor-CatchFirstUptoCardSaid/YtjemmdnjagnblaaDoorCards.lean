/-
  DERIVED. GIVEN WITH THE SEED: THE CARDS: each row of YtjemmdnjagnblaaDoorRows.lean that lists a variable, with what it lists TIED to the program's text (the seventh form; the later family's looks); each row that meets fmt, with fmt's text TOLD by the authors' own Lean function (tested against real Go, not proved from fmt's source: count such statements apart). THE CARD IS WHAT COUNTS. Prove the row's statement (the work); the ties are given (YtjemmdnjagnblaaDoorTie.lean); close each card by the builder's one call (the guide's Derived/Test/ToyasCard.lean, 'card_holds'). Laid BY PROGRAM, IN A SANDBOX (cutbox-door.mjs). By AI agents, Wed Nov 11 2026. No macro, syntax, notation, axiom, sorry.
-/
import Derived.Test.YtjemmdnjagnblaaDoorRows
import GoSem.ClaimSeven
namespace Go.Proofs.YtjemmdnjagnblaaDoor
namespace Rows

/-- THE TIED CARD OF 'coffeehouselaw3.CatchFirst'. -/
def catchFirstCard : Claim7 := { stood := { row := catchFirstRow, standIns := [], harness := (true, "a2b8ed4fdd05299fe6e5dae0f57a5de112466869975659195ed8710125f8956a"), looks := true }, kinds := [], alts := [], laidByText := true, laidKinds := [.data, .data, .pinned], laidTests := true, laidLooks := .later }
def CatchFirstCardSaid : Prop := Claim7.holds Tryd.pinned (.plain (OpenSpec.ofChange catchFirstSpec)) catchFirstCard

/-- THE SECOND FORM's CARD OF 'coffeehouselaw3.CatchFirst'. -/
def catchFirstUptoCard : Claim7 := { stood := { row := catchFirstUptoRow, standIns := [], harness := (true, "a2b8ed4fdd05299fe6e5dae0f57a5de112466869975659195ed8710125f8956a"), looks := true }, kinds := [], alts := [], laidByText := true, laidKinds := [.data, .data, .pinned], laidTests := true, laidLooks := .later }
def CatchFirstUptoCardSaid : Prop := Claim7.holds Tryd.pinned (.plain (OpenSpec.upto catchFirstSpec)) catchFirstUptoCard
end Rows
end Go.Proofs.YtjemmdnjagnblaaDoor
