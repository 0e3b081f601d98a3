/-
  DERIVED. GIVEN WITH THE SEED: THE CARDS: each row of YtlkniohhalnjjaaGreatDoorRows.lean that lists a variable, with what it lists TIED to the program's text (the seventh form; the later family's looks); each row that meets fmt, with fmt's text TOLD by the authors' own Lean function (tested against real Go, not proved from fmt's source: count such statements apart). THE CARD IS WHAT COUNTS. Prove the row's statement (the work); the ties are given (YtlkniohhalnjjaaGreatDoorTie.lean); close each card by the builder's one call (the guide's Derived/Test/ToyasCard.lean, 'card_holds'). Laid BY PROGRAM, IN A SANDBOX (cutbox-door.mjs). By AI agents, Wed Nov 11 2026. No macro, syntax, notation, axiom, sorry.
-/
import Derived.Test.YtlkniohhalnjjaaGreatDoorRows
import GoSem.ClaimSeven
namespace Go.Proofs.YtlkniohhalnjjaaGreatDoor
namespace Rows

/-- THE TIED CARD OF 'ringdownlaw04.LockKnown'. -/
def lockKnownCard : Claim7 := { stood := { row := lockKnownRow, standIns := [], harness := (true, "a7b6ccbdf4564598deff9b720d1faf3681e7a67d34296e55bd43237cceee9cb1"), looks := true }, kinds := [], alts := [], laidByText := true, laidKinds := [.data, .data, .data, .data, .sentinel, .sentinel, .pinned], laidTests := true, laidLooks := .later }
def LockKnownCardSaid : Prop := Claim7.holds Tryz.pinned (.plain (OpenSpec.ofChange lockKnownSpec)) lockKnownCard

/-- THE SECOND FORM's CARD OF 'ringdownlaw04.LockKnown'. -/
def lockKnownUptoCard : Claim7 := { stood := { row := lockKnownUptoRow, standIns := [], harness := (true, "a7b6ccbdf4564598deff9b720d1faf3681e7a67d34296e55bd43237cceee9cb1"), looks := true }, kinds := [], alts := [], laidByText := true, laidKinds := [.data, .data, .data, .data, .sentinel, .sentinel, .pinned], laidTests := true, laidLooks := .later }
def LockKnownUptoCardSaid : Prop := Claim7.holds Tryz.pinned (.plain (OpenSpec.upto lockKnownSpec)) lockKnownUptoCard
end Rows
end Go.Proofs.YtlkniohhalnjjaaGreatDoor
