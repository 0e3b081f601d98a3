/-
  DERIVED. GIVEN WITH THE SEED: THE CARDS: each row of YtlhpcoelfhjomaaGreatDoorRows.lean that lists a variable, with what it lists TIED to the program's text (the seventh form; the later family's looks); each row that meets fmt, with fmt's text TOLD by the authors' own Lean function (tested against real Go, not proved from fmt's source: count such statements apart). THE CARD IS WHAT COUNTS. Prove the row's statement (the work); the ties are given (YtlhpcoelfhjomaaGreatDoorTie.lean); close each card by the builder's one call (the guide's Derived/Test/ToyasCard.lean, 'card_holds'). Laid BY PROGRAM, IN A SANDBOX (cutbox-door.mjs). By AI agents, Wed Nov 11 2026. No macro, syntax, notation, axiom, sorry.
-/
import Derived.Test.YtlhpcoelfhjomaaGreatDoorRows
import GoSem.ClaimSeven
namespace Go.Proofs.YtlhpcoelfhjomaaGreatDoor
namespace Rows

/-- THE TIED CARD OF 'ringdownlaw03.LoopSettles'. -/
def loopSettlesCard : Claim7 := { stood := { row := loopSettlesRow, standIns := [], harness := (true, "b720989e81fb8bd4a6ec176ef8c1aaf77b0c8e3f8831961ac8b755f49ebea4be"), looks := true }, kinds := [], alts := [], laidByText := true, laidKinds := [.data, .data, .data, .data, .sentinel, .sentinel, .pinned], laidTests := true, laidLooks := .later }
def LoopSettlesCardSaid : Prop := Claim7.holds Tryz.pinned (.plain (OpenSpec.ofChange loopSettlesSpec)) loopSettlesCard

/-- THE SECOND FORM's CARD OF 'ringdownlaw03.LoopSettles'. -/
def loopSettlesUptoCard : Claim7 := { stood := { row := loopSettlesUptoRow, standIns := [], harness := (true, "b720989e81fb8bd4a6ec176ef8c1aaf77b0c8e3f8831961ac8b755f49ebea4be"), looks := true }, kinds := [], alts := [], laidByText := true, laidKinds := [.data, .data, .data, .data, .sentinel, .sentinel, .pinned], laidTests := true, laidLooks := .later }
def LoopSettlesUptoCardSaid : Prop := Claim7.holds Tryz.pinned (.plain (OpenSpec.upto loopSettlesSpec)) loopSettlesUptoCard
end Rows
end Go.Proofs.YtlhpcoelfhjomaaGreatDoor
