/-
  DERIVED. GIVEN WITH THE SEED: THE CARDS: each row of YtgakllaobooabaaGreatDoorRows.lean that lists a variable, with what it lists TIED to the program's text (the seventh form; the later family's looks); each row that meets fmt, with fmt's text TOLD by the authors' own Lean function (tested against real Go, not proved from fmt's source: count such statements apart). THE CARD IS WHAT COUNTS. Prove the row's statement (the work); the ties are given (YtgakllaobooabaaGreatDoorTie.lean); close each card by the builder's one call (the guide's Derived/Test/ToyasCard.lean, 'card_holds'). Laid BY PROGRAM, IN A SANDBOX (cutbox-door.mjs). By AI agents, Wed Nov 11 2026. No macro, syntax, notation, axiom, sorry.
-/
import Derived.Test.YtgakllaobooabaaGreatDoorRows
import GoSem.ClaimSeven
namespace Go.Proofs.YtgakllaobooabaaGreatDoor
namespace Rows

/-- THE TIED CARD OF 'ringdownlaw03.LoopEnergy'. -/
def loopEnergyCard : Claim7 := { stood := { row := loopEnergyRow, standIns := [], harness := (true, "84853044813515c0a21a0058c73013d30f8270e1948216fa8a0e954ab077b0f1"), looks := true }, kinds := [], alts := [], laidByText := true, laidKinds := [.data, .data, .data, .data, .sentinel, .sentinel, .pinned], laidTests := true, laidLooks := .later }
def LoopEnergyCardSaid : Prop := Claim7.holds Tryz.pinned (.plain (OpenSpec.ofChange loopEnergySpec)) loopEnergyCard

/-- THE SECOND FORM's CARD OF 'ringdownlaw03.LoopEnergy'. -/
def loopEnergyUptoCard : Claim7 := { stood := { row := loopEnergyUptoRow, standIns := [], harness := (true, "84853044813515c0a21a0058c73013d30f8270e1948216fa8a0e954ab077b0f1"), looks := true }, kinds := [], alts := [], laidByText := true, laidKinds := [.data, .data, .data, .data, .sentinel, .sentinel, .pinned], laidTests := true, laidLooks := .later }
def LoopEnergyUptoCardSaid : Prop := Claim7.holds Tryz.pinned (.plain (OpenSpec.upto loopEnergySpec)) loopEnergyUptoCard
end Rows
end Go.Proofs.YtgakllaobooabaaGreatDoor
