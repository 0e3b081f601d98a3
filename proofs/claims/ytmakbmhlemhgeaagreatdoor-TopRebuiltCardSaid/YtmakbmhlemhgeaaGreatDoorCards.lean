/-
  DERIVED. GIVEN WITH THE SEED: THE CARDS: each row of YtmakbmhlemhgeaaGreatDoorRows.lean that lists a variable, with what it lists TIED to the program's text (the seventh form; the later family's looks); each row that meets fmt, with fmt's text TOLD by the authors' own Lean function (tested against real Go, not proved from fmt's source: count such statements apart). THE CARD IS WHAT COUNTS. Prove the row's statement (the work); the ties are given (YtmakbmhlemhgeaaGreatDoorTie.lean); close each card by the builder's one call (the guide's Derived/Test/ToyasCard.lean, 'card_holds'). Laid BY PROGRAM, IN A SANDBOX (cutbox-door.mjs). By AI agents, Wed Nov 11 2026. No macro, syntax, notation, axiom, sorry.
-/
import Derived.Test.YtmakbmhlemhgeaaGreatDoorRows
import GoSem.ClaimSeven
namespace Go.Proofs.YtmakbmhlemhgeaaGreatDoor
namespace Rows

/-- THE TIED CARD OF 'ringdowntop.TopRebuilt'. -/
def topRebuiltCard : Claim7 := { stood := { row := topRebuiltRow, standIns := [], harness := (true, "98d852b321beef50cb7534f2b06ac53876f31f91f02ab1c4b9ec24ded56fb8e5"), looks := true }, kinds := [], alts := [], laidByText := true, laidKinds := [.data, .data, .data, .data, .sentinel, .sentinel, .pinned], laidTests := true, laidLooks := .later }
def TopRebuiltCardSaid : Prop := Claim7.holds Tryz.pinned (.plain (OpenSpec.ofChange topRebuiltSpec)) topRebuiltCard

/-- THE TIED CARD OF 'ringdownlaw03.LoopRuns'. -/
def loopRunsCard : Claim7 := { stood := { row := loopRunsRow, standIns := [], harness := (true, "98d852b321beef50cb7534f2b06ac53876f31f91f02ab1c4b9ec24ded56fb8e5"), looks := true }, kinds := [], alts := [], laidByText := true, laidKinds := [.data, .data, .data, .data, .sentinel, .sentinel, .pinned], laidTests := true, laidLooks := .later }
def LoopRunsCardSaid : Prop := Claim7.holds Tryz.pinned (.plain (OpenSpec.ofChange loopRunsSpec)) loopRunsCard

/-- THE SECOND FORM's CARD OF 'ringdowntop.TopRebuilt'. -/
def topRebuiltUptoCard : Claim7 := { stood := { row := topRebuiltUptoRow, standIns := [], harness := (true, "98d852b321beef50cb7534f2b06ac53876f31f91f02ab1c4b9ec24ded56fb8e5"), looks := true }, kinds := [], alts := [], laidByText := true, laidKinds := [.data, .data, .data, .data, .sentinel, .sentinel, .pinned], laidTests := true, laidLooks := .later }
def TopRebuiltUptoCardSaid : Prop := Claim7.holds Tryz.pinned (.plain (OpenSpec.upto topRebuiltSpec)) topRebuiltUptoCard

/-- THE SECOND FORM's CARD OF 'ringdownlaw03.LoopRuns'. -/
def loopRunsUptoCard : Claim7 := { stood := { row := loopRunsUptoRow, standIns := [], harness := (true, "98d852b321beef50cb7534f2b06ac53876f31f91f02ab1c4b9ec24ded56fb8e5"), looks := true }, kinds := [], alts := [], laidByText := true, laidKinds := [.data, .data, .data, .data, .sentinel, .sentinel, .pinned], laidTests := true, laidLooks := .later }
def LoopRunsUptoCardSaid : Prop := Claim7.holds Tryz.pinned (.plain (OpenSpec.upto loopRunsSpec)) loopRunsUptoCard
end Rows
end Go.Proofs.YtmakbmhlemhgeaaGreatDoor
