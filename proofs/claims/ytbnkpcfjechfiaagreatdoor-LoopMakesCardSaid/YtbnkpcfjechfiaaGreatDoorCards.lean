/-
  DERIVED. GIVEN WITH THE SEED: THE CARDS: each row of YtbnkpcfjechfiaaGreatDoorRows.lean that lists a variable, with what it lists TIED to the program's text (the seventh form; the later family's looks); each row that meets fmt, with fmt's text TOLD by the authors' own Lean function (tested against real Go, not proved from fmt's source: count such statements apart). THE CARD IS WHAT COUNTS. Prove the row's statement (the work); the ties are given (YtbnkpcfjechfiaaGreatDoorTie.lean); close each card by the builder's one call (the guide's Derived/Test/ToyasCard.lean, 'card_holds'). Laid BY PROGRAM, IN A SANDBOX (cutbox-door.mjs). By AI agents, Wed Nov 11 2026. No macro, syntax, notation, axiom, sorry.
-/
import Derived.Test.YtbnkpcfjechfiaaGreatDoorRows
import GoSem.ClaimSeven
namespace Go.Proofs.YtbnkpcfjechfiaaGreatDoor
namespace Rows

/-- THE TIED CARD OF 'ringdownlaw03.LoopProves'. -/
def loopProvesCard : Claim7 := { stood := { row := loopProvesRow, standIns := [], harness := (true, "607b07e4c54540a22123bc747ec16fd56e11c212fb19b273263d2558989f5df9"), looks := true }, kinds := [], alts := [], laidByText := true, laidKinds := [.data, .data, .data, .data, .sentinel, .sentinel, .pinned], laidTests := true, laidLooks := .later }
def LoopProvesCardSaid : Prop := Claim7.holds Tryz.pinned (.plain (OpenSpec.ofChange loopProvesSpec)) loopProvesCard

/-- THE TIED CARD OF 'ringdownlaw03.LoopRuns'. -/
def loopRunsCard : Claim7 := { stood := { row := loopRunsRow, standIns := [], harness := (true, "607b07e4c54540a22123bc747ec16fd56e11c212fb19b273263d2558989f5df9"), looks := true }, kinds := [], alts := [], laidByText := true, laidKinds := [.data, .data, .data, .data, .sentinel, .sentinel, .pinned], laidTests := true, laidLooks := .later }
def LoopRunsCardSaid : Prop := Claim7.holds Tryz.pinned (.plain (OpenSpec.ofChange loopRunsSpec)) loopRunsCard

/-- THE TIED CARD OF 'ringdownlaw03.LoopMakes'. -/
def loopMakesCard : Claim7 := { stood := { row := loopMakesRow, standIns := [], harness := (true, "607b07e4c54540a22123bc747ec16fd56e11c212fb19b273263d2558989f5df9"), looks := true }, kinds := [], alts := [], laidByText := true, laidKinds := [.data, .data, .data, .data, .sentinel, .sentinel, .pinned], laidTests := true, laidLooks := .later }
def LoopMakesCardSaid : Prop := Claim7.holds Tryz.pinned (.plain (OpenSpec.ofChange loopMakesSpec)) loopMakesCard

/-- THE TIED CARD OF 'ringdownlaw03.LoopComposes'. -/
def loopComposesCard : Claim7 := { stood := { row := loopComposesRow, standIns := [], harness := (true, "607b07e4c54540a22123bc747ec16fd56e11c212fb19b273263d2558989f5df9"), looks := true }, kinds := [], alts := [], laidByText := true, laidKinds := [.data, .data, .data, .data, .sentinel, .sentinel, .pinned], laidTests := true, laidLooks := .later }
def LoopComposesCardSaid : Prop := Claim7.holds Tryz.pinned (.plain (OpenSpec.ofChange loopComposesSpec)) loopComposesCard

/-- THE SECOND FORM's CARD OF 'ringdownlaw03.LoopProves'. -/
def loopProvesUptoCard : Claim7 := { stood := { row := loopProvesUptoRow, standIns := [], harness := (true, "607b07e4c54540a22123bc747ec16fd56e11c212fb19b273263d2558989f5df9"), looks := true }, kinds := [], alts := [], laidByText := true, laidKinds := [.data, .data, .data, .data, .sentinel, .sentinel, .pinned], laidTests := true, laidLooks := .later }
def LoopProvesUptoCardSaid : Prop := Claim7.holds Tryz.pinned (.plain (OpenSpec.upto loopProvesSpec)) loopProvesUptoCard

/-- THE SECOND FORM's CARD OF 'ringdownlaw03.LoopRuns'. -/
def loopRunsUptoCard : Claim7 := { stood := { row := loopRunsUptoRow, standIns := [], harness := (true, "607b07e4c54540a22123bc747ec16fd56e11c212fb19b273263d2558989f5df9"), looks := true }, kinds := [], alts := [], laidByText := true, laidKinds := [.data, .data, .data, .data, .sentinel, .sentinel, .pinned], laidTests := true, laidLooks := .later }
def LoopRunsUptoCardSaid : Prop := Claim7.holds Tryz.pinned (.plain (OpenSpec.upto loopRunsSpec)) loopRunsUptoCard

/-- THE SECOND FORM's CARD OF 'ringdownlaw03.LoopMakes'. -/
def loopMakesUptoCard : Claim7 := { stood := { row := loopMakesUptoRow, standIns := [], harness := (true, "607b07e4c54540a22123bc747ec16fd56e11c212fb19b273263d2558989f5df9"), looks := true }, kinds := [], alts := [], laidByText := true, laidKinds := [.data, .data, .data, .data, .sentinel, .sentinel, .pinned], laidTests := true, laidLooks := .later }
def LoopMakesUptoCardSaid : Prop := Claim7.holds Tryz.pinned (.plain (OpenSpec.upto loopMakesSpec)) loopMakesUptoCard

/-- THE SECOND FORM's CARD OF 'ringdownlaw03.LoopComposes'. -/
def loopComposesUptoCard : Claim7 := { stood := { row := loopComposesUptoRow, standIns := [], harness := (true, "607b07e4c54540a22123bc747ec16fd56e11c212fb19b273263d2558989f5df9"), looks := true }, kinds := [], alts := [], laidByText := true, laidKinds := [.data, .data, .data, .data, .sentinel, .sentinel, .pinned], laidTests := true, laidLooks := .later }
def LoopComposesUptoCardSaid : Prop := Claim7.holds Tryz.pinned (.plain (OpenSpec.upto loopComposesSpec)) loopComposesUptoCard
end Rows
end Go.Proofs.YtbnkpcfjechfiaaGreatDoor
