/-
  DERIVED. GIVEN WITH THE SEED: THE CARDS: each row of YtdlioncecgnloaaGreatDoorRows.lean that lists a variable, with what it lists TIED to the program's text (the seventh form; the later family's looks); each row that meets fmt, with fmt's text TOLD by the authors' own Lean function (tested against real Go, not proved from fmt's source: count such statements apart). THE CARD IS WHAT COUNTS. Prove the row's statement (the work); the ties are given (YtdlioncecgnloaaGreatDoorTie.lean); close each card by the builder's one call (the guide's Derived/Test/ToyasCard.lean, 'card_holds'). Laid BY PROGRAM, IN A SANDBOX (cutbox-door.mjs). By AI agents, Wed Nov 11 2026. No macro, syntax, notation, axiom, sorry.
-/
import Derived.Test.YtdlioncecgnloaaGreatDoorRows
import GoSem.ClaimSeven
namespace Go.Proofs.YtdlioncecgnloaaGreatDoor
namespace Rows

/-- THE TIED CARD OF 'ringdownlaw03.LoopLight'. -/
def loopLightCard : Claim7 := { stood := { row := loopLightRow, standIns := [], harness := (true, "0636efd08ddba44e06c765d4388b2c01da13cd5d03425dfd4dbe0c45c477caa7"), looks := true }, kinds := [], alts := [], laidByText := true, laidKinds := [.data, .data, .data, .data, .sentinel, .sentinel, .pinned], laidTests := true, laidLooks := .later }
def LoopLightCardSaid : Prop := Claim7.holds Tryz.pinned (.plain (OpenSpec.ofChange loopLightSpec)) loopLightCard

/-- THE TIED CARD OF 'ringdownlaw03.LoopProves'. -/
def loopProvesCard : Claim7 := { stood := { row := loopProvesRow, standIns := [], harness := (true, "0636efd08ddba44e06c765d4388b2c01da13cd5d03425dfd4dbe0c45c477caa7"), looks := true }, kinds := [], alts := [], laidByText := true, laidKinds := [.data, .data, .data, .data, .sentinel, .sentinel, .pinned], laidTests := true, laidLooks := .later }
def LoopProvesCardSaid : Prop := Claim7.holds Tryz.pinned (.plain (OpenSpec.ofChange loopProvesSpec)) loopProvesCard

/-- THE TIED CARD OF 'ringdownlaw03.LoopSettles'. -/
def loopSettlesCard : Claim7 := { stood := { row := loopSettlesRow, standIns := [], harness := (true, "0636efd08ddba44e06c765d4388b2c01da13cd5d03425dfd4dbe0c45c477caa7"), looks := true }, kinds := [], alts := [], laidByText := true, laidKinds := [.data, .data, .data, .data, .sentinel, .sentinel, .pinned], laidTests := true, laidLooks := .later }
def LoopSettlesCardSaid : Prop := Claim7.holds Tryz.pinned (.plain (OpenSpec.ofChange loopSettlesSpec)) loopSettlesCard

/-- THE TIED CARD OF 'ringdownlaw03.LoopRuns'. -/
def loopRunsCard : Claim7 := { stood := { row := loopRunsRow, standIns := [], harness := (true, "0636efd08ddba44e06c765d4388b2c01da13cd5d03425dfd4dbe0c45c477caa7"), looks := true }, kinds := [], alts := [], laidByText := true, laidKinds := [.data, .data, .data, .data, .sentinel, .sentinel, .pinned], laidTests := true, laidLooks := .later }
def LoopRunsCardSaid : Prop := Claim7.holds Tryz.pinned (.plain (OpenSpec.ofChange loopRunsSpec)) loopRunsCard

/-- THE TIED CARD OF 'ringdownlaw03.LoopBuilds'. -/
def loopBuildsCard : Claim7 := { stood := { row := loopBuildsRow, standIns := [], harness := (true, "0636efd08ddba44e06c765d4388b2c01da13cd5d03425dfd4dbe0c45c477caa7"), looks := true }, kinds := [], alts := [], laidByText := true, laidKinds := [.data, .data, .data, .data, .sentinel, .sentinel, .pinned], laidTests := true, laidLooks := .later }
def LoopBuildsCardSaid : Prop := Claim7.holds Tryz.pinned (.plain (OpenSpec.ofChange loopBuildsSpec)) loopBuildsCard

/-- THE TIED CARD OF 'ringdownlaw03.LoopMakes'. -/
def loopMakesCard : Claim7 := { stood := { row := loopMakesRow, standIns := [], harness := (true, "0636efd08ddba44e06c765d4388b2c01da13cd5d03425dfd4dbe0c45c477caa7"), looks := true }, kinds := [], alts := [], laidByText := true, laidKinds := [.data, .data, .data, .data, .sentinel, .sentinel, .pinned], laidTests := true, laidLooks := .later }
def LoopMakesCardSaid : Prop := Claim7.holds Tryz.pinned (.plain (OpenSpec.ofChange loopMakesSpec)) loopMakesCard

/-- THE TIED CARD OF 'ringdownlaw03.LoopComposes'. -/
def loopComposesCard : Claim7 := { stood := { row := loopComposesRow, standIns := [], harness := (true, "0636efd08ddba44e06c765d4388b2c01da13cd5d03425dfd4dbe0c45c477caa7"), looks := true }, kinds := [], alts := [], laidByText := true, laidKinds := [.data, .data, .data, .data, .sentinel, .sentinel, .pinned], laidTests := true, laidLooks := .later }
def LoopComposesCardSaid : Prop := Claim7.holds Tryz.pinned (.plain (OpenSpec.ofChange loopComposesSpec)) loopComposesCard

/-- THE TIED CARD OF 'ringdownlaw03.LoopEnergy'. -/
def loopEnergyCard : Claim7 := { stood := { row := loopEnergyRow, standIns := [], harness := (true, "0636efd08ddba44e06c765d4388b2c01da13cd5d03425dfd4dbe0c45c477caa7"), looks := true }, kinds := [], alts := [], laidByText := true, laidKinds := [.data, .data, .data, .data, .sentinel, .sentinel, .pinned], laidTests := true, laidLooks := .later }
def LoopEnergyCardSaid : Prop := Claim7.holds Tryz.pinned (.plain (OpenSpec.ofChange loopEnergySpec)) loopEnergyCard

/-- THE TIED CARD OF 'ringdownlaw03.LoopParallel'. -/
def loopParallelCard : Claim7 := { stood := { row := loopParallelRow, standIns := [], harness := (true, "0636efd08ddba44e06c765d4388b2c01da13cd5d03425dfd4dbe0c45c477caa7"), looks := true }, kinds := [], alts := [], laidByText := true, laidKinds := [.data, .data, .data, .data, .sentinel, .sentinel, .pinned], laidTests := true, laidLooks := .later }
def LoopParallelCardSaid : Prop := Claim7.holds Tryz.pinned (.plain (OpenSpec.ofChange loopParallelSpec)) loopParallelCard

/-- THE TIED CARD OF 'ringdownlaw03.LoopCloses'. -/
def loopClosesCard : Claim7 := { stood := { row := loopClosesRow, standIns := [], harness := (true, "0636efd08ddba44e06c765d4388b2c01da13cd5d03425dfd4dbe0c45c477caa7"), looks := true }, kinds := [], alts := [], laidByText := true, laidKinds := [.data, .data, .data, .data, .sentinel, .sentinel, .pinned], laidTests := true, laidLooks := .later }
def LoopClosesCardSaid : Prop := Claim7.holds Tryz.pinned (.plain (OpenSpec.ofChange loopClosesSpec)) loopClosesCard

/-- THE SECOND FORM's CARD OF 'ringdownlaw03.LoopLight'. -/
def loopLightUptoCard : Claim7 := { stood := { row := loopLightUptoRow, standIns := [], harness := (true, "0636efd08ddba44e06c765d4388b2c01da13cd5d03425dfd4dbe0c45c477caa7"), looks := true }, kinds := [], alts := [], laidByText := true, laidKinds := [.data, .data, .data, .data, .sentinel, .sentinel, .pinned], laidTests := true, laidLooks := .later }
def LoopLightUptoCardSaid : Prop := Claim7.holds Tryz.pinned (.plain (OpenSpec.upto loopLightSpec)) loopLightUptoCard

/-- THE SECOND FORM's CARD OF 'ringdownlaw03.LoopProves'. -/
def loopProvesUptoCard : Claim7 := { stood := { row := loopProvesUptoRow, standIns := [], harness := (true, "0636efd08ddba44e06c765d4388b2c01da13cd5d03425dfd4dbe0c45c477caa7"), looks := true }, kinds := [], alts := [], laidByText := true, laidKinds := [.data, .data, .data, .data, .sentinel, .sentinel, .pinned], laidTests := true, laidLooks := .later }
def LoopProvesUptoCardSaid : Prop := Claim7.holds Tryz.pinned (.plain (OpenSpec.upto loopProvesSpec)) loopProvesUptoCard

/-- THE SECOND FORM's CARD OF 'ringdownlaw03.LoopSettles'. -/
def loopSettlesUptoCard : Claim7 := { stood := { row := loopSettlesUptoRow, standIns := [], harness := (true, "0636efd08ddba44e06c765d4388b2c01da13cd5d03425dfd4dbe0c45c477caa7"), looks := true }, kinds := [], alts := [], laidByText := true, laidKinds := [.data, .data, .data, .data, .sentinel, .sentinel, .pinned], laidTests := true, laidLooks := .later }
def LoopSettlesUptoCardSaid : Prop := Claim7.holds Tryz.pinned (.plain (OpenSpec.upto loopSettlesSpec)) loopSettlesUptoCard

/-- THE SECOND FORM's CARD OF 'ringdownlaw03.LoopRuns'. -/
def loopRunsUptoCard : Claim7 := { stood := { row := loopRunsUptoRow, standIns := [], harness := (true, "0636efd08ddba44e06c765d4388b2c01da13cd5d03425dfd4dbe0c45c477caa7"), looks := true }, kinds := [], alts := [], laidByText := true, laidKinds := [.data, .data, .data, .data, .sentinel, .sentinel, .pinned], laidTests := true, laidLooks := .later }
def LoopRunsUptoCardSaid : Prop := Claim7.holds Tryz.pinned (.plain (OpenSpec.upto loopRunsSpec)) loopRunsUptoCard

/-- THE SECOND FORM's CARD OF 'ringdownlaw03.LoopBuilds'. -/
def loopBuildsUptoCard : Claim7 := { stood := { row := loopBuildsUptoRow, standIns := [], harness := (true, "0636efd08ddba44e06c765d4388b2c01da13cd5d03425dfd4dbe0c45c477caa7"), looks := true }, kinds := [], alts := [], laidByText := true, laidKinds := [.data, .data, .data, .data, .sentinel, .sentinel, .pinned], laidTests := true, laidLooks := .later }
def LoopBuildsUptoCardSaid : Prop := Claim7.holds Tryz.pinned (.plain (OpenSpec.upto loopBuildsSpec)) loopBuildsUptoCard

/-- THE SECOND FORM's CARD OF 'ringdownlaw03.LoopMakes'. -/
def loopMakesUptoCard : Claim7 := { stood := { row := loopMakesUptoRow, standIns := [], harness := (true, "0636efd08ddba44e06c765d4388b2c01da13cd5d03425dfd4dbe0c45c477caa7"), looks := true }, kinds := [], alts := [], laidByText := true, laidKinds := [.data, .data, .data, .data, .sentinel, .sentinel, .pinned], laidTests := true, laidLooks := .later }
def LoopMakesUptoCardSaid : Prop := Claim7.holds Tryz.pinned (.plain (OpenSpec.upto loopMakesSpec)) loopMakesUptoCard

/-- THE SECOND FORM's CARD OF 'ringdownlaw03.LoopComposes'. -/
def loopComposesUptoCard : Claim7 := { stood := { row := loopComposesUptoRow, standIns := [], harness := (true, "0636efd08ddba44e06c765d4388b2c01da13cd5d03425dfd4dbe0c45c477caa7"), looks := true }, kinds := [], alts := [], laidByText := true, laidKinds := [.data, .data, .data, .data, .sentinel, .sentinel, .pinned], laidTests := true, laidLooks := .later }
def LoopComposesUptoCardSaid : Prop := Claim7.holds Tryz.pinned (.plain (OpenSpec.upto loopComposesSpec)) loopComposesUptoCard

/-- THE SECOND FORM's CARD OF 'ringdownlaw03.LoopEnergy'. -/
def loopEnergyUptoCard : Claim7 := { stood := { row := loopEnergyUptoRow, standIns := [], harness := (true, "0636efd08ddba44e06c765d4388b2c01da13cd5d03425dfd4dbe0c45c477caa7"), looks := true }, kinds := [], alts := [], laidByText := true, laidKinds := [.data, .data, .data, .data, .sentinel, .sentinel, .pinned], laidTests := true, laidLooks := .later }
def LoopEnergyUptoCardSaid : Prop := Claim7.holds Tryz.pinned (.plain (OpenSpec.upto loopEnergySpec)) loopEnergyUptoCard

/-- THE SECOND FORM's CARD OF 'ringdownlaw03.LoopParallel'. -/
def loopParallelUptoCard : Claim7 := { stood := { row := loopParallelUptoRow, standIns := [], harness := (true, "0636efd08ddba44e06c765d4388b2c01da13cd5d03425dfd4dbe0c45c477caa7"), looks := true }, kinds := [], alts := [], laidByText := true, laidKinds := [.data, .data, .data, .data, .sentinel, .sentinel, .pinned], laidTests := true, laidLooks := .later }
def LoopParallelUptoCardSaid : Prop := Claim7.holds Tryz.pinned (.plain (OpenSpec.upto loopParallelSpec)) loopParallelUptoCard

/-- THE SECOND FORM's CARD OF 'ringdownlaw03.LoopCloses'. -/
def loopClosesUptoCard : Claim7 := { stood := { row := loopClosesUptoRow, standIns := [], harness := (true, "0636efd08ddba44e06c765d4388b2c01da13cd5d03425dfd4dbe0c45c477caa7"), looks := true }, kinds := [], alts := [], laidByText := true, laidKinds := [.data, .data, .data, .data, .sentinel, .sentinel, .pinned], laidTests := true, laidLooks := .later }
def LoopClosesUptoCardSaid : Prop := Claim7.holds Tryz.pinned (.plain (OpenSpec.upto loopClosesSpec)) loopClosesUptoCard
end Rows
end Go.Proofs.YtdlioncecgnloaaGreatDoor
