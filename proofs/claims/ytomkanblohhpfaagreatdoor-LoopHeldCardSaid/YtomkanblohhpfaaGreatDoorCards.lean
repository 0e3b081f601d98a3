/-
  DERIVED. GIVEN WITH THE SEED: THE CARDS: each row of YtomkanblohhpfaaGreatDoorRows.lean that lists a variable, with what it lists TIED to the program's text (the seventh form; the later family's looks); each row that meets fmt, with fmt's text TOLD by the authors' own Lean function (tested against real Go, not proved from fmt's source: count such statements apart). THE CARD IS WHAT COUNTS. Prove the row's statement (the work); the ties are given (YtomkanblohhpfaaGreatDoorTie.lean); close each card by the builder's one call (the guide's Derived/Test/ToyasCard.lean, 'card_holds'). Laid BY PROGRAM, IN A SANDBOX (cutbox-door.mjs). By AI agents, Wed Nov 11 2026. No macro, syntax, notation, axiom, sorry.
-/
import Derived.Test.YtomkanblohhpfaaGreatDoorRows
import GoSem.ClaimSeven
namespace Go.Proofs.YtomkanblohhpfaaGreatDoor
namespace Rows

/-- THE TIED CARD OF 'ringdownlaw03.LoopRadius'. -/
def loopRadiusCard : Claim7 := { stood := { row := loopRadiusRow, standIns := [], harness := (true, "4d26074f2531f3299dcc7c5f627f1d7932d969255aa9cd0a138b10424efb5e3c"), looks := true }, kinds := [], alts := [], laidByText := true, laidKinds := [.data, .data, .data, .data, .sentinel, .sentinel, .pinned], laidTests := true, laidLooks := .later }
def LoopRadiusCardSaid : Prop := Claim7.holds Tryz.pinned (.plain (OpenSpec.ofChange loopRadiusSpec)) loopRadiusCard

/-- THE TIED CARD OF 'ringdownlaw03.LoopHeld'. -/
def loopHeldCard : Claim7 := { stood := { row := loopHeldRow, standIns := [], harness := (true, "4d26074f2531f3299dcc7c5f627f1d7932d969255aa9cd0a138b10424efb5e3c"), looks := true }, kinds := [], alts := [], laidByText := true, laidKinds := [.data, .data, .data, .data, .sentinel, .sentinel, .pinned], laidTests := true, laidLooks := .later }
def LoopHeldCardSaid : Prop := Claim7.holds Tryz.pinned (.plain (OpenSpec.ofChange loopHeldSpec)) loopHeldCard

/-- THE TIED CARD OF 'ringdownlaw03.LoopBuilds'. -/
def loopBuildsCard : Claim7 := { stood := { row := loopBuildsRow, standIns := [], harness := (true, "4d26074f2531f3299dcc7c5f627f1d7932d969255aa9cd0a138b10424efb5e3c"), looks := true }, kinds := [], alts := [], laidByText := true, laidKinds := [.data, .data, .data, .data, .sentinel, .sentinel, .pinned], laidTests := true, laidLooks := .later }
def LoopBuildsCardSaid : Prop := Claim7.holds Tryz.pinned (.plain (OpenSpec.ofChange loopBuildsSpec)) loopBuildsCard

/-- THE TIED CARD OF 'ringdownlaw03.LoopDelays'. -/
def loopDelaysCard : Claim7 := { stood := { row := loopDelaysRow, standIns := [], harness := (true, "4d26074f2531f3299dcc7c5f627f1d7932d969255aa9cd0a138b10424efb5e3c"), looks := true }, kinds := [], alts := [], laidByText := true, laidKinds := [.data, .data, .data, .data, .sentinel, .sentinel, .pinned], laidTests := true, laidLooks := .later }
def LoopDelaysCardSaid : Prop := Claim7.holds Tryz.pinned (.plain (OpenSpec.ofChange loopDelaysSpec)) loopDelaysCard

/-- THE TIED CARD OF 'ringdownlaw03.LoopSeries'. -/
def loopSeriesCard : Claim7 := { stood := { row := loopSeriesRow, standIns := [], harness := (true, "4d26074f2531f3299dcc7c5f627f1d7932d969255aa9cd0a138b10424efb5e3c"), looks := true }, kinds := [], alts := [], laidByText := true, laidKinds := [.data, .data, .data, .data, .sentinel, .sentinel, .pinned], laidTests := true, laidLooks := .later }
def LoopSeriesCardSaid : Prop := Claim7.holds Tryz.pinned (.plain (OpenSpec.ofChange loopSeriesSpec)) loopSeriesCard

/-- THE TIED CARD OF 'ringdownlaw03.LoopParallel'. -/
def loopParallelCard : Claim7 := { stood := { row := loopParallelRow, standIns := [], harness := (true, "4d26074f2531f3299dcc7c5f627f1d7932d969255aa9cd0a138b10424efb5e3c"), looks := true }, kinds := [], alts := [], laidByText := true, laidKinds := [.data, .data, .data, .data, .sentinel, .sentinel, .pinned], laidTests := true, laidLooks := .later }
def LoopParallelCardSaid : Prop := Claim7.holds Tryz.pinned (.plain (OpenSpec.ofChange loopParallelSpec)) loopParallelCard

/-- THE TIED CARD OF 'ringdownlaw03.LoopCloses'. -/
def loopClosesCard : Claim7 := { stood := { row := loopClosesRow, standIns := [], harness := (true, "4d26074f2531f3299dcc7c5f627f1d7932d969255aa9cd0a138b10424efb5e3c"), looks := true }, kinds := [], alts := [], laidByText := true, laidKinds := [.data, .data, .data, .data, .sentinel, .sentinel, .pinned], laidTests := true, laidLooks := .later }
def LoopClosesCardSaid : Prop := Claim7.holds Tryz.pinned (.plain (OpenSpec.ofChange loopClosesSpec)) loopClosesCard

/-- THE TIED CARD OF 'ringdownlaw03.LoopKnown'. -/
def loopKnownCard : Claim7 := { stood := { row := loopKnownRow, standIns := [], harness := (true, "4d26074f2531f3299dcc7c5f627f1d7932d969255aa9cd0a138b10424efb5e3c"), looks := true }, kinds := [], alts := [], laidByText := true, laidKinds := [.data, .data, .data, .data, .sentinel, .sentinel, .pinned], laidTests := true, laidLooks := .later }
def LoopKnownCardSaid : Prop := Claim7.holds Tryz.pinned (.plain (OpenSpec.ofChange loopKnownSpec)) loopKnownCard

/-- THE SECOND FORM's CARD OF 'ringdownlaw03.LoopRadius'. -/
def loopRadiusUptoCard : Claim7 := { stood := { row := loopRadiusUptoRow, standIns := [], harness := (true, "4d26074f2531f3299dcc7c5f627f1d7932d969255aa9cd0a138b10424efb5e3c"), looks := true }, kinds := [], alts := [], laidByText := true, laidKinds := [.data, .data, .data, .data, .sentinel, .sentinel, .pinned], laidTests := true, laidLooks := .later }
def LoopRadiusUptoCardSaid : Prop := Claim7.holds Tryz.pinned (.plain (OpenSpec.upto loopRadiusSpec)) loopRadiusUptoCard

/-- THE SECOND FORM's CARD OF 'ringdownlaw03.LoopHeld'. -/
def loopHeldUptoCard : Claim7 := { stood := { row := loopHeldUptoRow, standIns := [], harness := (true, "4d26074f2531f3299dcc7c5f627f1d7932d969255aa9cd0a138b10424efb5e3c"), looks := true }, kinds := [], alts := [], laidByText := true, laidKinds := [.data, .data, .data, .data, .sentinel, .sentinel, .pinned], laidTests := true, laidLooks := .later }
def LoopHeldUptoCardSaid : Prop := Claim7.holds Tryz.pinned (.plain (OpenSpec.upto loopHeldSpec)) loopHeldUptoCard

/-- THE SECOND FORM's CARD OF 'ringdownlaw03.LoopBuilds'. -/
def loopBuildsUptoCard : Claim7 := { stood := { row := loopBuildsUptoRow, standIns := [], harness := (true, "4d26074f2531f3299dcc7c5f627f1d7932d969255aa9cd0a138b10424efb5e3c"), looks := true }, kinds := [], alts := [], laidByText := true, laidKinds := [.data, .data, .data, .data, .sentinel, .sentinel, .pinned], laidTests := true, laidLooks := .later }
def LoopBuildsUptoCardSaid : Prop := Claim7.holds Tryz.pinned (.plain (OpenSpec.upto loopBuildsSpec)) loopBuildsUptoCard

/-- THE SECOND FORM's CARD OF 'ringdownlaw03.LoopDelays'. -/
def loopDelaysUptoCard : Claim7 := { stood := { row := loopDelaysUptoRow, standIns := [], harness := (true, "4d26074f2531f3299dcc7c5f627f1d7932d969255aa9cd0a138b10424efb5e3c"), looks := true }, kinds := [], alts := [], laidByText := true, laidKinds := [.data, .data, .data, .data, .sentinel, .sentinel, .pinned], laidTests := true, laidLooks := .later }
def LoopDelaysUptoCardSaid : Prop := Claim7.holds Tryz.pinned (.plain (OpenSpec.upto loopDelaysSpec)) loopDelaysUptoCard

/-- THE SECOND FORM's CARD OF 'ringdownlaw03.LoopSeries'. -/
def loopSeriesUptoCard : Claim7 := { stood := { row := loopSeriesUptoRow, standIns := [], harness := (true, "4d26074f2531f3299dcc7c5f627f1d7932d969255aa9cd0a138b10424efb5e3c"), looks := true }, kinds := [], alts := [], laidByText := true, laidKinds := [.data, .data, .data, .data, .sentinel, .sentinel, .pinned], laidTests := true, laidLooks := .later }
def LoopSeriesUptoCardSaid : Prop := Claim7.holds Tryz.pinned (.plain (OpenSpec.upto loopSeriesSpec)) loopSeriesUptoCard

/-- THE SECOND FORM's CARD OF 'ringdownlaw03.LoopParallel'. -/
def loopParallelUptoCard : Claim7 := { stood := { row := loopParallelUptoRow, standIns := [], harness := (true, "4d26074f2531f3299dcc7c5f627f1d7932d969255aa9cd0a138b10424efb5e3c"), looks := true }, kinds := [], alts := [], laidByText := true, laidKinds := [.data, .data, .data, .data, .sentinel, .sentinel, .pinned], laidTests := true, laidLooks := .later }
def LoopParallelUptoCardSaid : Prop := Claim7.holds Tryz.pinned (.plain (OpenSpec.upto loopParallelSpec)) loopParallelUptoCard

/-- THE SECOND FORM's CARD OF 'ringdownlaw03.LoopCloses'. -/
def loopClosesUptoCard : Claim7 := { stood := { row := loopClosesUptoRow, standIns := [], harness := (true, "4d26074f2531f3299dcc7c5f627f1d7932d969255aa9cd0a138b10424efb5e3c"), looks := true }, kinds := [], alts := [], laidByText := true, laidKinds := [.data, .data, .data, .data, .sentinel, .sentinel, .pinned], laidTests := true, laidLooks := .later }
def LoopClosesUptoCardSaid : Prop := Claim7.holds Tryz.pinned (.plain (OpenSpec.upto loopClosesSpec)) loopClosesUptoCard

/-- THE SECOND FORM's CARD OF 'ringdownlaw03.LoopKnown'. -/
def loopKnownUptoCard : Claim7 := { stood := { row := loopKnownUptoRow, standIns := [], harness := (true, "4d26074f2531f3299dcc7c5f627f1d7932d969255aa9cd0a138b10424efb5e3c"), looks := true }, kinds := [], alts := [], laidByText := true, laidKinds := [.data, .data, .data, .data, .sentinel, .sentinel, .pinned], laidTests := true, laidLooks := .later }
def LoopKnownUptoCardSaid : Prop := Claim7.holds Tryz.pinned (.plain (OpenSpec.upto loopKnownSpec)) loopKnownUptoCard
end Rows
end Go.Proofs.YtomkanblohhpfaaGreatDoor
