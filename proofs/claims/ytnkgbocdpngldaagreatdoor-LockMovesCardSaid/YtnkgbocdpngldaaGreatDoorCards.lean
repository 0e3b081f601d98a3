/-
  DERIVED. GIVEN WITH THE SEED: THE CARDS: each row of YtnkgbocdpngldaaGreatDoorRows.lean that lists a variable, with what it lists TIED to the program's text (the seventh form; the later family's looks); each row that meets fmt, with fmt's text TOLD by the authors' own Lean function (tested against real Go, not proved from fmt's source: count such statements apart). THE CARD IS WHAT COUNTS. Prove the row's statement (the work); the ties are given (YtnkgbocdpngldaaGreatDoorTie.lean); close each card by the builder's one call (the guide's Derived/Test/ToyasCard.lean, 'card_holds'). Laid BY PROGRAM, IN A SANDBOX (cutbox-door.mjs). By AI agents, Wed Nov 11 2026. No macro, syntax, notation, axiom, sorry.
-/
import Derived.Test.YtnkgbocdpngldaaGreatDoorRows
import GoSem.ClaimSeven
namespace Go.Proofs.YtnkgbocdpngldaaGreatDoor
namespace Rows

/-- THE TIED CARD OF 'ringdownlaw04.LockMeets'. -/
def lockMeetsCard : Claim7 := { stood := { row := lockMeetsRow, standIns := [], harness := (true, "c5a6d7bdbb9d7caa2180157f63c7532c29f6eea2e72ef0cc99fddd002c785fba"), looks := true }, kinds := [], alts := [], laidByText := true, laidKinds := [.data, .data, .data, .data, .sentinel, .sentinel, .pinned], laidTests := true, laidLooks := .later }
def LockMeetsCardSaid : Prop := Claim7.holds Tryz.pinned (.plain (OpenSpec.ofChange lockMeetsSpec)) lockMeetsCard

/-- THE TIED CARD OF 'ringdownlaw04.LockNever'. -/
def lockNeverCard : Claim7 := { stood := { row := lockNeverRow, standIns := [], harness := (true, "c5a6d7bdbb9d7caa2180157f63c7532c29f6eea2e72ef0cc99fddd002c785fba"), looks := true }, kinds := [], alts := [], laidByText := true, laidKinds := [.data, .data, .data, .data, .sentinel, .sentinel, .pinned], laidTests := true, laidLooks := .later }
def LockNeverCardSaid : Prop := Claim7.holds Tryz.pinned (.plain (OpenSpec.ofChange lockNeverSpec)) lockNeverCard

/-- THE TIED CARD OF 'ringdownlaw04.LockRuns'. -/
def lockRunsCard : Claim7 := { stood := { row := lockRunsRow, standIns := [], harness := (true, "c5a6d7bdbb9d7caa2180157f63c7532c29f6eea2e72ef0cc99fddd002c785fba"), looks := true }, kinds := [], alts := [], laidByText := true, laidKinds := [.data, .data, .data, .data, .sentinel, .sentinel, .pinned], laidTests := true, laidLooks := .later }
def LockRunsCardSaid : Prop := Claim7.holds Tryz.pinned (.plain (OpenSpec.ofChange lockRunsSpec)) lockRunsCard

/-- THE TIED CARD OF 'ringdownlaw04.LockClimbs'. -/
def lockClimbsCard : Claim7 := { stood := { row := lockClimbsRow, standIns := [], harness := (true, "c5a6d7bdbb9d7caa2180157f63c7532c29f6eea2e72ef0cc99fddd002c785fba"), looks := true }, kinds := [], alts := [], laidByText := true, laidKinds := [.data, .data, .data, .data, .sentinel, .sentinel, .pinned], laidTests := true, laidLooks := .later }
def LockClimbsCardSaid : Prop := Claim7.holds Tryz.pinned (.plain (OpenSpec.ofChange lockClimbsSpec)) lockClimbsCard

/-- THE TIED CARD OF 'ringdownlaw04.LockHeld'. -/
def lockHeldCard : Claim7 := { stood := { row := lockHeldRow, standIns := [], harness := (true, "c5a6d7bdbb9d7caa2180157f63c7532c29f6eea2e72ef0cc99fddd002c785fba"), looks := true }, kinds := [], alts := [], laidByText := true, laidKinds := [.data, .data, .data, .data, .sentinel, .sentinel, .pinned], laidTests := true, laidLooks := .later }
def LockHeldCardSaid : Prop := Claim7.holds Tryz.pinned (.plain (OpenSpec.ofChange lockHeldSpec)) lockHeldCard

/-- THE TIED CARD OF 'ringdownlaw04.LockWorst'. -/
def lockWorstCard : Claim7 := { stood := { row := lockWorstRow, standIns := [], harness := (true, "c5a6d7bdbb9d7caa2180157f63c7532c29f6eea2e72ef0cc99fddd002c785fba"), looks := true }, kinds := [], alts := [], laidByText := true, laidKinds := [.data, .data, .data, .data, .sentinel, .sentinel, .pinned], laidTests := true, laidLooks := .later }
def LockWorstCardSaid : Prop := Claim7.holds Tryz.pinned (.plain (OpenSpec.ofChange lockWorstSpec)) lockWorstCard

/-- THE TIED CARD OF 'ringdownlaw04.LockGoal'. -/
def lockGoalCard : Claim7 := { stood := { row := lockGoalRow, standIns := [], harness := (true, "c5a6d7bdbb9d7caa2180157f63c7532c29f6eea2e72ef0cc99fddd002c785fba"), looks := true }, kinds := [], alts := [], laidByText := true, laidKinds := [.data, .data, .data, .data, .sentinel, .sentinel, .pinned], laidTests := true, laidLooks := .later }
def LockGoalCardSaid : Prop := Claim7.holds Tryz.pinned (.plain (OpenSpec.ofChange lockGoalSpec)) lockGoalCard

/-- THE TIED CARD OF 'ringdownlaw04.LockMoves'. -/
def lockMovesCard : Claim7 := { stood := { row := lockMovesRow, standIns := [], harness := (true, "c5a6d7bdbb9d7caa2180157f63c7532c29f6eea2e72ef0cc99fddd002c785fba"), looks := true }, kinds := [], alts := [], laidByText := true, laidKinds := [.data, .data, .data, .data, .sentinel, .sentinel, .pinned], laidTests := true, laidLooks := .later }
def LockMovesCardSaid : Prop := Claim7.holds Tryz.pinned (.plain (OpenSpec.ofChange lockMovesSpec)) lockMovesCard

/-- THE SECOND FORM's CARD OF 'ringdownlaw04.LockMeets'. -/
def lockMeetsUptoCard : Claim7 := { stood := { row := lockMeetsUptoRow, standIns := [], harness := (true, "c5a6d7bdbb9d7caa2180157f63c7532c29f6eea2e72ef0cc99fddd002c785fba"), looks := true }, kinds := [], alts := [], laidByText := true, laidKinds := [.data, .data, .data, .data, .sentinel, .sentinel, .pinned], laidTests := true, laidLooks := .later }
def LockMeetsUptoCardSaid : Prop := Claim7.holds Tryz.pinned (.plain (OpenSpec.upto lockMeetsSpec)) lockMeetsUptoCard

/-- THE SECOND FORM's CARD OF 'ringdownlaw04.LockNever'. -/
def lockNeverUptoCard : Claim7 := { stood := { row := lockNeverUptoRow, standIns := [], harness := (true, "c5a6d7bdbb9d7caa2180157f63c7532c29f6eea2e72ef0cc99fddd002c785fba"), looks := true }, kinds := [], alts := [], laidByText := true, laidKinds := [.data, .data, .data, .data, .sentinel, .sentinel, .pinned], laidTests := true, laidLooks := .later }
def LockNeverUptoCardSaid : Prop := Claim7.holds Tryz.pinned (.plain (OpenSpec.upto lockNeverSpec)) lockNeverUptoCard

/-- THE SECOND FORM's CARD OF 'ringdownlaw04.LockRuns'. -/
def lockRunsUptoCard : Claim7 := { stood := { row := lockRunsUptoRow, standIns := [], harness := (true, "c5a6d7bdbb9d7caa2180157f63c7532c29f6eea2e72ef0cc99fddd002c785fba"), looks := true }, kinds := [], alts := [], laidByText := true, laidKinds := [.data, .data, .data, .data, .sentinel, .sentinel, .pinned], laidTests := true, laidLooks := .later }
def LockRunsUptoCardSaid : Prop := Claim7.holds Tryz.pinned (.plain (OpenSpec.upto lockRunsSpec)) lockRunsUptoCard

/-- THE SECOND FORM's CARD OF 'ringdownlaw04.LockClimbs'. -/
def lockClimbsUptoCard : Claim7 := { stood := { row := lockClimbsUptoRow, standIns := [], harness := (true, "c5a6d7bdbb9d7caa2180157f63c7532c29f6eea2e72ef0cc99fddd002c785fba"), looks := true }, kinds := [], alts := [], laidByText := true, laidKinds := [.data, .data, .data, .data, .sentinel, .sentinel, .pinned], laidTests := true, laidLooks := .later }
def LockClimbsUptoCardSaid : Prop := Claim7.holds Tryz.pinned (.plain (OpenSpec.upto lockClimbsSpec)) lockClimbsUptoCard

/-- THE SECOND FORM's CARD OF 'ringdownlaw04.LockHeld'. -/
def lockHeldUptoCard : Claim7 := { stood := { row := lockHeldUptoRow, standIns := [], harness := (true, "c5a6d7bdbb9d7caa2180157f63c7532c29f6eea2e72ef0cc99fddd002c785fba"), looks := true }, kinds := [], alts := [], laidByText := true, laidKinds := [.data, .data, .data, .data, .sentinel, .sentinel, .pinned], laidTests := true, laidLooks := .later }
def LockHeldUptoCardSaid : Prop := Claim7.holds Tryz.pinned (.plain (OpenSpec.upto lockHeldSpec)) lockHeldUptoCard

/-- THE SECOND FORM's CARD OF 'ringdownlaw04.LockWorst'. -/
def lockWorstUptoCard : Claim7 := { stood := { row := lockWorstUptoRow, standIns := [], harness := (true, "c5a6d7bdbb9d7caa2180157f63c7532c29f6eea2e72ef0cc99fddd002c785fba"), looks := true }, kinds := [], alts := [], laidByText := true, laidKinds := [.data, .data, .data, .data, .sentinel, .sentinel, .pinned], laidTests := true, laidLooks := .later }
def LockWorstUptoCardSaid : Prop := Claim7.holds Tryz.pinned (.plain (OpenSpec.upto lockWorstSpec)) lockWorstUptoCard

/-- THE SECOND FORM's CARD OF 'ringdownlaw04.LockGoal'. -/
def lockGoalUptoCard : Claim7 := { stood := { row := lockGoalUptoRow, standIns := [], harness := (true, "c5a6d7bdbb9d7caa2180157f63c7532c29f6eea2e72ef0cc99fddd002c785fba"), looks := true }, kinds := [], alts := [], laidByText := true, laidKinds := [.data, .data, .data, .data, .sentinel, .sentinel, .pinned], laidTests := true, laidLooks := .later }
def LockGoalUptoCardSaid : Prop := Claim7.holds Tryz.pinned (.plain (OpenSpec.upto lockGoalSpec)) lockGoalUptoCard

/-- THE SECOND FORM's CARD OF 'ringdownlaw04.LockMoves'. -/
def lockMovesUptoCard : Claim7 := { stood := { row := lockMovesUptoRow, standIns := [], harness := (true, "c5a6d7bdbb9d7caa2180157f63c7532c29f6eea2e72ef0cc99fddd002c785fba"), looks := true }, kinds := [], alts := [], laidByText := true, laidKinds := [.data, .data, .data, .data, .sentinel, .sentinel, .pinned], laidTests := true, laidLooks := .later }
def LockMovesUptoCardSaid : Prop := Claim7.holds Tryz.pinned (.plain (OpenSpec.upto lockMovesSpec)) lockMovesUptoCard
end Rows
end Go.Proofs.YtnkgbocdpngldaaGreatDoor
