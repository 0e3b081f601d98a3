/-
  More short names.
-/
import Derived.ProofKit
import Derived.Laws.Rows
import Derived.Below
namespace Go.Proofs.YtgakllaobooabaaGreatDoor
open Go Go.RowKit
abbrev Dt := @frozen_of_row
abbrev Du := @bodyPost_ret
abbrev Dv := @Below.refl
end Go.Proofs.YtgakllaobooabaaGreatDoor
