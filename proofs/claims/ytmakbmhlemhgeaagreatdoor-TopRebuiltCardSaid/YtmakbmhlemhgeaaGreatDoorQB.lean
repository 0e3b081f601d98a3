/-
  More short names.
-/
import Derived.ProofKit
import Derived.Laws.Rows
import Derived.Below
namespace Go.Proofs.YtmakbmhlemhgeaaGreatDoor
open Go Go.RowKit
abbrev tZ := @frozen_of_row
abbrev t8 := @bodyPost_ret
abbrev t_ := @Below.refl
end Go.Proofs.YtmakbmhlemhgeaaGreatDoor
