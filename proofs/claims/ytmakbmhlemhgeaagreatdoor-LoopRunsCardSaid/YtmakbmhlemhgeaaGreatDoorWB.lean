/-
  More short names.
-/
import Derived.ProofKit
import Derived.Laws.Rows
import Derived.Below
namespace Go.Proofs.YtmakbmhlemhgeaaGreatDoor
open Go Go.RowKit
abbrev Kg := @frozen_of_row
abbrev Kh := @bodyPost_ret
abbrev Ki := @Below.refl
end Go.Proofs.YtmakbmhlemhgeaaGreatDoor
