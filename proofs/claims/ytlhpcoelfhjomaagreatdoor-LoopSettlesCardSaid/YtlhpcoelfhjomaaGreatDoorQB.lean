/-
  More short names.
-/
import Derived.ProofKit
import Derived.Laws.Rows
import Derived.Below
namespace Go.Proofs.YtlhpcoelfhjomaaGreatDoor
open Go Go.RowKit
abbrev LL := @frozen_of_row
abbrev LM := @bodyPost_ret
abbrev LN := @Below.refl
theorem LK {a b c:World} (h:Below a.heap.size a b) (k:Below b.heap.size b c):Below a.heap.size a c:=h.trans (k.mono h.size)
end Go.Proofs.YtlhpcoelfhjomaaGreatDoor
