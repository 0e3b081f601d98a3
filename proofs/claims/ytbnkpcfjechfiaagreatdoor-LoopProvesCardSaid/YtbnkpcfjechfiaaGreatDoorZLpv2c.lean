/-
  LoopProves holds: the row, and its tied card. Conditions: none beyond the row's own.
-/
import Derived.Test.YtbnkpcfjechfiaaGreatDoorTie
import Derived.Test.YtbnkpcfjechfiaaGreatDoorCards
import Derived.SevenTiedAt
import Derived.Test.YtbnkpcfjechfiaaGreatDoorZRV6
import Derived.Test.YtbnkpcfjechfiaaGreatDoorZJF
set_option linter.all false
set_option maxRecDepth 100000
set_option maxHeartbeats 8000000
namespace Go.Proofs.YtbnkpcfjechfiaaGreatDoor
open Go.RowKit Dc Dg
open Go.ChangeShapes Go.WideShapes Go.ChangeAt
set_option maxRecDepth 100000
theorem lE:Rows.LoopProvesSaid :=
 OpenClaim.holds_of_wide 3 Tryz.f3 rfl rfl rfl rfl rfl rfl rfl ⟨rfl,rfl,rfl,rfl,rfl⟩ rfl rfl rfl rfl rfl (by kernel_rfl) Tryz.func3 kS
  (of_decide_eq_true (by kernel_rfl)) (by unfold Func.isWrapper;first | (rw[if_pos (by decide +kernel)];kernel_rfl) | (rw[if_neg (by decide +kernel)];exact⟨rfl,rfl⟩))
  (fun os started H enc _=>lD os started H enc)
theorem loopProves_card_holds:Rows.LoopProvesCardSaid :=
 Claim7.holds_tied_plain_at .later [] _ _ _ _ lE (fun _ h=>by cases h) (by kernel_rfl) (fun _ h=>by cases h) loopProves_row_tie rfl ⟨rfl,rfl⟩ (by kernel_rfl) rfl
  (fun f fn hf hfn=>by
   obtain rfl:f=3:=Option.some.inj ((show Tryz.prog.funcNamed "ringdown/ringdownlaw03.LoopProves" = some 3 by kernel_rfl).symm.trans hf) |>.symm
   obtain rfl:fn=Tryz.f3:=(Option.some.inj (Tryz.func3.symm.trans hfn)).symm
   exact⟨lF,fun j t ht=>by
    rw[Tryz.params3] at ht
    have hm:t∈([24,22]:List TypeId):=by simpa using Gb ht
    have hall:(([24,22]:List TypeId).all fun u=>!Tryz.prog.wantsStandIn u)=true:=by kernel_rfl
    exact (show Tryz.prog.wantsStandIn t=false by simpa using FR.1 hall t hm)⟩)
  mB
#print axioms loopProves_card_holds
end Go.Proofs.YtbnkpcfjechfiaaGreatDoor
