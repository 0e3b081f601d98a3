/-
  LoopMakes holds: the row, and its tied card. Conditions: none beyond the row's own.
-/
import Derived.Test.YtbnkpcfjechfiaaGreatDoorTie
import Derived.Test.YtbnkpcfjechfiaaGreatDoorCards
import Derived.SevenTiedAt
import Derived.Test.YtbnkpcfjechfiaaGreatDoorQLmm1
import Derived.Test.YtbnkpcfjechfiaaGreatDoorQJF
set_option linter.all false
set_option maxRecDepth 100000
set_option maxHeartbeats 8000000
namespace Go.Proofs.YtbnkpcfjechfiaaGreatDoor
open Go.RowKit Dc Dg
open Go.ChangeShapes Go.WideShapes Go.ChangeAt
set_option maxRecDepth 100000
theorem mj:Rows.LoopMakesSaid :=
 OpenClaim.holds_of_wide 5 Tryz.f5 rfl rfl rfl rfl rfl rfl rfl ⟨rfl,rfl,rfl,rfl,rfl⟩ rfl rfl rfl rfl rfl (by kernel_rfl) Tryz.func5 ly
  (of_decide_eq_true (by kernel_rfl)) (by unfold Func.isWrapper;first | (rw[if_pos (by decide +kernel)];kernel_rfl) | (rw[if_neg (by decide +kernel)];exact⟨rfl,rfl⟩))
  (fun os started H enc _=>mh os started H enc)
theorem loopMakes_card_holds:Rows.LoopMakesCardSaid :=
 Claim7.holds_tied_plain_at .later [] _ _ _ _ mj (fun _ h=>by cases h) (by kernel_rfl) (fun _ h=>by cases h) loopMakes_row_tie rfl ⟨rfl,rfl⟩ (by kernel_rfl) rfl
  (fun f fn hf hfn=>by
   obtain rfl:f=5:=Option.some.inj ((show Tryz.prog.funcNamed "ringdown/ringdownlaw03.LoopMakes" = some 5 by kernel_rfl).symm.trans hf) |>.symm
   obtain rfl:fn=Tryz.f5:=(Option.some.inj (Tryz.func5.symm.trans hfn)).symm
   exact⟨mm,fun j t ht=>by
    rw[Tryz.params5] at ht;have hm:t∈([24,34,3]:List TypeId):=by simpa using FU ht
    have hall:(([24,34,3]:List TypeId).all fun u=>!Tryz.prog.wantsStandIn u)=true:=by kernel_rfl
    exact (show Tryz.prog.wantsStandIn t=false by simpa using FH.1 hall t hm)⟩)
  nL
#print axioms loopMakes_card_holds
end Go.Proofs.YtbnkpcfjechfiaaGreatDoor
