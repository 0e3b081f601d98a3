/-
  LoopComposes holds: the row, and its tied card. Conditions: none beyond the row's own.
-/
import Derived.Test.YtbnkpcfjechfiaaGreatDoorTie
import Derived.Test.YtbnkpcfjechfiaaGreatDoorCards
import Derived.SevenTiedAt
import Derived.Test.YtbnkpcfjechfiaaGreatDoorYWK1
import Derived.Test.YtbnkpcfjechfiaaGreatDoorYJF
set_option linter.all false
set_option maxRecDepth 100000
set_option maxHeartbeats 8000000
namespace Go.Proofs.YtbnkpcfjechfiaaGreatDoor
open Go.RowKit Dc Dg
open Go.ChangeShapes Go.WideShapes Go.ChangeAt
set_option maxRecDepth 100000
theorem kz:Rows.LoopComposesSaid :=
 OpenClaim.holds_of_wide 6 Tryz.f6 rfl rfl rfl rfl rfl rfl rfl ⟨rfl,rfl,rfl,rfl,rfl⟩ rfl rfl rfl rfl rfl (by kernel_rfl) Tryz.func6 j_
  (of_decide_eq_true (by kernel_rfl)) (by unfold Func.isWrapper;first | (rw[if_pos (by decide +kernel)];kernel_rfl) | (rw[if_neg (by decide +kernel)];exact⟨rfl,rfl⟩))
  (fun os started H enc _=>ky os started H enc)
theorem loopComposes_card_holds:Rows.LoopComposesCardSaid :=
 Claim7.holds_tied_plain_at .later [] _ _ _ _ kz (fun _ h=>by cases h) (by kernel_rfl) (fun _ h=>by cases h) loopComposes_row_tie rfl ⟨rfl,rfl⟩ (by kernel_rfl) rfl
  (fun f fn hf hfn=>by
   obtain rfl:f=6:=Option.some.inj ((show Tryz.prog.funcNamed "ringdown/ringdownlaw03.LoopComposes" = some 6 by kernel_rfl).symm.trans hf) |>.symm
   obtain rfl:fn=Tryz.f6:=(Option.some.inj (Tryz.func6.symm.trans hfn)).symm
   exact⟨kA,fun j t ht=>by
    rw[Tryz.params6] at ht;have hm:t∈([24,24]:List TypeId):=by simpa using Gg ht
    have hall:(([24,24]:List TypeId).all fun u=>!Tryz.prog.wantsStandIn u)=true:=by kernel_rfl
    exact (show Tryz.prog.wantsStandIn t=false by simpa using FX.1 hall t hm)⟩)
  k_
#print axioms loopComposes_card_holds
end Go.Proofs.YtbnkpcfjechfiaaGreatDoor
