/-
  LoopRuns holds: the row, and its tied card. Conditions: none beyond the row's own.
-/
import Derived.Test.YtmakbmhlemhgeaaGreatDoorTie
import Derived.Test.YtmakbmhlemhgeaaGreatDoorCards
import Derived.SevenTiedAt
import Derived.Test.YtmakbmhlemhgeaaGreatDoorWRV22
import Derived.Test.YtmakbmhlemhgeaaGreatDoorWJF
set_option linter.all false
set_option maxRecDepth 100000
set_option maxHeartbeats 8000000
namespace Go.Proofs.YtmakbmhlemhgeaaGreatDoor
open Go.RowKit Dc Dg
open Go.ChangeShapes Go.WideShapes Go.ChangeAt
theorem oE:Rows.LoopRunsSaid :=
 OpenClaim.holds_of_wide 4 Tryz.f4 rfl rfl rfl rfl rfl rfl rfl ⟨rfl,rfl,rfl,rfl,rfl⟩ rfl rfl rfl rfl rfl (by kernel_rfl) Tryz.func4 mZ
  (of_decide_eq_true (by kernel_rfl)) (by unfold Func.isWrapper;first | (rw[if_pos (by decide +kernel)];kernel_rfl) | (rw[if_neg (by decide +kernel)];exact⟨rfl,rfl⟩))
  (fun os started H enc _=>oB os started H enc)
theorem loopRuns_card_holds:Rows.LoopRunsCardSaid :=
 Claim7.holds_tied_plain_at .later [] _ _ _ _ oE (fun _ h=>by cases h) (by kernel_rfl) (fun _ h=>by cases h) loopRuns_row_tie rfl ⟨rfl,rfl⟩ (by kernel_rfl) rfl
  (fun f fn hf hfn=>by
   obtain rfl:f=4:=Option.some.inj ((show Tryz.prog.funcNamed "ringdown/ringdownlaw03.LoopRuns" = some 4 by kernel_rfl).symm.trans hf) |>.symm
   obtain rfl:fn=Tryz.f4:=(Option.some.inj (Tryz.func4.symm.trans hfn)).symm
   exact⟨oF,fun j t ht=>by
    rw[Tryz.params4] at ht;have hm:t∈([34,29,32]:List TypeId):=by simpa using Ib ht
    have hall:(([34,29,32]:List TypeId).all fun u=>!Tryz.prog.wantsStandIn u)=true:=by kernel_rfl
    exact (show Tryz.prog.wantsStandIn t=false by simpa using Hl.1 hall t hm)⟩)
  pR
#print axioms loopRuns_card_holds
end Go.Proofs.YtmakbmhlemhgeaaGreatDoor
