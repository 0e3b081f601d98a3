/-
  LoopBuilds holds: the row, and its tied card. Conditions: none beyond the row's own.
-/
import Derived.Test.YtdlioncecgnloaaGreatDoorTie
import Derived.Test.YtdlioncecgnloaaGreatDoorCards
import Derived.SevenTiedAt
import Derived.Test.YtdlioncecgnloaaGreatDoorYArgL
import Derived.Test.YtdlioncecgnloaaGreatDoorYJF
set_option linter.all false
set_option maxRecDepth 100000
set_option maxHeartbeats 8000000
namespace Go.Proofs.YtdlioncecgnloaaGreatDoor
open Go.RowKit Dc Dg
open Go.ChangeShapes Go.WideShapes Go.ChangeAt
set_option maxRecDepth 100000
theorem je:Rows.LoopBuildsSaid :=
 OpenClaim.holds_of_wide 7 Tryz.f7 rfl rfl rfl rfl rfl rfl rfl ⟨rfl,rfl,rfl,rfl,rfl⟩ rfl rfl rfl rfl rfl (by kernel_rfl) Tryz.func7 iI
  (of_decide_eq_true (by kernel_rfl)) (by unfold Func.isWrapper;first | (rw[if_pos (by decide +kernel)];kernel_rfl) | (rw[if_neg (by decide +kernel)];exact⟨rfl,rfl⟩))
  (fun os started H enc _=>jd os started H enc)
theorem loopBuilds_card_holds:Rows.LoopBuildsCardSaid :=
 Claim7.holds_tied_plain_at .later [] _ _ _ _ je (fun _ h=>by cases h) (by kernel_rfl) (fun _ h=>by cases h) loopBuilds_row_tie rfl ⟨rfl,rfl⟩ (by kernel_rfl) rfl
  (fun f fn hf hfn=>by
   obtain rfl:f=7:=Option.some.inj ((show Tryz.prog.funcNamed "ringdown/ringdownlaw03.LoopBuilds" = some 7 by kernel_rfl).symm.trans hf) |>.symm
   obtain rfl:fn=Tryz.f7:=(Option.some.inj (Tryz.func7.symm.trans hfn)).symm
   exact⟨jf,fun j t ht=>by
    rw[Tryz.params7] at ht
    have hm:t∈([28,3]:List TypeId):=by simpa using Au ht
    have hall:(([28,3]:List TypeId).all fun u=>!Tryz.prog.wantsStandIn u)=true:=by kernel_rfl
    exact (show Tryz.prog.wantsStandIn t=false by simpa using zS.1 hall t hm)⟩)
  jP
#print axioms loopBuilds_card_holds
end Go.Proofs.YtdlioncecgnloaaGreatDoor
