/-
  LoopCloses holds: the row, and its tied card. Conditions: none beyond the row's own.
-/
import Derived.Test.YtdlioncecgnloaaGreatDoorTie
import Derived.Test.YtdlioncecgnloaaGreatDoorCards
import Derived.SevenTiedAt
import Derived.Test.YtdlioncecgnloaaGreatDoorXLpa2
import Derived.Test.YtdlioncecgnloaaGreatDoorXJF
set_option linter.all false
set_option maxRecDepth 100000
set_option maxHeartbeats 8000000
namespace Go.Proofs.YtdlioncecgnloaaGreatDoor
open Go.RowKit Dc Dg
open Go.ChangeShapes Go.WideShapes Go.ChangeAt
set_option maxRecDepth 100000
theorem kt:Rows.LoopClosesSaid :=
 OpenClaim.holds_of_wide 12 Tryz.f12 rfl rfl rfl rfl rfl rfl rfl ⟨rfl,rfl,rfl,rfl,rfl⟩ rfl rfl rfl rfl rfl (by kernel_rfl) Tryz.func12 jV
  (of_decide_eq_true (by kernel_rfl)) (by unfold Func.isWrapper;first | (rw[if_pos (by decide +kernel)];kernel_rfl) | (rw[if_neg (by decide +kernel)];exact⟨rfl,rfl⟩))
  (fun os started H enc _=>kq os started H enc)
theorem loopCloses_card_holds:Rows.LoopClosesCardSaid :=
 Claim7.holds_tied_plain_at .later [] _ _ _ _ kt (fun _ h=>by cases h) (by kernel_rfl) (fun _ h=>by cases h) loopCloses_row_tie rfl ⟨rfl,rfl⟩ (by kernel_rfl) rfl
  (fun f fn hf hfn=>by
   obtain rfl:f=12:=Option.some.inj ((show Tryz.prog.funcNamed "ringdown/ringdownlaw03.LoopCloses" = some 12 by kernel_rfl).symm.trans hf) |>.symm
   obtain rfl:fn=Tryz.f12:=(Option.some.inj (Tryz.func12.symm.trans hfn)).symm
   exact⟨ku,fun j t ht=>by
    rw[Tryz.params12] at ht
    have hm:t∈([28,26]:List TypeId):=by simpa using C7 ht
    have hall:(([28,26]:List TypeId).all fun u=>!Tryz.prog.wantsStandIn u)=true:=by kernel_rfl
    exact (show Tryz.prog.wantsStandIn t=false by simpa using Cz.1 hall t hm)⟩)
  k_
#print axioms loopCloses_card_holds
end Go.Proofs.YtdlioncecgnloaaGreatDoor
