/-
  LoopSettles holds: the row, and its tied card. Conditions: none beyond the row's own.
-/
import Derived.Test.YtlhpcoelfhjomaaGreatDoorTie
import Derived.Test.YtlhpcoelfhjomaaGreatDoorCards
import Derived.SevenTiedAt
import Derived.Test.YtlhpcoelfhjomaaGreatDoorQLE5
import Derived.Test.YtlhpcoelfhjomaaGreatDoorQJF
set_option linter.all false
set_option maxRecDepth 100000
set_option maxHeartbeats 8000000
namespace Go.Proofs.YtlhpcoelfhjomaaGreatDoor
open Go.RowKit Dc Dg
open Go.ChangeShapes Go.WideShapes Go.ChangeAt
theorem mw:Rows.LoopSettlesSaid :=
 OpenClaim.holds_of_wide 3 Tryz.f3 rfl rfl rfl rfl rfl rfl rfl ⟨rfl,rfl,rfl,rfl,rfl⟩ rfl rfl rfl rfl rfl (by kernel_rfl) Tryz.func3 lP
  (of_decide_eq_true (by kernel_rfl)) (by unfold Func.isWrapper;first | (rw[if_pos (by decide +kernel)];kernel_rfl) | (rw[if_neg (by decide +kernel)];exact⟨rfl,rfl⟩))
  (fun os started H enc _=>mr os started H enc)
theorem loopSettles_card_holds:Rows.LoopSettlesCardSaid :=
 Claim7.holds_tied_plain_at .later [] _ _ _ _ mw (fun _ h=>by cases h) (by kernel_rfl) (fun _ h=>by cases h) loopSettles_row_tie rfl ⟨rfl,rfl⟩ (by kernel_rfl) rfl
  (fun f fn hf hfn=>by
   obtain rfl:f=3:=Option.some.inj ((show Tryz.prog.funcNamed "ringdown/ringdownlaw03.LoopSettles" = some 3 by kernel_rfl).symm.trans hf) |>.symm
   obtain rfl:fn=Tryz.f3:=(Option.some.inj (Tryz.func3.symm.trans hfn)).symm
   exact⟨mB,fun j t ht=>by
    rw[Tryz.params3] at ht;have hm:t∈([24,25]:List TypeId):=by simpa using Jm ht
    have hall:(([24,25]:List TypeId).all fun u=>!Tryz.prog.wantsStandIn u)=true:=by kernel_rfl
    exact (show Tryz.prog.wantsStandIn t=false by simpa using I5.1 hall t hm)⟩)
  ny
#print axioms loopSettles_card_holds
end Go.Proofs.YtlhpcoelfhjomaaGreatDoor
