/- Lemmas of this claim. -/
import Derived.JoinedOf
import Derived.Test.YtbnkpcfjechfiaaGreatDoorRows
import Derived.SevenTiedAt
import Derived.Test.YtbnkpcfjechfiaaGreatDoorYMach
set_option linter.all false
set_option maxRecDepth 100000
set_option maxHeartbeats 8000000
namespace Go.Proofs.YtbnkpcfjechfiaaGreatDoor
open Go.RowKit
set_option maxRecDepth 100000
theorem C3:laidOutB Tryz.prog=true:=by kernel_rfl
theorem C4:mapsRowed Tryz.prog=true:=by kernel_rfl
set_option maxRecDepth 100000
theorem mO:Tryz.prog.inPlace 6=Rows.loopComposesRow.inPlace:=by kernel_rfl
theorem mP:Tryz.prog.unfollowed 6=Rows.loopComposesRow.unfollowed:=by kernel_rfl
theorem mQ:Tryz.prog.recurses 6=Rows.loopComposesRow.recurses:=by kernel_rfl
theorem mR:Tryz.prog.varsNamed 6=Rows.loopComposesRow.named:=by kernel_rfl
theorem mS:Tryz.prog.plainKeys=Rows.loopComposesRow.plainKeys:=by kernel_rfl
theorem j_:joinedFacts Tryz.prog 6 Tryz.f6 Rows.loopComposesSpec Rows.loopComposesRow=true:=by
 unfold joinedFacts;rw[C3,C4,mO,mP,mQ,mR,mS]
 kernel_rfl
theorem k_:false=Rows.loopComposesRow.goesBy Tryz.prog:=by kernel_rfl
theorem kA:true=Tryz.prog.looks []:=by kernel_rfl
end Go.Proofs.YtbnkpcfjechfiaaGreatDoor
