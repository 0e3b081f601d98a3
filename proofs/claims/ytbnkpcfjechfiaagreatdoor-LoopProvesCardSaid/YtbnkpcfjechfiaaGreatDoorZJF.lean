/- Lemmas of this claim. -/
import Derived.JoinedOf
import Derived.Test.YtbnkpcfjechfiaaGreatDoorRows
import Derived.SevenTiedAt
import Derived.Test.YtbnkpcfjechfiaaGreatDoorZMach
set_option linter.all false
set_option maxRecDepth 100000
set_option maxHeartbeats 8000000
namespace Go.Proofs.YtbnkpcfjechfiaaGreatDoor
open Go.RowKit
set_option maxRecDepth 100000
theorem CU:laidOutB Tryz.prog=true:=by kernel_rfl
theorem CV:mapsRowed Tryz.prog=true:=by kernel_rfl
set_option maxRecDepth 100000
theorem oY:Tryz.prog.inPlace 3=Rows.loopProvesRow.inPlace:=by kernel_rfl
theorem oZ:Tryz.prog.unfollowed 3=Rows.loopProvesRow.unfollowed:=by kernel_rfl
theorem o6:Tryz.prog.recurses 3=Rows.loopProvesRow.recurses:=by kernel_rfl
theorem o7:Tryz.prog.varsNamed 3=Rows.loopProvesRow.named:=by kernel_rfl
theorem o8:Tryz.prog.plainKeys=Rows.loopProvesRow.plainKeys:=by kernel_rfl
theorem kS:joinedFacts Tryz.prog 3 Tryz.f3 Rows.loopProvesSpec Rows.loopProvesRow=true:=by
 unfold joinedFacts
 rw[CU,CV,oY,oZ,o6,o7,o8]
 kernel_rfl
theorem mB:false=Rows.loopProvesRow.goesBy Tryz.prog:=by kernel_rfl
theorem lF:true=Tryz.prog.looks []:=by kernel_rfl
end Go.Proofs.YtbnkpcfjechfiaaGreatDoor
