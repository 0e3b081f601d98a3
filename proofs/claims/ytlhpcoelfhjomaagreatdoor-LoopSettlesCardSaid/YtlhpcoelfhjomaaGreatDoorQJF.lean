/- L -/
import Derived.JoinedOf
import Derived.Test.YtlhpcoelfhjomaaGreatDoorRows
import Derived.SevenTiedAt
import Derived.Test.YtlhpcoelfhjomaaGreatDoorQMach
set_option linter.all false
set_option maxRecDepth 100000
set_option maxHeartbeats 8000000
namespace Go.Proofs.YtlhpcoelfhjomaaGreatDoor
open Go.RowKit
theorem Fv:laidOutB Tryz.prog=true:=by kernel_rfl
theorem Fw:mapsRowed Tryz.prog=true:=by kernel_rfl
theorem qm:Tryz.prog.inPlace 3=Rows.loopSettlesRow.inPlace:=by kernel_rfl
theorem qo:Tryz.prog.unfollowed 3=Rows.loopSettlesRow.unfollowed:=by kernel_rfl
theorem qq:Tryz.prog.recurses 3=Rows.loopSettlesRow.recurses:=by kernel_rfl
theorem qt:Tryz.prog.varsNamed 3=Rows.loopSettlesRow.named:=by kernel_rfl
theorem qu:Tryz.prog.plainKeys=Rows.loopSettlesRow.plainKeys:=by kernel_rfl
theorem lP:joinedFacts Tryz.prog 3 Tryz.f3 Rows.loopSettlesSpec Rows.loopSettlesRow=true:=by
 unfold joinedFacts;rw[Fv,Fw,qm,qo,qq,qt,qu]
 kernel_rfl
theorem ny:false=Rows.loopSettlesRow.goesBy Tryz.prog:=by kernel_rfl
theorem mB:true=Tryz.prog.looks []:=by kernel_rfl
end Go.Proofs.YtlhpcoelfhjomaaGreatDoor
