/- Lemmas of this claim. -/
import Derived.JoinedOf
import Derived.Test.YtbnkpcfjechfiaaGreatDoorRows
import Derived.SevenTiedAt
import Derived.Test.YtbnkpcfjechfiaaGreatDoorQMach
set_option linter.all false
set_option maxRecDepth 100000
set_option maxHeartbeats 8000000
namespace Go.Proofs.YtbnkpcfjechfiaaGreatDoor
open Go.RowKit
set_option maxRecDepth 100000
theorem CE:laidOutB Tryz.prog=true:=by kernel_rfl
theorem CF:mapsRowed Tryz.prog=true:=by kernel_rfl
set_option maxRecDepth 100000
theorem qL:Tryz.prog.inPlace 5=Rows.loopMakesRow.inPlace:=by kernel_rfl
theorem qM:Tryz.prog.unfollowed 5=Rows.loopMakesRow.unfollowed:=by kernel_rfl
theorem qN:Tryz.prog.recurses 5=Rows.loopMakesRow.recurses:=by kernel_rfl
theorem qO:Tryz.prog.varsNamed 5=Rows.loopMakesRow.named:=by kernel_rfl
theorem qP:Tryz.prog.plainKeys=Rows.loopMakesRow.plainKeys:=by kernel_rfl
theorem ly:joinedFacts Tryz.prog 5 Tryz.f5 Rows.loopMakesSpec Rows.loopMakesRow=true:=by
 unfold joinedFacts;rw[CE,CF,qL,qM,qN,qO,qP]
 kernel_rfl
theorem nL:false=Rows.loopMakesRow.goesBy Tryz.prog:=by kernel_rfl
theorem mm:true=Tryz.prog.looks []:=by kernel_rfl
end Go.Proofs.YtbnkpcfjechfiaaGreatDoor
