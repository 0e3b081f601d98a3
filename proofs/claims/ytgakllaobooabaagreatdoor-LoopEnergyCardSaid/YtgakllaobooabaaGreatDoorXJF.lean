/- L -/
import Derived.JoinedOf
import Derived.Test.YtgakllaobooabaaGreatDoorRows
import Derived.SevenTiedAt
import Derived.Test.YtgakllaobooabaaGreatDoorXMach
set_option linter.all false
set_option maxRecDepth 100000
set_option maxHeartbeats 8000000
namespace Go.Proofs.YtgakllaobooabaaGreatDoor
open Go.RowKit
theorem x9:laidOutB Tryz.prog=true:=by kernel_rfl
theorem x_:mapsRowed Tryz.prog=true:=by kernel_rfl
theorem lO:Tryz.prog.inPlace 3=Rows.loopEnergyRow.inPlace:=by kernel_rfl
theorem lP:Tryz.prog.unfollowed 3=Rows.loopEnergyRow.unfollowed:=by kernel_rfl
theorem lQ:Tryz.prog.recurses 3=Rows.loopEnergyRow.recurses:=by kernel_rfl
theorem lR:Tryz.prog.varsNamed 3=Rows.loopEnergyRow.named:=by kernel_rfl
theorem lS:Tryz.prog.plainKeys=Rows.loopEnergyRow.plainKeys:=by kernel_rfl
theorem jj:joinedFacts Tryz.prog 3 Tryz.f3 Rows.loopEnergySpec Rows.loopEnergyRow=true:=by
 unfold joinedFacts;rw[x9,x_,lO,lP,lQ,lR,lS]
 kernel_rfl
theorem kg:false=Rows.loopEnergyRow.goesBy Tryz.prog:=by kernel_rfl
theorem jH:true=Tryz.prog.looks []:=by kernel_rfl
end Go.Proofs.YtgakllaobooabaaGreatDoor
