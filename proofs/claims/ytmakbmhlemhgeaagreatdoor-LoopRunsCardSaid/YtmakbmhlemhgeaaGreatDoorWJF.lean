/- L -/
import Derived.JoinedOf
import Derived.Test.YtmakbmhlemhgeaaGreatDoorRows
import Derived.SevenTiedAt
import Derived.Test.YtmakbmhlemhgeaaGreatDoorWMach
set_option linter.all false
set_option maxRecDepth 100000
set_option maxHeartbeats 8000000
namespace Go.Proofs.YtmakbmhlemhgeaaGreatDoor
open Go.RowKit
theorem DZ:laidOutB Tryz.prog=true:=by kernel_rfl
theorem D3:mapsRowed Tryz.prog=true:=by kernel_rfl
theorem tH:Tryz.prog.inPlace 4=Rows.loopRunsRow.inPlace:=by kernel_rfl
theorem tI:Tryz.prog.unfollowed 4=Rows.loopRunsRow.unfollowed:=by kernel_rfl
theorem tJ:Tryz.prog.recurses 4=Rows.loopRunsRow.recurses:=by kernel_rfl
theorem tK:Tryz.prog.varsNamed 4=Rows.loopRunsRow.named:=by kernel_rfl
theorem tL:Tryz.prog.plainKeys=Rows.loopRunsRow.plainKeys:=by kernel_rfl
theorem mZ:joinedFacts Tryz.prog 4 Tryz.f4 Rows.loopRunsSpec Rows.loopRunsRow=true:=by
 unfold joinedFacts;rw[DZ,D3,tH,tI,tJ,tK,tL]
 kernel_rfl
theorem pR:false=Rows.loopRunsRow.goesBy Tryz.prog:=by kernel_rfl
theorem oF:true=Tryz.prog.looks []:=by kernel_rfl
end Go.Proofs.YtmakbmhlemhgeaaGreatDoor
