/- L -/
import Derived.JoinedOf
import Derived.Test.YtmakbmhlemhgeaaGreatDoorRows
import Derived.SevenTiedAt
import Derived.Test.YtmakbmhlemhgeaaGreatDoorQMach
set_option linter.all false
set_option maxRecDepth 100000
set_option maxHeartbeats 8000000
namespace Go.Proofs.YtmakbmhlemhgeaaGreatDoor
open Go.RowKit
theorem o7:laidOutB Tryz.prog=true:=by kernel_rfl
theorem o8:mapsRowed Tryz.prog=true:=by kernel_rfl
theorem g_:Tryz.prog.inPlace 3=Rows.topRebuiltRow.inPlace:=by kernel_rfl
theorem hI:Tryz.prog.unfollowed 3=Rows.topRebuiltRow.unfollowed:=by kernel_rfl
theorem hJ:Tryz.prog.recurses 3=Rows.topRebuiltRow.recurses:=by kernel_rfl
theorem hO:Tryz.prog.varsNamed 3=Rows.topRebuiltRow.named:=by kernel_rfl
theorem hY:Tryz.prog.plainKeys=Rows.topRebuiltRow.plainKeys:=by kernel_rfl
theorem eJ:joinedFacts Tryz.prog 3 Tryz.f3 Rows.topRebuiltSpec Rows.topRebuiltRow=true:=by
 unfold joinedFacts;rw[o7,o8,g_,hI,hJ,hO,hY]
 kernel_rfl
theorem fM:false=Rows.topRebuiltRow.goesBy Tryz.prog:=by kernel_rfl
theorem fm:true=Tryz.prog.looks []:=by kernel_rfl
end Go.Proofs.YtmakbmhlemhgeaaGreatDoor
