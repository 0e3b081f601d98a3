/- Lemmas of this claim. -/
import Derived.JoinedOf
import Derived.Test.YtdlioncecgnloaaGreatDoorRows
import Derived.SevenTiedAt
import Derived.Test.YtdlioncecgnloaaGreatDoorYMach
set_option linter.all false
set_option maxRecDepth 100000
set_option maxHeartbeats 8000000
namespace Go.Proofs.YtdlioncecgnloaaGreatDoor
open Go.RowKit
set_option maxRecDepth 100000
theorem wU:laidOutB Tryz.prog=true:=by kernel_rfl
theorem wV:mapsRowed Tryz.prog=true:=by kernel_rfl
set_option maxRecDepth 100000
theorem ll:Tryz.prog.inPlace 7=Rows.loopBuildsRow.inPlace:=by kernel_rfl
theorem lm:Tryz.prog.unfollowed 7=Rows.loopBuildsRow.unfollowed:=by kernel_rfl
theorem ln:Tryz.prog.recurses 7=Rows.loopBuildsRow.recurses:=by kernel_rfl
theorem lp:Tryz.prog.varsNamed 7=Rows.loopBuildsRow.named:=by kernel_rfl
theorem lq:Tryz.prog.plainKeys=Rows.loopBuildsRow.plainKeys:=by kernel_rfl
theorem iI:joinedFacts Tryz.prog 7 Tryz.f7 Rows.loopBuildsSpec Rows.loopBuildsRow=true:=by
 unfold joinedFacts
 rw[wU,wV,ll,lm,ln,lp,lq]
 kernel_rfl
theorem jP:false=Rows.loopBuildsRow.goesBy Tryz.prog:=by kernel_rfl
theorem jf:true=Tryz.prog.looks []:=by kernel_rfl
end Go.Proofs.YtdlioncecgnloaaGreatDoor
