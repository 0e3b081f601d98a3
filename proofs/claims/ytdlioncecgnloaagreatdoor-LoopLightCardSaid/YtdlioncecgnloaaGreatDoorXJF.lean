/- Lemmas of this claim. -/
import Derived.JoinedOf
import Derived.Test.YtdlioncecgnloaaGreatDoorRows
import Derived.SevenTiedAt
import Derived.Test.YtdlioncecgnloaaGreatDoorXMach
set_option linter.all false
set_option maxRecDepth 100000
set_option maxHeartbeats 8000000
namespace Go.Proofs.YtdlioncecgnloaaGreatDoor
open Go.RowKit
set_option maxRecDepth 100000
theorem oX:laidOutB Tryz.prog=true:=by kernel_rfl
theorem oY:mapsRowed Tryz.prog=true:=by kernel_rfl
set_option maxRecDepth 100000
theorem lg:Tryz.prog.inPlace 11=Rows.loopParallelRow.inPlace:=by kernel_rfl
theorem lh:Tryz.prog.unfollowed 11=Rows.loopParallelRow.unfollowed:=by kernel_rfl
theorem li:Tryz.prog.recurses 11=Rows.loopParallelRow.recurses:=by kernel_rfl
theorem lj:Tryz.prog.varsNamed 11=Rows.loopParallelRow.named:=by kernel_rfl
theorem lk:Tryz.prog.plainKeys=Rows.loopParallelRow.plainKeys:=by kernel_rfl
theorem i7:joinedFacts Tryz.prog 11 Tryz.f11 Rows.loopParallelSpec Rows.loopParallelRow=true:=by
 unfold joinedFacts
 rw[oX,oY,lg,lh,li,lj,lk]
 kernel_rfl
theorem jW:false=Rows.loopParallelRow.goesBy Tryz.prog:=by kernel_rfl
theorem ju:true=Tryz.prog.looks []:=by kernel_rfl
set_option maxRecDepth 100000
theorem mY:Tryz.prog.inPlace 12=Rows.loopClosesRow.inPlace:=by kernel_rfl
theorem mZ:Tryz.prog.unfollowed 12=Rows.loopClosesRow.unfollowed:=by kernel_rfl
theorem m6:Tryz.prog.recurses 12=Rows.loopClosesRow.recurses:=by kernel_rfl
theorem m7:Tryz.prog.varsNamed 12=Rows.loopClosesRow.named:=by kernel_rfl
theorem m8:Tryz.prog.plainKeys=Rows.loopClosesRow.plainKeys:=by kernel_rfl
theorem jV:joinedFacts Tryz.prog 12 Tryz.f12 Rows.loopClosesSpec Rows.loopClosesRow=true:=by
 unfold joinedFacts
 rw[oX,oY,mY,mZ,m6,m7,m8]
 kernel_rfl
theorem k_:false=Rows.loopClosesRow.goesBy Tryz.prog:=by kernel_rfl
theorem ku:true=Tryz.prog.looks []:=by kernel_rfl
set_option maxRecDepth 100000
theorem o6:Tryz.prog.inPlace 3=Rows.loopLightRow.inPlace:=by kernel_rfl
theorem o7:Tryz.prog.unfollowed 3=Rows.loopLightRow.unfollowed:=by kernel_rfl
theorem o8:Tryz.prog.recurses 3=Rows.loopLightRow.recurses:=by kernel_rfl
theorem o9:Tryz.prog.varsNamed 3=Rows.loopLightRow.named:=by kernel_rfl
theorem o_:Tryz.prog.plainKeys=Rows.loopLightRow.plainKeys:=by kernel_rfl
theorem kv:joinedFacts Tryz.prog 3 Tryz.f3 Rows.loopLightSpec Rows.loopLightRow=true:=by
 unfold joinedFacts
 rw[oX,oY,o6,o7,o8,o9,o_]
 kernel_rfl
theorem mg:false=Rows.loopLightRow.goesBy Tryz.prog:=by kernel_rfl
theorem lf:true=Tryz.prog.looks []:=by kernel_rfl
end Go.Proofs.YtdlioncecgnloaaGreatDoor
