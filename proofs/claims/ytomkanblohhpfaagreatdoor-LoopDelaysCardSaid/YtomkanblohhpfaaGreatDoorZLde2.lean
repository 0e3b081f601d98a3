/-
  LoopDelays holds: the row, and its tied card. Conditions: none beyond the row's own.
-/
import Derived.Test.YtomkanblohhpfaaGreatDoorTie
import Derived.Test.YtomkanblohhpfaaGreatDoorCards
import Derived.SevenTiedAt
import Derived.Test.YtomkanblohhpfaaGreatDoorZArgL
import Derived.Test.YtomkanblohhpfaaGreatDoorZLde1
set_option linter.all false
set_option maxRecDepth 100000
set_option maxHeartbeats 8000000
namespace Go.Proofs.YtomkanblohhpfaaGreatDoor
open Go.RowKit Dc Dg
open Go.ChangeShapes Go.WideShapes Go.ChangeAt
set_option maxRecDepth 100000
theorem iO (os:Os) (started:os.Started) (H:Type) (enc:TypeId×Value→H) :
  ReturnsInHanded {} Tryz.checked os 6 .any (fun w args=>(Rows.loopDelaysSpec.pre enc Tryz.prog Tryz.f6 [] false w args∧laidMetH Tryz.prog gP w)∧sizedMet enc Tryz.prog Tryz.f6 (OpenSpec.ofChange Rows.loopDelaysSpec) false w args)
   (Rows.loopDelaysSpec.post enc Tryz.prog Tryz.f6 false true false false):=by
 refine ja (C:=Tryz.checked) (X:=fun w _=>laidMetH Tryz.prog gP w) (fun _ _ _ hh h=>h.of_heap hh) own started (by kernel_rfl) Tryz.func6
  (ChangeSpec.witness_shaped (enc:=enc) (C:=Tryz.checked) (os:=os) (X:=fun w _=>laidMetH Tryz.prog gP w) false (World.laidAll Tryz.prog os gP) #[.agg #[.slice none 0 0,.slice none 0 0],.int .i64 0] 8 (World.laidAll_os _ _ _)
   (World.shaped_of_ZipB (by kernel_rfl) (by kernel_rfl)) (by kernel_rfl) (by kernel_rfl) (by kernel_rfl)
   (by rw[Go.MakeChecks.laidMetH_plain _ _ _ (by kernel_rfl)];exact laidMet_laidAll _ (by kernel_rfl) (by kernel_rfl))) ?_
 intro W base args ds gs before hval0 hW hwt hL hsh
 have hval:∀ (j:Nat) t v,Tryz.f6.params[j]?=some t→args[j]?=some v→Value.okWide Tryz.prog W .any base t v:=hval0
 have hW':=hW
 obtain⟨p,q,hA0,hV,rfl,_,_⟩:=hW
 have hA:DataW.TrodAll enc Tryz.prog W 0 (fun _=>true) true Tryz.f6.params.toList args.toList ds p:=hA0
 rw[Tryz.params6] at hA hval
 have hwt':(DataW.weightsEach Tryz.prog (Tryz.f6.params.toList++[]) (ds++gs)).all (·≤reachBytes)=true:=hwt
 rw[Tryz.params6,yR] at hwt'
 obtain⟨v0,v1,d0,d1,p0,p1,rfl,rfl,rfl,h0,h1⟩:=trodAll_two hA
 obtain⟨rfl,rfl⟩:=trodVars_none hV
 simp only[yR] at hW' hwt'
 have hX:=vj hL hsh
 have fits:∀ (j:Nat) (t:TypeId) (d:DataW H),([24,3]:List TypeId)[j]?=some t→[d0,d1][j]?=some d→ku t d:=fun j t d ht hd n hn=>by
  have:=xV.1 hwt' n (DataW.weights_mem_each ht hd n hn)
  exact of_decide_eq_true this
 have hlt:∀ x∈p0++p1,x.block<W.heap.size:=fun x hx=>by simpa using hW'.lt x hx
 have ok0:=hval 0 24 v0 rfl rfl
 obtain⟨cs0,hcs0,_⟩:=okWide_struct Tryz.underlying24 ok0
 obtain⟨a0,b0,hF0⟩:=qD h0 (fits 0 _ _ rfl rfl) ⟨cs0,hcs0⟩
 have ok1:=hval 1 3 v1 rfl rfl
 obtain⟨z1,rfl⟩:=okWide_int und3 ok1
 refine (n_ v0 a0 b0 z1 W hF0 hX).mono fun e W' ⟨he,hb⟩=>?_
 subst he
 exact⟨_,rfl,_,_,_,[],p0++p1,[],hW',trodAll_mk1 (shut_bool Tryz.underlying4 _),trodAll_mk2 (Below.trod laidAll (by kernel_rfl) (of_decide_eq_true (by kernel_rfl)) h0 hb (fun x hx=>hlt x (by simp[hx]))) (Below.trod laidAll (by kernel_rfl) (of_decide_eq_true (by kernel_rfl)) h1 hb (fun x hx=>hlt x (by simp[hx]))),rfl,hb.frame _,fun h=>by cases h⟩
theorem iP:Rows.LoopDelaysSaid :=
 OpenClaim.holds_of_wide 6 Tryz.f6 rfl rfl rfl rfl rfl rfl rfl ⟨rfl,rfl,rfl,rfl,rfl⟩ rfl rfl rfl rfl rfl (by kernel_rfl) Tryz.func6 (by kernel_rfl)
  (of_decide_eq_true (by kernel_rfl)) (by unfold Func.isWrapper;first | (rw[if_pos (by decide +kernel)];kernel_rfl) | (rw[if_neg (by decide +kernel)];exact⟨rfl,rfl⟩))
  (fun os started H enc _=>iO os started H enc)
theorem loopDelays_card_holds:Rows.LoopDelaysCardSaid :=
 Claim7.holds_tied_plain_at .later [] [.data,.data,.data,.data,.sentinel,.sentinel,.pinned] true (true, "4d26074f2531f3299dcc7c5f627f1d7932d969255aa9cd0a138b10424efb5e3c") true iP (fun _ h=>by cases h) (by kernel_rfl) (fun _ h=>by cases h) loopDelays_row_tie rfl ⟨rfl,rfl⟩ (by kernel_rfl) rfl
  (fun f fn hf hfn=>by
   obtain rfl:f=6:=Option.some.inj ((show Tryz.prog.funcNamed "ringdown/ringdownlaw03.LoopDelays" = some 6 by kernel_rfl).symm.trans hf) |>.symm
   obtain rfl:fn=Tryz.f6:=(Option.some.inj (Tryz.func6.symm.trans hfn)).symm
   exact⟨by kernel_rfl,fun j t ht=>by
    rw[Tryz.params6] at ht
    have hm:t∈([24,3]:List TypeId):=by simpa using yx ht
    have hall:(([24,3]:List TypeId).all fun u=>!Tryz.prog.wantsStandIn u)=true:=by kernel_rfl
    exact (show Tryz.prog.wantsStandIn t=false by simpa using xV.1 hall t hm)⟩)
  (by kernel_rfl)
#print axioms loopDelays_card_holds
end Go.Proofs.YtomkanblohhpfaaGreatDoor
