/-
  LoopHeld holds: the row, and its tied card. Conditions: none beyond the row's own.
-/
import Derived.Test.YtomkanblohhpfaaGreatDoorTie
import Derived.Test.YtomkanblohhpfaaGreatDoorCards
import Derived.SevenTiedAt
import Derived.Test.YtomkanblohhpfaaGreatDoorXLP2
import Derived.Test.YtomkanblohhpfaaGreatDoorXLhe1
set_option linter.all false
set_option maxRecDepth 100000
set_option maxHeartbeats 8000000
namespace Go.Proofs.YtomkanblohhpfaaGreatDoor
open Go.RowKit Dc Dg
open Go.ChangeShapes Go.WideShapes Go.ChangeAt
set_option maxRecDepth 100000
theorem kO (os:Os) (started:os.Started) (H:Type) (enc:TypeId×Value→H) :
  ReturnsInHanded {} Tryz.checked os 4 .any (fun w args=>(Rows.loopHeldSpec.pre enc Tryz.prog Tryz.f4 [] false w args∧laidMetH Tryz.prog ix w)∧sizedMet enc Tryz.prog Tryz.f4 (OpenSpec.ofChange Rows.loopHeldSpec) false w args)
   (Rows.loopHeldSpec.post enc Tryz.prog Tryz.f4 false true false false):=by
 refine jM (C:=Tryz.checked) (X:=fun w _=>laidMetH Tryz.prog ix w) (fun _ _ _ hh h=>h.of_heap hh) own started (by kernel_rfl) Tryz.func4
  (ChangeSpec.witness_shaped (enc:=enc) (C:=Tryz.checked) (os:=os) (X:=fun w _=>laidMetH Tryz.prog ix w) false (World.laidAll Tryz.prog os ix) #[.agg #[.slice none 0 0,.slice none 0 0],.agg #[.slice none 0 0,.slice none 0 0],.string ⟨#[48]⟩] 8 (World.laidAll_os _ _ _)
   (World.shaped_of_ZipB (by kernel_rfl) (by kernel_rfl)) (by kernel_rfl) (by kernel_rfl) (by kernel_rfl)
   (by rw[Go.MakeChecks.laidMetH_plain _ _ _ (by kernel_rfl)];exact laidMet_laidAll _ (by kernel_rfl) (by kernel_rfl))) ?_
 intro W base args ds gs before hval0 hW hwt hL hsh
 have hval:∀ (j:Nat) t v,Tryz.f4.params[j]?=some t→args[j]?=some v→Value.okWide Tryz.prog W .any base t v:=hval0
 have hW':=hW
 obtain⟨p,q,hA0,hV,rfl,_,_⟩:=hW
 have hA:DataW.TrodAll enc Tryz.prog W 0 (fun _=>true) true Tryz.f4.params.toList args.toList ds p:=hA0
 rw[Tryz.params4] at hA hval
 have hwt':(DataW.weightsEach Tryz.prog (Tryz.f4.params.toList++[]) (ds++gs)).all (·≤reachBytes)=true:=hwt
 rw[Tryz.params4,Aa] at hwt'
 obtain⟨v0,v1,v2,d0,d1,d2,p0,p1,p2,rfl,rfl,rfl,h0,h1,h2⟩:=trodAll_three hA
 obtain⟨rfl,rfl⟩:=trodVars_none hV
 simp only[Aa] at hW' hwt'
 have hX:=xB hL hsh
 have fits:∀ (j:Nat) (t:TypeId) (d:DataW H),([24,24,31]:List TypeId)[j]?=some t→[d0,d1,d2][j]?=some d→kp t d:=fun j t d ht hd n hn=>by
  have:=zF.1 hwt' n (DataW.weights_mem_each ht hd n hn)
  exact of_decide_eq_true this
 have hlt:∀ x∈p0++p1++p2,x.block<W.heap.size:=fun x hx=>by simpa using hW'.lt x hx
 have ok0:=hval 0 24 v0 rfl rfl
 obtain⟨cs0,hcs0,_⟩:=okWide_struct Tryz.underlying24 ok0
 obtain⟨a0,b0,hF0⟩:=g_ h0 (fits 0 _ _ rfl rfl) ⟨cs0,hcs0⟩
 have ok1:=hval 1 24 v1 rfl rfl
 obtain⟨cs1,hcs1,_⟩:=okWide_struct Tryz.underlying24 ok1
 obtain⟨a1,b1,hF1⟩:=g_ h1 (fits 1 _ _ rfl rfl) ⟨cs1,hcs1⟩
 have ok2:=hval 2 31 v2 rfl rfl
 obtain⟨s2,rfl⟩:=okWide_string qq ok2
 refine (uF v0 a0 b0 v1 a1 b1 s2 W hF0 hF1 hX).mono fun e W' ⟨he,hb⟩=>?_
 subst he
 exact⟨_,rfl,_,_,_,[],p0++p1++p2,[],hW',trodAll_mk1 (shut_bool Tryz.underlying4 _),(by rw[zS];exact trodAll_mk3 (Below.trod laidAll (by kernel_rfl) (of_decide_eq_true (by kernel_rfl)) h0 hb (fun x hx=>hlt x (by simp[hx]))) (Below.trod laidAll (by kernel_rfl) (of_decide_eq_true (by kernel_rfl)) h1 hb (fun x hx=>hlt x (by simp[hx]))) (Below.trod laidAll (by kernel_rfl) (of_decide_eq_true (by kernel_rfl)) h2 hb (fun x hx=>hlt x (by simp[hx])))),rfl,hb.frame _,fun h=>by cases h⟩
theorem kR:Rows.LoopHeldSaid :=
 OpenClaim.holds_of_wide 4 Tryz.f4 rfl rfl rfl rfl rfl rfl rfl ⟨rfl,rfl,rfl,rfl,rfl⟩ rfl rfl rfl rfl rfl (by kernel_rfl) Tryz.func4 (by kernel_rfl)
  (of_decide_eq_true (by kernel_rfl)) (by unfold Func.isWrapper;first | (rw[if_pos (by decide +kernel)];kernel_rfl) | (rw[if_neg (by decide +kernel)];exact⟨rfl,rfl⟩))
  (fun os started H enc _=>kO os started H enc)
theorem loopHeld_card_holds:Rows.LoopHeldCardSaid :=
 Claim7.holds_tied_plain_at .later [] [.data,.data,.data,.data,.sentinel,.sentinel,.pinned] true (true, "4d26074f2531f3299dcc7c5f627f1d7932d969255aa9cd0a138b10424efb5e3c") true kR (fun _ h=>by cases h) (by kernel_rfl) (fun _ h=>by cases h) loopHeld_row_tie rfl ⟨rfl,rfl⟩ (by kernel_rfl) rfl
  (fun f fn hf hfn=>by
   obtain rfl:f=4:=Option.some.inj ((show Tryz.prog.funcNamed "ringdown/ringdownlaw03.LoopHeld" = some 4 by kernel_rfl).symm.trans hf) |>.symm
   obtain rfl:fn=Tryz.f4:=(Option.some.inj (Tryz.func4.symm.trans hfn)).symm
   exact⟨by kernel_rfl,fun j t ht=>by
    rw[Tryz.params4] at ht
    have hm:t∈([24,24,31]:List TypeId):=by simpa using z_ ht
    have hall:(([24,24,31]:List TypeId).all fun u=>!Tryz.prog.wantsStandIn u)=true:=by kernel_rfl
    exact (show Tryz.prog.wantsStandIn t=false by simpa using zF.1 hall t hm)⟩)
  (by kernel_rfl)
#print axioms loopHeld_card_holds
end Go.Proofs.YtomkanblohhpfaaGreatDoor
