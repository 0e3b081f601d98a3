/-
  LockMoves holds: the row, and its tied card. Conditions: none beyond the row's own.
-/
import Derived.Test.YtnkgbocdpngldaaGreatDoorTie
import Derived.Test.YtnkgbocdpngldaaGreatDoorCards
import Derived.SevenTiedAt
import Derived.Test.YtnkgbocdpngldaaGreatDoorXNev
import Derived.Test.YtnkgbocdpngldaaGreatDoorXRF3
set_option linter.all false
set_option maxRecDepth 100000
set_option maxHeartbeats 8000000
namespace Go.Proofs.YtnkgbocdpngldaaGreatDoor
open Go.RowKit Dc Dg
open Go.ChangeShapes Go.WideShapes Go.ChangeAt
set_option maxRecDepth 100000
theorem rV (os:Os) (started:os.Started) (H:Type) (enc:TypeId×Value→H) :
  ReturnsInHanded {} Tryz.checked os 10 .any (fun w args=>(Rows.lockMovesSpec.pre enc Tryz.prog Tryz.f10 [] false w args∧laidMetH Tryz.prog pt w)∧sizedMet enc Tryz.prog Tryz.f10 (OpenSpec.ofChange Rows.lockMovesSpec) false w args)
   (Rows.lockMovesSpec.post enc Tryz.prog Tryz.f10 false true false false):=by
 refine rU (C:=Tryz.checked) (X:=fun w _=>laidMetH Tryz.prog pt w) (fun _ _ _ hh h=>h.of_heap hh) own started (by kernel_rfl) Tryz.func10
  (ChangeSpec.witness_shaped (enc:=enc) (C:=Tryz.checked) (os:=os) (X:=fun w _=>laidMetH Tryz.prog pt w) false (World.laidAll Tryz.prog os pt) #[.agg #[.slice none 0 0],.agg #[.slice none 0 0,.slice none 0 0],.agg #[.int .i64 0,.int .i64 0]] 8 (World.laidAll_os _ _ _)
   (World.shaped_of_ZipB (by kernel_rfl) (by kernel_rfl)) (by kernel_rfl) (by kernel_rfl) (by kernel_rfl)
   (by rw[Go.MakeChecks.laidMetH_plain _ _ _ (by kernel_rfl)];exact laidMet_laidAll _ (by kernel_rfl) (by kernel_rfl))) ?_
 intro W base args ds gs before hval0 hW hwt hL hsh
 have hval:∀ (j:Nat) t v,Tryz.f10.params[j]?=some t→args[j]?=some v→Value.okWide Tryz.prog W .any base t v:=hval0
 have hW':=hW
 obtain⟨p,q,hA0,hV,rfl,_,_⟩:=hW
 have hA:DataW.TrodAll enc Tryz.prog W 0 (fun _=>true) true Tryz.f10.params.toList args.toList ds p:=hA0
 rw[Tryz.params10] at hA hval
 have hwt':(DataW.weightsEach Tryz.prog (Tryz.f10.params.toList++[]) (ds++gs)).all (·≤reachBytes)=true:=hwt
 rw[Tryz.params10,DR] at hwt'
 obtain⟨v0,v1,v2,d0,d1,d2,p0,p1,p2,rfl,rfl,rfl,h0,h1,h2⟩:=trodAll_three hA
 obtain⟨rfl,rfl⟩:=trodVars_none hV
 simp only[DR] at hW' hwt'
 have hX:=CF hL hsh
 have fits:∀ (j:Nat) (t:TypeId) (d:DataW H),[24,41,53][j]?=some t→[d0,d1,d2][j]?=some d→iB t d:=fun j t d ht hd n hn=>by
  have:=Dq.1 hwt' n (DataW.weights_mem_each ht hd n hn)
  exact of_decide_eq_true this
 have hlt:∀ x∈p0++p1++p2,x.block<W.heap.size:=fun x hx=>by simpa using hW'.lt x hx
 have ok0:=hval 0 24 v0 rfl rfl
 have ok1:=hval 1 41 v1 rfl rfl
 have ok2:=hval 2 53 v2 rfl rfl
 obtain⟨p,c,gs,hv0,hP⟩:=Cj h0 (fits 0 _ _ rfl rfl) hX
 obtain⟨cs,rfl,_⟩:=okWide_struct Tryz.underlying24 ok0
 have hcs:cs=#[.slice p gs.length c]:=FL.1 hv0
 subst hcs
 obtain⟨cs1,hcs1,_⟩:=okWide_struct Tryz.underlying41 ok1
 obtain⟨pa,ca,pf,cf,al,fl,rfl,hZ⟩:=xq h1 (fits 1 _ _ rfl rfl) ⟨cs1,hcs1⟩
 obtain⟨cs2,hcs2,_⟩:=okWide_struct Tryz.underlying53 ok2
 obtain⟨b1,b2,rfl⟩:=yx h2 (fits 2 _ _ rfl rfl) ⟨cs2,hcs2⟩
 refine (tP gs p c pa ca pf cf al fl b1 b2 W hP hZ).mono fun e W' ⟨he,hb⟩=>?_
 subst he
 exact⟨_,rfl,_,_,_,[],p0++(p1++p2),[],hW',trodAll_mk1 (shut_bool Tryz.underlying4 _),trodAll_mk3 (Below.trod laidAll (by kernel_rfl) (of_decide_eq_true (by kernel_rfl)) h0 hb (fun x hx=>hlt x (by simp[hx]))) (Below.trod laidAll (by kernel_rfl) (of_decide_eq_true (by kernel_rfl)) h1 hb (fun x hx=>hlt x (by simp[hx]))) (Below.trod laidAll (by kernel_rfl) (of_decide_eq_true (by kernel_rfl)) h2 hb (fun x hx=>hlt x (by simp[hx]))),rfl,hb.frame _,fun h=>by cases h⟩
theorem mC:Rows.LockMovesSaid :=
 OpenClaim.holds_of_wide 10 Tryz.f10 rfl rfl rfl rfl rfl rfl rfl ⟨rfl,rfl,rfl,rfl,rfl⟩ rfl rfl rfl rfl rfl (by kernel_rfl) Tryz.func10 (by kernel_rfl)
  (of_decide_eq_true (by kernel_rfl)) (by unfold Func.isWrapper;first | (rw[if_pos (by decide +kernel)];kernel_rfl) | (rw[if_neg (by decide +kernel)];exact⟨rfl,rfl⟩))
  (fun os started H enc _=>rV os started H enc)
theorem lockMoves_card_holds:Rows.LockMovesCardSaid :=
 Claim7.holds_tied_plain_at .later [] [.data,.data,.data,.data,.sentinel,.sentinel,.pinned] true (true, "c5a6d7bdbb9d7caa2180157f63c7532c29f6eea2e72ef0cc99fddd002c785fba") true mC (fun _ h=>by cases h) (by kernel_rfl) (fun _ h=>by cases h) lockMoves_row_tie rfl ⟨rfl,rfl⟩ (by kernel_rfl) rfl
  (fun f fn hf hfn=>by
   obtain rfl:f=10:=Option.some.inj ((show Tryz.prog.funcNamed "ringdown/ringdownlaw04.LockMoves" = some 10 by kernel_rfl).symm.trans hf) |>.symm
   obtain rfl:fn=Tryz.f10:=(Option.some.inj (Tryz.func10.symm.trans hfn)).symm
   exact⟨by kernel_rfl,fun j t ht=>by
    rw[Tryz.params10] at ht
    have hm:t∈[24,41,53]:=by simpa using EW ht
    have hall:([24,41,53].all fun u=>!Tryz.prog.wantsStandIn u)=true:=by kernel_rfl
    exact (show Tryz.prog.wantsStandIn t=false by simpa using Dq.1 hall t hm)⟩)
  (by kernel_rfl)
#print axioms lockMoves_card_holds
end Go.Proofs.YtnkgbocdpngldaaGreatDoor
