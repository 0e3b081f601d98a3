/-
  LoopKnown holds: the row, and its tied card. Conditions: none beyond the row's own.
-/
import Derived.Test.YtomkanblohhpfaaGreatDoorTie
import Derived.Test.YtomkanblohhpfaaGreatDoorCards
import Derived.SevenTiedAt
import Derived.Test.YtomkanblohhpfaaGreatDoorZArgL
import Derived.Test.YtomkanblohhpfaaGreatDoorZLkn2
set_option linter.all false
set_option maxRecDepth 100000
set_option maxHeartbeats 8000000
namespace Go.Proofs.YtomkanblohhpfaaGreatDoor
open Go.RowKit Dc Dg
open Go.ChangeShapes Go.WideShapes Go.ChangeAt
set_option maxRecDepth 100000
theorem jp (os:Os) (started:os.Started) (H:Type) (enc:TypeId×Value→H) :
  ReturnsInHanded {} Tryz.checked os 10 .any (fun w args=>(Rows.loopKnownSpec.pre enc Tryz.prog Tryz.f10 [] false w args∧laidMetH Tryz.prog gP w)∧sizedMet enc Tryz.prog Tryz.f10 (OpenSpec.ofChange Rows.loopKnownSpec) false w args)
   (Rows.loopKnownSpec.post enc Tryz.prog Tryz.f10 false true false false):=by
 refine ja (C:=Tryz.checked) (X:=fun w _=>laidMetH Tryz.prog gP w) (fun _ _ _ hh h=>h.of_heap hh) own started (by kernel_rfl) Tryz.func10
  (ChangeSpec.witness_shaped (enc:=enc) (C:=Tryz.checked) (os:=os) (X:=fun w _=>laidMetH Tryz.prog gP w) false (World.laidAll Tryz.prog os gP) #[] 8 (World.laidAll_os _ _ _)
   (World.shaped_of_ZipB (by kernel_rfl) (by kernel_rfl)) (by kernel_rfl) (by kernel_rfl) (by kernel_rfl)
   (by rw[Go.MakeChecks.laidMetH_plain _ _ _ (by kernel_rfl)];exact laidMet_laidAll _ (by kernel_rfl) (by kernel_rfl))) ?_
 intro W base args ds gs before hval0 hW hwt hL hsh
 have hW':=hW
 obtain⟨p,q,hA0,hV,rfl,_,_⟩:=hW
 have hA:DataW.TrodAll enc Tryz.prog W 0 (fun _=>true) true Tryz.f10.params.toList args.toList ds p:=hA0
 rw[Tryz.params10] at hA
 obtain⟨rfl,rfl,rfl⟩:=trodAll_none hA
 obtain⟨rfl,rfl⟩:=trodVars_none hV
 have hX:=vj hL hsh
 refine (qL W hX).mono fun e W' ⟨he,hb⟩=>?_
 subst he
 exact⟨_,rfl,_,_,_,[],[],[],hW',trodAll_mk1 (shut_bool Tryz.underlying4 _),rfl,rfl,hb.frame _,fun h=>by cases h⟩
theorem jq:Rows.LoopKnownSaid :=
 OpenClaim.holds_of_wide 10 Tryz.f10 rfl rfl rfl rfl rfl rfl rfl ⟨rfl,rfl,rfl,rfl,rfl⟩ rfl rfl rfl rfl rfl (by kernel_rfl) Tryz.func10 (by kernel_rfl)
  (of_decide_eq_true (by kernel_rfl)) (by unfold Func.isWrapper;first | (rw[if_pos (by decide +kernel)];kernel_rfl) | (rw[if_neg (by decide +kernel)];exact⟨rfl,rfl⟩))
  (fun os started H enc _=>jp os started H enc)
theorem loopKnown_card_holds:Rows.LoopKnownCardSaid :=
 Claim7.holds_tied_plain_at .later [] [.data,.data,.data,.data,.sentinel,.sentinel,.pinned] true (true, "4d26074f2531f3299dcc7c5f627f1d7932d969255aa9cd0a138b10424efb5e3c") true jq (fun _ h=>by cases h) (by kernel_rfl) (fun _ h=>by cases h) loopKnown_row_tie rfl ⟨rfl,rfl⟩ (by kernel_rfl) rfl
  (fun f fn hf hfn=>by
   obtain rfl:f=10:=Option.some.inj ((show Tryz.prog.funcNamed "ringdown/ringdownlaw03.LoopKnown" = some 10 by kernel_rfl).symm.trans hf) |>.symm
   obtain rfl:fn=Tryz.f10:=(Option.some.inj (Tryz.func10.symm.trans hfn)).symm
   exact⟨by kernel_rfl,fun j t ht=>by
    rw[Tryz.params10] at ht
    simp at ht⟩)
  (by kernel_rfl)
#print axioms loopKnown_card_holds
end Go.Proofs.YtomkanblohhpfaaGreatDoor
