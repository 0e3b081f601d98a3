/-
  LockKnown holds: the row, and its tied card. Conditions: none beyond the row's own.
-/
import Derived.Test.YtlkniohhalnjjaaGreatDoorTie
import Derived.Test.YtlkniohhalnjjaaGreatDoorCards
import Derived.SevenTiedAt
import Derived.Test.YtlkniohhalnjjaaGreatDoorKNev
import Derived.Test.YtlkniohhalnjjaaGreatDoorKKno3
set_option linter.all false
set_option maxRecDepth 100000
set_option maxHeartbeats 8000000
namespace Go.Proofs.YtlkniohhalnjjaaGreatDoor
open Go.RowKit Dc Dg
open Go.ChangeShapes Go.WideShapes Go.ChangeAt
set_option maxRecDepth 100000
theorem kQ {H:Type}{enc:TypeId×Value→H}{P:Program}{w:World}{b:Nat}{sp:Nat→Bool}{held:Bool}:∀ {vs:List Value}{ds:List (DataW H)}{p:List MemPlace},DataW.TrodAll enc P w b sp held [] vs ds p→vs=[]∧ds=[]∧p=[]
 | [],[],_,h=>⟨rfl,rfl,h⟩
 | [],_ :: _,_,h=>h.elim
 | _ :: _,[],_,h=>h.elim
 | _ :: _,_ :: _,_,h=>h.elim
theorem lP (os:Os) (started:os.Started) (H:Type) (enc:TypeId×Value→H) :
  ReturnsInHanded {} Tryz.checked os 3 .any (fun w args=>(Rows.lockKnownSpec.pre enc Tryz.prog Tryz.f3 [] false w args∧laidMetH Tryz.prog ke w)∧sizedMet enc Tryz.prog Tryz.f3 (OpenSpec.ofChange Rows.lockKnownSpec) false w args)
   (Rows.lockKnownSpec.post enc Tryz.prog Tryz.f3 false true false false):=by
 refine lO (C:=Tryz.checked) (X:=fun w _=>laidMetH Tryz.prog ke w) (fun _ _ _ hh h=>h.of_heap hh) own started (by kernel_rfl) Tryz.func3
  (ChangeSpec.witness_shaped (enc:=enc) (C:=Tryz.checked) (os:=os) (X:=fun w _=>laidMetH Tryz.prog ke w) false (World.laidAll Tryz.prog os ke) #[] 8 (World.laidAll_os _ _ _)
   (World.shaped_of_ZipB (by kernel_rfl) (by kernel_rfl)) (by kernel_rfl) (by kernel_rfl) (by kernel_rfl)
   (by rw[Go.MakeChecks.laidMetH_plain _ _ _ (by kernel_rfl)];exact laidMet_laidAll _ (by kernel_rfl) (by kernel_rfl))) ?_
 intro W base args ds gs before hval0 hW hwt hL hsh
 have hW':=hW
 obtain⟨p,q,hA0,hV,rfl,_,_⟩:=hW
 have hA:DataW.TrodAll enc Tryz.prog W 0 (fun _=>true) true Tryz.f3.params.toList args.toList ds p:=hA0
 rw[Tryz.params3] at hA
 obtain⟨ha,rfl,rfl⟩:=kQ hA
 obtain rfl:args=#[]:=Array.toList_inj.1 ha
 obtain⟨rfl,rfl⟩:=trodVars_none hV
 have hX:=tU hL hsh
 refine (m8 W hX).mono fun e W' ⟨he,hb⟩=>?_
 subst he
 exact⟨_,rfl,_,_,_,[],[],[],hW',trodAll_mk1 (shut_bool Tryz.underlying4 _),rfl,rfl,hb.frame _,fun h=>by cases h⟩
theorem iQ:Rows.LockKnownSaid :=
 OpenClaim.holds_of_wide 3 Tryz.f3 rfl rfl rfl rfl rfl rfl rfl ⟨rfl,rfl,rfl,rfl,rfl⟩ rfl rfl rfl rfl rfl (by kernel_rfl) Tryz.func3 (by kernel_rfl)
  (of_decide_eq_true (by kernel_rfl)) (by unfold Func.isWrapper;first | (rw[if_pos (by decide +kernel)];kernel_rfl) | (rw[if_neg (by decide +kernel)];exact⟨rfl,rfl⟩))
  (fun os started H enc _=>lP os started H enc)
theorem lockKnown_card_holds:Rows.LockKnownCardSaid :=
 Claim7.holds_tied_plain_at .later [] [.data,.data,.data,.data,.sentinel,.sentinel,.pinned] true (true, "a7b6ccbdf4564598deff9b720d1faf3681e7a67d34296e55bd43237cceee9cb1") true iQ (fun _ h=>by cases h) (by kernel_rfl) (fun _ h=>by cases h) lockKnown_row_tie rfl ⟨rfl,rfl⟩ (by kernel_rfl) rfl
  (fun f fn hf hfn=>by
   obtain rfl:f=3:=Option.some.inj ((show Tryz.prog.funcNamed "ringdown/ringdownlaw04.LockKnown" = some 3 by kernel_rfl).symm.trans hf) |>.symm
   obtain rfl:fn=Tryz.f3:=(Option.some.inj (Tryz.func3.symm.trans hfn)).symm
   exact⟨by kernel_rfl,fun j t ht=>by
    rw[Tryz.params3] at ht
    simp at ht⟩)
  (by kernel_rfl)
#print axioms lockKnown_card_holds
end Go.Proofs.YtlkniohhalnjjaaGreatDoor
