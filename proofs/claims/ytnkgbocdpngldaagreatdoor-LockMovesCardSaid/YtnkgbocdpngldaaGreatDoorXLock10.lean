/- Lemmas of this claim. -/
import Derived.StillTailTactics
import Derived.ArgAppend
import Derived.RangeFuncWrites
import Derived.RangeFuncNested
import Derived.RangeFuncBound
import Derived.RangeFuncCalls
import Derived.RangeFuncLeaves
import Derived.Shelf.Abstract
import Derived.Shelf.RegionOpen
import Derived.OwnWalkIn
import Derived.TacticsInMore
import Derived.LoopNIn
import Derived.LoopIn
import Derived.Test.YtnkgbocdpngldaaGreatDoorXMach
import Derived.Test.YtnkgbocdpngldaaGreatDoorXKeys
import Derived.Test.YtnkgbocdpngldaaGreatDoorXRev
set_option linter.all false
set_option maxRecDepth 100000
set_option maxHeartbeats 8000000
namespace Go.Proofs.YtnkgbocdpngldaaGreatDoor
open Go.RowKit Dc Dg
structure jN (w0 w:World) (x:St) (g:Nat) (kd:Int):Prop where
 blk:StP w w0.heap.size x
 e0:w.cell? ⟨w0.heap.size+1,0,none⟩=some (.int .i64 g)
 e1:w.cell? ⟨w0.heap.size+1,1,none⟩=some (.int .i64 kd)
 res:StP w (w0.heap.size+2) St.zero
 bl:Below w0.heap.size w0 w
theorem jN.below {w0 w w':World}{x:St}{g:Nat}{kd:Int} (h:jN w0 w x g kd) (hb:Below w.heap.size w w'):jN w0 w' x g kd:=by
 have hlt:=h.res.lt
 exact⟨h.blk.below hb,(hb.cell (p:=⟨w0.heap.size+1,0,none⟩) (by show w0.heap.size+1<_;omega)).trans h.e0,(hb.cell (p:=⟨w0.heap.size+1,1,none⟩) (by show w0.heap.size+1<_;omega)).trans h.e1,h.res.below hb,h.bl.trans (hb.mono h.bl.size)⟩
theorem jN.go {w0 w:World}{x:St}{g:Nat}{kd:Int} (h:jN w0 w x g kd) {i:Nat} (hi:i<3) (k:Int):jN w0 (goW w w0.heap.size i k) (x.go i k) g kd:=by
 refine⟨h.blk.go hi k,?_,?_,?_,h.bl.trans (wj (C6 _))⟩
 ·rw[World.cell?,lz (by show w0.heap.size+1≠w0.heap.size;omega)];exact h.e0
 ·rw[World.cell?,lz (by show w0.heap.size+1≠w0.heap.size;omega)];exact h.e1
 ·unfold StP;rw[lz (by show w0.heap.size+2≠w0.heap.size;omega)];exact h.res
theorem jN.fail {w0 w:World}{x:St}{g:Nat}{kd:Int} (h:jN w0 w x g kd) {i:Nat} (hi:i<3):jN w0 (w.setCell ⟨w0.heap.size,3+i,none⟩ (.int .i64 (x.f i+1))) (x.fail i) g kd:=by
 refine⟨?_,?_,?_,?_,h.bl.setCell (p:=⟨w0.heap.size,3+i,none⟩) (C6 _) _⟩
 ·have hb:=h.blk
  rcases lt3 hi with rfl | rfl | rfl
  ·unfold StP;rw[heap_setCell_same w w0.heap.size (3+0) _ _ _ hb];rfl
  ·unfold StP;rw[heap_setCell_same w w0.heap.size (3+1) _ _ _ hb];rfl
  ·unfold StP;rw[heap_setCell_same w w0.heap.size (3+2) _ _ _ hb];rfl
 ·rw[World.cell?,Below.heap_setCell _ _ _ _ (by show w0.heap.size+1≠w0.heap.size;omega)];exact h.e0
 ·rw[World.cell?,Below.heap_setCell _ _ _ _ (by show w0.heap.size+1≠w0.heap.size;omega)];exact h.e1
 ·unfold StP;rw[Below.heap_setCell _ _ _ _ (by show w0.heap.size+2≠w0.heap.size;omega)];exact h.res
theorem StP.a {w:World}{b g:Nat}{x:St} (h:StP w b x) (hg:g<3):w.cell? ⟨b,g,none⟩=some (.int .i64 (x.a g)):=by
 rcases lt3 hg with rfl | rfl | rfl
 ·exact h.cell 0
 ·exact h.cell 1
 ·exact h.cell 2
theorem StP.f {w:World}{b g:Nat}{x:St} (h:StP w b x) (hg:g<3):w.cell? ⟨b,3+g,none⟩=some (.int .i64 (x.f g)):=by
 rcases lt3 hg with rfl | rfl | rfl
 ·exact h.cell 3
 ·exact h.cell 4
 ·exact h.cell 5
theorem jN.new (w:World) (x:St) (g:Nat) (kd:Int):jN w (((w.alloc (.cells #[.int .i64 x.a0,.int .i64 x.a1,.int .i64 x.a2,.int .i64 x.f0,.int .i64 x.f1,.int .i64 x.f2] 87)).alloc (.cells #[.int .i64 g,.int .i64 kd] 53)).alloc (.cells #[.int .i64 0,.int .i64 0,.int .i64 0,.int .i64 0,.int .i64 0,.int .i64 0] 87)) x g kd:=by
 have hb1:Below w.heap.size w (w.alloc (.cells #[.int .i64 x.a0,.int .i64 x.a1,.int .i64 x.a2,.int .i64 x.f0,.int .i64 x.f1,.int .i64 x.f2] 87)):=(Below.refl _ _).alloc (C6 _) _
 have a0:=StP.new w x
 have hz1:(w.alloc (.cells #[.int .i64 x.a0,.int .i64 x.a1,.int .i64 x.a2,.int .i64 x.f0,.int .i64 x.f1,.int .i64 x.f2] 87)).heap.size=w.heap.size+1:=by simp
 generalize w.alloc (.cells #[.int .i64 x.a0,.int .i64 x.a1,.int .i64 x.a2,.int .i64 x.f0,.int .i64 x.f1,.int .i64 x.f2] 87)=w1 at *
 have hb2:Below w1.heap.size w1 (w1.alloc (.cells #[.int .i64 g,.int .i64 kd] 53)):=(Below.refl _ _).alloc (C6 _) _
 have b0:=an w1 #[.int .i64 g,.int .i64 kd] 53 0 _ rfl
 have b1:=an w1 #[.int .i64 g,.int .i64 kd] 53 1 _ rfl
 have hz2:(w1.alloc (.cells #[.int .i64 g,.int .i64 kd] 53)).heap.size=w1.heap.size+1:=by simp
 generalize w1.alloc (.cells #[.int .i64 g,.int .i64 kd] 53)=w2 at *
 have hb3:Below w2.heap.size w2 (w2.alloc (.cells #[.int .i64 0,.int .i64 0,.int .i64 0,.int .i64 0,.int .i64 0,.int .i64 0] 87)):=(Below.refl _ _).alloc (C6 _) _
 have r0:=StP.new w2 St.zero
 rw[hz1] at b0 b1
 rw[hz2,hz1] at r0
 refine⟨(a0.below hb2).below hb3,(hb3.cell (p:=⟨w.heap.size+1,0,none⟩) (by show w.heap.size+1<_;omega)).trans b0,(hb3.cell (p:=⟨w.heap.size+1,1,none⟩) (by show w.heap.size+1<_;omega)).trans b1,r0,hb1.trans ((hb2.trans (hb3.mono hb2.size)).mono hb1.size)⟩
structure ux (w:World) (m:Nat) (gs:List Gd) (g k:Nat) (bg og cg bn on cn bb ob cb bu ou cu bv ov cv br orr cr:Nat):Prop where
 g0:w.cell? ⟨m,0,none⟩=some (.slice (some ⟨bg,og,none⟩) gs.length cg)
 n0:w.cell? ⟨m,1,none⟩=some (.slice (some ⟨bn,on,none⟩) gs.length cn)
 b0:w.cell? ⟨m,2,none⟩=some (.slice (some ⟨bb,ob,none⟩) gs.length cb)
 n1:w.cell? ⟨bn,on+g,none⟩=some (.slice (some ⟨bu,ou,none⟩) (ag gs g).length cu)
 b1:w.cell? ⟨bb,ob+g,none⟩=some (.slice (some ⟨bv,ov,none⟩) (ag gs g).length cv)
 n2:w.cell? ⟨bu,ou+k,none⟩=some (.int .i64 ((ah gs).next g k))
 b2:w.cell? ⟨bv,ov+k,none⟩=some (.int .i64 ((ah gs).back g k))
 t0:w.cell? ⟨bg,og+g*2+1,none⟩=some (.slice (some ⟨br,orr,none⟩) (ag gs g).length cr)
 t1:w.cell? ⟨br,orr+k*7+3,none⟩=some (.int .i64 ((ah gs).tries g k))
 lm:m<w.heap.size
 ln:bn<w.heap.size
 lb:bb<w.heap.size
 lu:bu<w.heap.size
 lv:bv<w.heap.size
 lg:bg<w.heap.size
 lr:br<w.heap.size
theorem ux.below {w w':World}{m:Nat}{gs:List Gd}{g k bg og cg bn on cn bb ob cb bu ou cu bv ov cv br orr cr:Nat} (h:ux w m gs g k bg og cg bn on cn bb ob cb bu ou cu bv ov cv br orr cr) (hb:Below w.heap.size w w'):ux w' m gs g k bg og cg bn on cn bb ob cb bu ou cu bv ov cv br orr cr :=
 ⟨(hb.cell (p:=⟨m,0,none⟩) h.lm).trans h.g0,(hb.cell (p:=⟨m,1,none⟩) h.lm).trans h.n0,(hb.cell (p:=⟨m,2,none⟩) h.lm).trans h.b0,(hb.cell (p:=⟨bn,_,none⟩) h.ln).trans h.n1,(hb.cell (p:=⟨bb,_,none⟩) h.lb).trans h.b1,(hb.cell (p:=⟨bu,_,none⟩) h.lu).trans h.n2,(hb.cell (p:=⟨bv,_,none⟩) h.lv).trans h.b2,(hb.cell (p:=⟨bg,_,none⟩) h.lg).trans h.t0,(hb.cell (p:=⟨br,_,none⟩) h.lr).trans h.t1,
  C8 h.lm hb.size,C8 h.ln hb.size,C8 h.lb hb.size,C8 h.lu hb.size,C8 h.lv hb.size,C8 h.lg hb.size,C8 h.lr hb.size⟩
theorem mI {gs:List Gd}{p:Option Addr}{c:Nat}{vn vb:Value}{mb N s:Nat}{f:Nat×Nat→Option Value}{w:World}{m g k:Nat} (hP:d_ w m gs p c vn vb mb N s f) (hg:g<gs.length) (hk:k<(ag gs g).length) :
  ∃ bg og cg bn on cn bb ob cb bu ou cu bv ov cv br orr cr,ux w m gs g k bg og cg bn on cn bb ob cb bu ou cu bv ov cv br orr cr:=by
 obtain⟨pn,cn,e1,hn⟩:=hP.n.at_
 obtain⟨bn,on,e2,hbn,hn⟩:=hn (by omega)
 obtain⟨u,hn1,hu⟩:=hn g hg
 obtain⟨pu,cu,e3,hu⟩:=hu.at_
 have l1:(iy gs g).length=(ag gs g).length:=by simp[iy]
 obtain⟨bu,ou,e4,hbu,hu⟩:=hu (by omega)
 have hu2:=hu k (by omega)
 obtain⟨pb,cb,e5,hb⟩:=hP.b.at_
 obtain⟨bb,ob,e6,hbb,hb⟩:=hb (by omega)
 obtain⟨v,hb1,hv⟩:=hb g hg
 obtain⟨pv,cv,e7,hv⟩:=hv.at_
 have l2:(iu gs g).length=(ag gs g).length:=by simp[iu]
 obtain⟨bv,ov,e8,hbv,hv⟩:=hv (by omega)
 have hv2:=hv k (by omega)
 obtain⟨bg,og,e9,hbg,hG⟩:=hP.G.at_ (by omega)
 obtain⟨q,cq,t0,t1,hR⟩:=hG g hg
 have hra:ag gs g=gs[g].rungs:=by unfold ag;rw[C7 hg]
 obtain⟨br,orr,e10,hbr,hr⟩:=hR.at_ (by rw[←hra];omega)
 obtain⟨q1,c1,q2,c2,hr⟩:=hr k (by rw[←hra];omega)
 subst e1;subst e2;subst e3;subst e4;subst e5;subst e6;subst e7;subst e8;subst e9;subst e10
 refine⟨bg,og,c,bn,on,cn,bb,ob,cb,bu,ou,cu,bv,ov,cv,br,orr,cq,hP.m0,hP.m1,hP.m2,?_,?_,?_,?_,?_,?_,hP.lt,hbn,hbb,hbu,hbv,hbg,hbr⟩
 ·rw[hn1,l1]
 ·rw[hb1,l2]
 ·rw[hu2];simp[iy]
 ·rw[hv2];simp[iu]
 ·rw[t1,hra]
 ·rw[hr.d3]
  show _=some (Value.int .i64 (aK gs g k).tries)
  unfold aK
  rw[C7 hk]
  simp only[hra]
theorem uI {M:aH}{x:St} (h:M.At x) (G:M.Good) {g:Nat} (hg:g<M.n) (hne:¬ x.f g=M.tries g (x.a g).toNat-1):M.At (x.fail g):=by
 have hn3:=G.n3
 refine⟨fun j hj=>by rw[St.a_fail _ (by omega)];exact h.a j hj,fun j hj=>?_,fun j hj hj3=>by rw[St.a_fail _ (by omega)];exact h.a0 j hj hj3,fun j hj hj3=>?_⟩
 ·rw[St.a_fail _ (by omega),St.f_fail _ (by omega) (by omega)]
  have:=h.f j hj
  split
  ·rename_i e;subst e;omega
  ·exact this
 ·rw[St.f_fail _ (by omega) (by omega),if_neg (by omega)];exact h.f0 j hj hj3
theorem uB (M:aH) (x:St) (g:Nat) (kd:Int):jQ M x ⟨g,kd⟩=if kd=2 then x.go g 0 else if kd=0∧0≤M.next g (x.a g).toNat then x.go g (M.next g (x.a g).toNat) else if kd=1∧x.f g=M.tries g (x.a g).toNat-1 then x.go g (M.back g (x.a g).toNat) else if kd=1 then x.fail g else x:=rfl
def stA (w:World) (b i:Nat):Nat:=match w.cell? ⟨b,i,none⟩ with | some (.int _ z)=>z.toNat | _=>0
theorem zZ {w:World}{b i:Nat}{x:St} (h:StP w b x) (hi:i<3):stA w b i=(x.a i).toNat:=by unfold stA;rw[h.a hi]
theorem m9 (M:aH) {n i:Nat}{z:St} (h:i<n):lW M (n-i) i z=lW M (n-(i+1)) (i+1) (iP M i z):=by
 rw[show n-i=(n-(i+1))+1 from by omega,lW]
theorem uT (gs:List Gd) (p:Option Addr) (c:Nat) (vn vb:Value) (mb N s:Nat) (f:Nat×Nat→Option Value) (w:World) (m:Nat) (x:St) (g:Nat) (kd:Int)
  (hP:d_ w m gs p c vn vb mb N s f) (hF:vp gs) (hS:aX gs=true) (hx:(ah gs).At x) (hg:g<gs.length) (hk0:0≤kd) (hk2:kd≤2) :
  Calls Tryz.prog 67 #[.pointer (some ⟨m,0,none⟩),.agg #[.int .i64 x.a0,.int .i64 x.a1,.int .i64 x.a2,.int .i64 x.f0,.int .i64 x.f1,.int .i64 x.f2],.agg #[.int .i64 g,.int .i64 kd]] w
   (fun e w'=>∃ y:St,e=.returned (.agg #[.int .i64 y.a0,.int .i64 y.a1,.int .i64 y.a2,.int .i64 y.f0,.int .i64 y.f1,.int .i64 y.f2])∧Hid (cE (ah gs) x ⟨g,kd⟩=y)∧Below w.heap.size w w'):=by
 have hn3:=(a_ hS).2
 have ha:=hx.a g hg
 have ha8:=(bD hS).r8 g hg
 have hrr:(ah gs).rungs g=(ag gs g).length:=rfl
 obtain⟨k,hk⟩:∃ k:Nat,k=(x.a g).toNat:=⟨_,rfl⟩
 have hkr:k<(ag gs g).length:=by omega
 obtain⟨bg,og,cg,bn,on,cn,bb,ob,cb,bu,ou,cu,bv,ov,cv,br,orr,cr,hN⟩:=mI hP hg hkr
 have S0:=jN.new w x g kd
 have hg3:g<3:=by omega
 have hgI:(g:Int)<3:=by omega
 have cg:=S0.blk.a hg3
 go_enter Tryz.func67,Tryz.ntmps67
 go_upto_block 0 with fail
 generalize (((w.alloc (.cells #[.int .i64 x.a0,.int .i64 x.a1,.int .i64 x.a2,.int .i64 x.f0,.int .i64 x.f1,.int .i64 x.f2] 87)).alloc (.cells #[.int .i64 g,.int .i64 kd] 53)).alloc (.cells #[.int .i64 0,.int .i64 0,.int .i64 0,.int .i64 0,.int .i64 0,.int .i64 0] 87))=w3 at S0 cg ⊢
 go_cut [18] from 18 to 103 (fun s18 wx=>∃ y:St,Hid (jQ (ah gs) x ⟨g,kd⟩=y)∧(ah gs).At y∧jN w wx y g kd)
 case first =>
  have hact:=uB (ah gs) x g kd
  have HKE:=C5 hk
  have HX:=C5 hx
  have GD:=C5 (bD hS)
  have hki:0≤x.a g:=ha.1
  have hkl:x.a g<((ag gs g).length:Int):=by omega
  obtain⟨kk,HKK⟩:∃ kk:Int,Hid (kd=kk):=⟨kd,rfl⟩
  have e1:=S0.e1
  rw[HKK.out] at e1
  have HKR:0≤kk∧kk≤2:=by rw[←HKK.out];exact⟨hk0,hk2⟩
  have HACT:=C5 hact
  rw[HKK.out] at HACT
  have hnr:=GD.out.next g k hg hkr
  have hbr:=(show 0≤(ah gs).back g k∧(ah gs).back g k<(ag gs g).length by
   refine⟨GD.out.back0 g k hg hkr,?_⟩
   rcases DQ k with h | h
   ·have:=GD.out.backz g hg;rw[h,this];omega
   ·have:=GD.out.back g k hg hkr h;omega)
  have htr:=GD.out.tries g k hg hkr
  have hfr:=hx.f g hg
  rw[←hk] at hfr
  obtain⟨nx,hnx⟩:∃ nx,Hid ((ah gs).next g k=nx):=⟨_,rfl⟩
  obtain⟨bk,hbk⟩:∃ bk,Hid ((ah gs).back g k=bk):=⟨_,rfl⟩
  obtain⟨tt,htt⟩:∃ tt,Hid ((ah gs).tries g k=tt):=⟨_,rfl⟩
  rw[hnx.out] at hnr
  rw[hbk.out] at hbr
  rw[htt.out] at htr hfr
  have NB:=hN.below S0.bl
  clear hact hx hP hF hS hk0 hk2
  have hgn:(g:Int)<(gs.length:Int):=by omega
  clear hk
  rcases (by omega:kk=0∨kk=1∨kk=2) with rfl | rfl | rfl
  ·by_cases hge:0≤nx
   ·have n0:=NB.n0;have n1:=NB.n1;have n2:=NB.n2
    rw[hnx.out,HKE.out] at n2
    have hd:decide ((0:Int)≤nx)=true:=by simp;omega
    have HA:Hid (jQ (ah gs) x ⟨g,kd⟩=x.go g nx):=by unfold Hid;rw[HKK.out,HACT.out,←HKE.out,hnx.out,hbk.out,htt.out];simp;omega
    have HNX:=C5 hnx.out
    have HGE:=C5 hge
    clear hge
    go_wp2_with fail
    refine (toN w3 w.heap.size g x nx hg3 S0.blk).mono ?_
    rintro e w4 ⟨rfl,rfl⟩
    go_wp2
    go_meet
    exact⟨x.go g nx,HA,HX.out.go GD.out hg HGE.out hnr.2,S0.go hg3 nx⟩
   ·have n0:=NB.n0;have n1:=NB.n1;have n2:=NB.n2
    rw[hnx.out,HKE.out] at n2
    have hd:decide ((0:Int)≤nx)=false:=by simp;omega
    have HA:Hid (jQ (ah gs) x ⟨g,kd⟩=x):=by unfold Hid;rw[HKK.out,HACT.out,←HKE.out,hnx.out,hbk.out,htt.out];simp;omega
    clear hge
    go_wp2_with fail
    go_quiet (fail)
    go_wp2
    go_meet
    exact⟨x,HA,HX.out,S0.below (below_drewN (Below.refl _ _) _)⟩
  ·have g0:=NB.g0;have t0:=NB.t0;have t1:=NB.t1;have b0:=NB.b0;have b1:=NB.b1;have b2:=NB.b2
   have cf:=S0.blk.f hg3
   rw[htt.out,HKE.out] at t1
   rw[hbk.out,HKE.out] at b2
   by_cases hge:x.f g=tt-1
   ·have hd:(x.f g == tt-1)=true:=by simp[hge]
    have HA:Hid (jQ (ah gs) x ⟨g,kd⟩=x.go g bk):=by unfold Hid;rw[HKK.out,HACT.out,←HKE.out,hnx.out,hbk.out,htt.out];simp;omega
    have HGE:=C5 hge
    clear hge
    go_wp2_with fail
    go_quiet (fail)
    have S1:=S0.below (below_drewN (Below.refl w3.heap.size w3) nq)
    go_wp2_with fail
    refine (toN (w3.drewN nq) w.heap.size g x bk hg3 S1.blk).mono ?_
    rintro e w4 ⟨rfl,rfl⟩
    go_wp2
    go_meet
    exact⟨x.go g bk,HA,HX.out.go GD.out hg hbr.1 hbr.2,S1.go hg3 bk⟩
   ·have hd:(x.f g == tt-1)=false:=by simp;omega
    have HA:Hid (jQ (ah gs) x ⟨g,kd⟩=x.fail g):=by unfold Hid;rw[HKK.out,HACT.out,←HKE.out,hnx.out,hbk.out,htt.out];simp;omega
    have HGE:=C5 hge
    clear hge
    go_wp2_with fail
    go_quiet (fail)
    have S1:=S0.below (below_drewN (Below.refl w3.heap.size w3) nq)
    have ff:=S1.blk.fr (3+g)
    have HAF:=C5 (uI HX.out GD.out hg (show ¬ x.f g=(ah gs).tries g (x.a g).toNat-1 by rw[←HKE.out,htt.out];exact HGE.out))
    go_wp2_with fail
    go_meet
    exact⟨x.fail g,HA,HAF.out,S1.fail hg3⟩
  ·have HA:Hid (jQ (ah gs) x ⟨g,kd⟩=x.go g 0):=by unfold Hid;rw[HKK.out,HACT.out,←HKE.out,hnx.out,hbk.out,htt.out];simp
   go_wp2_with fail
   refine (toN w3 w.heap.size g x 0 hg3 S0.blk).mono ?_
   rintro e w4 ⟨rfl,rfl⟩
   go_wp2
   go_meet
   exact⟨x.go g 0,HA,HX.out.go GD.out hg (FR _) (by have:=GD.out.r0 g hg;omega),S0.go hg3 0⟩
 case rest =>
  obtain⟨y,hact,hy,S1⟩:=hcut
  have GD:=C5 (bD hS)
  have HP:=C5 hP
  have NB:=hN.below S1.bl
  have g0:=NB.g0
  clear S0 cg hN ha hk hkr hrr ha8
  go_wp2_with fail
  go_loopw [110] (fun s110 wx=>∃ (i:Nat) (z:St),s110=.int .i64 i∧i≤gs.length∧(ah gs).At z∧jN w wx z g kd∧Hid (cE (ah gs) x ⟨g,kd⟩=lW (ah gs) (gs.length-i) i z)) (fun s110 _=>gs.length-(intOf s110).toNat)
  case atStart=>exact⟨0,y,rfl,by omega,hy,S1,by unfold Hid cE;rw[hact.out];rfl⟩
  case round =>
   clear S1 g0 hact hy NB
   obtain⟨i,z,rfl,hi,hz,S,hx2⟩:=hrel
   by_cases hil:i<gs.length
   ·have hi3:i<3:=by omega
    go_wp2_with fail
    go_loopw [118] (fun _ wx=>∃ u:St,(ah gs).At u∧jN w wx u g kd∧Hid (iP (ah gs) i z=iP (ah gs) i u)) (fun _ wx=>stA wx w.heap.size i)
    case atStart=>exact⟨z,hz,S,rfl⟩
    case round =>
     clear S
     obtain⟨u,hu,S2,hfu⟩:=hrel
     have c0:=S2.blk.cell 0;have c1:=S2.blk.cell 1;have c2:=S2.blk.cell 2
     go_wp2_with fail
     refine (Bx gs p c vn vb mb N s f _ m u i (HP.out.below S2.bl) hF hS hu hil).mono ?_
     rintro e w5 ⟨rfl,hb5⟩
     have S3:=S2.below hb5
     have HM0:=C5 (zZ S2.blk hi3)
     clear S2 hb5 c0 c1 c2
     cases hh:dK (ah gs) u i
     ·obtain⟨f1,f2,f3,f4⟩:=m7 GD.out hil hu hh
      have HF4:=C5 f4
      clear hh f4
      have hur:=hu.a i hil
      have hrr:(ah gs).rungs i=(ag gs i).length:=rfl
      obtain⟨bg',og',cg',bn',on',cn',bb',ob',cb',bu',ou',cu',bv',ov',cv',br',orr',cr',hN'⟩:=mI HP.out hil (show (u.a i).toNat<(ag gs i).length by omega)
      have NB':=hN'.below S3.bl
      have b0:=NB'.b0;have b1:=NB'.b1;have b2:=NB'.b2
      obtain⟨bk,hbk⟩:∃ bk,Hid ((ah gs).back i (u.a i).toNat=bk):=⟨_,rfl⟩
      rw[hbk.out] at b2 f2 f3
      have ca:=S3.blk.a hi3
      have hu0:0≤u.a i:=hur.1
      have hul:u.a i<((ag gs i).length:Int):=by omega
      have hil2:(i:Int)<(gs.length:Int):=by omega
      have hi3I:(i:Int)<3:=by omega
      clear NB' hN' hrr
      go_wp2_with fail
      go_still_tail 15,(by kernel_rfl)
      have S4:jN w w5.drew u g kd:=S3.below (below_drewN (Below.refl _ _) 1)
      change wpList _ _ _ _ _ w5.drew
      generalize w5.drew=w6 at S4 ⊢
      go_wp2_with fail
      refine (toN w6 w.heap.size i u bk hi3 S4.blk).mono ?_
      rintro e w7 ⟨rfl,rfl⟩
      have S5:=S4.go hi3 bk
      have HM1:=C5 (zZ S5.blk hi3)
      go_wp2
      go_roundw
      case rel=>exact⟨u.go i bk,hu.go GD.out hil f2 (by have:=hur.2;omega),S5,by unfold Hid;rw[hfu.out,HF4.out,hbk.out]⟩
      case measure=>rw[HM1.out,HM0.out,St.a_go _ hi3 hi3,if_pos rfl];omega
     ·have HH:=C5 hh
      clear hh
      go_wp2
      go_roundw
      case rel=>exact⟨i+1,u,by go_num,by omega,hu,S3,by unfold Hid;rw[hx2.out,m9 _ hil,hfu.out,mZ HH.out]⟩
      case measure=>simp[intOf];omega
   ·obtain rfl:i=gs.length:=by omega
    clear hil hi
    have c0:=S.blk.cell 0;have c1:=S.blk.cell 1;have c2:=S.blk.cell 2;have c3:=S.blk.cell 3;have c4:=S.blk.cell 4;have c5:=S.blk.cell 5
    have q0:=S.res.cell 0;have q1:=S.res.cell 1;have q2:=S.res.cell 2;have q3:=S.res.cell 3;have q4:=S.res.cell 4;have q5:=S.res.cell 5
    have f0:=S.res.fr 0;have f1:=S.res.fr 1;have f2:=S.res.fr 2;have f3:=S.res.fr 3;have f4:=S.res.fr 4;have f5:=S.res.fr 5
    have SP:=S.res.put z
    have hB:=S.bl.trans (bo (w:=wr) (n:=w.heap.size) (b:=w.heap.size+2) (z:=z) (by omega))
    go_wp2_with fail
    change bodyPost _ _ _ _ _ (bh wr (w.heap.size+2) z)
    clear c0 c1 c2 c3 c4 c5 q0 q1 q2 q3 q4 q5 f0 f1 f2 f3 f4 f5
    generalize bh wr (w.heap.size+2) z=W at SP hB ⊢
    have q0:=SP.cell 0;have q1:=SP.cell 1;have q2:=SP.cell 2;have q3:=SP.cell 3;have q4:=SP.cell 4;have q5:=SP.cell 5
    refine bodyPost_ret (v:=.agg #[.int .i64 z.a0,.int .i64 z.a1,.int .i64 z.a2,.int .i64 z.f0,.int .i64 z.f1,.int .i64 z.f2]) (by simp[results,Tryz.results67,go_sem,q0,q1,q2,q3,q4,q5]) rfl ⟨z,rfl,by unfold Hid;rw[hx2.out,Fj];rfl,hB⟩
def aU (x:St):List Value:=[.int .i64 x.a0,.int .i64 x.a1,.int .i64 x.a2,.int .i64 x.f0,.int .i64 x.f1,.int .i64 x.f2]
theorem il (L:List St):(L.flatMap aU).length=L.length*6:=by
 induction L with
 | nil=>rfl
 | cons x L ih=>rw[DN,Dd,ih];simp[aU];omega
def dh (B:Nat) (w:World) (v:Value) (q:List St):Prop:=∃ ao cap,v=.slice ao q.length cap∧q.length≤cap∧cap≤maxLen ∧
 (0<cap→∃ g off cur,ao=some ⟨g,off,none⟩∧B≤g∧w.heap[g]?=some (.cells cur 87 (0,0))∧off+cap*6≤cur.size∧∀ j u,(q.flatMap aU)[j]?=some u→cur[off+j]?=some u)
theorem dh.start {B:Nat}{w:World}{b:Nat}{x:St} (h:StP w b x) (hb:B≤b):dh B w (.slice (some ⟨b,0,none⟩) 1 1) [x]:=by
 refine⟨_,_,rfl,C6 _,by unfold maxLen;omega,fun _=>⟨b,0,_,rfl,hb,h,by simp,fun j u hu=>?_⟩⟩
 simp only[DN,List.flatMap_nil,DR,aU] at hu
 rw[D5]
 simpa using hu
theorem dh.same {B:Nat}{w w':World}{v:Value}{q:List St} (h:dh B w v q) (hs:∀ k,v.ownBlock=some k→k<w.heap.size→w'.heap[k]?=w.heap[k]?):dh B w' v q:=by
 obtain⟨ao,cap,rfl,h1,h2,h3⟩:=h
 refine⟨ao,cap,rfl,h1,h2,fun hc=>?_⟩
 obtain⟨g,off,cur,rfl,hB,hg,h4⟩:=h3 hc
 exact⟨g,off,cur,rfl,hB,(hs g rfl (C_.1 hg).1).trans hg,h4⟩
theorem dh.below {B:Nat}{w w':World}{v:Value}{q:List St} (h:dh B w v q) (hb:Below w.heap.size w w'):dh B w' v q:=h.same (fun k _ hk=>hb.block k hk)
theorem dh.block {B:Nat}{w:World}{v:Value}{q:List St} (h:dh B w v q) (hq:q≠[]):∃ g cur,v.ownBlock=some g∧B≤g∧w.heap[g]?=some (.cells cur 87 (0,0)):=by
 obtain⟨ao,cap,rfl,h1,h2,h3⟩:=h
 have:0<q.length:=Dn.2 hq
 obtain⟨g,off,cur,rfl,hB,hg,h4⟩:=h3 (by omega)
 exact⟨g,cur,rfl,hB,hg⟩
theorem dh.len {B:Nat}{w:World}{v:Value}{q:List St} (h:dh B w v q):∃ ao cap,v=.slice ao q.length cap:=by
 obtain⟨ao,cap,rfl,_⟩:=h
 exact⟨ao,cap,rfl⟩
theorem dh.head {B:Nat}{w:World}{v:Value}{x:St}{q:List St} (h:dh B w v (x :: q)):∃ g off cap,v=.slice (some ⟨g,off,none⟩) (q.length+1) cap ∧
  w.cell? ⟨g,off,none⟩=some (.int .i64 x.a0)∧w.cell? ⟨g,off+1,none⟩=some (.int .i64 x.a1)∧w.cell? ⟨g,off+2,none⟩=some (.int .i64 x.a2)∧w.cell? ⟨g,off+3,none⟩=some (.int .i64 x.f0)∧w.cell? ⟨g,off+4,none⟩=some (.int .i64 x.f1)∧w.cell? ⟨g,off+5,none⟩=some (.int .i64 x.f2):=by
 obtain⟨ao,cap,rfl,h1,h2,h3⟩:=h
 simp only[Dj] at h1
 obtain⟨g,off,cur,rfl,hB,hg,h4,h5⟩:=h3 (by omega)
 refine⟨g,off,cap,by simp,?_,?_,?_,?_,?_,?_⟩
 ·exact (cell_of_row w g off cur _ _ hg).trans (h5 0 _ (by simp[aU]))
 ·exact (cell_of_row w g _ cur _ _ hg).trans (h5 1 _ (by simp[aU]))
 ·exact (cell_of_row w g _ cur _ _ hg).trans (h5 2 _ (by simp[aU]))
 ·exact (cell_of_row w g _ cur _ _ hg).trans (h5 3 _ (by simp[aU]))
 ·exact (cell_of_row w g _ cur _ _ hg).trans (h5 4 _ (by simp[aU]))
 ·exact (cell_of_row w g _ cur _ _ hg).trans (h5 5 _ (by simp[aU]))
theorem sU:Tryz.prog.underlying 103=some (.slice 87):=by kernel_rfl
theorem BW:(Tryz.prog.info? 87).map (fun i=>(i.zero,i.size,i.bytes))=some (some (.agg #[.int .i64 0,.int .i64 0,.int .i64 0,.int .i64 0,.int .i64 0,.int .i64 0]),6,48):=by kernel_rfl
theorem ys:Tryz.prog.elem 103=87:=by kernel_rfl
theorem Cf (w:World):(sizeOf 87).run Tryz.prog w=.ok 6 w:=by kernel_rfl
theorem dh.tail {B:Nat}{w:World}{v:Value}{x:St}{q:List St} (h:dh B w v (x :: q)):∃ v',(Instr.slice 103 v (some (.int .i64 1)) none none).run Tryz.prog w=.ok v' w∧dh B w v' q∧∀ k,v'.ownBlock=some k→v.ownBlock=some k:=by
 obtain⟨ao,cap,rfl,h1,h2,h3⟩:=h
 simp only[Dj] at h1
 obtain⟨g,off,cur,rfl,hB,hg,h4,h5⟩:=h3 (by omega)
 have hr:=run_slice_l (P:=Tryz.prog) (w:=w) 103 (some ⟨g,off,none⟩) (q.length+1) cap (by rw[ys];exact sU) .i64 1 (by omega) (by omega)
 rw[ys,Cf] at hr
 simp only[Result.andThen,sliced] at hr
 refine⟨_,hr,?_,?_⟩
 ·rw[show (1:Int).toNat=1 from rfl,show q.length+1-1=q.length from by omega]
  by_cases hc:cap=1
  ·have hq:q.length=0:=by omega
   refine⟨_,_,rfl,by omega,by omega,fun h=>by omega⟩
  ·rw[if_neg hc]
   refine⟨_,_,rfl,by omega,by omega,fun _=>⟨g,off+6,cur,?_,hB,hg,by omega,fun j u hu=>?_⟩⟩
   ·simp[Addr.add]
   ·have:=h5 (6+j) u (by rw[DN,Fd (by simp[aU])];simpa[aU] using hu)
    rwa [←DS] at this
 ·intro k hk
  split at hk
  ·exact hk
  ·simpa[Addr.add,Value.ownBlock] using hk
theorem kY (g:Nat) (t:TypeId):∀ (news:List Value) (off:Nat) (w:World) (cur:Array Value),w.heap[g]?=some (.cells cur t (0,0))→off+news.length≤cur.size →
  ∃ cur',(w.setCells g off news).heap[g]?=some (.cells cur' t (0,0))∧cur'.size=cur.size∧(∀ j,j<off→cur'[j]?=cur[j]?)∧(∀ j,j<news.length→cur'[off+j]?=news[j]?)
 | [],off,w,cur,h,_=>⟨cur,h,rfl,fun _ _=>rfl,fun j hj=>by simp at hj⟩
 | x :: l,off,w,cur,h,hl=>by
  simp only[Dj] at hl
  obtain⟨cur',h1,h2,h3,h4⟩:=kY g t l (off+1) (w.setCell ⟨g,off,none⟩ x) (cur.setIfInBounds off x) (heap_setCell_same w g off cur t x h) (by simp;omega)
  refine⟨cur',h1,by simpa using h2,fun j hj=>?_,fun j hj=>?_⟩
  ·rw[h3 j (by omega),Array.getElem?_setIfInBounds_ne (by omega)]
  ·cases j with
   | zero=>rw[DJ,h3 off (by omega)];simp[Array.getElem?_setIfInBounds];omega
   | succ j =>
    have:=h4 j (by simp at hj;omega)
    rw[show off+(j+1)=off+1+j from by omega,this];rfl
theorem oL (g:Nat):∀ (news:List Value) (off:Nat) (w:World),(w.setCells g off news).heap.size=w.heap.size
 | [],_,_=>rfl
 | x :: l,off,w=>(oL g l (off+1) (w.setCell ⟨g,off,none⟩ x)).trans (by simp[World.setCell])
theorem i_ (g:Nat):∀ (news:List Value) (off:Nat) (w:World),w.grownBy (w.setCells g off news) (some g)
 | [],_,w=>⟨rfl,rfl,rfl,C6 _,fun _ _ _=>rfl⟩
 | x :: l,off,w=>by
  have h1:w.grownBy (w.setCell ⟨g,off,none⟩ x) (some g):=⟨rfl,rfl,rfl,by simp[World.setCell],fun k _ hn=>heap_setCell_other w _ k x (fun e=>hn (by rw[e]))⟩
  exact h1.trans (i_ g l (off+1) _)
theorem lJ (w:World) (ty:TypeId) {B:Nat}{v:Value}{q:List St} (h:dh B w v q) (hB:B≤w.heap.size) (hq:q.length≤1000000) {b:Nat}{x:St} (hx:StP w b x) :
  ∃ v' w',(Builtin.append_ #[103,103] ty #[v,.slice (some ⟨b,0,none⟩) 1 1]).run Tryz.prog w=.ok v' w'∧dh B w' v' (q++[x])∧w.grownBy w' v.ownBlock∧(v'.ownBlock=v.ownBlock∨∃ k,v'.ownBlock=some k∧w.heap.size≤k):=by
 obtain⟨i0,hi,hz0,hz1,hz2⟩:=info_parts BW
 obtain⟨ao,cap,rfl,h1,h2,h3⟩:=h
 have hnews:∀ j u,(aU x)[j]?=some u→w.cell? ((⟨b,0,none⟩:Addr).add j)=some u:=by
  intro j u hu
  rw[Addr.add_lit,D5,StP.cell hx]
  simpa[aU] using hu
 have hone:∀ u∈aU x,u.oneCell'=true:=by
  intro u hu
  simp only[aU,Dk,Dm,or_false] at hu
  rcases hu with rfl | rfl | rfl | rfl | rfl | rfl<;>rfl
 have hflat:((q++[x]).flatMap aU)=q.flatMap aU++aU x:=by simp
 -- a new row
 have fresh:∀ v' w',w'.ownsRow w.heap.size 87 6 v' (q.length+1) (q.flatMap aU++aU x)→w.grownBy w' none→dh B w' v' (q++[x])∧w.grownBy w' (Value.slice ao q.length cap).ownBlock∧(v'.ownBlock=(Value.slice ao q.length cap).ownBlock∨∃ k,v'.ownBlock=some k∧w.heap.size≤k):=by
  intro v' w' ho hg
  refine⟨?_,⟨hg.os,hg.tape,hg.output,hg.size,fun k hk _=>hg.block k hk (by simp)⟩,?_⟩
  rotate_left
  ·rcases ho.2 with ⟨_,h0⟩ | ⟨g,cap',cur,rfl,hb,hg2,hnc,hcm,hcs,htk⟩
   ·omega
   ·exact Or.inr ⟨g,rfl,hb⟩
  rcases ho.2 with ⟨_,h0⟩ | ⟨g,cap',cur,rfl,hb,hg2,hnc,hcm,hcs,htk⟩
  ·omega
  ·refine⟨_,_,by simp,by simpa using hnc,hcm,fun _=>⟨g,0,cur,rfl,by omega,hg2,by omega,fun j u hu=>?_⟩⟩
   rw[hflat] at hu
   have:=World.ownsRow.cells ho (g:=g) rfl j u hu
   rw[ec,D5] at this
   rw[D5,←cell_of_row w' g j cur _ _ hg2]
   exact this
 by_cases hr:q.length+1≤cap
 ·obtain⟨g,off,cur,rfl,hBg,hg,h4,h5⟩:=h3 (by omega)
  have hrun:=run_append_room_cells (P:=Tryz.prog) w 103 ty 87 i0 sU hi g off q.length cap ⟨b,0,none⟩ 1 1 (aU x) (by rw[hz1];rfl) hnews hone hr
   (fun j hj=>by
    rw[hz1,cell_of_row w g _ cur _ _ hg]
    have:off+q.length*6+j<cur.size:=by simp[aU] at hj;omega
    rw[Array.getElem?_eq_getElem this];rfl)
   (fun j _=>frozen_of_row w g _ cur _ hg)
  rw[hz1] at hrun
  obtain⟨cur',k1,k2,k3,k4⟩:=kY g 87 (aU x) (off+q.length*6) w cur hg (by simp[aU];omega)
  refine⟨_,_,hrun,⟨_,_,by simp,by simpa using hr,h2,fun _=>⟨g,off,cur',rfl,hBg,k1,by omega,fun j u hu=>?_⟩⟩,i_ g _ _ w,Or.inl rfl⟩
  rw[hflat] at hu
  by_cases hj:j<q.length*6
  ·rw[DF (by rw[il];exact hj)] at hu
   rw[k3 _ (by omega)]
   exact h5 j u hu
  ·rw[Fd (by rw[il];omega),il] at hu
   have hl:j-q.length*6<(aU x).length:=(De.1 hu).1
   have:=k4 _ hl
   rw[show off+q.length*6+(j-q.length*6)=off+j from by omega] at this
   rw[this];exact hu
 ·by_cases hc:0<cap
  ·obtain⟨g,off,cur,rfl,hBg,hg,h4,h5⟩:=h3 hc
   obtain⟨v',w',hrun,r1,r2⟩:=run_append_arg_grows (P:=Tryz.prog) w 103 ty 87 i0 _ 6 48 sU hi hz0 hz1 hz2 rfl (by decide) ⟨g,off,none⟩ q.length cap (q.flatMap aU) (il q)
    (fun j u hu=>by rw[Addr.add_lit,cell_of_row w g _ cur _ _ hg];exact h5 j u hu) ⟨b,0,none⟩ 1 1 (aU x) rfl hnews (by omega) (by unfold maxLen;omega) (by omega)
   obtain⟨f1,f2⟩:=fresh v' w' r1 r2
   exact⟨v',w',hrun,f1,f2⟩
  ·obtain rfl:cap=0:=by omega
   have hq0:q=[]:=Du (by omega)
   subst hq0
   cases ao with
   | none =>
    obtain⟨v',w',hrun,r1,r2,_⟩:=run_append_own (P:=Tryz.prog) w w.heap.size 103 ty 87 i0 _ 6 48 sU hi hz0 hz1 hz2 rfl (by decide) (.slice none 0 0) 0 [] (World.ownsRow_nil w _ _ 6) ⟨b,0,none⟩ 1 1 (aU x) rfl hnews hone (by unfold maxLen;omega) (by omega) (C6 _)
    obtain⟨f1,f2⟩:=fresh v' w' (by simpa using r1) ⟨r2.os,r2.tape,r2.output,r2.size,fun k hk _=>r2.block k hk (by simp[Value.ownBlock])⟩
    exact⟨v',w',hrun,f1,f2⟩
   | some a' =>
    obtain⟨v',w',hrun,r1,r2⟩:=run_append_arg_grows (P:=Tryz.prog) w 103 ty 87 i0 _ 6 48 sU hi hz0 hz1 hz2 rfl (by decide) a' 0 0 [] (by simp) (by intro _ _ h';simp at h') ⟨b,0,none⟩ 1 1 (aU x) rfl hnews (by omega) (by unfold maxLen;omega) (by omega)
    obtain⟨f1,f2⟩:=fresh v' w' (by simpa using r1) r2
    exact⟨v',w',hrun,f1,f2⟩
open Go.RowKit
variable {F : Fence} {n : Nat} {P : Program}
def xC {β:Type} (B:Nat) (I:β→World→Prop):Prop:=∀ s W,I s W→(∀ o,I s (W.alloc o))∧∀ l o o',B≤l→W.heap[l]?=some (.loop o)→I s (W.putObj l o')
def tU (B:Nat) (I:World→Prop) (W:World):Exit→Act→World→Prop
 | .normal,_,W'=>KeepsFrom B W W'∧I W'
 | _,_,_=>False
def Bs {α:Type} (F:Fence) (n:Nat) (P:Program) (gf:Nat) (bnd lb:Array Value) (encs:α→Array Value) (xs:List α) (w:World):Prop :=
 ∀ (l:Nat) (J:Nat→World→Prop) (W:World),Below w.heap.size w W →
  (∀ i (hi:i<xs.length) W1,J i W1→YieldAt F (n-1) P l (encs xs[i]) W1 fun e W'=>e=.returned (.bool true)∧J (i+1) W') →
  J 0 W→CallsIn F n P gf (bnd++#[.func (.yield l) #[] #[]]++lb) W fun e W'=>(∃ v,e=.returned v)∧J xs.length W'
theorem mF {α:Type}{g:Operand}{ps:Array Tmp}{assign body:Code}{Q:Exit→Act→World→Prop}{a:Act}{w:World}
  (hro:F.round=none) (h1:1≤n) {gf:Nat} {bnd lb:Array Value} (hg:a.eval g=.func (.func gf) bnd lb) (hFg:F.fn gf) (eg:∀ args w,(callFunc gf args).run P w=.ok (.enter gf args) w)
  {encs:α→Array Value} {xs:List α} (hseq:Bs F (n-1) P gf bnd lb encs xs w) (hps:∀ x,(encs x).size=ps.size)
  (I:Nat→World→Prop) (hI:xC w.heap.size I) (h0:I 0 w) (I₁:Nat→Act→World→Prop) (hI₁:xC w.heap.size (fun (s:Nat×Act)=>I₁ s.1 s.2))
  (hassign:∀ (l i:Nat) (hi:i<xs.length) (W:World),I i W →
   assign.wpIn (F.inRound l) (n-1-1) P (Exit.then (fun a₁ W₁=>KeepsFrom w.heap.size W W₁∧I₁ i a₁ W₁) (fun _ _ _=>False)) { tmps:=(ps.zip (encs xs[i])).foldl (fun t (p,v)=>t.setIfInBounds p v) a.tmps,defers:=[] } W)
  (hbody:∀ (l i:Nat) (_:i<xs.length) (a₁:Act) (W:World),I₁ i a₁ W→body.wpIn (F.inRound l) (n-1-1) P (tU w.heap.size (I (i+1)) W) a₁ W)
  (hdone:∀ (D:Nat) (W:World),w.heap.size≤D→I xs.length W→W.heap[D]?=some (.deferred (some []))→Q .normal { a with defers:={ target:=.collected D,args:=#[] } :: a.defers } W) :
  (Code.rangeFunc g ps assign body).wpIn F n P Q a w:=by
 refine wpIn_rangeFunc ?_
 intro fn hfn
 rw[hro]
 obtain⟨rec,hrec⟩:∃ rec:LoopState→Option Code→Loop,rec=fun st pe=>{ state:=st,pending:=pe,fn,tmps:=a.tmps,params:=ps,assign,body,defers:=w.heap.size }:=⟨_,rfl⟩
 obtain⟨W1,hW1⟩:∃ W1,(w.alloc (.deferred (some []))).alloc (.loop (rec .ready none))=W1:=⟨_,rfl⟩
 have hL1:W1.heap[w.heap.size+1]?=some (.loop (rec .ready none)):=by
  rw[←hW1];have:=World.alloc_heap_new (w.alloc (.deferred (some []))) (.loop (rec .ready none));rwa [World.size_alloc] at this
 have hK1:W1.heap[w.heap.size]?=some (.deferred (some [])):=by
  rw[←hW1];exact (Below.heap_alloc _ _ _ (by simp)).trans (World.alloc_heap_new w _)
 have hI1:I 0 W1:=by rw[←hW1];exact (hI 0 _ ((hI 0 _ h0).1 _)).1 _
 have hb1:Below w.heap.size w W1:=by
  rw[←hW1];exact ((Below.refl _ w).alloc (C6 _) _).alloc (by simp) _
 refine⟨w.heap.size+1,[{ target:=.collected w.heap.size,args:=#[] }],W1,{ target:=.fn (.func gf) lb,args:=bnd++#[.func (.yield (w.heap.size+1)) #[] #[]] },W1,gf,
  bnd++#[.func (.yield (w.heap.size+1)) #[] #[]]++lb,W1,?_,?_,?_,?_,fun _=>h1,?_⟩
 ·rw[←hW1,hrec];exact run_enterLoop_outer _ _ _ _ _
 ·simp only[resolve,hg]
  simp[go_sem]
 ·intro f' hf';simp[Target.leads] at hf';subst hf';exact hFg
 ·simp[invoke,go_sem,eg]
 ·refine (hseq (w.heap.size+1)
   (fun i W=>I i W∧W.heap[w.heap.size+1]?=some (.loop (rec .ready none))∧W.heap[w.heap.size]?=some (.deferred (some [])))
   W1 hb1 ?_ ⟨hI1,hL1,hK1⟩).mono ?_
  ·rintro i hi W ⟨hi1,hl,hk⟩
   have hlt:w.heap.size+1<W.heap.size:=(C_.1 hl).1
   have hy:=run_yield (P:=P) (args:=encs xs[i]) hl (by rw[hrec];exact hps _)
   rw[hrec] at hy
   refine⟨fn,_,assign,body,hy,roundIn_of_wpIn hfn ?_⟩
   refine wpIn_mono (hassign _ i hi W hi1) ?_
   rintro e a₁ W₂ hp
   cases e with
   | normal =>
    obtain⟨hk2,hj⟩:=hp
    have hl2:=hk2.same _ _ (by omega) hl rfl
    have hd2:=hk2.same _ _ (C6 _) hk rfl
    have hlt2:w.heap.size+1<W₂.heap.size:=(C_.1 hl2).1
    refine⟨_,run_beginRound hl2 (by rw[hrec]),?_⟩
    have hl3:(W₂.putObj (w.heap.size+1) (.loop { rec .ready none with state:=.busy })).heap[w.heap.size+1]?=some (.loop { rec .ready none with state:=.busy }):=World.putObj_heap_same hlt2
    have hd3:(W₂.putObj (w.heap.size+1) (.loop { rec .ready none with state:=.busy })).heap[w.heap.size]?=some (.deferred (some [])):=(World.putObj_heap_other (by omega)).trans hd2
    refine wpIn_mono (hbody _ i hi a₁ _ ((hI₁ (i,a₁) _ hj).2 _ _ _ (by omega) hl2)) ?_
    rintro e a3 W3 hp
    cases e with
    | normal =>
     obtain⟨hk3,hi3⟩:=hp
     have hl4:=hk3.same _ _ (by omega) hl3 rfl
     have hd4:=hk3.same _ _ (C6 _) hd3 rfl
     have hr:=run_endRound (P:=P) none hl4
     rw[hrec] at hr
     rw[hrec] at hl4
     refine⟨_,_,hr,rfl,(hI _ _ hi3).2 _ _ _ (by omega) hl4,?_,(World.putObj_heap_other (by omega)).trans hd4⟩
     rw[hrec]
     exact World.putObj_heap_same (C_.1 hl4).1
    | ret=>exact hp.elim
    | exit id=>exact hp.elim
    | goto t=>exact hp.elim
    | panic ch=>exact hp.elim
    | outgrown=>exact hp.elim
   | ret=>exact hp.elim
   | exit id=>exact hp.elim
   | goto t=>exact hp.elim
   | panic ch=>exact hp.elim
   | outgrown=>exact hp.elim
  ·rintro e W2 ⟨⟨v,rfl⟩,hi,hl,hk⟩
   exact⟨none,_,by have:=run_endLoop (P:=P) hl (by rw[hrec];simp);rw[hrec] at this;exact this,hdone _ _ (C6 _) ((hI _ _ hi).2 _ _ _ (by omega) hl) ((World.putObj_heap_other (by omega)).trans hk)⟩
open Go.RowKit Go.Shelf Dc Dg
def mX (v:Ev):Array Value:=#[.agg #[.int .i64 v.g,.int .i64 v.k]]
theorem g_:∀ n,(evs n).length=3*n
 | 0=>rfl
 | n+1=>by
  have:=g_ n
  unfold evs at this ⊢
  rw[Ew,En,Dd,this]
  simp;omega
theorem AU {n g k:Nat} (hg:g<n) (hk:k<3):∃ h:3*g+k<(evs n).length,(evs n)[3*g+k]=⟨g,k⟩:=by
 induction n with
 | zero=>omega
 | succ n ih =>
  have hl:=g_ n
  have e:evs (n+1)=evs n++[⟨(n:Int),0⟩,⟨(n:Int),1⟩,⟨(n:Int),2⟩]:=by
   unfold evs
   rw[Ew,En];simp
  have hlt:3*g+k<(evs (n+1)).length:=by rw[g_];omega
  refine⟨hlt,?_⟩
  rcases DP g n with h1 | h1
  ·obtain⟨h2,h3⟩:=ih h1
   simp only[e]
   rw[List.getElem_append_left h2,h3]
  ·have:g=n:=by omega
   subst this
   simp only[e]
   rw[List.getElem_append_right (by omega)]
   rcases lt3 hk with rfl | rfl | rfl<;>simp[hl]
attribute [local go_sem] Oper.semAt_some
theorem ql (F:Fence) (n:Nat) (hF:F.fn 83) (hro:F.round=none) (hn:1≤n) (gs:List Gd) (p:Option Addr) (c:Nat) (m:Nat) (w:World) (hm:w.cell? ⟨m,0,none⟩=some (.slice p gs.length c)) (hlt:m<w.heap.size) (h3:gs.length≤3) :
  Bs F n Tryz.prog 83 #[.pointer (some ⟨m,0,none⟩)] #[] mX (evs gs.length) w:=by
 intro l J W hW hY h0
 have m0:=(hW.cell (p:=⟨m,0,none⟩) hlt).trans hm
 have HY:=C5 hY
 have hlen:=g_ gs.length
 clear hm hW hY hlt
 refine callsIn_of_wp Tryz.func83 rfl hF ?_ hro
 simp only[Tryz.ntmps83,List.size_toArray,Dj,DW,Nat.reduceAdd,Nat.reduceSub,Array.replicate_succ,Array.replicate_zero,List.push_toArray,List.append_toArray,D7,Ei]
 gi_wp2
 gi_loopw [12] (fun s12 wr=>∃ g:Nat,s12=.int .i64 g∧g≤gs.length∧J (3*g) wr) (fun s12 _=>gs.length-(intOf s12).toNat)
 case atStart=>exact⟨0,rfl,by omega,h0⟩
 case round =>
  clear h0 m0
  obtain⟨g,rfl,hg,hJ⟩:=hrel
  by_cases hgl:g<gs.length
  ·gi_wp2
   gi_loopw [15] (fun s15 wr=>∃ k:Nat,s15=.int .i64 k∧k≤3∧J (3*g+k) wr) (fun s15 _=>3-(intOf s15).toNat)
   case atStart=>exact⟨0,rfl,by omega,hJ⟩
   case round =>
    clear hJ
    obtain⟨k,rfl,hk,hJ⟩:=hrel
    by_cases hkl:k<3
    ·obtain⟨hi,hx⟩:=AU hgl hkl
     obtain⟨fn,tmps,assign,body,hy,hR⟩:=HY.out _ hi wr hJ
     rw[hx] at hy
     unfold mX at hy
     clear hx hJ
     gi_wp2
     refine hR.mono ?_
     rintro e W' ⟨rfl,hJ'⟩
     gi_wp2
     go_roundw
     case rel=>exact⟨k+1,by go_num,by omega,hJ'⟩
     case measure=>simp[intOf];omega
    ·obtain rfl:k=3:=by omega
     clear hkl hk
     gi_wp2
     go_roundw
     case rel=>exact⟨g+1,by go_num,by omega,hJ⟩
     case measure=>simp[intOf];omega
  ·obtain rfl:g=gs.length:=by omega
   clear hgl hg
   gi_wp2
   go_end0
   exact⟨⟨_,rfl⟩,by rw[hlen];exact hJ⟩
end Go.Proofs.YtnkgbocdpngldaaGreatDoor
