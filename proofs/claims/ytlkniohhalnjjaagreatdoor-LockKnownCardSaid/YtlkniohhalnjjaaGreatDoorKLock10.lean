/- Lemmas of this claim. -/
import Derived.StillTailTactics
import Derived.Test.YtlkniohhalnjjaaGreatDoorKLock6
set_option linter.all false
set_option maxRecDepth 100000
set_option maxHeartbeats 8000000
namespace Go.Proofs.YtlkniohhalnjjaaGreatDoor
open Go.RowKit Dc Dg
structure fL (w0 w:World) (x:St) (g:Nat) (kd:Int):Prop where
 blk:StP w w0.heap.size x
 e0:w.cell? ⟨w0.heap.size+1,0,none⟩=some (.int .i64 g)
 e1:w.cell? ⟨w0.heap.size+1,1,none⟩=some (.int .i64 kd)
 res:StP w (w0.heap.size+2) St.zero
 bl:Below w0.heap.size w0 w
theorem fL.below {w0 w w':World}{x:St}{g:Nat}{kd:Int} (h:fL w0 w x g kd) (hb:Below w.heap.size w w'):fL w0 w' x g kd:=by
 have hlt:=h.res.lt
 exact⟨h.blk.below hb,(hb.cell (p:=⟨w0.heap.size+1,0,none⟩) (by show w0.heap.size+1<_;omega)).trans h.e0,(hb.cell (p:=⟨w0.heap.size+1,1,none⟩) (by show w0.heap.size+1<_;omega)).trans h.e1,h.res.below hb,h.bl.trans (hb.mono h.bl.size)⟩
theorem fL.go {w0 w:World}{x:St}{g:Nat}{kd:Int} (h:fL w0 w x g kd) {i:Nat} (hi:i<3) (k:Int):fL w0 (goW w w0.heap.size i k) (x.go i k) g kd:=by
 refine⟨h.blk.go hi k,?_,?_,?_,h.bl.trans (oM (uo _))⟩
 ·rw[World.cell?,ig (by show w0.heap.size+1≠w0.heap.size;omega)];exact h.e0
 ·rw[World.cell?,ig (by show w0.heap.size+1≠w0.heap.size;omega)];exact h.e1
 ·unfold StP;rw[ig (by show w0.heap.size+2≠w0.heap.size;omega)];exact h.res
theorem fL.fail {w0 w:World}{x:St}{g:Nat}{kd:Int} (h:fL w0 w x g kd) {i:Nat} (hi:i<3):fL w0 (w.setCell ⟨w0.heap.size,3+i,none⟩ (.int .i64 (x.f i+1))) (x.fail i) g kd:=by
 refine⟨?_,?_,?_,?_,h.bl.setCell (p:=⟨w0.heap.size,3+i,none⟩) (uo _) _⟩
 ·have hb:=h.blk
  rcases lt3 hi with rfl | rfl | rfl
  ·unfold StP;rw[heap_setCell_same w w0.heap.size (3+0) _ _ _ hb];rfl
  ·unfold StP;rw[heap_setCell_same w w0.heap.size (3+1) _ _ _ hb];rfl
  ·unfold StP;rw[heap_setCell_same w w0.heap.size (3+2) _ _ _ hb];rfl
 ·rw[World.cell?,Below.heap_setCell _ _ _ _ (by show w0.heap.size+1≠w0.heap.size;omega)];exact h.e0
 ·rw[World.cell?,Below.heap_setCell _ _ _ _ (by show w0.heap.size+1≠w0.heap.size;omega)];exact h.e1
 ·unfold StP;rw[Below.heap_setCell _ _ _ _ (by show w0.heap.size+2≠w0.heap.size;omega)];exact h.res
theorem StP.a {w:World}{b g:Nat}{x:St} (h:StP w b x) (hg:g<3):w.cell? ⟨b,g,none⟩=some (.int .i64 (x.a g)):=by
 rcases lt3 hg with rfl | rfl | rfl
 ·exact h.cell 0
 ·exact h.cell 1
 ·exact h.cell 2
theorem StP.f {w:World}{b g:Nat}{x:St} (h:StP w b x) (hg:g<3):w.cell? ⟨b,3+g,none⟩=some (.int .i64 (x.f g)):=by
 rcases lt3 hg with rfl | rfl | rfl
 ·exact h.cell 3
 ·exact h.cell 4
 ·exact h.cell 5
theorem fL.new (w:World) (x:St) (g:Nat) (kd:Int):fL w (((w.alloc (.cells #[.int .i64 x.a0,.int .i64 x.a1,.int .i64 x.a2,.int .i64 x.f0,.int .i64 x.f1,.int .i64 x.f2] 71)).alloc (.cells #[.int .i64 g,.int .i64 kd] 31)).alloc (.cells #[.int .i64 0,.int .i64 0,.int .i64 0,.int .i64 0,.int .i64 0,.int .i64 0] 71)) x g kd:=by
 have hb1:Below w.heap.size w (w.alloc (.cells #[.int .i64 x.a0,.int .i64 x.a1,.int .i64 x.a2,.int .i64 x.f0,.int .i64 x.f1,.int .i64 x.f2] 71)):=(Below.refl _ _).alloc (uo _) _
 have a0:=StP.new w x
 have hz1:(w.alloc (.cells #[.int .i64 x.a0,.int .i64 x.a1,.int .i64 x.a2,.int .i64 x.f0,.int .i64 x.f1,.int .i64 x.f2] 71)).heap.size=w.heap.size+1:=by simp
 generalize w.alloc (.cells #[.int .i64 x.a0,.int .i64 x.a1,.int .i64 x.a2,.int .i64 x.f0,.int .i64 x.f1,.int .i64 x.f2] 71)=w1 at *
 have hb2:Below w1.heap.size w1 (w1.alloc (.cells #[.int .i64 g,.int .i64 kd] 31)):=(Below.refl _ _).alloc (uo _) _
 have b0:=af w1 #[.int .i64 g,.int .i64 kd] 31 0 _ rfl
 have b1:=af w1 #[.int .i64 g,.int .i64 kd] 31 1 _ rfl
 have hz2:(w1.alloc (.cells #[.int .i64 g,.int .i64 kd] 31)).heap.size=w1.heap.size+1:=by simp
 generalize w1.alloc (.cells #[.int .i64 g,.int .i64 kd] 31)=w2 at *
 have hb3:Below w2.heap.size w2 (w2.alloc (.cells #[.int .i64 0,.int .i64 0,.int .i64 0,.int .i64 0,.int .i64 0,.int .i64 0] 71)):=(Below.refl _ _).alloc (uo _) _
 have r0:=StP.new w2 St.zero
 rw[hz1] at b0 b1
 rw[hz2,hz1] at r0
 refine⟨(a0.below hb2).below hb3,(hb3.cell (p:=⟨w.heap.size+1,0,none⟩) (by show w.heap.size+1<_;omega)).trans b0,(hb3.cell (p:=⟨w.heap.size+1,1,none⟩) (by show w.heap.size+1<_;omega)).trans b1,r0,hb1.trans ((hb2.trans (hb3.mono hb2.size)).mono hb1.size)⟩
structure nN (w:World) (m:Nat) (gs:List Gd) (g k:Nat) (bg og cg bn on cn bb ob cb bu ou cu bv ov cv br orr cr:Nat):Prop where
 g0:w.cell? ⟨m,0,none⟩=some (.slice (some ⟨bg,og,none⟩) gs.length cg)
 n0:w.cell? ⟨m,1,none⟩=some (.slice (some ⟨bn,on,none⟩) gs.length cn)
 b0:w.cell? ⟨m,2,none⟩=some (.slice (some ⟨bb,ob,none⟩) gs.length cb)
 n1:w.cell? ⟨bn,on+g,none⟩=some (.slice (some ⟨bu,ou,none⟩) (ac gs g).length cu)
 b1:w.cell? ⟨bb,ob+g,none⟩=some (.slice (some ⟨bv,ov,none⟩) (ac gs g).length cv)
 n2:w.cell? ⟨bu,ou+k,none⟩=some (.int .i64 ((ad gs).next g k))
 b2:w.cell? ⟨bv,ov+k,none⟩=some (.int .i64 ((ad gs).back g k))
 t0:w.cell? ⟨bg,og+g*2+1,none⟩=some (.slice (some ⟨br,orr,none⟩) (ac gs g).length cr)
 t1:w.cell? ⟨br,orr+k*7+3,none⟩=some (.int .i64 ((ad gs).tries g k))
 lm:m<w.heap.size
 ln:bn<w.heap.size
 lb:bb<w.heap.size
 lu:bu<w.heap.size
 lv:bv<w.heap.size
 lg:bg<w.heap.size
 lr:br<w.heap.size
theorem nN.below {w w':World}{m:Nat}{gs:List Gd}{g k bg og cg bn on cn bb ob cb bu ou cu bv ov cv br orr cr:Nat} (h:nN w m gs g k bg og cg bn on cn bb ob cb bu ou cu bv ov cv br orr cr) (hb:Below w.heap.size w w'):nN w' m gs g k bg og cg bn on cn bb ob cb bu ou cu bv ov cv br orr cr :=
 ⟨(hb.cell (p:=⟨m,0,none⟩) h.lm).trans h.g0,(hb.cell (p:=⟨m,1,none⟩) h.lm).trans h.n0,(hb.cell (p:=⟨m,2,none⟩) h.lm).trans h.b0,(hb.cell (p:=⟨bn,_,none⟩) h.ln).trans h.n1,(hb.cell (p:=⟨bb,_,none⟩) h.lb).trans h.b1,(hb.cell (p:=⟨bu,_,none⟩) h.lu).trans h.n2,(hb.cell (p:=⟨bv,_,none⟩) h.lv).trans h.b2,(hb.cell (p:=⟨bg,_,none⟩) h.lg).trans h.t0,(hb.cell (p:=⟨br,_,none⟩) h.lr).trans h.t1,
  uv h.lm hb.size,uv h.ln hb.size,uv h.lb hb.size,uv h.lu hb.size,uv h.lv hb.size,uv h.lg hb.size,uv h.lr hb.size⟩
theorem gR {gs:List Gd}{p:Option Addr}{c:Nat}{vn vb:Value}{mb N s:Nat}{f:Nat×Nat→Option Value}{w:World}{m g k:Nat} (hP:bZ w m gs p c vn vb mb N s f) (hg:g<gs.length) (hk:k<(ac gs g).length) :
  ∃ bg og cg bn on cn bb ob cb bu ou cu bv ov cv br orr cr,nN w m gs g k bg og cg bn on cn bb ob cb bu ou cu bv ov cv br orr cr:=by
 obtain⟨pn,cn,e1,hn⟩:=hP.n.at_
 obtain⟨bn,on,e2,hbn,hn⟩:=hn (by omega)
 obtain⟨u,hn1,hu⟩:=hn g hg
 obtain⟨pu,cu,e3,hu⟩:=hu.at_
 have l1:(eK gs g).length=(ac gs g).length:=by simp[eK]
 obtain⟨bu,ou,e4,hbu,hu⟩:=hu (by omega)
 have hu2:=hu k (by omega)
 obtain⟨pb,cb,e5,hb⟩:=hP.b.at_
 obtain⟨bb,ob,e6,hbb,hb⟩:=hb (by omega)
 obtain⟨v,hb1,hv⟩:=hb g hg
 obtain⟨pv,cv,e7,hv⟩:=hv.at_
 have l2:(eI gs g).length=(ac gs g).length:=by simp[eI]
 obtain⟨bv,ov,e8,hbv,hv⟩:=hv (by omega)
 have hv2:=hv k (by omega)
 obtain⟨bg,og,e9,hbg,hG⟩:=hP.G.at_ (by omega)
 obtain⟨q,cq,t0,t1,hR⟩:=hG g hg
 have hra:ac gs g=gs[g].rungs:=by unfold ac;rw[uu hg]
 obtain⟨br,orr,e10,hbr,hr⟩:=hR.at_ (by rw[←hra];omega)
 obtain⟨q1,c1,q2,c2,hr⟩:=hr k (by rw[←hra];omega)
 subst e1;subst e2;subst e3;subst e4;subst e5;subst e6;subst e7;subst e8;subst e9;subst e10
 refine⟨bg,og,c,bn,on,cn,bb,ob,cb,bu,ou,cu,bv,ov,cv,br,orr,cq,hP.m0,hP.m1,hP.m2,?_,?_,?_,?_,?_,?_,hP.lt,hbn,hbb,hbu,hbv,hbg,hbr⟩
 ·rw[hn1,l1]
 ·rw[hb1,l2]
 ·rw[hu2];simp[eK]
 ·rw[hv2];simp[eI]
 ·rw[t1,hra]
 ·rw[hr.d3]
  show _=some (Value.int .i64 (aP gs g k).tries)
  unfold aP
  rw[uu hk]
  simp only[hra]
theorem se {M:ar}{x:St} (h:M.At x) (G:M.Good) {g:Nat} (hg:g<M.n) (hne:¬ x.f g=M.tries g (x.a g).toNat-1):M.At (x.fail g):=by
 have hn3:=G.n3
 refine⟨fun j hj=>by rw[St.a_fail _ (by omega)];exact h.a j hj,fun j hj=>?_,fun j hj hj3=>by rw[St.a_fail _ (by omega)];exact h.a0 j hj hj3,fun j hj hj3=>?_⟩
 ·rw[St.a_fail _ (by omega),St.f_fail _ (by omega) (by omega)]
  have:=h.f j hj
  split
  ·rename_i e;subst e;omega
  ·exact this
 ·rw[St.f_fail _ (by omega) (by omega),if_neg (by omega)];exact h.f0 j hj hj3
theorem rT (M:ar) (x:St) (g:Nat) (kd:Int):jI M x ⟨g,kd⟩=if kd=2 then x.go g 0 else if kd=0∧0≤M.next g (x.a g).toNat then x.go g (M.next g (x.a g).toNat) else if kd=1∧x.f g=M.tries g (x.a g).toNat-1 then x.go g (M.back g (x.a g).toNat) else if kd=1 then x.fail g else x:=rfl
def stA (w:World) (b i:Nat):Nat:=match w.cell? ⟨b,i,none⟩ with | some (.int _ z)=>z.toNat | _=>0
theorem rp {w:World}{b i:Nat}{x:St} (h:StP w b x) (hi:i<3):stA w b i=(x.a i).toNat:=by unfold stA;rw[h.a hi]
theorem mW (M:ar) {n i:Nat}{z:St} (h:i<n):jb M (n-i) i z=jb M (n-(i+1)) (i+1) (gP M i z):=by
 rw[show n-i=(n-(i+1))+1 from by omega,jb]
theorem n6 (gs:List Gd) (p:Option Addr) (c:Nat) (vn vb:Value) (mb N s:Nat) (f:Nat×Nat→Option Value) (w:World) (m:Nat) (x:St) (g:Nat) (kd:Int)
  (hP:bZ w m gs p c vn vb mb N s f) (hF:oo gs) (hS:aS gs=true) (hx:(ad gs).At x) (hg:g<gs.length) (hk0:0≤kd) (hk2:kd≤2) :
  Calls Tryz.prog 32 #[.pointer (some ⟨m,0,none⟩),.agg #[.int .i64 x.a0,.int .i64 x.a1,.int .i64 x.a2,.int .i64 x.f0,.int .i64 x.f1,.int .i64 x.f2],.agg #[.int .i64 g,.int .i64 kd]] w
   (fun e w'=>∃ y:St,e=.returned (.agg #[.int .i64 y.a0,.int .i64 y.a1,.int .i64 y.a2,.int .i64 y.f0,.int .i64 y.f1,.int .i64 y.f2])∧Hid (bB (ad gs) x ⟨g,kd⟩=y)∧Below w.heap.size w w'):=by
 have hn3:=(bf hS).2
 have ha:=hx.a g hg
 have ha8:=(aI hS).r8 g hg
 have hrr:(ad gs).rungs g=(ac gs g).length:=rfl
 obtain⟨k,hk⟩:∃ k:Nat,k=(x.a g).toNat:=⟨_,rfl⟩
 have hkr:k<(ac gs g).length:=by omega
 obtain⟨bg,og,cg,bn,on,cn,bb,ob,cb,bu,ou,cu,bv,ov,cv,br,orr,cr,hN⟩:=gR hP hg hkr
 have S0:=fL.new w x g kd
 have hg3:g<3:=by omega
 have hgI:(g:Int)<3:=by omega
 have cg:=S0.blk.a hg3
 go_enter Tryz.func32,Tryz.ntmps32
 go_upto_block 0 with fail
 generalize (((w.alloc (.cells #[.int .i64 x.a0,.int .i64 x.a1,.int .i64 x.a2,.int .i64 x.f0,.int .i64 x.f1,.int .i64 x.f2] 71)).alloc (.cells #[.int .i64 g,.int .i64 kd] 31)).alloc (.cells #[.int .i64 0,.int .i64 0,.int .i64 0,.int .i64 0,.int .i64 0,.int .i64 0] 71))=w3 at S0 cg ⊢
 go_cut [18] from 18 to 103 (fun s18 wx=>∃ y:St,Hid (jI (ad gs) x ⟨g,kd⟩=y)∧(ad gs).At y∧fL w wx y g kd)
 case first =>
  have hact:=rT (ad gs) x g kd
  have HKE:=uk hk
  have HX:=uk hx
  have GD:=uk (aI hS)
  have hki:0≤x.a g:=ha.1
  have hkl:x.a g<((ac gs g).length:Int):=by omega
  obtain⟨kk,HKK⟩:∃ kk:Int,Hid (kd=kk):=⟨kd,rfl⟩
  have e1:=S0.e1
  rw[HKK.out] at e1
  have HKR:0≤kk∧kk≤2:=by rw[←HKK.out];exact⟨hk0,hk2⟩
  have HACT:=uk hact
  rw[HKK.out] at HACT
  have hnr:=GD.out.next g k hg hkr
  have hbr:=(show 0≤(ad gs).back g k∧(ad gs).back g k<(ac gs g).length by
   refine⟨GD.out.back0 g k hg hkr,?_⟩
   rcases vC k with h | h
   ·have:=GD.out.backz g hg;rw[h,this];omega
   ·have:=GD.out.back g k hg hkr h;omega)
  have htr:=GD.out.tries g k hg hkr
  have hfr:=hx.f g hg
  rw[←hk] at hfr
  obtain⟨nx,hnx⟩:∃ nx,Hid ((ad gs).next g k=nx):=⟨_,rfl⟩
  obtain⟨bk,hbk⟩:∃ bk,Hid ((ad gs).back g k=bk):=⟨_,rfl⟩
  obtain⟨tt,htt⟩:∃ tt,Hid ((ad gs).tries g k=tt):=⟨_,rfl⟩
  rw[hnx.out] at hnr
  rw[hbk.out] at hbr
  rw[htt.out] at htr hfr
  have NB:=hN.below S0.bl
  clear hact hx hP hF hS hk0 hk2
  have hgn:(g:Int)<(gs.length:Int):=by omega
  clear hk
  rcases (by omega:kk=0∨kk=1∨kk=2) with rfl | rfl | rfl
  ·by_cases hge:0≤nx
   ·have n0:=NB.n0;have n1:=NB.n1;have n2:=NB.n2
    rw[hnx.out,HKE.out] at n2
    have hd:decide ((0:Int)≤nx)=true:=by simp;omega
    have HA:Hid (jI (ad gs) x ⟨g,kd⟩=x.go g nx):=by unfold Hid;rw[HKK.out,HACT.out,←HKE.out,hnx.out,hbk.out,htt.out];simp;omega
    have HNX:=uk hnx.out
    have HGE:=uk hge
    clear hge
    go_wp2_with fail
    refine (toN w3 w.heap.size g x nx hg3 S0.blk).mono ?_
    rintro e w4 ⟨rfl,rfl⟩
    go_wp2
    go_meet
    exact⟨x.go g nx,HA,HX.out.go GD.out hg HGE.out hnr.2,S0.go hg3 nx⟩
   ·have n0:=NB.n0;have n1:=NB.n1;have n2:=NB.n2
    rw[hnx.out,HKE.out] at n2
    have hd:decide ((0:Int)≤nx)=false:=by simp;omega
    have HA:Hid (jI (ad gs) x ⟨g,kd⟩=x):=by unfold Hid;rw[HKK.out,HACT.out,←HKE.out,hnx.out,hbk.out,htt.out];simp;omega
    clear hge
    go_wp2_with fail
    go_quiet (fail)
    go_wp2
    go_meet
    exact⟨x,HA,HX.out,S0.below (below_drewN (Below.refl _ _) _)⟩
  ·have g0:=NB.g0;have t0:=NB.t0;have t1:=NB.t1;have b0:=NB.b0;have b1:=NB.b1;have b2:=NB.b2
   have cf:=S0.blk.f hg3
   rw[htt.out,HKE.out] at t1
   rw[hbk.out,HKE.out] at b2
   by_cases hge:x.f g=tt-1
   ·have hd:(x.f g == tt-1)=true:=by simp[hge]
    have HA:Hid (jI (ad gs) x ⟨g,kd⟩=x.go g bk):=by unfold Hid;rw[HKK.out,HACT.out,←HKE.out,hnx.out,hbk.out,htt.out];simp;omega
    have HGE:=uk hge
    clear hge
    go_wp2_with fail
    go_quiet (fail)
    have S1:=S0.below (below_drewN (Below.refl w3.heap.size w3) nq)
    go_wp2_with fail
    refine (toN (w3.drewN nq) w.heap.size g x bk hg3 S1.blk).mono ?_
    rintro e w4 ⟨rfl,rfl⟩
    go_wp2
    go_meet
    exact⟨x.go g bk,HA,HX.out.go GD.out hg hbr.1 hbr.2,S1.go hg3 bk⟩
   ·have hd:(x.f g == tt-1)=false:=by simp;omega
    have HA:Hid (jI (ad gs) x ⟨g,kd⟩=x.fail g):=by unfold Hid;rw[HKK.out,HACT.out,←HKE.out,hnx.out,hbk.out,htt.out];simp;omega
    have HGE:=uk hge
    clear hge
    go_wp2_with fail
    go_quiet (fail)
    have S1:=S0.below (below_drewN (Below.refl w3.heap.size w3) nq)
    have ff:=S1.blk.fr (3+g)
    have HAF:=uk (se HX.out GD.out hg (show ¬ x.f g=(ad gs).tries g (x.a g).toNat-1 by rw[←HKE.out,htt.out];exact HGE.out))
    go_wp2_with fail
    go_meet
    exact⟨x.fail g,HA,HAF.out,S1.fail hg3⟩
  ·have HA:Hid (jI (ad gs) x ⟨g,kd⟩=x.go g 0):=by unfold Hid;rw[HKK.out,HACT.out,←HKE.out,hnx.out,hbk.out,htt.out];simp
   go_wp2_with fail
   refine (toN w3 w.heap.size g x 0 hg3 S0.blk).mono ?_
   rintro e w4 ⟨rfl,rfl⟩
   go_wp2
   go_meet
   exact⟨x.go g 0,HA,HX.out.go GD.out hg (Int.le_refl _) (by have:=GD.out.r0 g hg;omega),S0.go hg3 0⟩
 case rest =>
  obtain⟨y,hact,hy,S1⟩:=hcut
  have GD:=uk (aI hS)
  have HP:=uk hP
  have NB:=hN.below S1.bl
  have g0:=NB.g0
  clear S0 cg hN ha hk hkr hrr ha8
  go_wp2_with fail
  go_loopw [110] (fun s110 wx=>∃ (i:Nat) (z:St),s110=.int .i64 i∧i≤gs.length∧(ad gs).At z∧fL w wx z g kd∧Hid (bB (ad gs) x ⟨g,kd⟩=jb (ad gs) (gs.length-i) i z)) (fun s110 _=>gs.length-(intOf s110).toNat)
  case atStart=>exact⟨0,y,rfl,by omega,hy,S1,by unfold Hid bB;rw[hact.out];rfl⟩
  case round =>
   clear S1 g0 hact hy NB
   obtain⟨i,z,rfl,hi,hz,S,hx2⟩:=hrel
   by_cases hil:i<gs.length
   ·have hi3:i<3:=by omega
    go_wp2_with fail
    go_loopw [118] (fun _ wx=>∃ u:St,(ad gs).At u∧fL w wx u g kd∧Hid (gP (ad gs) i z=gP (ad gs) i u)) (fun _ wx=>stA wx w.heap.size i)
    case atStart=>exact⟨z,hz,S,rfl⟩
    case round =>
     clear S
     obtain⟨u,hu,S2,hfu⟩:=hrel
     have c0:=S2.blk.cell 0;have c1:=S2.blk.cell 1;have c2:=S2.blk.cell 2
     go_wp2_with fail
     refine (sR gs p c vn vb mb N s f _ m u i (HP.out.below S2.bl) hF hS hu hil).mono ?_
     rintro e w5 ⟨rfl,hb5⟩
     have S3:=S2.below hb5
     have HM0:=uk (rp S2.blk hi3)
     clear S2 hb5 c0 c1 c2
     cases hh:cY (ad gs) u i
     ·obtain⟨f1,f2,f3,f4⟩:=mV GD.out hil hu hh
      have HF4:=uk f4
      clear hh f4
      have hur:=hu.a i hil
      have hrr:(ad gs).rungs i=(ac gs i).length:=rfl
      obtain⟨bg',og',cg',bn',on',cn',bb',ob',cb',bu',ou',cu',bv',ov',cv',br',orr',cr',hN'⟩:=gR HP.out hil (show (u.a i).toNat<(ac gs i).length by omega)
      have NB':=hN'.below S3.bl
      have b0:=NB'.b0;have b1:=NB'.b1;have b2:=NB'.b2
      obtain⟨bk,hbk⟩:∃ bk,Hid ((ad gs).back i (u.a i).toNat=bk):=⟨_,rfl⟩
      rw[hbk.out] at b2 f2 f3
      have ca:=S3.blk.a hi3
      have hu0:0≤u.a i:=hur.1
      have hul:u.a i<((ac gs i).length:Int):=by omega
      have hil2:(i:Int)<(gs.length:Int):=by omega
      have hi3I:(i:Int)<3:=by omega
      clear NB' hN' hrr
      go_wp2_with fail
      go_still_tail 15,(by kernel_rfl)
      have S4:fL w w5.drew u g kd:=S3.below (below_drewN (Below.refl _ _) 1)
      change wpList _ _ _ _ _ w5.drew
      generalize w5.drew=w6 at S4 ⊢
      go_wp2_with fail
      refine (toN w6 w.heap.size i u bk hi3 S4.blk).mono ?_
      rintro e w7 ⟨rfl,rfl⟩
      have S5:=S4.go hi3 bk
      have HM1:=uk (rp S5.blk hi3)
      go_wp2
      go_roundw
      case rel=>exact⟨u.go i bk,hu.go GD.out hil f2 (by have:=hur.2;omega),S5,by unfold Hid;rw[hfu.out,HF4.out,hbk.out]⟩
      case measure=>rw[HM1.out,HM0.out,St.a_go _ hi3 hi3,if_pos rfl];omega
     ·have HH:=uk hh
      clear hh
      go_wp2
      go_roundw
      case rel=>exact⟨i+1,u,by go_num,by omega,hu,S3,by unfold Hid;rw[hx2.out,mW _ hil,hfu.out,mU HH.out]⟩
      case measure=>simp[intOf];omega
   ·obtain rfl:i=gs.length:=by omega
    clear hil hi
    have c0:=S.blk.cell 0;have c1:=S.blk.cell 1;have c2:=S.blk.cell 2;have c3:=S.blk.cell 3;have c4:=S.blk.cell 4;have c5:=S.blk.cell 5
    have q0:=S.res.cell 0;have q1:=S.res.cell 1;have q2:=S.res.cell 2;have q3:=S.res.cell 3;have q4:=S.res.cell 4;have q5:=S.res.cell 5
    have f0:=S.res.fr 0;have f1:=S.res.fr 1;have f2:=S.res.fr 2;have f3:=S.res.fr 3;have f4:=S.res.fr 4;have f5:=S.res.fr 5
    have SP:=S.res.put z
    have hB:=S.bl.trans (aO (w:=wr) (n:=w.heap.size) (b:=w.heap.size+2) (z:=z) (by omega))
    go_wp2_with fail
    change bodyPost _ _ _ _ _ (aJ wr (w.heap.size+2) z)
    clear c0 c1 c2 c3 c4 c5 q0 q1 q2 q3 q4 q5 f0 f1 f2 f3 f4 f5
    generalize aJ wr (w.heap.size+2) z=W at SP hB ⊢
    have q0:=SP.cell 0;have q1:=SP.cell 1;have q2:=SP.cell 2;have q3:=SP.cell 3;have q4:=SP.cell 4;have q5:=SP.cell 5
    refine bodyPost_ret (v:=.agg #[.int .i64 z.a0,.int .i64 z.a1,.int .i64 z.a2,.int .i64 z.f0,.int .i64 z.f1,.int .i64 z.f2]) (by simp[results,Tryz.results32,go_sem,q0,q1,q2,q3,q4,q5]) rfl ⟨z,rfl,by unfold Hid;rw[hx2.out,Nat.sub_self];rfl,hB⟩
end Go.Proofs.YtlkniohhalnjjaaGreatDoor
