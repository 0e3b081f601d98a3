/- Lemmas of this claim. -/
import Derived.Test.YtdlioncecgnloaaGreatDoorYLP5
import Derived.Test.YtdlioncecgnloaaGreatDoorYLC3
import Derived.Test.YtdlioncecgnloaaGreatDoorYLB4
import Derived.Test.YtdlioncecgnloaaGreatDoorYLE5
set_option linter.all false
set_option maxRecDepth 100000
set_option maxHeartbeats 8000000
namespace Go.Proofs.YtdlioncecgnloaaGreatDoor
open Go.RowKit Dg
structure rY (w:World) (g:Nat) (p:Option Addr) (c:Nat) (q:Option Addr) (d:Nat):Prop where
 f0:w.cell? ⟨g,0,none⟩=some (.slice p 2 c)
 f1:w.cell? ⟨g,1,none⟩=some (.slice q 2 d)
 la:IsS w (.slice p 2 c) aC
 lb:IsS w (.slice q 2 d) aD
 G:Gx w
 lt:g<w.heap.size
theorem rY.below {w w':World}{g:Nat}{p:Option Addr}{c:Nat}{q:Option Addr}{d:Nat} (h:rY w g p c q d) (hb:Below w.heap.size w w'):rY w' g p c q d :=
 ⟨aa hb h.lt h.f0,aa hb h.lt h.f1,h.la.below hb,h.lb.below hb,h.G.below hb,zq h.lt hb.size⟩
theorem rY.F {w:World}{g:Nat}{p:Option Addr}{c:Nat}{q:Option Addr}{d:Nat} (h:rY w g p c q d):IsF w (.agg #[.slice p 2 c,.slice q 2 d]) aC aD:=⟨⟨p,c,q,d,rfl,h.la,h.lb⟩⟩
theorem i8:hO aC aD 4=0∧dw aC aD (eO 4) 4=[⟨#[48]⟩,⟨#[49,47,50]⟩,⟨#[49,47,52]⟩,⟨#[49,47,56]⟩]:=by decide +kernel
theorem eE:aQ aD=some [⟨#[45,49,47,50]⟩]∧au aC [⟨#[49]⟩,⟨#[45,50]⟩]=true∧aQ [⟨#[49]⟩,⟨#[45,50]⟩]=none:=by decide +kernel
theorem nY:bU aC [⟨#[49]⟩,⟨#[49,47,52]⟩,⟨#[45,49,47,50]⟩] [⟨#[49,47,50]⟩,⟨#[45,49,47,50]⟩]=(true,0):=by decide +kernel
theorem nZ:dB aD (ofT 33)=true∧∀ m,m<33→1≤m→dB aD (ofT m)=false:=by decide +kernel
theorem em:cH aC aD=(⟨#[49,47,51]⟩,0)∧dZ aC aD ⟨#[45,49]⟩=(⟨#[45,49,47,51]⟩,0)∧dZ aC aD ⟨#[49,47,50]⟩=(⟨#[]⟩,32)∧dq aC aD=(5,0)∧io aC aD=((aC,[⟨#[49]⟩,⟨#[48]⟩]),0)∧ns aC aD=((aD,[⟨#[49]⟩,⟨#[48]⟩]),0):=by decide +kernel
theorem iF (w:World) (l:List ByteArray) (h:l.length<1000):IsS (w.alloc (.cells (l.map Value.string).toArray 22)) (.slice (some ⟨w.heap.size,0,none⟩) l.length l.length) l :=
 bf.isS (base:=w.heap.size) (by
  refine⟨by simp,Or.inr ⟨w.heap.size,l.length,_,rfl,zn _,heap_alloc_new w _,zn _,by unfold maxLen;omega,by simp,by simp[zA]⟩⟩)
theorem ld (w:World) (hG:Gx w):Calls Tryz.prog 15 #[] w fun e w'=>e=.returned (.bool true)∧Below w.heap.size w w':=by
 go_enter Tryz.func15,Tryz.ntmps15
 go_wp2_with fail
 refine (yW w).mono ?_
 rintro e w1 ⟨v1,rfl,hF,hb1⟩
 obtain⟨p,c,q,d,rfl,hA,hB⟩:=id hF.ex
 rw[show aC.length=2 from rfl] at hA ⊢
 rw[show aD.length=2 from rfl] at hB ⊢
 have cc:=ar w1 (.slice p 2 c) (.slice q 2 d)
 have m2:=ae w1 (.cells #[.slice p 2 c,.slice q 2 d] 28)
 have z2:=size_alloc w1 (.cells #[.slice p 2 c,.slice q 2 d] 28)
 go_upto_region 2 with fail
 generalize w1.alloc (.cells #[.slice p 2 c,.slice q 2 d] 28)=w2 at *
 obtain⟨g,hg⟩:∃ g,g=w1.heap.size:=⟨_,rfl⟩
 rw[←hg] at cc ⊢
 have HP:=zf (show rY w2 g p c q d from⟨cc.1,cc.2,hA.below m2,hB.below m2,(hG.below hb1).below m2,by omega⟩)
 have HB:=zf (hb1.trans (m2.mono hb1.size))
 have k0:=HP.out.f0
 have k1:=HP.out.f1
 clear cc m2 z2 hA hB hF hb1 hG hg
 go_wp2_with fail
 refine (r8 _ aC aD 4 w2 HP.out.F HP.out.G).mono ?_
 rintro e w3 ⟨vr,rfl,hvr,-,hb⟩
 have HR:=zf (hvr i8.1)
 rw[show (4:Int).toNat=4 from rfl,i8.2] at HR
 rw[i8.1]
 clear hvr
 have HP:=zf (HP.out.below hb)
 have HB:=zf (HB.out.trans ((hb).mono HB.out.size))
 clear hb k0 k1
 have k0:=HP.out.f0
 have k1:=HP.out.f1
 go_wp2_with fail
 refine (pC _ aC aD w3 HP.out.F HP.out.G).mono ?_
 rintro e w4 ⟨vp,er,rfl,hcase,hb⟩
 have HPR:er=0∧Hid (IsS w4 vp [⟨#[45,49,47,50]⟩]):=by
  rcases hcase with ⟨pf,-,h1,rfl,h2,-⟩ | ⟨-,h1,-⟩ | ⟨h1,-⟩
  ·rw[eE.1] at h1
   cases h1
   exact⟨rfl,h2⟩
  ·rw[eE.1] at h1;cases h1
  ·rw[dF] at h1;cases h1
 obtain⟨rfl,HPR⟩:=HPR
 have HR:=zf (HR.out.below hb)
 clear hcase
 have HP:=zf (HP.out.below hb)
 have HB:=zf (HB.out.trans ((hb).mono HB.out.size))
 clear hb k0 k1
 have k0:=HP.out.f0
 have k1:=HP.out.f1
 have hm:=ae w4 (.cells #[.string ⟨#[49]⟩,.string ⟨#[45,50]⟩] 22)
 have HU:=zf (pC _ aC [⟨#[49]⟩,⟨#[45,50]⟩] _ ⟨⟨p,c,_,_,rfl,HP.out.la.below hm,IsS.two w4 ⟨#[49]⟩ ⟨#[45,50]⟩⟩⟩ (HP.out.G.below hm))
 have HM:=zf hm
 clear hm
 go_wp2_with fail
 refine HU.out.mono ?_
 rintro e w5 ⟨vx,er,rfl,hcase,hb⟩
 obtain rfl:er=31:=by
  rcases hcase with ⟨pf,-,h1,-⟩ | ⟨-,-,h,-⟩ | ⟨h1,-⟩
  ·rw[eE.2.2] at h1;cases h1
  ·exact h
  ·rw[eE.2.1] at h1;cases h1
 have hb:=HM.out.trans (hb.mono HM.out.size)
 have HR:=zf (HR.out.below hb)
 have HPR:=zf (HPR.out.below hb)
 clear hcase HU HM
 have HP:=zf (HP.out.below hb)
 have HB:=zf (HB.out.trans ((hb).mono HB.out.size))
 clear hb k0 k1
 have k0:=HP.out.f0
 have k1:=HP.out.f1
 have hm:=ae w5 (.cells #[.string ⟨#[49]⟩,.string ⟨#[49,47,52]⟩,.string ⟨#[45,49,47,50]⟩] 22)
 have hl:=iF w5 [⟨#[49]⟩,⟨#[49,47,52]⟩,⟨#[45,49,47,50]⟩] (by decide)
 have hm2:=ae (w5.alloc (.cells #[.string ⟨#[49]⟩,.string ⟨#[49,47,52]⟩,.string ⟨#[45,49,47,50]⟩] 22)) (.cells #[.string ⟨#[49,47,50]⟩,.string ⟨#[45,49,47,50]⟩] 22)
 have hl2:=IsS.two (w5.alloc (.cells #[.string ⟨#[49]⟩,.string ⟨#[49,47,52]⟩,.string ⟨#[45,49,47,50]⟩] 22)) ⟨#[49,47,50]⟩ ⟨#[45,49,47,50]⟩
 have hM:=hm.trans (hm2.mono hm.size)
 have HU:=zf (jU _ _ aC [⟨#[49]⟩,⟨#[49,47,52]⟩,⟨#[45,49,47,50]⟩] [⟨#[49,47,50]⟩,⟨#[45,49,47,50]⟩] _ ⟨⟨p,c,_,_,rfl,HP.out.la.below hM,hl.below hm2⟩⟩ hl2 (HP.out.G.below hM))
 rw[nY] at HU
 have HM:=zf hM
 rw[size_alloc] at HU
 clear hm hm2 hl hl2 hM
 go_wp2_with fail
 refine HU.out.mono ?_
 rintro e w6 ⟨rfl,hb⟩
 have hb:=HM.out.trans (hb.mono HM.out.size)
 have HR:=zf (HR.out.below hb)
 have HPR:=zf (HPR.out.below hb)
 clear HU HM
 have HP:=zf (HP.out.below hb)
 have HB:=zf (HB.out.trans ((hb).mono HB.out.size))
 clear hb k0 k1
 have k0:=HP.out.f0
 have k1:=HP.out.f1
 have hm:=ae w6 (.cells #[.string ⟨#[48]⟩,.string ⟨#[49,47,50]⟩,.string ⟨#[49,47,52]⟩,.string ⟨#[49,47,56]⟩] 22)
 have HU:=zf (fy _ _ _ _ _ (HR.out.below hm) (iF w6 [⟨#[48]⟩,⟨#[49,47,50]⟩,⟨#[49,47,52]⟩,⟨#[49,47,56]⟩] (by decide)) (by decide) (by decide))
 rw[decide_eq_true (rfl:[(⟨#[48]⟩:ByteArray),⟨#[49,47,50]⟩,⟨#[49,47,52]⟩,⟨#[49,47,56]⟩]=_)] at HU
 have HM:=zf hm
 clear hm
 go_wp2_with fail
 refine HU.out.mono ?_
 rintro e w7 ⟨rfl,hb⟩
 have hb:=HM.out.trans (hb.mono HM.out.size)
 have HPR:=zf (HPR.out.below hb)
 clear HU HM HR
 have HP:=zf (HP.out.below hb)
 have HB:=zf (HB.out.trans ((hb).mono HB.out.size))
 clear hb k0 k1
 have k0:=HP.out.f0
 have k1:=HP.out.f1
 have hm:=ae w7 (.cells #[.string ⟨#[45,49,47,50]⟩] 22)
 have HU:=zf (fy _ _ _ _ _ (HPR.out.below hm) (iF w7 [⟨#[45,49,47,50]⟩] (by decide)) (by decide) (by decide))
 rw[decide_eq_true (rfl:[(⟨#[45,49,47,50]⟩:ByteArray)]=_)] at HU
 have HM:=zf hm
 clear hm
 go_wp2_with fail
 refine HU.out.mono ?_
 rintro e w8 ⟨rfl,hb⟩
 have hb:=HM.out.trans (hb.mono HM.out.size)
 clear HU HM HPR
 have HP:=zf (HP.out.below hb)
 have HB:=zf (HB.out.trans ((hb).mono HB.out.size))
 clear hb k0 k1
 have k0:=HP.out.f0
 have k1:=HP.out.f1
 go_wp2_with fail
 refine (wC _ aC aD w8 HP.out.F HP.out.G).mono ?_
 rintro e w9 ⟨nr,er,rfl,hcase,hb⟩
 obtain⟨rfl,rfl⟩:er=0∧nr=33:=by
  rcases hcase with ⟨-,-,rfl,k,rfl,k1,k64,hk,hlt⟩ | ⟨-,h,-⟩ | ⟨h,-⟩
  ·refine⟨rfl,?_⟩
   rcases Nat.lt_trichotomy k 33 with h | h | h
   ·have:=nZ.2 k h k1
    rw[hk] at this;cases this
   ·rw[h];rfl
   ·have:=hlt 33 (by decide) h
    rw[nZ.1] at this;cases this
  ·rw[eE.1] at h;cases h
  ·rw[dF] at h;cases h
 clear hcase
 have HP:=zf (HP.out.below hb)
 have HB:=zf (HB.out.trans ((hb).mono HB.out.size))
 clear hb k0 k1
 have k0:=HP.out.f0
 have k1:=HP.out.f1
 go_wp2_with fail
 refine (wj _ aC aD w9 HP.out.F HP.out.G).mono ?_
 rintro e w10 ⟨rfl,hb⟩
 rw[em.1]
 have HP:=zf (HP.out.below hb)
 have HB:=zf (HB.out.trans ((hb).mono HB.out.size))
 clear hb k0 k1
 have k0:=HP.out.f0
 have k1:=HP.out.f1
 go_wp2_with fail
 refine (lA _ aC aD _ w10 HP.out.F HP.out.G).mono ?_
 rintro e w11 ⟨rfl,hb⟩
 rw[em.2.1]
 have HP:=zf (HP.out.below hb)
 have HB:=zf (HB.out.trans ((hb).mono HB.out.size))
 clear hb k0 k1
 have k0:=HP.out.f0
 have k1:=HP.out.f1
 go_wp2_with fail
 refine (lA _ aC aD _ w11 HP.out.F HP.out.G).mono ?_
 rintro e w12 ⟨rfl,hb⟩
 rw[em.2.2.1]
 have HP:=zf (HP.out.below hb)
 have HB:=zf (HB.out.trans ((hb).mono HB.out.size))
 clear hb k0 k1
 have k0:=HP.out.f0
 have k1:=HP.out.f1
 go_wp2_with fail
 refine (wg _ aC aD w12 HP.out.F HP.out.G).mono ?_
 rintro e w13 ⟨vc,rfl,hfc,hb⟩
 rw[em.2.2.2.2.1] at hfc ⊢
 have HP:=zf (HP.out.below hb)
 have HB:=zf (HB.out.trans ((hb).mono HB.out.size))
 clear hb k0 k1
 have k0:=HP.out.f0
 have k1:=HP.out.f1
 obtain⟨pc,cc,qc,dc,e,hca,hcb,-,-⟩:=hfc.ex
 replace e:vc=.agg #[.slice pc 2 cc,.slice qc 2 dc]:=e
 replace hca:IsS w13 (.slice pc 2 cc) aC:=hca
 replace hcb:IsS w13 (.slice qc 2 dc) [⟨#[49]⟩,⟨#[48]⟩]:=hcb
 subst e
 clear hfc
 go_upto_region 15 with fail
 have kk:=ar w13 (.slice pc 2 cc) (.slice qc 2 dc)
 have hb:=ae w13 (.cells #[.slice pc 2 cc,.slice qc 2 dc] 28)
 have zz:=size_alloc w13 (.cells #[.slice pc 2 cc,.slice qc 2 dc] 28)
 generalize w13.alloc (.cells #[.slice pc 2 cc,.slice qc 2 dc] 28)=w14 at *
 obtain⟨gc,hgc⟩:∃ x,x=w13.heap.size:=⟨_,rfl⟩
 rw[←hgc] at kk ⊢
 have HC:=zf (And.intro (show gc<w14.heap.size by omega) (And.intro kk.1 (And.intro kk.2 (And.intro (hca.below hb) (hcb.below hb)))))
 clear hca hcb kk zz hgc
 have HP:=zf (HP.out.below hb)
 have HB:=zf (HB.out.trans ((hb).mono HB.out.size))
 clear hb k0 k1
 have k0:=HP.out.f0
 have k1:=HP.out.f1
 go_wp2_with fail
 refine (yR _ aC aD w14 HP.out.F HP.out.G).mono ?_
 rintro e w15 ⟨vd,rfl,hfc,hb⟩
 rw[em.2.2.2.2.2] at hfc ⊢
 obtain⟨pd,cd,qd,dd,e,hda,hdb,-,-⟩:=hfc.ex
 replace e:vd=.agg #[.slice pd 2 cd,.slice qd 2 dd]:=e
 replace hda:IsS w15 (.slice pd 2 cd) aD:=hda
 replace hdb:IsS w15 (.slice qd 2 dd) [⟨#[49]⟩,⟨#[48]⟩]:=hdb
 subst e
 have hc:=HC.out
 have HC:=zf (And.intro (zq hc.1 hb.size) (And.intro (aa hb hc.1 hc.2.1) (And.intro (aa hb hc.1 hc.2.2.1) (And.intro (hc.2.2.2.1.below hb) (hc.2.2.2.2.below hb)))))
 clear hfc hc
 have HP:=zf (HP.out.below hb)
 have HB:=zf (HB.out.trans ((hb).mono HB.out.size))
 clear hb k0 k1
 have k0:=HP.out.f0
 have k1:=HP.out.f1
 go_upto_region 16 with fail
 have kk:=ar w15 (.slice pd 2 cd) (.slice qd 2 dd)
 have hb:=ae w15 (.cells #[.slice pd 2 cd,.slice qd 2 dd] 28)
 have zz:=size_alloc w15 (.cells #[.slice pd 2 cd,.slice qd 2 dd] 28)
 generalize w15.alloc (.cells #[.slice pd 2 cd,.slice qd 2 dd] 28)=w16 at *
 obtain⟨gd,hgd⟩:∃ x,x=w15.heap.size:=⟨_,rfl⟩
 rw[←hgd] at kk ⊢
 have HD:=zf (And.intro (show gd<w16.heap.size by omega) (And.intro kk.1 (And.intro kk.2 (And.intro (hda.below hb) (hdb.below hb)))))
 have hc:=HC.out
 have HC:=zf (And.intro (zq hc.1 hb.size) (And.intro (aa hb hc.1 hc.2.1) (And.intro (aa hb hc.1 hc.2.2.1) (And.intro (hc.2.2.2.1.below hb) (hc.2.2.2.2.below hb)))))
 clear hda hdb kk zz hgd hc
 have HP:=zf (HP.out.below hb)
 have HB:=zf (HB.out.trans ((hb).mono HB.out.size))
 clear hb k0 k1
 have k0:=HP.out.f0
 have k1:=HP.out.f1
 have hm:=ae w16 (.cells #[.string ⟨#[49]⟩,.string ⟨#[48]⟩] 22)
 have HU:=zf (xR (.agg #[.slice pc 2 cc,.slice qc 2 dc]) (.agg #[.slice p 2 c,.slice (some ⟨w16.heap.size,0,none⟩) 2 2]) aC [⟨#[49]⟩,⟨#[48]⟩] aC [⟨#[49]⟩,⟨#[48]⟩] _ ⟨⟨_,_,_,_,rfl,HC.out.2.2.2.1.below hm,HC.out.2.2.2.2.below hm⟩⟩ ⟨⟨_,_,_,_,rfl,HP.out.la.below hm,IsS.two w16 ⟨#[49]⟩ ⟨#[48]⟩⟩⟩ (by decide) (by decide) (by decide) (by decide))
 rw[show (decide (aC=aC)&&decide ([(⟨#[49]⟩:ByteArray),⟨#[48]⟩]=[⟨#[49]⟩,⟨#[48]⟩]))=true from by decide] at HU
 have HM:=zf hm
 have x0:=HC.out.2.1
 have x1:=HC.out.2.2.1
 clear hm
 go_wp2_with fail
 refine HU.out.mono ?_
 rintro e w17 ⟨rfl,hb⟩
 have hb:=HM.out.trans (hb.mono HM.out.size)
 have hc:=HD.out
 have HD:=zf (And.intro (zq hc.1 hb.size) (And.intro (aa hb hc.1 hc.2.1) (And.intro (aa hb hc.1 hc.2.2.1) (And.intro (hc.2.2.2.1.below hb) (hc.2.2.2.2.below hb)))))
 clear HU HM hc HC x0 x1
 have HP:=zf (HP.out.below hb)
 have HB:=zf (HB.out.trans ((hb).mono HB.out.size))
 clear hb k0 k1
 have k0:=HP.out.f0
 have k1:=HP.out.f1
 have hm:=ae w17 (.cells #[.string ⟨#[49]⟩,.string ⟨#[48]⟩] 22)
 have HU:=zf (xR (.agg #[.slice pd 2 cd,.slice qd 2 dd]) (.agg #[.slice q 2 d,.slice (some ⟨w17.heap.size,0,none⟩) 2 2]) aD [⟨#[49]⟩,⟨#[48]⟩] aD [⟨#[49]⟩,⟨#[48]⟩] _ ⟨⟨_,_,_,_,rfl,HD.out.2.2.2.1.below hm,HD.out.2.2.2.2.below hm⟩⟩ ⟨⟨_,_,_,_,rfl,HP.out.lb.below hm,IsS.two w17 ⟨#[49]⟩ ⟨#[48]⟩⟩⟩ (by decide) (by decide) (by decide) (by decide))
 rw[show (decide (aD=aD)&&decide ([(⟨#[49]⟩:ByteArray),⟨#[48]⟩]=[⟨#[49]⟩,⟨#[48]⟩]))=true from by decide] at HU
 have HM:=zf hm
 have x0:=HD.out.2.1
 have x1:=HD.out.2.2.1
 clear hm
 go_wp2_with fail
 refine HU.out.mono ?_
 rintro e w18 ⟨rfl,hb⟩
 have hb:=HM.out.trans (hb.mono HM.out.size)
 clear HU HM HD x0 x1
 have HP:=zf (HP.out.below hb)
 have HB:=zf (HB.out.trans ((hb).mono HB.out.size))
 clear hb k0 k1
 have k0:=HP.out.f0
 have k1:=HP.out.f1
 go_wp2_with fail
 refine (nm _ aC aD ⟨#[45,49,47,50]⟩ ⟨#[50]⟩ 1 w18 HP.out.F HP.out.G rfl (by decide) qV.1).mono ?_
 rintro e w19 ⟨rfl,hb⟩
 rw[qV.2]
 have HP:=zf (HP.out.below hb)
 have HB:=zf (HB.out.trans ((hb).mono HB.out.size))
 clear hb k0 k1
 have k0:=HP.out.f0
 have k1:=HP.out.f1
 go_wp2_with fail
 refine (nm _ aC aD ⟨#[48]⟩ ⟨#[51]⟩ 1 w19 HP.out.F HP.out.G rfl (by decide) qW.1).mono ?_
 rintro e w20 ⟨rfl,hb⟩
 rw[qW.2]
 have HP:=zf (HP.out.below hb)
 have HB:=zf (HB.out.trans ((hb).mono HB.out.size))
 clear hb k0 k1
 have k0:=HP.out.f0
 have k1:=HP.out.f1
 have hm:=ae w20 (.cells #[.string ⟨#[45,50]⟩,.string ⟨#[45,49]⟩,.string ⟨#[48]⟩,.string ⟨#[49]⟩,.string ⟨#[50]⟩,.string ⟨#[51]⟩] 22)
 have HU:=zf (qF (.agg #[.slice p 2 c,.slice q 2 d]) (.slice (some ⟨w20.heap.size,0,none⟩) 6 6) _ (HP.out.F.below hm) (iF w20 fj (by decide)) (HP.out.G.below hm))
 have HM:=zf hm
 clear hm
 go_wp2_with fail
 refine HU.out.mono ?_
 rintro e w21 ⟨rfl,hb⟩
 have hb:=HM.out.trans (hb.mono HM.out.size)
 clear HU HM
 have HP:=zf (HP.out.below hb)
 have HB:=zf (HB.out.trans ((hb).mono HB.out.size))
 clear hb k0 k1
 have k0:=HP.out.f0
 have k1:=HP.out.f1
 go_upto_region 21 with fail
 have r2:=heap_alloc_new w21 (.cells #[.string ⟨#[48]⟩,.string ⟨#[50]⟩] 79 (0,0))
 have hb:=ae w21 (.cells #[.string ⟨#[48]⟩,.string ⟨#[50]⟩] 79)
 have zz:=size_alloc w21 (.cells #[.string ⟨#[48]⟩,.string ⟨#[50]⟩] 79)
 generalize w21.alloc (.cells #[.string ⟨#[48]⟩,.string ⟨#[50]⟩] 79)=w22 at *
 obtain⟨gm,hgm⟩:∃ x,x=w21.heap.size:=⟨_,rfl⟩
 rw[←hgm] at r2 ⊢
 clear zz hgm
 have HP:=zf (HP.out.below hb)
 have HB:=zf (HB.out.trans ((hb).mono HB.out.size))
 clear hb k0 k1
 have k0:=HP.out.f0
 have k1:=HP.out.f1
 go_wp2_with fail
 refine (wh _ aC aD w22 HP.out.F HP.out.G).mono ?_
 rintro e w23 ⟨rfl,hb⟩
 rw[em.2.2.2.1]
 have r2:=(hb.block gm (zr.1 r2).1).trans r2
 have y0:=ai r2 0
 have y1:=ai r2 1
 simp only[BF,Bz,A7] at y0 y1
 clear r2
 have HP:=zf (HP.out.below hb)
 have HB:=zf (HB.out.trans ((hb).mono HB.out.size))
 clear hb k0 k1
 have k0:=HP.out.f0
 have k1:=HP.out.f1
 go_wp2
 go_ret
 exact⟨rfl,HB.out⟩
end Go.Proofs.YtdlioncecgnloaaGreatDoor
