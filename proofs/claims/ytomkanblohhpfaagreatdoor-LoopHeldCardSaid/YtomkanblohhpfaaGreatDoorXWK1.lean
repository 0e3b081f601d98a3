/- Lemmas of this claim. -/
import Derived.Test.YtomkanblohhpfaaGreatDoorXLP5
import Derived.Test.YtomkanblohhpfaaGreatDoorXLC3
import Derived.Test.YtomkanblohhpfaaGreatDoorXLB4
import Derived.Test.YtomkanblohhpfaaGreatDoorXLE5
set_option linter.all false
set_option maxRecDepth 100000
set_option maxHeartbeats 8000000
namespace Go.Proofs.YtomkanblohhpfaaGreatDoor
open Go.RowKit Dg
structure rP (w:World) (g:Nat) (p:Option Addr) (c:Nat) (q:Option Addr) (d:Nat):Prop where
 f0:w.cell? ⟨g,0,none⟩=some (.slice p 2 c)
 f1:w.cell? ⟨g,1,none⟩=some (.slice q 2 d)
 la:IsS w (.slice p 2 c) aD
 lb:IsS w (.slice q 2 d) aF
 G:Gx w
 lt:g<w.heap.size
theorem rP.below {w w':World}{g:Nat}{p:Option Addr}{c:Nat}{q:Option Addr}{d:Nat} (h:rP w g p c q d) (hb:Below w.heap.size w w'):rP w' g p c q d :=
 ⟨aa hb h.lt h.f0,aa hb h.lt h.f1,h.la.below hb,h.lb.below hb,h.G.below hb,y_ h.lt hb.size⟩
theorem rP.F {w:World}{g:Nat}{p:Option Addr}{c:Nat}{q:Option Addr}{d:Nat} (h:rP w g p c q d):IsF w (.agg #[.slice p 2 c,.slice q 2 d]) aD aF:=⟨⟨p,c,q,d,rfl,h.la,h.lb⟩⟩
theorem jp:iA aD aF 4=0∧dt aD aF (eY 4) 4=[⟨#[48]⟩,⟨#[49,47,50]⟩,⟨#[49,47,52]⟩,⟨#[49,47,56]⟩]:=by decide +kernel
theorem eP:a_ aF=some [⟨#[45,49,47,50]⟩]∧au aD [⟨#[49]⟩,⟨#[45,50]⟩]=true∧a_ [⟨#[49]⟩,⟨#[45,50]⟩]=none:=by decide +kernel
theorem nT:dN aD [⟨#[49]⟩,⟨#[49,47,52]⟩,⟨#[45,49,47,50]⟩] [⟨#[49,47,50]⟩,⟨#[45,49,47,50]⟩]=(true,0):=by decide +kernel
theorem nU:dz aF (ofT 33)=true∧∀ m,m<33→1≤m→dz aF (ofT m)=false:=by decide +kernel
theorem eD:cI aD aF=(⟨#[49,47,51]⟩,0)∧aG aD aF ⟨#[45,49]⟩=(⟨#[45,49,47,51]⟩,0)∧aG aD aF ⟨#[49,47,50]⟩=(⟨#[]⟩,32)∧dj aD aF=(5,0)∧ce aD aF=((aD,[⟨#[49]⟩,⟨#[48]⟩]),0)∧d_ aD aF=((aF,[⟨#[49]⟩,⟨#[48]⟩]),0):=by decide +kernel
theorem iY (w:World) (l:List ByteArray) (h:l.length<1000):IsS (w.alloc (.cells (l.map Value.string).toArray 31)) (.slice (some ⟨w.heap.size,0,none⟩) l.length l.length) l :=
 bj.isS (base:=w.heap.size) (by
  refine⟨by simp,Or.inr ⟨w.heap.size,l.length,_,rfl,y9 _,heap_alloc_new w _,y9 _,by unfold maxLen;omega,by simp,by simp[zh]⟩⟩)
theorem d7 (w:World) (hG:Gx w):Calls Tryz.prog 13 #[] w fun e w'=>e=.returned (.bool true)∧Below w.heap.size w w':=by
 go_enter Tryz.func13,Tryz.ntmps13
 go_wp2_with fail
 refine (yK w).mono ?_
 rintro e w1 ⟨v1,rfl,hF,hb1⟩
 obtain⟨p,c,q,d,rfl,hA,hB⟩:=id hF.ex
 rw[show aD.length=2 from rfl] at hA ⊢
 rw[show aF.length=2 from rfl] at hB ⊢
 have cc:=am w1 (.slice p 2 c) (.slice q 2 d)
 have m2:=ae w1 (.cells #[.slice p 2 c,.slice q 2 d] 24)
 have z2:=size_alloc w1 (.cells #[.slice p 2 c,.slice q 2 d] 24)
 go_upto_region 2 with fail
 generalize w1.alloc (.cells #[.slice p 2 c,.slice q 2 d] 24)=w2 at *
 obtain⟨g,hg⟩:∃ g,g=w1.heap.size:=⟨_,rfl⟩
 rw[←hg] at cc ⊢
 have HP:=yX (show rP w2 g p c q d from⟨cc.1,cc.2,hA.below m2,hB.below m2,(hG.below hb1).below m2,by omega⟩)
 have HB:=yX (hb1.trans (m2.mono hb1.size))
 have k0:=HP.out.f0
 have k1:=HP.out.f1
 clear cc m2 z2 hA hB hF hb1 hG hg
 go_wp2_with fail
 refine (rT _ aD aF 4 w2 HP.out.F HP.out.G).mono ?_
 rintro e w3 ⟨vr,rfl,hvr,-,hb⟩
 have HR:=yX (hvr jp.1)
 rw[show (4:Int).toNat=4 from rfl,jp.2] at HR
 rw[jp.1]
 clear hvr
 have HP:=yX (HP.out.below hb)
 have HB:=yX (HB.out.trans ((hb).mono HB.out.size))
 clear hb k0 k1
 have k0:=HP.out.f0
 have k1:=HP.out.f1
 go_wp2_with fail
 refine (tD _ aD aF w3 HP.out.F HP.out.G).mono ?_
 rintro e w4 ⟨vp,er,rfl,hcase,hb⟩
 have HPR:er=0∧Hid (IsS w4 vp [⟨#[45,49,47,50]⟩]):=by
  rcases hcase with ⟨pf,-,h1,rfl,h2,-⟩ | ⟨-,h1,-⟩ | ⟨h1,-⟩
  ·rw[eP.1] at h1
   cases h1
   exact⟨rfl,h2⟩
  ·rw[eP.1] at h1;cases h1
  ·rw[dD] at h1;cases h1
 obtain⟨rfl,HPR⟩:=HPR
 have HR:=yX (HR.out.below hb)
 clear hcase
 have HP:=yX (HP.out.below hb)
 have HB:=yX (HB.out.trans ((hb).mono HB.out.size))
 clear hb k0 k1
 have k0:=HP.out.f0
 have k1:=HP.out.f1
 have hm:=ae w4 (.cells #[.string ⟨#[49]⟩,.string ⟨#[45,50]⟩] 31)
 have HU:=yX (tD _ aD [⟨#[49]⟩,⟨#[45,50]⟩] _ ⟨⟨p,c,_,_,rfl,HP.out.la.below hm,IsS.two w4 ⟨#[49]⟩ ⟨#[45,50]⟩⟩⟩ (HP.out.G.below hm))
 have HM:=yX hm
 clear hm
 go_wp2_with fail
 refine HU.out.mono ?_
 rintro e w5 ⟨vx,er,rfl,hcase,hb⟩
 obtain rfl:er=31:=by
  rcases hcase with ⟨pf,-,h1,-⟩ | ⟨-,-,h,-⟩ | ⟨h1,-⟩
  ·rw[eP.2.2] at h1;cases h1
  ·exact h
  ·rw[eP.2.1] at h1;cases h1
 have hb:=HM.out.trans (hb.mono HM.out.size)
 have HR:=yX (HR.out.below hb)
 have HPR:=yX (HPR.out.below hb)
 clear hcase HU HM
 have HP:=yX (HP.out.below hb)
 have HB:=yX (HB.out.trans ((hb).mono HB.out.size))
 clear hb k0 k1
 have k0:=HP.out.f0
 have k1:=HP.out.f1
 have hm:=ae w5 (.cells #[.string ⟨#[49]⟩,.string ⟨#[49,47,52]⟩,.string ⟨#[45,49,47,50]⟩] 31)
 have hl:=iY w5 [⟨#[49]⟩,⟨#[49,47,52]⟩,⟨#[45,49,47,50]⟩] (by decide)
 have hm2:=ae (w5.alloc (.cells #[.string ⟨#[49]⟩,.string ⟨#[49,47,52]⟩,.string ⟨#[45,49,47,50]⟩] 31)) (.cells #[.string ⟨#[49,47,50]⟩,.string ⟨#[45,49,47,50]⟩] 31)
 have hl2:=IsS.two (w5.alloc (.cells #[.string ⟨#[49]⟩,.string ⟨#[49,47,52]⟩,.string ⟨#[45,49,47,50]⟩] 31)) ⟨#[49,47,50]⟩ ⟨#[45,49,47,50]⟩
 have hM:=hm.trans (hm2.mono hm.size)
 have HU:=yX (wn _ _ aD [⟨#[49]⟩,⟨#[49,47,52]⟩,⟨#[45,49,47,50]⟩] [⟨#[49,47,50]⟩,⟨#[45,49,47,50]⟩] _ ⟨⟨p,c,_,_,rfl,HP.out.la.below hM,hl.below hm2⟩⟩ hl2 (HP.out.G.below hM))
 rw[nT] at HU
 have HM:=yX hM
 rw[size_alloc] at HU
 clear hm hm2 hl hl2 hM
 go_wp2_with fail
 refine HU.out.mono ?_
 rintro e w6 ⟨rfl,hb⟩
 have hb:=HM.out.trans (hb.mono HM.out.size)
 have HR:=yX (HR.out.below hb)
 have HPR:=yX (HPR.out.below hb)
 clear HU HM
 have HP:=yX (HP.out.below hb)
 have HB:=yX (HB.out.trans ((hb).mono HB.out.size))
 clear hb k0 k1
 have k0:=HP.out.f0
 have k1:=HP.out.f1
 have hm:=ae w6 (.cells #[.string ⟨#[48]⟩,.string ⟨#[49,47,50]⟩,.string ⟨#[49,47,52]⟩,.string ⟨#[49,47,56]⟩] 31)
 have HU:=yX (fG _ _ _ _ _ (HR.out.below hm) (iY w6 [⟨#[48]⟩,⟨#[49,47,50]⟩,⟨#[49,47,52]⟩,⟨#[49,47,56]⟩] (by decide)) (by decide) (by decide))
 rw[decide_eq_true (rfl:[(⟨#[48]⟩:ByteArray),⟨#[49,47,50]⟩,⟨#[49,47,52]⟩,⟨#[49,47,56]⟩]=_)] at HU
 have HM:=yX hm
 clear hm
 go_wp2_with fail
 refine HU.out.mono ?_
 rintro e w7 ⟨rfl,hb⟩
 have hb:=HM.out.trans (hb.mono HM.out.size)
 have HPR:=yX (HPR.out.below hb)
 clear HU HM HR
 have HP:=yX (HP.out.below hb)
 have HB:=yX (HB.out.trans ((hb).mono HB.out.size))
 clear hb k0 k1
 have k0:=HP.out.f0
 have k1:=HP.out.f1
 have hm:=ae w7 (.cells #[.string ⟨#[45,49,47,50]⟩] 31)
 have HU:=yX (fG _ _ _ _ _ (HPR.out.below hm) (iY w7 [⟨#[45,49,47,50]⟩] (by decide)) (by decide) (by decide))
 rw[decide_eq_true (rfl:[(⟨#[45,49,47,50]⟩:ByteArray)]=_)] at HU
 have HM:=yX hm
 clear hm
 go_wp2_with fail
 refine HU.out.mono ?_
 rintro e w8 ⟨rfl,hb⟩
 have hb:=HM.out.trans (hb.mono HM.out.size)
 clear HU HM HPR
 have HP:=yX (HP.out.below hb)
 have HB:=yX (HB.out.trans ((hb).mono HB.out.size))
 clear hb k0 k1
 have k0:=HP.out.f0
 have k1:=HP.out.f1
 go_wp2_with fail
 refine (wA _ aD aF w8 HP.out.F HP.out.G).mono ?_
 rintro e w9 ⟨nr,er,rfl,hcase,hb⟩
 obtain⟨rfl,rfl⟩:er=0∧nr=33:=by
  rcases hcase with ⟨-,-,rfl,k,rfl,k1,k64,hk,hlt⟩ | ⟨-,h,-⟩ | ⟨h,-⟩
  ·refine⟨rfl,?_⟩
   rcases Nat.lt_trichotomy k 33 with h | h | h
   ·have:=nU.2 k h k1
    rw[hk] at this;cases this
   ·rw[h];rfl
   ·have:=hlt 33 (by decide) h
    rw[nU.1] at this;cases this
  ·rw[eP.1] at h;cases h
  ·rw[dD] at h;cases h
 clear hcase
 have HP:=yX (HP.out.below hb)
 have HB:=yX (HB.out.trans ((hb).mono HB.out.size))
 clear hb k0 k1
 have k0:=HP.out.f0
 have k1:=HP.out.f1
 go_wp2_with fail
 refine (wg _ aD aF w9 HP.out.F HP.out.G).mono ?_
 rintro e w10 ⟨rfl,hb⟩
 rw[eD.1]
 have HP:=yX (HP.out.below hb)
 have HB:=yX (HB.out.trans ((hb).mono HB.out.size))
 clear hb k0 k1
 have k0:=HP.out.f0
 have k1:=HP.out.f1
 go_wp2_with fail
 refine (ji _ aD aF _ w10 HP.out.F HP.out.G).mono ?_
 rintro e w11 ⟨rfl,hb⟩
 rw[eD.2.1]
 have HP:=yX (HP.out.below hb)
 have HB:=yX (HB.out.trans ((hb).mono HB.out.size))
 clear hb k0 k1
 have k0:=HP.out.f0
 have k1:=HP.out.f1
 go_wp2_with fail
 refine (ji _ aD aF _ w11 HP.out.F HP.out.G).mono ?_
 rintro e w12 ⟨rfl,hb⟩
 rw[eD.2.2.1]
 have HP:=yX (HP.out.below hb)
 have HB:=yX (HB.out.trans ((hb).mono HB.out.size))
 clear hb k0 k1
 have k0:=HP.out.f0
 have k1:=HP.out.f1
 go_wp2_with fail
 refine (qv _ aD aF w12 HP.out.F HP.out.G).mono ?_
 rintro e w13 ⟨vc,rfl,hfc,hb⟩
 rw[eD.2.2.2.2.1] at hfc ⊢
 have HP:=yX (HP.out.below hb)
 have HB:=yX (HB.out.trans ((hb).mono HB.out.size))
 clear hb k0 k1
 have k0:=HP.out.f0
 have k1:=HP.out.f1
 obtain⟨pc,cc,qc,dc,e,hca,hcb,-,-⟩:=hfc.ex
 replace e:vc=.agg #[.slice pc 2 cc,.slice qc 2 dc]:=e
 replace hca:IsS w13 (.slice pc 2 cc) aD:=hca
 replace hcb:IsS w13 (.slice qc 2 dc) [⟨#[49]⟩,⟨#[48]⟩]:=hcb
 subst e
 clear hfc
 go_upto_region 15 with fail
 have kk:=am w13 (.slice pc 2 cc) (.slice qc 2 dc)
 have hb:=ae w13 (.cells #[.slice pc 2 cc,.slice qc 2 dc] 24)
 have zz:=size_alloc w13 (.cells #[.slice pc 2 cc,.slice qc 2 dc] 24)
 generalize w13.alloc (.cells #[.slice pc 2 cc,.slice qc 2 dc] 24)=w14 at *
 obtain⟨gc,hgc⟩:∃ x,x=w13.heap.size:=⟨_,rfl⟩
 rw[←hgc] at kk ⊢
 have HC:=yX (And.intro (show gc<w14.heap.size by omega) (And.intro kk.1 (And.intro kk.2 (And.intro (hca.below hb) (hcb.below hb)))))
 clear hca hcb kk zz hgc
 have HP:=yX (HP.out.below hb)
 have HB:=yX (HB.out.trans ((hb).mono HB.out.size))
 clear hb k0 k1
 have k0:=HP.out.f0
 have k1:=HP.out.f1
 go_wp2_with fail
 refine (xy _ aD aF w14 HP.out.F HP.out.G).mono ?_
 rintro e w15 ⟨vd,rfl,hfc,hb⟩
 rw[eD.2.2.2.2.2] at hfc ⊢
 obtain⟨pd,cd,qd,dd,e,hda,hdb,-,-⟩:=hfc.ex
 replace e:vd=.agg #[.slice pd 2 cd,.slice qd 2 dd]:=e
 replace hda:IsS w15 (.slice pd 2 cd) aF:=hda
 replace hdb:IsS w15 (.slice qd 2 dd) [⟨#[49]⟩,⟨#[48]⟩]:=hdb
 subst e
 have hc:=HC.out
 have HC:=yX (And.intro (y_ hc.1 hb.size) (And.intro (aa hb hc.1 hc.2.1) (And.intro (aa hb hc.1 hc.2.2.1) (And.intro (hc.2.2.2.1.below hb) (hc.2.2.2.2.below hb)))))
 clear hfc hc
 have HP:=yX (HP.out.below hb)
 have HB:=yX (HB.out.trans ((hb).mono HB.out.size))
 clear hb k0 k1
 have k0:=HP.out.f0
 have k1:=HP.out.f1
 go_upto_region 16 with fail
 have kk:=am w15 (.slice pd 2 cd) (.slice qd 2 dd)
 have hb:=ae w15 (.cells #[.slice pd 2 cd,.slice qd 2 dd] 24)
 have zz:=size_alloc w15 (.cells #[.slice pd 2 cd,.slice qd 2 dd] 24)
 generalize w15.alloc (.cells #[.slice pd 2 cd,.slice qd 2 dd] 24)=w16 at *
 obtain⟨gd,hgd⟩:∃ x,x=w15.heap.size:=⟨_,rfl⟩
 rw[←hgd] at kk ⊢
 have HD:=yX (And.intro (show gd<w16.heap.size by omega) (And.intro kk.1 (And.intro kk.2 (And.intro (hda.below hb) (hdb.below hb)))))
 have hc:=HC.out
 have HC:=yX (And.intro (y_ hc.1 hb.size) (And.intro (aa hb hc.1 hc.2.1) (And.intro (aa hb hc.1 hc.2.2.1) (And.intro (hc.2.2.2.1.below hb) (hc.2.2.2.2.below hb)))))
 clear hda hdb kk zz hgd hc
 have HP:=yX (HP.out.below hb)
 have HB:=yX (HB.out.trans ((hb).mono HB.out.size))
 clear hb k0 k1
 have k0:=HP.out.f0
 have k1:=HP.out.f1
 have hm:=ae w16 (.cells #[.string ⟨#[49]⟩,.string ⟨#[48]⟩] 31)
 have HU:=yX (xN (.agg #[.slice pc 2 cc,.slice qc 2 dc]) (.agg #[.slice p 2 c,.slice (some ⟨w16.heap.size,0,none⟩) 2 2]) aD [⟨#[49]⟩,⟨#[48]⟩] aD [⟨#[49]⟩,⟨#[48]⟩] _ ⟨⟨_,_,_,_,rfl,HC.out.2.2.2.1.below hm,HC.out.2.2.2.2.below hm⟩⟩ ⟨⟨_,_,_,_,rfl,HP.out.la.below hm,IsS.two w16 ⟨#[49]⟩ ⟨#[48]⟩⟩⟩ (by decide) (by decide) (by decide) (by decide))
 rw[show (decide (aD=aD)&&decide ([(⟨#[49]⟩:ByteArray),⟨#[48]⟩]=[⟨#[49]⟩,⟨#[48]⟩]))=true from by decide] at HU
 have HM:=yX hm
 have x0:=HC.out.2.1
 have x1:=HC.out.2.2.1
 clear hm
 go_wp2_with fail
 refine HU.out.mono ?_
 rintro e w17 ⟨rfl,hb⟩
 have hb:=HM.out.trans (hb.mono HM.out.size)
 have hc:=HD.out
 have HD:=yX (And.intro (y_ hc.1 hb.size) (And.intro (aa hb hc.1 hc.2.1) (And.intro (aa hb hc.1 hc.2.2.1) (And.intro (hc.2.2.2.1.below hb) (hc.2.2.2.2.below hb)))))
 clear HU HM hc HC x0 x1
 have HP:=yX (HP.out.below hb)
 have HB:=yX (HB.out.trans ((hb).mono HB.out.size))
 clear hb k0 k1
 have k0:=HP.out.f0
 have k1:=HP.out.f1
 have hm:=ae w17 (.cells #[.string ⟨#[49]⟩,.string ⟨#[48]⟩] 31)
 have HU:=yX (xN (.agg #[.slice pd 2 cd,.slice qd 2 dd]) (.agg #[.slice q 2 d,.slice (some ⟨w17.heap.size,0,none⟩) 2 2]) aF [⟨#[49]⟩,⟨#[48]⟩] aF [⟨#[49]⟩,⟨#[48]⟩] _ ⟨⟨_,_,_,_,rfl,HD.out.2.2.2.1.below hm,HD.out.2.2.2.2.below hm⟩⟩ ⟨⟨_,_,_,_,rfl,HP.out.lb.below hm,IsS.two w17 ⟨#[49]⟩ ⟨#[48]⟩⟩⟩ (by decide) (by decide) (by decide) (by decide))
 rw[show (decide (aF=aF)&&decide ([(⟨#[49]⟩:ByteArray),⟨#[48]⟩]=[⟨#[49]⟩,⟨#[48]⟩]))=true from by decide] at HU
 have HM:=yX hm
 have x0:=HD.out.2.1
 have x1:=HD.out.2.2.1
 clear hm
 go_wp2_with fail
 refine HU.out.mono ?_
 rintro e w18 ⟨rfl,hb⟩
 have hb:=HM.out.trans (hb.mono HM.out.size)
 clear HU HM HD x0 x1
 have HP:=yX (HP.out.below hb)
 have HB:=yX (HB.out.trans ((hb).mono HB.out.size))
 clear hb k0 k1
 have k0:=HP.out.f0
 have k1:=HP.out.f1
 go_wp2_with fail
 refine (nm _ aD aF ⟨#[45,49,47,50]⟩ ⟨#[50]⟩ 1 w18 HP.out.F HP.out.G rfl (by decide) qM.1).mono ?_
 rintro e w19 ⟨rfl,hb⟩
 rw[qM.2]
 have HP:=yX (HP.out.below hb)
 have HB:=yX (HB.out.trans ((hb).mono HB.out.size))
 clear hb k0 k1
 have k0:=HP.out.f0
 have k1:=HP.out.f1
 go_wp2_with fail
 refine (nm _ aD aF ⟨#[48]⟩ ⟨#[51]⟩ 1 w19 HP.out.F HP.out.G rfl (by decide) qN.1).mono ?_
 rintro e w20 ⟨rfl,hb⟩
 rw[qN.2]
 have HP:=yX (HP.out.below hb)
 have HB:=yX (HB.out.trans ((hb).mono HB.out.size))
 clear hb k0 k1
 have k0:=HP.out.f0
 have k1:=HP.out.f1
 have hm:=ae w20 (.cells #[.string ⟨#[45,50]⟩,.string ⟨#[45,49]⟩,.string ⟨#[48]⟩,.string ⟨#[49]⟩,.string ⟨#[50]⟩,.string ⟨#[51]⟩] 31)
 have HU:=yX (qt (.agg #[.slice p 2 c,.slice q 2 d]) (.slice (some ⟨w20.heap.size,0,none⟩) 6 6) _ (HP.out.F.below hm) (iY w20 fw (by decide)) (HP.out.G.below hm))
 have HM:=yX hm
 clear hm
 go_wp2_with fail
 refine HU.out.mono ?_
 rintro e w21 ⟨rfl,hb⟩
 have hb:=HM.out.trans (hb.mono HM.out.size)
 clear HU HM
 have HP:=yX (HP.out.below hb)
 have HB:=yX (HB.out.trans ((hb).mono HB.out.size))
 clear hb k0 k1
 have k0:=HP.out.f0
 have k1:=HP.out.f1
 go_upto_region 21 with fail
 have r2:=heap_alloc_new w21 (.cells #[.string ⟨#[48]⟩,.string ⟨#[50]⟩] 73 (0,0))
 have hb:=ae w21 (.cells #[.string ⟨#[48]⟩,.string ⟨#[50]⟩] 73)
 have zz:=size_alloc w21 (.cells #[.string ⟨#[48]⟩,.string ⟨#[50]⟩] 73)
 generalize w21.alloc (.cells #[.string ⟨#[48]⟩,.string ⟨#[50]⟩] 73)=w22 at *
 obtain⟨gm,hgm⟩:∃ x,x=w21.heap.size:=⟨_,rfl⟩
 rw[←hgm] at r2 ⊢
 clear zz hgm
 have HP:=yX (HP.out.below hb)
 have HB:=yX (HB.out.trans ((hb).mono HB.out.size))
 clear hb k0 k1
 have k0:=HP.out.f0
 have k1:=HP.out.f1
 go_wp2_with fail
 refine (v_ _ aD aF w22 HP.out.F HP.out.G).mono ?_
 rintro e w23 ⟨rfl,hb⟩
 rw[eD.2.2.2.1]
 have r2:=(hb.block gm (zf.1 r2).1).trans r2
 have y0:=ah r2 0
 have y1:=ah r2 1
 simp only[Bd,A_,AM] at y0 y1
 clear r2
 have HP:=yX (HP.out.below hb)
 have HB:=yX (HB.out.trans ((hb).mono HB.out.size))
 clear hb k0 k1
 have k0:=HP.out.f0
 have k1:=HP.out.f1
 go_wp2
 go_ret
 exact⟨rfl,HB.out⟩
end Go.Proofs.YtomkanblohhpfaaGreatDoor
