/- Lemmas of this claim. -/
import Derived.Test.YtomkanblohhpfaaGreatDoorYLP5
import Derived.Test.YtomkanblohhpfaaGreatDoorYLC3
import Derived.Test.YtomkanblohhpfaaGreatDoorYLB4
import Derived.Test.YtomkanblohhpfaaGreatDoorYLE5
set_option linter.all false
set_option maxRecDepth 100000
set_option maxHeartbeats 8000000
namespace Go.Proofs.YtomkanblohhpfaaGreatDoor
open Go.RowKit Dg
structure o7 (w:World) (g:Nat) (p:Option Addr) (c:Nat) (q:Option Addr) (d:Nat):Prop where
 f0:w.cell? ⟨g,0,none⟩=some (.slice p 2 c)
 f1:w.cell? ⟨g,1,none⟩=some (.slice q 2 d)
 la:IsS w (.slice p 2 c) aB
 lb:IsS w (.slice q 2 d) aC
 G:Gx w
 lt:g<w.heap.size
theorem o7.below {w w':World}{g:Nat}{p:Option Addr}{c:Nat}{q:Option Addr}{d:Nat} (h:o7 w g p c q d) (hb:Below w.heap.size w w'):o7 w' g p c q d :=
 ⟨aa hb h.lt h.f0,aa hb h.lt h.f1,h.la.below hb,h.lb.below hb,h.G.below hb,vV h.lt hb.size⟩
theorem o7.F {w:World}{g:Nat}{p:Option Addr}{c:Nat}{q:Option Addr}{d:Nat} (h:o7 w g p c q d):IsF w (.agg #[.slice p 2 c,.slice q 2 d]) aB aC:=⟨⟨p,c,q,d,rfl,h.la,h.lb⟩⟩
theorem ij:gy aB aC 4=0∧cP aB aC (d8 4) 4=[⟨#[48]⟩,⟨#[49,47,50]⟩,⟨#[49,47,52]⟩,⟨#[49,47,56]⟩]:=by decide +kernel
theorem dT:aP aC=some [⟨#[45,49,47,50]⟩]∧ar aB [⟨#[49]⟩,⟨#[45,50]⟩]=true∧aP [⟨#[49]⟩,⟨#[45,50]⟩]=none:=by decide +kernel
theorem l4:dh aB [⟨#[49]⟩,⟨#[49,47,52]⟩,⟨#[45,49,47,50]⟩] [⟨#[49,47,50]⟩,⟨#[45,49,47,50]⟩]=(true,0):=by decide +kernel
theorem l5:bR aC (ofT 33)=true∧∀ m,m<33→1≤m→bR aC (ofT m)=false:=by decide +kernel
theorem dK:b9 aB aC=(⟨#[49,47,51]⟩,0)∧dy aB aC ⟨#[45,49]⟩=(⟨#[45,49,47,51]⟩,0)∧dy aB aC ⟨#[49,47,50]⟩=(⟨#[]⟩,32)∧cM aB aC=(5,0)∧gI aB aC=((aB,[⟨#[49]⟩,⟨#[48]⟩]),0)∧lD aB aC=((aC,[⟨#[49]⟩,⟨#[48]⟩]),0):=by decide +kernel
theorem gU (w:World) (l:List ByteArray) (h:l.length<1000):IsS (w.alloc (.cells (l.map Value.string).toArray 31)) (.slice (some ⟨w.heap.size,0,none⟩) l.length l.length) l :=
 bB.isS (base:=w.heap.size) (by
  refine⟨by simp,Or.inr ⟨w.heap.size,l.length,_,rfl,vS _,heap_alloc_new w _,vS _,by unfold maxLen;omega,by simp,by simp[vZ]⟩⟩)
theorem lz (w:World) (hG:Gx w):Calls Tryz.prog 13 #[] w fun e w'=>e=.returned (.bool true)∧Below w.heap.size w w':=by
 go_enter Tryz.func13,Tryz.ntmps13
 go_wp2_with fail
 refine (vB w).mono ?_
 rintro e w1 ⟨v1,rfl,hF,hb1⟩
 obtain⟨p,c,q,d,rfl,hA,hB⟩:=id hF.ex
 rw[show aB.length=2 from rfl] at hA ⊢
 rw[show aC.length=2 from rfl] at hB ⊢
 have cc:=aq w1 (.slice p 2 c) (.slice q 2 d)
 have m2:=ac w1 (.cells #[.slice p 2 c,.slice q 2 d] 24)
 have z2:=size_alloc w1 (.cells #[.slice p 2 c,.slice q 2 d] 24)
 go_upto_region 2 with fail
 generalize w1.alloc (.cells #[.slice p 2 c,.slice q 2 d] 24)=w2 at *
 obtain⟨g,hg⟩:∃ g,g=w1.heap.size:=⟨_,rfl⟩
 rw[←hg] at cc ⊢
 have HP:=vL (show o7 w2 g p c q d from⟨cc.1,cc.2,hA.below m2,hB.below m2,(hG.below hb1).below m2,by omega⟩)
 have HB:=vL (hb1.trans (m2.mono hb1.size))
 have k0:=HP.out.f0
 have k1:=HP.out.f1
 clear cc m2 z2 hA hB hF hb1 hG hg
 go_wp2_with fail
 refine (o_ _ aB aC 4 w2 HP.out.F HP.out.G).mono ?_
 rintro e w3 ⟨vr,rfl,hvr,-,hb⟩
 have HR:=vL (hvr ij.1)
 rw[show (4:Int).toNat=4 from rfl,ij.2] at HR
 rw[ij.1]
 clear hvr
 have HP:=vL (HP.out.below hb)
 have HB:=vL (HB.out.trans ((hb).mono HB.out.size))
 clear hb k0 k1
 have k0:=HP.out.f0
 have k1:=HP.out.f1
 go_wp2_with fail
 refine (qH _ aB aC w3 HP.out.F HP.out.G).mono ?_
 rintro e w4 ⟨vp,er,rfl,hcase,hb⟩
 have HPR:er=0∧Hid (IsS w4 vp [⟨#[45,49,47,50]⟩]):=by
  rcases hcase with ⟨pf,-,h1,rfl,h2,-⟩ | ⟨-,h1,-⟩ | ⟨h1,-⟩
  ·rw[dT.1] at h1
   cases h1
   exact⟨rfl,h2⟩
  ·rw[dT.1] at h1;cases h1
  ·rw[cW] at h1;cases h1
 obtain⟨rfl,HPR⟩:=HPR
 have HR:=vL (HR.out.below hb)
 clear hcase
 have HP:=vL (HP.out.below hb)
 have HB:=vL (HB.out.trans ((hb).mono HB.out.size))
 clear hb k0 k1
 have k0:=HP.out.f0
 have k1:=HP.out.f1
 have hm:=ac w4 (.cells #[.string ⟨#[49]⟩,.string ⟨#[45,50]⟩] 31)
 have HU:=vL (qH _ aB [⟨#[49]⟩,⟨#[45,50]⟩] _ ⟨⟨p,c,_,_,rfl,HP.out.la.below hm,IsS.two w4 ⟨#[49]⟩ ⟨#[45,50]⟩⟩⟩ (HP.out.G.below hm))
 have HM:=vL hm
 clear hm
 go_wp2_with fail
 refine HU.out.mono ?_
 rintro e w5 ⟨vx,er,rfl,hcase,hb⟩
 obtain rfl:er=31:=by
  rcases hcase with ⟨pf,-,h1,-⟩ | ⟨-,-,h,-⟩ | ⟨h1,-⟩
  ·rw[dT.2.2] at h1;cases h1
  ·exact h
  ·rw[dT.2.1] at h1;cases h1
 have hb:=HM.out.trans (hb.mono HM.out.size)
 have HR:=vL (HR.out.below hb)
 have HPR:=vL (HPR.out.below hb)
 clear hcase HU HM
 have HP:=vL (HP.out.below hb)
 have HB:=vL (HB.out.trans ((hb).mono HB.out.size))
 clear hb k0 k1
 have k0:=HP.out.f0
 have k1:=HP.out.f1
 have hm:=ac w5 (.cells #[.string ⟨#[49]⟩,.string ⟨#[49,47,52]⟩,.string ⟨#[45,49,47,50]⟩] 31)
 have hl:=gU w5 [⟨#[49]⟩,⟨#[49,47,52]⟩,⟨#[45,49,47,50]⟩] (by decide)
 have hm2:=ac (w5.alloc (.cells #[.string ⟨#[49]⟩,.string ⟨#[49,47,52]⟩,.string ⟨#[45,49,47,50]⟩] 31)) (.cells #[.string ⟨#[49,47,50]⟩,.string ⟨#[45,49,47,50]⟩] 31)
 have hl2:=IsS.two (w5.alloc (.cells #[.string ⟨#[49]⟩,.string ⟨#[49,47,52]⟩,.string ⟨#[45,49,47,50]⟩] 31)) ⟨#[49,47,50]⟩ ⟨#[45,49,47,50]⟩
 have hM:=hm.trans (hm2.mono hm.size)
 have HU:=vL (th _ _ aB [⟨#[49]⟩,⟨#[49,47,52]⟩,⟨#[45,49,47,50]⟩] [⟨#[49,47,50]⟩,⟨#[45,49,47,50]⟩] _ ⟨⟨p,c,_,_,rfl,HP.out.la.below hM,hl.below hm2⟩⟩ hl2 (HP.out.G.below hM))
 rw[l4] at HU
 have HM:=vL hM
 rw[size_alloc] at HU
 clear hm hm2 hl hl2 hM
 go_wp2_with fail
 refine HU.out.mono ?_
 rintro e w6 ⟨rfl,hb⟩
 have hb:=HM.out.trans (hb.mono HM.out.size)
 have HR:=vL (HR.out.below hb)
 have HPR:=vL (HPR.out.below hb)
 clear HU HM
 have HP:=vL (HP.out.below hb)
 have HB:=vL (HB.out.trans ((hb).mono HB.out.size))
 clear hb k0 k1
 have k0:=HP.out.f0
 have k1:=HP.out.f1
 have hm:=ac w6 (.cells #[.string ⟨#[48]⟩,.string ⟨#[49,47,50]⟩,.string ⟨#[49,47,52]⟩,.string ⟨#[49,47,56]⟩] 31)
 have HU:=vL (gg _ _ _ _ _ (HR.out.below hm) (gU w6 [⟨#[48]⟩,⟨#[49,47,50]⟩,⟨#[49,47,52]⟩,⟨#[49,47,56]⟩] (by decide)) (by decide) (by decide))
 rw[decide_eq_true (rfl:[(⟨#[48]⟩:ByteArray),⟨#[49,47,50]⟩,⟨#[49,47,52]⟩,⟨#[49,47,56]⟩]=_)] at HU
 have HM:=vL hm
 clear hm
 go_wp2_with fail
 refine HU.out.mono ?_
 rintro e w7 ⟨rfl,hb⟩
 have hb:=HM.out.trans (hb.mono HM.out.size)
 have HPR:=vL (HPR.out.below hb)
 clear HU HM HR
 have HP:=vL (HP.out.below hb)
 have HB:=vL (HB.out.trans ((hb).mono HB.out.size))
 clear hb k0 k1
 have k0:=HP.out.f0
 have k1:=HP.out.f1
 have hm:=ac w7 (.cells #[.string ⟨#[45,49,47,50]⟩] 31)
 have HU:=vL (gg _ _ _ _ _ (HPR.out.below hm) (gU w7 [⟨#[45,49,47,50]⟩] (by decide)) (by decide) (by decide))
 rw[decide_eq_true (rfl:[(⟨#[45,49,47,50]⟩:ByteArray)]=_)] at HU
 have HM:=vL hm
 clear hm
 go_wp2_with fail
 refine HU.out.mono ?_
 rintro e w8 ⟨rfl,hb⟩
 have hb:=HM.out.trans (hb.mono HM.out.size)
 clear HU HM HPR
 have HP:=vL (HP.out.below hb)
 have HB:=vL (HB.out.trans ((hb).mono HB.out.size))
 clear hb k0 k1
 have k0:=HP.out.f0
 have k1:=HP.out.f1
 go_wp2_with fail
 refine (nW _ aB aC w8 HP.out.F HP.out.G).mono ?_
 rintro e w9 ⟨nr,er,rfl,hcase,hb⟩
 obtain⟨rfl,rfl⟩:er=0∧nr=33:=by
  rcases hcase with ⟨-,-,rfl,k,rfl,k1,k64,hk,hlt⟩ | ⟨-,h,-⟩ | ⟨h,-⟩
  ·refine⟨rfl,?_⟩
   rcases Nat.lt_trichotomy k 33 with h | h | h
   ·have:=l5.2 k h k1
    rw[hk] at this;cases this
   ·rw[h];rfl
   ·have:=hlt 33 (by decide) h
    rw[l5.1] at this;cases this
  ·rw[dT.1] at h;cases h
  ·rw[cW] at h;cases h
 clear hcase
 have HP:=vL (HP.out.below hb)
 have HB:=vL (HB.out.trans ((hb).mono HB.out.size))
 clear hb k0 k1
 have k0:=HP.out.f0
 have k1:=HP.out.f1
 go_wp2_with fail
 refine (tb _ aB aC w9 HP.out.F HP.out.G).mono ?_
 rintro e w10 ⟨rfl,hb⟩
 rw[dK.1]
 have HP:=vL (HP.out.below hb)
 have HB:=vL (HB.out.trans ((hb).mono HB.out.size))
 clear hb k0 k1
 have k0:=HP.out.f0
 have k1:=HP.out.f1
 go_wp2_with fail
 refine (j8 _ aB aC _ w10 HP.out.F HP.out.G).mono ?_
 rintro e w11 ⟨rfl,hb⟩
 rw[dK.2.1]
 have HP:=vL (HP.out.below hb)
 have HB:=vL (HB.out.trans ((hb).mono HB.out.size))
 clear hb k0 k1
 have k0:=HP.out.f0
 have k1:=HP.out.f1
 go_wp2_with fail
 refine (j8 _ aB aC _ w11 HP.out.F HP.out.G).mono ?_
 rintro e w12 ⟨rfl,hb⟩
 rw[dK.2.2.1]
 have HP:=vL (HP.out.below hb)
 have HB:=vL (HB.out.trans ((hb).mono HB.out.size))
 clear hb k0 k1
 have k0:=HP.out.f0
 have k1:=HP.out.f1
 go_wp2_with fail
 refine (s_ _ aB aC w12 HP.out.F HP.out.G).mono ?_
 rintro e w13 ⟨vc,rfl,hfc,hb⟩
 rw[dK.2.2.2.2.1] at hfc ⊢
 have HP:=vL (HP.out.below hb)
 have HB:=vL (HB.out.trans ((hb).mono HB.out.size))
 clear hb k0 k1
 have k0:=HP.out.f0
 have k1:=HP.out.f1
 obtain⟨pc,cc,qc,dc,e,hca,hcb,-,-⟩:=hfc.ex
 replace e:vc=.agg #[.slice pc 2 cc,.slice qc 2 dc]:=e
 replace hca:IsS w13 (.slice pc 2 cc) aB:=hca
 replace hcb:IsS w13 (.slice qc 2 dc) [⟨#[49]⟩,⟨#[48]⟩]:=hcb
 subst e
 clear hfc
 go_upto_region 15 with fail
 have kk:=aq w13 (.slice pc 2 cc) (.slice qc 2 dc)
 have hb:=ac w13 (.cells #[.slice pc 2 cc,.slice qc 2 dc] 24)
 have zz:=size_alloc w13 (.cells #[.slice pc 2 cc,.slice qc 2 dc] 24)
 generalize w13.alloc (.cells #[.slice pc 2 cc,.slice qc 2 dc] 24)=w14 at *
 obtain⟨gc,hgc⟩:∃ x,x=w13.heap.size:=⟨_,rfl⟩
 rw[←hgc] at kk ⊢
 have HC:=vL (And.intro (show gc<w14.heap.size by omega) (And.intro kk.1 (And.intro kk.2 (And.intro (hca.below hb) (hcb.below hb)))))
 clear hca hcb kk zz hgc
 have HP:=vL (HP.out.below hb)
 have HB:=vL (HB.out.trans ((hb).mono HB.out.size))
 clear hb k0 k1
 have k0:=HP.out.f0
 have k1:=HP.out.f1
 go_wp2_with fail
 refine (vv _ aB aC w14 HP.out.F HP.out.G).mono ?_
 rintro e w15 ⟨vd,rfl,hfc,hb⟩
 rw[dK.2.2.2.2.2] at hfc ⊢
 obtain⟨pd,cd,qd,dd,e,hda,hdb,-,-⟩:=hfc.ex
 replace e:vd=.agg #[.slice pd 2 cd,.slice qd 2 dd]:=e
 replace hda:IsS w15 (.slice pd 2 cd) aC:=hda
 replace hdb:IsS w15 (.slice qd 2 dd) [⟨#[49]⟩,⟨#[48]⟩]:=hdb
 subst e
 have hc:=HC.out
 have HC:=vL (And.intro (vV hc.1 hb.size) (And.intro (aa hb hc.1 hc.2.1) (And.intro (aa hb hc.1 hc.2.2.1) (And.intro (hc.2.2.2.1.below hb) (hc.2.2.2.2.below hb)))))
 clear hfc hc
 have HP:=vL (HP.out.below hb)
 have HB:=vL (HB.out.trans ((hb).mono HB.out.size))
 clear hb k0 k1
 have k0:=HP.out.f0
 have k1:=HP.out.f1
 go_upto_region 16 with fail
 have kk:=aq w15 (.slice pd 2 cd) (.slice qd 2 dd)
 have hb:=ac w15 (.cells #[.slice pd 2 cd,.slice qd 2 dd] 24)
 have zz:=size_alloc w15 (.cells #[.slice pd 2 cd,.slice qd 2 dd] 24)
 generalize w15.alloc (.cells #[.slice pd 2 cd,.slice qd 2 dd] 24)=w16 at *
 obtain⟨gd,hgd⟩:∃ x,x=w15.heap.size:=⟨_,rfl⟩
 rw[←hgd] at kk ⊢
 have HD:=vL (And.intro (show gd<w16.heap.size by omega) (And.intro kk.1 (And.intro kk.2 (And.intro (hda.below hb) (hdb.below hb)))))
 have hc:=HC.out
 have HC:=vL (And.intro (vV hc.1 hb.size) (And.intro (aa hb hc.1 hc.2.1) (And.intro (aa hb hc.1 hc.2.2.1) (And.intro (hc.2.2.2.1.below hb) (hc.2.2.2.2.below hb)))))
 clear hda hdb kk zz hgd hc
 have HP:=vL (HP.out.below hb)
 have HB:=vL (HB.out.trans ((hb).mono HB.out.size))
 clear hb k0 k1
 have k0:=HP.out.f0
 have k1:=HP.out.f1
 have hm:=ac w16 (.cells #[.string ⟨#[49]⟩,.string ⟨#[48]⟩] 31)
 have HU:=vL (uy (.agg #[.slice pc 2 cc,.slice qc 2 dc]) (.agg #[.slice p 2 c,.slice (some ⟨w16.heap.size,0,none⟩) 2 2]) aB [⟨#[49]⟩,⟨#[48]⟩] aB [⟨#[49]⟩,⟨#[48]⟩] _ ⟨⟨_,_,_,_,rfl,HC.out.2.2.2.1.below hm,HC.out.2.2.2.2.below hm⟩⟩ ⟨⟨_,_,_,_,rfl,HP.out.la.below hm,IsS.two w16 ⟨#[49]⟩ ⟨#[48]⟩⟩⟩ (by decide) (by decide) (by decide) (by decide))
 rw[show (decide (aB=aB)&&decide ([(⟨#[49]⟩:ByteArray),⟨#[48]⟩]=[⟨#[49]⟩,⟨#[48]⟩]))=true from by decide] at HU
 have HM:=vL hm
 have x0:=HC.out.2.1
 have x1:=HC.out.2.2.1
 clear hm
 go_wp2_with fail
 refine HU.out.mono ?_
 rintro e w17 ⟨rfl,hb⟩
 have hb:=HM.out.trans (hb.mono HM.out.size)
 have hc:=HD.out
 have HD:=vL (And.intro (vV hc.1 hb.size) (And.intro (aa hb hc.1 hc.2.1) (And.intro (aa hb hc.1 hc.2.2.1) (And.intro (hc.2.2.2.1.below hb) (hc.2.2.2.2.below hb)))))
 clear HU HM hc HC x0 x1
 have HP:=vL (HP.out.below hb)
 have HB:=vL (HB.out.trans ((hb).mono HB.out.size))
 clear hb k0 k1
 have k0:=HP.out.f0
 have k1:=HP.out.f1
 have hm:=ac w17 (.cells #[.string ⟨#[49]⟩,.string ⟨#[48]⟩] 31)
 have HU:=vL (uy (.agg #[.slice pd 2 cd,.slice qd 2 dd]) (.agg #[.slice q 2 d,.slice (some ⟨w17.heap.size,0,none⟩) 2 2]) aC [⟨#[49]⟩,⟨#[48]⟩] aC [⟨#[49]⟩,⟨#[48]⟩] _ ⟨⟨_,_,_,_,rfl,HD.out.2.2.2.1.below hm,HD.out.2.2.2.2.below hm⟩⟩ ⟨⟨_,_,_,_,rfl,HP.out.lb.below hm,IsS.two w17 ⟨#[49]⟩ ⟨#[48]⟩⟩⟩ (by decide) (by decide) (by decide) (by decide))
 rw[show (decide (aC=aC)&&decide ([(⟨#[49]⟩:ByteArray),⟨#[48]⟩]=[⟨#[49]⟩,⟨#[48]⟩]))=true from by decide] at HU
 have HM:=vL hm
 have x0:=HD.out.2.1
 have x1:=HD.out.2.2.1
 clear hm
 go_wp2_with fail
 refine HU.out.mono ?_
 rintro e w18 ⟨rfl,hb⟩
 have hb:=HM.out.trans (hb.mono HM.out.size)
 clear HU HM HD x0 x1
 have HP:=vL (HP.out.below hb)
 have HB:=vL (HB.out.trans ((hb).mono HB.out.size))
 clear hb k0 k1
 have k0:=HP.out.f0
 have k1:=HP.out.f1
 go_wp2_with fail
 refine (lA _ aB aC ⟨#[45,49,47,50]⟩ ⟨#[50]⟩ 1 w18 HP.out.F HP.out.G rfl (by decide) oh.1).mono ?_
 rintro e w19 ⟨rfl,hb⟩
 rw[oh.2]
 have HP:=vL (HP.out.below hb)
 have HB:=vL (HB.out.trans ((hb).mono HB.out.size))
 clear hb k0 k1
 have k0:=HP.out.f0
 have k1:=HP.out.f1
 go_wp2_with fail
 refine (lA _ aB aC ⟨#[48]⟩ ⟨#[51]⟩ 1 w19 HP.out.F HP.out.G rfl (by decide) ol.1).mono ?_
 rintro e w20 ⟨rfl,hb⟩
 rw[ol.2]
 have HP:=vL (HP.out.below hb)
 have HB:=vL (HB.out.trans ((hb).mono HB.out.size))
 clear hb k0 k1
 have k0:=HP.out.f0
 have k1:=HP.out.f1
 have hm:=ac w20 (.cells #[.string ⟨#[45,50]⟩,.string ⟨#[45,49]⟩,.string ⟨#[48]⟩,.string ⟨#[49]⟩,.string ⟨#[50]⟩,.string ⟨#[51]⟩] 31)
 have HU:=vL (nU (.agg #[.slice p 2 c,.slice q 2 d]) (.slice (some ⟨w20.heap.size,0,none⟩) 6 6) _ (HP.out.F.below hm) (gU w20 eB (by decide)) (HP.out.G.below hm))
 have HM:=vL hm
 clear hm
 go_wp2_with fail
 refine HU.out.mono ?_
 rintro e w21 ⟨rfl,hb⟩
 have hb:=HM.out.trans (hb.mono HM.out.size)
 clear HU HM
 have HP:=vL (HP.out.below hb)
 have HB:=vL (HB.out.trans ((hb).mono HB.out.size))
 clear hb k0 k1
 have k0:=HP.out.f0
 have k1:=HP.out.f1
 go_upto_region 21 with fail
 have r2:=heap_alloc_new w21 (.cells #[.string ⟨#[48]⟩,.string ⟨#[50]⟩] 73 (0,0))
 have hb:=ac w21 (.cells #[.string ⟨#[48]⟩,.string ⟨#[50]⟩] 73)
 have zz:=size_alloc w21 (.cells #[.string ⟨#[48]⟩,.string ⟨#[50]⟩] 73)
 generalize w21.alloc (.cells #[.string ⟨#[48]⟩,.string ⟨#[50]⟩] 73)=w22 at *
 obtain⟨gm,hgm⟩:∃ x,x=w21.heap.size:=⟨_,rfl⟩
 rw[←hgm] at r2 ⊢
 clear zz hgm
 have HP:=vL (HP.out.below hb)
 have HB:=vL (HB.out.trans ((hb).mono HB.out.size))
 clear hb k0 k1
 have k0:=HP.out.f0
 have k1:=HP.out.f1
 go_wp2_with fail
 refine (ta _ aB aC w22 HP.out.F HP.out.G).mono ?_
 rintro e w23 ⟨rfl,hb⟩
 rw[dK.2.2.2.1]
 have r2:=(hb.block gm (vW.1 r2).1).trans r2
 have y0:=ah r2 0
 have y1:=ah r2 1
 simp only[yC,yz,List.getElem?_cons_succ] at y0 y1
 clear r2
 have HP:=vL (HP.out.below hb)
 have HB:=vL (HB.out.trans ((hb).mono HB.out.size))
 clear hb k0 k1
 have k0:=HP.out.f0
 have k1:=HP.out.f1
 go_wp2
 go_ret
 exact⟨rfl,HB.out⟩
theorem rE (n low high:Int) (w:World) (h1:low≤n) (h2:n≤high) :
  Calls Tryz.prog 16 #[.int .i64 n,.int .i64 low,.int .i64 high] w fun e w'=>e=.returned (.bool true)∧w'=w:=by
 go_enter Tryz.func16,Tryz.ntmps16
 go_wp2
 go_ret
 exact⟨by simp[h2],rfl⟩
theorem rU:∀ k:Nat,k<65→1≤k→(bX (CQ.real (mkRat (k:Int) 64))).2=0∧mD (ofT k)=true:=by decide +kernel
theorem ofN (k:Nat) (w:World) (h1:1≤k) (h2:k≤64) (hG:Gx w) :
  Calls Tryz.prog 14 #[.int .i64 (k:Int),.int .i64 64] w fun e w'=>e=.returned (.tuple #[.string (ofT k),.int .i64 0])∧Below w.heap.size w w':=by
 have h:=uu (k:Int) 64 w (by omega) (by omega) (by decide) (by decide) hG.g
 have e:(bX (CQ.real (mkRat (k:Int) 64))).2=0:=(rU k (by omega) h1).1
 rw[e] at h
 exact h
theorem mV (v:Value) (a b:List ByteArray) (k:Nat) (x:Bool) (w:World) (h1:1≤k) (h2:k≤64) (hc:ar a b=true) (hx:bR b (ofT k)=x) (hF:IsF w v a b) (hG:Gx w) :
  Calls Tryz.prog 15 #[v,.string (ofT k)] w fun e w'=>e=.returned (.tuple #[.bool x,.int .i64 0])∧Below w.heap.size w w':=by
 have h:=tr v a b (ofT k) w hF hG
 unfold b8 at h
 rw[if_pos hc,if_pos (rU k (by omega) h1).2,hx] at h
 exact h
theorem nq (v:Value) (a b:List ByteArray) (w:World) (hF:IsF w v a b) (hG:Gx w) :
  Calls Tryz.prog 3 #[v] w fun e w'=>e=.returned (.bool true)∧Below w.heap.size w w':=by
 obtain⟨p,c,q,d,rfl,hfa,hfb⟩:=id hF.ex
 go_enter Tryz.func3,Tryz.ntmps3
 go_upto_region 1 with fail
 have cc:=aq w (.slice p a.length c) (.slice q b.length d)
 have m1:=ac w (.cells #[.slice p a.length c,.slice q b.length d] 24)
 have zz:=size_alloc w (.cells #[.slice p a.length c,.slice q b.length d] 24)
 generalize w.alloc (.cells #[.slice p a.length c,.slice q b.length d] 24)=w1 at *
 have HF:=vL (hF.below m1)
 have HG:=vL (hG.below m1)
 have k0:=cc.1
 have k1:=cc.2
 have KL:w.heap.size<w1.heap.size:=by omega
 have HB:=vL m1
 clear hfa hfb cc zz m1 hF hG
 go_wp2_with fail
 refine (nW _ a b w1 HF.out HG.out).mono ?_
 rintro e w2 ⟨n,er,rfl,hcase,hb⟩
 have HF:=vL (HF.out.below hb)
 have HG:=vL (HG.out.below hb)
 have HB:=vL (HB.out.trans ((hb).mono HB.out.size))
 have k0:=aa hb KL k0
 have k1:=aa hb KL k1
 have KL:=vV KL ((hb).size)
 clear hb
 go_wp2_with fail
 refine (tn _ a b w2 HF.out HG.out).mono ?_
 rintro e w3 ⟨rfl,hb⟩
 have HF:=vL (HF.out.below hb)
 have HG:=vL (HG.out.below hb)
 have HB:=vL (HB.out.trans ((hb).mono HB.out.size))
 have k0:=aa hb KL k0
 have k1:=aa hb KL k1
 have KL:=vV KL ((hb).size)
 clear hb
 rcases hcase with ⟨hc,hp,rfl,k,rfl,h1,h2,hw,hlt⟩ | ⟨hc,hp,rfl,rfl⟩ | ⟨hc,rfl,rfl⟩
 ·rw[hp,show am a b=0 from by unfold am;rw[if_pos hc]]
  rw[show (ar a b&&true)=true from by rw[hc];rfl]
  have HW:=vL (mV (.agg #[.slice p a.length c,.slice q b.length d]) a b k true)
  have HC:=vL (And.intro hc (And.intro hw hlt))
  clear hc hp hw hlt
  go_wp2_with fail
  refine (ofN k w3 h1 h2 HG.out).mono ?_
  rintro e w4 ⟨rfl,hb⟩
  have HF:=vL (HF.out.below hb)
  have HG:=vL (HG.out.below hb)
  have HB:=vL (HB.out.trans ((hb).mono HB.out.size))
  have k0:=aa hb KL k0
  have k1:=aa hb KL k1
  have KL:=vV KL ((hb).size)
  clear hb
  go_wp2_with fail
  refine (HW.out w4 h1 h2 HC.out.1 HC.out.2.1 HF.out HG.out).mono ?_
  rintro e w5 ⟨rfl,hb⟩
  have HF:=vL (HF.out.below hb)
  have HG:=vL (HG.out.below hb)
  have HB:=vL (HB.out.trans ((hb).mono HB.out.size))
  have k0:=aa hb KL k0
  have k1:=aa hb KL k1
  have KL:=vV KL ((hb).size)
  clear hb
  clear HW
  have HI:=vL (rE (k:Int) 1 64 w5 (by omega) (by omega))
  go_wp2_with fail
  refine HI.out.mono ?_
  rintro e w6 ⟨rfl,hy⟩
  subst hy
  clear HI
  rcases wY k 2 with h | h
  ·obtain rfl:k=1:=by omega
   go_wp2_with fail
   refine (lz _ HG.out).mono ?_
   rintro e wz ⟨rfl,hz⟩
   have HB:=HB.out.trans (hz.mono HB.out.size)
   clear hz
   go_wp2
   go_ret
   exact⟨rfl,HB⟩
  ·obtain⟨m,rfl⟩:∃ m,k=m+1:=⟨k-1,by omega⟩
   have hne:(((m+1:Nat):Int) == 1)=false:=by simp;omega
   have hsub:(((m+1:Nat):Int)-1)=(m:Int):=by omega
   have hin:=IntWalk.i64_in (m:Int) (by omega)
   go_wp2_with fail
   refine (ofN m w6 (by omega) (by omega) HG.out).mono ?_
   rintro e w7 ⟨rfl,hb⟩
   have HF:=vL (HF.out.below hb)
   have HG:=vL (HG.out.below hb)
   have HB:=vL (HB.out.trans ((hb).mono HB.out.size))
   have k0:=aa hb KL k0
   have k1:=aa hb KL k1
   have KL:=vV KL ((hb).size)
   clear hb
   go_wp2_with fail
   refine (mV _ a b m false w7 (by omega) (by omega) HC.out.1 (HC.out.2.2 m (by omega) (by omega)) HF.out HG.out).mono ?_
   rintro e w8 ⟨rfl,hb⟩
   have HF:=vL (HF.out.below hb)
   have HG:=vL (HG.out.below hb)
   have HB:=vL (HB.out.trans ((hb).mono HB.out.size))
   have k0:=aa hb KL k0
   have k1:=aa hb KL k1
   have KL:=vV KL ((hb).size)
   clear hb
   go_wp2_with fail
   refine (lz _ HG.out).mono ?_
   rintro e wz ⟨rfl,hz⟩
   have HB:=HB.out.trans (hz.mono HB.out.size)
   clear hz
   go_wp2
   go_ret
   exact⟨rfl,HB⟩
 ·rw[show am a b=0 from by unfold am;rw[if_pos hc]]
  rw[show (ar a b&&(aP b).isSome)=false from by rw[hp,hc];rfl]
  clear hc hp
  go_wp2_with fail
  refine (lz _ HG.out).mono ?_
  rintro e wz ⟨rfl,hz⟩
  have HB:=HB.out.trans (hz.mono HB.out.size)
  clear hz
  go_wp2
  go_ret
  exact⟨rfl,HB⟩
 ·rw[show am a b=30 from by unfold am;rw[hc];rfl]
  rw[show (ar a b&&(aP b).isSome)=false from by rw[hc];rfl]
  clear hc
  go_wp2_with fail
  refine (lz _ HG.out).mono ?_
  rintro e wz ⟨rfl,hz⟩
  have HB:=HB.out.trans (hz.mono HB.out.size)
  clear hz
  go_wp2
  go_ret
  exact⟨rfl,HB⟩
end Go.Proofs.YtomkanblohhpfaaGreatDoor
