/- Lemmas of this claim. -/
import Derived.Test.YtomkanblohhpfaaGreatDoorZLP5
import Derived.Test.YtomkanblohhpfaaGreatDoorZLC3
import Derived.Test.YtomkanblohhpfaaGreatDoorZLB4
import Derived.Test.YtomkanblohhpfaaGreatDoorZLE5
set_option linter.all false
set_option maxRecDepth 100000
set_option maxHeartbeats 8000000
namespace Go.Proofs.YtomkanblohhpfaaGreatDoor
open Go.RowKit Dg
structure qf (w:World) (g:Nat) (p:Option Addr) (c:Nat) (q:Option Addr) (d:Nat):Prop where
 f0:w.cell? ⟨g,0,none⟩=some (.slice p 2 c)
 f1:w.cell? ⟨g,1,none⟩=some (.slice q 2 d)
 la:IsS w (.slice p 2 c) aE
 lb:IsS w (.slice q 2 d) aF
 G:Gx w
 lt:g<w.heap.size
theorem qf.below {w w':World}{g:Nat}{p:Option Addr}{c:Nat}{q:Option Addr}{d:Nat} (h:qf w g p c q d) (hb:Below w.heap.size w w'):qf w' g p c q d :=
 ⟨aa hb h.lt h.f0,aa hb h.lt h.f1,h.la.below hb,h.lb.below hb,h.G.below hb,xB h.lt hb.size⟩
theorem qf.F {w:World}{g:Nat}{p:Option Addr}{c:Nat}{q:Option Addr}{d:Nat} (h:qf w g p c q d):IsF w (.agg #[.slice p 2 c,.slice q 2 d]) aE aF:=⟨⟨p,c,q,d,rfl,h.la,h.lb⟩⟩
theorem iK:gS aE aF 4=0∧cY aE aF (em 4) 4=[⟨#[48]⟩,⟨#[49,47,50]⟩,⟨#[49,47,52]⟩,⟨#[49,47,56]⟩]:=by decide +kernel
theorem d_:aU aF=some [⟨#[45,49,47,50]⟩]∧au aE [⟨#[49]⟩,⟨#[45,50]⟩]=true∧aU [⟨#[49]⟩,⟨#[45,50]⟩]=none:=by decide +kernel
theorem mJ:dr aE [⟨#[49]⟩,⟨#[49,47,52]⟩,⟨#[45,49,47,50]⟩] [⟨#[49,47,50]⟩,⟨#[45,49,47,50]⟩]=(true,0):=by decide +kernel
theorem mK:bY aF (ofT 33)=true∧∀ m,m<33→1≤m→bY aF (ofT m)=false:=by decide +kernel
theorem dS:b_ aE aF=(⟨#[49,47,51]⟩,0)∧dG aE aF ⟨#[45,49]⟩=(⟨#[45,49,47,51]⟩,0)∧dG aE aF ⟨#[49,47,50]⟩=(⟨#[]⟩,32)∧bC aE aF=(5,0)∧f9 aE aF=((aE,[⟨#[49]⟩,⟨#[48]⟩]),0)∧l_ aE aF=((aF,[⟨#[49]⟩,⟨#[48]⟩]),0):=by decide +kernel
theorem cV (w:World) (l:List ByteArray) (h:l.length<1000):IsS (w.alloc (.cells (l.map Value.string).toArray 31)) (.slice (some ⟨w.heap.size,0,none⟩) l.length l.length) l :=
 bj.isS (base:=w.heap.size) (by
  refine⟨by simp,Or.inr ⟨w.heap.size,l.length,_,rfl,xy _,heap_alloc_new w _,xy _,by unfold maxLen;omega,by simp,by simp[xF]⟩⟩)
theorem kr (w:World) (hG:Gx w):Calls Tryz.prog 13 #[] w fun e w'=>e=.returned (.bool true)∧Below w.heap.size w w':=by
 go_enter Tryz.func13,Tryz.ntmps13
 go_wp2_with fail
 refine (wR w).mono ?_
 rintro e w1 ⟨v1,rfl,hF,hb1⟩
 obtain⟨p,c,q,d,rfl,hA,hB⟩:=id hF.ex
 rw[show aE.length=2 from rfl] at hA ⊢
 rw[show aF.length=2 from rfl] at hB ⊢
 have cc:=ar w1 (.slice p 2 c) (.slice q 2 d)
 have m2:=ac w1 (.cells #[.slice p 2 c,.slice q 2 d] 24)
 have z2:=size_alloc w1 (.cells #[.slice p 2 c,.slice q 2 d] 24)
 go_upto_region 2 with fail
 generalize w1.alloc (.cells #[.slice p 2 c,.slice q 2 d] 24)=w2 at *
 obtain⟨g,hg⟩:∃ g,g=w1.heap.size:=⟨_,rfl⟩
 rw[←hg] at cc ⊢
 have HP:=xo (show qf w2 g p c q d from⟨cc.1,cc.2,hA.below m2,hB.below m2,(hG.below hb1).below m2,by omega⟩)
 have HB:=xo (hb1.trans (m2.mono hb1.size))
 have k0:=HP.out.f0
 have k1:=HP.out.f1
 clear cc m2 z2 hA hB hF hb1 hG hg
 go_wp2_with fail
 refine (qj _ aE aF 4 w2 HP.out.F HP.out.G).mono ?_
 rintro e w3 ⟨vr,rfl,hvr,-,hb⟩
 have HR:=xo (hvr iK.1)
 rw[show (4:Int).toNat=4 from rfl,iK.2] at HR
 rw[iK.1]
 clear hvr
 have HP:=xo (HP.out.below hb)
 have HB:=xo (HB.out.trans ((hb).mono HB.out.size))
 clear hb k0 k1
 have k0:=HP.out.f0
 have k1:=HP.out.f1
 go_wp2_with fail
 refine (nL _ aE aF w3 HP.out.F HP.out.G).mono ?_
 rintro e w4 ⟨vp,er,rfl,hcase,hb⟩
 have HPR:er=0∧Hid (IsS w4 vp [⟨#[45,49,47,50]⟩]):=by
  rcases hcase with ⟨pf,-,h1,rfl,h2,-⟩ | ⟨-,h1,-⟩ | ⟨h1,-⟩
  ·rw[d_.1] at h1
   cases h1
   exact⟨rfl,h2⟩
  ·rw[d_.1] at h1;cases h1
  ·rw[dh] at h1;cases h1
 obtain⟨rfl,HPR⟩:=HPR
 have HR:=xo (HR.out.below hb)
 clear hcase
 have HP:=xo (HP.out.below hb)
 have HB:=xo (HB.out.trans ((hb).mono HB.out.size))
 clear hb k0 k1
 have k0:=HP.out.f0
 have k1:=HP.out.f1
 have hm:=ac w4 (.cells #[.string ⟨#[49]⟩,.string ⟨#[45,50]⟩] 31)
 have HU:=xo (nL _ aE [⟨#[49]⟩,⟨#[45,50]⟩] _ ⟨⟨p,c,_,_,rfl,HP.out.la.below hm,IsS.two w4 ⟨#[49]⟩ ⟨#[45,50]⟩⟩⟩ (HP.out.G.below hm))
 have HM:=xo hm
 clear hm
 go_wp2_with fail
 refine HU.out.mono ?_
 rintro e w5 ⟨vx,er,rfl,hcase,hb⟩
 obtain rfl:er=31:=by
  rcases hcase with ⟨pf,-,h1,-⟩ | ⟨-,-,h,-⟩ | ⟨h1,-⟩
  ·rw[d_.2.2] at h1;cases h1
  ·exact h
  ·rw[d_.2.1] at h1;cases h1
 have hb:=HM.out.trans (hb.mono HM.out.size)
 have HR:=xo (HR.out.below hb)
 have HPR:=xo (HPR.out.below hb)
 clear hcase HU HM
 have HP:=xo (HP.out.below hb)
 have HB:=xo (HB.out.trans ((hb).mono HB.out.size))
 clear hb k0 k1
 have k0:=HP.out.f0
 have k1:=HP.out.f1
 have hm:=ac w5 (.cells #[.string ⟨#[49]⟩,.string ⟨#[49,47,52]⟩,.string ⟨#[45,49,47,50]⟩] 31)
 have hl:=cV w5 [⟨#[49]⟩,⟨#[49,47,52]⟩,⟨#[45,49,47,50]⟩] (by decide)
 have hm2:=ac (w5.alloc (.cells #[.string ⟨#[49]⟩,.string ⟨#[49,47,52]⟩,.string ⟨#[45,49,47,50]⟩] 31)) (.cells #[.string ⟨#[49,47,50]⟩,.string ⟨#[45,49,47,50]⟩] 31)
 have hl2:=IsS.two (w5.alloc (.cells #[.string ⟨#[49]⟩,.string ⟨#[49,47,52]⟩,.string ⟨#[45,49,47,50]⟩] 31)) ⟨#[49,47,50]⟩ ⟨#[45,49,47,50]⟩
 have hM:=hm.trans (hm2.mono hm.size)
 have HU:=xo (ui _ _ aE [⟨#[49]⟩,⟨#[49,47,52]⟩,⟨#[45,49,47,50]⟩] [⟨#[49,47,50]⟩,⟨#[45,49,47,50]⟩] _ ⟨⟨p,c,_,_,rfl,HP.out.la.below hM,hl.below hm2⟩⟩ hl2 (HP.out.G.below hM))
 rw[mJ] at HU
 have HM:=xo hM
 rw[size_alloc] at HU
 clear hm hm2 hl hl2 hM
 go_wp2_with fail
 refine HU.out.mono ?_
 rintro e w6 ⟨rfl,hb⟩
 have hb:=HM.out.trans (hb.mono HM.out.size)
 have HR:=xo (HR.out.below hb)
 have HPR:=xo (HPR.out.below hb)
 clear HU HM
 have HP:=xo (HP.out.below hb)
 have HB:=xo (HB.out.trans ((hb).mono HB.out.size))
 clear hb k0 k1
 have k0:=HP.out.f0
 have k1:=HP.out.f1
 have hm:=ac w6 (.cells #[.string ⟨#[48]⟩,.string ⟨#[49,47,50]⟩,.string ⟨#[49,47,52]⟩,.string ⟨#[49,47,56]⟩] 31)
 have HU:=xo (eV _ _ _ _ _ (HR.out.below hm) (cV w6 [⟨#[48]⟩,⟨#[49,47,50]⟩,⟨#[49,47,52]⟩,⟨#[49,47,56]⟩] (by decide)) (by decide) (by decide))
 rw[decide_eq_true (rfl:[(⟨#[48]⟩:ByteArray),⟨#[49,47,50]⟩,⟨#[49,47,52]⟩,⟨#[49,47,56]⟩]=_)] at HU
 have HM:=xo hm
 clear hm
 go_wp2_with fail
 refine HU.out.mono ?_
 rintro e w7 ⟨rfl,hb⟩
 have hb:=HM.out.trans (hb.mono HM.out.size)
 have HPR:=xo (HPR.out.below hb)
 clear HU HM HR
 have HP:=xo (HP.out.below hb)
 have HB:=xo (HB.out.trans ((hb).mono HB.out.size))
 clear hb k0 k1
 have k0:=HP.out.f0
 have k1:=HP.out.f1
 have hm:=ac w7 (.cells #[.string ⟨#[45,49,47,50]⟩] 31)
 have HU:=xo (eV _ _ _ _ _ (HPR.out.below hm) (cV w7 [⟨#[45,49,47,50]⟩] (by decide)) (by decide) (by decide))
 rw[decide_eq_true (rfl:[(⟨#[45,49,47,50]⟩:ByteArray)]=_)] at HU
 have HM:=xo hm
 clear hm
 go_wp2_with fail
 refine HU.out.mono ?_
 rintro e w8 ⟨rfl,hb⟩
 have hb:=HM.out.trans (hb.mono HM.out.size)
 clear HU HM HPR
 have HP:=xo (HP.out.below hb)
 have HB:=xo (HB.out.trans ((hb).mono HB.out.size))
 clear hb k0 k1
 have k0:=HP.out.f0
 have k1:=HP.out.f1
 go_wp2_with fail
 refine (oT _ aE aF w8 HP.out.F HP.out.G).mono ?_
 rintro e w9 ⟨nr,er,rfl,hcase,hb⟩
 obtain⟨rfl,rfl⟩:er=0∧nr=33:=by
  rcases hcase with ⟨-,-,rfl,k,rfl,k1,k64,hk,hlt⟩ | ⟨-,h,-⟩ | ⟨h,-⟩
  ·refine⟨rfl,?_⟩
   rcases Nat.lt_trichotomy k 33 with h | h | h
   ·have:=mK.2 k h k1
    rw[hk] at this;cases this
   ·rw[h];rfl
   ·have:=hlt 33 (by decide) h
    rw[mK.1] at this;cases this
  ·rw[d_.1] at h;cases h
  ·rw[dh] at h;cases h
 clear hcase
 have HP:=xo (HP.out.below hb)
 have HB:=xo (HB.out.trans ((hb).mono HB.out.size))
 clear hb k0 k1
 have k0:=HP.out.f0
 have k1:=HP.out.f1
 go_wp2_with fail
 refine (oS _ aE aF w9 HP.out.F HP.out.G).mono ?_
 rintro e w10 ⟨rfl,hb⟩
 rw[dS.1]
 have HP:=xo (HP.out.below hb)
 have HB:=xo (HB.out.trans ((hb).mono HB.out.size))
 clear hb k0 k1
 have k0:=HP.out.f0
 have k1:=HP.out.f1
 go_wp2_with fail
 refine (kG _ aE aF _ w10 HP.out.F HP.out.G).mono ?_
 rintro e w11 ⟨rfl,hb⟩
 rw[dS.2.1]
 have HP:=xo (HP.out.below hb)
 have HB:=xo (HB.out.trans ((hb).mono HB.out.size))
 clear hb k0 k1
 have k0:=HP.out.f0
 have k1:=HP.out.f1
 go_wp2_with fail
 refine (kG _ aE aF _ w11 HP.out.F HP.out.G).mono ?_
 rintro e w12 ⟨rfl,hb⟩
 rw[dS.2.2.1]
 have HP:=xo (HP.out.below hb)
 have HB:=xo (HB.out.trans ((hb).mono HB.out.size))
 clear hb k0 k1
 have k0:=HP.out.f0
 have k1:=HP.out.f1
 go_wp2_with fail
 refine (oQ _ aE aF w12 HP.out.F HP.out.G).mono ?_
 rintro e w13 ⟨vc,rfl,hfc,hb⟩
 rw[dS.2.2.2.2.1] at hfc ⊢
 have HP:=xo (HP.out.below hb)
 have HB:=xo (HB.out.trans ((hb).mono HB.out.size))
 clear hb k0 k1
 have k0:=HP.out.f0
 have k1:=HP.out.f1
 obtain⟨pc,cc,qc,dc,e,hca,hcb,-,-⟩:=hfc.ex
 replace e:vc=.agg #[.slice pc 2 cc,.slice qc 2 dc]:=e
 replace hca:IsS w13 (.slice pc 2 cc) aE:=hca
 replace hcb:IsS w13 (.slice qc 2 dc) [⟨#[49]⟩,⟨#[48]⟩]:=hcb
 subst e
 clear hfc
 go_upto_region 15 with fail
 have kk:=ar w13 (.slice pc 2 cc) (.slice qc 2 dc)
 have hb:=ac w13 (.cells #[.slice pc 2 cc,.slice qc 2 dc] 24)
 have zz:=size_alloc w13 (.cells #[.slice pc 2 cc,.slice qc 2 dc] 24)
 generalize w13.alloc (.cells #[.slice pc 2 cc,.slice qc 2 dc] 24)=w14 at *
 obtain⟨gc,hgc⟩:∃ x,x=w13.heap.size:=⟨_,rfl⟩
 rw[←hgc] at kk ⊢
 have HC:=xo (And.intro (show gc<w14.heap.size by omega) (And.intro kk.1 (And.intro kk.2 (And.intro (hca.below hb) (hcb.below hb)))))
 clear hca hcb kk zz hgc
 have HP:=xo (HP.out.below hb)
 have HB:=xo (HB.out.trans ((hb).mono HB.out.size))
 clear hb k0 k1
 have k0:=HP.out.f0
 have k1:=HP.out.f1
 go_wp2_with fail
 refine (wM _ aE aF w14 HP.out.F HP.out.G).mono ?_
 rintro e w15 ⟨vd,rfl,hfc,hb⟩
 rw[dS.2.2.2.2.2] at hfc ⊢
 obtain⟨pd,cd,qd,dd,e,hda,hdb,-,-⟩:=hfc.ex
 replace e:vd=.agg #[.slice pd 2 cd,.slice qd 2 dd]:=e
 replace hda:IsS w15 (.slice pd 2 cd) aF:=hda
 replace hdb:IsS w15 (.slice qd 2 dd) [⟨#[49]⟩,⟨#[48]⟩]:=hdb
 subst e
 have hc:=HC.out
 have HC:=xo (And.intro (xB hc.1 hb.size) (And.intro (aa hb hc.1 hc.2.1) (And.intro (aa hb hc.1 hc.2.2.1) (And.intro (hc.2.2.2.1.below hb) (hc.2.2.2.2.below hb)))))
 clear hfc hc
 have HP:=xo (HP.out.below hb)
 have HB:=xo (HB.out.trans ((hb).mono HB.out.size))
 clear hb k0 k1
 have k0:=HP.out.f0
 have k1:=HP.out.f1
 go_upto_region 16 with fail
 have kk:=ar w15 (.slice pd 2 cd) (.slice qd 2 dd)
 have hb:=ac w15 (.cells #[.slice pd 2 cd,.slice qd 2 dd] 24)
 have zz:=size_alloc w15 (.cells #[.slice pd 2 cd,.slice qd 2 dd] 24)
 generalize w15.alloc (.cells #[.slice pd 2 cd,.slice qd 2 dd] 24)=w16 at *
 obtain⟨gd,hgd⟩:∃ x,x=w15.heap.size:=⟨_,rfl⟩
 rw[←hgd] at kk ⊢
 have HD:=xo (And.intro (show gd<w16.heap.size by omega) (And.intro kk.1 (And.intro kk.2 (And.intro (hda.below hb) (hdb.below hb)))))
 have hc:=HC.out
 have HC:=xo (And.intro (xB hc.1 hb.size) (And.intro (aa hb hc.1 hc.2.1) (And.intro (aa hb hc.1 hc.2.2.1) (And.intro (hc.2.2.2.1.below hb) (hc.2.2.2.2.below hb)))))
 clear hda hdb kk zz hgd hc
 have HP:=xo (HP.out.below hb)
 have HB:=xo (HB.out.trans ((hb).mono HB.out.size))
 clear hb k0 k1
 have k0:=HP.out.f0
 have k1:=HP.out.f1
 have hm:=ac w16 (.cells #[.string ⟨#[49]⟩,.string ⟨#[48]⟩] 31)
 have HU:=xo (vC (.agg #[.slice pc 2 cc,.slice qc 2 dc]) (.agg #[.slice p 2 c,.slice (some ⟨w16.heap.size,0,none⟩) 2 2]) aE [⟨#[49]⟩,⟨#[48]⟩] aE [⟨#[49]⟩,⟨#[48]⟩] _ ⟨⟨_,_,_,_,rfl,HC.out.2.2.2.1.below hm,HC.out.2.2.2.2.below hm⟩⟩ ⟨⟨_,_,_,_,rfl,HP.out.la.below hm,IsS.two w16 ⟨#[49]⟩ ⟨#[48]⟩⟩⟩ (by decide) (by decide) (by decide) (by decide))
 rw[show (decide (aE=aE)&&decide ([(⟨#[49]⟩:ByteArray),⟨#[48]⟩]=[⟨#[49]⟩,⟨#[48]⟩]))=true from by decide] at HU
 have HM:=xo hm
 have x0:=HC.out.2.1
 have x1:=HC.out.2.2.1
 clear hm
 go_wp2_with fail
 refine HU.out.mono ?_
 rintro e w17 ⟨rfl,hb⟩
 have hb:=HM.out.trans (hb.mono HM.out.size)
 have hc:=HD.out
 have HD:=xo (And.intro (xB hc.1 hb.size) (And.intro (aa hb hc.1 hc.2.1) (And.intro (aa hb hc.1 hc.2.2.1) (And.intro (hc.2.2.2.1.below hb) (hc.2.2.2.2.below hb)))))
 clear HU HM hc HC x0 x1
 have HP:=xo (HP.out.below hb)
 have HB:=xo (HB.out.trans ((hb).mono HB.out.size))
 clear hb k0 k1
 have k0:=HP.out.f0
 have k1:=HP.out.f1
 have hm:=ac w17 (.cells #[.string ⟨#[49]⟩,.string ⟨#[48]⟩] 31)
 have HU:=xo (vC (.agg #[.slice pd 2 cd,.slice qd 2 dd]) (.agg #[.slice q 2 d,.slice (some ⟨w17.heap.size,0,none⟩) 2 2]) aF [⟨#[49]⟩,⟨#[48]⟩] aF [⟨#[49]⟩,⟨#[48]⟩] _ ⟨⟨_,_,_,_,rfl,HD.out.2.2.2.1.below hm,HD.out.2.2.2.2.below hm⟩⟩ ⟨⟨_,_,_,_,rfl,HP.out.lb.below hm,IsS.two w17 ⟨#[49]⟩ ⟨#[48]⟩⟩⟩ (by decide) (by decide) (by decide) (by decide))
 rw[show (decide (aF=aF)&&decide ([(⟨#[49]⟩:ByteArray),⟨#[48]⟩]=[⟨#[49]⟩,⟨#[48]⟩]))=true from by decide] at HU
 have HM:=xo hm
 have x0:=HD.out.2.1
 have x1:=HD.out.2.2.1
 clear hm
 go_wp2_with fail
 refine HU.out.mono ?_
 rintro e w18 ⟨rfl,hb⟩
 have hb:=HM.out.trans (hb.mono HM.out.size)
 clear HU HM HD x0 x1
 have HP:=xo (HP.out.below hb)
 have HB:=xo (HB.out.trans ((hb).mono HB.out.size))
 clear hb k0 k1
 have k0:=HP.out.f0
 have k1:=HP.out.f1
 go_wp2_with fail
 refine (hZ _ aE aF ⟨#[45,49,47,50]⟩ ⟨#[50]⟩ 1 w18 HP.out.F HP.out.G rfl (by decide) pi.1).mono ?_
 rintro e w19 ⟨rfl,hb⟩
 rw[pi.2]
 have HP:=xo (HP.out.below hb)
 have HB:=xo (HB.out.trans ((hb).mono HB.out.size))
 clear hb k0 k1
 have k0:=HP.out.f0
 have k1:=HP.out.f1
 go_wp2_with fail
 refine (hZ _ aE aF ⟨#[48]⟩ ⟨#[51]⟩ 1 w19 HP.out.F HP.out.G rfl (by decide) pj.1).mono ?_
 rintro e w20 ⟨rfl,hb⟩
 rw[pj.2]
 have HP:=xo (HP.out.below hb)
 have HB:=xo (HB.out.trans ((hb).mono HB.out.size))
 clear hb k0 k1
 have k0:=HP.out.f0
 have k1:=HP.out.f1
 have hm:=ac w20 (.cells #[.string ⟨#[45,50]⟩,.string ⟨#[45,49]⟩,.string ⟨#[48]⟩,.string ⟨#[49]⟩,.string ⟨#[50]⟩,.string ⟨#[51]⟩] 31)
 have HU:=xo (oO (.agg #[.slice p 2 c,.slice q 2 d]) (.slice (some ⟨w20.heap.size,0,none⟩) 6 6) _ (HP.out.F.below hm) (cV w20 eN (by decide)) (HP.out.G.below hm))
 have HM:=xo hm
 clear hm
 go_wp2_with fail
 refine HU.out.mono ?_
 rintro e w21 ⟨rfl,hb⟩
 have hb:=HM.out.trans (hb.mono HM.out.size)
 clear HU HM
 have HP:=xo (HP.out.below hb)
 have HB:=xo (HB.out.trans ((hb).mono HB.out.size))
 clear hb k0 k1
 have k0:=HP.out.f0
 have k1:=HP.out.f1
 go_upto_region 21 with fail
 have r2:=heap_alloc_new w21 (.cells #[.string ⟨#[48]⟩,.string ⟨#[50]⟩] 73 (0,0))
 have hb:=ac w21 (.cells #[.string ⟨#[48]⟩,.string ⟨#[50]⟩] 73)
 have zz:=size_alloc w21 (.cells #[.string ⟨#[48]⟩,.string ⟨#[50]⟩] 73)
 generalize w21.alloc (.cells #[.string ⟨#[48]⟩,.string ⟨#[50]⟩] 73)=w22 at *
 obtain⟨gm,hgm⟩:∃ x,x=w21.heap.size:=⟨_,rfl⟩
 rw[←hgm] at r2 ⊢
 clear zz hgm
 have HP:=xo (HP.out.below hb)
 have HB:=xo (HB.out.trans ((hb).mono HB.out.size))
 clear hb k0 k1
 have k0:=HP.out.f0
 have k1:=HP.out.f1
 go_wp2_with fail
 refine (oR _ aE aF w22 HP.out.F HP.out.G).mono ?_
 rintro e w23 ⟨rfl,hb⟩
 rw[dS.2.2.2.1]
 have r2:=(hb.block gm (xC.1 r2).1).trans r2
 have y0:=af r2 0
 have y1:=af r2 1
 simp only[zH,zD,List.getElem?_cons_succ] at y0 y1
 clear r2
 have HP:=xo (HP.out.below hb)
 have HB:=xo (HB.out.trans ((hb).mono HB.out.size))
 clear hb k0 k1
 have k0:=HP.out.f0
 have k1:=HP.out.f1
 go_wp2
 go_ret
 exact⟨rfl,HB.out⟩
end Go.Proofs.YtomkanblohhpfaaGreatDoor
