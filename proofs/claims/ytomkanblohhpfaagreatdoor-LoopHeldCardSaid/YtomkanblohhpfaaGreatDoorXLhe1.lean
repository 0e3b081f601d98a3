/- Lemmas of this claim. -/
import Derived.Test.YtomkanblohhpfaaGreatDoorXPS6
import Derived.Test.YtomkanblohhpfaaGreatDoorXLse1
set_option linter.all false
set_option maxRecDepth 100000
set_option maxHeartbeats 8000000
namespace Go.Proofs.YtomkanblohhpfaaGreatDoor
open Go.RowKit Dg
structure nn (w:World) (g:Nat) (p:Option Addr) (c:Nat) (q:Option Addr) (d:Nat) (la lb:List ByteArray):Prop where
 f0:w.cell? ⟨g,0,none⟩=some (.slice p la.length c)
 f1:w.cell? ⟨g,1,none⟩=some (.slice q lb.length d)
 l0:IsS w (.slice p la.length c) la
 l1:IsS w (.slice q lb.length d) lb
 lt:g<w.heap.size
theorem nn.below {w w':World}{g:Nat}{p:Option Addr}{c:Nat}{q:Option Addr}{d:Nat}{la lb:List ByteArray} (h:nn w g p c q d la lb) (hb:Below w.heap.size w w'):nn w' g p c q d la lb :=
 ⟨aa hb h.lt h.f0,aa hb h.lt h.f1,h.l0.below hb,h.l1.below hb,y_ h.lt hb.size⟩
theorem nn.F {w:World}{g:Nat}{p:Option Addr}{c:Nat}{q:Option Addr}{d:Nat}{la lb:List ByteArray} (h:nn w g p c q d la lb):IsF w (.agg #[.slice p la.length c,.slice q lb.length d]) la lb:=⟨⟨p,c,q,d,rfl,h.l0,h.l1⟩⟩
theorem pr {fa fb L1 L2:List ByteArray} (h:ce fa fb=((L1,L2),0)):L2.length<1000000:=by
 obtain⟨-,-,h1,h2⟩:=jk (l:=fa) (fa:=fa) (fb:=fb) (show (ce fa fb).2=0 by rw[h])
 rw[show aE fa fb fa fb (cf fa fa fb)=ce fa fb from rfl,h] at h1
 obtain⟨e1,-⟩:=Prod.mk.inj h1
 obtain⟨-,e2⟩:=Prod.mk.inj e1
 rw[←e2] at h2
 have:=(aC h2).2.1
 omega
theorem yh (v:Value) (a b L1 L2:List ByteArray) (er:Int) (w:World) (h:d_ a b=((L1,L2),er)) (hF:IsF w v a b) (hG:Gx w) :
  Calls Tryz.prog 17 #[v] w fun e w'=>∃ p1 c1 p2 c2,e=.returned (.tuple #[.agg #[.slice p1 L1.length c1,.slice p2 L2.length c2],.int .i64 er])∧IsS w' (.slice p1 L1.length c1) L1∧IsS w' (.slice p2 L2.length c2) L2∧Below w.heap.size w w':=by
 refine (xy v a b w hF hG).mono ?_
 rintro e w' ⟨u,rfl,hu,hb⟩
 rw[h] at hu ⊢
 obtain⟨p1,c1,p2,c2,rfl,g1,g2⟩:=ka hu
 exact⟨p1,c1,p2,c2,rfl,g1,g2,hb⟩
theorem tR (v:Value) (a b L1 L2:List ByteArray) (er:Int) (w:World) (h:ce a b=((L1,L2),er)) (hF:IsF w v a b) (hG:Gx w) :
  Calls Tryz.prog 21 #[v] w fun e w'=>∃ p1 c1 p2 c2,e=.returned (.tuple #[.agg #[.slice p1 L1.length c1,.slice p2 L2.length c2],.int .i64 er])∧IsS w' (.slice p1 L1.length c1) L1∧IsS w' (.slice p2 L2.length c2) L2∧Below w.heap.size w w':=by
 refine (qv v a b w hF hG).mono ?_
 rintro e w' ⟨u,rfl,hu,hb⟩
 rw[h] at hu ⊢
 obtain⟨p1,c1,p2,c2,rfl,g1,g2⟩:=ka hu
 exact⟨p1,c1,p2,c2,rfl,g1,g2,hb⟩
theorem uF (v:Value) (fa fb:List ByteArray) (v':Value) (ga gb:List ByteArray) (z:ByteArray) (w:World) (hF:IsF w v fa fb) (hF':IsF w v' ga gb) (hG:Gx w) :
  Calls Tryz.prog 4 #[v,v',.string z] w fun e w'=>e=.returned (.bool true)∧Below w.heap.size w w':=by
 obtain⟨p,c,q,d,rfl,hfa,hfb⟩:=id hF.ex
 obtain⟨p',c',q',d',rfl,hga,hgb⟩:=id hF'.ex
 go_enter Tryz.func4,Tryz.ntmps4
 go_upto_region 1 with fail
 have cc:=am w (.slice p fa.length c) (.slice q fb.length d)
 have m1:=ae w (.cells #[.slice p fa.length c,.slice q fb.length d] 24)
 have z1:=size_alloc w (.cells #[.slice p fa.length c,.slice q fb.length d] 24)
 generalize w.alloc (.cells #[.slice p fa.length c,.slice q fb.length d] 24)=w1 at *
 have cc':=am w1 (.slice p' ga.length c') (.slice q' gb.length d')
 have m2:=ae w1 (.cells #[.slice p' ga.length c',.slice q' gb.length d'] 24)
 have z2:=size_alloc w1 (.cells #[.slice p' ga.length c',.slice q' gb.length d'] 24)
 have hlt:w.heap.size<w1.heap.size:=by omega
 have k0:=aa m2 hlt cc.1
 have k1:=aa m2 hlt cc.2
 have k2:=cc'.1
 have k3:=cc'.2
 rw[z1] at k2 k3
 generalize w1.alloc (.cells #[.slice p' ga.length c',.slice q' gb.length d'] 24)=w2 at *
 have KL:w.heap.size<w2.heap.size:=by omega
 have KL':w.heap.size+1<w2.heap.size:=by omega
 have HB:=yX (m1.trans (m2.mono m1.size))
 have HF:=yX (hF.below HB.out)
 have HF':=yX (hF'.below HB.out)
 have HG:=yX (hG.below HB.out)
 clear hfa hfb hga hgb cc cc' z1 z2 m1 m2 hF hF' hG hlt
 obtain⟨⟨⟨L1,L2⟩,el⟩,hl⟩:∃ r,d_ fa fb=r:=⟨_,rfl⟩
 have HLE:=yX hl
 clear hl
 go_wp2_with fail
 refine (yh _ fa fb L1 L2 el w2 HLE.out HF.out HG.out).mono ?_
 rintro e w3 ⟨p1,c1,p2,c2,rfl,g1,g2,hb⟩
 have HF:=yX (HF.out.below hb)
 have HF':=yX (HF'.out.below hb)
 have HG:=yX (HG.out.below hb)
 have HB:=yX (HB.out.trans ((hb).mono HB.out.size))
 have k0:=aa hb KL k0
 have k1:=aa hb KL k1
 have k2:=aa hb KL' k2
 have k3:=aa hb KL' k3
 have KL:=y_ KL ((hb).size)
 have KL':=y_ KL' ((hb).size)
 clear hb
 go_upto_region 2 with fail
 have kk:=am w3 (.slice p1 (L1).length c1) (.slice p2 (L2).length c2)
 have hb:=ae w3 (.cells #[.slice p1 (L1).length c1,.slice p2 (L2).length c2] 24)
 have zz:=size_alloc w3 (.cells #[.slice p1 (L1).length c1,.slice p2 (L2).length c2] 24)
 generalize World.alloc w3 (.cells #[.slice p1 (L1).length c1,.slice p2 (L2).length c2] 24)=w4 at *
 obtain⟨gl,hgc⟩:∃ x,x=(w3).heap.size:=⟨_,rfl⟩
 rw[←hgc] at kk zz ⊢
 have HL:=yX (show nn w4 gl p1 c1 p2 c2 L1 L2 from⟨kk.1,kk.2,g1.below hb,g2.below hb,by omega⟩)
 clear kk g1 g2 zz hgc
 have HF:=yX (HF.out.below hb)
 have HF':=yX (HF'.out.below hb)
 have HG:=yX (HG.out.below hb)
 have HB:=yX (HB.out.trans ((hb).mono HB.out.size))
 have k0:=aa hb KL k0
 have k1:=aa hb KL k1
 have k2:=aa hb KL' k2
 have k3:=aa hb KL' k3
 have KL:=y_ KL ((hb).size)
 have KL':=y_ KL' ((hb).size)
 clear hb
 have x0:=HL.out.f0
 have x1:=HL.out.f1
 by_cases hel:el=0
 ·subst hel
  obtain⟨⟨⟨S1,S2⟩,es⟩,hs⟩:∃ r,di L1 L2 ga gb=r:=⟨_,rfl⟩
  have HSE:=yX hs
  clear hs
  go_wp2_with fail
  refine (xO _ _ L1 L2 ga gb S1 S2 es w4 HSE.out HL.out.F HF'.out HG.out).mono ?_
  rintro e w5 ⟨p3,c3,p4,c4,rfl,g3,g4,hb⟩
  have HL:=yX (HL.out.below hb)
  have HF:=yX (HF.out.below hb)
  have HF':=yX (HF'.out.below hb)
  have HG:=yX (HG.out.below hb)
  have HB:=yX (HB.out.trans ((hb).mono HB.out.size))
  have k0:=aa hb KL k0
  have k1:=aa hb KL k1
  have k2:=aa hb KL' k2
  have k3:=aa hb KL' k3
  have KL:=y_ KL ((hb).size)
  have KL':=y_ KL' ((hb).size)
  clear hb
  clear x0 x1
  go_upto_region 5 with fail
  have kk:=am w5 (.slice p3 S1.length c3) (.slice p4 S2.length c4)
  have hb:=ae w5 (.cells #[.slice p3 S1.length c3,.slice p4 S2.length c4] 24)
  have zz:=size_alloc w5 (.cells #[.slice p3 S1.length c3,.slice p4 S2.length c4] 24)
  generalize World.alloc w5 (.cells #[.slice p3 S1.length c3,.slice p4 S2.length c4] 24)=w6 at *
  obtain⟨gs,hgc⟩:∃ x,x=(w5).heap.size:=⟨_,rfl⟩
  rw[←hgc] at kk zz ⊢
  have HS:=yX (show nn w6 gs p3 c3 p4 c4 S1 S2 from⟨kk.1,kk.2,g3.below hb,g4.below hb,by omega⟩)
  clear kk g3 g4 zz hgc
  have HL:=yX (HL.out.below hb)
  have HF:=yX (HF.out.below hb)
  have HF':=yX (HF'.out.below hb)
  have HG:=yX (HG.out.below hb)
  have HB:=yX (HB.out.trans ((hb).mono HB.out.size))
  have k0:=aa hb KL k0
  have k1:=aa hb KL k1
  have k2:=aa hb KL' k2
  have k3:=aa hb KL' k3
  have KL:=y_ KL ((hb).size)
  have KL':=y_ KL' ((hb).size)
  clear hb
  by_cases hes:es=0
  ·subst hes
   obtain⟨⟨ta,ea⟩,hta⟩:∃ r,aG L1 L2 z=r:=⟨_,rfl⟩
   obtain⟨⟨tb,eb⟩,htb⟩:∃ r,aG ga gb z=r:=⟨_,rfl⟩
   obtain⟨⟨tc,ec⟩,htc⟩:∃ r,aG S1 S2 z=r:=⟨_,rfl⟩
   have HTA:=yX hta
   have HTB:=yX htb
   have HTC:=yX htc
   clear hta htb htc
   have x0:=HL.out.f0
   have x1:=HL.out.f1
   have y0:=HS.out.f0
   have y1:=HS.out.f1
   go_wp2_with fail
   refine (ew _ L1 L2 z ta ea w6 HTA.out HL.out.F HG.out).mono ?_
   rintro e w7 ⟨rfl,hb⟩
   have HS:=yX (HS.out.below hb)
   have HL:=yX (HL.out.below hb)
   have HF:=yX (HF.out.below hb)
   have HF':=yX (HF'.out.below hb)
   have HG:=yX (HG.out.below hb)
   have HB:=yX (HB.out.trans ((hb).mono HB.out.size))
   have k0:=aa hb KL k0
   have k1:=aa hb KL k1
   have k2:=aa hb KL' k2
   have k3:=aa hb KL' k3
   have KL:=y_ KL ((hb).size)
   have KL':=y_ KL' ((hb).size)
   clear hb
   clear x0 x1 y0 y1
   go_wp2_with fail
   refine (ew _ ga gb z tb eb w7 HTB.out HF'.out HG.out).mono ?_
   rintro e w8 ⟨rfl,hb⟩
   have HS:=yX (HS.out.below hb)
   have HL:=yX (HL.out.below hb)
   have HF:=yX (HF.out.below hb)
   have HF':=yX (HF'.out.below hb)
   have HG:=yX (HG.out.below hb)
   have HB:=yX (HB.out.trans ((hb).mono HB.out.size))
   have k0:=aa hb KL k0
   have k1:=aa hb KL k1
   have k2:=aa hb KL' k2
   have k3:=aa hb KL' k3
   have KL:=y_ KL ((hb).size)
   have KL':=y_ KL' ((hb).size)
   clear hb
   have y0:=HS.out.f0
   have y1:=HS.out.f1
   go_wp2_with fail
   refine (ew _ S1 S2 z tc ec w8 HTC.out HS.out.F HG.out).mono ?_
   rintro e w9 ⟨rfl,hb⟩
   have HL:=yX (HL.out.below hb)
   have HF:=yX (HF.out.below hb)
   have HF':=yX (HF'.out.below hb)
   have HG:=yX (HG.out.below hb)
   have HB:=yX (HB.out.trans ((hb).mono HB.out.size))
   have k0:=aa hb KL k0
   have k1:=aa hb KL k1
   have k2:=aa hb KL' k2
   have k3:=aa hb KL' k3
   have KL:=y_ KL ((hb).size)
   have KL':=y_ KL' ((hb).size)
   clear hb
   clear y0 y1 HS
   by_cases hea:ea=0
   ·subst hea
    by_cases heb:eb=0
    ·subst heb
     have hsv:=lh (fa:=L1) (fb:=L2) (ga:=ga) (gb:=gb) (z:=z) (by rw[HTA.out]) (by rw[HTB.out]) (by rw[HSE.out])
     rw[HSE.out,HTA.out,HTB.out] at hsv
     obtain⟨r,hr1,hr2⟩:=hsv
     replace hr1:aG S1 S2 z=(r,0):=hr1
     rw[HTC.out] at hr1
     obtain⟨rfl,rfl⟩:tc=r∧ec=0:=by
      have:=Prod.mk.inj hr1
      exact this
     have HMUL:=yX (fun wx (h:Gw wx)=>xH ta tb tc wx hr2 h)
     clear hr1 hr2 HSE HTB HTC
     go_wp2_with fail
     refine (HMUL.out w9 HG.out.g).mono ?_
     rintro e w10 ⟨rfl,hb⟩
     clear HMUL
     have HL:=yX (HL.out.below hb)
     have HF:=yX (HF.out.below hb)
     have HF':=yX (HF'.out.below hb)
     have HG:=yX (HG.out.below hb)
     have HB:=yX (HB.out.trans ((hb).mono HB.out.size))
     have k0:=aa hb KL k0
     have k1:=aa hb KL k1
     have k2:=aa hb KL' k2
     have k3:=aa hb KL' k3
     have KL:=y_ KL ((hb).size)
     have KL':=y_ KL' ((hb).size)
     clear hb
     obtain⟨⟨⟨K1,K2⟩,ek⟩,hk⟩:∃ r,ce fa fb=r:=⟨_,rfl⟩
     have HKE:=yX hk
     clear hk
     go_wp2_with fail
     refine (tR _ fa fb K1 K2 ek w10 HKE.out HF.out HG.out).mono ?_
     rintro e w11 ⟨p1,c1,p2,c2,rfl,g1,g2,hb⟩
     have HL:=yX (HL.out.below hb)
     have HF:=yX (HF.out.below hb)
     have HF':=yX (HF'.out.below hb)
     have HG:=yX (HG.out.below hb)
     have HB:=yX (HB.out.trans ((hb).mono HB.out.size))
     have k0:=aa hb KL k0
     have k1:=aa hb KL k1
     have k2:=aa hb KL' k2
     have k3:=aa hb KL' k3
     have KL:=y_ KL ((hb).size)
     have KL':=y_ KL' ((hb).size)
     clear hb
     go_upto_region 16 with fail
     have kk:=am w11 (.slice p1 (K1).length c1) (.slice p2 (K2).length c2)
     have hb:=ae w11 (.cells #[.slice p1 (K1).length c1,.slice p2 (K2).length c2] 24)
     have zz:=size_alloc w11 (.cells #[.slice p1 (K1).length c1,.slice p2 (K2).length c2] 24)
     generalize World.alloc w11 (.cells #[.slice p1 (K1).length c1,.slice p2 (K2).length c2] 24)=w12 at *
     obtain⟨gk,hgc⟩:∃ x,x=(w11).heap.size:=⟨_,rfl⟩
     rw[←hgc] at kk zz ⊢
     have HK:=yX (show nn w12 gk p1 c1 p2 c2 K1 K2 from⟨kk.1,kk.2,g1.below hb,g2.below hb,by omega⟩)
     clear kk g1 g2 zz hgc
     have HL:=yX (HL.out.below hb)
     have HF:=yX (HF.out.below hb)
     have HF':=yX (HF'.out.below hb)
     have HG:=yX (HG.out.below hb)
     have HB:=yX (HB.out.trans ((hb).mono HB.out.size))
     have k0:=aa hb KL k0
     have k1:=aa hb KL k1
     have k2:=aa hb KL' k2
     have k3:=aa hb KL' k3
     have KL:=y_ KL ((hb).size)
     have KL':=y_ KL' ((hb).size)
     clear hb
     by_cases hek:ek=0
     ·subst hek
      have hhv:=uu (fa:=fa) (fb:=fb) (z:=z) (by rw[HLE.out]) (by rw[HKE.out]) (by rw[HLE.out];show (aG L1 L2 z).2=0;rw[HTA.out])
      rw[HLE.out,HKE.out] at hhv
      obtain⟨m,hm1,hm2,hm3⟩:=hhv
      replace hm1:aG K1 K2 z=(m,0):=hm1
      replace hm2:aM (b8 CQ.add) (aG L1 L2 z).1 m=(⟨#[49]⟩,0):=hm2
      rw[HTA.out] at hm2
      obtain rfl:K2=L2:=hm3
      have HM1:=yX hm1
      have HLN:=yX (pr (L2:=K2) HKE.out)
      have HADD:=yX (fun wx (h:Gw wx)=>tG ta m ⟨#[49]⟩ wx hm2 h)
      clear hm1 hm2 HLE HKE HTA
      have x0:=HK.out.f0
      have x1:=HK.out.f1
      go_wp2_with fail
      refine (ew _ K1 K2 z m 0 w12 HM1.out HK.out.F HG.out).mono ?_
      rintro e w13 ⟨rfl,hb⟩
      have HK:=yX (HK.out.below hb)
      have HL:=yX (HL.out.below hb)
      have HF:=yX (HF.out.below hb)
      have HF':=yX (HF'.out.below hb)
      have HG:=yX (HG.out.below hb)
      have HB:=yX (HB.out.trans ((hb).mono HB.out.size))
      have k0:=aa hb KL k0
      have k1:=aa hb KL k1
      have k2:=aa hb KL' k2
      have k3:=aa hb KL' k3
      have KL:=y_ KL ((hb).size)
      have KL':=y_ KL' ((hb).size)
      clear hb
      clear x0 x1 HM1
      go_wp2_with fail
      refine (HADD.out w13 HG.out.g).mono ?_
      rintro e w14 ⟨rfl,hb⟩
      have HK:=yX (HK.out.below hb)
      have HL:=yX (HL.out.below hb)
      have HF:=yX (HF.out.below hb)
      have HF':=yX (HF'.out.below hb)
      have HG:=yX (HG.out.below hb)
      have HB:=yX (HB.out.trans ((hb).mono HB.out.size))
      have k0:=aa hb KL k0
      have k1:=aa hb KL k1
      have k2:=aa hb KL' k2
      have k3:=aa hb KL' k3
      have KL:=y_ KL ((hb).size)
      have KL':=y_ KL' ((hb).size)
      clear hb
      clear HADD
      have x1:=HK.out.f1
      have y1:=HL.out.f1
      have HSN:=yX (fG _ _ K2 K2 w14 HK.out.l1 HL.out.l1 (HLN.out) (HLN.out))
      rw[decide_eq_true (rfl:K2=K2)] at HSN
      go_wp2_with fail
      refine HSN.out.mono ?_
      rintro e w15 ⟨rfl,hb⟩
      clear HSN x1 y1 HK
      have HL:=yX (HL.out.below hb)
      have HF:=yX (HF.out.below hb)
      have HF':=yX (HF'.out.below hb)
      have HG:=yX (HG.out.below hb)
      have HB:=yX (HB.out.trans ((hb).mono HB.out.size))
      have k0:=aa hb KL k0
      have k1:=aa hb KL k1
      have k2:=aa hb KL' k2
      have k3:=aa hb KL' k3
      have KL:=y_ KL ((hb).size)
      have KL':=y_ KL' ((hb).size)
      clear hb
      go_wp2_with fail
      refine (d7 _ HG.out).mono ?_
      rintro e wz ⟨rfl,hz⟩
      have HB:=HB.out.trans (hz.mono HB.out.size)
      clear hz
      go_wp2
      go_ret
      exact⟨rfl,HB⟩
     ·have hne:(ek == 0)=false:=by simpa using hek
      clear hek HK HLE HKE HTA
      go_wp2_with fail
      refine (d7 _ HG.out).mono ?_
      rintro e wz ⟨rfl,hz⟩
      have HB:=HB.out.trans (hz.mono HB.out.size)
      clear hz
      go_wp2
      go_ret
      exact⟨rfl,HB⟩
    ·have hne:(eb == 0)=false:=by simpa using heb
     clear heb
     go_wp2_with fail
     refine (d7 _ HG.out).mono ?_
     rintro e wz ⟨rfl,hz⟩
     have HB:=HB.out.trans (hz.mono HB.out.size)
     clear hz
     go_wp2
     go_ret
     exact⟨rfl,HB⟩
   ·have hne:(ea == 0)=false:=by simpa using hea
    clear hea
    go_wp2_with fail
    all_goals
     refine (d7 _ HG.out).mono ?_
     rintro e wz ⟨rfl,hz⟩
     have HB:=HB.out.trans (hz.mono HB.out.size)
     clear hz
     go_wp2
     go_ret
     exact⟨rfl,HB⟩
  ·have hne:(es == 0)=false:=by simpa using hes
   clear hes HS
   go_wp2_with fail
   refine (d7 _ HG.out).mono ?_
   rintro e wz ⟨rfl,hz⟩
   have HB:=HB.out.trans (hz.mono HB.out.size)
   clear hz
   go_wp2
   go_ret
   exact⟨rfl,HB⟩
 ·have hee:=nI (fa:=fa) (fb:=fb) (ga:=fa) (gb:=fb) (r:=cf fb fa fb) (show (d_ fa fb).2≠0 by rw[HLE.out];exact hel)
  rw[show aE fa fb fa fb (cf fb fa fb)=d_ fa fb from rfl,HLE.out] at hee
  obtain⟨rfl,rfl⟩:L1=[]∧L2=[]:=Prod.mk.inj hee
  have hne:(el == 0)=false:=by simpa using hel
  clear hel hee HLE
  go_wp2_with fail
  refine (d7 _ HG.out).mono ?_
  rintro e wz ⟨rfl,hz⟩
  have HB:=HB.out.trans (hz.mono HB.out.size)
  clear hz
  go_wp2
  go_ret
  exact⟨rfl,HB⟩
end Go.Proofs.YtomkanblohhpfaaGreatDoor
