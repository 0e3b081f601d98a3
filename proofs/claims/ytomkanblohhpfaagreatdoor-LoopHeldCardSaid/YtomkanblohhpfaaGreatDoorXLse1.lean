/- Lemmas of this claim. -/
import Derived.Test.YtomkanblohhpfaaGreatDoorXWK1
import Derived.Test.YtomkanblohhpfaaGreatDoorXPS6
set_option linter.all false
set_option maxRecDepth 100000
set_option maxHeartbeats 8000000
namespace Go.Proofs.YtomkanblohhpfaaGreatDoor
open Go.RowKit Dg
theorem ew (v:Value) (a b:List ByteArray) (z t:ByteArray) (er:Int) (w:World) (h:aG a b z=(t,er)) (hF:IsF w v a b) (hG:Gx w) :
  Calls Tryz.prog 19 #[v,.string z] w fun e w'=>e=.returned (.tuple #[.string t,.int .i64 er])∧Below w.heap.size w w':=by
 have:=ji v a b z w hF hG
 rw[h] at this
 exact this
theorem xH (s t r:ByteArray) (w:World) (h:aM (b8 CQ.mul) s t=(r,0)) (hG:Gw w) :
  Calls Tryz.prog 20 #[.string s,.string t] w fun e w'=>e=.returned (.tuple #[.string r,.int .i64 0])∧Below w.heap.size w w':=by
 have:=uO s t w hG
 rw[h] at this
 exact this
theorem tG (s t r:ByteArray) (w:World) (h:aM (b8 CQ.add) s t=(r,0)) (hG:Gw w) :
  Calls Tryz.prog 22 #[.string s,.string t] w fun e w'=>e=.returned (.tuple #[.string r,.int .i64 0])∧Below w.heap.size w w':=by
 have:=uN s t w hG
 rw[h] at this
 exact this
theorem ka {B:Nat}{w:World}{u:Value}{l m:List ByteArray} (h:wk B w u l m):∃ p1 c1 p2 c2,u=.agg #[.slice p1 l.length c1,.slice p2 m.length c2]∧IsS w (.slice p1 l.length c1) l∧IsS w (.slice p2 m.length c2) m:=by
 obtain⟨p1,c1,p2,c2,e,h1,h2,-,-⟩:=h.ex
 exact⟨p1,c1,p2,c2,e,h1,h2⟩
theorem xO (v v':Value) (a b a' b' L1 L2:List ByteArray) (er:Int) (w:World) (h:di a b a' b'=((L1,L2),er)) (hF:IsF w v a b) (hF':IsF w v' a' b') (hG:Gx w) :
  Calls Tryz.prog 18 #[v,v'] w fun e w'=>∃ p1 c1 p2 c2,e=.returned (.tuple #[.agg #[.slice p1 L1.length c1,.slice p2 L2.length c2],.int .i64 er])∧IsS w' (.slice p1 L1.length c1) L1∧IsS w' (.slice p2 L2.length c2) L2∧Below w.heap.size w w':=by
 refine (wB v v' a b a' b' w hF hF' hG).mono ?_
 rintro e w' ⟨u,rfl,hu,hb⟩
 rw[h] at hu ⊢
 obtain⟨p1,c1,p2,c2,rfl,g1,g2⟩:=ka hu
 exact⟨p1,c1,p2,c2,rfl,g1,g2,hb⟩
theorem xK (v v':Value) (a b a' b' L1 L2:List ByteArray) (er:Int) (w:World) (h:cD a b a' b'=((L1,L2),er)) (hF:IsF w v a b) (hF':IsF w v' a' b') (hG:Gx w) :
  Calls Tryz.prog 32 #[v,v'] w fun e w'=>∃ p1 c1 p2 c2,e=.returned (.tuple #[.agg #[.slice p1 L1.length c1,.slice p2 L2.length c2],.int .i64 er])∧IsS w' (.slice p1 L1.length c1) L1∧IsS w' (.slice p2 L2.length c2) L2∧Below w.heap.size w w':=by
 refine (rQ v v' a b a' b' w hF hF' hG).mono ?_
 rintro e w' ⟨u,rfl,hu,hb⟩
 rw[h] at hu ⊢
 obtain⟨p1,c1,p2,c2,rfl,g1,g2⟩:=ka hu
 exact⟨p1,c1,p2,c2,rfl,g1,g2,hb⟩
theorem pK (v:Value) (fa fb:List ByteArray) (v':Value) (ga gb:List ByteArray) (z:ByteArray) (w:World) (hF:IsF w v fa fb) (hF':IsF w v' ga gb) (hG:Gx w) :
  Calls Tryz.prog 7 #[v,v',.string z] w fun e w'=>e=.returned (.bool true)∧Below w.heap.size w w':=by
 obtain⟨p,c,q,d,rfl,hfa,hfb⟩:=id hF.ex
 obtain⟨p',c',q',d',rfl,hga,hgb⟩:=id hF'.ex
 go_enter Tryz.func7,Tryz.ntmps7
 go_upto_region 1 with fail
 have cc:=am w (.slice p fa.length c) (.slice q fb.length d)
 have m1:=ae w (.cells #[.slice p fa.length c,.slice q fb.length d] 24)
 have z1:=size_alloc w (.cells #[.slice p fa.length c,.slice q fb.length d] 24)
 generalize w.alloc (.cells #[.slice p fa.length c,.slice q fb.length d] 24)=w1 at *
 have cc':=am w1 (.slice p' ga.length c') (.slice q' gb.length d')
 have m2:=ae w1 (.cells #[.slice p' ga.length c',.slice q' gb.length d'] 24)
 have z2:=size_alloc w1 (.cells #[.slice p' ga.length c',.slice q' gb.length d'] 24)
 have hlt:w.heap.size<w1.heap.size:=by omega
 have k0:=aa m2 hlt cc.1
 have k1:=aa m2 hlt cc.2
 have k2:=cc'.1
 have k3:=cc'.2
 rw[z1] at k2 k3
 generalize w1.alloc (.cells #[.slice p' ga.length c',.slice q' gb.length d'] 24)=w2 at *
 have KL:w.heap.size<w2.heap.size:=by omega
 have KL':w.heap.size+1<w2.heap.size:=by omega
 have HB:=yX (m1.trans (m2.mono m1.size))
 have HF:=yX (hF.below HB.out)
 have HF':=yX (hF'.below HB.out)
 have HG:=yX (hG.below HB.out)
 clear hfa hfb hga hgb cc cc' z1 z2 m1 m2 hF hF' hG hlt
 obtain⟨⟨ta,ea⟩,hta⟩:∃ r,aG fa fb z=r:=⟨_,rfl⟩
 obtain⟨⟨tb,eb⟩,htb⟩:∃ r,aG ga gb z=r:=⟨_,rfl⟩
 have HTA:=yX hta
 have HTB:=yX htb
 clear hta htb
 go_wp2_with fail
 refine (ew _ fa fb z ta ea w2 HTA.out HF.out HG.out).mono ?_
 rintro e w3 ⟨rfl,hb⟩
 have HF:=yX (HF.out.below hb)
 have HF':=yX (HF'.out.below hb)
 have HG:=yX (HG.out.below hb)
 have HB:=yX (HB.out.trans ((hb).mono HB.out.size))
 have k0:=aa hb KL k0
 have k1:=aa hb KL k1
 have k2:=aa hb KL' k2
 have k3:=aa hb KL' k3
 have KL:=y_ KL ((hb).size)
 have KL':=y_ KL' ((hb).size)
 clear hb
 go_wp2_with fail
 refine (ew _ ga gb z tb eb w3 HTB.out HF'.out HG.out).mono ?_
 rintro e w4 ⟨rfl,hb⟩
 have HF:=yX (HF.out.below hb)
 have HF':=yX (HF'.out.below hb)
 have HG:=yX (HG.out.below hb)
 have HB:=yX (HB.out.trans ((hb).mono HB.out.size))
 have k0:=aa hb KL k0
 have k1:=aa hb KL k1
 have k2:=aa hb KL' k2
 have k3:=aa hb KL' k3
 have KL:=y_ KL ((hb).size)
 have KL':=y_ KL' ((hb).size)
 clear hb
 by_cases hea:ea=0
 ·subst hea
  by_cases heb:eb=0
  ·subst heb
   obtain⟨⟨⟨L1,L2⟩,es⟩,hs⟩:∃ r,di fa fb ga gb=r:=⟨_,rfl⟩
   obtain⟨⟨⟨M1,M2⟩,ep⟩,hp⟩:∃ r,cD fa fb ga gb=r:=⟨_,rfl⟩
   have HSV:=yX (show es=0→∃ r,aG L1 L2 z=(r,0)∧aM (b8 CQ.mul) ta tb=(r,0) from fun h=>by
    have:=lh (fa:=fa) (fb:=fb) (ga:=ga) (gb:=gb) (z:=z) (by rw[HTA.out]) (by rw[HTB.out]) (by rw[hs];exact h)
    rw[hs,HTA.out,HTB.out] at this
    exact this)
   have HPV:=yX (show ep=0→∃ r,aG M1 M2 z=(r,0)∧aM (b8 CQ.add) ta tb=(r,0) from fun h=>by
    have:=mZ (fa:=fa) (fb:=fb) (ga:=ga) (gb:=gb) (z:=z) (by rw[HTA.out]) (by rw[HTB.out]) (by rw[hp];exact h)
    rw[hp,HTA.out,HTB.out] at this
    exact this)
   have HSE:=yX hs
   have HPE:=yX hp
   clear hs hp
   go_wp2_with fail
   refine (xO _ _ fa fb ga gb L1 L2 es w4 HSE.out HF.out HF'.out HG.out).mono ?_
   rintro e x1' ⟨p1,c1,p2,c2,rfl,g1,g2,hb⟩
   have HF:=yX (HF.out.below hb)
   have HF':=yX (HF'.out.below hb)
   have HG:=yX (HG.out.below hb)
   have HB:=yX (HB.out.trans ((hb).mono HB.out.size))
   have k0:=aa hb KL k0
   have k1:=aa hb KL k1
   have k2:=aa hb KL' k2
   have k3:=aa hb KL' k3
   have KL:=y_ KL ((hb).size)
   have KL':=y_ KL' ((hb).size)
   clear hb
   go_upto_region 6 with fail
   have kk:=am x1' (.slice p1 (L1).length c1) (.slice p2 (L2).length c2)
   have hb:=ae x1' (.cells #[.slice p1 (L1).length c1,.slice p2 (L2).length c2] 24)
   have zz:=size_alloc x1' (.cells #[.slice p1 (L1).length c1,.slice p2 (L2).length c2] 24)
   generalize World.alloc x1' (.cells #[.slice p1 (L1).length c1,.slice p2 (L2).length c2] 24)=x2' at *
   obtain⟨gc,hgc⟩:∃ x,x=(x1').heap.size:=⟨_,rfl⟩
   rw[←hgc] at kk zz ⊢
   have HS:=yX (show IsF x2' (.agg #[.slice p1 (L1).length c1,.slice p2 (L2).length c2]) L1 L2 from⟨⟨p1,c1,p2,c2,rfl,g1.below hb,g2.below hb⟩⟩)
   have x0:=kk.1
   have x1:=kk.2
   clear kk g1 g2 zz hgc
   have HF:=yX (HF.out.below hb)
   have HF':=yX (HF'.out.below hb)
   have HG:=yX (HG.out.below hb)
   have HB:=yX (HB.out.trans ((hb).mono HB.out.size))
   have k0:=aa hb KL k0
   have k1:=aa hb KL k1
   have k2:=aa hb KL' k2
   have k3:=aa hb KL' k3
   have KL:=y_ KL ((hb).size)
   have KL':=y_ KL' ((hb).size)
   clear hb
   clear HSE
   by_cases hes:es=0
   ·subst hes
    obtain⟨r1,hr1,hr2⟩:=HSV.out rfl
    have HR1:=yX hr1
    have HMUL:=yX (fun wx (h:Gw wx)=>xH ta tb r1 wx hr2 h)
    clear hr1 hr2 HSV
    go_wp2_with fail
    refine (ew _ L1 L2 z r1 0 x2' HR1.out HS.out HG.out).mono ?_
    rintro e x3 ⟨rfl,hb⟩
    clear x0 x1 HS HR1
    have HF:=yX (HF.out.below hb)
    have HF':=yX (HF'.out.below hb)
    have HG:=yX (HG.out.below hb)
    have HB:=yX (HB.out.trans ((hb).mono HB.out.size))
    have k0:=aa hb KL k0
    have k1:=aa hb KL k1
    have k2:=aa hb KL' k2
    have k3:=aa hb KL' k3
    have KL:=y_ KL ((hb).size)
    have KL':=y_ KL' ((hb).size)
    clear hb
    go_wp2_with fail
    refine (HMUL.out x3 HG.out.g).mono ?_
    rintro e x4 ⟨rfl,hb⟩
    clear HMUL
    have HF:=yX (HF.out.below hb)
    have HF':=yX (HF'.out.below hb)
    have HG:=yX (HG.out.below hb)
    have HB:=yX (HB.out.trans ((hb).mono HB.out.size))
    have k0:=aa hb KL k0
    have k1:=aa hb KL k1
    have k2:=aa hb KL' k2
    have k3:=aa hb KL' k3
    have KL:=y_ KL ((hb).size)
    have KL':=y_ KL' ((hb).size)
    clear hb
    go_wp2_with fail
    refine (xK _ _ fa fb ga gb M1 M2 ep x4 HPE.out HF.out HF'.out HG.out).mono ?_
    rintro e y1 ⟨p1,c1,p2,c2,rfl,g1,g2,hb⟩
    have HF:=yX (HF.out.below hb)
    have HF':=yX (HF'.out.below hb)
    have HG:=yX (HG.out.below hb)
    have HB:=yX (HB.out.trans ((hb).mono HB.out.size))
    have k0:=aa hb KL k0
    have k1:=aa hb KL k1
    have k2:=aa hb KL' k2
    have k3:=aa hb KL' k3
    have KL:=y_ KL ((hb).size)
    have KL':=y_ KL' ((hb).size)
    clear hb
    go_upto_region 12 with fail
    have kk:=am y1 (.slice p1 (M1).length c1) (.slice p2 (M2).length c2)
    have hb:=ae y1 (.cells #[.slice p1 (M1).length c1,.slice p2 (M2).length c2] 24)
    have zz:=size_alloc y1 (.cells #[.slice p1 (M1).length c1,.slice p2 (M2).length c2] 24)
    generalize World.alloc y1 (.cells #[.slice p1 (M1).length c1,.slice p2 (M2).length c2] 24)=y2 at *
    obtain⟨gc,hgc⟩:∃ x,x=(y1).heap.size:=⟨_,rfl⟩
    rw[←hgc] at kk zz ⊢
    have HS:=yX (show IsF y2 (.agg #[.slice p1 (M1).length c1,.slice p2 (M2).length c2]) M1 M2 from⟨⟨p1,c1,p2,c2,rfl,g1.below hb,g2.below hb⟩⟩)
    have x0:=kk.1
    have x1:=kk.2
    clear kk g1 g2 zz hgc
    have HF:=yX (HF.out.below hb)
    have HF':=yX (HF'.out.below hb)
    have HG:=yX (HG.out.below hb)
    have HB:=yX (HB.out.trans ((hb).mono HB.out.size))
    have k0:=aa hb KL k0
    have k1:=aa hb KL k1
    have k2:=aa hb KL' k2
    have k3:=aa hb KL' k3
    have KL:=y_ KL ((hb).size)
    have KL':=y_ KL' ((hb).size)
    clear hb
    by_cases hep:ep=0
    ·subst hep
     obtain⟨r2,hr1,hr2⟩:=HPV.out rfl
     have HR1:=yX hr1
     have HADD:=yX (fun wx (h:Gw wx)=>tG ta tb r2 wx hr2 h)
     clear hr1 hr2
     go_wp2_with fail
     refine (ew _ M1 M2 z r2 0 y2 HR1.out HS.out HG.out).mono ?_
     rintro e y3 ⟨rfl,hb⟩
     clear x0 x1 HS HR1
     have HF:=yX (HF.out.below hb)
     have HF':=yX (HF'.out.below hb)
     have HG:=yX (HG.out.below hb)
     have HB:=yX (HB.out.trans ((hb).mono HB.out.size))
     have k0:=aa hb KL k0
     have k1:=aa hb KL k1
     have k2:=aa hb KL' k2
     have k3:=aa hb KL' k3
     have KL:=y_ KL ((hb).size)
     have KL':=y_ KL' ((hb).size)
     clear hb
     go_wp2_with fail
     refine (HADD.out y3 HG.out.g).mono ?_
     rintro e y4 ⟨rfl,hb⟩
     clear HADD
     have HF:=yX (HF.out.below hb)
     have HF':=yX (HF'.out.below hb)
     have HG:=yX (HG.out.below hb)
     have HB:=yX (HB.out.trans ((hb).mono HB.out.size))
     have k0:=aa hb KL k0
     have k1:=aa hb KL k1
     have k2:=aa hb KL' k2
     have k3:=aa hb KL' k3
     have KL:=y_ KL ((hb).size)
     have KL':=y_ KL' ((hb).size)
     clear hb
     go_wp2_with fail
     refine (d7 _ HG.out).mono ?_
     rintro e wz ⟨rfl,hz⟩
     have HB:=HB.out.trans (hz.mono HB.out.size)
     clear hz
     go_wp2
     go_ret
     exact⟨rfl,HB⟩
    ·have hne:(ep == 0)=false:=by simpa using hep
     clear hep x0 x1 HS
     go_wp2_with fail
     refine (d7 _ HG.out).mono ?_
     rintro e wz ⟨rfl,hz⟩
     have HB:=HB.out.trans (hz.mono HB.out.size)
     clear hz
     go_wp2
     go_ret
     exact⟨rfl,HB⟩
   ·have hne:(es == 0)=false:=by simpa using hes
    clear hes x0 x1 HS HSV
    go_wp2_with fail
    refine (xK _ _ fa fb ga gb M1 M2 ep x2' HPE.out HF.out HF'.out HG.out).mono ?_
    rintro e y1 ⟨p1,c1,p2,c2,rfl,g1,g2,hb⟩
    have HF:=yX (HF.out.below hb)
    have HF':=yX (HF'.out.below hb)
    have HG:=yX (HG.out.below hb)
    have HB:=yX (HB.out.trans ((hb).mono HB.out.size))
    have k0:=aa hb KL k0
    have k1:=aa hb KL k1
    have k2:=aa hb KL' k2
    have k3:=aa hb KL' k3
    have KL:=y_ KL ((hb).size)
    have KL':=y_ KL' ((hb).size)
    clear hb
    go_upto_region 12 with fail
    have kk:=am y1 (.slice p1 (M1).length c1) (.slice p2 (M2).length c2)
    have hb:=ae y1 (.cells #[.slice p1 (M1).length c1,.slice p2 (M2).length c2] 24)
    have zz:=size_alloc y1 (.cells #[.slice p1 (M1).length c1,.slice p2 (M2).length c2] 24)
    generalize World.alloc y1 (.cells #[.slice p1 (M1).length c1,.slice p2 (M2).length c2] 24)=y2 at *
    obtain⟨gc,hgc⟩:∃ x,x=(y1).heap.size:=⟨_,rfl⟩
    rw[←hgc] at kk zz ⊢
    have HS:=yX (show IsF y2 (.agg #[.slice p1 (M1).length c1,.slice p2 (M2).length c2]) M1 M2 from⟨⟨p1,c1,p2,c2,rfl,g1.below hb,g2.below hb⟩⟩)
    have x0:=kk.1
    have x1:=kk.2
    clear kk g1 g2 zz hgc
    have HF:=yX (HF.out.below hb)
    have HF':=yX (HF'.out.below hb)
    have HG:=yX (HG.out.below hb)
    have HB:=yX (HB.out.trans ((hb).mono HB.out.size))
    have k0:=aa hb KL k0
    have k1:=aa hb KL k1
    have k2:=aa hb KL' k2
    have k3:=aa hb KL' k3
    have KL:=y_ KL ((hb).size)
    have KL':=y_ KL' ((hb).size)
    clear hb
    by_cases hep:ep=0
    ·subst hep
     obtain⟨r2,hr1,hr2⟩:=HPV.out rfl
     have HR1:=yX hr1
     have HADD:=yX (fun wx (h:Gw wx)=>tG ta tb r2 wx hr2 h)
     clear hr1 hr2
     go_wp2_with fail
     refine (ew _ M1 M2 z r2 0 y2 HR1.out HS.out HG.out).mono ?_
     rintro e y3 ⟨rfl,hb⟩
     clear x0 x1 HS HR1
     have HF:=yX (HF.out.below hb)
     have HF':=yX (HF'.out.below hb)
     have HG:=yX (HG.out.below hb)
     have HB:=yX (HB.out.trans ((hb).mono HB.out.size))
     have k0:=aa hb KL k0
     have k1:=aa hb KL k1
     have k2:=aa hb KL' k2
     have k3:=aa hb KL' k3
     have KL:=y_ KL ((hb).size)
     have KL':=y_ KL' ((hb).size)
     clear hb
     go_wp2_with fail
     refine (HADD.out y3 HG.out.g).mono ?_
     rintro e y4 ⟨rfl,hb⟩
     clear HADD
     have HF:=yX (HF.out.below hb)
     have HF':=yX (HF'.out.below hb)
     have HG:=yX (HG.out.below hb)
     have HB:=yX (HB.out.trans ((hb).mono HB.out.size))
     have k0:=aa hb KL k0
     have k1:=aa hb KL k1
     have k2:=aa hb KL' k2
     have k3:=aa hb KL' k3
     have KL:=y_ KL ((hb).size)
     have KL':=y_ KL' ((hb).size)
     clear hb
     go_wp2_with fail
     refine (d7 _ HG.out).mono ?_
     rintro e wz ⟨rfl,hz⟩
     have HB:=HB.out.trans (hz.mono HB.out.size)
     clear hz
     go_wp2
     go_ret
     exact⟨rfl,HB⟩
    ·have hne:(ep == 0)=false:=by simpa using hep
     clear hep x0 x1 HS
     go_wp2_with fail
     refine (d7 _ HG.out).mono ?_
     rintro e wz ⟨rfl,hz⟩
     have HB:=HB.out.trans (hz.mono HB.out.size)
     clear hz
     go_wp2
     go_ret
     exact⟨rfl,HB⟩
  ·have hne:(eb == 0)=false:=by simpa using heb
   clear heb
   go_wp2_with fail
   refine (d7 _ HG.out).mono ?_
   rintro e wz ⟨rfl,hz⟩
   have HB:=HB.out.trans (hz.mono HB.out.size)
   clear hz
   go_wp2
   go_ret
   exact⟨rfl,HB⟩
 ·have hne:(ea == 0)=false:=by simpa using hea
  clear hea
  go_wp2_with fail
  refine (d7 _ HG.out).mono ?_
  rintro e wz ⟨rfl,hz⟩
  have HB:=HB.out.trans (hz.mono HB.out.size)
  clear hz
  go_wp2
  go_ret
  exact⟨rfl,HB⟩
end Go.Proofs.YtomkanblohhpfaaGreatDoor
