/- Lemmas of this claim. -/
import Derived.Laws.EntriesVeiled
import Derived.Test.YtdlioncecgnloaaGreatDoorYPM5
import Derived.Test.YtdlioncecgnloaaGreatDoorYLE2
set_option linter.all false
set_option maxRecDepth 100000
set_option maxHeartbeats 8000000
namespace Go.Proofs.YtdlioncecgnloaaGreatDoor
open Go.RowKit Dg
theorem gE {s:Int}{p:Int×Int}{k:Int} (h0:0≤p.1) (h1:p.1≤k):0≤(fU s p).1∧(fU s p).1≤k+1:=by
 unfold fU
 split
 ·exact⟨h0,by omega⟩
 ·split<;>exact⟨by simp only;omega,by simp only;omega⟩
theorem gg {zs:List CQ} (h:dC zs) (x:Rat):0≤bX zs x∧bX zs x≤2:=by
 cases h with
 | one c h =>
  have:=gE (s:=hZ x [c]) (p:=(0,0)) (k:=0) (by decide) (by decide)
  show 0≤(fU (hZ x [c]) (0,0)).1∧(fU (hZ x [c]) (0,0)).1≤2
  omega
 | two a c h =>
  have h1:=gE (s:=hZ x [a,c]) (p:=(0,0)) (k:=0) (by decide) (by decide)
  have h2:=gE (s:=hZ x [c]) (p:=fU (hZ x [a,c]) (0,0)) (k:=1) h1.1 (by omega)
  exact⟨h2.1,h2.2⟩
theorem xV (v:Value) (lo hi:ByteArray) (l:List ByteArray) (zs:List CQ) (x y:Rat) (w:World) (hl:IsS w v l) (hG:Gw w) (hpz:cw l=.ok zs) (h2:dC zs) (hs:SzL 300 zs) (hre:gD zs=true)
  (hr:dy [lo,hi]=.ok [x,y]) (hsx:Sz 2000 (rt x)) (hsy:Sz 2000 (rt y)) (hxy:fX x y≤0) :
  Calls Tryz.prog 203 #[v,.string lo,.string hi] w fun e w'=>e=.returned (.tuple #[.int .i64 (bX zs x-bX zs y),.int .i64 0])∧Below w.heap.size w w':=by
 obtain⟨p,c,rfl,-⟩:=id hl.form
 have HPO:=zf (j4 _ l w hl hG)
 have hzl:zs.length<1000000:=by cases h2<;>simp
 go_enter Tryz.func203,Tryz.ntmps203
 go_wp2_with fail
 refine HPO.out.mono ?_
 rintro e w1 ⟨v1,x1,rfl,hres,hb1⟩
 rw[hpz] at hres
 obtain⟨rfl,hp1⟩:=hres
 obtain⟨p1,c1,rfl,-⟩:=id hp1.form
 have m2:=ae w1 (.cells #[.string lo,.string hi] 22)
 have HRE:=zf (vw _ [lo,hi] _ (IsS.two w1 lo hi) (by simp) ((hG.below hb1).below m2))
 have HP1:=zf (hp1.below m2)
 have HB1:=zf (hb1.trans (m2.mono hb1.size))
 clear hp1 hb1 m2 hl HPO hpz
 go_wp2_with fail
 refine HRE.out.mono ?_
 rintro e w2 ⟨v2,err,rfl,hcase,hb2⟩
 rw[hr] at hcase
 rcases hcase with ⟨qs,hq,rfl,hlq⟩ | ⟨hq,-⟩
 ·obtain rfl:[x,y]=qs:=by simpa using hq
  obtain⟨p2,c2,rfl,-⟩:=id hlq.form
  have HP2:=zf (HP1.out.below hb2)
  have HB2:=zf (HB1.out.trans (hb2.mono HB1.out.size))
  have HLQ:=zf hlq
  have HAR:=zf (tM _ zs w2 HP2.out hzl)
  rw[hre] at HAR
  clear hq hlq hb2 HP1 HB1 HRE hr hre
  go_wp2_with fail
  refine HAR.out.mono ?_
  rintro e w3 ⟨v3,rfl,hb3⟩
  have HP3:=zf (HP2.out.below hb3)
  have HB3:=zf (HB2.out.trans (hb3.mono HB2.out.size))
  have HLQ:=zf (HLQ.out.below hb3)
  clear hb3 HP2 HB2 HAR
  have hne:((zs.length:Int) == 0)=false:=by cases h2<;>simp
  go_upto_region 12 with fail
  clear hne
  obtain⟨b,o,rfl,hbl,xm,xp,xl,xc,xq,xk,xd,hx,c0,c1',c2'⟩:=HLQ.out.get (i:=0) (by simp)
  obtain⟨b',o',he,hbl',ym,yp,yl,yc,yq,yk,yd,hy,d0,d1,d2⟩:=HLQ.out.get (i:=1) (by simp)
  obtain⟨rfl,rfl⟩:b=b'∧o=o':=by simpa using he
  clear he hbl'
  simp only[zh,zi,AC,z6,Bp] at hx hy c0 c1' c2' d0 d1 d2
  have m4:Below w3.heap.size w3 w3.drew:=(Below.refl _ _).drew
  obtain⟨cm,hcm⟩:∃ z,z=fX x y:=⟨_,rfl⟩
  have hcmp:=kl _ _ _ _ _ (hx.v.below m4) (hy.v.below m4) (df x) (df y) (hx.s.fewR hy.s (by decide)).f1 (hx.s.fewR hy.s (by decide)).f2 (hx.s.fewR hy.s (by decide)).f3 (hx.s.fewR hy.s (by decide)).f4
  rw[mJ,←hcm] at hcmp
  rw[←hcm] at hxy
  have HC:=zf hcmp
  have hd:decide (0<cm)=false:=decide_eq_false (by omega)
  refine ak (fun w'=>∃ x:aA w3.heap.size w3.drew,w'=x.w) (fun i=>i == 6) (by kernel_rfl) (by kernel_rfl) ⟨⟨_,Below.refl _ _⟩,rfl⟩ ?_
  have g0:=fun x:aA w3.heap.size w3.drew=>aa (m4.trans x.h) hbl c0
  have g1:=fun x:aA w3.heap.size w3.drew=>aa (m4.trans x.h) hbl c1'
  have g2:=fun x:aA w3.heap.size w3.drew=>aa (m4.trans x.h) hbl c2'
  have g3:=fun x:aA w3.heap.size w3.drew=>aa (m4.trans x.h) hbl d0
  have g4:=fun x:aA w3.heap.size w3.drew=>aa (m4.trans x.h) hbl d1
  have g5:=fun x:aA w3.heap.size w3.drew=>aa (m4.trans x.h) hbl d2
  have HB4:=zf (HB3.out.trans (m4.mono HB3.out.size))
  have HP4:=zf (HP3.out.below m4)
  have HX:=zf (hx.below m4)
  have HY:=zf (hy.below m4)
  have hz:w3.heap.size≤w3.drew.heap.size:=m4.size
  have e0:=aa m4 hbl c0;have e1:=aa m4 hbl c1';have e2:=aa m4 hbl c2';have e3:=aa m4 hbl d0;have e4:=aa m4 hbl d1;have e5:=aa m4 hbl d2
  have HE:=zf (And.intro (zq hbl m4.size) (And.intro e0 (And.intro e1 (And.intro e2 (And.intro e3 (And.intro e4 e5))))))
  clear c0 c1' c2' d0 d1 d2 hx hy m4 hcmp hcm HLQ HB3 HP3 e0 e1 e2 e3 e4 e5 hxy
  generalize w3.drew=wd at *
  refine af 6 0 _ _ _ (by kernel_rfl) ?_
  simp only[zo,zu,zp,zt]
  repeat (go_big_quiet_step (fail))
  refine wpQuiet_nil ?_
  refine ag rfl rfl (fun K hK=>?_)
  go_simp
  refine HC.out.mono ?_
  rintro e w5 ⟨rfl,hb5⟩
  refine hK _ _ ⟨⟨_,(hb5).mono hz⟩,rfl⟩ ?_
  clear hK K
  try simp only[Act.put,zj,zi,zh,zg,zl,zm]
  refine af 2 7 _ _ _ (by kernel_rfl) ?_
  simp only[zo,zu,zp,zt]
  repeat (go_big_quiet_step (fail))
  refine wpQuiet_nil ?_
  refine aw ?_
  have HP5:=zf (HP4.out.below hb5)
  have HB5:=zf (HB4.out.trans (hb5.mono HB4.out.size))
  have HX:=zf (HX.out.below hb5)
  have HY:=zf (HY.out.below hb5)
  obtain⟨hbl,e0,e1,e2,e3,e4,e5⟩:=HE.out
  have HE:=zf (And.intro (zq hbl hb5.size) (And.intro (aa hb5 hbl e0) (And.intro (aa hb5 hbl e1) (And.intro (aa hb5 hbl e2) (And.intro (aa hb5 hbl e3) (And.intro (aa hb5 hbl e4) (aa hb5 hbl e5)))))))
  clear g0 g1 g2 g3 g4 g5 HC HB4 HP4 hb5 hbl e0 e1 e2 e3 e4 e5 hz
  have HDER:=zf (nP _ zs w5 HP5.out (fun z hz n hn=>by
   rw[←aW]
   exact ((hs z hz).times (nj (by omega))).mono (by decide)) (by cases h2<;>simp))
  go_wp2_with fail
  refine HDER.out.mono ?_
  rintro e w6 ⟨v6,rfl,hv6,hb6⟩
  have HP6:=zf (HP5.out.below hb6)
  go_wp2_with fail
  refine (wJ _ _ zs (sn zs) w6 HP6.out hv6 (h2.pair hs)).mono ?_
  rintro e w7 ⟨v7,rfl,hv7,hb7⟩
  have hB7:=hb6.trans (hb7.mono hb6.size)
  have HP7:=zf (HP5.out.below hB7)
  obtain⟨p7,c7,rfl,-⟩:=id hv7.form
  go_wp2_with fail
  refine (qf _ _ zs (CQ.real 1) w7 HP7.out hv7 CQ.one_ne (by cases h2<;>simp) (by cases h2<;>simp) hs (kV (by decide))).mono ?_
  rintro e w8 ⟨v8,v8',rfl,hv8,-,hb8⟩
  rw[vf,h2.lean] at hv8
  have hB8:=hB7.trans (hb8.mono hB7.size)
  have HB8:=zf (HB5.out.trans (hB8.mono HB5.out.size))
  have HV8:=zf hv8
  have HX:=zf (HX.out.below hB8)
  have HY:=zf (HY.out.below hB8)
  obtain⟨hbl,e0,e1,e2,e3,e4,e5⟩:=HE.out
  have e0:=aa hB8 hbl e0;have e1:=aa hB8 hbl e1;have e2:=aa hB8 hbl e2;have e3:=aa hB8 hbl e3;have e4:=aa hB8 hbl e4;have e5:=aa hB8 hbl e5
  have hbl:=zq hbl hB8.size
  clear HP5 HB5 HP6 HP7 hv6 hv7 hv8 hb6 hb7 hb8 hB7 hB8 HDER HE
  go_upto_region 15 with fail
  have m4:Below w8.heap.size w8 w8.drew:=(Below.refl _ _).drew
  refine ak (fun w'=>∃ x:aA w8.heap.size w8.drew,w'=x.w) (fun i=>i == 4||i == 9) (by kernel_rfl) (by kernel_rfl) ⟨⟨_,Below.refl _ _⟩,rfl⟩ ?_
  have g0:=fun x:aA w8.heap.size w8.drew=>aa (m4.trans x.h) hbl e0
  have g1:=fun x:aA w8.heap.size w8.drew=>aa (m4.trans x.h) hbl e1
  have g2:=fun x:aA w8.heap.size w8.drew=>aa (m4.trans x.h) hbl e2
  have g3:=fun x:aA w8.heap.size w8.drew=>aa (m4.trans x.h) hbl e3
  have g4:=fun x:aA w8.heap.size w8.drew=>aa (m4.trans x.h) hbl e4
  have g5:=fun x:aA w8.heap.size w8.drew=>aa (m4.trans x.h) hbl e5
  have HBF:=zf (HB8.out.trans (m4.mono HB8.out.size))
  have HVF:=zf (HV8.out.below m4)
  have HXF:=zf (HX.out.below m4)
  have HYF:=zf (HY.out.below m4)
  have hz:w8.heap.size≤w8.drew.heap.size:=m4.size
  have hr1:=gg h2 x
  have hr2:=gg h2 y
  obtain⟨n1,hn1⟩:∃ n,n=bX zs x:=⟨_,rfl⟩
  obtain⟨n2,hn2⟩:∃ n,n=bX zs y:=⟨_,rfl⟩
  rw[←hn1] at hr1
  rw[←hn2] at hr2
  have HN:=zf (And.intro hn1 hn2)
  clear e0 e1 e2 e3 e4 e5 m4 HB8 HV8 HX HY hn1 hn2
  generalize w8.drew=wd at *
  refine af 4 0 _ _ _ (by kernel_rfl) ?_
  simp only[zo,zu,zp,zt]
  repeat (go_big_quiet_step (fail))
  refine wpQuiet_nil ?_
  refine ag rfl rfl (fun K hK=>?_)
  go_simp
  refine (nE _ _ zs x wd HVF.out HXF.out.v hsx h2 hs).mono ?_
  rintro e w9 ⟨rfl,hb9⟩
  rw[←HN.out.1]
  refine hK _ _ ⟨⟨_,(hb9).mono hz⟩,rfl⟩ ?_
  clear hK K
  try simp only[Act.put,zj,zi,zh,zg,zl,zm]
  refine af 4 5 _ _ _ (by kernel_rfl) ?_
  simp only[zo,zu,zp,zt]
  repeat (go_big_quiet_step (fail))
  refine wpQuiet_nil ?_
  refine ag rfl rfl (fun K hK=>?_)
  go_simp
  refine (nE _ _ zs y w9 (HVF.out.below hb9) (HYF.out.below hb9).v hsy h2 hs).mono ?_
  rintro e w10 ⟨rfl,hb10⟩
  rw[←HN.out.2]
  have hB10:=hb9.trans (hb10.mono hb9.size)
  refine hK _ _ ⟨⟨_,(hB10).mono hz⟩,rfl⟩ ?_
  clear hK K
  try simp only[Act.put,zj,zi,zh,zg,zl,zm]
  refine af 3 10 _ _ _ (by kernel_rfl) ?_
  simp only[zo,zu,zp,zt]
  repeat (go_big_quiet_step (fail))
  refine wpQuiet_nil ?_
  refine aw ?_
  have HF:=zf (HBF.out.trans (hB10.mono HBF.out.size))
  clear g0 g1 g2 g3 g4 g5 hb9 hb10 hB10 HBF HVF HXF HYF
  go_wp2
  refine bodyPost_ret (v:=.tuple #[.int .i64 (n1-n2),.int .i64 0]) (by simp[results,Tryz.results203,go_sem]) rfl ⟨by rw[HN.out.1,HN.out.2],HF.out⟩
 ·cases hq
def bo (r:Bool) (a b:List ByteArray) (x y:ByteArray):Bool×Int:=if au a b=true then if bA x.data.toList=true then if bA y.data.toList=true then if 0<iA x y then (false,8) else (r,0) else (false,2) else (false,2) else (false,30)
theorem tB (r:Bool) (v:Value) (a b:List ByteArray) (x y:ByteArray) (w:World) (hF:IsF w v a b) (hG:Gx w)
  (hC:∀ u wx,IsF wx u a b→Gx wx→au a b=true→bA x.data.toList=true→bA y.data.toList=true→Calls Tryz.prog 139 #[u,.string x,.string y] wx fun e w'=>e=.returned (.bool r)∧Below wx.heap.size wx w') :
  Calls Tryz.prog 63 #[v,.string x,.string y] w fun e w'=>e=.returned (.tuple #[.bool (bo r a b x y).1,.int .i64 (bo r a b x y).2])∧Below w.heap.size w w':=by
 have HC:=zf hC
 clear hC
 obtain⟨p,c,q,d,rfl,hfa,hfb⟩:=id hF.ex
 go_enter Tryz.func63,Tryz.ntmps63
 go_upto_region 1 with fail
 have cc:=ar w (.slice p a.length c) (.slice q b.length d)
 have m1:=ae w (.cells #[.slice p a.length c,.slice q b.length d] 28)
 have zz:=size_alloc w (.cells #[.slice p a.length c,.slice q b.length d] 28)
 generalize w.alloc (.cells #[.slice p a.length c,.slice q b.length d] 28)=w1 at *
 have HCK:=zf (dD _ a b w1 (hF.below m1) (hG.below m1))
 have HA:=zf (hfa.below m1)
 have HB:=zf (hfb.below m1)
 have HG:=zf (hG.below m1)
 have c0:=cc.1
 have c1:=cc.2
 have hlt:w.heap.size<w1.heap.size:=by omega
 have M1:=zf m1
 clear hfa hfb cc zz m1 hF hG
 by_cases hck:au a b=true
 ·have HT:=zf (show bo r a b x y=if bA x.data.toList=true then if bA y.data.toList=true then if 0<iA x y then (false,8) else (r,0) else (false,2) else (false,2) by unfold bo;rw[if_pos hck])
  have HK:=zf hck
  have hce:av a b=0:=by unfold av;rw[if_pos hck]
  rw[hce] at HCK
  obtain⟨ob1,ob7,oa1,oa7,oac,obc,ohd⟩:=aG hck
  clear hce
  go_wp2_with fail
  refine HCK.out.mono ?_
  rintro e w2 ⟨rfl,hb2⟩
  have d0:=aa hb2 hlt c0
  have d1:=aa hb2 hlt c1
  have HA2:=zf (HA.out.below hb2)
  have HB2:=zf (HB.out.below hb2)
  have HG2:=zf (HG.out.below hb2)
  have M2:=zf (M1.out.trans (hb2.mono M1.out.size))
  have hlt2:w.heap.size<w2.heap.size:=zq hlt hb2.size
  clear c0 c1 HA HB HG HCK M1 hb2 hlt
  clear oac obc ohd ob1 ob7 oa1 oa7 hck
  go_wp2_with fail
  refine (nI x w2 HG2.out).mono ?_
  rintro e w3 ⟨bx,rfl,hbx,hb3⟩
  have M3:=zf (M2.out.trans (hb3.mono M2.out.size))
  cases bx
  ·have HE:=zf (show bo r a b x y=(false,2) by rw[HT.out,if_neg (by rw[hbx.out];decide)])
   clear hbx
   go_wp2
   refine bodyPost_ret (v:=.tuple #[.bool false,.int .i64 2]) (by simp[results,Tryz.results63,go_sem]) rfl ⟨by rw[HE.out],M3.out⟩
  ·have HX:=zf hbx.out
   have HT:=zf (show bo r a b x y=if bA y.data.toList=true then if 0<iA x y then (false,8) else (r,0) else (false,2) by rw[HT.out,if_pos hbx.out])
   have e0:=aa hb3 hlt2 d0
   have e1:=aa hb3 hlt2 d1
   have hlt3:w.heap.size<w3.heap.size:=zq hlt2 hb3.size
   have HA3:=zf (HA2.out.below hb3)
   have HB3:=zf (HB2.out.below hb3)
   have HG3:=zf (HG2.out.below hb3)
   clear d0 d1 hlt2 HA2 HB2 HG2 M2 hb3 hbx
   go_wp2_with fail
   refine (nI y w3 HG3.out).mono ?_
   rintro e w4 ⟨bz,rfl,hbz,hb4⟩
   have M4:=zf (M3.out.trans (hb4.mono M3.out.size))
   cases bz
   ·have HE:=zf (show bo r a b x y=(false,2) by rw[HT.out,if_neg (by rw[hbz.out];decide)])
    clear hbz
    go_wp2
    refine bodyPost_ret (v:=.tuple #[.bool false,.int .i64 2]) (by simp[results,Tryz.results63,go_sem]) rfl ⟨by rw[HE.out],M4.out⟩
   ·have HY:=zf hbz.out
    have HT:=zf (show bo r a b x y=if 0<iA x y then (false,8) else (r,0) by rw[HT.out,if_pos hbz.out])
    have d0:=aa hb4 hlt3 e0
    have d1:=aa hb4 hlt3 e1
    have hlt4:w.heap.size<w4.heap.size:=zq hlt3 hb4.size
    have HA4:=zf (HA3.out.below hb4)
    have HB4:=zf (HB3.out.below hb4)
    have HG4:=zf (HG3.out.below hb4)
    clear e0 e1 hlt3 HA3 HB3 HG3 M3 hb4 hbz
    have HCM:=zf (jZ x y w4 HG4.out.g)
    generalize iA x y=cm at HCM HT
    go_wp2_with fail
    refine HCM.out.mono ?_
    rintro e w5 ⟨rfl,hb5⟩
    have M5:=zf (M4.out.trans (hb5.mono M4.out.size))
    by_cases hcm:0<cm
    ·have hd:decide (0<cm)=true:=decide_eq_true hcm
     have HE:=zf (show bo r a b x y=(false,8) by rw[HT.out,if_pos hcm])
     clear hcm
     go_wp2
     refine bodyPost_ret (v:=.tuple #[.bool false,.int .i64 8]) (by simp[results,Tryz.results63,go_sem]) rfl ⟨by rw[HE.out],M5.out⟩
    ·have hd:decide (0<cm)=false:=decide_eq_false hcm
     have HE:=zf (show bo r a b x y=(r,0) by rw[HT.out,if_neg hcm])
     have e0:=aa hb5 hlt4 d0
     have e1:=aa hb5 hlt4 d1
     have HCC:=zf (HC.out _ w5 ⟨_,_,_,_,rfl,HA4.out.below hb5,HB4.out.below hb5⟩ (HG4.out.below hb5) HK.out HX.out HY.out)
     clear d0 d1 hcm hb5
     go_wp2_with fail
     refine HCC.out.mono ?_
     rintro e w6 ⟨rfl,hb6⟩
     go_wp2
     refine bodyPost_ret (v:=.tuple #[.bool r,.int .i64 0]) (by simp[results,Tryz.results63,go_sem]) rfl ⟨by rw[HE.out],M5.out.trans (hb6.mono M5.out.size)⟩
 ·have HE:=zf (show bo r a b x y=(false,30) by unfold bo;rw[if_neg hck])
  have hce:av a b=30:=by unfold av;rw[if_neg hck]
  rw[hce] at HCK
  clear hce
  go_wp2_with fail
  refine HCK.out.mono ?_
  rintro e w2 ⟨rfl,hb2⟩
  go_wp2
  refine bodyPost_ret (v:=.tuple #[.bool false,.int .i64 30]) (by simp[results,Tryz.results63,go_sem]) rfl ⟨by rw[HE.out],M1.out.trans (hb2.mono M1.out.size)⟩
theorem lD (v:Value) (a b:List ByteArray) (x y:ByteArray) (w:World) (hF:IsF w v a b) (hG:Gx w) (hck:au a b=true) (hno:bj a b x=false∨bj a b y=false) :
  Calls Tryz.prog 139 #[v,.string x,.string y] w fun e w'=>e=.returned (.bool false)∧Below w.heap.size w w':=by
 obtain⟨ob1,ob7,oa1,oa7,-,-,-⟩:=aG hck
 obtain⟨p,c,q,d,rfl,hfa,hfb⟩:=id hF.ex
 go_enter Tryz.func139,Tryz.ntmps139
 go_upto_region 1 with fail
 have cc:=ar w (.slice p a.length c) (.slice q b.length d)
 have m1:=ae w (.cells #[.slice p a.length c,.slice q b.length d] 28)
 have z1:=size_alloc w (.cells #[.slice p a.length c,.slice q b.length d] 28)
 generalize w.alloc (.cells #[.slice p a.length c,.slice q b.length d] 28)=w1 at *
 have H1:=zf (ig _ a b x w1 (hF.below m1) ob1 (by omega) (by omega) (hG.below m1).g)
 have H2:=zf (fun wx (h:Below w1.heap.size w1 wx)=>ig _ a b y wx ((hF.below m1).below h) ob1 (by omega) (by omega) ((hG.below m1).below h).g)
 have c0:=cc.1
 have c1:=cc.2
 have hlt:w.heap.size<w1.heap.size:=by omega
 have M1:=zf m1
 clear cc m1 z1 hF hG hfa hfb hck ob7 oa1 oa7 ob1
 cases hx:bj a b x with
 | false =>
  rw[hx] at H1
  clear hx hno
  go_wp2_with fail
  refine H1.out.mono ?_
  rintro e w2 ⟨rfl,hb2⟩
  go_wp2
  go_ret
  exact⟨rfl,M1.out.trans (hb2.mono M1.out.size)⟩
 | true =>
  have hy:bj a b y=false:=by
   rcases hno with h | h
   ·rw[hx] at h;cases h
   ·exact h
  rw[hx] at H1
  rw[hy] at H2
  clear hx hy hno
  go_wp2_with fail
  refine H1.out.mono ?_
  rintro e w2 ⟨rfl,hb2⟩
  have d0:=aa hb2 hlt c0
  have d1:=aa hb2 hlt c1
  clear c0 c1
  go_wp2_with fail
  refine (H2.out w2 hb2).mono ?_
  rintro e w3 ⟨rfl,hb3⟩
  go_wp2
  go_ret
  exact⟨rfl,M1.out.trans ((hb2.trans (hb3.mono hb2.size)).mono M1.out.size)⟩
theorem iG (w:World) (s:ByteArray):IsS (w.alloc (.cells #[.string s] 22)) (.slice (some ⟨w.heap.size,0,none⟩) 1 1) [s]:=(rG w w.heap.size s (zn _)).isS
theorem yU (v:Value) (a:Nat) (x y:Value) (w:World) (hc:w.cell? ⟨a,0,none⟩=some (.int .i64 0)) :
  Calls Tryz.prog 280 #[.int .i64 0,v,.pointer (some ⟨a,0,none⟩),x,y] w fun e w'=>∃ u,e=.returned u∧IsS w' u [⟨#[49]⟩]∧Below w.heap.size w w':=by
 have m1:=zf (ae w (.cells #[.string ⟨#[49]⟩] 22))
 have h1:=zf (iG w ⟨#[49]⟩)
 go_enter Tryz.func280,Tryz.ntmps280
 go_wp2
 refine bodyPost_ret (v:=.slice (some ⟨w.heap.size,0,none⟩) 1 1) (by simp[results,Tryz.results280,go_sem]) rfl ⟨_,rfl,h1.out,m1.out⟩
theorem detN (p:Option Addr) (c:Nat) (w:World) :
  Calls Tryz.prog 240 #[.slice p 0 c] w fun e w'=>∃ u,e=.returned u∧IsS w' u [⟨#[49]⟩]∧Below w.heap.size w w':=by
 have EN:=aV Tryz.func280 rfl (by kernel_rfl)
 have hmf:∀ (fn:Fn) (first cap:Array Value) (w:World),(Instr.makeFunc fn first cap).run Tryz.prog w=.ok (.func fn first cap) w:=fun _ _ _ _=>rfl
 go_enter Tryz.func240,Tryz.ntmps240
 go_upto_region 3 with fail
 have m1:=ae w (.cells #[.slice p 0 c] 236)
 have z1:=size_alloc w (.cells #[.slice p 0 c] 236)
 generalize w.alloc (.cells #[.slice p 0 c] 236)=w1 at *
 have m2:=ae w1 (.cells #[.int .i64 0] 3)
 have z2:=size_alloc w1 (.cells #[.int .i64 0] 3)
 have r2:=heap_alloc_new w1 (.cells #[.int .i64 0] 3 (0,0))
 generalize w1.alloc (.cells #[.int .i64 0] 3)=w2 at *
 have m3:=ae w2 (.cells #[.nilFunc] 268)
 have r3:=heap_alloc_new w2 (.cells #[.nilFunc] 268 (0,0))
 generalize w2.alloc (.cells #[.nilFunc] 268)=w3 at *
 have hM3:=(m1.trans (m2.mono m1.size)).trans (m3.mono (by omega))
 rw[z1] at r2
 rw[z2,z1] at r3
 have R2:=(m3.block (w.heap.size+1) (by omega)).trans r2
 obtain⟨k3,f3⟩:=cj r3
 obtain⟨k2,f2⟩:=cj R2
 have HM:=zf (hM3.setCell (p:=⟨w.heap.size+1+1,0,none⟩) (by show w.heap.size≤w.heap.size+1+1;omega) (.func (.func 280) #[] #[.pointer (some ⟨w.heap.size+1,0,none⟩),.pointer (some ⟨w.heap.size,0,none⟩),.pointer (some ⟨w.heap.size+1+1,0,none⟩)]))
 have q2:=(World.cell?_setCell_other (w:=w3) (a:=⟨w.heap.size+1+1,0,none⟩) (b:=⟨w.heap.size+1,0,none⟩) (v:=.func (.func 280) #[] #[.pointer (some ⟨w.heap.size+1,0,none⟩),.pointer (some ⟨w.heap.size,0,none⟩),.pointer (some ⟨w.heap.size+1+1,0,none⟩)]) (fun e=>by have:=congrArg Addr.block e;simp at this)).trans k2
 have q3:=World.cell?_setCell_same (w:=w3) (a:=⟨w.heap.size+1+1,0,none⟩) (v:=.func (.func 280) #[] #[.pointer (some ⟨w.heap.size+1,0,none⟩),.pointer (some ⟨w.heap.size,0,none⟩),.pointer (some ⟨w.heap.size+1+1,0,none⟩)]) k3
 clear m1 z1 m2 z2 r2 m3 r3 hM3 R2
 go_upto_region 4 with fail
 clear k2 k3 f2 f3
 generalize w3.setCell ⟨w.heap.size+1+1,0,none⟩ (.func (.func 280) #[] #[.pointer (some ⟨w.heap.size+1,0,none⟩),.pointer (some ⟨w.heap.size,0,none⟩),.pointer (some ⟨w.heap.size+1+1,0,none⟩)])=w4 at *
 go_wp2_with fail
 go_loopw [5,11] (fun s5 s11 wr=>s5=.slice none 0 0∧s11=.int .i64 0∧wr=w4) (fun _ _ _=>0)
 case atStart=>exact⟨rfl,rfl,rfl⟩
 case round =>
  obtain⟨rfl,rfl,rfl⟩:=hrel
  go_wp2_with fail
  refine (yU _ _ _ _ wr q2).mono ?_
  rintro e w5 ⟨u,rfl,hu,hb5⟩
  go_wp2
  go_ret
  exact⟨_,rfl,hu,HM.out.trans (hb5.mono HM.out.size)⟩
end Go.Proofs.YtdlioncecgnloaaGreatDoor
