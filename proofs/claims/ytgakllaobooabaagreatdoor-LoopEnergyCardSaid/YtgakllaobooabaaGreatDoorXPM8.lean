/- L -/
import Derived.Laws.EntriesVeiled
import Derived.Test.YtgakllaobooabaaGreatDoorXLE2
import Derived.Test.YtgakllaobooabaaGreatDoorXPM5
import Derived.Test.YtgakllaobooabaaGreatDoorXB
set_option linter.all false
set_option maxRecDepth 100000
set_option maxHeartbeats 8000000
namespace Go.Proofs.YtgakllaobooabaaGreatDoor
open Go.RowKit Dg
theorem gX {s:Int}{p:Int×Int}{k:Int} (h0:0<=p.1) (h1:p.1<=k):0<=(gr s p).1/\(gr s p).1<=k+1:=by
 unfold gr
 split
 ·exact⟨h0,by omega⟩
 ·split<;>exact⟨by simp only;omega,by simp only;omega⟩
theorem gG {zs:List CQ} (h:dB zs) (x:Rat):0<=ce zs x/\ce zs x<=2:=by
 cases h with
 | one c h =>
  have:=gX (s:=iG x [c]) (p:=(0,0)) (k:=0) (by decide) (by decide)
  show 0<=(gr (iG x [c]) (0,0)).1/\(gr (iG x [c]) (0,0)).1<=2
  omega
 | two a c h =>
  have h1:=gX (s:=iG x [a,c]) (p:=(0,0)) (k:=0) (by decide) (by decide);have h2:=gX (s:=iG x [c]) (p:=gr (iG x [a,c]) (0,0)) (k:=1) h1.1 (by omega);exact⟨h2.1,h2.2⟩
theorem y9 (v:Value) (lo hi:ByteArray) (l:List ByteArray) (zs:List CQ) (x y:Rat) (w:World) (hl:IsS w v l) (hG:Gw w) (hpz:cj l=.ok zs) (h2:dB zs) (hs:SzL 300 zs) (hre:gV zs=true)
  (hr:dj [lo,hi]=.ok [x,y]) (hsx:Sz 2000 (rt x)) (hsy:Sz 2000 (rt y)) (hxy:gy x y<=0) :
  Calls Tryz.prog 90 #[v,.string lo,.string hi] w fun e w'=>e=.returned (.tuple #[.int .i64 (ce zs x-ce zs y),.int .i64 0])/\Below w.heap.size w w':=by
 obtain⟨p,c,rfl,-⟩:=id hl.form;have HPO:=At (kx _ l w hl hG);have hzl:zs.length<1000000:=by cases h2<;>simp
 go_enter Tryz.func90,Tryz.ntmps90;go_wp2_with fail
 refine HPO.out.mono ?_;rintro e w1 ⟨v1,x1,rfl,hres,hb1⟩;rw[hpz] at hres;obtain⟨rfl,hp1⟩:=hres;obtain⟨p1,c1,rfl,-⟩:=id hp1.form;have m2:=ac w1 (.cells #[.string lo,.string hi] 25);have HRE:=At (wL _ [lo,hi] _ (IsS.two w1 lo hi) (by simp) ((hG.below hb1).below m2));have HP1:=At (hp1.below m2);have HB1:=At (hb1.trans (m2.mono hb1.size));clear hp1 hb1 m2 hl HPO hpz;go_wp2_with fail
 refine HRE.out.mono ?_;rintro e w2 ⟨v2,err,rfl,hcase,hb2⟩;rw[hr] at hcase;rcases hcase with ⟨qs,hq,rfl,hlq⟩ | ⟨hq,-⟩
 ·obtain rfl:[x,y]=qs:=by simpa using hq
  obtain⟨p2,c2,rfl,-⟩:=id hlq.form;have HP2:=At (HP1.out.below hb2);have HB2:=At (HB1.out.trans (hb2.mono HB1.out.size));have HLQ:=At hlq;have HAR:=At (uL _ zs w2 HP2.out hzl);rw[hre] at HAR;clear hq hlq hb2 HP1 HB1 HRE hr hre;go_wp2_with fail
  refine HAR.out.mono ?_;rintro e w3 ⟨v3,rfl,hb3⟩;have HP3:=At (HP2.out.below hb3);have HB3:=At (HB2.out.trans (hb3.mono HB2.out.size));have HLQ:=At (HLQ.out.below hb3);clear hb3 HP2 HB2 HAR;have hne:((zs.length:Int) == 0)=false:=by cases h2<;>simp
  go_upto_region 12 with fail
  clear hne;obtain⟨b,o,rfl,hbl,xm,xp,xl,xc,xq,xk,xd,hx,c0,c1',c2'⟩:=HLQ.out.get (i:=0) (by simp);obtain⟨b',o',he,hbl',ym,yp,yl,yc,yq,yk,yd,hy,d0,d1,d2⟩:=HLQ.out.get (i:=1) (by simp);obtain⟨rfl,rfl⟩:b=b'/\o=o':=by simpa using he
  clear he hbl';simp only[Av,Aw,BR,Bb,BV] at hx hy c0 c1' c2' d0 d1 d2;have m4:Below w3.heap.size w3 w3.drew:=(Dv _ _).drew;obtain⟨cm,hcm⟩:∃ z,z=gy x y:=⟨_,rfl⟩;have hcmp:=kN _ _ _ _ _ (hx.v.below m4) (hy.v.below m4) (dl x) (dl y) (hx.s.fewR hy.s (by decide)).f1 (hx.s.fewR hy.s (by decide)).f2 (hx.s.fewR hy.s (by decide)).f3 (hx.s.fewR hy.s (by decide)).f4;rw[nj,<-hcm] at hcmp;rw[<-hcm] at hxy;have HC:=At hcmp;have hd:decide (0<cm)=false:=decide_eq_false (by omega);refine ai (fun w'=>∃ x:ax w3.heap.size w3.drew,w'=x.w) (fun i=>i == 6) (by kernel_rfl) (by kernel_rfl) ⟨⟨_,Dv _ _⟩,rfl⟩ ?_;have g0:=fun x:ax w3.heap.size w3.drew=>aa (m4.trans x.h) hbl c0;have g1:=fun x:ax w3.heap.size w3.drew=>aa (m4.trans x.h) hbl c1';have g2:=fun x:ax w3.heap.size w3.drew=>aa (m4.trans x.h) hbl c2';have g3:=fun x:ax w3.heap.size w3.drew=>aa (m4.trans x.h) hbl d0;have g4:=fun x:ax w3.heap.size w3.drew=>aa (m4.trans x.h) hbl d1;have g5:=fun x:ax w3.heap.size w3.drew=>aa (m4.trans x.h) hbl d2;have HB4:=At (HB3.out.trans (m4.mono HB3.out.size));have HP4:=At (HP3.out.below m4);have HX:=At (hx.below m4);have HY:=At (hy.below m4);have hz:w3.heap.size<=w3.drew.heap.size:=m4.size;have e0:=aa m4 hbl c0;have e1:=aa m4 hbl c1';have e2:=aa m4 hbl c2';have e3:=aa m4 hbl d0;have e4:=aa m4 hbl d1;have e5:=aa m4 hbl d2
  have HE:=At (And.intro (AD hbl m4.size) (And.intro e0 (And.intro e1 (And.intro e2 (And.intro e3 (And.intro e4 e5))))));clear c0 c1' c2' d0 d1 d2 hx hy m4 hcmp hcm HLQ HB3 HP3 e0 e1 e2 e3 e4 e5 hxy;generalize w3.drew=wd at *
  refine ae 6 0 _ _ _ (by kernel_rfl) ?_;simp only[AC,AG,AB,AF];repeat (go_big_quiet_step (fail))
  refine wpQuiet_nil ?_;refine af rfl rfl (fun K hK=>?_);go_simp;refine HC.out.mono ?_;rintro e w5 ⟨rfl,hb5⟩;refine hK _ _ ⟨⟨_,hb5.mono hz⟩,rfl⟩ ?_;clear hK K;try simp only[Act.put,Ax,Aw,Av,Au,Ay,Az]
  refine ae 2 7 _ _ _ (by kernel_rfl) ?_;simp only[AC,AG,AB,AF];repeat (go_big_quiet_step (fail))
  refine wpQuiet_nil ?_;refine av ?_;have HP5:=At (HP4.out.below hb5);have HB5:=At (HB4.out.trans (hb5.mono HB4.out.size));have HX:=At (HX.out.below hb5);have HY:=At (HY.out.below hb5);obtain⟨hbl,e0,e1,e2,e3,e4,e5⟩:=HE.out;have HE:=At (And.intro (AD hbl hb5.size) (And.intro (aa hb5 hbl e0) (And.intro (aa hb5 hbl e1) (And.intro (aa hb5 hbl e2) (And.intro (aa hb5 hbl e3) (And.intro (aa hb5 hbl e4) (aa hb5 hbl e5)))))));clear g0 g1 g2 g3 g4 g5 HC HB4 HP4 hb5 hbl e0 e1 e2 e3 e4 e5 hz
  have HDER:=At (oD _ zs w5 HP5.out (fun z hz n hn=>by
   rw[<-a6]
   exact ((hs z hz).times (nS (by omega))).mono (by decide)) (by cases h2<;>simp))
  go_wp2_with fail
  refine HDER.out.mono ?_;rintro e w6 ⟨v6,rfl,hv6,hb6⟩;have HP6:=At (HP5.out.below hb6);go_wp2_with fail
  refine (xT _ _ zs (s_ zs) w6 HP6.out hv6 (h2.pair hs)).mono ?_;rintro e w7 ⟨v7,rfl,hv7,hb7⟩;have hB7:=hb6.trans (hb7.mono hb6.size);have HP7:=At (HP5.out.below hB7);obtain⟨p7,c7,rfl,-⟩:=id hv7.form;go_wp2_with fail
  refine (qR _ _ zs (CQ.real 1) w7 HP7.out hv7 CQ.one_ne (by cases h2<;>simp) (by cases h2<;>simp) hs (lA (by decide))).mono ?_;rintro e w8 ⟨v8,v8',rfl,hv8,-,hb8⟩;rw[wF,h2.lean] at hv8;have hB8:=hB7.trans (hb8.mono hB7.size);have HB8:=At (HB5.out.trans (hB8.mono HB5.out.size));have HV8:=At hv8;have HX:=At (HX.out.below hB8);have HY:=At (HY.out.below hB8);obtain⟨hbl,e0,e1,e2,e3,e4,e5⟩:=HE.out;have e0:=aa hB8 hbl e0;have e1:=aa hB8 hbl e1;have e2:=aa hB8 hbl e2;have e3:=aa hB8 hbl e3;have e4:=aa hB8 hbl e4;have e5:=aa hB8 hbl e5;have hbl:=AD hbl hB8.size;clear HP5 HB5 HP6 HP7 hv6 hv7 hv8 hb6 hb7 hb8 hB7 hB8 HDER HE;go_upto_region 15 with fail
  have m4:Below w8.heap.size w8 w8.drew:=(Dv _ _).drew;refine ai (fun w'=>∃ x:ax w8.heap.size w8.drew,w'=x.w) (fun i=>i == 4||i == 9) (by kernel_rfl) (by kernel_rfl) ⟨⟨_,Dv _ _⟩,rfl⟩ ?_;have g0:=fun x:ax w8.heap.size w8.drew=>aa (m4.trans x.h) hbl e0;have g1:=fun x:ax w8.heap.size w8.drew=>aa (m4.trans x.h) hbl e1;have g2:=fun x:ax w8.heap.size w8.drew=>aa (m4.trans x.h) hbl e2;have g3:=fun x:ax w8.heap.size w8.drew=>aa (m4.trans x.h) hbl e3;have g4:=fun x:ax w8.heap.size w8.drew=>aa (m4.trans x.h) hbl e4;have g5:=fun x:ax w8.heap.size w8.drew=>aa (m4.trans x.h) hbl e5;have HBF:=At (HB8.out.trans (m4.mono HB8.out.size));have HVF:=At (HV8.out.below m4);have HXF:=At (HX.out.below m4);have HYF:=At (HY.out.below m4);have hz:w8.heap.size<=w8.drew.heap.size:=m4.size;have hr1:=gG h2 x;have hr2:=gG h2 y;obtain⟨n1,hn1⟩:∃ n,n=ce zs x:=⟨_,rfl⟩;obtain⟨n2,hn2⟩:∃ n,n=ce zs y:=⟨_,rfl⟩;rw[<-hn1] at hr1;rw[<-hn2] at hr2;have HN:=At (And.intro hn1 hn2);clear e0 e1 e2 e3 e4 e5 m4 HB8 HV8 HX HY hn1 hn2;generalize w8.drew=wd at *
  refine ae 4 0 _ _ _ (by kernel_rfl) ?_;simp only[AC,AG,AB,AF];repeat (go_big_quiet_step (fail))
  refine wpQuiet_nil ?_;refine af rfl rfl (fun K hK=>?_);go_simp;refine (og _ _ zs x wd HVF.out HXF.out.v hsx h2 hs).mono ?_;rintro e w9 ⟨rfl,hb9⟩;rw[<-HN.out.1];refine hK _ _ ⟨⟨_,hb9.mono hz⟩,rfl⟩ ?_;clear hK K;try simp only[Act.put,Ax,Aw,Av,Au,Ay,Az]
  refine ae 4 5 _ _ _ (by kernel_rfl) ?_;simp only[AC,AG,AB,AF];repeat (go_big_quiet_step (fail))
  refine wpQuiet_nil ?_;refine af rfl rfl (fun K hK=>?_);go_simp;refine (og _ _ zs y w9 (HVF.out.below hb9) (HYF.out.below hb9).v hsy h2 hs).mono ?_;rintro e w10 ⟨rfl,hb10⟩;rw[<-HN.out.2];have hB10:=hb9.trans (hb10.mono hb9.size);refine hK _ _ ⟨⟨_,hB10.mono hz⟩,rfl⟩ ?_;clear hK K;try simp only[Act.put,Ax,Aw,Av,Au,Ay,Az]
  refine ae 3 10 _ _ _ (by kernel_rfl) ?_;simp only[AC,AG,AB,AF];repeat (go_big_quiet_step (fail))
  refine wpQuiet_nil ?_;refine av ?_;have HF:=At (HBF.out.trans (hB10.mono HBF.out.size));clear g0 g1 g2 g3 g4 g5 hb9 hb10 hB10 HBF HVF HXF HYF;go_wp2;refine Du (v:=.tuple #[.int .i64 (n1-n2),.int .i64 0]) (by simp[results,Tryz.results90,go_sem]) rfl ⟨by rw[HN.out.1,HN.out.2],HF.out⟩
 ·cases hq
def bv (r:Bool) (a b:List ByteArray) (x y:ByteArray):Bool×Int:=if aq a b=true then if bN x.data.toList=true then if bN y.data.toList=true then if 0<jb x y then (false,8) else (r,0) else (false,2) else (false,2) else (false,30)
theorem uv (r:Bool) (v:Value) (a b:List ByteArray) (x y:ByteArray) (w:World) (hF:IsF w v a b) (hG:Gx w)
  (hC:∀ u wx,IsF wx u a b->Gx wx->aq a b=true->bN x.data.toList=true->bN y.data.toList=true->Calls Tryz.prog 53 #[u,.string x,.string y] wx fun e w'=>e=.returned (.bool r)/\Below wx.heap.size wx w') :
  Calls Tryz.prog 26 #[v,.string x,.string y] w fun e w'=>e=.returned (.tuple #[.bool (bv r a b x y).1,.int .i64 (bv r a b x y).2])/\Below w.heap.size w w':=by
 have HC:=At hC;clear hC;obtain⟨p,c,q,d,rfl,hfa,hfb⟩:=id hF.ex;go_enter Tryz.func26,Tryz.ntmps26;go_upto_region 1 with fail
 have cc:=ar w (.slice p a.length c) (.slice q b.length d);have m1:=ac w (.cells #[.slice p a.length c,.slice q b.length d] 24);have zz:=size_alloc w (.cells #[.slice p a.length c,.slice q b.length d] 24);generalize w.alloc (.cells #[.slice p a.length c,.slice q b.length d] 24)=w1 at *
 have HCK:=At (dC _ a b w1 (hF.below m1) (hG.below m1));have HA:=At (hfa.below m1);have HB:=At (hfb.below m1);have HG:=At (hG.below m1);have c0:=cc.1;have c1:=cc.2;have hlt:w.heap.size<w1.heap.size:=by omega
 have M1:=At m1;clear hfa hfb cc zz m1 hF hG;by_cases hck:aq a b=true
 ·have HT:=At (show bv r a b x y=if bN x.data.toList=true then if bN y.data.toList=true then if 0<jb x y then (false,8) else (r,0) else (false,2) else (false,2) by unfold bv;rw[if_pos hck]);have HK:=At hck;have hce:au a b=0:=by unfold au;rw[if_pos hck]
  rw[hce] at HCK;obtain⟨ob1,ob7,oa1,oa7,oac,obc,ohd⟩:=aN hck;clear hce;go_wp2_with fail
  refine HCK.out.mono ?_;rintro e w2 ⟨rfl,hb2⟩;have d0:=aa hb2 hlt c0;have d1:=aa hb2 hlt c1;have HA2:=At (HA.out.below hb2);have HB2:=At (HB.out.below hb2);have HG2:=At (HG.out.below hb2);have M2:=At (M1.out.trans (hb2.mono M1.out.size));have hlt2:w.heap.size<w2.heap.size:=AD hlt hb2.size;clear c0 c1 HA HB HG HCK M1 hb2 hlt;clear oac obc ohd ob1 ob7 oa1 oa7 hck;go_wp2_with fail
  refine (ot x w2 HG2.out).mono ?_;rintro e w3 ⟨bx,rfl,hbx,hb3⟩;have M3:=At (M2.out.trans (hb3.mono M2.out.size))
  cases bx
  ·have HE:=At (show bv r a b x y=(false,2) by rw[HT.out,if_neg (by rw[hbx.out];decide)]);clear hbx;go_wp2;refine Du (v:=.tuple #[.bool false,.int .i64 2]) (by simp[results,Tryz.results26,go_sem]) rfl ⟨by rw[HE.out],M3.out⟩
  ·have HX:=At hbx.out;have HT:=At (show bv r a b x y=if bN y.data.toList=true then if 0<jb x y then (false,8) else (r,0) else (false,2) by rw[HT.out,if_pos hbx.out]);have e0:=aa hb3 hlt2 d0;have e1:=aa hb3 hlt2 d1;have hlt3:w.heap.size<w3.heap.size:=AD hlt2 hb3.size;have HA3:=At (HA2.out.below hb3);have HB3:=At (HB2.out.below hb3);have HG3:=At (HG2.out.below hb3);clear d0 d1 hlt2 HA2 HB2 HG2 M2 hb3 hbx;go_wp2_with fail
   refine (ot y w3 HG3.out).mono ?_;rintro e w4 ⟨bz,rfl,hbz,hb4⟩;have M4:=At (M3.out.trans (hb4.mono M3.out.size))
   cases bz
   ·have HE:=At (show bv r a b x y=(false,2) by rw[HT.out,if_neg (by rw[hbz.out];decide)]);clear hbz;go_wp2;refine Du (v:=.tuple #[.bool false,.int .i64 2]) (by simp[results,Tryz.results26,go_sem]) rfl ⟨by rw[HE.out],M4.out⟩
   ·have HY:=At hbz.out;have HT:=At (show bv r a b x y=if 0<jb x y then (false,8) else (r,0) by rw[HT.out,if_pos hbz.out]);have d0:=aa hb4 hlt3 e0;have d1:=aa hb4 hlt3 e1;have hlt4:w.heap.size<w4.heap.size:=AD hlt3 hb4.size;have HA4:=At (HA3.out.below hb4);have HB4:=At (HB3.out.below hb4);have HG4:=At (HG3.out.below hb4);clear e0 e1 hlt3 HA3 HB3 HG3 M3 hb4 hbz;have HCM:=At (kv x y w4 HG4.out.g);generalize jb x y=cm at HCM HT;go_wp2_with fail
    refine HCM.out.mono ?_;rintro e w5 ⟨rfl,hb5⟩;have M5:=At (M4.out.trans (hb5.mono M4.out.size));by_cases hcm:0<cm
    ·have hd:decide (0<cm)=true:=decide_eq_true hcm;have HE:=At (show bv r a b x y=(false,8) by rw[HT.out,if_pos hcm]);clear hcm;go_wp2;refine Du (v:=.tuple #[.bool false,.int .i64 8]) (by simp[results,Tryz.results26,go_sem]) rfl ⟨by rw[HE.out],M5.out⟩
    ·have hd:decide (0<cm)=false:=decide_eq_false hcm;have HE:=At (show bv r a b x y=(r,0) by rw[HT.out,if_neg hcm]);have e0:=aa hb5 hlt4 d0;have e1:=aa hb5 hlt4 d1;have HCC:=At (HC.out _ w5 ⟨_,_,_,_,rfl,HA4.out.below hb5,HB4.out.below hb5⟩ (HG4.out.below hb5) HK.out HX.out HY.out);clear d0 d1 hcm hb5;go_wp2_with fail
     refine HCC.out.mono ?_;rintro e w6 ⟨rfl,hb6⟩;go_wp2;refine Du (v:=.tuple #[.bool r,.int .i64 0]) (by simp[results,Tryz.results26,go_sem]) rfl ⟨by rw[HE.out],M5.out.trans (hb6.mono M5.out.size)⟩
 ·have HE:=At (show bv r a b x y=(false,30) by unfold bv;rw[if_neg hck]);have hce:au a b=30:=by unfold au;rw[if_neg hck]
  rw[hce] at HCK;clear hce;go_wp2_with fail
  refine HCK.out.mono ?_;rintro e w2 ⟨rfl,hb2⟩;go_wp2;refine Du (v:=.tuple #[.bool false,.int .i64 30]) (by simp[results,Tryz.results26,go_sem]) rfl ⟨by rw[HE.out],M1.out.trans (hb2.mono M1.out.size)⟩
theorem l5 (v:Value) (a b:List ByteArray) (x y:ByteArray) (w:World) (hF:IsF w v a b) (hG:Gx w) (hck:aq a b=true) (hno:bo a b x=false\/bo a b y=false) :
  Calls Tryz.prog 53 #[v,.string x,.string y] w fun e w'=>e=.returned (.bool false)/\Below w.heap.size w w':=by
 obtain⟨ob1,ob7,oa1,oa7,-,-,-⟩:=aN hck;obtain⟨p,c,q,d,rfl,hfa,hfb⟩:=id hF.ex;go_enter Tryz.func53,Tryz.ntmps53;go_upto_region 1 with fail
 have cc:=ar w (.slice p a.length c) (.slice q b.length d);have m1:=ac w (.cells #[.slice p a.length c,.slice q b.length d] 24);have z1:=size_alloc w (.cells #[.slice p a.length c,.slice q b.length d] 24);generalize w.alloc (.cells #[.slice p a.length c,.slice q b.length d] 24)=w1 at *
 have H1:=At (iN _ a b x w1 (hF.below m1) ob1 (by omega) (by omega) (hG.below m1).g);have H2:=At (fun wx (h:Below w1.heap.size w1 wx)=>iN _ a b y wx ((hF.below m1).below h) ob1 (by omega) (by omega) ((hG.below m1).below h).g);have c0:=cc.1;have c1:=cc.2;have hlt:w.heap.size<w1.heap.size:=by omega
 have M1:=At m1;clear cc m1 z1 hF hG hfa hfb hck ob7 oa1 oa7 ob1
 cases hx:bo a b x with
 | false =>
  rw[hx] at H1;clear hx hno;go_wp2_with fail
  refine H1.out.mono ?_;rintro e w2 ⟨rfl,hb2⟩;go_wp2;go_ret;exact⟨rfl,M1.out.trans (hb2.mono M1.out.size)⟩
 | true =>
  have hy:bo a b y=false:=by
   rcases hno with h | h
   ·rw[hx] at h;cases h
   ·exact h
  rw[hx] at H1;rw[hy] at H2;clear hx hy hno;go_wp2_with fail
  refine H1.out.mono ?_;rintro e w2 ⟨rfl,hb2⟩;have d0:=aa hb2 hlt c0;have d1:=aa hb2 hlt c1;clear c0 c1;go_wp2_with fail
  refine (H2.out w2 hb2).mono ?_;rintro e w3 ⟨rfl,hb3⟩;go_wp2;go_ret;exact⟨rfl,M1.out.trans ((hb2.trans (hb3.mono hb2.size)).mono M1.out.size)⟩
theorem ku (w:World) (s:ByteArray):IsS (w.alloc (.cells #[.string s] 25)) (.slice (some ⟨w.heap.size,0,none⟩) 1 1) [s]:=(sw w w.heap.size s (AA _)).isS
theorem z8 (v:Value) (a:Nat) (x y:Value) (w:World) (hc:w.cell? ⟨a,0,none⟩=some (.int .i64 0)) :
  Calls Tryz.prog 146 #[.int .i64 0,v,.pointer (some ⟨a,0,none⟩),x,y] w fun e w'=>∃ u,e=.returned u/\IsS w' u [⟨#[49]⟩]/\Below w.heap.size w w':=by
 have m1:=At (ac w (.cells #[.string ⟨#[49]⟩] 25));have h1:=At (ku w ⟨#[49]⟩);go_enter Tryz.func146,Tryz.ntmps146;go_wp2;refine Du (v:=.slice (some ⟨w.heap.size,0,none⟩) 1 1) (by simp[results,Tryz.results146,go_sem]) rfl ⟨_,rfl,h1.out,m1.out⟩
theorem detN (p:Option Addr) (c:Nat) (w:World) :
  Calls Tryz.prog 122 #[.slice p 0 c] w fun e w'=>∃ u,e=.returned u/\IsS w' u [⟨#[49]⟩]/\Below w.heap.size w w':=by
 have EN:=aZ Tryz.func146 rfl (by kernel_rfl);have hmf:∀ (fn:Fn) (first cap:Array Value) (w:World),(Instr.makeFunc fn first cap).run Tryz.prog w=.ok (.func fn first cap) w:=fun _ _ _ _=>rfl;go_enter Tryz.func122,Tryz.ntmps122;go_upto_region 3 with fail
 have m1:=ac w (.cells #[.slice p 0 c] 151);have z1:=size_alloc w (.cells #[.slice p 0 c] 151);generalize w.alloc (.cells #[.slice p 0 c] 151)=w1 at *
 have m2:=ac w1 (.cells #[.int .i64 0] 3);have z2:=size_alloc w1 (.cells #[.int .i64 0] 3);have r2:=heap_alloc_new w1 (.cells #[.int .i64 0] 3 (0,0));generalize w1.alloc (.cells #[.int .i64 0] 3)=w2 at *
 have m3:=ac w2 (.cells #[.nilFunc] 167);have r3:=heap_alloc_new w2 (.cells #[.nilFunc] 167 (0,0));generalize w2.alloc (.cells #[.nilFunc] 167)=w3 at *
 have hM3:=(m1.trans (m2.mono m1.size)).trans (m3.mono (by omega));rw[z1] at r2;rw[z2,z1] at r3;have R2:=(m3.block (w.heap.size+1) (by omega)).trans r2;obtain⟨k3,f3⟩:=cE r3;obtain⟨k2,f2⟩:=cE R2;have HM:=At (hM3.setCell (p:=⟨w.heap.size+1+1,0,none⟩) (by show w.heap.size<=w.heap.size+1+1;omega) (.func (.func 146) #[] #[.pointer (some ⟨w.heap.size+1,0,none⟩),.pointer (some ⟨w.heap.size,0,none⟩),.pointer (some ⟨w.heap.size+1+1,0,none⟩)]));have q2:=(World.cell?_setCell_other (w:=w3) (a:=⟨w.heap.size+1+1,0,none⟩) (b:=⟨w.heap.size+1,0,none⟩) (v:=.func (.func 146) #[] #[.pointer (some ⟨w.heap.size+1,0,none⟩),.pointer (some ⟨w.heap.size,0,none⟩),.pointer (some ⟨w.heap.size+1+1,0,none⟩)]) (fun e=>by have:=congrArg Addr.block e;simp at this)).trans k2;have q3:=World.cell?_setCell_same (w:=w3) (a:=⟨w.heap.size+1+1,0,none⟩) (v:=.func (.func 146) #[] #[.pointer (some ⟨w.heap.size+1,0,none⟩),.pointer (some ⟨w.heap.size,0,none⟩),.pointer (some ⟨w.heap.size+1+1,0,none⟩)]) k3;clear m1 z1 m2 z2 r2 m3 r3 hM3 R2;go_upto_region 4 with fail
 clear k2 k3 f2 f3;generalize w3.setCell ⟨w.heap.size+1+1,0,none⟩ (.func (.func 146) #[] #[.pointer (some ⟨w.heap.size+1,0,none⟩),.pointer (some ⟨w.heap.size,0,none⟩),.pointer (some ⟨w.heap.size+1+1,0,none⟩)])=w4 at *
 go_wp2_with fail
 go_loopw [5,11] (fun s5 s11 wr=>s5=.slice none 0 0/\s11=.int .i64 0/\wr=w4) (fun _ _ _=>0)
 case atStart=>exact⟨rfl,rfl,rfl⟩
 case round =>
  obtain⟨rfl,rfl,rfl⟩:=hrel;go_wp2_with fail
  refine (z8 _ _ _ _ wr q2).mono ?_;rintro e w5 ⟨u,rfl,hu,hb5⟩;go_wp2;go_ret;exact⟨_,rfl,hu,HM.out.trans (hb5.mono HM.out.size)⟩
end Go.Proofs.YtgakllaobooabaaGreatDoor
