/- Lemmas of this claim. -/
import Derived.Laws.EntriesVeiled
import Derived.Sort.CutIn
import Derived.Test.YtbnkpcfjechfiaaGreatDoorQLD1
import Derived.Test.YtbnkpcfjechfiaaGreatDoorQPM5
set_option linter.all false
set_option maxRecDepth 100000
set_option maxHeartbeats 8000000
namespace Go.Proofs.YtbnkpcfjechfiaaGreatDoor
open Go.RowKit Dg
theorem ju {s:Int}{p:Int×Int}{k:Int} (h0:0≤p.1) (h1:p.1≤k):0≤(iQ s p).1∧(iQ s p).1≤k+1:=by
 unfold iQ
 split
 ·exact⟨h0,by omega⟩
 ·split<;>exact⟨by simp only;omega,by simp only;omega⟩
theorem ja {zs:List CQ} (h:eT zs) (x:Rat):0≤dw zs x∧dw zs x≤2:=by
 cases h with
 | one c h =>
  have:=ju (s:=j5 x [c]) (p:=(0,0)) (k:=0) (by decide) (by decide)
  show 0≤(iQ (j5 x [c]) (0,0)).1∧(iQ (j5 x [c]) (0,0)).1≤2
  omega
 | two a c h =>
  have h1:=ju (s:=j5 x [a,c]) (p:=(0,0)) (k:=0) (by decide) (by decide);have h2:=ju (s:=j5 x [c]) (p:=iQ (j5 x [a,c]) (0,0)) (k:=1) h1.1 (by omega);exact⟨h2.1,h2.2⟩
theorem DB (v:Value) (lo hi:ByteArray) (l:List ByteArray) (zs:List CQ) (x y:Rat) (w:World) (hl:IsS w v l) (hG:Gw w) (hpz:dG l=.ok zs) (h2:eT zs) (hs:SzL 300 zs) (hre:js zs=true)
  (hr:fz [lo,hi]=.ok [x,y]) (hsx:Sz 2000 (rt x)) (hsy:Sz 2000 (rt y)) (hxy:gL x y≤0) :
  Calls Tryz.prog 153 #[v,.string lo,.string hi] w fun e w'=>e=.returned (.tuple #[.int .i64 (dw zs x-dw zs y),.int .i64 0])∧Below w.heap.size w w':=by
 obtain⟨p,c,rfl,-⟩:=id hl.form;have HPO:=E5 (mG _ l w hl hG);have hzl:zs.length<1000000:=by cases h2<;>simp
 go_enter Tryz.func153,Tryz.ntmps153;go_wp2_with fail
 refine HPO.out.mono ?_;rintro e w1 ⟨v1,x1,rfl,hres,hb1⟩;rw[hpz] at hres;obtain⟨rfl,hp1⟩:=hres;obtain⟨p1,c1,rfl,-⟩:=id hp1.form;have m2:=ak w1 (.cells #[.string lo,.string hi] 34);have HRE:=E5 (Bh _ [lo,hi] _ (IsS.two w1 lo hi) (by simp) ((hG.below hb1).below m2));have HP1:=E5 (hp1.below m2);have HB1:=E5 (hb1.trans (m2.mono hb1.size));clear hp1 hb1 m2 hl HPO hpz;go_wp2_with fail
 refine HRE.out.mono ?_;rintro e w2 ⟨v2,err,rfl,hcase,hb2⟩;rw[hr] at hcase;rcases hcase with ⟨qs,hq,rfl,hlq⟩ | ⟨hq,-⟩
 ·obtain rfl:[x,y]=qs:=by simpa using hq
  obtain⟨p2,c2,rfl,-⟩:=id hlq.form;have HP2:=E5 (HP1.out.below hb2);have HB2:=E5 (HB1.out.trans (hb2.mono HB1.out.size));have HLQ:=E5 hlq;have HAR:=E5 (zF _ zs w2 HP2.out hzl);rw[hre] at HAR;clear hq hlq hb2 HP1 HB1 HRE hr hre;go_wp2_with fail
  refine HAR.out.mono ?_;rintro e w3 ⟨v3,rfl,hb3⟩;have HP3:=E5 (HP2.out.below hb3);have HB3:=E5 (HB2.out.trans (hb3.mono HB2.out.size));have HLQ:=E5 (HLQ.out.below hb3);clear hb3 HP2 HB2 HAR;have hne:((zs.length:Int) == 0)=false:=by cases h2<;>simp
  go_upto_region 12 with fail
  clear hne;obtain⟨b,o,rfl,hbl,xm,xp,xl,xc,xq,xk,xd,hx,c0,c1',c2'⟩:=HLQ.out.get (i:=0) (by simp);obtain⟨b',o',he,hbl',ym,yp,yl,yc,yq,yk,yd,hy,d0,d1,d2⟩:=HLQ.out.get (i:=1) (by simp);obtain⟨rfl,rfl⟩:b=b'∧o=o':=by simpa using he
  clear he hbl';simp only[E7,E8,Gk,FM,Ip] at hx hy c0 c1' c2' d0 d1 d2;have m4:Below w3.heap.size w3 w3.drew:=(Below.refl _ _).drew;obtain⟨cm,hcm⟩:∃ z,z=gL x y:=⟨_,rfl⟩;have hcmp:=m_ _ _ _ _ _ (hx.v.below m4) (hy.v.below m4) (dJ x) (dJ y) (hx.s.fewR hy.s (by decide)).f1 (hx.s.fewR hy.s (by decide)).f2 (hx.s.fewR hy.s (by decide)).f3 (hx.s.fewR hy.s (by decide)).f4;rw[qy,←hcm] at hcmp;rw[←hcm] at hxy;have HC:=E5 hcmp;have hd:decide (0<cm)=false:=decide_eq_false (by omega);refine aq (fun w'=>∃ x:aC w3.heap.size w3.drew,w'=x.w) (fun i=>i == 6) (by kernel_rfl) (by kernel_rfl) ⟨⟨_,Below.refl _ _⟩,rfl⟩ ?_;have g0:=fun x:aC w3.heap.size w3.drew=>af (m4.trans x.h) hbl c0;have g1:=fun x:aC w3.heap.size w3.drew=>af (m4.trans x.h) hbl c1';have g2:=fun x:aC w3.heap.size w3.drew=>af (m4.trans x.h) hbl c2';have g3:=fun x:aC w3.heap.size w3.drew=>af (m4.trans x.h) hbl d0;have g4:=fun x:aC w3.heap.size w3.drew=>af (m4.trans x.h) hbl d1;have g5:=fun x:aC w3.heap.size w3.drew=>af (m4.trans x.h) hbl d2;have HB4:=E5 (HB3.out.trans (m4.mono HB3.out.size));have HP4:=E5 (HP3.out.below m4);have HX:=E5 (hx.below m4);have HY:=E5 (hy.below m4);have hz:w3.heap.size≤w3.drew.heap.size:=m4.size;have e0:=af m4 hbl c0;have e1:=af m4 hbl c1';have e2:=af m4 hbl c2';have e3:=af m4 hbl d0;have e4:=af m4 hbl d1;have e5:=af m4 hbl d2
  have HE:=E5 (And.intro (Fe hbl m4.size) (And.intro e0 (And.intro e1 (And.intro e2 (And.intro e3 (And.intro e4 e5))))));clear c0 c1' c2' d0 d1 d2 hx hy m4 hcmp hcm HLQ HB3 HP3 e0 e1 e2 e3 e4 e5 hxy;generalize w3.drew=wd at *
  refine ah 6 0 _ _ _ (by kernel_rfl) ?_;simp only[Fc,Fg,Fd,Ff];repeat (go_big_quiet_step (fail))
  refine wpQuiet_nil ?_;refine aj rfl rfl (fun K hK=>?_);go_simp;refine HC.out.mono ?_;rintro e w5 ⟨rfl,hb5⟩;refine hK _ _ ⟨⟨_,hb5.mono hz⟩,rfl⟩ ?_;clear hK K;try simp only[Act.put,E9,E8,E7,E6,Fa,E_]
  refine ah 2 7 _ _ _ (by kernel_rfl) ?_;simp only[Fc,Fg,Fd,Ff];repeat (go_big_quiet_step (fail))
  refine wpQuiet_nil ?_;refine aB ?_;have HP5:=E5 (HP4.out.below hb5);have HB5:=E5 (HB4.out.trans (hb5.mono HB4.out.size));have HX:=E5 (HX.out.below hb5);have HY:=E5 (HY.out.below hb5);obtain⟨hbl,e0,e1,e2,e3,e4,e5⟩:=HE.out;have HE:=E5 (And.intro (Fe hbl hb5.size) (And.intro (af hb5 hbl e0) (And.intro (af hb5 hbl e1) (And.intro (af hb5 hbl e2) (And.intro (af hb5 hbl e3) (And.intro (af hb5 hbl e4) (af hb5 hbl e5)))))));clear g0 g1 g2 g3 g4 g5 HC HB4 HP4 hb5 hbl e0 e1 e2 e3 e4 e5 hz
  have HDER:=E5 (sj _ zs w5 HP5.out (fun z hz n hn=>by
   rw[←cO]
   exact ((hs z hz).times (rB (by omega))).mono (by decide)) (by cases h2<;>simp))
  go_wp2_with fail
  refine HDER.out.mono ?_;rintro e w6 ⟨v6,rfl,hv6,hb6⟩;have HP6:=E5 (HP5.out.below hb6);go_wp2_with fail
  refine (Cq _ _ zs (xO zs) w6 HP6.out hv6 (h2.pair hs)).mono ?_;rintro e w7 ⟨v7,rfl,hv7,hb7⟩;have hB7:=hb6.trans (hb7.mono hb6.size);have HP7:=E5 (HP5.out.below hB7);obtain⟨p7,c7,rfl,-⟩:=id hv7.form;go_wp2_with fail
  refine (uO _ _ zs (CQ.real 1) w7 HP7.out hv7 CQ.one_ne (by cases h2<;>simp) (by cases h2<;>simp) hs (ow (by decide))).mono ?_;rintro e w8 ⟨v8,v8',rfl,hv8,-,hb8⟩;rw[Bb,h2.lean] at hv8;have hB8:=hB7.trans (hb8.mono hB7.size);have HB8:=E5 (HB5.out.trans (hB8.mono HB5.out.size));have HV8:=E5 hv8;have HX:=E5 (HX.out.below hB8);have HY:=E5 (HY.out.below hB8);obtain⟨hbl,e0,e1,e2,e3,e4,e5⟩:=HE.out;have e0:=af hB8 hbl e0;have e1:=af hB8 hbl e1;have e2:=af hB8 hbl e2;have e3:=af hB8 hbl e3;have e4:=af hB8 hbl e4;have e5:=af hB8 hbl e5;have hbl:=Fe hbl hB8.size;clear HP5 HB5 HP6 HP7 hv6 hv7 hv8 hb6 hb7 hb8 hB7 hB8 HDER HE;go_upto_region 15 with fail
  have m4:Below w8.heap.size w8 w8.drew:=(Below.refl _ _).drew;refine aq (fun w'=>∃ x:aC w8.heap.size w8.drew,w'=x.w) (fun i=>i == 4||i == 9) (by kernel_rfl) (by kernel_rfl) ⟨⟨_,Below.refl _ _⟩,rfl⟩ ?_;have g0:=fun x:aC w8.heap.size w8.drew=>af (m4.trans x.h) hbl e0;have g1:=fun x:aC w8.heap.size w8.drew=>af (m4.trans x.h) hbl e1;have g2:=fun x:aC w8.heap.size w8.drew=>af (m4.trans x.h) hbl e2;have g3:=fun x:aC w8.heap.size w8.drew=>af (m4.trans x.h) hbl e3;have g4:=fun x:aC w8.heap.size w8.drew=>af (m4.trans x.h) hbl e4;have g5:=fun x:aC w8.heap.size w8.drew=>af (m4.trans x.h) hbl e5;have HBF:=E5 (HB8.out.trans (m4.mono HB8.out.size));have HVF:=E5 (HV8.out.below m4);have HXF:=E5 (HX.out.below m4);have HYF:=E5 (HY.out.below m4);have hz:w8.heap.size≤w8.drew.heap.size:=m4.size;have hr1:=ja h2 x;have hr2:=ja h2 y;obtain⟨n1,hn1⟩:∃ n,n=dw zs x:=⟨_,rfl⟩;obtain⟨n2,hn2⟩:∃ n,n=dw zs y:=⟨_,rfl⟩;rw[←hn1] at hr1;rw[←hn2] at hr2;have HN:=E5 (And.intro hn1 hn2);clear e0 e1 e2 e3 e4 e5 m4 HB8 HV8 HX HY hn1 hn2;generalize w8.drew=wd at *
  refine ah 4 0 _ _ _ (by kernel_rfl) ?_;simp only[Fc,Fg,Fd,Ff];repeat (go_big_quiet_step (fail))
  refine wpQuiet_nil ?_;refine aj rfl rfl (fun K hK=>?_);go_simp;refine (rT _ _ zs x wd HVF.out HXF.out.v hsx h2 hs).mono ?_;rintro e w9 ⟨rfl,hb9⟩;rw[←HN.out.1];refine hK _ _ ⟨⟨_,hb9.mono hz⟩,rfl⟩ ?_;clear hK K;try simp only[Act.put,E9,E8,E7,E6,Fa,E_]
  refine ah 4 5 _ _ _ (by kernel_rfl) ?_;simp only[Fc,Fg,Fd,Ff];repeat (go_big_quiet_step (fail))
  refine wpQuiet_nil ?_;refine aj rfl rfl (fun K hK=>?_);go_simp;refine (rT _ _ zs y w9 (HVF.out.below hb9) (HYF.out.below hb9).v hsy h2 hs).mono ?_;rintro e w10 ⟨rfl,hb10⟩;rw[←HN.out.2];have hB10:=hb9.trans (hb10.mono hb9.size);refine hK _ _ ⟨⟨_,hB10.mono hz⟩,rfl⟩ ?_;clear hK K;try simp only[Act.put,E9,E8,E7,E6,Fa,E_]
  refine ah 3 10 _ _ _ (by kernel_rfl) ?_;simp only[Fc,Fg,Fd,Ff];repeat (go_big_quiet_step (fail))
  refine wpQuiet_nil ?_;refine aB ?_;have HF:=E5 (HBF.out.trans (hB10.mono HBF.out.size));clear g0 g1 g2 g3 g4 g5 hb9 hb10 hB10 HBF HVF HXF HYF;go_wp2;refine bodyPost_ret (v:=.tuple #[.int .i64 (n1-n2),.int .i64 0]) (by simp[results,Tryz.results153,go_sem]) rfl ⟨by rw[HN.out.1,HN.out.2],HF.out⟩
 ·cases hq
def cF (r:Bool) (a b:List ByteArray) (x y:ByteArray):Bool×Int:=if az a b=true then if bu x.data.toList=true then if bu y.data.toList=true then if 0<mf x y then (false,8) else (r,0) else (false,2) else (false,2) else (false,30)
theorem zf (r:Bool) (v:Value) (a b:List ByteArray) (x y:ByteArray) (w:World) (hF:IsF w v a b) (hG:Gx w)
  (hC:∀ u wx,IsF wx u a b→Gx wx→az a b=true→bu x.data.toList=true→bu y.data.toList=true→Calls Tryz.prog 104 #[u,.string x,.string y] wx fun e w'=>e=.returned (.bool r)∧Below wx.heap.size wx w') :
  Calls Tryz.prog 49 #[v,.string x,.string y] w fun e w'=>e=.returned (.tuple #[.bool (cF r a b x y).1,.int .i64 (cF r a b x y).2])∧Below w.heap.size w w':=by
 have HC:=E5 hC;clear hC;obtain⟨p,c,q,d,rfl,hfa,hfb⟩:=id hF.ex;go_enter Tryz.func49,Tryz.ntmps49;go_upto_region 1 with fail
 have cc:=aE w (.slice p a.length c) (.slice q b.length d);have m1:=ak w (.cells #[.slice p a.length c,.slice q b.length d] 24);have zz:=size_alloc w (.cells #[.slice p a.length c,.slice q b.length d] 24);generalize w.alloc (.cells #[.slice p a.length c,.slice q b.length d] 24)=w1 at *
 have HCK:=E5 (eU _ a b w1 (hF.below m1) (hG.below m1));have HA:=E5 (hfa.below m1);have HB:=E5 (hfb.below m1);have HG:=E5 (hG.below m1);have c0:=cc.1;have c1:=cc.2;have hlt:w.heap.size<w1.heap.size:=by omega
 have M1:=E5 m1;clear hfa hfb cc zz m1 hF hG;by_cases hck:az a b=true
 ·have HT:=E5 (show cF r a b x y=if bu x.data.toList=true then if bu y.data.toList=true then if 0<mf x y then (false,8) else (r,0) else (false,2) else (false,2) by unfold cF;rw[if_pos hck]);have HK:=E5 hck;have hce:ay a b=0:=by unfold ay;rw[if_pos hck]
  rw[hce] at HCK;obtain⟨ob1,ob7,oa1,oa7,oac,obc,ohd⟩:=aM hck;clear hce;go_wp2_with fail
  refine HCK.out.mono ?_;rintro e w2 ⟨rfl,hb2⟩;have d0:=af hb2 hlt c0;have d1:=af hb2 hlt c1;have HA2:=E5 (HA.out.below hb2);have HB2:=E5 (HB.out.below hb2);have HG2:=E5 (HG.out.below hb2);have M2:=E5 (M1.out.trans (hb2.mono M1.out.size));have hlt2:w.heap.size<w2.heap.size:=Fe hlt hb2.size;clear c0 c1 HA HB HG HCK M1 hb2 hlt;clear oac obc ohd ob1 ob7 oa1 oa7 hck;go_wp2_with fail
  refine (o8 x w2 HG2.out).mono ?_;rintro e w3 ⟨bx,rfl,hbx,hb3⟩;have M3:=E5 (M2.out.trans (hb3.mono M2.out.size))
  cases bx
  ·have HE:=E5 (show cF r a b x y=(false,2) by rw[HT.out,if_neg (by rw[hbx.out];decide)]);clear hbx;go_wp2;refine bodyPost_ret (v:=.tuple #[.bool false,.int .i64 2]) (by simp[results,Tryz.results49,go_sem]) rfl ⟨by rw[HE.out],M3.out⟩
  ·have HX:=E5 hbx.out;have HT:=E5 (show cF r a b x y=if bu y.data.toList=true then if 0<mf x y then (false,8) else (r,0) else (false,2) by rw[HT.out,if_pos hbx.out]);have e0:=af hb3 hlt2 d0;have e1:=af hb3 hlt2 d1;have hlt3:w.heap.size<w3.heap.size:=Fe hlt2 hb3.size;have HA3:=E5 (HA2.out.below hb3);have HB3:=E5 (HB2.out.below hb3);have HG3:=E5 (HG2.out.below hb3);clear d0 d1 hlt2 HA2 HB2 HG2 M2 hb3 hbx;go_wp2_with fail
   refine (o8 y w3 HG3.out).mono ?_;rintro e w4 ⟨bz,rfl,hbz,hb4⟩;have M4:=E5 (M3.out.trans (hb4.mono M3.out.size))
   cases bz
   ·have HE:=E5 (show cF r a b x y=(false,2) by rw[HT.out,if_neg (by rw[hbz.out];decide)]);clear hbz;go_wp2;refine bodyPost_ret (v:=.tuple #[.bool false,.int .i64 2]) (by simp[results,Tryz.results49,go_sem]) rfl ⟨by rw[HE.out],M4.out⟩
   ·have HY:=E5 hbz.out;have HT:=E5 (show cF r a b x y=if 0<mf x y then (false,8) else (r,0) by rw[HT.out,if_pos hbz.out]);have d0:=af hb4 hlt3 e0;have d1:=af hb4 hlt3 e1;have hlt4:w.heap.size<w4.heap.size:=Fe hlt3 hb4.size;have HA4:=E5 (HA3.out.below hb4);have HB4:=E5 (HB3.out.below hb4);have HG4:=E5 (HG3.out.below hb4);clear e0 e1 hlt3 HA3 HB3 HG3 M3 hb4 hbz;have HCM:=E5 (mD x y w4 HG4.out.g);generalize mf x y=cm at HCM HT;go_wp2_with fail
    refine HCM.out.mono ?_;rintro e w5 ⟨rfl,hb5⟩;have M5:=E5 (M4.out.trans (hb5.mono M4.out.size));by_cases hcm:0<cm
    ·have hd:decide (0<cm)=true:=decide_eq_true hcm;have HE:=E5 (show cF r a b x y=(false,8) by rw[HT.out,if_pos hcm]);clear hcm;go_wp2;refine bodyPost_ret (v:=.tuple #[.bool false,.int .i64 8]) (by simp[results,Tryz.results49,go_sem]) rfl ⟨by rw[HE.out],M5.out⟩
    ·have hd:decide (0<cm)=false:=decide_eq_false hcm;have HE:=E5 (show cF r a b x y=(r,0) by rw[HT.out,if_neg hcm]);have e0:=af hb5 hlt4 d0;have e1:=af hb5 hlt4 d1;have HCC:=E5 (HC.out _ w5 ⟨_,_,_,_,rfl,HA4.out.below hb5,HB4.out.below hb5⟩ (HG4.out.below hb5) HK.out HX.out HY.out);clear d0 d1 hcm hb5;go_wp2_with fail
     refine HCC.out.mono ?_;rintro e w6 ⟨rfl,hb6⟩;go_wp2;refine bodyPost_ret (v:=.tuple #[.bool r,.int .i64 0]) (by simp[results,Tryz.results49,go_sem]) rfl ⟨by rw[HE.out],M5.out.trans (hb6.mono M5.out.size)⟩
 ·have HE:=E5 (show cF r a b x y=(false,30) by unfold cF;rw[if_neg hck]);have hce:ay a b=30:=by unfold ay;rw[if_neg hck]
  rw[hce] at HCK;clear hce;go_wp2_with fail
  refine HCK.out.mono ?_;rintro e w2 ⟨rfl,hb2⟩;go_wp2;refine bodyPost_ret (v:=.tuple #[.bool false,.int .i64 30]) (by simp[results,Tryz.results49,go_sem]) rfl ⟨by rw[HE.out],M1.out.trans (hb2.mono M1.out.size)⟩
theorem o6 (v:Value) (a b:List ByteArray) (x y:ByteArray) (w:World) (hF:IsF w v a b) (hG:Gx w) (hck:az a b=true) (hno:cz a b x=false∨cz a b y=false) :
  Calls Tryz.prog 104 #[v,.string x,.string y] w fun e w'=>e=.returned (.bool false)∧Below w.heap.size w w':=by
 obtain⟨ob1,ob7,oa1,oa7,-,-,-⟩:=aM hck;obtain⟨p,c,q,d,rfl,hfa,hfb⟩:=id hF.ex;go_enter Tryz.func104,Tryz.ntmps104;go_upto_region 1 with fail
 have cc:=aE w (.slice p a.length c) (.slice q b.length d);have m1:=ak w (.cells #[.slice p a.length c,.slice q b.length d] 24);have z1:=size_alloc w (.cells #[.slice p a.length c,.slice q b.length d] 24);generalize w.alloc (.cells #[.slice p a.length c,.slice q b.length d] 24)=w1 at *
 have H1:=E5 (kh _ a b x w1 (hF.below m1) ob1 (by omega) (by omega) (hG.below m1).g);have H2:=E5 (fun wx (h:Below w1.heap.size w1 wx)=>kh _ a b y wx ((hF.below m1).below h) ob1 (by omega) (by omega) ((hG.below m1).below h).g);have c0:=cc.1;have c1:=cc.2;have hlt:w.heap.size<w1.heap.size:=by omega
 have M1:=E5 m1;clear cc m1 z1 hF hG hfa hfb hck ob7 oa1 oa7 ob1
 cases hx:cz a b x with
 | false =>
  rw[hx] at H1;clear hx hno;go_wp2_with fail
  refine H1.out.mono ?_;rintro e w2 ⟨rfl,hb2⟩;go_wp2;go_ret;exact⟨rfl,M1.out.trans (hb2.mono M1.out.size)⟩
 | true =>
  have hy:cz a b y=false:=by
   rcases hno with h | h
   ·rw[hx] at h;cases h
   ·exact h
  rw[hx] at H1;rw[hy] at H2;clear hx hy hno;go_wp2_with fail
  refine H1.out.mono ?_;rintro e w2 ⟨rfl,hb2⟩;have d0:=af hb2 hlt c0;have d1:=af hb2 hlt c1;clear c0 c1;go_wp2_with fail
  refine (H2.out w2 hb2).mono ?_;rintro e w3 ⟨rfl,hb3⟩;go_wp2;go_ret;exact⟨rfl,M1.out.trans ((hb2.trans (hb3.mono hb2.size)).mono M1.out.size)⟩
theorem mB (w:World) (s:ByteArray):IsS (w.alloc (.cells #[.string s] 34)) (.slice (some ⟨w.heap.size,0,none⟩) 1 1) [s]:=(wL w w.heap.size s (Fb _)).isS
theorem EH (v:Value) (a:Nat) (x y:Value) (w:World) (hc:w.cell? ⟨a,0,none⟩=some (.int .i64 0)) :
  Calls Tryz.prog 241 #[.int .i64 0,v,.pointer (some ⟨a,0,none⟩),x,y] w fun e w'=>∃ u,e=.returned u∧IsS w' u [⟨#[49]⟩]∧Below w.heap.size w w':=by
 have m1:=E5 (ak w (.cells #[.string ⟨#[49]⟩] 34));have h1:=E5 (mB w ⟨#[49]⟩);go_enter Tryz.func241,Tryz.ntmps241;go_wp2;refine bodyPost_ret (v:=.slice (some ⟨w.heap.size,0,none⟩) 1 1) (by simp[results,Tryz.results241,go_sem]) rfl ⟨_,rfl,h1.out,m1.out⟩
theorem detN (p:Option Addr) (c:Nat) (w:World) :
  Calls Tryz.prog 198 #[.slice p 0 c] w fun e w'=>∃ u,e=.returned u∧IsS w' u [⟨#[49]⟩]∧Below w.heap.size w w':=by
 have EN:=a_ Tryz.func241 rfl (by kernel_rfl);have hmf:∀ (fn:Fn) (first cap:Array Value) (w:World),(Instr.makeFunc fn first cap).run Tryz.prog w=.ok (.func fn first cap) w:=fun _ _ _ _=>rfl;go_enter Tryz.func198,Tryz.ntmps198;go_upto_region 3 with fail
 have m1:=ak w (.cells #[.slice p 0 c] 203);have z1:=size_alloc w (.cells #[.slice p 0 c] 203);generalize w.alloc (.cells #[.slice p 0 c] 203)=w1 at *
 have m2:=ak w1 (.cells #[.int .i64 0] 3);have z2:=size_alloc w1 (.cells #[.int .i64 0] 3);have r2:=heap_alloc_new w1 (.cells #[.int .i64 0] 3 (0,0));generalize w1.alloc (.cells #[.int .i64 0] 3)=w2 at *
 have m3:=ak w2 (.cells #[.nilFunc] 237);have r3:=heap_alloc_new w2 (.cells #[.nilFunc] 237 (0,0));generalize w2.alloc (.cells #[.nilFunc] 237)=w3 at *
 have hM3:=(m1.trans (m2.mono m1.size)).trans (m3.mono (by omega));rw[z1] at r2;rw[z2,z1] at r3;have R2:=(m3.block (w.heap.size+1) (by omega)).trans r2;obtain⟨k3,f3⟩:=dF r3;obtain⟨k2,f2⟩:=dF R2;have HM:=E5 (hM3.setCell (p:=⟨w.heap.size+1+1,0,none⟩) (by show w.heap.size≤w.heap.size+1+1;omega) (.func (.func 241) #[] #[.pointer (some ⟨w.heap.size+1,0,none⟩),.pointer (some ⟨w.heap.size,0,none⟩),.pointer (some ⟨w.heap.size+1+1,0,none⟩)]));have q2:=(World.cell?_setCell_other (w:=w3) (a:=⟨w.heap.size+1+1,0,none⟩) (b:=⟨w.heap.size+1,0,none⟩) (v:=.func (.func 241) #[] #[.pointer (some ⟨w.heap.size+1,0,none⟩),.pointer (some ⟨w.heap.size,0,none⟩),.pointer (some ⟨w.heap.size+1+1,0,none⟩)]) (fun e=>by have:=congrArg Addr.block e;simp at this)).trans k2;have q3:=World.cell?_setCell_same (w:=w3) (a:=⟨w.heap.size+1+1,0,none⟩) (v:=.func (.func 241) #[] #[.pointer (some ⟨w.heap.size+1,0,none⟩),.pointer (some ⟨w.heap.size,0,none⟩),.pointer (some ⟨w.heap.size+1+1,0,none⟩)]) k3;clear m1 z1 m2 z2 r2 m3 r3 hM3 R2;go_upto_region 4 with fail
 clear k2 k3 f2 f3;generalize w3.setCell ⟨w.heap.size+1+1,0,none⟩ (.func (.func 241) #[] #[.pointer (some ⟨w.heap.size+1,0,none⟩),.pointer (some ⟨w.heap.size,0,none⟩),.pointer (some ⟨w.heap.size+1+1,0,none⟩)])=w4 at *
 go_wp2_with fail
 go_loopw [5,11] (fun s5 s11 wr=>s5=.slice none 0 0∧s11=.int .i64 0∧wr=w4) (fun _ _ _=>0)
 case atStart=>exact⟨rfl,rfl,rfl⟩
 case round =>
  obtain⟨rfl,rfl,rfl⟩:=hrel;go_wp2_with fail
  refine (EH _ _ _ _ wr q2).mono ?_;rintro e w5 ⟨u,rfl,hu,hb5⟩;go_wp2;go_ret;exact⟨_,rfl,hu,HM.out.trans (hb5.mono HM.out.size)⟩
open Go.RowKit Go.Shelf Dg
def il (k:ByteArray) (p:List ByteArray):List ByteArray:=(List.range (p.length+1)).map fun i=>gT (aH (p++[⟨#[48]⟩]) i) (dz k (aH (p++[⟨#[48]⟩]) (p.length-i)))
theorem lI (k:ByteArray) (p:List ByteArray):(il k p).length=p.length+1:=by simp[il]
theorem yW (k:ByteArray) (p:List ByteArray) {i:Nat} (h:i<(il k p).length):(il k p)[i]=gT (aH (p++[⟨#[48]⟩]) i) (dz k (aH (p++[⟨#[48]⟩]) (p.length-i))):=by simp[il]
def fd:List ByteArray→List ByteArray→List (List ByteArray)
 | [],_=>[]
 | k :: ks,p=>if gH k.data.toList=true∧fF k=true then il k p :: fd ks (il k p) else []
def bB (l:List ByteArray):List (List ByteArray):=fd l [⟨#[49]⟩]
def y_ (l:List ByteArray) (i:Nat) (W:World) (vs:Array Value):Prop:=∃ v p,vs=#[v]∧(bB l)[i]?=some p∧IsS W v p
attribute [local go_sem] Oper.semAt_some
theorem qv (n:Nat) (hn:3≤n) (g:Nat) (v:Value) (l:List ByteArray) (w:World) (Sb:Nat→Prop) (hbox:w.heap[g]?=some (.cells #[v] 22 (0,0))) (hl:IsS w v l) (hlen:l.length<1000) (hsb:¬ Sb g) :
  tZ Fence.wide n Tryz.prog 97 #[] #[.pointer (some ⟨g,0,none⟩)] (y_ l) (bB l).length Sb (fun _=>False) (fun W=>rM Sb BX W∧Gw W) w:=by
 intro y J W hW hJ hOk hY h0;have hgl:g<w.heap.size:=(Fh.1 hbox).1;have hb0:=(hW.block g hgl).trans hbox;have hlW:=hl.below hW;have HY:=E5 hY;have HJ:=E5 hJ;have HOK:=E5 hOk;obtain⟨p,c,rfl,-⟩:=id hlW.form;have HL:=E5 hlW;have hgW:=(Fh.1 hb0).1;have m1:=ak W (.cells #[.string ⟨#[49]⟩] 34);have c0:=af m1 hgW (dF hb0).1;have hp0:=mB W ⟨#[49]⟩;have hl0:=hlW.below m1;have hj0:=hJ _ _ _ h0 (cj.of_below m1);clear hW hY hJ hOk hbox hl hlW hb0 m1 h0 HL;refine callsIn_of_wp Tryz.func97 rfl trivial ?_ rfl;simp only[Tryz.ntmps97,Hx,Fv,FW,Nat.reduceAdd,Nat.reduceSub,Hd,He,Hw,Hj,FJ,FT]
 gi_wp2_with fail
 generalize W.alloc (.cells #[.string ⟨#[49]⟩] 34)=W0 at *
 gi_loopw [3,12] (fun s3 s12 wr=>∃ (i:Nat) (ps:List ByteArray),s12=.int .i64 i∧i≤l.length∧i≤(bB l).length∧IsS wr s3 ps∧ps.length=i+1∧IsS wr (.slice p l.length c) l∧J i wr∧Hid (fd (l.drop i) ps=(bB l).drop i)) (fun _ s12 _=>l.length-(intOf s12).toNat)
 case atStart=>exact⟨0,_,rfl,by omega,by omega,hp0,rfl,hl0,hj0,rfl⟩
 case round =>
  clear hp0 hl0 hj0 c0;obtain⟨i,ps,rfl,hil,hib,hp,hpl,hl,hJi,hbd⟩:=hrel;by_cases hi:i<l.length
  ·obtain⟨b,o,rfl,hlt,hc⟩:=hl.get hi;obtain⟨pp,cp,rfl,-⟩:=id hp.form;have HBD:=E5 (show (if gH l[i].data.toList=true∧fF l[i]=true then il l[i] ps :: fd (l.drop (i+1)) (il l[i] ps) else [])=(bB l).drop i by rw[←hbd.out,Gr hi];rfl);generalize l[i]=k at hc HBD;have hG:=(HOK.out _ _ hJi).2;have HIR:=E5 (ws k wr hG);have HP:=E5 hp;have HL:=E5 hl;have HJi:=E5 hJi;rw[hpl] at HP ⊢;clear hbd hp hl hJi hG
   gi_wp2_with fail
   refine⟨trivial,fun _=>by omega,(callsIn_wide.2 HIR.out).mono ?_⟩;rintro e w2 ⟨br,rfl,hbr,hb2⟩;have HJi:=E5 (HJ.out _ _ _ HJi.out (cj.of_below hb2));have HP:=E5 (HP.out.below hb2);have HL:=E5 (HL.out.below hb2);clear HIR hc hb2
   cases br with
   | false =>
    have hlen:(bB l).length=i:=by
     have h:=HBD.out;rw[if_neg (fun h=>by rw[hbr.out] at h;cases h.1)] at h;have:=congrArg List.length h;simp at this;omega
    gi_wp2
    refine⟨trivial,?_⟩
    gi_wp2
    refine bodyPost_ret (v:=.tuple #[]) (by simp[results,Tryz.results97,go_sem]) rfl ⟨⟨_,rfl⟩,by rw[hlen];exact HJi.out⟩
   | true =>
    have HIN:=E5 (wj k w2 (HOK.out _ _ HJi.out).2);obtain⟨bi,hbi⟩:∃ b,b=fF k:=⟨_,rfl⟩;rw[←hbi] at HIN
    gi_wp2_with fail
    refine⟨trivial,fun _=>by omega,(callsIn_wide.2 HIN.out).mono ?_⟩;rintro e w3 ⟨rfl,hb3⟩;have HJi:=E5 (HJ.out _ _ _ HJi.out (cj.of_below hb3));have HP:=E5 (HP.out.below hb3);have HL:=E5 (HL.out.below hb3);clear HIN hb3
    cases bi with
    | false =>
     have hlen:(bB l).length=i:=by
      have h:=HBD.out;rw[if_neg (fun h=>by rw[←hbi] at h;cases h.2)] at h;have:=congrArg List.length h;simp at this;omega
     gi_wp2
     refine bodyPost_ret (v:=.tuple #[]) (by simp[results,Tryz.results97,go_sem]) rfl ⟨⟨_,rfl⟩,by rw[hlen];exact HJi.out⟩
    | true =>
     have HBD:=E5 (show il k ps :: fd (l.drop (i+1)) (il k ps)=(bB l).drop i by
      have h:=HBD.out
      rwa [if_pos ⟨hbr.out,hbi.symm⟩] at h)
     clear hbr hbi
     gi_upto_region 5 with fail
     rw[wpIn_wide];go_wp2_with fail
     refine (ui _ ps w3 HP.out (by omega) (by omega)).mono ?_;rintro e w4 ⟨v4,rfl,hv4,hb4⟩;have hm5:=ak w4 (.cells #[.string ⟨#[48]⟩] 34);have hv5:=hv4.below hm5;have hx5:=mB w4 ⟨#[48]⟩;have hB5:=hb4.trans (hm5.mono hb4.size);have hpb:ps.length+[(⟨#[48]⟩:ByteArray)].length<1000000000:=by rw[hpl];simp;omega
     have hlt3:w3.heap.size≤(w4.alloc (.cells #[.string ⟨#[48]⟩] 34)).heap.size:=hB5.size;clear hb4 hm5 hv4;go_wp2_with (at_builtin;refine cP 22 Tryz.underlying22 rfl (.tmp 25) (.tmp 26) rfl w3.heap.size _ ps [⟨#[48]⟩] w4.heap.size 0 1 rfl hv5 rfl hx5 hpb hlt3 ?_)
     intro v6 w6 hw6 hb6;have hB6:=hb6 _ _ hB5 (Fb _);obtain⟨p6,c6,rfl,-⟩:=id hw6.isS.form;obtain⟨q,hq⟩:∃ q,q=ps++[(⟨#[48]⟩:ByteArray)]:=⟨_,rfl⟩;have hql:q.length=i+2:=by rw[hq];simp[hpl]
     have hqs:=hw6.isS;rw[←hq,hql] at hqs;rw[show (ps++[(⟨#[48]⟩:ByteArray)]).length=i+2 by rw[←hq];exact hql];have HQ:=E5 hqs;have HQE:=E5 hq;have HJi:=E5 (HJ.out _ _ _ HJi.out (cj.of_below hB6));have HL:=E5 (HL.out.below hB6);clear hw6 hb6 hv5 hx5 hB5 hpb hlt3 hB6 hq hqs HP;go_wp2
     gi_upto_region 6 with fail
     rw[wpIn_wide];have hi2:((i+2:Nat):Int)=(i:Int)+2:=rfl;go_wp2_with (at_make;refine cK 22 Tryz.underlying22 rfl (.tmp 29) (.tmp 29) rfl _ _ (i+2) rfl rfl (by go_num) (by go_num) (by omega) ?_)
     intro w7 hr7 hb7 hs7;have hB7:=hb7 _ _ (Below.refl _ _) (Fb _);obtain⟨L,hL⟩:∃ L,L=il k ps:=⟨_,rfl⟩;have hLl:L.length=i+2:=by rw[hL,lI,hpl]
     have hr0:df w7 w6.heap.size (i+2) (bJ L 0):=by rw[f9,hLl];exact hr7
     obtain⟨g7,hg7⟩:∃ g,g=w6.heap.size:=⟨_,rfl⟩;rw[←hg7] at hr0 hB7 ⊢;have HB67:=E5 hB7;have HGE:=E5 hg7;have HG6:=E5 (HOK.out _ _ HJi.out).2;have HLE:=E5 hL;obtain⟨bq,oq,rfl,hlq,hcq⟩:=HQ.out.all (by omega);rw[hql] at hcq;have HCQ:=E5 (fun j (h:j<i+2)=>af hB7 (by rw[hg7];exact hlq) (hcq j h));have hlq7:bq<g7:=by rw[hg7];exact hlq
     have hB77:Below g7 w7 w7:=Below.refl _ _;have hnb:i+2<1000000:=by omega
     clear hb7 hs7 hr7 hL hg7 hB7 hcq hlq HQ hi2;go_wp2
     gi_wp2
     gi_loopw [33] (fun s33 w8=>∃ j:Nat,s33=.int .i64 j∧j≤i+2∧df w8 g7 (i+2) (bJ L j)∧Below g7 w7 w8) (fun s33 _=>i+2-(intOf s33).toNat)
     case atStart=>exact⟨0,rfl,Fk _,hr0,hB77⟩
     case round =>
      clear hr0 hB77;obtain⟨j,rfl,hji,hr8,hb8⟩:=hrel;by_cases hj:j<i+2
      ·have hjI:(j:Int)<(i:Int)+2:=by omega
       have e1:(i:Int)+2-1-(j:Int)=((i+1-j:Nat):Int):=by omega
       have e2:(i:Int)+1-(j:Int)=((i+1-j:Nat):Int):=by omega
       gi_upto_region 10 with fail
       rw[wpIn_wide];have hx:=HCQ.out j hj;have hy:=HCQ.out (i+1-j) (by omega);have m4:Below wr.heap.size wr wr.drew:=(Below.refl _ _).drew;have hgr:=hr8.lt;have HBd:=E5 (hb8.trans (m4.mono (by omega)));have HR9:=E5 (hr8.below m4);refine aq (fun w'=>∃ x:aC g7 wr.drew,w'=x.w) (fun i=>i == 15||i == 16||i == 18) (by kernel_rfl) (by kernel_rfl) ⟨⟨_,Below.refl _ _⟩,rfl⟩ ?_;have hz:g7≤wr.drew.heap.size:=by have:=m4.size;omega
       generalize wr.drew=wd at *
       have c0:=fun x:aC g7 wd=>af (HBd.out.trans x.h) hlq7 hx;have c1:=fun x:aC g7 wd=>af (HBd.out.trans x.h) hlq7 hy;have HG9:=E5 (HG6.out.below (by have h:=HB67.out.trans HBd.out;rw[HGE.out] at h;exact h));clear hx hy m4 hr8 hb8 hgr;refine ah 15 0 _ _ _ (by kernel_rfl) ?_;simp only[Fc,Fg,Fd,Ff];repeat (go_big_quiet_step (fail))
       refine wpQuiet_nil ?_;clear c0 c1 e1 e2;refine aj rfl rfl (fun K hK=>?_);go_simp;refine (eH k _ wd HG9.out).mono ?_;rintro e wa ⟨rfl,hba⟩;refine hK _ _ ⟨⟨_,hba.mono hz⟩,rfl⟩ ?_;clear hK K;try simp only[Act.put,E9,E8,E7,E6,Fa,E_]
       refine aj rfl rfl (fun K hK=>?_);go_simp;refine (kJ _ _ wa (HG9.out.below hba)).mono ?_;rintro e wb ⟨rfl,hbb⟩;have hBb:=hba.trans (hbb.mono hba.size);refine hK _ _ ⟨⟨_,hBb.mono hz⟩,rfl⟩ ?_;clear hK K;try simp only[Act.put,E9,E8,E7,E6,Fa,E_]
       refine ah 1 17 _ _ _ (by kernel_rfl) ?_;simp only[Fc,Fg,Fd,Ff];repeat (go_big_quiet_step (fail))
       refine wpQuiet_nil ?_;have hfl:j<(bJ L j).length:=by rw[gZ L (by omega)];omega
       have rc:=HR9.out.below hBb;have rd:=rc.cell hfl;have re:=rc.free j
       have hset:df (wb.setCell ⟨g7,j,none⟩ (.string (gT (aH q j) (dz k (aH q (i+1-j)))))) g7 (i+2) (bJ L (j+1)):=by
        have h1:=rc.set j (gT (aH q j) (dz k (aH q (i+1-j))));have h2:=g9 L (i:=j) (by omega)
        have h3:L[j]'(by omega)=gT (aH q j) (dz k (aH q (i+1-j))):=by
         have hE:=HLE.out;subst hE;rw[yW,HQE.out,hpl]
        rw[h3] at h2;rw[←h2];exact h1
       have hP:Below g7 wd (wb.setCell ⟨g7,j,none⟩ (.string (gT (aH q j) (dz k (aH q (i+1-j)))))):=(hBb.mono hz).setCell (p:=⟨g7,j,none⟩) (Fb _) _;refine aj rfl rfl (fun K hK=>?_);go_simp;refine hK undef _ ⟨⟨_,hP⟩,rfl⟩ ?_;clear hK K;try simp only[Act.put,E9,E8,E7,E6,Fa,E_]
       refine aB ?_;have hBn:=HBd.out.trans hP;clear rc rd re hP hbb hba hBb HR9 HG9 HBd hz;generalize wb.setCell ⟨g7,j,none⟩ (.string (gT (aH q j) (dz k (aH q (i+1-j)))))=we at *
       go_wp2
       gi_wp2
       go_roundw;case rel=>exact⟨j+1,by go_num,by omega,hset,hBn⟩
       case measure=>(first | (simp[intOf];done) | (simp[intOf];omega))
      ·obtain rfl:j=i+2:=by omega
       have hfull:bJ L (i+2)=L:=by rw[←hLl];exact fZ L
       rw[hfull] at hr8;have hB6:=HB67.out.trans hb8;have hB6':Below w6.heap.size w6 wr:=by have h:=hB6;rw[HGE.out] at h;exact h
       have HJr:=E5 (HJ.out _ _ _ HJi.out (cj.of_below hB6'));have HLr:=E5 (HL.out.below hB6')
       have hil:i<(bB l).length:=by
        have:=congrArg List.length HBD.out;simp at this;omega
       have hget:(bB l)[i]?=some L:=by
        have h:=GA (xs:=bB l) (i:=i) (j:=0);rw[←HBD.out] at h;rw[HLE.out];simpa using h.symm
       have HD2:=E5 (show fd (l.drop (i+1)) L=(bB l).drop (i+1) by
        have h:=congrArg (List.drop 1) HBD.out;rw[List.drop_drop] at h;rw[HLE.out]
        exact h)
       have hLS:=hr8.isS;obtain⟨fn,tmps,assign,body,hy,hR⟩:=HY.out i hil wr #[.slice (some ⟨g7,0,none⟩) L.length (i+2)] HJr.out ⟨_,L,rfl,hget,hLS⟩;have hsafe:=(HOK.out _ _ HJr.out).1;rw[hLl] at hy hLS;have HLS:=E5 hLS;clear hb8 hr8 hfull hB6 hB6' hget hLS hj hji hib
       gi_wp2
       refine⟨fun _=>by omega,hR.mono ?_⟩;rintro e W' ⟨rfl,hJ',hT⟩;have hkeep:=iV.of_turns hT hsafe;have hls:=HLS.out.keep hkeep;have hll:=HLr.out.keep hkeep;clear hR hy hT hsafe hkeep HLS HLr HJr
       gi_wp2
       go_roundw;case rel=>exact⟨i+1,L,by go_num,by omega,by omega,hls,hLl,hll,hJ',HD2.out⟩
       case measure=>(first | (simp[intOf];done) | (simp[intOf];omega))
  ·obtain rfl:i=l.length:=by omega
   have hlen:(bB l).length=l.length:=by
    have h:=hbd.out;rw[Iz] at h;have:=congrArg List.length h;simp[fd] at this;omega
   clear hbd hp hl hpl hib hil
   gi_wp2
   go_end0
   exact⟨⟨_,rfl⟩,by rw[hlen];exact hJi⟩
end Go.Proofs.YtbnkpcfjechfiaaGreatDoor
