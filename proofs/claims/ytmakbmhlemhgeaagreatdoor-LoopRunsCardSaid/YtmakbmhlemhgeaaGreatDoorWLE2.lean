/- L -/
import Derived.Laws.EntriesVeiled
import Derived.Test.YtmakbmhlemhgeaaGreatDoorWLP12
import Derived.Test.YtmakbmhlemhgeaaGreatDoorWLH1
import Derived.Test.YtmakbmhlemhgeaaGreatDoorWPM5
import Derived.Test.YtmakbmhlemhgeaaGreatDoorWB
set_option linter.all false
set_option maxRecDepth 100000
set_option maxHeartbeats 8000000
namespace Go.Proofs.YtmakbmhlemhgeaaGreatDoor
open Go.RowKit Dg
theorem kl {s:Int}{p:Int×Int}{k:Int} (h0:0<=p.1) (h1:p.1<=k):0<=(jI s p).1/\(jI s p).1<=k+1:=by
 unfold jI
 split
 ·exact⟨h0,by omega⟩
 ·split<;>exact⟨by simp only;omega,by simp only;omega⟩
theorem jW {zs:List CQ} (h:fC zs) (x:Rat):0<=dL zs x/\dL zs x<=2:=by
 cases h with
 | one c h =>
  have:=kl (s:=kT x [c]) (p:=(0,0)) (k:=0) (by decide) (by decide)
  show 0<=(jI (kT x [c]) (0,0)).1/\(jI (kT x [c]) (0,0)).1<=2
  omega
 | two a c h =>
  have h1:=kl (s:=kT x [a,c]) (p:=(0,0)) (k:=0) (by decide) (by decide);have h2:=kl (s:=kT x [c]) (p:=jI (kT x [a,c]) (0,0)) (k:=1) h1.1 (by omega);exact⟨h2.1,h2.2⟩
theorem E4 (v:Value) (lo hi:ByteArray) (l:List ByteArray) (zs:List CQ) (x y:Rat) (w:World) (hl:IsS w v l) (hG:Gw w) (hpz:dQ l=.ok zs) (h2:fC zs) (hs:SzL 300 zs) (hre:ki zs=true)
  (hr:f_ [lo,hi]=.ok [x,y]) (hsx:Sz 2000 (rt x)) (hsy:Sz 2000 (rt y)) (hxy:lz x y<=0) :
  Calls Tryz.prog 140 #[v,.string lo,.string hi] w fun e w'=>e=.returned (.tuple #[.int .i64 (dL zs x-dL zs y),.int .i64 0])/\Below w.heap.size w w':=by
 obtain⟨p,c,rfl,-⟩:=id hl.form;have HPO:=GF (ns _ l w hl hG);have hzl:zs.length<1000000:=by cases h2<;>simp
 go_enter Tryz.func140,Tryz.ntmps140;go_wp2_with fail
 refine HPO.out.mono ?_;rintro e w1 ⟨v1,x1,rfl,hres,hb1⟩;rw[hpz] at hres;obtain⟨rfl,hp1⟩:=hres;obtain⟨p1,c1,rfl,-⟩:=id hp1.form;have m2:=au w1 (.cells #[.string lo,.string hi] 32);have HRE:=GF (Cv _ [lo,hi] _ (IsS.two w1 lo hi) (by simp) ((hG.below hb1).below m2));have HP1:=GF (hp1.below m2);have HB1:=GF (hb1.trans (m2.mono hb1.size));clear hp1 hb1 m2 hl HPO hpz;go_wp2_with fail
 refine HRE.out.mono ?_;rintro e w2 ⟨v2,err,rfl,hcase,hb2⟩;rw[hr] at hcase;rcases hcase with ⟨qs,hq,rfl,hlq⟩ | ⟨hq,-⟩
 ·obtain rfl:[x,y]=qs:=by simpa using hq
  obtain⟨p2,c2,rfl,-⟩:=id hlq.form;have HP2:=GF (HP1.out.below hb2);have HB2:=GF (HB1.out.trans (hb2.mono HB1.out.size));have HLQ:=GF hlq;have HAR:=GF (AH _ zs w2 HP2.out hzl);rw[hre] at HAR;clear hq hlq hb2 HP1 HB1 HRE hr hre;go_wp2_with fail
  refine HAR.out.mono ?_;rintro e w3 ⟨v3,rfl,hb3⟩;have HP3:=GF (HP2.out.below hb3);have HB3:=GF (HB2.out.trans (hb3.mono HB2.out.size));have HLQ:=GF (HLQ.out.below hb3);clear hb3 HP2 HB2 HAR;have hne:((zs.length:Int) == 0)=false:=by cases h2<;>simp
  go_upto_region 12 with fail
  clear hne;obtain⟨b,o,rfl,hbl,xm,xp,xl,xc,xq,xk,xd,hx,c0,c1',c2'⟩:=HLQ.out.get (i:=0) (by simp);obtain⟨b',o',he,hbl',ym,yp,yl,yc,yq,yk,yd,hy,d0,d1,d2⟩:=HLQ.out.get (i:=1) (by simp);obtain⟨rfl,rfl⟩:b=b'/\o=o':=by simpa using he
  clear he hbl';simp only[GH,GI,Iu,Hq,Jd] at hx hy c0 c1' c2' d0 d1 d2;have m4:Below w3.heap.size w3 w3.drew:=(Ki _ _).drew;obtain⟨cm,hcm⟩:∃ z,z=lz x y:=⟨_,rfl⟩;have hcmp:=nP _ _ _ _ _ (hx.v.below m4) (hy.v.below m4) (dz x) (dz y) (hx.s.fewR hy.s (by decide)).f1 (hx.s.fewR hy.s (by decide)).f2 (hx.s.fewR hy.s (by decide)).f3 (hx.s.fewR hy.s (by decide)).f4;rw[rB,<-hcm] at hcmp;rw[<-hcm] at hxy;have HC:=GF hcmp;have hd:decide (0<cm)=false:=decide_eq_false (by omega);refine aB (fun w'=>∃ x:aL w3.heap.size w3.drew,w'=x.w) (fun i=>i == 6) (by kernel_rfl) (by kernel_rfl) ⟨⟨_,Ki _ _⟩,rfl⟩ ?_;have g0:=fun x:aL w3.heap.size w3.drew=>aj (m4.trans x.h) hbl c0;have g1:=fun x:aL w3.heap.size w3.drew=>aj (m4.trans x.h) hbl c1';have g2:=fun x:aL w3.heap.size w3.drew=>aj (m4.trans x.h) hbl c2';have g3:=fun x:aL w3.heap.size w3.drew=>aj (m4.trans x.h) hbl d0;have g4:=fun x:aL w3.heap.size w3.drew=>aj (m4.trans x.h) hbl d1;have g5:=fun x:aL w3.heap.size w3.drew=>aj (m4.trans x.h) hbl d2;have HB4:=GF (HB3.out.trans (m4.mono HB3.out.size));have HP4:=GF (HP3.out.below m4);have HX:=GF (hx.below m4);have HY:=GF (hy.below m4);have hz:w3.heap.size<=w3.drew.heap.size:=m4.size;have e0:=aj m4 hbl c0;have e1:=aj m4 hbl c1';have e2:=aj m4 hbl c2';have e3:=aj m4 hbl d0;have e4:=aj m4 hbl d1;have e5:=aj m4 hbl d2
  have HE:=GF (And.intro (GN hbl m4.size) (And.intro e0 (And.intro e1 (And.intro e2 (And.intro e3 (And.intro e4 e5))))));clear c0 c1' c2' d0 d1 d2 hx hy m4 hcmp hcm HLQ HB3 HP3 e0 e1 e2 e3 e4 e5 hxy;generalize w3.drew=wd at *
  refine aq 6 0 _ _ _ (by kernel_rfl) ?_;simp only[GP,GS,GQ,GR];repeat (go_big_quiet_step (fail))
  refine wpQuiet_nil ?_;refine ar rfl rfl (fun K hK=>?_);go_simp;refine HC.out.mono ?_;rintro e w5 ⟨rfl,hb5⟩;refine hK _ _ ⟨⟨_,hb5.mono hz⟩,rfl⟩ ?_;clear hK K;try simp only[Act.put,GJ,GI,GH,GG,GL,GK]
  refine aq 2 7 _ _ _ (by kernel_rfl) ?_;simp only[GP,GS,GQ,GR];repeat (go_big_quiet_step (fail))
  refine wpQuiet_nil ?_;refine aH ?_;have HP5:=GF (HP4.out.below hb5);have HB5:=GF (HB4.out.trans (hb5.mono HB4.out.size));have HX:=GF (HX.out.below hb5);have HY:=GF (HY.out.below hb5);obtain⟨hbl,e0,e1,e2,e3,e4,e5⟩:=HE.out;have HE:=GF (And.intro (GN hbl hb5.size) (And.intro (aj hb5 hbl e0) (And.intro (aj hb5 hbl e1) (And.intro (aj hb5 hbl e2) (And.intro (aj hb5 hbl e3) (And.intro (aj hb5 hbl e4) (aj hb5 hbl e5)))))));clear g0 g1 g2 g3 g4 g5 HC HB4 HP4 hb5 hbl e0 e1 e2 e3 e4 e5 hz
  have HDER:=GF (th _ zs w5 HP5.out (fun z hz n hn=>by
   rw[<-cV]
   exact ((hs z hz).times (sj (by omega))).mono (by decide)) (by cases h2<;>simp))
  go_wp2_with fail
  refine HDER.out.mono ?_;rintro e w6 ⟨v6,rfl,hv6,hb6⟩;have HP6:=GF (HP5.out.below hb6);go_wp2_with fail
  refine (DM _ _ zs (yY zs) w6 HP6.out hv6 (h2.pair hs)).mono ?_;rintro e w7 ⟨v7,rfl,hv7,hb7⟩;have hB7:=hb6.trans (hb7.mono hb6.size);have HP7:=GF (HP5.out.below hB7);obtain⟨p7,c7,rfl,-⟩:=id hv7.form;go_wp2_with fail
  refine (vU _ _ zs (CQ.real 1) w7 HP7.out hv7 CQ.one_ne (by cases h2<;>simp) (by cases h2<;>simp) hs (pi (by decide))).mono ?_;rintro e w8 ⟨v8,v8',rfl,hv8,-,hb8⟩;rw[Co,h2.lean] at hv8;have hB8:=hB7.trans (hb8.mono hB7.size);have HB8:=GF (HB5.out.trans (hB8.mono HB5.out.size));have HV8:=GF hv8;have HX:=GF (HX.out.below hB8);have HY:=GF (HY.out.below hB8);obtain⟨hbl,e0,e1,e2,e3,e4,e5⟩:=HE.out;have e0:=aj hB8 hbl e0;have e1:=aj hB8 hbl e1;have e2:=aj hB8 hbl e2;have e3:=aj hB8 hbl e3;have e4:=aj hB8 hbl e4;have e5:=aj hB8 hbl e5;have hbl:=GN hbl hB8.size;clear HP5 HB5 HP6 HP7 hv6 hv7 hv8 hb6 hb7 hb8 hB7 hB8 HDER HE;go_upto_region 15 with fail
  have m4:Below w8.heap.size w8 w8.drew:=(Ki _ _).drew;refine aB (fun w'=>∃ x:aL w8.heap.size w8.drew,w'=x.w) (fun i=>i == 4||i == 9) (by kernel_rfl) (by kernel_rfl) ⟨⟨_,Ki _ _⟩,rfl⟩ ?_;have g0:=fun x:aL w8.heap.size w8.drew=>aj (m4.trans x.h) hbl e0;have g1:=fun x:aL w8.heap.size w8.drew=>aj (m4.trans x.h) hbl e1;have g2:=fun x:aL w8.heap.size w8.drew=>aj (m4.trans x.h) hbl e2;have g3:=fun x:aL w8.heap.size w8.drew=>aj (m4.trans x.h) hbl e3;have g4:=fun x:aL w8.heap.size w8.drew=>aj (m4.trans x.h) hbl e4;have g5:=fun x:aL w8.heap.size w8.drew=>aj (m4.trans x.h) hbl e5;have HBF:=GF (HB8.out.trans (m4.mono HB8.out.size));have HVF:=GF (HV8.out.below m4);have HXF:=GF (HX.out.below m4);have HYF:=GF (HY.out.below m4);have hz:w8.heap.size<=w8.drew.heap.size:=m4.size;have hr1:=jW h2 x;have hr2:=jW h2 y;obtain⟨n1,hn1⟩:∃ n,n=dL zs x:=⟨_,rfl⟩;obtain⟨n2,hn2⟩:∃ n,n=dL zs y:=⟨_,rfl⟩;rw[<-hn1] at hr1;rw[<-hn2] at hr2;have HN:=GF (And.intro hn1 hn2);clear e0 e1 e2 e3 e4 e5 m4 HB8 HV8 HX HY hn1 hn2;generalize w8.drew=wd at *
  refine aq 4 0 _ _ _ (by kernel_rfl) ?_;simp only[GP,GS,GQ,GR];repeat (go_big_quiet_step (fail))
  refine wpQuiet_nil ?_;refine ar rfl rfl (fun K hK=>?_);go_simp;refine (sQ _ _ zs x wd HVF.out HXF.out.v hsx h2 hs).mono ?_;rintro e w9 ⟨rfl,hb9⟩;rw[<-HN.out.1];refine hK _ _ ⟨⟨_,hb9.mono hz⟩,rfl⟩ ?_;clear hK K;try simp only[Act.put,GJ,GI,GH,GG,GL,GK]
  refine aq 4 5 _ _ _ (by kernel_rfl) ?_;simp only[GP,GS,GQ,GR];repeat (go_big_quiet_step (fail))
  refine wpQuiet_nil ?_;refine ar rfl rfl (fun K hK=>?_);go_simp;refine (sQ _ _ zs y w9 (HVF.out.below hb9) (HYF.out.below hb9).v hsy h2 hs).mono ?_;rintro e w10 ⟨rfl,hb10⟩;rw[<-HN.out.2];have hB10:=hb9.trans (hb10.mono hb9.size);refine hK _ _ ⟨⟨_,hB10.mono hz⟩,rfl⟩ ?_;clear hK K;try simp only[Act.put,GJ,GI,GH,GG,GL,GK]
  refine aq 3 10 _ _ _ (by kernel_rfl) ?_;simp only[GP,GS,GQ,GR];repeat (go_big_quiet_step (fail))
  refine wpQuiet_nil ?_;refine aH ?_;have HF:=GF (HBF.out.trans (hB10.mono HBF.out.size));clear g0 g1 g2 g3 g4 g5 hb9 hb10 hB10 HBF HVF HXF HYF;go_wp2;refine Kh (v:=.tuple #[.int .i64 (n1-n2),.int .i64 0]) (by simp[results,Tryz.results140,go_sem]) rfl ⟨by rw[HN.out.1,HN.out.2],HF.out⟩
 ·cases hq
theorem yt {a b:List ByteArray}{i:Nat} (h:a.take i=b.take i) (hi:i<a.length) (hib:i<b.length) (he:a[i]=b[i]):a.take (i+1)=b.take (i+1):=by
 rw[<-GZ hi,<-GZ hib,h,he]
theorem Fk (va vb:Value) (a b:List ByteArray) (w:World) (ha:IsS w va a) (hb:IsS w vb b) (hal:a.length<1000000) (hbl:b.length<1000000) :
  Calls Tryz.prog 80 #[va,vb] w fun e w'=>e=.returned (.bool (decide (a=b)))/\Below w.heap.size w w':=by
 obtain⟨pa,ca,rfl,-⟩:=id ha.form;obtain⟨pb,cb,rfl,-⟩:=id hb.form;have HA:=GF ha;have HB:=GF hb;clear ha hb;go_enter Tryz.func80,Tryz.ntmps80;by_cases hle:a.length=b.length
 ·have hd:((a.length:Int) != (b.length:Int))=false:=by simp[hle]
  have HL:=GF hle;clear hle;go_wp2;go_loopw [13] (fun s13 wr=>∃ i:Nat,s13=.int .i64 i/\i<=a.length/\Below w.heap.size w wr/\Hid (a.take i=b.take i)) (fun s13 _=>a.length-(intOf s13).toNat)
  case atStart=>exact⟨0,rfl,GY _,Ki _ _,rfl⟩
  case round =>
   obtain⟨i,rfl,hin,hbr,heq⟩:=hrel;by_cases hi:i<a.length
   ·have hib:i<b.length:=by rw[<-HL.out];exact hi
    obtain⟨ba,oa,rfl,hba,hca⟩:=(HA.out.below hbr).get hi;obtain⟨bb,ob,rfl,hbb,hcb⟩:=(HB.out.below hbr).get hib;have HT:=GF (fun h:a[i]=b[i]=>yt heq.out hi hib h);have HN:=GF (fun (h:a[i]≠b[i]) (hab:a=b)=>h (by subst hab;rfl));generalize a[i]=x at *
    generalize b[i]=y at *
    by_cases hxy:x=y
    ·subst hxy;have HT:=GF (HT.out rfl);clear HN heq;go_upto_region 6 with fail
     have m4:Below wr.heap.size wr wr.drew:=(Ki _ _).drew;refine aB (fun w'=>∃ x:aL wr.heap.size wr.drew,w'=x.w) (fun _=>false) (by kernel_rfl) (by kernel_rfl) ⟨⟨_,Ki _ _⟩,rfl⟩ ?_;have hbw:=hbr.trans (m4.mono hbr.size);have c0:=fun x:aL wr.heap.size wr.drew=>aj (m4.trans x.h) hba hca;have c1:=fun x:aL wr.heap.size wr.drew=>aj (m4.trans x.h) hbb hcb;clear hca hcb m4 hbr;generalize wr.drew=wd at *
     refine aq 9 0 _ _ _ (by kernel_rfl) ?_;simp only[GP,GS,GQ,GR];repeat (go_big_quiet_step (fail))
     refine wpQuiet_nil ?_;refine aH ?_;clear c0 c1;go_wp2;go_roundw;case rel=>exact⟨i+1,by go_num,by omega,hbw,HT.out⟩
     case measure=>simp[intOf]<;>omega
    ·have hd3:(x.toList == y.toList)=false:=by
      refine Hx.2 fun hb=>hxy ?_;have e:x.toList=y.toList:=by simpa using hb
      rw[aC,aC] at e;exact (jl e).trans (jl rfl).symm
     have HF:=GF (show decide (a=b)=false from decide_eq_false (HN.out hxy));clear HN HT heq hxy;go_upto_region 6 with fail
     have m4:Below wr.heap.size wr wr.drew:=(Ki _ _).drew;refine aB (fun w'=>∃ x:aL wr.heap.size wr.drew,w'=x.w) (fun _=>false) (by kernel_rfl) (by kernel_rfl) ⟨⟨_,Ki _ _⟩,rfl⟩ ?_;have hbw:=hbr.trans (m4.mono hbr.size);have c0:=fun x:aL wr.heap.size wr.drew=>aj (m4.trans x.h) hba hca;have c1:=fun x:aL wr.heap.size wr.drew=>aj (m4.trans x.h) hbb hcb;clear hca hcb m4 hbr;generalize wr.drew=wd at *
     refine aq 9 0 _ _ _ (by kernel_rfl) ?_;simp only[GP,GS,GQ,GR];repeat (go_big_quiet_step (fail))
     refine wpQuiet_nil ?_;refine aH ?_;clear c0 c1;go_wp2;go_ret;exact⟨by rw[HF.out];rfl,hbw⟩
   ·have hin':i=a.length:=by omega
    subst hin';have HF:=GF (show decide (a=b)=true from decide_eq_true (by have h:=heq.out;rw[He,HL.out,He] at h;exact h));clear hi heq;go_wp2;go_ret;exact⟨by rw[HF.out];rfl,hbr⟩
 ·have hd:((a.length:Int) != (b.length:Int))=true:=by simp;omega
  have HF:=GF (show decide (a=b)=false from decide_eq_false (fun h=>hle (by rw[h])));clear hle;go_wp2;go_ret;exact⟨by rw[HF.out];rfl,Ki _ _⟩
theorem iZ (va vb:Value) (a b:List ByteArray) (w:World) (ha:IsS w va a) (hb:IsS w vb b) (hal:a.length<1000000) (hbl:b.length<1000000) :
  Calls Tryz.prog 33 #[va,vb] w fun e w'=>e=.returned (.bool (decide (a=b)))/\Below w.heap.size w w':=by
 obtain⟨pa,ca,rfl,-⟩:=id ha.form;obtain⟨pb,cb,rfl,-⟩:=id hb.form;have HA:=GF ha;have HB:=GF hb;clear ha hb;go_enter Tryz.func33,Tryz.ntmps33;by_cases hle:a.length=b.length
 ·have hd:((a.length:Int) != (b.length:Int))=false:=by simp[hle]
  have HL:=GF hle;clear hle;go_wp2;go_loopw [5] (fun s5 wr=>∃ i:Nat,s5=.int .i64 i/\i<=a.length/\Below w.heap.size w wr/\Hid (a.take i=b.take i)) (fun s5 _=>a.length-(intOf s5).toNat)
  case atStart=>exact⟨0,rfl,GY _,Ki _ _,rfl⟩
  case round =>
   obtain⟨i,rfl,hin,hbr,heq⟩:=hrel;by_cases hi:i<a.length
   ·have hib:i<b.length:=by rw[<-HL.out];exact hi
    obtain⟨ba,oa,rfl,hba,hca⟩:=(HA.out.below hbr).get hi;obtain⟨bb,ob,rfl,hbb,hcb⟩:=(HB.out.below hbr).get hib;have HT:=GF (fun h:a[i]=b[i]=>yt heq.out hi hib h);have HN:=GF (fun (h:a[i]≠b[i]) (hab:a=b)=>h (by subst hab;rfl));generalize a[i]=x at *
    generalize b[i]=y at *
    by_cases hxy:x=y
    ·subst hxy;have HT:=GF (HT.out rfl);clear HN heq;go_upto_region 6 with fail
     have m4:Below wr.heap.size wr wr.drew:=(Ki _ _).drew;refine aB (fun w'=>∃ x:aL wr.heap.size wr.drew,w'=x.w) (fun _=>false) (by kernel_rfl) (by kernel_rfl) ⟨⟨_,Ki _ _⟩,rfl⟩ ?_;have hbw:=hbr.trans (m4.mono hbr.size);have c0:=fun x:aL wr.heap.size wr.drew=>aj (m4.trans x.h) hba hca;have c1:=fun x:aL wr.heap.size wr.drew=>aj (m4.trans x.h) hbb hcb;clear hca hcb m4 hbr;generalize wr.drew=wd at *
     refine aq 9 0 _ _ _ (by kernel_rfl) ?_;simp only[GP,GS,GQ,GR];repeat (go_big_quiet_step (fail))
     refine wpQuiet_nil ?_;refine aH ?_;clear c0 c1;go_wp2;go_roundw;case rel=>exact⟨i+1,by go_num,by omega,hbw,HT.out⟩
     case measure=>simp[intOf]<;>omega
    ·have hd3:(x.toList == y.toList)=false:=by
      refine Hx.2 fun hb=>hxy ?_;have e:x.toList=y.toList:=by simpa using hb
      rw[aC,aC] at e;exact (jl e).trans (jl rfl).symm
     have HF:=GF (show decide (a=b)=false from decide_eq_false (HN.out hxy));clear HN HT heq hxy;go_upto_region 6 with fail
     have m4:Below wr.heap.size wr wr.drew:=(Ki _ _).drew;refine aB (fun w'=>∃ x:aL wr.heap.size wr.drew,w'=x.w) (fun _=>false) (by kernel_rfl) (by kernel_rfl) ⟨⟨_,Ki _ _⟩,rfl⟩ ?_;have hbw:=hbr.trans (m4.mono hbr.size);have c0:=fun x:aL wr.heap.size wr.drew=>aj (m4.trans x.h) hba hca;have c1:=fun x:aL wr.heap.size wr.drew=>aj (m4.trans x.h) hbb hcb;clear hca hcb m4 hbr;generalize wr.drew=wd at *
     refine aq 9 0 _ _ _ (by kernel_rfl) ?_;simp only[GP,GS,GQ,GR];repeat (go_big_quiet_step (fail))
     refine wpQuiet_nil ?_;refine aH ?_;clear c0 c1;go_wp2;go_ret;exact⟨by rw[HF.out];rfl,hbw⟩
   ·have hin':i=a.length:=by omega
    subst hin';have HF:=GF (show decide (a=b)=true from decide_eq_true (by have h:=heq.out;rw[He,HL.out,He] at h;exact h));clear hi heq;go_wp2;go_ret;exact⟨by rw[HF.out];rfl,hbr⟩
 ·have hd:((a.length:Int) != (b.length:Int))=true:=by simp;omega
  have HF:=GF (show decide (a=b)=false from decide_eq_false (fun h=>hle (by rw[h])));clear hle;go_wp2;go_ret;exact⟨by rw[HF.out];rfl,Ki _ _⟩
theorem EU (va vb:Value) (a b c d:List ByteArray) (w:World) (ha:IsF w va a b) (hb:IsF w vb c d) (h1:a.length<1000000) (h2:b.length<1000000) (h3:c.length<1000000) (h4:d.length<1000000) :
  Calls Tryz.prog 36 #[va,vb] w fun e w'=>e=.returned (.bool (decide (a=c)&&decide (b=d)))/\Below w.heap.size w w':=by
 obtain⟨p,x,q,y,rfl,hfa,hfb⟩:=id ha.ex;obtain⟨p',x',q',y',rfl,hfc,hfd⟩:=id hb.ex;go_enter Tryz.func36,Tryz.ntmps36;go_upto_region 1 with fail
 have cc:=aU w (.slice p a.length x) (.slice q b.length y);have m1:=au w (.cells #[.slice p a.length x,.slice q b.length y] 34);have z1:=size_alloc w (.cells #[.slice p a.length x,.slice q b.length y] 34);generalize w.alloc (.cells #[.slice p a.length x,.slice q b.length y] 34)=w1 at *
 have dd:=aU w1 (.slice p' c.length x') (.slice q' d.length y');have m2:=au w1 (.cells #[.slice p' c.length x',.slice q' d.length y'] 34);have z2:=size_alloc w1 (.cells #[.slice p' c.length x',.slice q' d.length y'] 34);have b0:=aj m2 (show w.heap.size<w1.heap.size by omega) cc.1;have b1:=aj m2 (show w.heap.size<w1.heap.size by omega) cc.2;generalize w1.alloc (.cells #[.slice p' c.length x',.slice q' d.length y'] 34)=w2 at *
 rw[z1] at dd;have d0:=dd.1;have d1:=dd.2;have M2:=GF (m1.trans (m2.mono m1.size));have H1:=GF (iZ _ _ a c w2 (hfa.below M2.out) (hfc.below M2.out) h1 h3);have H2:=GF (fun wx (h:Below w2.heap.size w2 wx)=>iZ _ _ b d wx ((hfb.below M2.out).below h) ((hfd.below M2.out).below h) h2 h4);have hl1:w.heap.size<w2.heap.size:=by omega
 have hl2:w.heap.size+1<w2.heap.size:=by omega
 clear cc dd m1 m2 z1 z2 hfa hfb hfc hfd ha hb;by_cases h:a=c
 ·have hd:decide (a=c)=true:=decide_eq_true h;obtain⟨bb,hbb⟩:∃ bb,bb=decide (b=d):=⟨_,rfl⟩;have HE:=GF (show (decide (a=c)&&decide (b=d))=bb by rw[hd,hbb];rfl);rw[hd] at H1;rw[<-hbb] at H2;clear h hd hbb;go_wp2_with fail
  refine H1.out.mono ?_;rintro e w3 ⟨rfl,hb3⟩;have e0:=aj hb3 hl1 b0;have e1:=aj hb3 hl1 b1;have g0:=aj hb3 hl2 d0;have g1:=aj hb3 hl2 d1;clear b0 b1 d0 d1;go_wp2_with fail
  refine (H2.out w3 hb3).mono ?_;rintro e w4 ⟨rfl,hb4⟩;go_wp2;go_ret;exact⟨by rw[HE.out];rfl,M2.out.trans ((hb3.trans (hb4.mono hb3.size)).mono M2.out.size)⟩
 ·have hd:decide (a=c)=false:=decide_eq_false h;have HE:=GF (show (decide (a=c)&&decide (b=d))=false by rw[hd];rfl);rw[hd] at H1;clear h hd;go_wp2_with fail
  refine H1.out.mono ?_;rintro e w3 ⟨rfl,hb3⟩;go_wp2;go_ret;exact⟨by rw[HE.out];rfl,M2.out.trans (hb3.mono M2.out.size)⟩
def bg:List ByteArray:=[⟨#[48]⟩,⟨#[49,47,50]⟩]
def bh:List ByteArray:=[⟨#[49]⟩,⟨#[45,49,47,50]⟩]
theorem xG (w:World) (s t:ByteArray):IsS (w.alloc (.cells #[.string s,.string t] 32)) (.slice (some ⟨w.heap.size,0,none⟩) 2 2) [s,t] :=
 cR.isS (base:=0) (World.ownsRow_lit w #[.string s,.string t] 2 (GY _) (by simp[maxLen]) rfl)
theorem Gk (w:World):Calls Tryz.prog 30 #[] w fun e w'=>∃ v,e=.returned v/\IsF w' v bg bh/\Below w.heap.size w w':=by
 go_enter Tryz.func30,Tryz.ntmps30;go_upto_region 1 with fail
 have q1:=heap_alloc_new w (.cells #[.slice none 0 0,.slice none 0 0] 34);have m1:=au w (.cells #[.slice none 0 0,.slice none 0 0] 34);have z1:=size_alloc w (.cells #[.slice none 0 0,.slice none 0 0] 34);generalize w.alloc (.cells #[.slice none 0 0,.slice none 0 0] 34)=w1 at *
 have i2:=xG w1 ⟨#[48]⟩ ⟨#[49,47,50]⟩;have m2:=au w1 (.cells #[.string ⟨#[48]⟩,.string ⟨#[49,47,50]⟩] 32);have z2:=size_alloc w1 (.cells #[.string ⟨#[48]⟩,.string ⟨#[49,47,50]⟩] 32);have i3:=xG (w1.alloc (.cells #[.string ⟨#[48]⟩,.string ⟨#[49,47,50]⟩] 32)) ⟨#[49]⟩ ⟨#[45,49,47,50]⟩;have m3:=au (w1.alloc (.cells #[.string ⟨#[48]⟩,.string ⟨#[49,47,50]⟩] 32)) (.cells #[.string ⟨#[49]⟩,.string ⟨#[45,49,47,50]⟩] 32);have q2:=(m2.block w.heap.size (by omega)).trans q1;have q3:=(m3.block w.heap.size (by omega)).trans q2;have c0:=az q3 0;have c1:=az q3 1;have f0:=aZ q3 0;have f1:=aZ q3 1;have i2:=i2.below m3;have M2:=m1.trans (m2.mono m1.size);have M3:=M2.trans (m3.mono M2.size);rw[z1] at i2;rw[z2,z1] at i3;have n1:Value.ownBlock (.slice (some ⟨w.heap.size+1,0,none⟩) 2 2)≠some w.heap.size:=fun e=>by simp[Value.ownBlock] at e
 have n2:Value.ownBlock (.slice (some ⟨w.heap.size+1+1,0,none⟩) 2 2)≠some w.heap.size:=fun e=>by simp[Value.ownBlock] at e;omega
 clear m1 m2 m3 q1 q2 z2 M2;refine wp_region_lit ?_;refine wpList_plain rfl (fun K hK=>?_);go_simp;refine hK _ _ ?_;clear hK K;try simp only[Act.put,GJ,GI,GH,GG,GL,GK]
 refine wpList_plain rfl (fun K hK=>?_);go_simp;refine hK _ _ ?_;clear hK K;try simp only[Act.put,GJ,GI,GH,GG,GL,GK]
 try rw[z1]
 generalize (w1.alloc (.cells #[.string ⟨#[48]⟩,.string ⟨#[49,47,50]⟩] 32)).alloc (.cells #[.string ⟨#[49]⟩,.string ⟨#[45,49,47,50]⟩] 32)=w3 at *
 clear z1;have I2:=GF ((i2.other n1 0 (.slice (some ⟨w.heap.size+1,0,none⟩) 2 2)).other n1 1 (.slice (some ⟨w.heap.size+1+1,0,none⟩) 2 2));have I3:=GF ((i3.other n2 0 (.slice (some ⟨w.heap.size+1,0,none⟩) 2 2)).other n2 1 (.slice (some ⟨w.heap.size+1+1,0,none⟩) 2 2));have BB:=GF ((M3.setCell (p:=⟨w.heap.size,0,none⟩) (GM _) (.slice (some ⟨w.heap.size+1,0,none⟩) 2 2)).setCell (p:=⟨w.heap.size,1,none⟩) (GM _) (.slice (some ⟨w.heap.size+1+1,0,none⟩) 2 2));have q4:=dW q3 (.slice (some ⟨w.heap.size+1,0,none⟩) 2 2) (.slice (some ⟨w.heap.size+1+1,0,none⟩) 2 2);have s0:_=some (Value.slice (some ⟨w.heap.size+1,0,none⟩) 2 2):=az q4 0;have s1:_=some (Value.slice (some ⟨w.heap.size+1+1,0,none⟩) 2 2):=az q4 1;have r0:=GF s0;have r1:=GF s1;clear i2 i3 M3 q3 q4 n1 n2 s0 s1;go_wp2;have s0:=r0.out;have s1:=r1.out;refine Kh (v:=.agg #[(.slice (some ⟨w.heap.size+1,0,none⟩) 2 2),(.slice (some ⟨w.heap.size+1+1,0,none⟩) 2 2)]) (by simp[results,Tryz.results30,go_sem,s0,s1]) rfl ⟨_,rfl,⟨⟨_,_,_,_,rfl,I2.out,I3.out⟩⟩,BB.out⟩
def df (r:Bool) (a b:List ByteArray) (x y:ByteArray):Bool×Int:=if aI a b=true then if ce x.data.toList=true then if ce y.data.toList=true then if 0<mX x y then (false,8) else (r,0) else (false,2) else (false,2) else (false,30)
theorem Ao (r:Bool) (v:Value) (a b:List ByteArray) (x y:ByteArray) (w:World) (hF:IsF w v a b) (hG:Gx w)
  (hC:∀ u wx,IsF wx u a b->Gx wx->aI a b=true->ce x.data.toList=true->ce y.data.toList=true->Calls Tryz.prog 85 #[u,.string x,.string y] wx fun e w'=>e=.returned (.bool r)/\Below wx.heap.size wx w') :
  Calls Tryz.prog 37 #[v,.string x,.string y] w fun e w'=>e=.returned (.tuple #[.bool (df r a b x y).1,.int .i64 (df r a b x y).2])/\Below w.heap.size w w':=by
 have HC:=GF hC;clear hC;obtain⟨p,c,q,d,rfl,hfa,hfb⟩:=id hF.ex;go_enter Tryz.func37,Tryz.ntmps37;go_upto_region 1 with fail
 have cc:=aU w (.slice p a.length c) (.slice q b.length d);have m1:=au w (.cells #[.slice p a.length c,.slice q b.length d] 34);have zz:=size_alloc w (.cells #[.slice p a.length c,.slice q b.length d] 34);generalize w.alloc (.cells #[.slice p a.length c,.slice q b.length d] 34)=w1 at *
 have HCK:=GF (fD _ a b w1 (hF.below m1) (hG.below m1));have HA:=GF (hfa.below m1);have HB:=GF (hfb.below m1);have HG:=GF (hG.below m1);have c0:=cc.1;have c1:=cc.2;have hlt:w.heap.size<w1.heap.size:=by omega
 have M1:=GF m1;clear hfa hfb cc zz m1 hF hG;by_cases hck:aI a b=true
 ·have HT:=GF (show df r a b x y=if ce x.data.toList=true then if ce y.data.toList=true then if 0<mX x y then (false,8) else (r,0) else (false,2) else (false,2) by unfold df;rw[if_pos hck]);have HK:=GF hck;have hce:aG a b=0:=by unfold aG;rw[if_pos hck]
  rw[hce] at HCK;obtain⟨ob1,ob7,oa1,oa7,oac,obc,ohd⟩:=bv hck;clear hce;go_wp2_with fail
  refine HCK.out.mono ?_;rintro e w2 ⟨rfl,hb2⟩;have d0:=aj hb2 hlt c0;have d1:=aj hb2 hlt c1;have HA2:=GF (HA.out.below hb2);have HB2:=GF (HB.out.below hb2);have HG2:=GF (HG.out.below hb2);have M2:=GF (M1.out.trans (hb2.mono M1.out.size));have hlt2:w.heap.size<w2.heap.size:=GN hlt hb2.size;clear c0 c1 HA HB HG HCK M1 hb2 hlt;clear oac obc ohd ob1 ob7 oa1 oa7 hck;go_wp2_with fail
  refine (qf x w2 HG2.out).mono ?_;rintro e w3 ⟨bx,rfl,hbx,hb3⟩;have M3:=GF (M2.out.trans (hb3.mono M2.out.size))
  cases bx
  ·have HE:=GF (show df r a b x y=(false,2) by rw[HT.out,if_neg (by rw[hbx.out];decide)]);clear hbx;go_wp2;refine Kh (v:=.tuple #[.bool false,.int .i64 2]) (by simp[results,Tryz.results37,go_sem]) rfl ⟨by rw[HE.out],M3.out⟩
  ·have HX:=GF hbx.out;have HT:=GF (show df r a b x y=if ce y.data.toList=true then if 0<mX x y then (false,8) else (r,0) else (false,2) by rw[HT.out,if_pos hbx.out]);have e0:=aj hb3 hlt2 d0;have e1:=aj hb3 hlt2 d1;have hlt3:w.heap.size<w3.heap.size:=GN hlt2 hb3.size;have HA3:=GF (HA2.out.below hb3);have HB3:=GF (HB2.out.below hb3);have HG3:=GF (HG2.out.below hb3);clear d0 d1 hlt2 HA2 HB2 HG2 M2 hb3 hbx;go_wp2_with fail
   refine (qf y w3 HG3.out).mono ?_;rintro e w4 ⟨bz,rfl,hbz,hb4⟩;have M4:=GF (M3.out.trans (hb4.mono M3.out.size))
   cases bz
   ·have HE:=GF (show df r a b x y=(false,2) by rw[HT.out,if_neg (by rw[hbz.out];decide)]);clear hbz;go_wp2;refine Kh (v:=.tuple #[.bool false,.int .i64 2]) (by simp[results,Tryz.results37,go_sem]) rfl ⟨by rw[HE.out],M4.out⟩
   ·have HY:=GF hbz.out;have HT:=GF (show df r a b x y=if 0<mX x y then (false,8) else (r,0) by rw[HT.out,if_pos hbz.out]);have d0:=aj hb4 hlt3 e0;have d1:=aj hb4 hlt3 e1;have hlt4:w.heap.size<w4.heap.size:=GN hlt3 hb4.size;have HA4:=GF (HA3.out.below hb4);have HB4:=GF (HB3.out.below hb4);have HG4:=GF (HG3.out.below hb4);clear e0 e1 hlt3 HA3 HB3 HG3 M3 hb4 hbz;have HCM:=GF (nm x y w4 HG4.out.g);generalize mX x y=cm at HCM HT;go_wp2_with fail
    refine HCM.out.mono ?_;rintro e w5 ⟨rfl,hb5⟩;have M5:=GF (M4.out.trans (hb5.mono M4.out.size));by_cases hcm:0<cm
    ·have hd:decide (0<cm)=true:=decide_eq_true hcm;have HE:=GF (show df r a b x y=(false,8) by rw[HT.out,if_pos hcm]);clear hcm;go_wp2;refine Kh (v:=.tuple #[.bool false,.int .i64 8]) (by simp[results,Tryz.results37,go_sem]) rfl ⟨by rw[HE.out],M5.out⟩
    ·have hd:decide (0<cm)=false:=decide_eq_false hcm;have HE:=GF (show df r a b x y=(r,0) by rw[HT.out,if_neg hcm]);have e0:=aj hb5 hlt4 d0;have e1:=aj hb5 hlt4 d1;have HCC:=GF (HC.out _ w5 ⟨_,_,_,_,rfl,HA4.out.below hb5,HB4.out.below hb5⟩ (HG4.out.below hb5) HK.out HX.out HY.out);clear d0 d1 hcm hb5;go_wp2_with fail
     refine HCC.out.mono ?_;rintro e w6 ⟨rfl,hb6⟩;go_wp2;refine Kh (v:=.tuple #[.bool r,.int .i64 0]) (by simp[results,Tryz.results37,go_sem]) rfl ⟨by rw[HE.out],M5.out.trans (hb6.mono M5.out.size)⟩
 ·have HE:=GF (show df r a b x y=(false,30) by unfold df;rw[if_neg hck]);have hce:aG a b=30:=by unfold aG;rw[if_neg hck]
  rw[hce] at HCK;clear hce;go_wp2_with fail
  refine HCK.out.mono ?_;rintro e w2 ⟨rfl,hb2⟩;go_wp2;refine Kh (v:=.tuple #[.bool false,.int .i64 30]) (by simp[results,Tryz.results37,go_sem]) rfl ⟨by rw[HE.out],M1.out.trans (hb2.mono M1.out.size)⟩
theorem p_ (v:Value) (a b:List ByteArray) (x y:ByteArray) (w:World) (hF:IsF w v a b) (hG:Gx w) (hck:aI a b=true) (hno:cY a b x=false\/cY a b y=false) :
  Calls Tryz.prog 85 #[v,.string x,.string y] w fun e w'=>e=.returned (.bool false)/\Below w.heap.size w w':=by
 obtain⟨ob1,ob7,oa1,oa7,-,-,-⟩:=bv hck;obtain⟨p,c,q,d,rfl,hfa,hfb⟩:=id hF.ex;go_enter Tryz.func85,Tryz.ntmps85;go_upto_region 1 with fail
 have cc:=aU w (.slice p a.length c) (.slice q b.length d);have m1:=au w (.cells #[.slice p a.length c,.slice q b.length d] 34);have z1:=size_alloc w (.cells #[.slice p a.length c,.slice q b.length d] 34);generalize w.alloc (.cells #[.slice p a.length c,.slice q b.length d] 34)=w1 at *
 have H1:=GF (kZ _ a b x w1 (hF.below m1) ob1 (by omega) (by omega) (hG.below m1).g);have H2:=GF (fun wx (h:Below w1.heap.size w1 wx)=>kZ _ a b y wx ((hF.below m1).below h) ob1 (by omega) (by omega) ((hG.below m1).below h).g);have c0:=cc.1;have c1:=cc.2;have hlt:w.heap.size<w1.heap.size:=by omega
 have M1:=GF m1;clear cc m1 z1 hF hG hfa hfb hck ob7 oa1 oa7 ob1
 cases hx:cY a b x with
 | false =>
  rw[hx] at H1;clear hx hno;go_wp2_with fail
  refine H1.out.mono ?_;rintro e w2 ⟨rfl,hb2⟩;go_wp2;go_ret;exact⟨rfl,M1.out.trans (hb2.mono M1.out.size)⟩
 | true =>
  have hy:cY a b y=false:=by
   rcases hno with h | h
   ·rw[hx] at h;cases h
   ·exact h
  rw[hx] at H1;rw[hy] at H2;clear hx hy hno;go_wp2_with fail
  refine H1.out.mono ?_;rintro e w2 ⟨rfl,hb2⟩;have d0:=aj hb2 hlt c0;have d1:=aj hb2 hlt c1;clear c0 c1;go_wp2_with fail
  refine (H2.out w2 hb2).mono ?_;rintro e w3 ⟨rfl,hb3⟩;go_wp2;go_ret;exact⟨rfl,M1.out.trans ((hb2.trans (hb3.mono hb2.size)).mono M1.out.size)⟩
theorem nk (w:World) (s:ByteArray):IsS (w.alloc (.cells #[.string s] 32)) (.slice (some ⟨w.heap.size,0,none⟩) 1 1) [s]:=(xU w w.heap.size s (GM _)).isS
theorem Gi (v:Value) (a:Nat) (x y:Value) (w:World) (hc:w.cell? ⟨a,0,none⟩=some (.int .i64 0)) :
  Calls Tryz.prog 225 #[.int .i64 0,v,.pointer (some ⟨a,0,none⟩),x,y] w fun e w'=>∃ u,e=.returned u/\IsS w' u [⟨#[49]⟩]/\Below w.heap.size w w':=by
 have m1:=GF (au w (.cells #[.string ⟨#[49]⟩] 32));have h1:=GF (nk w ⟨#[49]⟩);go_enter Tryz.func225,Tryz.ntmps225;go_wp2;refine Kh (v:=.slice (some ⟨w.heap.size,0,none⟩) 1 1) (by simp[results,Tryz.results225,go_sem]) rfl ⟨_,rfl,h1.out,m1.out⟩
theorem detN (p:Option Addr) (c:Nat) (w:World) :
  Calls Tryz.prog 182 #[.slice p 0 c] w fun e w'=>∃ u,e=.returned u/\IsS w' u [⟨#[49]⟩]/\Below w.heap.size w w':=by
 have EN:=cD Tryz.func225 rfl (by kernel_rfl);have hmf:∀ (fn:Fn) (first cap:Array Value) (w:World),(Instr.makeFunc fn first cap).run Tryz.prog w=.ok (.func fn first cap) w:=fun _ _ _ _=>rfl;go_enter Tryz.func182,Tryz.ntmps182;go_upto_region 3 with fail
 have m1:=au w (.cells #[.slice p 0 c] 211);have z1:=size_alloc w (.cells #[.slice p 0 c] 211);generalize w.alloc (.cells #[.slice p 0 c] 211)=w1 at *
 have m2:=au w1 (.cells #[.int .i64 0] 3);have z2:=size_alloc w1 (.cells #[.int .i64 0] 3);have r2:=heap_alloc_new w1 (.cells #[.int .i64 0] 3 (0,0));generalize w1.alloc (.cells #[.int .i64 0] 3)=w2 at *
 have m3:=au w2 (.cells #[.nilFunc] 248);have r3:=heap_alloc_new w2 (.cells #[.nilFunc] 248 (0,0));generalize w2.alloc (.cells #[.nilFunc] 248)=w3 at *
 have hM3:=(m1.trans (m2.mono m1.size)).trans (m3.mono (by omega));rw[z1] at r2;rw[z2,z1] at r3;have R2:=(m3.block (w.heap.size+1) (by omega)).trans r2;obtain⟨k3,f3⟩:=dX r3;obtain⟨k2,f2⟩:=dX R2;have HM:=GF (hM3.setCell (p:=⟨w.heap.size+1+1,0,none⟩) (by show w.heap.size<=w.heap.size+1+1;omega) (.func (.func 225) #[] #[.pointer (some ⟨w.heap.size+1,0,none⟩),.pointer (some ⟨w.heap.size,0,none⟩),.pointer (some ⟨w.heap.size+1+1,0,none⟩)]));have q2:=(World.cell?_setCell_other (w:=w3) (a:=⟨w.heap.size+1+1,0,none⟩) (b:=⟨w.heap.size+1,0,none⟩) (v:=.func (.func 225) #[] #[.pointer (some ⟨w.heap.size+1,0,none⟩),.pointer (some ⟨w.heap.size,0,none⟩),.pointer (some ⟨w.heap.size+1+1,0,none⟩)]) (fun e=>by have:=congrArg Addr.block e;simp at this)).trans k2;have q3:=World.cell?_setCell_same (w:=w3) (a:=⟨w.heap.size+1+1,0,none⟩) (v:=.func (.func 225) #[] #[.pointer (some ⟨w.heap.size+1,0,none⟩),.pointer (some ⟨w.heap.size,0,none⟩),.pointer (some ⟨w.heap.size+1+1,0,none⟩)]) k3;clear m1 z1 m2 z2 r2 m3 r3 hM3 R2;go_upto_region 4 with fail
 clear k2 k3 f2 f3;generalize w3.setCell ⟨w.heap.size+1+1,0,none⟩ (.func (.func 225) #[] #[.pointer (some ⟨w.heap.size+1,0,none⟩),.pointer (some ⟨w.heap.size,0,none⟩),.pointer (some ⟨w.heap.size+1+1,0,none⟩)])=w4 at *
 go_wp2_with fail
 go_loopw [5,11] (fun s5 s11 wr=>s5=.slice none 0 0/\s11=.int .i64 0/\wr=w4) (fun _ _ _=>0)
 case atStart=>exact⟨rfl,rfl,rfl⟩
 case round =>
  obtain⟨rfl,rfl,rfl⟩:=hrel;go_wp2_with fail
  refine (Gi _ _ _ _ wr q2).mono ?_;rintro e w5 ⟨u,rfl,hu,hb5⟩;go_wp2;go_ret;exact⟨_,rfl,hu,HM.out.trans (hb5.mono HM.out.size)⟩
def fq (l:List ByteArray) (n:Nat):List ByteArray:=l++List.replicate (n-l.length) ⟨#[48]⟩
theorem iR (l:List ByteArray) (n:Nat):(fq l n).length=max l.length n:=by unfold fq;simp;omega
def EK:Value->Nat
 | .slice _ n _=>n
 | _=>0
theorem np (v:Value) (l:List ByteArray) (n:Nat) (w:World) (hl:IsS w v l) (hpos:0<l.length) (hlen:l.length<1000000) (hn:n<1000000) :
  Calls Tryz.prog 83 #[v,.int .i64 n] w fun e w'=>∃ u,e=.returned u/\cR w' w.heap.size u (fq l n)/\Below w.heap.size w w':=by
 have HC:=GF (vh v l w hl hpos (by omega));clear hl;go_enter Tryz.func83,Tryz.ntmps83;go_wp2_with fail
 refine HC.out.mono ?_;rintro e w1 ⟨u,rfl,hu,hb1⟩;have HU:=GF hu;have HB1:=GF hb1;clear hu hb1 HC;go_wp2_with fail
 go_loopw [5] (fun s5 wr=>∃ i:Nat,cR wr w.heap.size s5 (fq l i)/\(i=0\/i<=n)/\Below w.heap.size w wr) (fun s5 _=>n-EK s5)
 case atStart=>exact⟨0,by unfold fq;simpa using HU.out,Or.inl rfl,HB1.out⟩
 case round =>
  obtain⟨i,hown,hi,hbr⟩:=hrel;have hpl:=iR l i;obtain⟨p,c,rfl,hcc,-⟩:=hown.isS.form;obtain⟨m,hm⟩:∃ m,m=(fq l i).length:=⟨_,rfl⟩;rw[<-hm] at hpl hcc hown |-;by_cases hlt:m<n
  ·have hi2:i<=n:=by omega
   obtain⟨j,hj⟩:∃ j,j=m:=⟨_,rfl⟩
   have hpj:fq l (m+1)=fq l i++[⟨#[48]⟩]:=by
    unfold fq;rw[Hk];congr 1;have e:m+1-l.length=(i-l.length)+1:=by omega
    rw[e,JN]
   have hd:decide ((m:Int)<(n:Int))=true:=by simp;omega
   have hd2:decide (m<n)=true:=decide_eq_true hlt;have HT:=GF hpj;have HM:=GF (And.intro hm (And.intro hlt hpl));have hzl:(fq l i).length<1000000000:=by omega
   have hbs:=hbr.size;clear hpj hm hpl hi hi2 hj hlt hcc j;go_upto_region 3 with fail
   generalize Value.slice p m c=sv at hown |-;go_wp2_with (at_builtin;refine bH 29 Tryz.underlying29 rfl (.tmp 12) (.tmp 13) rfl w.heap.size _ _ _ rfl hown rfl hzl hbs ?_)
   intro v' w2 hw2 hb2;have hB2:=hb2 _ _ hbr (GM _);rw[<-HT.out] at hw2;obtain⟨p',c',rfl,-⟩:=hw2.isS.form;clear hown hb2 hbr;go_wp2;go_roundw;case rel=>exact⟨m+1,hw2,Or.inr HM.out.2.1,hB2⟩
   case measure =>
    have h1:=HM.out.2.1;have h2:=HM.out.2.2;have h3:=iR l (m+1);simp only[EK];omega
  ·have hd:decide ((m:Int)<(n:Int))=false:=by simp;omega
   have hd2:decide (m<n)=false:=decide_eq_false hlt
   have HE:=GF (show fq l i=fq l n by
    unfold fq;congr 2;omega)
   have HO:=GF hown;have HM:=GF hm;clear hpl hi hlt hcc hown hm;go_wp2;go_ret;exact⟨_,rfl,by have h:=HO.out;rw[HE.out] at h;exact h,hbr⟩
def iF (a l:List ByteArray) (k:Nat):List ByteArray:=(List.range k).map fun i=>jC (aT l i) (ek (cX (aT l k) (aT a 0)) (aT a (k-i)))
theorem l4 (a l:List ByteArray) (k:Nat):(iF a l k).length=k:=by simp[iF]
theorem zf (a l:List ByteArray) {k i:Nat} (h:i<(iF a l k).length):(iF a l k)[i]=jC (aT l i) (ek (cX (aT l k) (aT a 0)) (aT a (k-i))):=by simp[iF]
theorem nR (a l:List ByteArray) {k i:Nat} (h:i<k):(ci (iF a l k) i).set i (jC (aT l i) (ek (cX (aT l k) (aT a 0)) (aT a (k-i))))=ci (iF a l k) (i+1):=by
 have hl:i<(iF a l k).length:=by rw[l4];exact h
 have:=iI (iF a l k) hl;rw[zf a l hl] at this;exact this
def kw:Nat->List ByteArray->List ByteArray->ByteArray->ByteArray
 | 0,_,_,e=>e
 | k+1,a,b,e=>kw k (iF a a k) (iF a b k) (jk e (cX (ek (aT b k) (aT b k)) (aT a 0)))
def ez (fa fb:List ByteArray):ByteArray×Int :=
 if aI fa fb=true then if (da fb).isSome=true then (kw (max fa.length fb.length) (fq fb (max fa.length fb.length)) (fq fa (max fa.length fb.length)) ⟨#[48]⟩,0) else (⟨#[]⟩,31) else (⟨#[]⟩,30)
set_option maxRecDepth 100000 in
example : ez bg bh = (⟨#[49, 47, 51]⟩, 0) := by decide +kernel
end Go.Proofs.YtmakbmhlemhgeaaGreatDoor
