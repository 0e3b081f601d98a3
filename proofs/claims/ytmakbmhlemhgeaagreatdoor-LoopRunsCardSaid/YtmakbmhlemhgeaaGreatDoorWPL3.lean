/- L -/
import Derived.Laws.IdiomCopy
import Derived.Test.YtmakbmhlemhgeaaGreatDoorWRng2
import Derived.Test.YtmakbmhlemhgeaaGreatDoorWLP12
import Derived.Test.YtmakbmhlemhgeaaGreatDoorWPL1
import Derived.Test.YtmakbmhlemhgeaaGreatDoorWPM2
import Derived.Test.YtmakbmhlemhgeaaGreatDoorWB
set_option linter.all false
set_option maxRecDepth 100000
set_option maxHeartbeats 8000000
namespace Go.Proofs.YtmakbmhlemhgeaaGreatDoor
open Go.RowKit Dg
def kQ (x:CQ) (zs:List CQ) (j:Nat):CQ:=(zs.drop j).foldr (fun z acc=>(acc.mul x).add z) ⟨0,0⟩
theorem zn (x:CQ) (zs:List CQ):kQ x zs zs.length=⟨0,0⟩:=by unfold kQ;rw[JE];rfl
theorem vK (x:CQ) {zs:List CQ}{j:Nat} (h:j<zs.length):kQ x zs j=((kQ x zs (j+1)).mul x).add zs[j]:=by
 unfold kQ;rw[Iq h];rfl
def atL (zs:List CQ) (x:CQ):CQ:=kQ x zs 0
def n6:Nat->Nat
 | 0=>1
 | n+1=>2*(n6 n+2000)+1+2000+1
theorem Bo {n:Nat} (h:n<=7):n6 n<=764000:=by
 have:∀ m≤7,n6 m<=764000:=by decide
 exact this n h
theorem zo {n:Nat} (h:n<7):2*(n6 n+2000)+1+2000+1<=764000:=Bo (n:=n+1) h
theorem IsV.parts {w:World}{a b c d e f:Value}{u:Vl} (h:IsV w (.agg #[a,b,c,d,e,f]) u):IsR w (.agg #[a,b,c]) u.x/\IsR w (.agg #[d,e,f]) u.y:=by
 obtain⟨x1,x2,x3,y1,y2,y3,he,hx,hy⟩:=h;obtain⟨rfl,rfl,rfl,rfl,rfl,rfl⟩:a=x1/\b=x2/\c=x3/\d=y1/\e=y2/\f=y3:=by simpa using he
 exact⟨hx,hy⟩
theorem atN (vp vx:Value) (zs:List CQ) (x:CQ) (w:World) (hp:IsP w vp zs) (hx:IsV w vx (ct x)) (hs:SzL 2000 zs) (hsx:SzV 2000 (ct x)) (hlen:zs.length<=7) :
  Calls Tryz.prog 100 #[vp,vx] w fun e w'=>∃ v',e=.returned v'/\IsV w' v' (ct (atL zs x))/\Below w.heap.size w w':=by
 obtain⟨p,c,rfl,-⟩:=id hp.form;obtain⟨a,b,c',d,e,f,rfl,hax,hay⟩:=id hx;go_enter Tryz.func100,Tryz.ntmps100;go_upto_region 1 with fail
 have q1:=cE.new w a b c' d e f 110;have m1:=au w (.cells #[a,b,c',d,e,f] 110);have z1:=size_alloc w (.cells #[a,b,c',d,e,f] 110);generalize w.alloc (.cells #[a,b,c',d,e,f] 110)=w1 at *
 have q3:=dj.new w1 (.bool false) (.slice none 0 0) (.slice none 0 0) (.bool false) (.slice none 0 0) (.slice none 0 0) nofun nofun nofun nofun nofun nofun;have m3:=au w1 (.cells #[.bool false,.slice none 0 0,.slice none 0 0,.bool false,.slice none 0 0,.slice none 0 0] 110);generalize w1.alloc (.cells #[.bool false,.slice none 0 0,.slice none 0 0,.bool false,.slice none 0 0,.slice none 0 0] 110)=w3 at *
 rw[z1] at q3;have q1:=q1.below m3;have MD:=GF (m1.trans (m3.mono m1.size));have B3:=GF q3;have Q1:=GF q1;have HX:=GF (hx.below MD.out);have HP:=GF (hp.below MD.out);clear q1 q3 m1 m3 z1 hax hay hx hp;go_wp2_with fail
 refine (kp 0 w3 (by decide) (by decide)).mono ?_;rintro e w4 ⟨v4,rfl,hv4,hb4⟩;go_wp2_with fail
 refine (ft _ _ _ hv4).mono ?_;rintro e w5 ⟨v5,rfl,hv5,hb5⟩;have hB5:=hb4.trans (hb5.mono hb4.size);have hv5:IsV w5 v5 (ct (CQ.real 0)):=by rw[<-dP];exact hv5
 have hgB:w.heap.size+2<=w5.heap.size:=by have:=B3.out.lt;have:=hB5.size;have:=MD.out.size;omega
 obtain⟨x1,x2,x3,y1,y2,y3,rfl,hx5,hy5⟩:=hv5;obtain⟨xm,xp,xl,xc,xq,xk,xd,hxe⟩:=hx5.form;obtain⟨ym,yp,yl,yc,yq,yk,yd,hye⟩:=hy5.form;obtain⟨rfl,rfl,rfl⟩:=eU hxe;obtain⟨rfl,rfl,rfl⟩:=eU hye;go_upto_region 2 with fail
 have B8:=dj.new w5 (.bool xm) (.slice xp xl xc) (.slice xq xk xd) (.bool ym) (.slice yp yl yc) (.slice yq yk yd) nofun nofun nofun nofun nofun nofun;have m5:=au w5 (.cells #[.bool xm,.slice xp xl xc,.slice xq xk xd,.bool ym,.slice yp yl yc,.slice yq yk yd] 110);generalize w5.alloc (.cells #[.bool xm,.slice xp xl xc,.slice xq xk xd,.bool ym,.slice yp yl yc,.slice yq yk yd] 110)=wl at *
 generalize hg:w5.heap.size=gB at B8 hgB m5;have hvl:IsV wl (.agg #[.bool xm,.slice xp xl xc,.slice xq xk xd,.bool ym,.slice yp yl yc,.slice yq yk yd]) (ct (CQ.real 0)):=⟨_,_,_,_,_,_,rfl,by rw[<-hg] at m5;exact hx5.below m5,by rw[<-hg] at m5;exact hy5.below m5⟩;have hs3:w3.heap.size<=gB:=by rw[<-hg];exact hB5.size
 have hBl:Below w3.heap.size w3 wl:=hB5.trans (m5.mono hs3);clear hx5 hy5 hb4 hb5 hg hB5;have HZ:kQ x zs zs.length=CQ.real 0:=zn x zs;have HB8:=GF B8;have HV8:=GF hvl;have HBl:=GF hBl;clear B8 hvl hBl m5;go_wp2;go_loopw [6] (fun s6 wr=>∃ (j:Nat) (z:Int) (xm:Bool) (xp:Option Addr) (xl xc:Nat) (xq:Option Addr) (xk xd:Nat) (ym:Bool) (yp:Option Addr) (yl yc:Nat) (yq:Option Addr) (yk yd:Nat),s6=.int .i64 z/\z=(j:Int)-1/\j<=zs.length/\dj wr gB (.bool xm) (.slice xp xl xc) (.slice xq xk xd) (.bool ym) (.slice yp yl yc) (.slice yq yk yd)/\IsV wr (.agg #[.bool xm,.slice xp xl xc,.slice xq xk xd,.bool ym,.slice yp yl yc,.slice yq yk yd]) (ct (kQ x zs j))/\Below gB wl wr/\Hid (SzV (n6 (zs.length-j)) (ct (kQ x zs j)))) (fun s6 _=>(intOf s6+1).toNat)
 case atStart=>exact⟨zs.length,_,_,_,_,_,_,_,_,_,_,_,_,_,_,_,rfl,rfl,GM _,HB8.out,by rw[HZ];exact HV8.out,Ki _ _,by unfold Hid;rw[HZ,IX];exact⟨.zero (by decide),.zero (by decide)⟩⟩
 case round =>
  obtain⟨j,z,xm,xp,xl,xc,xq,xk,xd,ym,yp,yl,yc,yq,yk,yd,rfl,hz,hj,hown,hv,hbr,hsz⟩:=hrel;have HB3r:=GF (HBl.out.trans (hbr.mono hs3));by_cases h0:j=0
  ·subst h0;obtain rfl:z=-1:=by omega
   obtain⟨hx,hy⟩:=hv.parts;have B8:=B3.out.below HB3r.out;have k0:=B8.cell 0;have k1:=B8.cell 1;have k2:=B8.cell 2;have k3:=B8.cell 3;have k4:=B8.cell 4;have k5:=B8.cell 5;have f0:=B8.fr 0;have f1:=B8.fr 1;have f2:=B8.fr 2;have f3:=B8.fr 3;have f4:=B8.fr 4;have f5:=B8.fr 5;have o0:=hown.cell 0;have o1:=hown.cell 1;have o2:=hown.cell 2;have o3:=hown.cell 3;have o4:=hown.cell 4;have o5:=hown.cell 5;have P:=GF (B8.putV hx hy);have M8:=GF (P.out.2.2 _ _ (MD.out.trans (HB3r.out.mono MD.out.size)) (by omega));clear hx hy B8 hown hv HB8 HV8 hsz hz;go_wp2_with fail
   have q0:=P.out.1.cell 0;have q1:=P.out.1.cell 1;have q2:=P.out.1.cell 2;have q3:=P.out.1.cell 3;have q4:=P.out.1.cell 4;have q5:=P.out.1.cell 5;refine Kh (v:=.agg #[.bool xm,.slice xp xl xc,.slice xq xk xd,.bool ym,.slice yp yl yc,.slice yq yk yd]) (by simp[results,Tryz.results100,go_sem,eC] at q0 q1 q2 q3 q4 q5 |-;simp[results,Tryz.results100,go_sem,q0,q1,q2,q3,q4,q5]) rfl ⟨_,rfl,P.out.2.1,M8.out⟩
  ·obtain⟨k,rfl⟩:∃ k,j=k+1:=⟨j-1,by omega⟩;obtain rfl:z=(k:Int):=by omega
   have hk:k<zs.length:=by omega
   clear HB8 HV8 hz h0;obtain⟨Br,o,rfl,hlt,pm,pp,pl,pc,pq,pk,pd,rm,rp,rl,rc,rq,rk,rd,hkk,a0,a1,a2,a3,a4,a5⟩:=HP.out.get hk;have hstep:=vK x hk;have hzk:=hs _ (G7 hk);generalize zs[k]=zk at hkk hstep hzk;have hS6:=zo (n:=zs.length-(k+1)) (by omega);have hSn:n6 (zs.length-k)=2*(n6 (zs.length-(k+1))+2000)+1+2000+1:=by rw[show zs.length-k=zs.length-(k+1)+1 from by omega];rfl
   have F1:=GF (hsz.out.fewV hsx (by omega));have hz1:=hsz.out.times hsx;rw[cV] at hz1;have F2:=GF (And.intro (hz1.x.fewR hzk.x (by omega)) (hz1.y.fewR hzk.y (by omega)));have hz2:=hz1.plus hzk;rw[fW,<-hstep,<-hSn] at hz2;have HZ2:=GF hz2;have HST:=GF hstep;have hgr:gB<wr.heap.size:=hown.lt;clear hz1 hz2 hstep hS6 hSn hzk hsz;go_upto_region 5 with fail
   have m4:Below wr.heap.size wr wr.drew:=(Ki _ _).drew;refine aB (fun w'=>∃ x:aL gB wr.drew,w'=x.w) (fun i=>i == 0||i == 2||i == 7||i == 8) (by kernel_rfl) (by kernel_rfl) ⟨⟨_,Ki _ _⟩,rfl⟩ ?_;generalize wr.drew=wd at *
   have hB0:Below wd.heap.size wd wd:=Ki _ _;have hz:gB<=wd.heap.size:=by have:=m4.size;omega
   have HB3d:=HB3r.out.trans (m4.mono HB3r.out.size);have e1:=fun x:aL gB wd=>(Q1.out.below HB3d).at x.h (by omega);have b0:=fun x=>(e1 x).c0;have b01:=fun x=>(e1 x).c1;have b02:=fun x=>(e1 x).c2;have b03:=fun x=>(e1 x).c3;have b04:=fun x=>(e1 x).c4;have b05:=fun x=>(e1 x).c5;have r0:=fun x:aL gB wd=>(x.h.cell (p:=⟨Br,o+k*6,none⟩) (by show Br<gB;omega)).trans ((HB3d.cell (p:=⟨Br,o+k*6,none⟩) hlt).trans a0);have r1:=fun x:aL gB wd=>(x.h.cell (p:=⟨Br,o+k*6+1,none⟩) (by show Br<gB;omega)).trans ((HB3d.cell (p:=⟨Br,o+k*6+1,none⟩) hlt).trans a1);have r2:=fun x:aL gB wd=>(x.h.cell (p:=⟨Br,o+k*6+2,none⟩) (by show Br<gB;omega)).trans ((HB3d.cell (p:=⟨Br,o+k*6+2,none⟩) hlt).trans a2);have r3:=fun x:aL gB wd=>(x.h.cell (p:=⟨Br,o+k*6+3,none⟩) (by show Br<gB;omega)).trans ((HB3d.cell (p:=⟨Br,o+k*6+3,none⟩) hlt).trans a3);have r4:=fun x:aL gB wd=>(x.h.cell (p:=⟨Br,o+k*6+4,none⟩) (by show Br<gB;omega)).trans ((HB3d.cell (p:=⟨Br,o+k*6+4,none⟩) hlt).trans a4);have r5:=fun x:aL gB wd=>(x.h.cell (p:=⟨Br,o+k*6+5,none⟩) (by show Br<gB;omega)).trans ((HB3d.cell (p:=⟨Br,o+k*6+5,none⟩) hlt).trans a5);have Q:=GF (hown.below m4);have o0:=Q.out.cell 0;have o1:=Q.out.cell 1;have o2:=Q.out.cell 2;have o3:=Q.out.cell 3;have o4:=Q.out.cell 4;have o5:=Q.out.cell 5;have HVd:=GF (hv.below m4);have HXd:=GF (HX.out.below HB3d);have HKd:=GF (hkk.v.below HB3d);have HBw:=GF (hbr.trans (m4.mono (Ha hgr)));clear e1 hown hv hkk hbr a0 a1 a2 a3 a4 a5 HB3d m4 HP HX;refine ar rfl rfl (fun K hK=>?_)
   go_simp;refine hK _ _ ⟨⟨_,hB0.mono hz⟩,rfl⟩ ?_;clear hK K;try simp only[Act.put,GJ,GI,GH,GG,GL,GK]
   refine aq 1 1 _ _ _ (by kernel_rfl) ?_;simp only[GP,GS,GQ,GR];repeat (go_big_quiet_step (fail))
   refine wpQuiet_nil ?_;refine ar rfl rfl (fun K hK=>?_);go_simp;refine (jE _ _ _ _ _ HVd.out HXd.out F1.out).mono ?_;rintro e w6 ⟨v6,rfl,hv6,hb6⟩;rw[cV] at hv6;refine hK _ _ ⟨⟨_,hb6.mono hz⟩,rfl⟩ ?_;clear hK K;try simp only[Act.put,GJ,GI,GH,GG,GL,GK]
   refine aq 4 3 _ _ _ (by kernel_rfl) ?_;simp only[GP,GS,GQ,GR];repeat (go_big_quiet_step (fail))
   refine wpQuiet_nil ?_;refine ar rfl rfl (fun K hK=>?_);go_simp;refine (vZ _ _ _ _ _ hv6 (HKd.out.below hb6) F2.out.1 F2.out.2).mono ?_;rintro e w7 ⟨v7,rfl,hv7,hb7⟩;have hB7:=hb6.trans (hb7.mono hb6.size);rw[fW,<-HST.out] at hv7;refine hK _ _ ⟨⟨_,hB7.mono hz⟩,rfl⟩ ?_;clear hK K;try simp only[Act.put,GJ,GI,GH,GG,GL,GK]
   obtain⟨x1,x2,x3,y1,y2,y3,rfl,hx,hy⟩:=hv7;obtain⟨sm,sp,sl,sc,sq,sk,sd,hxe⟩:=hx.form;obtain⟨tm,tp,tl,tc,tq,tk,td,hye⟩:=hy.form;obtain⟨rfl,rfl,rfl⟩:=eU hxe;obtain⟨rfl,rfl,rfl⟩:=eU hye;have B8:=Q.out.below hB7;have k0:=B8.cell 0;have k1:=B8.cell 1;have k2:=B8.cell 2;have k3:=B8.cell 3;have k4:=B8.cell 4;have k5:=B8.cell 5;have f0:=B8.fr 0;have f1:=B8.fr 1;have f2:=B8.fr 2;have f3:=B8.fr 3;have f4:=B8.fr 4;have f5:=B8.fr 5;have P:=GF (B8.putV hx hy);refine ar rfl rfl (fun K hK=>?_);go_simp;refine hK undef _ ⟨⟨_,P.out.2.2 _ _ (hB7.mono hz) (GM _)⟩,rfl⟩ ?_;clear hK K;try simp only[Act.put,GJ,GI,GH,GG,GL,GK]
   refine aH ?_;have M8:=GF (P.out.2.2 gB wl (HBw.out.trans (hB7.mono hz)) (GM _));clear hx hy hxe hye B8 k0 k1 k2 k3 k4 k5 f0 f1 f2 f3 f4 f5 o0 o1 o2 o3 o4 o5 hv6 hb6 hb7 hB0 r0 r1 r2 r3 r4 r5 b0 b01 b02 b03 b04 b05;go_wp2;go_roundw;case rel=>exact⟨k,_,_,_,_,_,_,_,_,_,_,_,_,_,_,_,rfl,by go_num,by omega,P.out.1,P.out.2.1,M8.out,HZ2.out⟩
   case measure=>simp[intOf]<;>omega
theorem FH (F:FuncId) (b:Value) (φ:CQ->CQ) (s:ByteArray) (w:World) (hG:Gw w) (EN:∀ (args:Array Value) (w:World),(callFunc F args).run Tryz.prog w=.ok (.enter F args) w)
  (hF:∀ p,fz s=some p->∀ (x:Value) (w':World),Below w.heap.size w w'->IsV w' x (ct p)->Calls Tryz.prog F #[b,x] w' fun e w''=>∃ v,e=.returned v/\IsV w'' v (ct (φ p))/\Below w'.heap.size w' w'') :
  Calls Tryz.prog 99 #[.string s,.func (.func F) #[b] #[]] w fun e w'=>e=.returned (.tuple #[.string (ofC φ s).1,.int .i64 (ofC φ s).2])/\Below w.heap.size w w':=by
 have HF:=GF hF;clear hF;go_enter Tryz.func99,Tryz.ntmps99;go_wp2_with fail
 refine (kx s w hG).mono ?_;rintro e w1 ⟨v,ok,rfl,hcase,hb1⟩;rcases hcase with ⟨z,hz,rfl,hv⟩ | ⟨hz,rfl,rfl⟩
 ·obtain⟨p,rfl,hp1,hp2,-,-⟩:=jr hz;have HP1:=GF (show ofC φ s=dY (φ p) by unfold ofC;rw[hp1]);have HF:=GF (HF.out p hp1);clear hz hp1;have hk:IsK w1 v p:=⟨hv,hp2.mono (by decide)⟩
  obtain⟨xm,xp,xl,xc,xq,xk,xd,ym,yp,yl,yc,yq,yk,yd,rfl⟩:∃ xm xp xl xc xq xk xd ym yp yl yc yq yk yd,v=.agg #[.bool xm,.slice xp xl xc,.slice xq xk xd,.bool ym,.slice yp yl yc,.slice yq yk yd]:=by
   obtain⟨_,_,_,_,_,_,rfl,hx0,hy0⟩:=hk.v;obtain⟨xm,xp,xl,xc,xq,xk,xd,hxe⟩:=hx0.form;obtain⟨ym,yp,yl,yc,yq,yk,yd,hye⟩:=hy0.form;obtain⟨rfl,rfl,rfl⟩:=eU hxe;obtain⟨rfl,rfl,rfl⟩:=eU hye;exact⟨_,_,_,_,_,_,_,_,_,_,_,_,_,_,rfl⟩
  go_upto_region 2 with fail
  have q1:=cE.new w1 (.bool xm) (.slice xp xl xc) (.slice xq xk xd) (.bool ym) (.slice yp yl yc) (.slice yq yk yd) 110;have m1:=au w1 (.cells #[.bool xm,.slice xp xl xc,.slice xq xk xd,.bool ym,.slice yp yl yc,.slice yq yk yd] 110);generalize w1.alloc (.cells #[.bool xm,.slice xp xl xc,.slice xq xk xd,.bool ym,.slice yp yl yc,.slice yq yk yd] 110)=w2 at *
  have a0:=q1.c0;have a1:=q1.c1;have a2:=q1.c2;have a3:=q1.c3;have a4:=q1.c4;have a5:=q1.c5;have hB2:=hb1.trans (m1.mono hb1.size);have HC:=GF (HF.out _ w2 hB2 (hk.v.below m1));have HG:=GF (hG.below hB2);clear q1 m1 hk hv hb1 HF;go_wp2_with fail
  refine HC.out.mono ?_;rintro e w3 ⟨v3,rfl,hv3,hb3⟩;have hB3:=hB2.trans (hb3.mono hB2.size);go_wp2_with fail
  refine (Cl _ _ _ hv3 (HG.out.below hb3)).mono ?_;rintro e w4 ⟨rfl,hb4⟩;go_wp2;refine Kh (v:=.tuple #[.string (dY (φ p)).1,.int .i64 (dY (φ p)).2]) (by simp[results,Tryz.results99,go_sem]) rfl ⟨by rw[HP1.out],hB3.trans (hb4.mono hB3.size)⟩
 ·have HE:=GF (show ofC φ s=(⟨#[]⟩,10) by unfold ofC;rw[gK hz]);clear hz;unfold iA;go_wp2;refine Kh (v:=.tuple #[.string ⟨#[]⟩,.int .i64 10]) (by simp[results,Tryz.results99,go_sem]) rfl ⟨by rw[HE.out],hb1.trans ((au w1 _).mono hb1.size)⟩
def atT (l:List ByteArray) (s:ByteArray):ByteArray×Int:=match dQ l with | .error e=>(⟨#[]⟩,e) | .ok zs=>ofC (atL zs) s
theorem oR {l:List ByteArray}{zs:List CQ} (h:dQ l=.ok zs):zs.length<=l.length:=by
 unfold dQ at h
 split at h
 ·cases h
 ·split at h
  ·rename_i ys hy
   cases h
   have h1:=gO hy;have h2:=kz ys;omega
  ·cases h
theorem EO (v:Value) (l:List ByteArray) (s:ByteArray) (w:World) (hl:IsS w v l) (h7:l.length<=7) (hG:Gw w) :
  Calls Tryz.prog 50 #[v,.string s] w fun e w'=>e=.returned (.tuple #[.string (atT l s).1,.int .i64 (atT l s).2])/\Below w.heap.size w w':=by
 have HP:=GF (ns v l w hl hG);have HG:=GF hG;clear hl hG;go_enter Tryz.func50,Tryz.ntmps50;go_wp2_with fail
 refine HP.out.mono ?_;rintro e w1 ⟨u,x,rfl,hr,hb1⟩
 cases hpc:dQ l with
 | error ea =>
  rw[hpc] at hr;obtain⟨rfl,rfl⟩:=hr;have HE:=GF (show atT l s=(⟨#[]⟩,x) by unfold atT;rw[hpc]);have hd:decide (x=0)=false:=decide_eq_false (by rcases kE hpc with rfl | rfl<;>decide);have hd2:(x != 0)=true:=by rcases kE hpc with rfl | rfl<;>decide
  clear hpc HP;go_wp2;refine Kh (v:=.tuple #[.string ⟨#[]⟩,.int .i64 x]) (by simp[results,Tryz.results50,go_sem]) rfl ⟨by rw[HE.out],hb1⟩
 | ok zs =>
  rw[hpc] at hr;obtain⟨rfl,hu⟩:=hr;have s1:=kc hpc;have l1:=oR hpc;have HE:=GF (show atT l s=ofC (atL zs) s by unfold atT;rw[hpc]);have HO:=GF (FH 100 u (atL zs) s w1 (HG.out.below hb1) (cD Tryz.func100 rfl (by kernel_rfl)) (fun p hp x w' hb hx=>atN u x zs p w' (hu.below hb) hx s1 (gT hp).2.2 (by omega)));clear hpc HP hu s1 l1 h7;obtain⟨y,hy⟩:∃ y,y=ofC (atL zs) s:=⟨_,rfl⟩;rw[<-hy] at HO HE;clear hy;go_wp2_with fail
  refine HO.out.mono ?_;rintro e w2 ⟨rfl,hb2⟩;go_wp2;refine Kh (v:=.tuple #[.string y.1,.int .i64 y.2]) (by simp[results,Tryz.results50,go_sem]) rfl ⟨by rw[HE.out],hb1.trans (hb2.mono hb1.size)⟩
theorem Bb {z:ByteArray} (h:z≠⟨#[48]⟩):(z.toList == [48])=false:=by
 refine Hx.2 fun hb=>h ?_;have e:z.toList=[48]:=by simpa using hb
 rw[aC] at e;exact jl e
def cM (a b:List ByteArray) (z:ByteArray):ByteArray×Int :=
 if aI a b=true then
  if d8 z=true then
   if z=⟨#[48]⟩ then (⟨#[]⟩,32)
   else if (atT b (cX ⟨#[49]⟩ z)).1=⟨#[48]⟩ then (⟨#[]⟩,32)
   else (cX (atT a (cX ⟨#[49]⟩ z)).1 (atT b (cX ⟨#[49]⟩ z)).1,0)
  else (⟨#[]⟩,2)
 else (⟨#[]⟩,30)
theorem lX (v:Value) (a b:List ByteArray) (z:ByteArray) (w:World) (hF:IsF w v a b) (hG:Gx w) :
  Calls Tryz.prog 18 #[v,.string z] w fun e w'=>e=.returned (.tuple #[.string (cM a b z).1,.int .i64 (cM a b z).2])/\Below w.heap.size w w':=by
 obtain⟨p,c,q,d,rfl,hfa,hfb⟩:=id hF.ex;go_enter Tryz.func18,Tryz.ntmps18;go_upto_region 1 with fail
 have cc:=aU w (.slice p a.length c) (.slice q b.length d);have m1:=au w (.cells #[.slice p a.length c,.slice q b.length d] 34);have zz:=size_alloc w (.cells #[.slice p a.length c,.slice q b.length d] 34);generalize w.alloc (.cells #[.slice p a.length c,.slice q b.length d] 34)=w1 at *
 have HCK:=GF (fD _ a b w1 (hF.below m1) (hG.below m1));have HA:=GF (hfa.below m1);have HB:=GF (hfb.below m1);have HG:=GF (hG.below m1);have c0:=cc.1;have c1:=cc.2;have hlt:w.heap.size<w1.heap.size:=by omega
 have M1:=GF m1;clear hfa hfb cc zz m1 hF hG;by_cases hck:aI a b=true
 ·have hce:aG a b=0:=by unfold aG;rw[if_pos hck]
  rw[hce] at HCK;obtain⟨ob1,ob7,oa1,oa7,oac,obc,ohd⟩:=bv hck;clear hce;go_wp2_with fail
  refine HCK.out.mono ?_;rintro e w2 ⟨rfl,hb2⟩;have d0:=aj hb2 hlt c0;have d1:=aj hb2 hlt c1;have HA2:=GF (HA.out.below hb2);have HB2:=GF (HB.out.below hb2);have HG2:=GF (HG.out.below hb2);have M2:=GF (M1.out.trans (hb2.mono M1.out.size));have hlt2:w.heap.size<w2.heap.size:=GN hlt hb2.size;clear c0 c1 HA HB HG HCK M1 hb2 hlt;have HA7:=GF oa7;have HO7:=GF ob7;clear oac obc ohd;go_wp2_with fail
  refine (FT z w2 HG2.out).mono ?_;rintro e w3 ⟨rfl,hb3⟩;have e0:=aj hb3 hlt2 d0;have e1:=aj hb3 hlt2 d1;have hlt3:w.heap.size<w3.heap.size:=GN hlt2 hb3.size;have HA3:=GF (HA2.out.below hb3);have HB3:=GF (HB2.out.below hb3);have HG3:=GF (HG2.out.below hb3);have M3:=GF (M2.out.trans (hb3.mono M2.out.size));have HT:=GF (show cM a b z=if d8 z=true then if z=⟨#[48]⟩ then (⟨#[]⟩,32) else if (atT b (cX ⟨#[49]⟩ z)).1=⟨#[48]⟩ then (⟨#[]⟩,32) else (cX (atT a (cX ⟨#[49]⟩ z)).1 (atT b (cX ⟨#[49]⟩ z)).1,0) else (⟨#[]⟩,2) by unfold cM;rw[if_pos hck]);clear d0 d1 hlt2 HA2 HB2 HG2 M2 hb3 hck ob1 oa1 oa7 ob7
  cases hsz:d8 z with
  | false =>
   have HE:=GF (show cM a b z=(⟨#[]⟩,2) by rw[HT.out,if_neg (by rw[hsz];decide)]);clear hsz;go_wp2;refine Kh (v:=.tuple #[.string ⟨#[]⟩,.int .i64 2]) (by simp[results,Tryz.results18,go_sem]) rfl ⟨by rw[HE.out],M3.out⟩
  | true =>
   rw[if_pos hsz] at HT;clear hsz;by_cases hz0:z=⟨#[48]⟩
   ·have HE:=GF (show cM a b z=(⟨#[]⟩,32) by rw[HT.out,if_pos hz0]);have hzd:(z.toList == [48])=true:=by rw[hz0,aC];rfl
    clear hz0;go_wp2;refine Kh (v:=.tuple #[.string ⟨#[]⟩,.int .i64 32]) (by simp[results,Tryz.results18,go_sem]) rfl ⟨by rw[HE.out],M3.out⟩
   ·rw[if_neg hz0] at HT;have hzd:=Bb hz0;clear hz0;go_wp2_with fail
    refine (gx _ _ w3 HG3.out.g).mono ?_;rintro e w4 ⟨rfl,hb4⟩;generalize cX ⟨#[49]⟩ z=iv at HT |-;have g0:=aj hb4 hlt3 e0;have g1:=aj hb4 hlt3 e1;have hlt4:w.heap.size<w4.heap.size:=GN hlt3 hb4.size;have HA4:=GF (HA3.out.below hb4);have HB4:=GF (HB3.out.below hb4);have HG4:=GF (HG3.out.below hb4);have M4:=GF (M3.out.trans (hb4.mono M3.out.size));obtain⟨ya,hya⟩:∃ ya,ya=atT a iv:=⟨_,rfl⟩;obtain⟨yb,hyb⟩:∃ yb,yb=atT b iv:=⟨_,rfl⟩;have N1:=EO _ a iv w4 HA4.out HA7.out HG4.out.g;have N2:=GF (fun wx (h:Below w4.heap.size w4 wx)=>EO _ b iv wx (HB4.out.below h) HO7.out (HG4.out.below h).g);rw[<-hya] at N1 HT;rw[<-hyb] at N2 HT;have N1:=GF N1;clear e0 e1 hlt3 HA3 HB3 HG3 M3 hb4 hya hyb HA4 HB4;go_wp2_with fail
    refine N1.out.mono ?_;rintro e w5 ⟨rfl,hb5⟩;have e0:=aj hb5 hlt4 g0;have e1:=aj hb5 hlt4 g1;go_wp2_with fail
    refine (N2.out w5 hb5).mono ?_;rintro e w6 ⟨rfl,hb6⟩;have hB6:=hb5.trans (hb6.mono hb5.size);have M6:=GF (M4.out.trans (hB6.mono M4.out.size));have HG6:=GF (HG4.out.below hB6);clear e0 e1 g0 g1 N1 N2 hb5 hb6 hB6 M4 HG4 hlt4;obtain⟨yb1,yb2⟩:=yb;obtain⟨ya1,ya2⟩:=ya;simp only at HT |-;by_cases hy0:yb1=⟨#[48]⟩
    ·have HE:=GF (show cM a b z=(⟨#[]⟩,32) by rw[HT.out,if_pos hy0]);have hyd:(yb1.toList == [48])=true:=by rw[hy0,aC];rfl
     clear hy0;go_wp2;refine Kh (v:=.tuple #[.string ⟨#[]⟩,.int .i64 32]) (by simp[results,Tryz.results18,go_sem]) rfl ⟨by rw[HE.out],M6.out⟩
    ·have HE:=GF (show cM a b z=(cX ya1 yb1,0) by rw[HT.out,if_neg hy0]);have hyd:=Bb hy0;clear hy0;go_wp2_with fail
     refine (gx _ _ w6 HG6.out.g).mono ?_;rintro e w7 ⟨rfl,hb7⟩;go_wp2;refine Kh (v:=.tuple #[.string (cX ya1 yb1),.int .i64 0]) (by simp[results,Tryz.results18,go_sem]) rfl ⟨by rw[HE.out],M6.out.trans (hb7.mono M6.out.size)⟩
 ·have HE:=GF (show cM a b z=(⟨#[]⟩,30) by unfold cM;rw[if_neg hck]);have hce:aG a b=30:=by unfold aG;rw[if_neg hck]
  rw[hce] at HCK;clear hce;go_wp2_with fail
  refine HCK.out.mono ?_;rintro e w2 ⟨rfl,hb2⟩;go_wp2;refine Kh (v:=.tuple #[.string ⟨#[]⟩,.int .i64 30]) (by simp[results,Tryz.results18,go_sem]) rfl ⟨by rw[HE.out],M1.out.trans (hb2.mono M1.out.size)⟩
theorem CQ.norm_ne {c:CQ} (h:c≠⟨0,0⟩):c.norm≠0:=fun e=>h (l_ e)
theorem CQ.div_mul {z c:CQ} (h:c≠⟨0,0⟩):(z.div c).mul c=z:=by
 have hn:=CQ.norm_ne h;obtain⟨a,b⟩:=z;obtain⟨x,y⟩:=c;simp only[CQ.div,CQ.mul,CQ.norm,CQ.mk.injEq] at hn |-;constructor<;>grind
theorem CQ.sub_self (z:CQ):z.sub z=⟨0,0⟩:=by
 obtain⟨a,b⟩:=z;simp only[CQ.sub,CQ.mk.injEq];constructor<;>grind
theorem CQ.mul_inv {z:CQ} (h:z≠⟨0,0⟩):z.mul ((CQ.real 1).div z)=CQ.real 1:=by
 have hn:=CQ.norm_ne h;obtain⟨x,y⟩:=z;simp only[CQ.div,CQ.mul,CQ.norm,CQ.real,CQ.mk.injEq] at hn |-;constructor<;>grind
theorem CQ.div_one (z:CQ):z.div (CQ.real 1)=z:=by
 obtain⟨x,y⟩:=z;simp only[CQ.div,CQ.norm,CQ.real];congr 1<;>grind
theorem CQ.mul_one (z:CQ):z.mul (CQ.real 1)=z:=by
 obtain⟨x,y⟩:=z;simp only[CQ.mul,CQ.real];congr 1<;>grind
theorem CQ.one_ne:CQ.real 1≠⟨0,0⟩:=by decide
def k_ (zs:List CQ) (c:CQ):List CQ:=zs.map fun z=>z.div c
theorem kh (zs:List CQ) (c:CQ):(k_ zs c).length=zs.length:=by simp[k_]
theorem Co (zs:List CQ):k_ zs (CQ.real 1)=zs:=by
 unfold k_;rw[show (fun z:CQ=>z.div (CQ.real 1))=id from funext fun z=>z.div_one,List.map_id]
theorem zV (zs:List CQ) (c:CQ) {i:Nat} (h:i<zs.length):(k_ zs c).drop i=zs[i].div c :: (k_ zs c).drop (i+1):=by
 rw[Iq (by rw[kh];exact h)];simp[k_]
theorem l8 {c:CQ} (h:c≠⟨0,0⟩):dh [c]=[c]:=by
 have:=jt [] c
 rwa [if_neg h] at this
theorem zu {a c:CQ} (h:c≠⟨0,0⟩):dh [a,c]=[a,c]:=by
 have:=jt [a] c
 rwa [if_neg h] at this
theorem mH:∀ n:Nat,dh (List.replicate n ⟨0,0⟩)=[]
 | 0=>rfl
 | n+1=>by
  rw[JN,jt,if_pos rfl];exact mH n
theorem AZ (c:CQ):yY [c]=[]:=rfl
theorem A0 {a c:CQ} (h:c≠⟨0,0⟩):yY [a,c]=[c]:=by
 have e:kK [a,c]=[c]:=by
  show [c.mul (CQ.real (((0+1:Nat):Int):Rat))]=[c]
  rw[show CQ.real (((0+1:Nat):Int):Rat)=CQ.real 1 from rfl,CQ.mul_one]
 unfold yY;rw[e];exact l8 h
theorem uy {c:CQ} (h:c≠⟨0,0⟩):r_ [c] ((CQ.real 1).div c)=[CQ.real 1]:=by
 show dh [c.mul ((CQ.real 1).div c)]=_
 rw[CQ.mul_inv h];exact l8 CQ.one_ne
inductive fC:List CQ->Prop
 | one (c:CQ) (h:c≠⟨0,0⟩):fC [c]
 | two (a c:CQ) (h:c≠⟨0,0⟩):fC [a,c]
theorem fC.lean {zs:List CQ} (h:fC zs):dh zs=zs:=by
 cases h with
 | one c h=>exact l8 h
 | two a c h=>exact zu h
def cG (zs:List CQ):List (List CQ):=match zs with
 | []=>[]
 | [c]=>[[c]]
 | [a,c]=>[[a,c],[c]]
 | _=>[]
def jI (s:Int) (p:Int×Int):Int×Int:=if s=0 then p else (if s=-p.2 then p.1+1 else p.1,s)
def kT (x:Rat) (zs:List CQ):Int:=lz (atL zs (CQ.real x)).re 0
def sS (x:Rat) (l:List (List CQ)):Int×Int:=l.foldl (fun p q=>jI (kT x q) p) (0,0)
def dL (zs:List CQ) (x:Rat):Int:=(sS x (cG zs)).1
theorem yQ (x:Rat) {l:List (List CQ)}{i:Nat} (h:i<l.length):sS x (l.take (i+1))=jI (kT x l[i]) (sS x (l.take i)):=by
 unfold sS;rw[<-GZ h,List.foldl_append];rfl
open Go.RowKit Dg Dc
def Ov (D M:Nat) (q:Rat):Prop:=∃ n:Int,q=(n:Rat) / (D:Rat)/\n.natAbs<=M
theorem gp {D:Nat} (h:0<D):(D:Rat)≠0:=by
 intro e;have e2:((D:Int):Rat)=((0:Int):Rat):=e;have:=Rat.intCast_inj.1 e2;omega
theorem Ov.mono {D M M':Nat}{q:Rat} (h:Ov D M q) (hM:M<=M'):Ov D M' q:=by
 obtain⟨n,e,hn⟩:=h;exact⟨n,e,GV hn hM⟩
theorem Ov.wide {D M:Nat}{q:Rat} (h:Ov D M q) (E:Nat) (hD:0<D) (hE:0<E):Ov (D*E) (M*E) q:=by
 obtain⟨n,e,hn⟩:=h;have h1:=gp hD;have h2:=gp hE;refine⟨n*E,?_,?_⟩
 ·rw[e,Rat.intCast_mul,Rat.natCast_mul]
  show (n:Rat) / (D:Rat)=(n:Rat)*((E:Nat):Rat) / ((D:Rat)*(E:Rat))
  grind
 ·rw[ID];exact GX _ hn
theorem Ov.add {D M N:Nat}{a b:Rat} (h1:Ov D M a) (h2:Ov D N b):Ov D (M+N) (a+b):=by
 obtain⟨n,e,hn⟩:=h1;obtain⟨m,f,hm⟩:=h2;refine⟨n+m,?_,by omega⟩;rw[e,f,Rat.intCast_add];grind
theorem Ov.neg {D M:Nat}{a:Rat} (h1:Ov D M a):Ov D M (-a):=by
 obtain⟨n,e,hn⟩:=h1;refine⟨-n,?_,by omega⟩;rw[e,Rat.intCast_neg];grind
theorem Ov.sub {D M N:Nat}{a b:Rat} (h1:Ov D M a) (h2:Ov D N b):Ov D (M+N) (a-b):=by
 rw[Rat.sub_eq_add_neg];exact h1.add h2.neg
theorem Ov.mul {D E M N:Nat}{a b:Rat} (h1:Ov D M a) (h2:Ov E N b) (hD:0<D) (hE:0<E):Ov (D*E) (M*N) (a*b):=by
 obtain⟨n,e,hn⟩:=h1;obtain⟨m,f,hm⟩:=h2;have k1:=gp hD;have k2:=gp hE;refine⟨n*m,?_,by rw[ID];exact Hm hn hm⟩;rw[e,f,Rat.intCast_mul,Rat.natCast_mul];grind
theorem Ov.zero (D:Nat):Ov D 0 0:=⟨0,by rw[show ((0:Int):Rat)=0 from rfl];grind,by simp⟩
theorem xR (q:Rat):(q.num:Rat) / (q.den:Rat)=q:=by rw[<-Rat.mkRat_eq_div,Rat.mkRat_self]
theorem Ov.bound {D M:Nat}{q:Rat} (h:Ov D M q) (hD:0<D):q.num.natAbs<=M/\q.den<=D:=by
 obtain⟨n,e,hn⟩:=h;have k1:=gp hD;have k2:=gp q.den_pos;have e2:(q.num:Rat) / (q.den:Rat)=q:=xR q
 have e3:(q.num:Rat)*(D:Rat)=(n:Rat)*(q.den:Rat):=by
  rw[e] at e2;grind
 have e4:q.num*(D:Int)=n*(q.den:Int):=by
  apply Rat.intCast_inj.1
  rw[Rat.intCast_mul,Rat.intCast_mul];exact e3
 have e5:q.num.natAbs*D=n.natAbs*q.den:=by
  have:=congrArg Int.natAbs e4;rw[ID,ID] at this;exact this
 have hc:Nat.Coprime q.num.natAbs q.den:=q.reduced;have d1:q.den ∣ D:=(Nat.Coprime.symm hc).dvd_of_dvd_mul_left ⟨n.natAbs,by rw[e5,G5]⟩;have d2:q.num.natAbs ∣ n.natAbs:=hc.dvd_of_dvd_mul_right ⟨D,by rw[<-e5]⟩;refine⟨?_,Jp hD d1⟩;rcases Ii n.natAbs with h0 | h0
 ·rw[h0,Iu] at e5;rcases Nat.mul_eq_zero.1 e5 with h | h
  ·omega
  ·omega
 ·exact GV (Jp h0 d2) hn
theorem Ov.of (q:Rat):Ov q.den q.num.natAbs q:=⟨q.num,(xR q).symm,GM _⟩
theorem Ov.ok {D M:Nat}{q:Rat} (h:Ov D M q) (hD:0<D) (h1:D<10 ^ 2000) (h2:M<10 ^ 2000):okQ q:=by
 obtain⟨b1,b2⟩:=h.bound hD;exact vT (Hf b1 h2) (Hf b2 h1)
structure OvC (D M:Nat) (z:CQ):Prop where
 re:Ov D M z.re
 im:Ov D M z.im
 pos:0<D
theorem OvC.mono {D M M':Nat}{z:CQ} (h:OvC D M z) (hM:M<=M'):OvC D M' z:=⟨h.re.mono hM,h.im.mono hM,h.pos⟩
theorem OvC.wide {D M:Nat}{z:CQ} (h:OvC D M z) (E:Nat) (hE:0<E):OvC (D*E) (M*E) z:=⟨h.re.wide E h.pos hE,h.im.wide E h.pos hE,H4 h.pos hE⟩
theorem OvC.add {D M N:Nat}{a b:CQ} (h1:OvC D M a) (h2:OvC D N b):OvC D (M+N) (a.add b):=⟨h1.re.add h2.re,h1.im.add h2.im,h1.pos⟩
theorem OvC.mul {D E M N:Nat}{a b:CQ} (h1:OvC D M a) (h2:OvC E N b):OvC (D*E) (2*(M*N)) (a.mul b) :=
 ⟨((h1.re.mul h2.re h1.pos h2.pos).sub (h1.im.mul h2.im h1.pos h2.pos)).mono (by omega),((h1.re.mul h2.im h1.pos h2.pos).add (h1.im.mul h2.re h1.pos h2.pos)).mono (by omega),H4 h1.pos h2.pos⟩
theorem OvC.real {D M:Nat}{q:Rat} (h:Ov D M q) (hD:0<D):OvC D M (CQ.real q):=⟨h,(Ov.zero D).mono (GY _),hD⟩
theorem OvC.ok {D M:Nat}{z:CQ} (h:OvC D M z) (h1:D<10 ^ 2000) (h2:M<10 ^ 2000):dE z=false:=by
 have k1:=(gC _).1 (h.re.ok h.pos h1 h2);have k2:=(gC _).1 (h.im.ok h.pos h1 h2);unfold dE;rw[k1,k2];rfl
theorem OvC.div {D E M N:Nat}{a b:CQ} (h1:OvC D M a) (h2:OvC E N b) (hb:b≠⟨0,0⟩):∃ F,F<=D*(2*(N*N))/\OvC F (2*(M*N)*E) (a.div b):=by
 obtain⟨n,e1,hn⟩:=h2.re;obtain⟨m,e2,hm⟩:=h2.im;have hE:=gp h2.pos;have hnorm:=CQ.norm_ne hb;obtain⟨k,hk⟩:∃ k:Nat,k=n.natAbs*n.natAbs+m.natAbs*m.natAbs:=⟨_,rfl⟩
 have hkI:(k:Int)=n*n+m*m:=by
  rw[hk,Int.natCast_add,Jb,Jb,Int.natAbs_mul_self',Int.natAbs_mul_self']
 have hkQ:(k:Rat)=(n:Rat)*n+(m:Rat)*m:=by
  have:=congrArg (fun x:Int=>(x:Rat)) hkI;simp only[Rat.intCast_add,Rat.intCast_mul] at this;exact this
 have hno:b.norm=(k:Rat) / ((E:Rat)*(E:Rat)):=by
  unfold CQ.norm;rw[e1,e2,hkQ];grind
 have hk0:0<k:=by
  rcases Ii k with h | h
  ·exfalso
   apply hnorm
   rw[hno,h,show ((0:Nat):Rat)=0 from rfl];grind
  ·exact h
 have hkc:=gp hk0
 have hkl:k<=2*(N*N):=by
  have:=Hm hn hn;have:=Hm hm hm;omega
 have step:∀ x:Rat,Ov (D*E) (2*(M*N)) x->Ov (D*k) (2*(M*N)*E) (x*b.norm⁻¹):=by
  rintro x ⟨X,ex,hX⟩;have hDc:=gp h1.pos;refine⟨X*E,?_,by rw[ID];exact Hm hX (by simp)⟩;rw[hno,ex,Rat.natCast_mul,Rat.natCast_mul,Rat.intCast_mul]
  show (X:Rat) / ((D:Rat)*(E:Rat))*((k:Rat) / ((E:Rat)*(E:Rat)))⁻¹=(X:Rat)*((E:Nat):Rat) / ((D:Rat)*(k:Rat))
  grind
 refine⟨D*k,G3 _ hkl,?_,?_,H4 h1.pos hk0⟩
 ·exact step _ (((h1.re.mul h2.re h1.pos h2.pos).add (h1.im.mul h2.im h1.pos h2.pos)).mono (by omega))
 ·exact step _ (((h1.im.mul h2.re h1.pos h2.pos).sub (h1.re.mul h2.im h1.pos h2.pos)).mono (by omega))
theorem qO {t:List UInt8}:∀ {m:Nat},(∀ k c,1<=k->k<=m->t[k]?=some c->c≠43/\c≠45)->dS t m=none
 | 0,_=>rfl
 | m+1,h=>by
  unfold dS;rw[if_neg,qO (fun k c h1 h2 h3=>h k c h1 (by omega) h3)];rintro (e | e)
  ·exact (h _ _ (by omega) (GM _) e).1 rfl
  ·exact (h _ _ (by omega) (GM _) e).2 rfl
theorem uE {t:List UInt8}{k0:Nat} (h0:1<=k0) (hs:t[k0]?=some 43\/t[k0]?=some 45):∀ {m:Nat},k0<=m->(∀ k c,k0<k->k<=m->t[k]?=some c->c≠43/\c≠45)->dS t m=some k0
 | 0,hm,_=>by omega
 | m+1,hm,h=>by
  unfold dS;by_cases e:m+1=k0
  ·subst e;rw[if_pos hs]
  ·rw[if_neg,uE h0 hs (by omega) (fun k c h1 h2 h3=>h k c h1 (by omega) h3)];rintro (e2 | e2)
   ·exact (h _ _ (by omega) (GM _) e2).1 rfl
   ·exact (h _ _ (by omega) (GM _) e2).2 rfl
theorem yI (r:Rt):∀ c∈fi r,c≠43/\c≠45:=by
 intro c hc;unfold fi at hc;rcases Ik.1 hc with h | h
 ·have:=jp (Hl.1 (eK r.n) _ h);exact⟨this.1,this.2.1⟩
 ·split at h
  ·rcases Ir.1 h with rfl | h
   ·decide
   ·have:=jp (Hl.1 (eK r.d) _ h);exact⟨this.1,this.2.1⟩
  ·cases h
def bT (r:Rt):List UInt8:=if fi r=[49] then [] else fi r
theorem lq (r:Rt):∀ c∈bT r,c≠43/\c≠45:=by
 intro c hc;unfold bT at hc
 split at hc
 ·cases hc
 ·exact yI r c hc
theorem nB (r:Rt):bI r=(if r.minus then [45] else [])++bT r:=by
 obtain⟨c,t,e1,e2⟩:=jQ r;have hc:=jp e2;unfold bI bT;rw[eB]
 cases r.minus
 ·simp only[G8,if_false,Hh];by_cases h:fi r=[49]
  ·rw[if_pos (Or.inl h),if_pos h,h];rfl
  ·rw[if_neg,if_neg h];rintro (e | e)
   ·exact h e
   ·rw[e1] at e;exact hc.2.1 (List.cons.inj e).1
 ·simp only[if_true,Hn,Hh];by_cases h:fi r=[49]
  ·rw[if_pos (Or.inr (by rw[h])),if_pos h,h];rfl
  ·rw[if_neg,if_neg h];rintro (e | e)
   ·exact absurd (List.cons.inj e).1 (by decide)
   ·exact h (List.cons.inj e).2
theorem F6 (r:Rt):(if bI r=[]\/bI r=[45] then bI r++[49] else bI r)=aJ r:=by
 obtain⟨c,t,e1,e2⟩:=jQ r;have hc:=jp e2;rw[nB,eB];unfold bT;by_cases h:fi r=[49]
 ·rw[if_pos h,h]
  cases r.minus
  ·rfl
  ·rfl
 ·rw[if_neg h];rw[if_neg];rintro (e | e)
  ·cases hm:r.minus
   ·rw[hm,e1] at e;cases e
   ·rw[hm] at e;cases e
  ·cases hm:r.minus
   ·rw[hm] at e;simp only[G8,if_false,Hh] at e;rw[e1] at e;exact hc.2.1 (List.cons.inj e).1
   ·rw[hm] at e;simp only[if_true,Hn,Hh] at e;have:=(List.cons.inj e).2;rw[e1] at this;cases this
theorem rJ {l:List UInt8}{k:Nat}{c:UInt8} (h:l[k]?=some c):c∈l:=I5 h
theorem t_ (X l:List UInt8) (d:UInt8) (hX:1<=X.length) (hd:d=43\/d=45) (hl:∀ c∈l,c≠43/\c≠45):mf (X++d :: l)=(X,Lib.trimPrefix (d :: l) [43]):=by
 have hs:dS (X++d :: l) ((X++d :: l).length-1)=some X.length:=by
  refine uE hX ?_ (by simp) (fun k c h1 _ h3=>?_)
  ·rw[IG (GM _),IX];rcases hd with rfl | rfl
   ·exact Or.inl rfl
   ·exact Or.inr rfl
  ·rw[IG (by omega),show k-X.length=(k-X.length-1)+1 from by omega,I9] at h3;exact hl c (rJ h3)
 unfold mf;rw[hs];simp only;rw[JO rfl,List.drop_left' rfl]
theorem Ci (l:List UInt8) (hl:∀ k c,1<=k->l[k]?=some c->c≠43/\c≠45):mf l=([48],l):=by
 unfold mf;rw[qO (fun k c h1 _ h3=>hl k c h1 h3)]
theorem EF (y:Rt):∀ k c,1<=k->(bI y)[k]?=some c->c≠43/\c≠45:=by
 intro k c h1 h3;rw[nB] at h3
 cases hm:y.minus
 ·rw[hm] at h3;exact lq y c (rJ h3)
 ·rw[hm] at h3;simp only[if_true,Hn,Hh] at h3;rw[show k=(k-1)+1 from by omega,I9] at h3;exact lq y c (rJ h3)
theorem GB (x y:Rt) (b:Bool):mf ((if b then [] else aJ x++(if y.minus then [] else [43]))++bI y)=(if b then [48] else aJ x,bI y):=by
 cases b
 ·simp only[G8,if_false];have hX:=uh x
  cases hm:y.minus
  ·simp only[G8,if_false];have hy:bI y=bT y:=by rw[nB,hm];rfl
   rw[Hk,Jh,t_ _ _ 43 hX (Or.inl rfl) (by rw[hy];exact lq y)];unfold Lib.trimPrefix;rw[jx,decide_eq_true rfl];rfl
  ·simp only[if_true,Ic];have hy:bI y=45 :: bT y:=by rw[nB,hm];rfl
   rw[hy,t_ _ _ 45 hX (Or.inr rfl) (lq y)];unfold Lib.trimPrefix;rw[jx,decide_eq_false (by decide)];rfl
 ·simp only[if_true,Hh];exact Ci _ (EF y)
theorem uH (l:List UInt8):Lib.hasSuffix (l++[105]) [105]=true/\Lib.trimSuffix (l++[105]) [105]=l:=by
 have h:Lib.hasSuffix (l++[105]) [105]=true:=by
  unfold Lib.hasSuffix;rw[J1];exact⟨l,rfl⟩
 refine⟨h,?_⟩;unfold Lib.trimSuffix;rw[h];simp
theorem gU {z:CQ} (h:dE z=false):fz (txt z)=some z:=by
 by_cases hi:z.im=0
 ·have e:z=CQ.real z.re:=by cases z;simp only at hi;subst hi;rfl
  rw[e] at h |-;exact ql h
 ·have hb:=h;unfold dE at hb;simp only[If] at hb;have hyn:(ct z).y.n≠0:=fun e=>hi ((bk _).1 e);obtain⟨b,hbx⟩:∃ b:Bool,b=decide ((ct z).x.n=0):=⟨_,rfl⟩
  have hv:bE (ct z)=((if b then [] else aJ (ct z).x++(if (ct z).y.minus then [] else [43]))++bI (ct z).y)++[105]:=by
   unfold bE;rw[if_neg hyn,hbx];simp only[decide_eq_true_eq]
  have hg:gV (bE (ct z))=some (ct z):=by
   have hl1:=pj hb.1;have hl2:=pj hb.2
   have hl3:(bI (ct z).y).length<=4002:=by
    unfold bI
    split
    ·rw[Hd];have:(aJ (ct z).y).length<=4002:=hl2;omega
    ·exact hl2
   have hlen:(bE (ct z)).length<=8008:=by
    rw[hv];have:(aJ (ct z).x).length<=4002:=hl1;simp only[GW,G_,Id]
    split<;>(try split)<;>simp<;>omega
   have hp:fZ (bE (ct z))=(if b then [48] else aJ (ct z).x,aJ (ct z).y):=by
    unfold fZ;rw[hv,(uH _).1,(uH _).2,GB];simp only[if_true];rw[F6]
   have hx:dl (if b then [48] else aJ (ct z).x)=some (ct z).x:=by
    cases b
    ·exact kb (jm z.re)
    ·have:(ct z).x.n=0:=by simpa using hbx
     have h0:z.re=0:=(bk _).1 this
     show dl [48]=some (rt z.re)
     rw[h0,dU];exact mK
   unfold gV;rw[if_neg (by omega),hp];simp only;rw[hx,show dl (aJ (ct z).y)=some (ct z).y from kb (jm z.im)];simp only;rw[if_pos ⟨trivial,hb.1,hb.2⟩]
  unfold fz txt;simp only[JW];rw[hg];simp only[JU]
  show some (⟨toQ (rt z.re),toQ (rt z.im)⟩:CQ)=some z
  rw[wK,wK]
theorem rX {z:CQ} (h:dE z=false):dY z=(txt z,0):=by unfold dY;rw[if_neg (by rw[h];decide)]
theorem lS:txt ⟨0,0⟩=⟨#[48]⟩:=by decide +kernel
theorem yE:dE ⟨0,0⟩=false:=by decide +kernel
theorem yx {a b:CQ} (ha:dE a=false) (hb:dE b=false) (h:txt a=txt b):a=b:=by
 have e:=gU ha;rw[h,gU hb] at e;exact (Option.some.inj e).symm
structure ik (w:World) (g cap:Nat) (zs:List CQ):Prop where
 lt:g<w.heap.size
 fr:∀ j,w.frozen? ⟨g,j,none⟩=false
 nu:∀ j z,w.cell? ⟨g,j,none⟩≠some (.int .u64 z)
 row:∃ es:List Value,es.length=zs.length/\(∀ i (h:i<es.length) j u,(cellsOf es[i])[j]?=some u->w.cell? ⟨g,i*6+j,none⟩=some u)/\∀ i (h:i<es.length) (h':i<zs.length),IsK w es[i] zs[i]
 cap:zs.length<=cap/\cap<=maxLen
theorem ik.isP {w:World}{g cap:Nat}{zs:List CQ} (h:ik w g cap zs):IsP w (.slice (some ⟨g,0,none⟩) zs.length cap) zs:=by
 obtain⟨es,h1,h2,h3⟩:=h.row;refine⟨es,h1,⟨_,cap,by rw[h1],by rw[h1];exact h.cap.1,h.cap.2,fun _=>⟨g,0,rfl,h.lt,fun i hi j u hu=>?_⟩⟩,h3⟩;rw[Hp];exact h2 i hi j u hu
theorem ik.below {w w':World}{g cap:Nat}{zs:List CQ} (h:ik w g cap zs) (hb:Below w.heap.size w w'):ik w' g cap zs:=by
 obtain⟨es,h1,h2,h3⟩:=h.row;have hblk:=hb.block g h.lt;have hc:∀ j,w'.cell? ⟨g,j,none⟩=w.cell? ⟨g,j,none⟩:=fun j=>World.cell?_of_block (w:=w) (w':=w') (a:=⟨g,j,none⟩) hblk;refine⟨GN h.lt hb.size,fun j=>?_,fun j z=>by rw[hc];exact h.nu j z,⟨es,h1,fun i hi j u hu=>by rw[hc];exact h2 i hi j u hu,fun i hi hi'=>(h3 i hi hi').below hb⟩,h.cap⟩;have:=h.fr j;unfold World.frozen? at this |-;simp only[hblk];exact this
theorem ik.of_own {w:World}{base:Nat}{v:Value}{zs:List CQ} (h:dV w base v zs) (hz:0<zs.length):∃ g cap,v=.slice (some ⟨g,0,none⟩) zs.length cap/\base<=g/\ik w g cap zs:=by
 obtain⟨es,h1,h2,h3⟩:=h.p;have hrow:=eY (lm h1 h3) h2;rcases h2.2 with ⟨rfl,h0⟩ | ⟨g,cap,cur,rfl,hg,hh,hn,hm,hs,ht⟩
 ·omega
 ·obtain⟨p,c,e,e1,e2,e3⟩:=hrow;obtain⟨b,o,e4,hlt,hc⟩:=e3 (by omega);subst e4;simp only[Value.slice.injEq,Option.some.injEq,Addr.mk.injEq,and_true] at e;obtain⟨⟨rfl,rfl⟩,-,rfl⟩:=e;refine⟨g,cap,by rw[h1],hg,hlt,fun j=>by rw[World.frozen?,hh];simp,fun j z=>h.nu g rfl j z,⟨es,h1,fun i hi j u hu=>?_,h3⟩,by omega,hm⟩;have:=hc i hi j u hu
  rwa [Hp] at this
theorem ik.set {w:World}{g cap k:Nat}{zs:List CQ}{a b c d e f:Value}{z:CQ} (h:ik w g cap zs) (hk:k<zs.length) (hK:IsK w (.agg #[a,b,c,d,e,f]) z) :
  ik (w.setCells g (k*6) [a,b,c,d,e,f]) g cap (zs.set k z)/\(∀ u l,IsU w u l->IsU (w.setCells g (k*6) [a,b,c,d,e,f]) u l)/\Below g w (w.setCells g (k*6) [a,b,c,d,e,f])/\∀ i,i≠g->(w.setCells g (k*6) [a,b,c,d,e,f]).heap[i]?=w.heap[i]?:=by
 obtain⟨es,h1,h2,h3⟩:=h.row;have h6:=lm h1 h3;obtain⟨xm,xp,xl,xc,xq,xk,xd,ym,yp,yl,yc,yq,yk,yd,he⟩:=hK.forms
 have hin:∀ j,j<6->(w.cell? ⟨g,k*6+j,none⟩).isSome=true:=fun j hj=>by
  have hlt:j<(cellsOf (es[k]'(by omega))).length:=by rw[h6 _ (G7 _)];exact hj
  rw[h2 k (by omega) j _ (G4 hlt)];rfl
 have hnot:∀ u∈[a,b,c,d,e,f],∀ z,u≠.int .u64 z:=by
  simp only[Value.agg.injEq,Array.mk.injEq,List.cons.injEq,and_true] at he;obtain⟨rfl,rfl,rfl,rfl,rfl,rfl⟩:=he;intro u hu z e;subst e;simp at hu
 have hcin:=World.cell?_setCells_in g [a,b,c,d,e,f] (k*6) w hin;have hcout:=fun x h=>World.cell?_setCells_out g [a,b,c,d,e,f] (k*6) w x h
 have hb:Below g w (w.setCells g (k*6) [a,b,c,d,e,f]) :=
  ((((((Ki g w).setCell (p:=⟨g,k*6,none⟩) (GM _) a).setCell (p:=⟨g,k*6+1,none⟩) (GM _) b).setCell (p:=⟨g,k*6+1+1,none⟩) (GM _) c).setCell (p:=⟨g,k*6+1+1+1,none⟩) (GM _) d).setCell (p:=⟨g,k*6+1+1+1+1,none⟩) (GM _) e).setCell (p:=⟨g,k*6+1+1+1+1+1,none⟩) (GM _) f
 have hU:∀ u l,IsU w u l->IsU (w.setCells g (k*6) [a,b,c,d,e,f]) u l:=fun u l hu=>by
  obtain⟨p,cp,e1,e2,e3,e4⟩:=hu;refine⟨p,cp,e1,e2,e3,fun hl=>?_⟩;obtain⟨b',o,e5,hlt,hc⟩:=e4 hl;refine⟨b',o,e5,GN hlt hb.size,fun j hj=>?_⟩;rw[hcout ⟨b',o+j,none⟩ (fun (hbb:b'=g) _=>?_)]
  ·exact hc j hj
  ·subst hbb;exact absurd (hc j hj) (h.nu _ _)
 refine⟨⟨GN h.lt hb.size,fun j=>?_,fun j z' hc=>?_,⟨es.set k (.agg #[a,b,c,d,e,f]),by simp[h1],fun i hi j u hu=>?_,fun i hi hi'=>?_⟩,by simpa using h.cap⟩,hU,hb,fun i hi=>?_⟩
 ·rw[World.frozen?_setCells];exact h.fr j
 ·by_cases hj:k*6<=j/\j<k*6+6
  ·obtain⟨r,rfl⟩:∃ r,j=k*6+r:=⟨j-k*6,by omega⟩;have hr:r < [a,b,c,d,e,f].length:=by simp;omega
   rw[hcin r hr] at hc;exact hnot _ (G7 hr) z' (Option.some.inj hc)
  ·rw[hcout ⟨g,j,none⟩ (fun _ _=>by show j<k*6\/k*6+[a,b,c,d,e,f].length<=j;simp;omega)] at hc;exact h.nu j z' hc
 ·have hi0:i<es.length:=by simpa using hi
  by_cases hik:k=i
  ·subst hik;rw[JI] at hu;have hr:j < [a,b,c,d,e,f].length:=(Ig.1 hu).1;rw[hcin j hr];rw[<-hu];show some _=[a,b,c,d,e,f][j]?;rw[G4 hr]
  ·rw[JV hik] at hu
   have hj:j<6:=by
    have:=(Ig.1 hu).1
    rwa [h6 _ (G7 hi0)] at this
   rw[hcout ⟨g,i*6+j,none⟩ (fun _ _=>by show i*6+j<k*6\/k*6+[a,b,c,d,e,f].length<=i*6+j;simp;omega)];exact h2 i hi0 j u hu
 ·by_cases hik:k=i
  ·subst hik;rw[JI,JI];exact hK.keepU hU
  ·rw[JV hik,JV hik];exact (h3 i (by simpa using hi) (by simpa using hi')).keepU hU
 ·show ((((((w.setCell ⟨g,k*6,none⟩ a).setCell ⟨g,k*6+1,none⟩ b).setCell ⟨g,k*6+1+1,none⟩ c).setCell ⟨g,k*6+1+1+1,none⟩ d).setCell ⟨g,k*6+1+1+1+1,none⟩ e).setCell ⟨g,k*6+1+1+1+1+1,none⟩ f).heap[i]?=_
  rw[Below.heap_setCell _ _ _ _ hi,Below.heap_setCell _ _ _ _ hi,Below.heap_setCell _ _ _ _ hi,Below.heap_setCell _ _ _ _ hi,Below.heap_setCell _ _ _ _ hi,Below.heap_setCell _ _ _ _ hi]
theorem dV.apart {w w':World}{base g:Nat}{v:Value}{zs:List CQ} (h:dV w base v zs) (hg:g<base) (hk:∀ i,i≠g->w'.heap[i]?=w.heap[i]?) (hU:∀ u l,IsU w u l->IsU w' u l):dV w' base v zs:=by
 obtain⟨es,h1,h2,h3⟩:=h.p;refine⟨⟨es,h1,⟨h2.1,?_⟩,fun i hi hi'=>(h3 i hi hi').keepU hU⟩,fun b hb j z hc=>?_⟩
 ·rcases h2.2 with h | ⟨b,cap,cur,rfl,hb,hh,r⟩
  ·exact Or.inl h
  ·exact Or.inr ⟨b,cap,cur,rfl,hb,by rw[hk b (by omega)];exact hh,r⟩
 ·have hlt:=(h2.lt b hb).1;rw[World.cell?_of_block (w:=w) (w':=w') (a:=⟨b,j,none⟩) (hk b (by omega))] at hc;exact h.nu b hb j z hc
theorem dV.lower {w:World}{base base':Nat}{v:Value}{zs:List CQ} (h:dV w base v zs) (hb:base'<=base):dV w base' v zs:=by
 obtain⟨es,h1,h2,h3⟩:=h.p;refine⟨⟨es,h1,⟨h2.1,?_⟩,h3⟩,h.nu⟩;rcases h2.2 with h | ⟨b,cap,cur,rfl,hg,r⟩
 ·exact Or.inl h
 ·exact Or.inr ⟨b,cap,cur,rfl,by omega,r⟩
theorem cE.blk {w w':World}{k:Nat}{a b c d e f:Value} (h:cE w k a b c d e f) (hs:w.heap.size<=w'.heap.size) (hb:w'.heap[k]?=w.heap[k]?):cE w' k a b c d e f:=by
 have hc:∀ j,w'.cell? ⟨k,j,none⟩=w.cell? ⟨k,j,none⟩:=fun j=>World.cell?_of_block (w:=w) (w':=w') (a:=⟨k,j,none⟩) hb;exact⟨GN h.lt hs,(hc 0).trans h.c0,(hc 1).trans h.c1,(hc 2).trans h.c2,(hc 3).trans h.c3,(hc 4).trans h.c4,(hc 5).trans h.c5⟩
theorem dj.blk {w w':World}{k:Nat}{a b c d e f:Value} (h:dj w k a b c d e f) (hb:w'.heap[k]?=w.heap[k]?):dj w' k a b c d e f:=⟨hb.trans h.hp,h.na,h.nb,h.nc,h.nd,h.ne,h.nf⟩
theorem Cb {w:World}{base:Nat}{a b c d e f:Value}{z:CQ} (hK:IsK w (.agg #[a,b,c,d,e,f]) z) (hb:base<=w.heap.size):dV (w.alloc (.cells #[a,b,c,d,e,f] 110)) base (.slice (some ⟨w.heap.size,0,none⟩) 1 1) [z]:=by
 obtain⟨xm,xp,xl,xc,xq,xk,xd,ym,yp,yl,yc,yq,yk,yd,he⟩:=hK.forms;simp only[Value.agg.injEq,Array.mk.injEq,List.cons.injEq,and_true] at he;obtain⟨rfl,rfl,rfl,rfl,rfl,rfl⟩:=he;refine⟨⟨[.agg #[.bool xm,.slice xp xl xc,.slice xq xk xd,.bool ym,.slice yp yl yc,.slice yq yk yd]],rfl,⟨rfl,Or.inr ⟨w.heap.size,1,_,rfl,hb,heap_alloc_new w _,GM _,by simp[maxLen],rfl,rfl⟩⟩,fun i hi hi'=>?_⟩,fun g hg j u hc=>?_⟩
 ·simp at hi;subst hi;exact hK.below (au _ _)
 ·simp only[Value.ownBlock,Option.some.injEq] at hg;subst hg;rw[World.cell?,heap_alloc_new] at hc;simp only[Hz,G8,if_false] at hc;have:=Ib hc;simp at this
end Go.Proofs.YtmakbmhlemhgeaaGreatDoor
