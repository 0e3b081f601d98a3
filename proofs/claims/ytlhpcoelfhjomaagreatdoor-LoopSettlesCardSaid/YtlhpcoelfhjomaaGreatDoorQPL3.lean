/- L -/
import Derived.Laws.IdiomCopy
import Derived.Test.YtlhpcoelfhjomaaGreatDoorQLP10
import Derived.Test.YtlhpcoelfhjomaaGreatDoorQPL1
import Derived.Test.YtlhpcoelfhjomaaGreatDoorQRng2
set_option linter.all false
set_option maxRecDepth 100000
set_option maxHeartbeats 8000000
namespace Go.Proofs.YtlhpcoelfhjomaaGreatDoor
open Go.RowKit Dg
def lz (x:CQ) (zs:List CQ) (j:Nat):CQ:=(zs.drop j).foldr (fun z acc=>(acc.mul x).add z) ⟨0,0⟩
theorem A8 (x:CQ) (zs:List CQ):lz x zs zs.length=⟨0,0⟩:=by unfold lz;rw[K_];rfl
theorem yg (x:CQ) {zs:List CQ}{j:Nat} (h:j<zs.length):lz x zs j=((lz x zs (j+1)).mul x).add zs[j]:=by
 unfold lz;rw[Jr h];rfl
def atL (zs:List CQ) (x:CQ):CQ:=lz x zs 0
def pW:Nat->Nat
 | 0=>1
 | n+1=>2*(pW n+2000)+1+2000+1
theorem Dj {n:Nat} (h:n<=7):pW n<=764000:=by
 have:∀ m≤7,pW m<=764000:=by decide
 exact this n h
theorem A9 {n:Nat} (h:n<7):2*(pW n+2000)+1+2000+1<=764000:=Dj (n:=n+1) h
theorem IsV.parts {w:World}{a b c d e f:Value}{u:Vl} (h:IsV w (.agg #[a,b,c,d,e,f]) u):IsR w (.agg #[a,b,c]) u.x/\IsR w (.agg #[d,e,f]) u.y:=by
 obtain⟨x1,x2,x3,y1,y2,y3,he,hx,hy⟩:=h;obtain⟨rfl,rfl,rfl,rfl,rfl,rfl⟩:a=x1/\b=x2/\c=x3/\d=y1/\e=y2/\f=y3:=by simpa using he
 exact⟨hx,hy⟩
theorem atN (vp vx:Value) (zs:List CQ) (x:CQ) (w:World) (hp:IsP w vp zs) (hx:IsV w vx (ct x)) (hs:SzL 2000 zs) (hsx:SzV 2000 (ct x)) (hlen:zs.length<=7) :
  Calls Tryz.prog 126 #[vp,vx] w fun e w'=>∃ v',e=.returned v'/\IsV w' v' (ct (atL zs x))/\Below w.heap.size w w':=by
 obtain⟨p,c,rfl,-⟩:=id hp.form;obtain⟨a,b,c',d,e,f,rfl,hax,hay⟩:=id hx;go_enter Tryz.func126,Tryz.ntmps126;go_upto_region 1 with fail
 have q1:=cC.new w a b c' d e f 93;have m1:=aj w (.cells #[a,b,c',d,e,f] 93);have z1:=size_alloc w (.cells #[a,b,c',d,e,f] 93);generalize w.alloc (.cells #[a,b,c',d,e,f] 93)=w1 at *
 have q3:=du.new w1 (.bool false) (.slice none 0 0) (.slice none 0 0) (.bool false) (.slice none 0 0) (.slice none 0 0) nofun nofun nofun nofun nofun nofun;have m3:=aj w1 (.cells #[.bool false,.slice none 0 0,.slice none 0 0,.bool false,.slice none 0 0,.slice none 0 0] 93);generalize w1.alloc (.cells #[.bool false,.slice none 0 0,.slice none 0 0,.bool false,.slice none 0 0,.slice none 0 0] 93)=w3 at *
 rw[z1] at q3;have q1:=q1.below m3;have MD:=Ip (LK m1 m3);have B3:=Ip q3;have Q1:=Ip q1;have HX:=Ip (hx.below MD.out);have HP:=Ip (hp.below MD.out);clear q1 q3 m1 m3 z1 hax hay hx hp;go_wp2_with fail
 refine (kJ 0 w3 (by decide) (by decide)).mono ?_;rintro e w4 ⟨v4,rfl,hv4,hb4⟩;go_wp2_with fail
 refine (fI _ _ _ hv4).mono ?_;rintro e w5 ⟨v5,rfl,hv5,hb5⟩;have hB5:=LK hb4 hb5;have hv5:IsV w5 v5 (ct (CQ.real 0)):=by rw[<-dX];exact hv5
 have hgB:w.heap.size+2<=w5.heap.size:=by have:=B3.out.lt;have:=hB5.size;have:=MD.out.size;omega
 obtain⟨x1,x2,x3,y1,y2,y3,rfl,hx5,hy5⟩:=hv5;obtain⟨xm,xp,xl,xc,xq,xk,xd,hxe⟩:=hx5.form;obtain⟨ym,yp,yl,yc,yq,yk,yd,hye⟩:=hy5.form;obtain⟨rfl,rfl,rfl⟩:=fh hxe;obtain⟨rfl,rfl,rfl⟩:=fh hye;go_upto_region 2 with fail
 have B8:=du.new w5 (.bool xm) (.slice xp xl xc) (.slice xq xk xd) (.bool ym) (.slice yp yl yc) (.slice yq yk yd) nofun nofun nofun nofun nofun nofun;have m5:=aj w5 (.cells #[.bool xm,.slice xp xl xc,.slice xq xk xd,.bool ym,.slice yp yl yc,.slice yq yk yd] 93);generalize w5.alloc (.cells #[.bool xm,.slice xp xl xc,.slice xq xk xd,.bool ym,.slice yp yl yc,.slice yq yk yd] 93)=wl at *
 generalize hg:w5.heap.size=gB at B8 hgB m5;have hvl:IsV wl (.agg #[.bool xm,.slice xp xl xc,.slice xq xk xd,.bool ym,.slice yp yl yc,.slice yq yk yd]) (ct (CQ.real 0)):=⟨_,_,_,_,_,_,rfl,by rw[<-hg] at m5;exact hx5.below m5,by rw[<-hg] at m5;exact hy5.below m5⟩;have hs3:w3.heap.size<=gB:=by rw[<-hg];exact hB5.size
 have hBl:Below w3.heap.size w3 wl:=hB5.trans (m5.mono hs3);clear hx5 hy5 hb4 hb5 hg hB5;have HZ:lz x zs zs.length=CQ.real 0:=A8 x zs;have HB8:=Ip B8;have HV8:=Ip hvl;have HBl:=Ip hBl;clear B8 hvl hBl m5;go_wp2;go_loopw [6] (fun s6 wr=>∃ (j:Nat) (z:Int) (xm:Bool) (xp:Option Addr) (xl xc:Nat) (xq:Option Addr) (xk xd:Nat) (ym:Bool) (yp:Option Addr) (yl yc:Nat) (yq:Option Addr) (yk yd:Nat),s6=.int .i64 z/\z=(j:Int)-1/\j<=zs.length/\du wr gB (.bool xm) (.slice xp xl xc) (.slice xq xk xd) (.bool ym) (.slice yp yl yc) (.slice yq yk yd)/\IsV wr (.agg #[.bool xm,.slice xp xl xc,.slice xq xk xd,.bool ym,.slice yp yl yc,.slice yq yk yd]) (ct (lz x zs j))/\Below gB wl wr/\Hid (SzV (pW (zs.length-j)) (ct (lz x zs j)))) (fun s6 _=>(intOf s6+1).toNat)
 case atStart=>exact⟨zs.length,_,_,_,_,_,_,_,_,_,_,_,_,_,_,_,rfl,rfl,Iw _,HB8.out,by rw[HZ];exact HV8.out,LN _ _,by unfold Hid;rw[HZ,JJ];exact⟨.zero (by decide),.zero (by decide)⟩⟩
 case round =>
  obtain⟨j,z,xm,xp,xl,xc,xq,xk,xd,ym,yp,yl,yc,yq,yk,yd,rfl,hz,hj,hown,hv,hbr,hsz⟩:=hrel;have HB3r:=Ip (HBl.out.trans (hbr.mono hs3));by_cases h0:j=0
  ·subst h0;obtain rfl:z=-1:=by omega
   obtain⟨hx,hy⟩:=hv.parts;have B8:=B3.out.below HB3r.out;have k0:=B8.cell 0;have k1:=B8.cell 1;have k2:=B8.cell 2;have k3:=B8.cell 3;have k4:=B8.cell 4;have k5:=B8.cell 5;have f0:=B8.fr 0;have f1:=B8.fr 1;have f2:=B8.fr 2;have f3:=B8.fr 3;have f4:=B8.fr 4;have f5:=B8.fr 5;have o0:=hown.cell 0;have o1:=hown.cell 1;have o2:=hown.cell 2;have o3:=hown.cell 3;have o4:=hown.cell 4;have o5:=hown.cell 5;have P:=Ip (B8.putV hx hy);have M8:=Ip (P.out.2.2 _ _ (LK MD.out HB3r.out) (by omega));clear hx hy B8 hown hv HB8 HV8 hsz hz;go_wp2_with fail
   have q0:=P.out.1.cell 0;have q1:=P.out.1.cell 1;have q2:=P.out.1.cell 2;have q3:=P.out.1.cell 3;have q4:=P.out.1.cell 4;have q5:=P.out.1.cell 5;refine LM (v:=.agg #[.bool xm,.slice xp xl xc,.slice xq xk xd,.bool ym,.slice yp yl yc,.slice yq yk yd]) (by simp[results,Tryz.results126,go_sem,eU] at q0 q1 q2 q3 q4 q5 |-;simp[results,Tryz.results126,go_sem,q0,q1,q2,q3,q4,q5]) rfl ⟨_,rfl,P.out.2.1,M8.out⟩
  ·obtain⟨k,rfl⟩:∃ k,j=k+1:=⟨j-1,by omega⟩;obtain rfl:z=(k:Int):=by omega
   have hk:k<zs.length:=by omega
   clear HB8 HV8 hz h0;obtain⟨Br,o,rfl,hlt,pm,pp,pl,pc,pq,pk,pd,rm,rp,rl,rc,rq,rk,rd,hkk,a0,a1,a2,a3,a4,a5⟩:=HP.out.get hk;have hstep:=yg x hk;have hzk:=hs _ (IS hk);generalize zs[k]=zk at hkk hstep hzk;have hS6:=A9 (n:=zs.length-(k+1)) (by omega);have hSn:pW (zs.length-k)=2*(pW (zs.length-(k+1))+2000)+1+2000+1:=by rw[show zs.length-k=zs.length-(k+1)+1 from by omega];rfl
   have F1:=Ip (hsz.out.fewV hsx (by omega));have hz1:=hsz.out.times hsx;rw[dA] at hz1;have F2:=Ip (And.intro (hz1.x.fewR hzk.x (by omega)) (hz1.y.fewR hzk.y (by omega)));have hz2:=hz1.plus hzk;rw[gF,<-hstep,<-hSn] at hz2;have HZ2:=Ip hz2;have HST:=Ip hstep;have hgr:gB<wr.heap.size:=hown.lt;clear hz1 hz2 hstep hS6 hSn hzk hsz;go_upto_region 5 with fail
   have m4:Below wr.heap.size wr wr.drew:=(LN _ _).drew;refine av (fun w'=>∃ x:az gB wr.drew,w'=x.w) (fun i=>i == 0||i == 2||i == 7||i == 8) (by kernel_rfl) (by kernel_rfl) ⟨⟨_,LN _ _⟩,rfl⟩ ?_;generalize wr.drew=wd at *
   have hB0:Below wd.heap.size wd wd:=LN _ _;have hz:gB<=wd.heap.size:=by have:=m4.size;omega
   have HB3d:=LK HB3r.out m4;have e1:=fun x:az gB wd=>(Q1.out.below HB3d).at x.h (by omega);have b0:=fun x=>(e1 x).c0;have b01:=fun x=>(e1 x).c1;have b02:=fun x=>(e1 x).c2;have b03:=fun x=>(e1 x).c3;have b04:=fun x=>(e1 x).c4;have b05:=fun x=>(e1 x).c5;have r0:=fun x:az gB wd=>(x.h.cell (p:=⟨Br,o+k*6,none⟩) (by show Br<gB;omega)).trans ((HB3d.cell (p:=⟨Br,o+k*6,none⟩) hlt).trans a0);have r1:=fun x:az gB wd=>(x.h.cell (p:=⟨Br,o+k*6+1,none⟩) (by show Br<gB;omega)).trans ((HB3d.cell (p:=⟨Br,o+k*6+1,none⟩) hlt).trans a1);have r2:=fun x:az gB wd=>(x.h.cell (p:=⟨Br,o+k*6+2,none⟩) (by show Br<gB;omega)).trans ((HB3d.cell (p:=⟨Br,o+k*6+2,none⟩) hlt).trans a2);have r3:=fun x:az gB wd=>(x.h.cell (p:=⟨Br,o+k*6+3,none⟩) (by show Br<gB;omega)).trans ((HB3d.cell (p:=⟨Br,o+k*6+3,none⟩) hlt).trans a3);have r4:=fun x:az gB wd=>(x.h.cell (p:=⟨Br,o+k*6+4,none⟩) (by show Br<gB;omega)).trans ((HB3d.cell (p:=⟨Br,o+k*6+4,none⟩) hlt).trans a4);have r5:=fun x:az gB wd=>(x.h.cell (p:=⟨Br,o+k*6+5,none⟩) (by show Br<gB;omega)).trans ((HB3d.cell (p:=⟨Br,o+k*6+5,none⟩) hlt).trans a5);have Q:=Ip (hown.below m4);have o0:=Q.out.cell 0;have o1:=Q.out.cell 1;have o2:=Q.out.cell 2;have o3:=Q.out.cell 3;have o4:=Q.out.cell 4;have o5:=Q.out.cell 5;have HVd:=Ip (hv.below m4);have HXd:=Ip (HX.out.below HB3d);have HKd:=Ip (hkk.v.below HB3d);have HBw:=Ip (hbr.trans (m4.mono (JI hgr)));clear e1 hown hv hkk hbr a0 a1 a2 a3 a4 a5 HB3d m4 HP HX;refine ap rfl rfl (fun K hK=>?_)
   go_simp;refine hK _ _ ⟨⟨_,hB0.mono hz⟩,rfl⟩ ?_;clear hK K;try simp only[Act.put,It,Is,Ir,Iq,Iu,Iv]
   refine ak 1 1 _ _ _ (by kernel_rfl) ?_;simp only[Ix,IC,Iy,IA];repeat (go_big_quiet_step (fail))
   refine wpQuiet_nil ?_;refine ap rfl rfl (fun K hK=>?_);go_simp;refine (jQ _ _ _ _ _ HVd.out HXd.out F1.out).mono ?_;rintro e w6 ⟨v6,rfl,hv6,hb6⟩;rw[dA] at hv6;refine hK _ _ ⟨⟨_,hb6.mono hz⟩,rfl⟩ ?_;clear hK K;try simp only[Act.put,It,Is,Ir,Iq,Iu,Iv]
   refine ak 4 3 _ _ _ (by kernel_rfl) ?_;simp only[Ix,IC,Iy,IA];repeat (go_big_quiet_step (fail))
   refine wpQuiet_nil ?_;refine ap rfl rfl (fun K hK=>?_);go_simp;refine (yC _ _ _ _ _ hv6 (HKd.out.below hb6) F2.out.1 F2.out.2).mono ?_;rintro e w7 ⟨v7,rfl,hv7,hb7⟩;have hB7:=LK hb6 hb7;rw[gF,<-HST.out] at hv7;refine hK _ _ ⟨⟨_,hB7.mono hz⟩,rfl⟩ ?_;clear hK K;try simp only[Act.put,It,Is,Ir,Iq,Iu,Iv]
   obtain⟨x1,x2,x3,y1,y2,y3,rfl,hx,hy⟩:=hv7;obtain⟨sm,sp,sl,sc,sq,sk,sd,hxe⟩:=hx.form;obtain⟨tm,tp,tl,tc,tq,tk,td,hye⟩:=hy.form;obtain⟨rfl,rfl,rfl⟩:=fh hxe;obtain⟨rfl,rfl,rfl⟩:=fh hye;have B8:=Q.out.below hB7;have k0:=B8.cell 0;have k1:=B8.cell 1;have k2:=B8.cell 2;have k3:=B8.cell 3;have k4:=B8.cell 4;have k5:=B8.cell 5;have f0:=B8.fr 0;have f1:=B8.fr 1;have f2:=B8.fr 2;have f3:=B8.fr 3;have f4:=B8.fr 4;have f5:=B8.fr 5;have P:=Ip (B8.putV hx hy);refine ap rfl rfl (fun K hK=>?_);go_simp;refine hK undef _ ⟨⟨_,P.out.2.2 _ _ (hB7.mono hz) (Iw _)⟩,rfl⟩ ?_;clear hK K;try simp only[Act.put,It,Is,Ir,Iq,Iu,Iv]
   refine aE ?_;have M8:=Ip (P.out.2.2 gB wl (HBw.out.trans (hB7.mono hz)) (Iw _));clear hx hy hxe hye B8 k0 k1 k2 k3 k4 k5 f0 f1 f2 f3 f4 f5 o0 o1 o2 o3 o4 o5 hv6 hb6 hb7 hB0 r0 r1 r2 r3 r4 r5 b0 b01 b02 b03 b04 b05;go_wp2;go_roundw;case rel=>exact⟨k,_,_,_,_,_,_,_,_,_,_,_,_,_,_,_,rfl,by go_num,by omega,P.out.1,P.out.2.1,M8.out,HZ2.out⟩
   case measure=>simp[intOf]<;>omega
theorem G_ (F:FuncId) (b:Value) (φ:CQ->CQ) (s:ByteArray) (w:World) (hG:Gw w) (EN:∀ (args:Array Value) (w:World),(callFunc F args).run Tryz.prog w=.ok (.enter F args) w)
  (hF:∀ p,gJ s=some p->∀ (x:Value) (w':World),Below w.heap.size w w'->IsV w' x (ct p)->Calls Tryz.prog F #[b,x] w' fun e w''=>∃ v,e=.returned v/\IsV w'' v (ct (φ p))/\Below w'.heap.size w' w'') :
  Calls Tryz.prog 125 #[.string s,.func (.func F) #[b] #[]] w fun e w'=>e=.returned (.tuple #[.string (ofC φ s).1,.int .i64 (ofC φ s).2])/\Below w.heap.size w w':=by
 have HF:=Ip hF;clear hF;go_enter Tryz.func125,Tryz.ntmps125;go_wp2_with fail
 refine (kU s w hG).mono ?_;rintro e w1 ⟨v,ok,rfl,hcase,hb1⟩;rcases hcase with ⟨z,hz,rfl,hv⟩ | ⟨hz,rfl,rfl⟩
 ·obtain⟨p,rfl,hp1,hp2,-,-⟩:=jD hz;have HP1:=Ip (show ofC φ s=eB (φ p) by unfold ofC;rw[hp1]);have HF:=Ip (HF.out p hp1);clear hz hp1;have hk:IsK w1 v p:=⟨hv,hp2.mono (by decide)⟩
  obtain⟨xm,xp,xl,xc,xq,xk,xd,ym,yp,yl,yc,yq,yk,yd,rfl⟩:∃ xm xp xl xc xq xk xd ym yp yl yc yq yk yd,v=.agg #[.bool xm,.slice xp xl xc,.slice xq xk xd,.bool ym,.slice yp yl yc,.slice yq yk yd]:=by
   obtain⟨_,_,_,_,_,_,rfl,hx0,hy0⟩:=hk.v;obtain⟨xm,xp,xl,xc,xq,xk,xd,hxe⟩:=hx0.form;obtain⟨ym,yp,yl,yc,yq,yk,yd,hye⟩:=hy0.form;obtain⟨rfl,rfl,rfl⟩:=fh hxe;obtain⟨rfl,rfl,rfl⟩:=fh hye;exact⟨_,_,_,_,_,_,_,_,_,_,_,_,_,_,rfl⟩
  go_upto_region 2 with fail
  have q1:=cC.new w1 (.bool xm) (.slice xp xl xc) (.slice xq xk xd) (.bool ym) (.slice yp yl yc) (.slice yq yk yd) 93;have m1:=aj w1 (.cells #[.bool xm,.slice xp xl xc,.slice xq xk xd,.bool ym,.slice yp yl yc,.slice yq yk yd] 93);generalize w1.alloc (.cells #[.bool xm,.slice xp xl xc,.slice xq xk xd,.bool ym,.slice yp yl yc,.slice yq yk yd] 93)=w2 at *
  have a0:=q1.c0;have a1:=q1.c1;have a2:=q1.c2;have a3:=q1.c3;have a4:=q1.c4;have a5:=q1.c5;have hB2:=LK hb1 m1;have HC:=Ip (HF.out _ w2 hB2 (hk.v.below m1));have HG:=Ip (hG.below hB2);clear q1 m1 hk hv hb1 HF;go_wp2_with fail
  refine HC.out.mono ?_;rintro e w3 ⟨v3,rfl,hv3,hb3⟩;have hB3:=LK hB2 hb3;go_wp2_with fail
  refine (D7 _ _ _ hv3 (HG.out.below hb3)).mono ?_;rintro e w4 ⟨rfl,hb4⟩;go_wp2;refine LM (v:=.tuple #[.string (eB (φ p)).1,.int .i64 (eB (φ p)).2]) (by simp[results,Tryz.results125,go_sem]) rfl ⟨by rw[HP1.out],LK hB3 hb4⟩
 ·have HE:=Ip (show ofC φ s=(⟨#[]⟩,10) by unfold ofC;rw[ig hz]);clear hz;unfold iX;go_wp2;refine LM (v:=.tuple #[.string ⟨#[]⟩,.int .i64 10]) (by simp[results,Tryz.results125,go_sem]) rfl ⟨by rw[HE.out],LK hb1 (aj w1 _)⟩
def atT (l:List ByteArray) (s:ByteArray):ByteArray×Int:=match dY l with | .error e=>(⟨#[]⟩,e) | .ok zs=>ofC (atL zs) s
theorem qD {l:List ByteArray}{zs:List CQ} (h:dY l=.ok zs):zs.length<=l.length:=by
 unfold dY at h
 split at h
 ·cases h
 ·split at h
  ·rename_i ys hy
   cases h
   have h1:=io hy;have h2:=kW ys;omega
  ·cases h
theorem Gk (v:Value) (l:List ByteArray) (s:ByteArray) (w:World) (hl:IsS w v l) (h7:l.length<=7) (hG:Gw w) :
  Calls Tryz.prog 80 #[v,.string s] w fun e w'=>e=.returned (.tuple #[.string (atT l s).1,.int .i64 (atT l s).2])/\Below w.heap.size w w':=by
 have HP:=Ip (oV v l w hl hG);have HG:=Ip hG;clear hl hG;go_enter Tryz.func80,Tryz.ntmps80;go_wp2_with fail
 refine HP.out.mono ?_;rintro e w1 ⟨u,x,rfl,hr,hb1⟩
 cases hpc:dY l with
 | error ea =>
  rw[hpc] at hr;obtain⟨rfl,rfl⟩:=hr;have HE:=Ip (show atT l s=(⟨#[]⟩,x) by unfold atT;rw[hpc]);have hd:decide (x=0)=false:=decide_eq_false (by rcases lf hpc with rfl | rfl<;>decide);have hd2:(x != 0)=true:=by rcases lf hpc with rfl | rfl<;>decide
  clear hpc HP;go_wp2;refine LM (v:=.tuple #[.string ⟨#[]⟩,.int .i64 x]) (by simp[results,Tryz.results80,go_sem]) rfl ⟨by rw[HE.out],hb1⟩
 | ok zs =>
  rw[hpc] at hr;obtain⟨rfl,hu⟩:=hr;have s1:=kB hpc;have l1:=qD hpc;have HE:=Ip (show atT l s=ofC (atL zs) s by unfold atT;rw[hpc]);have HO:=Ip (G_ 126 u (atL zs) s w1 (HG.out.below hb1) (cA Tryz.func126 rfl (by kernel_rfl)) (fun p hp x w' hb hx=>atN u x zs p w' (hu.below hb) hx s1 (vF hp).2.2 (by omega)));clear hpc HP hu s1 l1 h7;obtain⟨y,hy⟩:∃ y,y=ofC (atL zs) s:=⟨_,rfl⟩;rw[<-hy] at HO HE;clear hy;go_wp2_with fail
  refine HO.out.mono ?_;rintro e w2 ⟨rfl,hb2⟩;go_wp2;refine LM (v:=.tuple #[.string y.1,.int .i64 y.2]) (by simp[results,Tryz.results80,go_sem]) rfl ⟨by rw[HE.out],LK hb1 hb2⟩
theorem Gf {z:ByteArray} (h:z≠⟨#[48]⟩):(z.toList == [48])=false:=by
 refine Ji.2 fun hb=>h ?_;have e:z.toList=[48]:=by simpa using hb
 rw[aw] at e;exact jy e
def gN (a b:List ByteArray) (z:ByteArray):ByteArray×Int :=
 if aC a b=true then
  if nI z=true then
   if z=⟨#[48]⟩ then (⟨#[]⟩,32)
   else if (atT b (dw ⟨#[49]⟩ z)).1=⟨#[48]⟩ then (⟨#[]⟩,32)
   else (dw (atT a (dw ⟨#[49]⟩ z)).1 (atT b (dw ⟨#[49]⟩ z)).1,0)
  else (⟨#[]⟩,2)
 else (⟨#[]⟩,30)
theorem rU (v:Value) (a b:List ByteArray) (z:ByteArray) (w:World) (hF:IsF w v a b) (hG:Gx w) :
  Calls Tryz.prog 40 #[v,.string z] w fun e w'=>e=.returned (.tuple #[.string (gN a b z).1,.int .i64 (gN a b z).2])/\Below w.heap.size w w':=by
 obtain⟨p,c,q,d,rfl,hfa,hfb⟩:=id hF.ex;go_enter Tryz.func40,Tryz.ntmps40;go_upto_region 1 with fail
 have cc:=aG w (.slice p a.length c) (.slice q b.length d);have m1:=aj w (.cells #[.slice p a.length c,.slice q b.length d] 24);have zz:=size_alloc w (.cells #[.slice p a.length c,.slice q b.length d] 24);generalize w.alloc (.cells #[.slice p a.length c,.slice q b.length d] 24)=w1 at *
 have HCK:=Ip (fP _ a b w1 (hF.below m1) (hG.below m1));have HA:=Ip (hfa.below m1);have HB:=Ip (hfb.below m1);have HG:=Ip (hG.below m1);have c0:=cc.1;have c1:=cc.2;have hlt:w.heap.size<w1.heap.size:=by omega
 have M1:=Ip m1;clear hfa hfb cc zz m1 hF hG;by_cases hck:aC a b=true
 ·have hce:aB a b=0:=by unfold aB;rw[if_pos hck]
  rw[hce] at HCK;obtain⟨ob1,ob7,oa1,oa7,oac,obc,ohd⟩:=bv hck;clear hce;go_wp2_with fail
  refine HCK.out.mono ?_;rintro e w2 ⟨rfl,hb2⟩;have d0:=ag hb2 hlt c0;have d1:=ag hb2 hlt c1;have HA2:=Ip (HA.out.below hb2);have HB2:=Ip (HB.out.below hb2);have HG2:=Ip (HG.out.below hb2);have M2:=Ip (LK M1.out hb2);have hlt2:w.heap.size<w2.heap.size:=Iz hlt hb2.size;clear c0 c1 HA HB HG HCK M1 hb2 hlt;have HA7:=Ip oa7;have HO7:=Ip ob7;clear oac obc ohd;go_wp2_with fail
  refine (Hi z w2 HG2.out).mono ?_;rintro e w3 ⟨rfl,hb3⟩;have e0:=ag hb3 hlt2 d0;have e1:=ag hb3 hlt2 d1;have hlt3:w.heap.size<w3.heap.size:=Iz hlt2 hb3.size;have HA3:=Ip (HA2.out.below hb3);have HB3:=Ip (HB2.out.below hb3);have HG3:=Ip (HG2.out.below hb3);have M3:=Ip (LK M2.out hb3);have HT:=Ip (show gN a b z=if nI z=true then if z=⟨#[48]⟩ then (⟨#[]⟩,32) else if (atT b (dw ⟨#[49]⟩ z)).1=⟨#[48]⟩ then (⟨#[]⟩,32) else (dw (atT a (dw ⟨#[49]⟩ z)).1 (atT b (dw ⟨#[49]⟩ z)).1,0) else (⟨#[]⟩,2) by unfold gN;rw[if_pos hck]);clear d0 d1 hlt2 HA2 HB2 HG2 M2 hb3 hck ob1 oa1 oa7 ob7
  cases hsz:nI z with
  | false =>
   have HE:=Ip (show gN a b z=(⟨#[]⟩,2) by rw[HT.out,if_neg (by rw[hsz];decide)]);clear hsz;go_wp2;refine LM (v:=.tuple #[.string ⟨#[]⟩,.int .i64 2]) (by simp[results,Tryz.results40,go_sem]) rfl ⟨by rw[HE.out],M3.out⟩
  | true =>
   rw[if_pos hsz] at HT;clear hsz;by_cases hz0:z=⟨#[48]⟩
   ·have HE:=Ip (show gN a b z=(⟨#[]⟩,32) by rw[HT.out,if_pos hz0]);have hzd:(z.toList == [48])=true:=by rw[hz0,aw];rfl
    clear hz0;go_wp2;refine LM (v:=.tuple #[.string ⟨#[]⟩,.int .i64 32]) (by simp[results,Tryz.results40,go_sem]) rfl ⟨by rw[HE.out],M3.out⟩
   ·rw[if_neg hz0] at HT;have hzd:=Gf hz0;clear hz0;go_wp2_with fail
    refine (gT _ _ w3 HG3.out.g).mono ?_;rintro e w4 ⟨rfl,hb4⟩;generalize dw ⟨#[49]⟩ z=iv at HT |-;have g0:=ag hb4 hlt3 e0;have g1:=ag hb4 hlt3 e1;have hlt4:w.heap.size<w4.heap.size:=Iz hlt3 hb4.size;have HA4:=Ip (HA3.out.below hb4);have HB4:=Ip (HB3.out.below hb4);have HG4:=Ip (HG3.out.below hb4);have M4:=Ip (LK M3.out hb4);obtain⟨ya,hya⟩:∃ ya,ya=atT a iv:=⟨_,rfl⟩;obtain⟨yb,hyb⟩:∃ yb,yb=atT b iv:=⟨_,rfl⟩;have N1:=Gk _ a iv w4 HA4.out HA7.out HG4.out.g;have N2:=Ip (fun wx (h:Below w4.heap.size w4 wx)=>Gk _ b iv wx (HB4.out.below h) HO7.out (HG4.out.below h).g);rw[<-hya] at N1 HT;rw[<-hyb] at N2 HT;have N1:=Ip N1;clear e0 e1 hlt3 HA3 HB3 HG3 M3 hb4 hya hyb HA4 HB4;go_wp2_with fail
    refine N1.out.mono ?_;rintro e w5 ⟨rfl,hb5⟩;have e0:=ag hb5 hlt4 g0;have e1:=ag hb5 hlt4 g1;go_wp2_with fail
    refine (N2.out w5 hb5).mono ?_;rintro e w6 ⟨rfl,hb6⟩;have hB6:=LK hb5 hb6;have M6:=Ip (LK M4.out hB6);have HG6:=Ip (HG4.out.below hB6);clear e0 e1 g0 g1 N1 N2 hb5 hb6 hB6 M4 HG4 hlt4;obtain⟨yb1,yb2⟩:=yb;obtain⟨ya1,ya2⟩:=ya;simp only at HT |-;by_cases hy0:yb1=⟨#[48]⟩
    ·have HE:=Ip (show gN a b z=(⟨#[]⟩,32) by rw[HT.out,if_pos hy0]);have hyd:(yb1.toList == [48])=true:=by rw[hy0,aw];rfl
     clear hy0;go_wp2;refine LM (v:=.tuple #[.string ⟨#[]⟩,.int .i64 32]) (by simp[results,Tryz.results40,go_sem]) rfl ⟨by rw[HE.out],M6.out⟩
    ·have HE:=Ip (show gN a b z=(dw ya1 yb1,0) by rw[HT.out,if_neg hy0]);have hyd:=Gf hy0;clear hy0;go_wp2_with fail
     refine (gT _ _ w6 HG6.out.g).mono ?_;rintro e w7 ⟨rfl,hb7⟩;go_wp2;refine LM (v:=.tuple #[.string (dw ya1 yb1),.int .i64 0]) (by simp[results,Tryz.results40,go_sem]) rfl ⟨by rw[HE.out],LK M6.out hb7⟩
 ·have HE:=Ip (show gN a b z=(⟨#[]⟩,30) by unfold gN;rw[if_neg hck]);have hce:aB a b=30:=by unfold aB;rw[if_neg hck]
  rw[hce] at HCK;clear hce;go_wp2_with fail
  refine HCK.out.mono ?_;rintro e w2 ⟨rfl,hb2⟩;go_wp2;refine LM (v:=.tuple #[.string ⟨#[]⟩,.int .i64 30]) (by simp[results,Tryz.results40,go_sem]) rfl ⟨by rw[HE.out],LK M1.out hb2⟩
theorem CQ.norm_ne {c:CQ} (h:c≠⟨0,0⟩):c.norm≠0:=fun e=>h (nA e)
theorem CQ.div_mul {z c:CQ} (h:c≠⟨0,0⟩):(z.div c).mul c=z:=by
 have hn:=CQ.norm_ne h;obtain⟨a,b⟩:=z;obtain⟨x,y⟩:=c;simp only[CQ.div,CQ.mul,CQ.norm,CQ.mk.injEq] at hn |-;constructor<;>grind
theorem CQ.sub_self (z:CQ):z.sub z=⟨0,0⟩:=by
 obtain⟨a,b⟩:=z;simp only[CQ.sub,CQ.mk.injEq];constructor<;>grind
theorem CQ.mul_inv {z:CQ} (h:z≠⟨0,0⟩):z.mul ((CQ.real 1).div z)=CQ.real 1:=by
 have hn:=CQ.norm_ne h;obtain⟨x,y⟩:=z;simp only[CQ.div,CQ.mul,CQ.norm,CQ.real,CQ.mk.injEq] at hn |-;constructor<;>grind
theorem CQ.div_one (z:CQ):z.div (CQ.real 1)=z:=by
 obtain⟨x,y⟩:=z;simp only[CQ.div,CQ.norm,CQ.real];congr 1<;>grind
theorem CQ.mul_one (z:CQ):z.mul (CQ.real 1)=z:=by
 obtain⟨x,y⟩:=z;simp only[CQ.mul,CQ.real];congr 1<;>grind
theorem CQ.one_ne:CQ.real 1≠⟨0,0⟩:=by decide
def lS (zs:List CQ) (c:CQ):List CQ:=zs.map fun z=>z.div c
theorem kC (zs:List CQ) (c:CQ):(lS zs c).length=zs.length:=by simp[lS]
theorem D9 (zs:List CQ):lS zs (CQ.real 1)=zs:=by
 unfold lS;rw[show (fun z:CQ=>z.div (CQ.real 1))=id from funext fun z=>z.div_one,List.map_id]
theorem BE (zs:List CQ) (c:CQ) {i:Nat} (h:i<zs.length):(lS zs c).drop i=zs[i].div c :: (lS zs c).drop (i+1):=by
 rw[Jr (by rw[kC];exact h)];simp[lS]
theorem nw {c:CQ} (h:c≠⟨0,0⟩):dq [c]=[c]:=by
 have:=jG [] c
 rwa [if_neg h] at this
theorem Be {a c:CQ} (h:c≠⟨0,0⟩):dq [a,c]=[a,c]:=by
 have:=jG [a] c
 rwa [if_neg h] at this
theorem n8:∀ n:Nat,dq (List.replicate n ⟨0,0⟩)=[]
 | 0=>rfl
 | n+1=>by
  rw[Li,jG,if_pos rfl];exact n8 n
theorem CP (c:CQ):AV [c]=[]:=rfl
theorem CS {a c:CQ} (h:c≠⟨0,0⟩):AV [a,c]=[c]:=by
 have e:ll [a,c]=[c]:=by
  show [c.mul (CQ.real (((0+1:Nat):Int):Rat))]=[c]
  rw[show CQ.real (((0+1:Nat):Int):Rat)=CQ.real 1 from rfl,CQ.mul_one]
 unfold AV;rw[e];exact nw h
theorem wS {c:CQ} (h:c≠⟨0,0⟩):ux [c] ((CQ.real 1).div c)=[CQ.real 1]:=by
 show dq [c.mul ((CQ.real 1).div c)]=_
 rw[CQ.mul_inv h];exact nw CQ.one_ne
inductive fO:List CQ->Prop
 | one (c:CQ) (h:c≠⟨0,0⟩):fO [c]
 | two (a c:CQ) (h:c≠⟨0,0⟩):fO [a,c]
theorem fO.lean {zs:List CQ} (h:fO zs):dq zs=zs:=by
 cases h with
 | one c h=>exact nw h
 | two a c h=>exact Be h
def cF (zs:List CQ):List (List CQ):=match zs with
 | []=>[]
 | [c]=>[[c]]
 | [a,c]=>[[a,c],[c]]
 | _=>[]
def jV (s:Int) (p:Int×Int):Int×Int:=if s=0 then p else (if s=-p.2 then p.1+1 else p.1,s)
def lD (x:Rat) (zs:List CQ):Int:=eL (atL zs (CQ.real x)).re 0
def uV (x:Rat) (l:List (List CQ)):Int×Int:=l.foldl (fun p q=>jV (lD x q) p) (0,0)
def dU (zs:List CQ) (x:Rat):Int:=(uV x (cF zs)).1
theorem AM (x:Rat) {l:List (List CQ)}{i:Nat} (h:i<l.length):uV x (l.take (i+1))=jV (lD x l[i]) (uV x (l.take i)):=by
 unfold uV;rw[<-IL h,List.foldl_append];rfl
open Go.RowKit Dg Dc
def Ov (D M:Nat) (q:Rat):Prop:=∃ n:Int,q=(n:Rat) / (D:Rat)/\n.natAbs<=M
theorem aO {D:Nat} (h:0<D):(D:Rat)≠0:=by
 intro e;have e2:((D:Int):Rat)=((0:Int):Rat):=e;have:=Rat.intCast_inj.1 e2;omega
theorem Ov.mono {D M M':Nat}{q:Rat} (h:Ov D M q) (hM:M<=M'):Ov D M' q:=by
 obtain⟨n,e,hn⟩:=h;exact⟨n,e,IB hn hM⟩
theorem Ov.wide {D M:Nat}{q:Rat} (h:Ov D M q) (E:Nat) (hD:0<D) (hE:0<E):Ov (D*E) (M*E) q:=by
 obtain⟨n,e,hn⟩:=h;have h1:=aO hD;have h2:=aO hE;refine⟨n*E,?_,?_⟩
 ·rw[e,Rat.intCast_mul,Rat.natCast_mul]
  show (n:Rat) / (D:Rat)=(n:Rat)*((E:Nat):Rat) / ((D:Rat)*(E:Rat))
  grind
 ·rw[Jx];exact IJ _ hn
theorem Ov.add {D M N:Nat}{a b:Rat} (h1:Ov D M a) (h2:Ov D N b):Ov D (M+N) (a+b):=by
 obtain⟨n,e,hn⟩:=h1;obtain⟨m,f,hm⟩:=h2;refine⟨n+m,?_,by omega⟩;rw[e,f,Rat.intCast_add];grind
theorem Ov.neg {D M:Nat}{a:Rat} (h1:Ov D M a):Ov D M (-a):=by
 obtain⟨n,e,hn⟩:=h1;refine⟨-n,?_,by omega⟩;rw[e,Rat.intCast_neg];grind
theorem Ov.sub {D M N:Nat}{a b:Rat} (h1:Ov D M a) (h2:Ov D N b):Ov D (M+N) (a-b):=by
 rw[Rat.sub_eq_add_neg];exact h1.add h2.neg
theorem Ov.mul {D E M N:Nat}{a b:Rat} (h1:Ov D M a) (h2:Ov E N b) (hD:0<D) (hE:0<E):Ov (D*E) (M*N) (a*b):=by
 obtain⟨n,e,hn⟩:=h1;obtain⟨m,f,hm⟩:=h2;have k1:=aO hD;have k2:=aO hE;refine⟨n*m,?_,by rw[Jx];exact Je hn hm⟩;rw[e,f,Rat.intCast_mul,Rat.natCast_mul];grind
theorem Ov.zero (D:Nat):Ov D 0 0:=⟨0,by rw[show ((0:Int):Rat)=0 from rfl];grind,by simp⟩
theorem le (q:Rat):(q.num:Rat) / (q.den:Rat)=q:=by rw[<-Rat.mkRat_eq_div,Rat.mkRat_self]
theorem Ov.bound {D M:Nat}{q:Rat} (h:Ov D M q) (hD:0<D):q.num.natAbs<=M/\q.den<=D:=by
 obtain⟨n,e,hn⟩:=h;have k1:=aO hD;have k2:=aO q.den_pos;have e2:(q.num:Rat) / (q.den:Rat)=q:=le q
 have e3:(q.num:Rat)*(D:Rat)=(n:Rat)*(q.den:Rat):=by
  rw[e] at e2;grind
 have e4:q.num*(D:Int)=n*(q.den:Int):=by
  apply Rat.intCast_inj.1
  rw[Rat.intCast_mul,Rat.intCast_mul];exact e3
 have e5:q.num.natAbs*D=n.natAbs*q.den:=by
  have:=congrArg Int.natAbs e4;rw[Jx,Jx] at this;exact this
 have hc:Nat.Coprime q.num.natAbs q.den:=q.reduced;have d1:q.den ∣ D:=(Nat.Coprime.symm hc).dvd_of_dvd_mul_left ⟨n.natAbs,by rw[e5,IM]⟩;have d2:q.num.natAbs ∣ n.natAbs:=hc.dvd_of_dvd_mul_right ⟨D,by rw[<-e5]⟩;refine⟨?_,KH hD d1⟩;rcases Jd n.natAbs with h0 | h0
 ·rw[h0,JE] at e5;rcases Nat.mul_eq_zero.1 e5 with h | h
  ·omega
  ·omega
 ·exact IB (KH h0 d2) hn
theorem Ov.of (q:Rat):Ov q.den q.num.natAbs q:=⟨q.num,(le q).symm,Iw _⟩
theorem Ov.ok {D M:Nat}{q:Rat} (h:Ov D M q) (hD:0<D) (h1:D<10 ^ 2000) (h2:M<10 ^ 2000):okQ q:=by
 obtain⟨b1,b2⟩:=h.bound hD;exact ua (Jb b1 h2) (Jb b2 h1)
structure OvC (D M:Nat) (z:CQ):Prop where
 re:Ov D M z.re
 im:Ov D M z.im
 pos:0<D
theorem OvC.mono {D M M':Nat}{z:CQ} (h:OvC D M z) (hM:M<=M'):OvC D M' z:=⟨h.re.mono hM,h.im.mono hM,h.pos⟩
theorem OvC.wide {D M:Nat}{z:CQ} (h:OvC D M z) (E:Nat) (hE:0<E):OvC (D*E) (M*E) z:=⟨h.re.wide E h.pos hE,h.im.wide E h.pos hE,IH h.pos hE⟩
theorem OvC.add {D M N:Nat}{a b:CQ} (h1:OvC D M a) (h2:OvC D N b):OvC D (M+N) (a.add b):=⟨h1.re.add h2.re,h1.im.add h2.im,h1.pos⟩
theorem OvC.mul {D E M N:Nat}{a b:CQ} (h1:OvC D M a) (h2:OvC E N b):OvC (D*E) (2*(M*N)) (a.mul b) :=
 ⟨((h1.re.mul h2.re h1.pos h2.pos).sub (h1.im.mul h2.im h1.pos h2.pos)).mono (by omega),((h1.re.mul h2.im h1.pos h2.pos).add (h1.im.mul h2.re h1.pos h2.pos)).mono (by omega),IH h1.pos h2.pos⟩
theorem OvC.real {D M:Nat}{q:Rat} (h:Ov D M q) (hD:0<D):OvC D M (CQ.real q):=⟨h,(Ov.zero D).mono (IF _),hD⟩
theorem OvC.ok {D M:Nat}{z:CQ} (h:OvC D M z) (h1:D<10 ^ 2000) (h2:M<10 ^ 2000):eK z=false:=by
 have k1:=(mE _).1 (h.re.ok h.pos h1 h2);have k2:=(mE _).1 (h.im.ok h.pos h1 h2);unfold eK;rw[k1,k2];rfl
theorem OvC.div {D E M N:Nat}{a b:CQ} (h1:OvC D M a) (h2:OvC E N b) (hb:b≠⟨0,0⟩):∃ F,F<=D*(2*(N*N))/\OvC F (2*(M*N)*E) (a.div b):=by
 obtain⟨n,e1,hn⟩:=h2.re;obtain⟨m,e2,hm⟩:=h2.im;have hE:=aO h2.pos;have hnorm:=CQ.norm_ne hb;obtain⟨k,hk⟩:∃ k:Nat,k=n.natAbs*n.natAbs+m.natAbs*m.natAbs:=⟨_,rfl⟩
 have hkI:(k:Int)=n*n+m*m:=by
  rw[hk,Int.natCast_add,Kd,Kd,Lh,Lh]
 have hkQ:(k:Rat)=(n:Rat)*n+(m:Rat)*m:=by
  have:=congrArg (fun x:Int=>(x:Rat)) hkI;simp only[Rat.intCast_add,Rat.intCast_mul] at this;exact this
 have hno:b.norm=(k:Rat) / ((E:Rat)*(E:Rat)):=by
  unfold CQ.norm;rw[e1,e2,hkQ];grind
 have hk0:0<k:=by
  rcases Jd k with h | h
  ·exfalso
   apply hnorm
   rw[hno,h,show ((0:Nat):Rat)=0 from rfl];grind
  ·exact h
 have hkc:=aO hk0
 have hkl:k<=2*(N*N):=by
  have:=Je hn hn;have:=Je hm hm;omega
 have step:∀ x:Rat,Ov (D*E) (2*(M*N)) x->Ov (D*k) (2*(M*N)*E) (x*b.norm⁻¹):=by
  rintro x ⟨X,ex,hX⟩;have hDc:=aO h1.pos;refine⟨X*E,?_,by rw[Jx];exact Je hX (by simp)⟩;rw[hno,ex,Rat.natCast_mul,Rat.natCast_mul,Rat.intCast_mul]
  show (X:Rat) / ((D:Rat)*(E:Rat))*((k:Rat) / ((E:Rat)*(E:Rat)))⁻¹=(X:Rat)*((E:Nat):Rat) / ((D:Rat)*(k:Rat))
  grind
 refine⟨D*k,IV _ hkl,?_,?_,IH h1.pos hk0⟩
 ·exact step _ (((h1.re.mul h2.re h1.pos h2.pos).add (h1.im.mul h2.im h1.pos h2.pos)).mono (by omega))
 ·exact step _ (((h1.im.mul h2.re h1.pos h2.pos).sub (h1.re.mul h2.im h1.pos h2.pos)).mono (by omega))
def dnE (n:Nat) (a x:Nat->Rat):Nat->Rat:=fun i=>x i-x n / a 0*a (n-i)
def aS:Nat->(Nat->Rat)->(Nat->Rat)->(Nat->Rat)->Rat
 | 0,a,x,y=>x 0*y 0 / a 0
 | n+1,a,x,y=>x (n+1)*y (n+1) / a 0+aS n (dnE (n+1) a a) (dnE (n+1) a x) (dnE (n+1) a y)
def dl:Nat->(Nat->Rat)->Prop
 | 0,a=>0<a 0
 | n+1,a=>0<a 0/\dl n (dnE (n+1) a a)
theorem dl.pos:∀ {n:Nat}{a:Nat->Rat},dl n a->0<a 0
 | 0,_,h=>h
 | _+1,_,h=>h.1
theorem l_ {n:Nat}{a a' x x':Nat->Rat} (ha:∀ i,i<=n->a i=a' i) (hx:∀ i,i<=n->x i=x' i):∀ i,i<=n->dnE n a x i=dnE n a' x' i:=fun i hi=>by
 unfold dnE;rw[hx i hi,hx n (Iw _),ha 0 (IF _),ha (n-i) (Nat.sub_le _ _)]
theorem eD:∀ {n:Nat}{a a' x x' y y':Nat->Rat},(∀ i,i<=n->a i=a' i)->(∀ i,i<=n->x i=x' i)->(∀ i,i<=n->y i=y' i)->aS n a x y=aS n a' x' y'
 | 0,_,_,_,_,_,_,ha,hx,hy=>by unfold aS;rw[ha 0 (Iw _),hx 0 (Iw _),hy 0 (Iw _)]
 | n+1,_,_,_,_,_,_,ha,hx,hy=>by
  unfold aS;rw[ha 0 (IF _),hx (n+1) (Iw _),hy (n+1) (Iw _)];congr 1;exact eD (fun i hi=>l_ ha ha i (by omega)) (fun i hi=>l_ ha hx i (by omega)) (fun i hi=>l_ ha hy i (by omega))
theorem kT:∀ {n:Nat}{a x y:Nat->Rat},aS n a x y=aS n a y x
 | 0,_,x,y=>by unfold aS;rw[Rat.mul_comm (x 0)]
 | n+1,_,x,y=>by unfold aS;rw[Rat.mul_comm (x (n+1)),kT]
theorem mj (c:Rat):∀ {n:Nat}{a x x' y:Nat->Rat},aS n a (fun i=>x i+c*x' i) y=aS n a x y+c*aS n a x' y
 | 0,a,x,x',y=>by
  unfold aS;simp only[Rat.div_def];grind
 | n+1,a,x,x',y=>by
  unfold aS
  have e:aS n (dnE (n+1) a a) (dnE (n+1) a fun i=>x i+c*x' i) (dnE (n+1) a y)=aS n (dnE (n+1) a a) (fun i=>dnE (n+1) a x i+c*dnE (n+1) a x' i) (dnE (n+1) a y):=by
   refine eD (fun _ _=>rfl) (fun i _=>?_) (fun _ _=>rfl);unfold dnE;simp only[Rat.div_def];grind
  rw[e,mj c];simp only[Rat.div_def];grind
theorem tR (c:Rat) {n:Nat}{a x y:Nat->Rat}:aS n a (fun i=>x i+c*y i) (fun i=>x i+c*y i)=aS n a x x+2*c*aS n a y x+c*c*aS n a y y:=by
 rw[mj,kT,kT (x:=y) (y:=fun i=>x i+c*y i),mj,mj,kT (x:=x) (y:=y)];grind
theorem sh:∀ {n:Nat}{a y:Nat->Rat},aS n a (fun _=>0) y=0
 | 0,a,y=>by unfold aS;simp only[Rat.div_def];grind
 | n+1,a,y=>by
  unfold aS
  have e:aS n (dnE (n+1) a a) (dnE (n+1) a fun _=>0) (dnE (n+1) a y)=aS n (dnE (n+1) a a) (fun _=>0) (dnE (n+1) a y):=by
   refine eD (fun _ _=>rfl) (fun i _=>?_) (fun _ _=>rfl);unfold dnE;simp only[Rat.div_def];grind
  rw[e,sh];simp only[Rat.div_def];grind
theorem ko:∀ {n:Nat}{a y:Nat->Rat},dl n a->aS n a a y=y 0
 | 0,a,y,h=>by
  have h0:0<a 0:=h;unfold aS;grind
 | n+1,a,y,h=>by
  have h0:=h.1;unfold aS;rw[ko h.2];unfold dnE;rw[JY];grind
theorem vD:∀ {n:Nat}{a y:Nat->Rat},dl n a->aS n a (fun i=>a (n-i)) y=y n
 | 0,a,y,h=>by
  have h0:0<a 0:=h;unfold aS;grind
 | n+1,a,y,h=>by
  have h0:=h.1;unfold aS
  have e:aS n (dnE (n+1) a a) (dnE (n+1) a fun i=>a (n+1-i)) (dnE (n+1) a y)=aS n (dnE (n+1) a a) (fun _=>0) (dnE (n+1) a y):=by
   refine eD (fun _ _=>rfl) (fun i _=>?_) (fun _ _=>rfl);unfold dnE;simp only[JJ];grind
  rw[e,sh];simp only[JJ];grind
theorem kp:∀ {n:Nat}{a x:Nat->Rat},dl n a->0<=aS n a x x
 | 0,a,x,h=>by
  have h0:0<a 0:=h;unfold aS;exact sq_div_pos h0
 | n+1,a,x,h=>by
  unfold aS;have h1:=sq_div_pos (x:=x (n+1)) h.1;have h2:=kp (x:=dnE (n+1) a x) h.2;grind
where
 sq_div_pos {x a:Rat} (h:0<a):0<=x*x / a:=by
  have h1:0<=x*x:=by
   rcases (Rat.le_total:0<=x\/x<=0) with h | h
   ·exact Rat.mul_nonneg h h
   ·have:=Rat.mul_nonneg (show 0<=-x by grind) (show 0<=-x by grind);grind
  rw[Rat.div_def];exact Rat.mul_nonneg h1 (Rat.le_of_lt (Rat.inv_pos.2 h))
def shE (x:Nat->Rat):Nat->Rat
 | 0=>0
 | i+1=>x i
theorem FX {A0 L C X:Rat} (hA:A0≠0) (hC:C≠0) (e:C=A0-L / A0*L):X*X / A0+(L / A0*(X / C))*(L / A0*(X / C))*C=X / C*(X / C)*C:=by grind
theorem Ex {A0 L C X P Q:Rat} (hA:A0≠0) (hC:C≠0) (e:C=A0-L / A0*L):X / A0*P=X / C*(P-L / A0*Q)+L / A0*(X / C)*(Q-L / A0*P):=by grind
theorem Ew {A0 L C X:Rat} (hC:C≠0):X / A0*L=L / A0*(X / C)*C:=by grind
theorem zF:∀ {n:Nat}{a x:Nat->Rat},dl n a->x n=0->aS n a (shE x) (shE x)=aS n a x x
 | 0,a,x,h,h0=>by
  unfold aS shE
  rw[h0]
 | n+1,a,x,h,h0=>by
  have ha:a 0≠0:=by have:=h.1;grind
  obtain⟨c,hc⟩:∃ c,c=dnE (n+1) a a:=⟨_,rfl⟩
  have hg:dl n c:=by rw[hc];exact h.2
  have hc0:c 0≠0:=by have:=hg.pos;grind
  have ec:∀ i,i<=n->c i=a i-a (n+1) / a 0*a (n+1-i):=fun i _=>by rw[hc];rfl
  have ec0:c 0=a 0-a (n+1) / a 0*a (n+1):=ec 0 (IF _)
  have ih:=zF (n:=n) (a:=c) (x:=dnE n c x) hg (by unfold dnE;rw[JJ];grind)
  have e1:aS (n+1) a x x=aS n c x x:=by
   show x (n+1)*x (n+1) / a 0+_=_
   rw[h0,<-hc,eD (a':=c) (x':=x) (y':=x) (fun _ _=>rfl) (fun i _=>by unfold dnE;rw[h0];grind) (fun i _=>by unfold dnE;rw[h0];grind)]
   grind
  have e2:aS n c x x=aS n c (dnE n c x) (dnE n c x)+x n / c 0*(x n / c 0)*c 0:=by
   have e:aS n c x x=aS n c (fun i=>dnE n c x i+x n / c 0*c (n-i)) (fun i=>dnE n c x i+x n / c 0*c (n-i)) :=
    eD (fun _ _=>rfl) (fun i _=>by unfold dnE;grind) (fun i _=>by unfold dnE;grind)
   rw[e,tR,vD hg,vD hg,JJ]
   have:dnE n c x n=0:=by unfold dnE;rw[JJ];grind
   rw[this];grind
  obtain⟨t,ht⟩:∃ t,t=a (n+1) / a 0*(x n / c 0):=⟨_,rfl⟩
  have e3:aS (n+1) a (shE x) (shE x)=x n*x n / a 0+aS n c (dnE (n+1) a (shE x)) (dnE (n+1) a (shE x)):=by rw[hc];rfl
  have pt:∀ i,i<=n->dnE (n+1) a (shE x) i=shE (dnE n c x) i+-t*c i:=fun i hi=>by
   match i,hi with
   | 0,_ =>
    show 0-x n / a 0*a (n+1)=0+-t*c 0
    have:=Ew (A0:=a 0) (L:=a (n+1)) (X:=x n) hc0
    rw[ht];grind
   | j+1,hj =>
    show x j-x n / a 0*a (n+1-(j+1))=x j-x n / c 0*c (n-j)+-t*c (j+1)
    have e:n+1-(j+1)=n-j:=by omega
    have:=Ex (L:=a (n+1)) (X:=x n) (P:=a (n-j)) (Q:=a (j+1)) ha hc0 ec0
    rw[ec (n-j) (by omega),ec (j+1) hj,e,show n+1-(n-j)=j+1 by omega,ht]
    grind
  rw[e3,eD (fun _ _=>rfl) pt pt,tR,ko hg,ko hg,ih,e1,e2]
  have:=FX (X:=x n) ha hc0 ec0
  show x n*x n / a 0+(_+2*-t*0+_)=_
  rw[ht]
  grind
structure iO (w:World) (g cap:Nat) (zs:List CQ):Prop where
 lt:g<w.heap.size
 fr:∀ j,w.frozen? ⟨g,j,none⟩=false
 nu:∀ j z,w.cell? ⟨g,j,none⟩≠some (.int .u64 z)
 row:∃ es:List Value,es.length=zs.length/\(∀ i (h:i<es.length) j u,(cellsOf es[i])[j]?=some u->w.cell? ⟨g,i*6+j,none⟩=some u)/\∀ i (h:i<es.length) (h':i<zs.length),IsK w es[i] zs[i]
 cap:zs.length<=cap/\cap<=maxLen
theorem iO.isP {w:World}{g cap:Nat}{zs:List CQ} (h:iO w g cap zs):IsP w (.slice (some ⟨g,0,none⟩) zs.length cap) zs:=by
 obtain⟨es,h1,h2,h3⟩:=h.row;refine⟨es,h1,⟨_,cap,by rw[h1],by rw[h1];exact h.cap.1,h.cap.2,fun _=>⟨g,0,rfl,h.lt,fun i hi j u hu=>?_⟩⟩,h3⟩;rw[Jk];exact h2 i hi j u hu
theorem iO.below {w w':World}{g cap:Nat}{zs:List CQ} (h:iO w g cap zs) (hb:Below w.heap.size w w'):iO w' g cap zs:=by
 obtain⟨es,h1,h2,h3⟩:=h.row;have hblk:=hb.block g h.lt;have hc:∀ j,w'.cell? ⟨g,j,none⟩=w.cell? ⟨g,j,none⟩:=fun j=>World.cell?_of_block (w:=w) (w':=w') (a:=⟨g,j,none⟩) hblk;refine⟨Iz h.lt hb.size,fun j=>?_,fun j z=>by rw[hc];exact h.nu j z,⟨es,h1,fun i hi j u hu=>by rw[hc];exact h2 i hi j u hu,fun i hi hi'=>(h3 i hi hi').below hb⟩,h.cap⟩;have:=h.fr j;unfold World.frozen? at this |-;simp only[hblk];exact this
theorem iO.of_own {w:World}{base:Nat}{v:Value}{zs:List CQ} (h:ej w base v zs) (hz:0<zs.length):∃ g cap,v=.slice (some ⟨g,0,none⟩) zs.length cap/\base<=g/\iO w g cap zs:=by
 obtain⟨es,h1,h2,h3⟩:=h.p;have hrow:=fX (l5 h1 h3) h2;rcases h2.2 with ⟨rfl,h0⟩ | ⟨g,cap,cur,rfl,hg,hh,hn,hm,hs,ht⟩
 ·omega
 ·obtain⟨p,c,e,e1,e2,e3⟩:=hrow;obtain⟨b,o,e4,hlt,hc⟩:=e3 (by omega);subst e4;simp only[Value.slice.injEq,Option.some.injEq,Addr.mk.injEq,and_true] at e;obtain⟨⟨rfl,rfl⟩,-,rfl⟩:=e;refine⟨g,cap,by rw[h1],hg,hlt,fun j=>by rw[World.frozen?,hh];simp,fun j z=>h.nu g rfl j z,⟨es,h1,fun i hi j u hu=>?_,h3⟩,by omega,hm⟩;have:=hc i hi j u hu
  rwa [Jk] at this
theorem iO.set {w:World}{g cap k:Nat}{zs:List CQ}{a b c d e f:Value}{z:CQ} (h:iO w g cap zs) (hk:k<zs.length) (hK:IsK w (.agg #[a,b,c,d,e,f]) z) :
  iO (w.setCells g (k*6) [a,b,c,d,e,f]) g cap (zs.set k z)/\(∀ u l,IsU w u l->IsU (w.setCells g (k*6) [a,b,c,d,e,f]) u l)/\Below g w (w.setCells g (k*6) [a,b,c,d,e,f])/\∀ i,i≠g->(w.setCells g (k*6) [a,b,c,d,e,f]).heap[i]?=w.heap[i]?:=by
 obtain⟨es,h1,h2,h3⟩:=h.row;have h6:=l5 h1 h3;obtain⟨xm,xp,xl,xc,xq,xk,xd,ym,yp,yl,yc,yq,yk,yd,he⟩:=hK.forms
 have hin:∀ j,j<6->(w.cell? ⟨g,k*6+j,none⟩).isSome=true:=fun j hj=>by
  have hlt:j<(cellsOf (es[k]'(by omega))).length:=by rw[h6 _ (IS _)];exact hj
  rw[h2 k (by omega) j _ (II hlt)];rfl
 have hnot:∀ u∈[a,b,c,d,e,f],∀ z,u≠.int .u64 z:=by
  simp only[Value.agg.injEq,Array.mk.injEq,List.cons.injEq,and_true] at he;obtain⟨rfl,rfl,rfl,rfl,rfl,rfl⟩:=he;intro u hu z e;subst e;simp at hu
 have hcin:=World.cell?_setCells_in g [a,b,c,d,e,f] (k*6) w hin;have hcout:=fun x h=>World.cell?_setCells_out g [a,b,c,d,e,f] (k*6) w x h
 have hb:Below g w (w.setCells g (k*6) [a,b,c,d,e,f]) :=
  ((((((LN g w).setCell (p:=⟨g,k*6,none⟩) (Iw _) a).setCell (p:=⟨g,k*6+1,none⟩) (Iw _) b).setCell (p:=⟨g,k*6+1+1,none⟩) (Iw _) c).setCell (p:=⟨g,k*6+1+1+1,none⟩) (Iw _) d).setCell (p:=⟨g,k*6+1+1+1+1,none⟩) (Iw _) e).setCell (p:=⟨g,k*6+1+1+1+1+1,none⟩) (Iw _) f
 have hU:∀ u l,IsU w u l->IsU (w.setCells g (k*6) [a,b,c,d,e,f]) u l:=fun u l hu=>by
  obtain⟨p,cp,e1,e2,e3,e4⟩:=hu;refine⟨p,cp,e1,e2,e3,fun hl=>?_⟩;obtain⟨b',o,e5,hlt,hc⟩:=e4 hl;refine⟨b',o,e5,Iz hlt hb.size,fun j hj=>?_⟩;rw[hcout ⟨b',o+j,none⟩ (fun (hbb:b'=g) _=>?_)]
  ·exact hc j hj
  ·subst hbb;exact absurd (hc j hj) (h.nu _ _)
 refine⟨⟨Iz h.lt hb.size,fun j=>?_,fun j z' hc=>?_,⟨es.set k (.agg #[a,b,c,d,e,f]),by simp[h1],fun i hi j u hu=>?_,fun i hi hi'=>?_⟩,by simpa using h.cap⟩,hU,hb,fun i hi=>?_⟩
 ·rw[World.frozen?_setCells];exact h.fr j
 ·by_cases hj:k*6<=j/\j<k*6+6
  ·obtain⟨r,rfl⟩:∃ r,j=k*6+r:=⟨j-k*6,by omega⟩;have hr:r < [a,b,c,d,e,f].length:=by simp;omega
   rw[hcin r hr] at hc;exact hnot _ (IS hr) z' (Option.some.inj hc)
  ·rw[hcout ⟨g,j,none⟩ (fun _ _=>by show j<k*6\/k*6+[a,b,c,d,e,f].length<=j;simp;omega)] at hc;exact h.nu j z' hc
 ·have hi0:i<es.length:=by simpa using hi
  by_cases hik:k=i
  ·subst hik;rw[Ku] at hu;have hr:j < [a,b,c,d,e,f].length:=(Js.1 hu).1;rw[hcin j hr];rw[<-hu];show some _=[a,b,c,d,e,f][j]?;rw[II hr]
  ·rw[Ln hik] at hu
   have hj:j<6:=by
    have:=(Js.1 hu).1
    rwa [h6 _ (IS hi0)] at this
   rw[hcout ⟨g,i*6+j,none⟩ (fun _ _=>by show i*6+j<k*6\/k*6+[a,b,c,d,e,f].length<=i*6+j;simp;omega)];exact h2 i hi0 j u hu
 ·by_cases hik:k=i
  ·subst hik;rw[Ku,Ku];exact hK.keepU hU
  ·rw[Ln hik,Ln hik];exact (h3 i (by simpa using hi) (by simpa using hi')).keepU hU
 ·show ((((((w.setCell ⟨g,k*6,none⟩ a).setCell ⟨g,k*6+1,none⟩ b).setCell ⟨g,k*6+1+1,none⟩ c).setCell ⟨g,k*6+1+1+1,none⟩ d).setCell ⟨g,k*6+1+1+1+1,none⟩ e).setCell ⟨g,k*6+1+1+1+1+1,none⟩ f).heap[i]?=_
  rw[Below.heap_setCell _ _ _ _ hi,Below.heap_setCell _ _ _ _ hi,Below.heap_setCell _ _ _ _ hi,Below.heap_setCell _ _ _ _ hi,Below.heap_setCell _ _ _ _ hi,Below.heap_setCell _ _ _ _ hi]
theorem ej.apart {w w':World}{base g:Nat}{v:Value}{zs:List CQ} (h:ej w base v zs) (hg:g<base) (hk:∀ i,i≠g->w'.heap[i]?=w.heap[i]?) (hU:∀ u l,IsU w u l->IsU w' u l):ej w' base v zs:=by
 obtain⟨es,h1,h2,h3⟩:=h.p;refine⟨⟨es,h1,⟨h2.1,?_⟩,fun i hi hi'=>(h3 i hi hi').keepU hU⟩,fun b hb j z hc=>?_⟩
 ·rcases h2.2 with h | ⟨b,cap,cur,rfl,hb,hh,r⟩
  ·exact Or.inl h
  ·exact Or.inr ⟨b,cap,cur,rfl,hb,by rw[hk b (by omega)];exact hh,r⟩
 ·have hlt:=(h2.lt b hb).1;rw[World.cell?_of_block (w:=w) (w':=w') (a:=⟨b,j,none⟩) (hk b (by omega))] at hc;exact h.nu b hb j z hc
theorem ej.lower {w:World}{base base':Nat}{v:Value}{zs:List CQ} (h:ej w base v zs) (hb:base'<=base):ej w base' v zs:=by
 obtain⟨es,h1,h2,h3⟩:=h.p;refine⟨⟨es,h1,⟨h2.1,?_⟩,h3⟩,h.nu⟩;rcases h2.2 with h | ⟨b,cap,cur,rfl,hg,r⟩
 ·exact Or.inl h
 ·exact Or.inr ⟨b,cap,cur,rfl,by omega,r⟩
theorem cC.blk {w w':World}{k:Nat}{a b c d e f:Value} (h:cC w k a b c d e f) (hs:w.heap.size<=w'.heap.size) (hb:w'.heap[k]?=w.heap[k]?):cC w' k a b c d e f:=by
 have hc:∀ j,w'.cell? ⟨k,j,none⟩=w.cell? ⟨k,j,none⟩:=fun j=>World.cell?_of_block (w:=w) (w':=w') (a:=⟨k,j,none⟩) hb;exact⟨Iz h.lt hs,(hc 0).trans h.c0,(hc 1).trans h.c1,(hc 2).trans h.c2,(hc 3).trans h.c3,(hc 4).trans h.c4,(hc 5).trans h.c5⟩
theorem du.blk {w w':World}{k:Nat}{a b c d e f:Value} (h:du w k a b c d e f) (hb:w'.heap[k]?=w.heap[k]?):du w' k a b c d e f:=⟨hb.trans h.hp,h.na,h.nb,h.nc,h.nd,h.ne,h.nf⟩
theorem DT {w:World}{base:Nat}{a b c d e f:Value}{z:CQ} (hK:IsK w (.agg #[a,b,c,d,e,f]) z) (hb:base<=w.heap.size):ej (w.alloc (.cells #[a,b,c,d,e,f] 93)) base (.slice (some ⟨w.heap.size,0,none⟩) 1 1) [z]:=by
 obtain⟨xm,xp,xl,xc,xq,xk,xd,ym,yp,yl,yc,yq,yk,yd,he⟩:=hK.forms;simp only[Value.agg.injEq,Array.mk.injEq,List.cons.injEq,and_true] at he;obtain⟨rfl,rfl,rfl,rfl,rfl,rfl⟩:=he;refine⟨⟨[.agg #[.bool xm,.slice xp xl xc,.slice xq xk xd,.bool ym,.slice yp yl yc,.slice yq yk yd]],rfl,⟨rfl,Or.inr ⟨w.heap.size,1,_,rfl,hb,heap_alloc_new w _,Iw _,by simp[maxLen],rfl,rfl⟩⟩,fun i hi hi'=>?_⟩,fun g hg j u hc=>?_⟩
 ·simp at hi;subst hi;exact hK.below (aj _ _)
 ·simp only[Value.ownBlock,Option.some.injEq] at hg;subst hg;rw[World.cell?,heap_alloc_new] at hc;simp only[Jl,IW,if_false] at hc;have:=Jm hc;simp at this
end Go.Proofs.YtlhpcoelfhjomaaGreatDoor
