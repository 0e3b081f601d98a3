/- Lemmas of this claim. -/
import Derived.Test.YtbnkpcfjechfiaaGreatDoorYPL1
import Derived.Test.YtbnkpcfjechfiaaGreatDoorYPM2
set_option linter.all false
set_option maxRecDepth 100000
set_option maxHeartbeats 8000000
namespace Go.Proofs.YtbnkpcfjechfiaaGreatDoor
open Go.RowKit Dg
def kZ (x:CQ) (zs:List CQ) (j:Nat):CQ:=(zs.drop j).foldr (fun z acc=>(acc.mul x).add z) ⟨0,0⟩
theorem yz (x:CQ) (zs:List CQ):kZ x zs zs.length=⟨0,0⟩:=by unfold kZ;rw[IM];rfl
theorem uS (x:CQ) {zs:List CQ}{j:Nat} (h:j<zs.length):kZ x zs j=((kZ x zs (j+1)).mul x).add zs[j]:=by
 unfold kZ;rw[GL h];rfl
def atL (zs:List CQ) (x:CQ):CQ:=kZ x zs 0
def nQ:Nat→Nat
 | 0=>1
 | n+1=>2*(nQ n+2000)+1+2000+1
theorem AH {n:Nat} (h:n≤7):nQ n≤764000:=by
 have:∀ m≤7,nQ m≤764000:=by decide
 exact this n h
theorem yA {n:Nat} (h:n<7):2*(nQ n+2000)+1+2000+1≤764000:=AH (n:=n+1) h
theorem IsV.parts {w:World}{a b c d e f:Value}{u:Vl} (h:IsV w (.agg #[a,b,c,d,e,f]) u):IsR w (.agg #[a,b,c]) u.x∧IsR w (.agg #[d,e,f]) u.y:=by
 obtain⟨x1,x2,x3,y1,y2,y3,he,hx,hy⟩:=h;obtain⟨rfl,rfl,rfl,rfl,rfl,rfl⟩:a=x1∧b=x2∧c=x3∧d=y1∧e=y2∧f=y3:=by simpa using he
 exact⟨hx,hy⟩
theorem atN (vp vx:Value) (zs:List CQ) (x:CQ) (w:World) (hp:IsP w vp zs) (hx:IsV w vx (ct x)) (hs:SzL 2000 zs) (hsx:SzV 2000 (ct x)) (hlen:zs.length≤7) :
  Calls Tryz.prog 115 #[vp,vx] w fun e w'=>∃ v',e=.returned v'∧IsV w' v' (ct (atL zs x))∧Below w.heap.size w w':=by
 obtain⟨p,c,rfl,-⟩:=id hp.form;obtain⟨a,b,c',d,e,f,rfl,hax,hay⟩:=id hx;go_enter Tryz.func115,Tryz.ntmps115;go_upto_region 1 with fail
 have q1:=bS.new w a b c' d e f 153;have m1:=aq w (.cells #[a,b,c',d,e,f] 153);have z1:=size_alloc w (.cells #[a,b,c',d,e,f] 153);generalize w.alloc (.cells #[a,b,c',d,e,f] 153)=w1 at *
 have q3:=cQ.new w1 (.bool false) (.slice none 0 0) (.slice none 0 0) (.bool false) (.slice none 0 0) (.slice none 0 0) (by intro z e;cases e) (by intro z e;cases e) (by intro z e;cases e) (by intro z e;cases e) (by intro z e;cases e) (by intro z e;cases e);have m3:=aq w1 (.cells #[.bool false,.slice none 0 0,.slice none 0 0,.bool false,.slice none 0 0,.slice none 0 0] 153);generalize w1.alloc (.cells #[.bool false,.slice none 0 0,.slice none 0 0,.bool false,.slice none 0 0,.slice none 0 0] 153)=w3 at *
 rw[z1] at q3;have q1:=q1.below m3;have MD:=Fi (m1.trans (m3.mono m1.size));have B3:=Fi q3;have Q1:=Fi q1;have HX:=Fi (hx.below MD.out);have HP:=Fi (hp.below MD.out);clear q1 q3 m1 m3 z1 hax hay hx hp;go_wp2_with fail
 refine (jJ 0 w3 (by decide) (by decide)).mono ?_;rintro e w4 ⟨v4,rfl,hv4,hb4⟩;go_wp2_with fail
 refine (eR _ _ _ hv4).mono ?_;rintro e w5 ⟨v5,rfl,hv5,hb5⟩;have hB5:=hb4.trans (hb5.mono hb4.size);have hv5:IsV w5 v5 (ct (CQ.real 0)):=by rw[←dx];exact hv5
 have hgB:w.heap.size+2≤w5.heap.size:=by have:=B3.out.lt;have:=hB5.size;have:=MD.out.size;omega
 obtain⟨x1,x2,x3,y1,y2,y3,rfl,hx5,hy5⟩:=hv5;obtain⟨xm,xp,xl,xc,xq,xk,xd,hxe⟩:=hx5.form;obtain⟨ym,yp,yl,yc,yq,yk,yd,hye⟩:=hy5.form;obtain⟨rfl,rfl,rfl⟩:=et hxe;obtain⟨rfl,rfl,rfl⟩:=et hye;go_upto_region 2 with fail
 have B8:=cQ.new w5 (.bool xm) (.slice xp xl xc) (.slice xq xk xd) (.bool ym) (.slice yp yl yc) (.slice yq yk yd) (by intro z e;cases e) (by intro z e;cases e) (by intro z e;cases e) (by intro z e;cases e) (by intro z e;cases e) (by intro z e;cases e);have m5:=aq w5 (.cells #[.bool xm,.slice xp xl xc,.slice xq xk xd,.bool ym,.slice yp yl yc,.slice yq yk yd] 153);generalize w5.alloc (.cells #[.bool xm,.slice xp xl xc,.slice xq xk xd,.bool ym,.slice yp yl yc,.slice yq yk yd] 153)=wl at *
 generalize hg:w5.heap.size=gB at B8 hgB m5;have hvl:IsV wl (.agg #[.bool xm,.slice xp xl xc,.slice xq xk xd,.bool ym,.slice yp yl yc,.slice yq yk yd]) (ct (CQ.real 0)):=⟨_,_,_,_,_,_,rfl,by rw[←hg] at m5;exact hx5.below m5,by rw[←hg] at m5;exact hy5.below m5⟩;have hs3:w3.heap.size≤gB:=by rw[←hg];exact hB5.size
 have hBl:Below w3.heap.size w3 wl:=hB5.trans (m5.mono hs3);clear hx5 hy5 hb4 hb5 hg hB5;have HZ:kZ x zs zs.length=CQ.real 0:=yz x zs;have HB8:=Fi B8;have HV8:=Fi hvl;have HBl:=Fi hBl;clear B8 hvl hBl m5;go_wp2;go_loopw [6] (fun s6 wr=>∃ (j:Nat) (z:Int) (xm:Bool) (xp:Option Addr) (xl xc:Nat) (xq:Option Addr) (xk xd:Nat) (ym:Bool) (yp:Option Addr) (yl yc:Nat) (yq:Option Addr) (yk yd:Nat),s6=.int .i64 z∧z=(j:Int)-1∧j≤zs.length∧cQ wr gB (.bool xm) (.slice xp xl xc) (.slice xq xk xd) (.bool ym) (.slice yp yl yc) (.slice yq yk yd)∧IsV wr (.agg #[.bool xm,.slice xp xl xc,.slice xq xk xd,.bool ym,.slice yp yl yc,.slice yq yk yd]) (ct (kZ x zs j))∧Below gB wl wr∧Hid (SzV (nQ (zs.length-j)) (ct (kZ x zs j)))) (fun s6 _=>(intOf s6+1).toNat)
 case atStart=>exact⟨zs.length,_,_,_,_,_,_,_,_,_,_,_,_,_,_,_,rfl,rfl,Fq _,HB8.out,by rw[HZ];exact HV8.out,Below.refl _ _,by unfold Hid;rw[HZ,Hd];exact⟨.zero (by decide),.zero (by decide)⟩⟩
 case round =>
  obtain⟨j,z,xm,xp,xl,xc,xq,xk,xd,ym,yp,yl,yc,yq,yk,yd,rfl,hz,hj,hown,hv,hbr,hsz⟩:=hrel;have HB3r:=Fi (HBl.out.trans (hbr.mono hs3));by_cases h0:j=0
  ·subst h0;obtain rfl:z=-1:=by omega
   obtain⟨hx,hy⟩:=hv.parts;have B8:=B3.out.below HB3r.out;have k0:=B8.cell 0;have k1:=B8.cell 1;have k2:=B8.cell 2;have k3:=B8.cell 3;have k4:=B8.cell 4;have k5:=B8.cell 5;have f0:=B8.fr 0;have f1:=B8.fr 1;have f2:=B8.fr 2;have f3:=B8.fr 3;have f4:=B8.fr 4;have f5:=B8.fr 5;have o0:=hown.cell 0;have o1:=hown.cell 1;have o2:=hown.cell 2;have o3:=hown.cell 3;have o4:=hown.cell 4;have o5:=hown.cell 5;have P:=Fi (B8.putV hx hy);have M8:=Fi (P.out.2.2 _ _ (MD.out.trans (HB3r.out.mono MD.out.size)) (by omega));clear hx hy B8 hown hv HB8 HV8 hsz hz;go_wp2_with fail
   have q0:=P.out.1.cell 0;have q1:=P.out.1.cell 1;have q2:=P.out.1.cell 2;have q3:=P.out.1.cell 3;have q4:=P.out.1.cell 4;have q5:=P.out.1.cell 5;refine bodyPost_ret (v:=.agg #[.bool xm,.slice xp xl xc,.slice xq xk xd,.bool ym,.slice yp yl yc,.slice yq yk yd]) (by simp[results,Tryz.results115,go_sem,dZ] at q0 q1 q2 q3 q4 q5 ⊢;simp[results,Tryz.results115,go_sem,q0,q1,q2,q3,q4,q5]) rfl ⟨_,rfl,P.out.2.1,M8.out⟩
  ·obtain⟨k,rfl⟩:∃ k,j=k+1:=⟨j-1,by omega⟩;obtain rfl:z=(k:Int):=by omega
   have hk:k<zs.length:=by omega
   clear HB8 HV8 hz h0;obtain⟨Br,o,rfl,hlt,pm,pp,pl,pc,pq,pk,pd,rm,rp,rl,rc,rq,rk,rd,hkk,a0,a1,a2,a3,a4,a5⟩:=HP.out.get hk;have hstep:=uS x hk;have hzk:=hs _ (FG hk);generalize zs[k]=zk at hkk hstep hzk;have hS6:=yA (n:=zs.length-(k+1)) (by omega);have hSn:nQ (zs.length-k)=2*(nQ (zs.length-(k+1))+2000)+1+2000+1:=by rw[show zs.length-k=zs.length-(k+1)+1 from by omega];rfl
   have F1:=Fi (hsz.out.fewV hsx (by omega));have hz1:=hsz.out.times hsx;rw[cV] at hz1;have F2:=Fi (And.intro (hz1.x.fewR hzk.x (by omega)) (hz1.y.fewR hzk.y (by omega)));have hz2:=hz1.plus hzk;rw[fC,←hstep,←hSn] at hz2;have HZ2:=Fi hz2;have HST:=Fi hstep;have hgr:gB<wr.heap.size:=hown.lt;clear hz1 hz2 hstep hS6 hSn hzk hsz;go_upto_region 5 with fail
   have m4:Below wr.heap.size wr wr.drew:=(Below.refl _ _).drew;refine aw (fun w'=>∃ x:aK gB wr.drew,w'=x.w) (fun i=>i == 0||i == 2||i == 7||i == 8) (by kernel_rfl) (by kernel_rfl) ⟨⟨_,Below.refl _ _⟩,rfl⟩ ?_;generalize wr.drew=wd at *
   have hB0:Below wd.heap.size wd wd:=Below.refl _ _;have hz:gB≤wd.heap.size:=by have:=m4.size;omega
   have HB3d:=HB3r.out.trans (m4.mono HB3r.out.size);have e1:=fun x:aK gB wd=>(Q1.out.below HB3d).at x.h (by omega);have b0:=fun x=>(e1 x).c0;have b01:=fun x=>(e1 x).c1;have b02:=fun x=>(e1 x).c2;have b03:=fun x=>(e1 x).c3;have b04:=fun x=>(e1 x).c4;have b05:=fun x=>(e1 x).c5;have r0:=fun x:aK gB wd=>(x.h.cell (p:=⟨Br,o+k*6,none⟩) (by show Br<gB;omega)).trans ((HB3d.cell (p:=⟨Br,o+k*6,none⟩) hlt).trans a0);have r1:=fun x:aK gB wd=>(x.h.cell (p:=⟨Br,o+k*6+1,none⟩) (by show Br<gB;omega)).trans ((HB3d.cell (p:=⟨Br,o+k*6+1,none⟩) hlt).trans a1);have r2:=fun x:aK gB wd=>(x.h.cell (p:=⟨Br,o+k*6+2,none⟩) (by show Br<gB;omega)).trans ((HB3d.cell (p:=⟨Br,o+k*6+2,none⟩) hlt).trans a2);have r3:=fun x:aK gB wd=>(x.h.cell (p:=⟨Br,o+k*6+3,none⟩) (by show Br<gB;omega)).trans ((HB3d.cell (p:=⟨Br,o+k*6+3,none⟩) hlt).trans a3);have r4:=fun x:aK gB wd=>(x.h.cell (p:=⟨Br,o+k*6+4,none⟩) (by show Br<gB;omega)).trans ((HB3d.cell (p:=⟨Br,o+k*6+4,none⟩) hlt).trans a4);have r5:=fun x:aK gB wd=>(x.h.cell (p:=⟨Br,o+k*6+5,none⟩) (by show Br<gB;omega)).trans ((HB3d.cell (p:=⟨Br,o+k*6+5,none⟩) hlt).trans a5);have Q:=Fi (hown.below m4);have o0:=Q.out.cell 0;have o1:=Q.out.cell 1;have o2:=Q.out.cell 2;have o3:=Q.out.cell 3;have o4:=Q.out.cell 4;have o5:=Q.out.cell 5;have HVd:=Fi (hv.below m4);have HXd:=Fi (HX.out.below HB3d);have HKd:=Fi (hkk.v.below HB3d);have HBw:=Fi (hbr.trans (m4.mono (FT hgr)));clear e1 hown hv hkk hbr a0 a1 a2 a3 a4 a5 HB3d m4 HP HX;refine ap rfl rfl (fun K hK=>?_)
   go_simp;refine hK _ _ ⟨⟨_,hB0.mono hz⟩,rfl⟩ ?_;clear hK K;try simp only[Act.put,Fm,Fl,Fk,Fj,Fo,Fp]
   refine ak 1 1 _ _ _ (by kernel_rfl) ?_;simp only[Fr,Fv,Fs,Fu];repeat (go_big_quiet_step (fail))
   refine wpQuiet_nil ?_;refine ap rfl rfl (fun K hK=>?_);go_simp;refine (iU _ _ _ _ _ HVd.out HXd.out F1.out).mono ?_;rintro e w6 ⟨v6,rfl,hv6,hb6⟩;rw[cV] at hv6;refine hK _ _ ⟨⟨_,hb6.mono hz⟩,rfl⟩ ?_;clear hK K;try simp only[Act.put,Fm,Fl,Fk,Fj,Fo,Fp]
   refine ak 4 3 _ _ _ (by kernel_rfl) ?_;simp only[Fr,Fv,Fs,Fu];repeat (go_big_quiet_step (fail))
   refine wpQuiet_nil ?_;refine ap rfl rfl (fun K hK=>?_);go_simp;refine (vu _ _ _ _ _ hv6 (HKd.out.below hb6) F2.out.1 F2.out.2).mono ?_;rintro e w7 ⟨v7,rfl,hv7,hb7⟩;have hB7:=hb6.trans (hb7.mono hb6.size);rw[fC,←HST.out] at hv7;refine hK _ _ ⟨⟨_,hB7.mono hz⟩,rfl⟩ ?_;clear hK K;try simp only[Act.put,Fm,Fl,Fk,Fj,Fo,Fp]
   obtain⟨x1,x2,x3,y1,y2,y3,rfl,hx,hy⟩:=hv7;obtain⟨sm,sp,sl,sc,sq,sk,sd,hxe⟩:=hx.form;obtain⟨tm,tp,tl,tc,tq,tk,td,hye⟩:=hy.form;obtain⟨rfl,rfl,rfl⟩:=et hxe;obtain⟨rfl,rfl,rfl⟩:=et hye;have B8:=Q.out.below hB7;have k0:=B8.cell 0;have k1:=B8.cell 1;have k2:=B8.cell 2;have k3:=B8.cell 3;have k4:=B8.cell 4;have k5:=B8.cell 5;have f0:=B8.fr 0;have f1:=B8.fr 1;have f2:=B8.fr 2;have f3:=B8.fr 3;have f4:=B8.fr 4;have f5:=B8.fr 5;have P:=Fi (B8.putV hx hy);refine ap rfl rfl (fun K hK=>?_);go_simp;refine hK undef _ ⟨⟨_,P.out.2.2 _ _ (hB7.mono hz) (Fq _)⟩,rfl⟩ ?_;clear hK K;try simp only[Act.put,Fm,Fl,Fk,Fj,Fo,Fp]
   refine aD ?_;have M8:=Fi (P.out.2.2 gB wl (HBw.out.trans (hB7.mono hz)) (Fq _));clear hx hy hxe hye B8 k0 k1 k2 k3 k4 k5 f0 f1 f2 f3 f4 f5 o0 o1 o2 o3 o4 o5 hv6 hb6 hb7 hB0 r0 r1 r2 r3 r4 r5 b0 b01 b02 b03 b04 b05;go_wp2;go_roundw;case rel=>exact⟨k,_,_,_,_,_,_,_,_,_,_,_,_,_,_,_,rfl,by go_num,by omega,P.out.1,P.out.2.1,M8.out,HZ2.out⟩
   case measure=>(first | (simp[intOf];done) | (simp[intOf];omega))
theorem Et (F:FuncId) (b:Value) (φ:CQ→CQ) (s:ByteArray) (w:World) (hG:Gw w) (EN:∀ (args:Array Value) (w:World),(callFunc F args).run Tryz.prog w=.ok (.enter F args) w)
  (hF:∀ p,fR s=some p→∀ (x:Value) (w':World),Below w.heap.size w w'→IsV w' x (ct p)→Calls Tryz.prog F #[b,x] w' fun e w''=>∃ v,e=.returned v∧IsV w'' v (ct (φ p))∧Below w'.heap.size w' w'') :
  Calls Tryz.prog 114 #[.string s,.func (.func F) #[b] #[]] w fun e w'=>e=.returned (.tuple #[.string (ofC φ s).1,.int .i64 (ofC φ s).2])∧Below w.heap.size w w':=by
 have HF:=Fi hF;clear hF;go_enter Tryz.func114,Tryz.ntmps114;go_wp2_with fail
 refine (jS s w hG).mono ?_;rintro e w1 ⟨v,ok,rfl,hcase,hb1⟩;rcases hcase with ⟨z,hz,rfl,hv⟩ | ⟨hz,rfl,rfl⟩
 ·obtain⟨p,rfl,hp1,hp2,-,-⟩:=iL hz;have HP1:=Fi (show ofC φ s=dQ (φ p) by unfold ofC;rw[hp1]);have HF:=Fi (HF.out p hp1);clear hz hp1;have hk:IsK w1 v p:=⟨hv,hp2.mono (by decide)⟩
  obtain⟨xm,xp,xl,xc,xq,xk,xd,ym,yp,yl,yc,yq,yk,yd,rfl⟩:∃ xm xp xl xc xq xk xd ym yp yl yc yq yk yd,v=.agg #[.bool xm,.slice xp xl xc,.slice xq xk xd,.bool ym,.slice yp yl yc,.slice yq yk yd]:=by
   obtain⟨_,_,_,_,_,_,rfl,hx0,hy0⟩:=hk.v;obtain⟨xm,xp,xl,xc,xq,xk,xd,hxe⟩:=hx0.form;obtain⟨ym,yp,yl,yc,yq,yk,yd,hye⟩:=hy0.form;obtain⟨rfl,rfl,rfl⟩:=et hxe;obtain⟨rfl,rfl,rfl⟩:=et hye;exact⟨_,_,_,_,_,_,_,_,_,_,_,_,_,_,rfl⟩
  go_upto_region 2 with fail
  have q1:=bS.new w1 (.bool xm) (.slice xp xl xc) (.slice xq xk xd) (.bool ym) (.slice yp yl yc) (.slice yq yk yd) 153;have m1:=aq w1 (.cells #[.bool xm,.slice xp xl xc,.slice xq xk xd,.bool ym,.slice yp yl yc,.slice yq yk yd] 153);generalize w1.alloc (.cells #[.bool xm,.slice xp xl xc,.slice xq xk xd,.bool ym,.slice yp yl yc,.slice yq yk yd] 153)=w2 at *
  have a0:=q1.c0;have a1:=q1.c1;have a2:=q1.c2;have a3:=q1.c3;have a4:=q1.c4;have a5:=q1.c5;have hB2:=hb1.trans (m1.mono hb1.size);have HC:=Fi (HF.out _ w2 hB2 (hk.v.below m1));have HG:=Fi (hG.below hB2);clear q1 m1 hk hv hb1 HF;go_wp2_with fail
  refine HC.out.mono ?_;rintro e w3 ⟨v3,rfl,hv3,hb3⟩;have hB3:=hB2.trans (hb3.mono hB2.size);go_wp2_with fail
  refine (Bs _ _ _ hv3 (HG.out.below hb3)).mono ?_;rintro e w4 ⟨rfl,hb4⟩;go_wp2;refine bodyPost_ret (v:=.tuple #[.string (dQ (φ p)).1,.int .i64 (dQ (φ p)).2]) (by simp[results,Tryz.results114,go_sem]) rfl ⟨by rw[HP1.out],hB3.trans (hb4.mono hB3.size)⟩
 ·have HE:=Fi (show ofC φ s=(⟨#[]⟩,10) by unfold ofC;rw[gg hz]);clear hz;unfold gX;go_wp2;refine bodyPost_ret (v:=.tuple #[.string ⟨#[]⟩,.int .i64 10]) (by simp[results,Tryz.results114,go_sem]) rfl ⟨by rw[HE.out],hb1.trans ((aq w1 _).mono hb1.size)⟩
def atT (l:List ByteArray) (s:ByteArray):ByteArray×Int:=match dJ l with | .error e=>(⟨#[]⟩,e) | .ok zs=>ofC (atL zs) s
theorem ou {l:List ByteArray}{zs:List CQ} (h:dJ l=.ok zs):zs.length≤l.length:=by
 unfold dJ at h
 split at h
 ·cases h
 ·split at h
  ·rename_i ys hy
   cases h
   have h1:=gl hy;have h2:=jU ys;omega
  ·cases h
theorem DL (v:Value) (l:List ByteArray) (s:ByteArray) (w:World) (hl:IsS w v l) (h7:l.length≤7) (hG:Gw w) :
  Calls Tryz.prog 61 #[v,.string s] w fun e w'=>e=.returned (.tuple #[.string (atT l s).1,.int .i64 (atT l s).2])∧Below w.heap.size w w':=by
 have HP:=Fi (ng v l w hl hG);have HG:=Fi hG;clear hl hG;go_enter Tryz.func61,Tryz.ntmps61;go_wp2_with fail
 refine HP.out.mono ?_;rintro e w1 ⟨u,x,rfl,hr,hb1⟩
 cases hpc:dJ l with
 | error ea =>
  rw[hpc] at hr;obtain⟨rfl,rfl⟩:=hr;have HE:=Fi (show atT l s=(⟨#[]⟩,x) by unfold atT;rw[hpc]);have hd:decide (x=0)=false:=decide_eq_false (by rcases j1 hpc with rfl | rfl<;>decide);have hd2:(x != 0)=true:=by rcases j1 hpc with rfl | rfl<;>decide
  clear hpc HP;go_wp2;refine bodyPost_ret (v:=.tuple #[.string ⟨#[]⟩,.int .i64 x]) (by simp[results,Tryz.results61,go_sem]) rfl ⟨by rw[HE.out],hb1⟩
 | ok zs =>
  rw[hpc] at hr;obtain⟨rfl,hu⟩:=hr;have s1:=jy hpc;have l1:=ou hpc;have HE:=Fi (show atT l s=ofC (atL zs) s by unfold atT;rw[hpc]);have HO:=Fi (Et 115 u (atL zs) s w1 (HG.out.below hb1) (bj Tryz.func115 rfl (by kernel_rfl)) (fun p hp x w' hb hx=>atN u x zs p w' (hu.below hb) hx s1 (sS hp).2.2 (by omega)));clear hpc HP hu s1 l1 h7;obtain⟨y,hy⟩:∃ y,y=ofC (atL zs) s:=⟨_,rfl⟩;rw[←hy] at HO HE;clear hy;go_wp2_with fail
  refine HO.out.mono ?_;rintro e w2 ⟨rfl,hb2⟩;go_wp2;refine bodyPost_ret (v:=.tuple #[.string y.1,.int .i64 y.2]) (by simp[results,Tryz.results61,go_sem]) rfl ⟨by rw[HE.out],hb1.trans (hb2.mono hb1.size)⟩
theorem DG {z:ByteArray} (h:z≠⟨#[48]⟩):(z.toList == [48])=false:=by
 refine Gl.2 fun hb=>h ?_;have e:z.toList=[48]:=by simpa using hb
 rw[ax] at e;exact iH e
def fK (a b:List ByteArray) (z:ByteArray):ByteArray×Int :=
 if aC a b=true then
  if lW z=true then
   if z=⟨#[48]⟩ then (⟨#[]⟩,32)
   else if (atT b (df ⟨#[49]⟩ z)).1=⟨#[48]⟩ then (⟨#[]⟩,32)
   else (df (atT a (df ⟨#[49]⟩ z)).1 (atT b (df ⟨#[49]⟩ z)).1,0)
  else (⟨#[]⟩,2)
 else (⟨#[]⟩,30)
theorem pF (v:Value) (a b:List ByteArray) (z:ByteArray) (w:World) (hF:IsF w v a b) (hG:Gx w) :
  Calls Tryz.prog 19 #[v,.string z] w fun e w'=>e=.returned (.tuple #[.string (fK a b z).1,.int .i64 (fK a b z).2])∧Below w.heap.size w w':=by
 obtain⟨p,c,q,d,rfl,hfa,hfb⟩:=id hF.ex;go_enter Tryz.func19,Tryz.ntmps19;go_upto_region 1 with fail
 have cc:=aG w (.slice p a.length c) (.slice q b.length d);have m1:=aq w (.cells #[.slice p a.length c,.slice q b.length d] 24);have zz:=size_alloc w (.cells #[.slice p a.length c,.slice q b.length d] 24);generalize w.alloc (.cells #[.slice p a.length c,.slice q b.length d] 24)=w1 at *
 have HCK:=Fi (eH _ a b w1 (hF.below m1) (hG.below m1));have HA:=Fi (hfa.below m1);have HB:=Fi (hfb.below m1);have HG:=Fi (hG.below m1);have c0:=cc.1;have c1:=cc.2;have hlt:w.heap.size<w1.heap.size:=by omega
 have M1:=Fi m1;clear hfa hfb cc zz m1 hF hG;by_cases hck:aC a b=true
 ·have hce:aB a b=0:=by unfold aB;rw[if_pos hck]
  rw[hce] at HCK;obtain⟨ob1,ob7,oa1,oa7,oac,obc,ohd⟩:=aZ hck;clear hce;go_wp2_with fail
  refine HCK.out.mono ?_;rintro e w2 ⟨rfl,hb2⟩;have d0:=ag hb2 hlt c0;have d1:=ag hb2 hlt c1;have HA2:=Fi (HA.out.below hb2);have HB2:=Fi (HB.out.below hb2);have HG2:=Fi (HG.out.below hb2);have M2:=Fi (M1.out.trans (hb2.mono M1.out.size));have hlt2:w.heap.size<w2.heap.size:=Ft hlt hb2.size;clear c0 c1 HA HB HG HCK M1 hb2 hlt;have HA7:=Fi oa7;have HO7:=Fi ob7;clear oac obc ohd;go_wp2_with fail
  refine (EB z w2 HG2.out).mono ?_;rintro e w3 ⟨rfl,hb3⟩;have e0:=ag hb3 hlt2 d0;have e1:=ag hb3 hlt2 d1;have hlt3:w.heap.size<w3.heap.size:=Ft hlt2 hb3.size;have HA3:=Fi (HA2.out.below hb3);have HB3:=Fi (HB2.out.below hb3);have HG3:=Fi (HG2.out.below hb3);have M3:=Fi (M2.out.trans (hb3.mono M2.out.size));have HT:=Fi (show fK a b z=if lW z=true then if z=⟨#[48]⟩ then (⟨#[]⟩,32) else if (atT b (df ⟨#[49]⟩ z)).1=⟨#[48]⟩ then (⟨#[]⟩,32) else (df (atT a (df ⟨#[49]⟩ z)).1 (atT b (df ⟨#[49]⟩ z)).1,0) else (⟨#[]⟩,2) by unfold fK;rw[if_pos hck]);clear d0 d1 hlt2 HA2 HB2 HG2 M2 hb3 hck ob1 oa1 oa7 ob7
  cases hsz:lW z with
  | false =>
   have HE:=Fi (show fK a b z=(⟨#[]⟩,2) by rw[HT.out,if_neg (by rw[hsz];decide)]);clear hsz;go_wp2;refine bodyPost_ret (v:=.tuple #[.string ⟨#[]⟩,.int .i64 2]) (by simp[results,Tryz.results19,go_sem]) rfl ⟨by rw[HE.out],M3.out⟩
  | true =>
   rw[if_pos hsz] at HT;clear hsz;by_cases hz0:z=⟨#[48]⟩
   ·have HE:=Fi (show fK a b z=(⟨#[]⟩,32) by rw[HT.out,if_pos hz0]);have hzd:(z.toList == [48])=true:=by rw[hz0,ax];rfl
    clear hz0;go_wp2;refine bodyPost_ret (v:=.tuple #[.string ⟨#[]⟩,.int .i64 32]) (by simp[results,Tryz.results19,go_sem]) rfl ⟨by rw[HE.out],M3.out⟩
   ·rw[if_neg hz0] at HT;have hzd:=DG hz0;clear hz0;go_wp2_with fail
    refine (fT _ _ w3 HG3.out.g).mono ?_;rintro e w4 ⟨rfl,hb4⟩;generalize df ⟨#[49]⟩ z=iv at HT ⊢;have g0:=ag hb4 hlt3 e0;have g1:=ag hb4 hlt3 e1;have hlt4:w.heap.size<w4.heap.size:=Ft hlt3 hb4.size;have HA4:=Fi (HA3.out.below hb4);have HB4:=Fi (HB3.out.below hb4);have HG4:=Fi (HG3.out.below hb4);have M4:=Fi (M3.out.trans (hb4.mono M3.out.size));obtain⟨ya,hya⟩:∃ ya,ya=atT a iv:=⟨_,rfl⟩;obtain⟨yb,hyb⟩:∃ yb,yb=atT b iv:=⟨_,rfl⟩;have N1:=DL _ a iv w4 HA4.out HA7.out HG4.out.g;have N2:=Fi (fun wx (h:Below w4.heap.size w4 wx)=>DL _ b iv wx (HB4.out.below h) HO7.out (HG4.out.below h).g);rw[←hya] at N1 HT;rw[←hyb] at N2 HT;have N1:=Fi N1;clear e0 e1 hlt3 HA3 HB3 HG3 M3 hb4 hya hyb HA4 HB4;go_wp2_with fail
    refine N1.out.mono ?_;rintro e w5 ⟨rfl,hb5⟩;have e0:=ag hb5 hlt4 g0;have e1:=ag hb5 hlt4 g1;go_wp2_with fail
    refine (N2.out w5 hb5).mono ?_;rintro e w6 ⟨rfl,hb6⟩;have hB6:=hb5.trans (hb6.mono hb5.size);have M6:=Fi (M4.out.trans (hB6.mono M4.out.size));have HG6:=Fi (HG4.out.below hB6);clear e0 e1 g0 g1 N1 N2 hb5 hb6 hB6 M4 HG4 hlt4;obtain⟨yb1,yb2⟩:=yb;obtain⟨ya1,ya2⟩:=ya;simp only at HT ⊢;by_cases hy0:yb1=⟨#[48]⟩
    ·have HE:=Fi (show fK a b z=(⟨#[]⟩,32) by rw[HT.out,if_pos hy0]);have hyd:(yb1.toList == [48])=true:=by rw[hy0,ax];rfl
     clear hy0;go_wp2;refine bodyPost_ret (v:=.tuple #[.string ⟨#[]⟩,.int .i64 32]) (by simp[results,Tryz.results19,go_sem]) rfl ⟨by rw[HE.out],M6.out⟩
    ·have HE:=Fi (show fK a b z=(df ya1 yb1,0) by rw[HT.out,if_neg hy0]);have hyd:=DG hy0;clear hy0;go_wp2_with fail
     refine (fT _ _ w6 HG6.out.g).mono ?_;rintro e w7 ⟨rfl,hb7⟩;go_wp2;refine bodyPost_ret (v:=.tuple #[.string (df ya1 yb1),.int .i64 0]) (by simp[results,Tryz.results19,go_sem]) rfl ⟨by rw[HE.out],M6.out.trans (hb7.mono M6.out.size)⟩
 ·have HE:=Fi (show fK a b z=(⟨#[]⟩,30) by unfold fK;rw[if_neg hck]);have hce:aB a b=30:=by unfold aB;rw[if_neg hck]
  rw[hce] at HCK;clear hce;go_wp2_with fail
  refine HCK.out.mono ?_;rintro e w2 ⟨rfl,hb2⟩;go_wp2;refine bodyPost_ret (v:=.tuple #[.string ⟨#[]⟩,.int .i64 30]) (by simp[results,Tryz.results19,go_sem]) rfl ⟨by rw[HE.out],M1.out.trans (hb2.mono M1.out.size)⟩
end Go.Proofs.YtbnkpcfjechfiaaGreatDoor
