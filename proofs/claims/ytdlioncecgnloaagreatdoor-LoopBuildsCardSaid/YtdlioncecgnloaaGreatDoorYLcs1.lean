/- Lemmas of this claim. -/
import Derived.Test.YtdlioncecgnloaaGreatDoorYLP13
import Derived.Test.YtdlioncecgnloaaGreatDoorYPM2
import Derived.Test.YtdlioncecgnloaaGreatDoorYWK1
import Derived.Test.YtdlioncecgnloaaGreatDoorYPS2
import Derived.Test.YtdlioncecgnloaaGreatDoorYPV2
set_option linter.all false
set_option maxRecDepth 100000
set_option maxHeartbeats 8000000
namespace Go.Proofs.YtdlioncecgnloaaGreatDoor
open Go.RowKit Dg
theorem mN {l:List CQ}{i:Nat} (h:i<l.length):l.getD i ⟨0,0⟩=l[i]:=by
 rw[zC,zE h];rfl
theorem qR {zs ws:List CQ} (hl:ws.length=zs.length) (hsz:SzL 2000 zs) (hsw:SzL 2000 ws):∀ i,i≤zs.length→SzV (1+i*8002) (ct (ie zs ws i))
 | 0,_=>⟨.zero (by decide),.zero (by decide)⟩
 | i+1,hi=>by
  have h1:=qR hl hsz hsw i (by omega)
  have h2:=(hsz _ (zG (show i<zs.length by omega))).times (hsw _ (zG (show i<ws.length by omega)))
  rw[aW] at h2
  have h3:=h1.plus h2
  rw[cQ] at h3
  rw[ie,mN (by omega),mN (by omega)]
  exact h3.mono (by omega)
theorem dotN (va vb:Value) (zs ws:List CQ) (w:World) (ha:IsP w va zs) (hb:IsP w vb ws) (hl:ws.length=zs.length) (hsz:SzL 2000 zs) (hsw:SzL 2000 ws) (hlen:zs.length≤64) :
  Calls Tryz.prog 135 #[va,vb] w fun e w'=>∃ v',e=.returned v'∧IsV w' v' (ct (ie zs ws zs.length))∧Below w.heap.size w w':=by
 obtain⟨p,c,rfl,-⟩:=id ha.form
 obtain⟨p',c',rfl,-⟩:=id hb.form
 rw[hl] at hb ⊢
 go_enter Tryz.func135,Tryz.ntmps135
 go_upto_region 1 with fail
 have q3:=bd.new w (.bool false) (.slice none 0 0) (.slice none 0 0) (.bool false) (.slice none 0 0) (.slice none 0 0) (by intro z e;cases e) (by intro z e;cases e) (by intro z e;cases e) (by intro z e;cases e) (by intro z e;cases e) (by intro z e;cases e)
 have m3:=ae w (.cells #[.bool false,.slice none 0 0,.slice none 0 0,.bool false,.slice none 0 0,.slice none 0 0] 91)
 have z3:=size_alloc w (.cells #[.bool false,.slice none 0 0,.slice none 0 0,.bool false,.slice none 0 0,.slice none 0 0] 91)
 generalize w.alloc (.cells #[.bool false,.slice none 0 0,.slice none 0 0,.bool false,.slice none 0 0,.slice none 0 0] 91)=w3 at *
 have MD:=zf m3
 have B3:=zf q3
 have HP:=zf (ha.below m3)
 have HP':=zf (hb.below m3)
 have HLE:=zf hl
 clear q3 m3 ha hb hl
 go_wp2_with fail
 refine (fS 0 w3 (by decide) (by decide)).mono ?_
 rintro e w4 ⟨v4,rfl,hv4,hb4⟩
 go_wp2_with fail
 refine (cY _ _ _ hv4).mono ?_
 rintro e w5 ⟨v5,rfl,hv5,hb5⟩
 have hB5:=hb4.trans (hb5.mono hb4.size)
 have hv5:IsV w5 v5 (ct (CQ.real 0)):=by rw[←bI];exact hv5
 have hgB:w.heap.size+1≤w5.heap.size:=by have:=hB5.size;omega
 obtain⟨x1,x2,x3,y1,y2,y3,rfl,hx5,hy5⟩:=hv5
 obtain⟨xm,xp,xl,xc,xq,xk,xd,hxe⟩:=hx5.form
 obtain⟨ym,yp,yl,yc,yq,yk,yd,hye⟩:=hy5.form
 obtain⟨rfl,rfl,rfl⟩:=cC hxe
 obtain⟨rfl,rfl,rfl⟩:=cC hye
 go_upto_region 2 with fail
 have B8:=bd.new w5 (.bool xm) (.slice xp xl xc) (.slice xq xk xd) (.bool ym) (.slice yp yl yc) (.slice yq yk yd) (by intro z e;cases e) (by intro z e;cases e) (by intro z e;cases e) (by intro z e;cases e) (by intro z e;cases e) (by intro z e;cases e)
 have m5:=ae w5 (.cells #[.bool xm,.slice xp xl xc,.slice xq xk xd,.bool ym,.slice yp yl yc,.slice yq yk yd] 91)
 generalize w5.alloc (.cells #[.bool xm,.slice xp xl xc,.slice xq xk xd,.bool ym,.slice yp yl yc,.slice yq yk yd] 91)=wl at *
 generalize hg:w5.heap.size=gB at B8 hgB m5
 have hvl:IsV wl (.agg #[.bool xm,.slice xp xl xc,.slice xq xk xd,.bool ym,.slice yp yl yc,.slice yq yk yd]) (ct (CQ.real 0)):=⟨_,_,_,_,_,_,rfl,by rw[←hg] at m5;exact hx5.below m5,by rw[←hg] at m5;exact hy5.below m5⟩
 have hs3:w3.heap.size≤gB:=by rw[←hg];exact hB5.size
 have hBl:Below w3.heap.size w3 wl:=hB5.trans (m5.mono hs3)
 clear hx5 hy5 hb4 hb5 hg hB5
 have HB8:=zf B8
 have HV8:=zf hvl
 have HBl:=zf hBl
 clear B8 hvl hBl m5
 go_wp2
 go_loopw [12] (fun s12 wr=>∃ (i:Nat) (xm:Bool) (xp:Option Addr) (xl xc:Nat) (xq:Option Addr) (xk xd:Nat) (ym:Bool) (yp:Option Addr) (yl yc:Nat) (yq:Option Addr) (yk yd:Nat),s12=.int .i64 i∧i≤zs.length∧bd wr gB (.bool xm) (.slice xp xl xc) (.slice xq xk xd) (.bool ym) (.slice yp yl yc) (.slice yq yk yd)∧IsV wr (.agg #[.bool xm,.slice xp xl xc,.slice xq xk xd,.bool ym,.slice yp yl yc,.slice yq yk yd]) (ct (ie zs ws i))∧Below gB wl wr) (fun s12 _=>zs.length-(intOf s12).toNat)
 case atStart=>exact⟨0,_,_,_,_,_,_,_,_,_,_,_,_,_,_,rfl,zD _,HB8.out,HV8.out,Below.refl _ _⟩
 case round =>
  obtain⟨i,xm,xp,xl,xc,xq,xk,xd,ym,yp,yl,yc,yq,yk,yd,rfl,hi,hown,hv,hbr⟩:=hrel
  have HB3r:=zf (HBl.out.trans (hbr.mono hs3))
  by_cases h0:i=zs.length
  ·subst h0
   obtain⟨hx,hy⟩:=hv.parts
   have B8:=B3.out.below HB3r.out
   have k0:=B8.cell 0;have k1:=B8.cell 1;have k2:=B8.cell 2;have k3:=B8.cell 3;have k4:=B8.cell 4;have k5:=B8.cell 5
   have f0:=B8.fr 0;have f1:=B8.fr 1;have f2:=B8.fr 2;have f3:=B8.fr 3;have f4:=B8.fr 4;have f5:=B8.fr 5
   have o0:=hown.cell 0;have o1:=hown.cell 1;have o2:=hown.cell 2;have o3:=hown.cell 3;have o4:=hown.cell 4;have o5:=hown.cell 5
   have P:=zf (B8.putV hx hy)
   have M8:=zf (P.out.2.2 _ _ (MD.out.trans (HB3r.out.mono MD.out.size)) (by omega))
   clear hx hy B8 hown hv HB8 HV8
   go_wp2_with fail
   have q0:=P.out.1.cell 0;have q1:=P.out.1.cell 1;have q2:=P.out.1.cell 2;have q3:=P.out.1.cell 3;have q4:=P.out.1.cell 4;have q5:=P.out.1.cell 5
   refine bodyPost_ret (v:=.agg #[.bool xm,.slice xp xl xc,.slice xq xk xd,.bool ym,.slice yp yl yc,.slice yq yk yd]) (by simp[results,Tryz.results135,go_sem,cK] at q0 q1 q2 q3 q4 q5 ⊢;simp[results,Tryz.results135,go_sem,q0,q1,q2,q3,q4,q5]) rfl ⟨_,rfl,P.out.2.1,M8.out⟩
  ·have hk:i<zs.length:=by omega
   clear HB8 HV8
   obtain⟨Br,o,rfl,hlt,pm,pp,pl,pc,pq,pk,pd,rm,rp,rl,rc,rq,rk,rd,hkk,a0,a1,a2,a3,a4,a5⟩:=(HP.out.below HB3r.out).get hk
   have hzk:=hsz _ (zG hk)
   have hwk:=hsw _ (zG (show i<ws.length by rw[HLE.out];exact hk))
   have hsd:=qR HLE.out hsz hsw i hi
   have hst:ie zs ws (i+1)=(ie zs ws i).add (zs[i].mul (ws[i]'(by rw[HLE.out];exact hk))):=by rw[ie,mN hk,mN (by rw[HLE.out];exact hk)]
   obtain⟨Bs,o',rfl,hlt',pm',pp',pl',pc',pq',pk',pd',rm',rp',rl',rc',rq',rk',rd',hkk',g0,g1,g2,g3,g4,g5⟩:=(HP'.out.below HB3r.out).get (show i<ws.length by rw[HLE.out];exact hk)
   generalize zs[i]=zk at hkk hst hzk
   generalize ws[i]'(by rw[HLE.out];exact hk)=wk at hkk' hst hwk
   have F1:=zf (hzk.fewV hwk (by omega))
   have hz1:=hzk.times hwk
   rw[aW] at hz1
   have F2:=zf (And.intro (hsd.x.fewR hz1.x (by omega)) (hsd.y.fewR hz1.y (by omega)))
   have HST:=zf hst
   have hgr:gB<wr.heap.size:=hown.lt
   clear hz1 hst hwk hzk hsd
   go_upto_region 5 with fail
   have q1:=aS.new wr (.bool pm) (.slice pp pl pc) (.slice pq pk pd) (.bool rm) (.slice rp rl rc) (.slice rq rk rd) 91
   have m1:=ae wr (.cells #[.bool pm,.slice pp pl pc,.slice pq pk pd,.bool rm,.slice rp rl rc,.slice rq rk rd] 91)
   have z1:=size_alloc wr (.cells #[.bool pm,.slice pp pl pc,.slice pq pk pd,.bool rm,.slice rp rl rc,.slice rq rk rd] 91)
   generalize wr.alloc (.cells #[.bool pm,.slice pp pl pc,.slice pq pk pd,.bool rm,.slice rp rl rc,.slice rq rk rd] 91)=wn at *
   have m4:Below wr.heap.size wr wn.drew:=m1.trans (((Below.refl _ _).drew).mono m1.size)
   have hSn:Below wn.heap.size wn wn.drew:=(Below.refl _ _).drew
   have hX1:wr.heap.size<wn.heap.size:=by omega
   refine wp_mono (aE (Q:=bH _) (fun wx:World=>Below wn.drew.heap.size wn.drew wx) (fun t=>t == 8) (by kernel_rfl) ?_) (fun _ _ _ h=>cr h)
   have e1:=fun (wy:World) (hy:Below wn.drew.heap.size wn.drew wy)=>(q1.below hSn).below hy
   have HQ:=zf (hown.below m4)
   have HV:=zf (hv.below m4)
   have HK:=zf (hkk.v.below m4)
   have HK':=zf (hkk'.v.below m4)
   have HBw:=zf (hbr.trans (m4.mono (By hgr)))
   have HB3d:=zf (HB3r.out.trans (m4.mono HB3r.out.size))
   have r0:=(m4.cell (p:=⟨Bs,o'+i*6,none⟩) hlt').trans g0
   have r1:=(m4.cell (p:=⟨Bs,o'+i*6+1,none⟩) hlt').trans g1
   have r2:=(m4.cell (p:=⟨Bs,o'+i*6+2,none⟩) hlt').trans g2
   have r3:=(m4.cell (p:=⟨Bs,o'+i*6+3,none⟩) hlt').trans g3
   have r4:=(m4.cell (p:=⟨Bs,o'+i*6+4,none⟩) hlt').trans g4
   have r5:=(m4.cell (p:=⟨Bs,o'+i*6+5,none⟩) hlt').trans g5
   have hltn:Bs<wn.drew.heap.size:=zq hlt' m4.size
   have hgn:gB≤wn.drew.heap.size:=zF (By hgr) m4.size
   clear hown hv hkk hkk' hbr a0 a1 a2 a3 a4 a5 g0 g1 g2 g3 g4 g5 m1 m4 z1 q1 HB3r HP HP' hlt hlt'
   generalize wn.drew=wd at *
   have hS:Below wd.heap.size wd wd:=Below.refl _ _
   refine ay (i:=0) (v:=?vv0) rfl (by kernel_rfl) (fun _ _ _ h=>h) rfl hS ?hy0 ?rest0
   case hy0 =>
    intro wy hy
    have Q:=HQ.out.below hy
    have o0:=Q.cell 0;have o1:=Q.cell 1;have o2:=Q.cell 2;have o3:=Q.cell 3;have o4:=Q.cell 4;have o5:=Q.cell 5
    clear hy Q
    go_simp
    try with_reducible rfl
   try simp only[Act.put,zj,zi,zh,zg,zl,zm]
   refine ay (i:=1) (v:=?vv1) rfl (by kernel_rfl) (fun _ _ _ h=>h) rfl hS ?hy1 ?rest1
   case hy1 =>
    intro wy hy
    have Q:=e1 wy hy
    have o0:=Q.c0;have o1:=Q.c1;have o2:=Q.c2;have o3:=Q.c3;have o4:=Q.c4;have o5:=Q.c5
    clear hy Q
    go_simp
    try with_reducible rfl
   try simp only[Act.put,zj,zi,zh,zg,zl,zm]
   refine aj (i:=2) (v:=?vv2) rfl (by kernel_rfl) (fun _ _ _ h=>h) rfl ?hy2 ?rest2
   case hy2=>(intro wy;go_simp;try with_reducible rfl)
   try simp only[Act.put,zj,zi,zh,zg,zl,zm]
   refine aj (i:=3) (v:=?vv3) rfl (by kernel_rfl) (fun _ _ _ h=>h) rfl ?hy3 ?rest3
   case hy3=>(intro wy;go_simp;try with_reducible rfl)
   try simp only[Act.put,zj,zi,zh,zg,zl,zm]
   refine aj (i:=4) (v:=?vv4) rfl (by kernel_rfl) (fun _ _ _ h=>h) rfl ?hy4 ?rest4
   case hy4=>(intro wy;go_simp;try with_reducible rfl)
   try simp only[Act.put,zj,zi,zh,zg,zl,zm]
   refine ay (i:=5) (v:=?vv5) rfl (by kernel_rfl) (fun _ _ _ h=>h) rfl hS ?hy5 ?rest5
   case hy5 =>
    intro wy hy
    have o0:=(hy.cell (p:=⟨Bs,o'+i*6,none⟩) hltn).trans r0
    have o1:=(hy.cell (p:=⟨Bs,o'+i*6+1,none⟩) hltn).trans r1
    have o2:=(hy.cell (p:=⟨Bs,o'+i*6+2,none⟩) hltn).trans r2
    have o3:=(hy.cell (p:=⟨Bs,o'+i*6+3,none⟩) hltn).trans r3
    have o4:=(hy.cell (p:=⟨Bs,o'+i*6+4,none⟩) hltn).trans r4
    have o5:=(hy.cell (p:=⟨Bs,o'+i*6+5,none⟩) hltn).trans r5
    clear hy
    go_simp
    try with_reducible rfl
   try simp only[Act.put,zj,zi,zh,zg,zl,zm]
   refine ax (i:=6) rfl (by kernel_rfl) rfl (fun K hK=>?_)
   go_simp
   refine (eT _ _ _ _ _ HK.out HK'.out F1.out).mono ?_
   rintro e w6 ⟨v6,rfl,hv6,hb6⟩
   rw[aW] at hv6
   refine hK _ _ (fun _ _=>hb6) ?_
   clear hK K
   try simp only[Act.put,zj,zi,zh,zg,zl,zm]
   refine ax (i:=7) rfl (by kernel_rfl) rfl (fun K hK=>?_)
   go_simp
   refine (mZ _ _ _ _ _ (HV.out.below hb6) hv6 F2.out.1 F2.out.2).mono ?_
   rintro e w7 ⟨v7,rfl,hv7,hb7⟩
   have hB7:=hb6.trans (hb7.mono hb6.size)
   rw[cQ,←HST.out] at hv7
   refine hK _ _ (fun _ _=>hB7) ?_
   clear hK K
   try simp only[Act.put,zj,zi,zh,zg,zl,zm]
   obtain⟨x1,x2,x3,y1,y2,y3,rfl,hx,hy⟩:=hv7
   obtain⟨sm,sp,sl,sc,sq,sk,sd,hxe⟩:=hx.form
   obtain⟨tm,tp,tl,tc,tq,tk,td,hye⟩:=hy.form
   obtain⟨rfl,rfl,rfl⟩:=cC hxe
   obtain⟨rfl,rfl,rfl⟩:=cC hye
   have B8:=HQ.out.below hB7
   have k0:=B8.cell 0;have k1:=B8.cell 1;have k2:=B8.cell 2;have k3:=B8.cell 3;have k4:=B8.cell 4;have k5:=B8.cell 5
   have f0:=B8.fr 0;have f1:=B8.fr 1;have f2:=B8.fr 2;have f3:=B8.fr 3;have f4:=B8.fr 4;have f5:=B8.fr 5
   have P:=zf (B8.putV hx hy)
   have M8:=zf (P.out.2.2 gB wl (HBw.out.trans (hB7.mono hgn)) (zn _))
   clear hx hy hxe hye B8 hv6 hb6 hb7 hS e1 r0 r1 r2 r3 r4 r5
   refine ax (i:=8) rfl (by kernel_rfl) rfl (fun K hK=>?_)
   go_simp
   refine hK _ _ (fun h=>by cases h) ?_
   clear hK K k0 k1 k2 k3 k4 k5 f0 f1 f2 f3 f4 f5
   try simp only[Act.put,zj,zi,zh,zg,zl,zm]
   refine a6 (by kernel_rfl) ?_ _
   simp only[bH]
   go_wp2
   go_roundw
   case rel=>exact⟨i+1,_,_,_,_,_,_,_,_,_,_,_,_,_,_,by go_num,by omega,P.out.1,P.out.2.1,M8.out⟩
   case measure=>(first | (simp[intOf];done) | (simp[intOf];omega))
theorem uN (va vb:Value) (a b:List ByteArray) (w:World) (ha:IsS w va a) (hb:IsS w vb b) (hl:b.length=a.length) (hlen:a.length≤64) (hG:Gw w) :
  Calls Tryz.prog 56 #[va,vb] w fun e w'=>e=.returned (.tuple #[.string (iY a b).1,.int .i64 (iY a b).2])∧Below w.heap.size w w':=by
 obtain⟨pa,ca,rfl,-⟩:=id ha.form
 obtain⟨pb,cb,rfl,-⟩:=id hb.form
 have HA:=zf (mD _ a w ha (by omega) hG)
 rw[hl] at hb ⊢
 have HB:=zf (fun (w1:World) (h:Below w.heap.size w w1)=>mD _ b w1 (hb.below h) (by omega) (hG.below h))
 have HG:=zf hG
 obtain⟨n,hn⟩:∃ n,n=a.length:=⟨_,rfl⟩
 rw[←hn] at hlen ⊢
 have HLA:=zf (And.intro hn.symm hl)
 rw[←hn] at HA HB
 clear ha hb hG hl hn
 go_enter Tryz.func56,Tryz.ntmps56
 go_wp2_with fail
 refine HA.out.mono ?_
 rintro e w1 ⟨v1,ok,rfl,hcase,hb1⟩
 have HCA:=zf hcase
 clear hcase HA
 obtain⟨q1,n1,c1,rfl⟩:∃ q1 n1 c1,v1=.slice q1 n1 c1:=by
  rcases HCA.out with ⟨zs,-,-,h⟩ | ⟨-,-,h⟩
  ·obtain⟨p,c,e,-⟩:=h.form;exact⟨_,_,_,e⟩
  ·exact⟨_,_,_,h⟩
 have HG1:=zf (HG.out.below hb1)
 go_wp2_with fail
 refine (HB.out w1 hb1).mono ?_
 rintro e w2 ⟨v2,ok2,rfl,hcase,hb2⟩
 have HCB:=zf hcase
 clear hcase HB
 obtain⟨q2,n2,c2,rfl⟩:∃ q2 n2 c2,v2=.slice q2 n2 c2:=by
  rcases HCB.out with ⟨zs,-,-,h⟩ | ⟨-,-,h⟩
  ·obtain⟨p,c,e,-⟩:=h.form;exact⟨_,_,_,e⟩
  ·exact⟨_,_,_,h⟩
 have HB2:=zf (hb1.trans (hb2.mono hb1.size))
 rcases HCA.out with ⟨zs,hz,rfl,hp⟩ | ⟨hz,rfl,-⟩
 ·rcases HCB.out with ⟨ws,hw,rfl,hq⟩ | ⟨hw,rfl,-⟩
  ·have HD:=zf (show iY a b=b9 (ie zs ws zs.length) by unfold iY;rw[hz,hw])
   have hzl:zs.length=n:=by rw[cP hz,HLA.out.1]
   have hwl:ws.length=zs.length:=by rw[cP hw,HLA.out.2,←cP hz]
   have HDO:=zf (dotN _ _ zs ws w2 (hp.below hb2) hq hwl (jV hz) (jV hw) (by omega))
   have HG2:=zf (HG1.out.below hb2)
   clear HCA HCB hz hw hp hq hb1 hb2 hzl hwl
   go_wp2_with fail
   refine HDO.out.mono ?_
   rintro e w3 ⟨v3,rfl,hv3,hb3⟩
   have HB3:=zf (HB2.out.trans (hb3.mono HB2.out.size))
   have HP:=zf (s_ _ _ _ hv3 (HG2.out.below hb3))
   clear hb3 hv3 HDO
   go_wp2_with fail
   refine HP.out.mono ?_
   rintro e w4 ⟨rfl,hb4⟩
   go_wp2
   refine bodyPost_ret (v:=.tuple #[.string (b9 (ie zs ws zs.length)).1,.int .i64 (b9 (ie zs ws zs.length)).2]) (by simp[results,Tryz.results56,go_sem]) rfl ⟨by rw[HD.out],HB3.out.trans (hb4.mono HB3.out.size)⟩
  ·have HD:=zf (show iY a b=(⟨#[]⟩,10) by unfold iY;rw[hz,hw])
   clear HCA HCB hz hw hp hb1 hb2
   go_wp2
   refine bodyPost_ret (v:=.tuple #[.string ⟨#[]⟩,.int .i64 10]) (by simp[results,Tryz.results56,go_sem]) rfl ⟨by rw[HD.out],HB2.out⟩
 ·have HD:=zf (show iY a b=(⟨#[]⟩,10) by unfold iY;rw[hz])
  clear HCA HCB hz hb1 hb2
  go_wp2
  refine bodyPost_ret (v:=.tuple #[.string ⟨#[]⟩,.int .i64 10]) (by simp[results,Tryz.results56,go_sem]) rfl ⟨by rw[HD.out],HB2.out⟩
theorem x_ (vp:Value) (p:List ByteArray) (k:ByteArray) (L:List ByteArray) (w:World) (hP:IsS w vp p) (h0:0<p.length) (hn:p.length<1000) (hl:L.length=p.length+1)
  (hs:∀ i,i<p.length+1→iY [⟨#[49]⟩,k] [ap (p++[⟨#[48]⟩]) i,ap (p++[⟨#[48]⟩]) (p.length-i)]=(ap L i,0)) (hG:Gx w) :
  Calls Tryz.prog 39 #[vp,.string k] w fun e w'=>∃ u,e=.returned (.tuple #[u,.bool true])∧IsS w' u L∧Below w.heap.size w w':=by
 obtain⟨pp,cp,rfl,-⟩:=id hP.form
 go_enter Tryz.func39,Tryz.ntmps39
 go_upto_region 1 with fail
 refine wp_region_lit ?_
 refine wpList_plain rfl (fun K hK=>?_)
 go_simp
 refine hK _ _ ?_
 clear hK K
 have m1:=ae w (.cells #[] 22)
 have o1:=ji w w.heap.size (zn _)
 have hP1:=hP.below m1
 generalize w.alloc (.cells #[] 22)=w1 at *
 refine wpList_plain rfl (fun K hK=>?_)
 go_simp
 refine hK _ _ ?_
 clear hK K
 obtain⟨bp,op,rfl,-⟩:=hP1.all h0
 refine b8 26 Tryz.underlying26 rfl (.tmp 11) (.tmp 12) rfl w.heap.size _ [] p bp op cp rfl o1 rfl hP1 (by simp;omega) m1.size ?_
 intro v2 w2 o2 hb2
 have M2:=hb2 _ _ m1 (zn _)
 rw[zN] at o2
 clear hb2 m1 hP1 o1
 try simp only[Act.put,zj,zi,zh,zg,zl,zm]
 refine wpList_plain rfl (fun K hK=>?_)
 go_simp
 refine hK _ _ ?_
 clear hK K
 have M3:=M2.alloc M2.size (.cells #[.string ⟨#[48]⟩] 22)
 have o3:=World.ownsRow.alloc o2 (.cells #[.string ⟨#[48]⟩] 22)
 have c3:=aq w2 #[.string ⟨#[48]⟩] 22 0 _ rfl
 refine jp 26 Tryz.underlying26 rfl (.tmp 13) (.tmp 14) rfl w.heap.size _ p ⟨#[48]⟩ rfl o3 _ rfl c3 (by omega) M3.size ?_
 intro v4 w4 A4
 have M4:=A4.below o3 M3 (zn _) M3.size
 try simp only[Act.put,zj,zi,zh,zg,zl,zm]
 refine wpList_plain rfl (fun K hK=>?_)
 go_simp
 refine hK _ _ ?_
 clear hK K
 refine wpList_nil ?_
 obtain⟨q,hq⟩:∃ q,q=p++[(⟨#[48]⟩:ByteArray)]:=⟨_,rfl⟩
 have hQ:=A4.own.isS
 rw[←hq] at hQ hs
 have hql:q.length=p.length+1:=by rw[hq,zw];rfl
 obtain⟨n,hnn⟩:∃ n,n=p.length:=⟨_,rfl⟩
 rw[←hnn] at hs hl hql hn h0
 obtain⟨q4,c4,rfl,-⟩:=id hQ.form
 rw[hql] at hQ ⊢
 rw[←hnn]
 have HM4:=zf M4
 have HQ:=zf hQ
 have HS:=zf hs
 have HL:=zf (And.intro hl hql)
 have HG4:=zf (hG.below M4)
 clear hQ hs hl hql hG M2 M3 M4 o2 o3 c3 A4 hP hq hnn
 go_wp2
 go_loopw [7,8] (fun s7 s8 wr=>∃ i:Nat,s8=.int .i64 i∧i≤n+1∧bf wr w4.heap.size s7 (L.take i)∧Below w4.heap.size w4 wr) (fun _ s8 _=>n+1-(intOf s8).toNat)
 case atStart=>exact⟨0,rfl,zD _,bf.nil _ _,Below.refl _ _⟩
 case round =>
  obtain⟨i,rfl,hin,hown,hbr⟩:=hrel
  by_cases hi:i<n+1
  ·obtain⟨bq,oq,rfl,hlq,hcq⟩:=(HQ.out.below hbr).all (by rw[HL.out.2];omega)
   have c0:=hcq i (by rw[HL.out.2];exact hi)
   have c1:=hcq (n-i) (by rw[HL.out.2];omega)
   have HZ:=zf (HS.out i hi)
   obtain⟨z1,hz1⟩:∃ z,z=ap q i:=⟨_,rfl⟩
   obtain⟨z2,hz2⟩:∃ z,z=ap q (n-i):=⟨_,rfl⟩
   rw[←hz1] at c0 HZ
   rw[←hz2] at c1 HZ
   have hsub:(n:Int)-(i:Int)=((n-i:Nat):Int):=by omega
   obtain⟨ni,hni⟩:∃ x,x=n-i:=⟨_,rfl⟩
   rw[←hni] at hsub c1
   have hni2:ni<n+1:=by omega
   have hni3:(ni:Int)<(n:Int)+1:=by omega
   have hw1:IntKind.i64.wrap ((n:Int)+1-1)=(n:Int):=by rw[show (n:Int)+1-1=(n:Int) from by omega];exact IntWalk.i64_in _ (by omega)
   have hw3:IntKind.i64.wrap (n:Int)=(n:Int):=IntWalk.i64_in _ (by omega)
   have hw2:IntKind.i64.wrap (ni:Int)=(ni:Int):=IntWalk.i64_in _ (by omega)
   clear hcq hz1 hz2 hni
   have hdi:decide ((i:Int)<(n:Int)+1)=true:=decide_eq_true (by omega)
   go_upto_region 6 with fail
   go_cut [9,10] from 22 to 40 (fun s9 s10 wx=>s9=.string (ap L i)∧s10=.int .i64 0∧Below wr.heap.size wr wx)
   case first =>
    have hdi2:(i:Int)<(n:Int)+1:=by omega
    have hBd:Below wr.heap.size wr wr.drew:=(Below.refl _ _).drew
    have HBD:=zf (hbr.trans (hBd.mono hbr.size))
    have HBE:=zf hBd
    have c0:=aa hBd hlq c0
    have c1:=aa hBd hlq c1
    have hlq:bq<wr.drew.heap.size:=hlq
    refine wp_mono (aE (Q:=bH _) (fun wx:World=>Below wr.drew.heap.size wr.drew wx) (fun _=>false) (by kernel_rfl) ?_) (fun _ _ _ h=>cr h)
    clear hown hBd
    generalize wr.drew=wd at *
    have hS:Below wd.heap.size wd wd:=Below.refl _ _
    refine aj (i:=0) (v:=?vv0a) rfl (by kernel_rfl) (fun _ _ _ h=>h) rfl ?hy0a ?rest0a
    case hy0a=>(intro wy;go_simp;try with_reducible rfl)
    try simp only[Act.put,zj,zi,zh,zg,zl,zm]
    refine aj (i:=2) (v:=?vv2a) rfl (by kernel_rfl) (fun _ _ _ h=>h) rfl ?hy2a ?rest2a
    case hy2a=>(intro wy;go_simp;try with_reducible rfl)
    try simp only[Act.put,zj,zi,zh,zg,zl,zm]
    refine aj (i:=3) (v:=?vv3a) rfl (by kernel_rfl) (fun _ _ _ h=>h) rfl ?hy3a ?rest3a
    case hy3a=>(intro wy;go_simp;try with_reducible rfl)
    try simp only[Act.put,zj,zi,zh,zg,zl,zm]
    refine aj (i:=4) (v:=?vv4a) rfl (by kernel_rfl) (fun _ _ _ h=>h) rfl ?hy4a ?rest4a
    case hy4a=>(intro wy;go_simp;try with_reducible rfl)
    try simp only[Act.put,zj,zi,zh,zg,zl,zm]
    refine ay (i:=5) (v:=?vv5a) rfl (by kernel_rfl) (fun _ _ _ h=>h) rfl hS ?hy5a ?rest5a
    case hy5a =>
     intro wy hy
     have c0:=aa hy hlq c0
     clear hy
     go_simp
     try with_reducible rfl
    try simp only[Act.put,zj,zi,zh,zg,zl,zm]
    refine aj (i:=6) (v:=?vv6a) rfl (by kernel_rfl) (fun _ _ _ h=>h) rfl ?hy6a ?rest6a
    case hy6a=>(intro wy;go_simp;try with_reducible rfl)
    try simp only[Act.put,zj,zi,zh,zg,zl,zm]
    refine aj (i:=7) (v:=?vv7a) rfl (by kernel_rfl) (fun _ _ _ h=>h) rfl ?hy7a ?rest7a
    case hy7a=>(intro wy;go_simp;try with_reducible rfl)
    try simp only[Act.put,zj,zi,zh,zg,zl,zm]
    refine aj (i:=8) (v:=?vv8a) rfl (by kernel_rfl) (fun _ _ _ h=>h) rfl ?hy8a ?rest8a
    case hy8a=>(intro wy;go_simp;try with_reducible rfl)
    try simp only[Act.put,zj,zi,zh,zg,zl,zm]
    refine aj (i:=9) (v:=?vv9a) rfl (by kernel_rfl) (fun _ _ _ h=>h) rfl ?hy9a ?rest9a
    case hy9a=>(intro wy;go_simp;try with_reducible rfl)
    try simp only[Act.put,zj,zi,zh,zg,zl,zm]
    refine aj (i:=10) (v:=?vv10a) rfl (by kernel_rfl) (fun _ _ _ h=>h) rfl ?hy10a ?rest10a
    case hy10a=>(intro wy;go_simp;try with_reducible rfl)
    try simp only[Act.put,zj,zi,zh,zg,zl,zm]
    refine aj (i:=11) (v:=?vv11a) rfl (by kernel_rfl) (fun _ _ _ h=>h) rfl ?hy11a ?rest11a
    case hy11a=>(intro wy;go_simp;try with_reducible rfl)
    try simp only[Act.put,zj,zi,zh,zg,zl,zm]
    refine aj (i:=12) (v:=?vv12a) rfl (by kernel_rfl) (fun _ _ _ h=>h) rfl ?hy12a ?rest12a
    case hy12a=>(intro wy;go_simp;try with_reducible rfl)
    try simp only[Act.put,zj,zi,zh,zg,zl,zm]
    refine ay (i:=13) (v:=?vv13a) rfl (by kernel_rfl) (fun _ _ _ h=>h) rfl hS ?hy13a ?rest13a
    case hy13a =>
     intro wy hy
     have c0:=aa hy hlq c1
     clear hy
     go_simp
     try with_reducible rfl
    try simp only[Act.put,zj,zi,zh,zg,zl,zm]
    refine iU (i:=1) (i':=14) rfl rfl (by kernel_rfl) rfl rfl (fun K hK=>?_) (fun K hK=>?_)
    ·go_simp
     have i1:=IsS.two wd ⟨#[49]⟩ k
     have mi1:=ae wd (.cells #[.string ⟨#[49]⟩,.string k] 22)
     have hS1:=hS.trans (mi1.mono hS.size)
     refine hK _ _ (fun _ _=>hS1) ?_
     clear hK K
     try simp only[Act.put,zj,zi,zh,zg,zl,zm]
     generalize wd.alloc (.cells #[.string ⟨#[49]⟩,.string k] 22)=wx1 at *
     refine ax (i:=14) rfl (by kernel_rfl) rfl (fun K hK=>?_)
     go_simp
     have i2:=IsS.two wx1 z1 z2
     have mi2:=ae wx1 (.cells #[.string z1,.string z2] 22)
     have hS2:=hS1.trans (mi2.mono hS1.size)
     refine hK _ _ (fun _ _=>hS2) ?_
     clear hK K
     try simp only[Act.put,zj,zi,zh,zg,zl,zm]
     generalize wx1.alloc (.cells #[.string z1,.string z2] 22)=wx2 at *
     have j1:=i1.below mi2
     have j2:=i2
     have hdt:=uN _ _ [⟨#[49]⟩,k] [z1,z2] wx2 j1 j2 rfl (by simp) (HG4.out.below (HBD.out.trans (hS2.mono HBD.out.size))).g
     rw[HZ.out] at hdt
     have HDT:=zf hdt
     clear hdt i1 i2 mi1 mi2 j1 j2 hS1
     refine ax (i:=15) rfl (by kernel_rfl) rfl (fun K hK=>?_)
     go_simp
     refine HDT.out.mono ?_
     rintro e w7 ⟨rfl,hb7⟩
     have hS7:=hS2.trans (hb7.mono hS2.size)
     refine hK _ _ (fun _ _=>hS7) ?_
     clear hK K HDT
     try simp only[Act.put,zj,zi,zh,zg,zl,zm]
     refine aj (i:=16) (v:=?vv16b) rfl (by kernel_rfl) (fun _ _ _ h=>h) rfl ?hy16b ?rest16b
     case hy16b=>(intro wy;go_simp;try with_reducible rfl)
     try simp only[Act.put,zj,zi,zh,zg,zl,zm]
     refine aj (i:=17) (v:=?vv17b) rfl (by kernel_rfl) (fun _ _ _ h=>h) rfl ?hy17b ?rest17b
     case hy17b=>(intro wy;go_simp;try with_reducible rfl)
     try simp only[Act.put,zj,zi,zh,zg,zl,zm]
     refine aj (i:=18) (v:=?vv18b) rfl (by kernel_rfl) (fun _ _ _ h=>h) rfl ?hy18b ?rest18b
     case hy18b=>(intro wy;go_simp;try with_reducible rfl)
     try simp only[Act.put,zj,zi,zh,zg,zl,zm]
     refine aj (i:=19) (v:=?vv19b) rfl (by kernel_rfl) (fun _ _ _ h=>h) rfl ?hy19b ?rest19b
     case hy19b=>(intro wy;go_simp;try with_reducible rfl)
     try simp only[Act.put,zj,zi,zh,zg,zl,zm]
     refine aj (i:=20) (v:=?vv20b) rfl (by kernel_rfl) (fun _ _ _ h=>h) rfl ?hy20b ?rest20b
     case hy20b=>(intro wy;go_simp;try with_reducible rfl)
     try simp only[Act.put,zj,zi,zh,zg,zl,zm]
     refine a6 (by kernel_rfl) ?_ _
     simp only[bH]
     go_wp2
     go_meet
     exact⟨rfl,rfl,HBE.out.trans (hS7.mono HBE.out.size)⟩
    ·go_simp
     have i2:=IsS.two wd z1 z2
     have mi2:=ae wd (.cells #[.string z1,.string z2] 22)
     have hS1:=hS.trans (mi2.mono hS.size)
     refine hK _ _ (fun _ _=>hS1) ?_
     clear hK K
     try simp only[Act.put,zj,zi,zh,zg,zl,zm]
     generalize wd.alloc (.cells #[.string z1,.string z2] 22)=wx1 at *
     refine ax (i:=1) rfl (by kernel_rfl) rfl (fun K hK=>?_)
     go_simp
     have i1:=IsS.two wx1 ⟨#[49]⟩ k
     have mi1:=ae wx1 (.cells #[.string ⟨#[49]⟩,.string k] 22)
     have hS2:=hS1.trans (mi1.mono hS1.size)
     refine hK _ _ (fun _ _=>hS2) ?_
     clear hK K
     try simp only[Act.put,zj,zi,zh,zg,zl,zm]
     generalize wx1.alloc (.cells #[.string ⟨#[49]⟩,.string k] 22)=wx2 at *
     have j2:=i2.below mi1
     have j1:=i1
     have hdt:=uN _ _ [⟨#[49]⟩,k] [z1,z2] wx2 j1 j2 rfl (by simp) (HG4.out.below (HBD.out.trans (hS2.mono HBD.out.size))).g
     rw[HZ.out] at hdt
     have HDT:=zf hdt
     clear hdt i1 i2 mi1 mi2 j1 j2 hS1
     refine ax (i:=15) rfl (by kernel_rfl) rfl (fun K hK=>?_)
     go_simp
     refine HDT.out.mono ?_
     rintro e w7 ⟨rfl,hb7⟩
     have hS7:=hS2.trans (hb7.mono hS2.size)
     refine hK _ _ (fun _ _=>hS7) ?_
     clear hK K HDT
     try simp only[Act.put,zj,zi,zh,zg,zl,zm]
     refine aj (i:=16) (v:=?vv16c) rfl (by kernel_rfl) (fun _ _ _ h=>h) rfl ?hy16c ?rest16c
     case hy16c=>(intro wy;go_simp;try with_reducible rfl)
     try simp only[Act.put,zj,zi,zh,zg,zl,zm]
     refine aj (i:=17) (v:=?vv17c) rfl (by kernel_rfl) (fun _ _ _ h=>h) rfl ?hy17c ?rest17c
     case hy17c=>(intro wy;go_simp;try with_reducible rfl)
     try simp only[Act.put,zj,zi,zh,zg,zl,zm]
     refine aj (i:=18) (v:=?vv18c) rfl (by kernel_rfl) (fun _ _ _ h=>h) rfl ?hy18c ?rest18c
     case hy18c=>(intro wy;go_simp;try with_reducible rfl)
     try simp only[Act.put,zj,zi,zh,zg,zl,zm]
     refine aj (i:=19) (v:=?vv19c) rfl (by kernel_rfl) (fun _ _ _ h=>h) rfl ?hy19c ?rest19c
     case hy19c=>(intro wy;go_simp;try with_reducible rfl)
     try simp only[Act.put,zj,zi,zh,zg,zl,zm]
     refine aj (i:=20) (v:=?vv20c) rfl (by kernel_rfl) (fun _ _ _ h=>h) rfl ?hy20c ?rest20c
     case hy20c=>(intro wy;go_simp;try with_reducible rfl)
     try simp only[Act.put,zj,zi,zh,zg,zl,zm]
     refine a6 (by kernel_rfl) ?_ _
     simp only[bH]
     go_wp2
     go_meet
     exact⟨rfl,rfl,HBE.out.trans (hS7.mono HBE.out.size)⟩
   case rest =>
    obtain⟨rfl,rfl,hbx⟩:=hcut
    have hB5:=hbr.trans (hbx.mono hbr.size)
    have hown5:=hown.below hbx
    have hbs:=hB5.size
    have hzl:(L.take i).length<1000000000:=by simp;omega
    have HT:=zf (show L.take (i+1)=L.take i++[ap L i] from by
     have h:i<L.length:=by rw[HL.out.1];exact hi
     rw[ee h |>.symm]
     exact (zB h).symm)
    clear hown hbx c0 c1 hsub hw1 hw2 hw3
    go_wp2_with (at_builtin;refine aH 26 Tryz.underlying26 rfl (.tmp 43) (.tmp 45) rfl w4.heap.size _ _ _ rfl hown5 rfl hzl hbs ?_)
    intro v' w6 hw6 hb6
    have hB6:=hb6 _ _ hB5 (zn _)
    rw[←HT.out] at hw6
    clear hown5 hb6 hB5
    go_wp2
    go_roundw
    case rel=>exact⟨i+1,by go_num,by omega,hw6,hB6⟩
    case measure=>(first | (simp[intOf];done) | (simp[intOf];omega))
  ·obtain rfl:i=n+1:=by omega
   have hw:=hown.isS
   rw[show L.take (n+1)=L from zA (by rw[HL.out.1];exact zn _)] at hw
   have HW:=zf hw
   clear hown hi hw
   go_wp2
   refine bodyPost_ret (v:=.tuple #[u7,.bool true]) (by simp[results,Tryz.results39,go_sem]) rfl ⟨_,rfl,HW.out,HM4.out.trans (hbr.mono HM4.out.size)⟩
end Go.Proofs.YtdlioncecgnloaaGreatDoor
