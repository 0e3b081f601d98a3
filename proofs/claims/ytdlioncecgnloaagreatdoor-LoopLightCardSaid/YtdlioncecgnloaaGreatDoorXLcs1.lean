/- Lemmas of this claim. -/
import Derived.Test.YtdlioncecgnloaaGreatDoorXPL3
import Derived.Test.YtdlioncecgnloaaGreatDoorXPS5
import Derived.Test.YtdlioncecgnloaaGreatDoorXPS12
import Derived.Test.YtdlioncecgnloaaGreatDoorXLB4
set_option linter.all false
set_option maxRecDepth 100000
set_option maxHeartbeats 8000000
namespace Go.Proofs.YtdlioncecgnloaaGreatDoor
open Go.RowKit Dg
theorem BL (s t r:ByteArray) (w:World) (h:aM (bE CQ.mul) s t=(r,0)) (hG:Gw w) :
  Calls Tryz.prog 19 #[.string s,.string t] w fun e w'=>e=.returned (.tuple #[.string r,.int .i64 0])∧Below w.heap.size w w':=by
 have:=sO s t w hG
 rw[h] at this
 exact this
theorem BC (s t r:ByteArray) (w:World) (h:aM (bE CQ.add) s t=(r,0)) (hG:Gw w) :
  Calls Tryz.prog 136 #[.string s,.string t] w fun e w'=>e=.returned (.tuple #[.string r,.int .i64 0])∧Below w.heap.size w w':=by
 have:=sN s t w hG
 rw[h] at this
 exact this
theorem oO {B:Nat}{w:World}{u:Value}{l m:List ByteArray} (h:zK B w u l m):∃ p1 c1 p2 c2,u=.agg #[.slice p1 l.length c1,.slice p2 m.length c2]∧IsS w (.slice p1 l.length c1) l∧IsS w (.slice p2 m.length c2) m:=by
 obtain⟨p1,c1,p2,c2,e,h1,h2,-,-⟩:=h.ex
 exact⟨p1,c1,p2,c2,e,h1,h2⟩
theorem BR (v v':Value) (a b a' b' L1 L2:List ByteArray) (er:Int) (w:World) (h:bo a b a' b'=((L1,L2),er)) (hF:IsF w v a b) (hF':IsF w v' a' b') (hG:Gx w) :
  Calls Tryz.prog 54 #[v,v'] w fun e w'=>∃ p1 c1 p2 c2,e=.returned (.tuple #[.agg #[.slice p1 L1.length c1,.slice p2 L2.length c2],.int .i64 er])∧IsS w' (.slice p1 L1.length c1) L1∧IsS w' (.slice p2 L2.length c2) L2∧Below w.heap.size w w':=by
 refine (uU v v' a b a' b' w hF hF' hG).mono ?_
 rintro e w' ⟨u,rfl,hu,hb⟩
 rw[h] at hu ⊢
 obtain⟨p1,c1,p2,c2,rfl,g1,g2⟩:=oO hu
 exact⟨p1,c1,p2,c2,rfl,g1,g2,hb⟩
theorem IsS.take {w:World}{p:Option Addr}{n c:Nat}{l:List ByteArray} (h:IsS w (.slice p n c) l) {m:Nat} (hm:m≤l.length):IsS w (.slice p m c) (l.take m):=by
 obtain⟨p',cap,e,h1,h2,h3⟩:=h
 obtain⟨rfl,-,rfl⟩:p=p'∧n=(l.map Value.string).length∧c=cap:=by simpa using e
 refine⟨p,c,by simp;omega,by simp at h1 ⊢;omega,h2,fun hl=>?_⟩
 obtain⟨b,o,e2,hlt,hc⟩:=h3 (by simp at hl ⊢;omega)
 exact⟨b,o,e2,hlt,fun i hi j u hu=>hc i (by simp at hi ⊢;omega) j u (by simpa[El] using hu)⟩
theorem fewN (v:Value) (x:List ByteArray) (w:World) (hx:IsS w v x) :
  Calls Tryz.prog 57 #[v] w fun e w'=>∃ u,e=.returned u∧IsS w' u (x.take 16)∧w'=w:=by
 obtain⟨p,c,rfl,hc,-⟩:=id hx.form
 obtain⟨m,hm⟩:∃ m:Nat,m=min 16 x.length:=⟨_,rfl⟩
 have hmin:min (16:Int) (x.length:Int)=(m:Int):=by omega
 have HT:=BZ (show IsS w (.slice p m c) (x.take 16) by
  have h:=hx.take (m:=m) (by omega)
  have e:x.take m=x.take 16:=by
   rw[hm]
   rcases Nat.le_total 16 x.length with h | h
   ·rw[CP h]
   ·rw[Nat.min_eq_right h,Cn (Cd _),Cn h]
  rw[e] at h
  exact h)
 have hmc:m≤c:=by omega
 have hml:m≤x.length:=by omega
 clear hx hm
 go_enter Tryz.func57,Tryz.ntmps57
 go_wp2
 go_ret
 exact⟨_,rfl,HT.out,rfl⟩
theorem vI (va vb:Value) (a b s:List ByteArray) (w:World) (ha:IsS w va a) (hb:IsS w vb b) (hl:b.length=a.length) (hsl:s.length=a.length) (hn:a.length<1000) (hs:∀ i,i<a.length→aM (bE CQ.add) (aq a i) (aq b i)=(aq s i,0)) (hG:Gx w) :
  Calls Tryz.prog 58 #[va,vb,.bool false] w fun e w'=>∃ u,e=.returned (.tuple #[u,.bool true])∧IsS w' u s∧Below w.heap.size w w':=by
 obtain⟨pa,ca,rfl,-⟩:=id ha.form
 obtain⟨pb,cb,rfl,-⟩:=id hb.form
 rw[hl] at hb ⊢
 obtain⟨n,hnn⟩:∃ n,n=a.length:=⟨_,rfl⟩
 rw[←hnn] at ha hb hl hsl hn hs ⊢
 have HNN:=BZ hnn
 have HA:=BZ ha
 have HB:=BZ hb
 have HG:=BZ hG
 have HS:=BZ hs
 have HL:=BZ (And.intro hl hsl)
 clear ha hb hG hs hl hsl hnn
 go_enter Tryz.func58,Tryz.ntmps58
 go_wp2
 go_loopw [8,9] (fun s8 s9 wr=>∃ i:Nat,s9=.int .i64 i∧i≤n∧aZ wr w.heap.size s8 (s.take i)∧Below w.heap.size w wr) (fun _ s9 _=>n-(intOf s9).toNat)
 case atStart=>exact⟨0,rfl,Cp _,aZ.nil _ _,Below.refl _ _⟩
 case round =>
  obtain⟨i,rfl,hin,hown,hbr⟩:=hrel
  by_cases hi:i<n
  ·obtain⟨ba,oa,rfl,hla,hca⟩:=(HA.out.below hbr).all (by rw[←HNN.out];omega)
   obtain⟨bb,ob,rfl,hlb,hcb⟩:=(HB.out.below hbr).all (by rw[HL.out.1];omega)
   have c0:=hca i (by rw[←HNN.out];exact hi)
   have c1:=hcb i (by rw[HL.out.1];exact hi)
   have HADD:=BZ (HS.out i hi)
   have HT:=BZ (show s.take (i+1)=s.take i++[aq s i] from by
    have h:i<s.length:=by rw[HL.out.2];exact hi
    rw[cO h |>.symm]
    exact (Cl h).symm)
   clear hca hcb
   go_upto_region 7 with fail
   have hd:Below wr.heap.size wr wr.drew:=(Below.refl _ _).drew
   refine ak (fun w'=>∃ x:aw wr.drew.heap.size wr.drew,w'=x.w) (fun j=>j == 8) (by kernel_rfl) (by kernel_rfl) ⟨⟨_,Below.refl _ _⟩,rfl⟩ ?_
   have c0:=aa hd hla c0
   have c1:=aa hd hlb c1
   have hla2:ba<wr.drew.heap.size:=hla
   have hlb2:bb<wr.drew.heap.size:=hlb
   have hbd:=hbr.trans (hd.mono hbr.size)
   have hownd:=hown.below hd
   clear hown hbr hd hla hlb
   generalize wr.drew=wd at *
   have d0:=fun x:aw wd.heap.size wd=>aa x.h hla2 c0
   have d1:=fun x:aw wd.heap.size wd=>aa x.h hlb2 c1
   clear c0 c1
   have HCALL:=BZ (BC (aq a i) (aq b i) (aq s i) wd HADD.out (HG.out.below hbd).g)
   refine af 8 0 _ _ _ (by kernel_rfl) ?_
   simp only[Cf,Ch,Ce,Ci]
   repeat (go_big_quiet_step (fail))
   refine wpQuiet_nil ?_
   refine ag rfl rfl (fun K hK=>?_)
   go_simp
   refine HCALL.out.mono ?_
   rintro e w5 ⟨rfl,hb5⟩
   have hB5:=hbd.trans (hb5.mono hbd.size)
   have hown5:=hownd.below hb5
   refine hK _ _ ⟨⟨_,hb5⟩,rfl⟩ ?_
   clear hK K HCALL
   try simp only[Act.put,Ca,B_,B9,B4,Cb,Cc]
   refine af 5 9 _ _ _ (by kernel_rfl) ?_
   simp only[Cf,Ch,Ce,Ci]
   repeat (go_big_quiet_step (fail))
   refine wpQuiet_nil ?_
   refine av ?_
   clear d0 d1 hb5 hownd hbd hla2 hlb2
   have hbs:=hB5.size
   have hzl:(s.take i).length<1000000000:=by simp;omega
   go_wp2_with (at_builtin;refine aO 26 Tryz.underlying26 rfl (.tmp 50) (.tmp 52) rfl w.heap.size _ _ _ rfl hown5 rfl hzl hbs ?_)
   intro v' w6 hw6 hb6
   have hB6:=hb6 _ _ hB5 (Cd _)
   rw[←HT.out] at hw6
   clear hown5 hb6 hB5
   go_wp2
   go_roundw
   case rel=>exact⟨i+1,by go_num,by omega,hw6,hB6⟩
   case measure=>(first | (simp[intOf];done) | (simp[intOf];omega))
  ·obtain rfl:i=n:=by omega
   have hw:=hown.isS
   rw[show s.take i=s from Cn (by rw[HL.out.2];exact Cd _)] at hw
   have HW:=BZ hw
   clear hown hi hw
   go_wp2
   refine bodyPost_ret (v:=.tuple #[u8,.bool true]) (by simp[results,Tryz.results58,go_sem]) rfl ⟨_,rfl,HW.out,hbr⟩
structure oz (w:World) (g:Nat) (p:Option Addr) (c:Nat) (q:Option Addr) (d:Nat) (la lb:List ByteArray):Prop where
 f0:w.cell? ⟨g,0,none⟩=some (.slice p la.length c)
 f1:w.cell? ⟨g,1,none⟩=some (.slice q lb.length d)
 l0:IsS w (.slice p la.length c) la
 l1:IsS w (.slice q lb.length d) lb
 lt:g<w.heap.size
theorem oz.below {w w':World}{g:Nat}{p:Option Addr}{c:Nat}{q:Option Addr}{d:Nat}{la lb:List ByteArray} (h:oz w g p c q d la lb) (hb:Below w.heap.size w w'):oz w' g p c q d la lb :=
 ⟨aa hb h.lt h.f0,aa hb h.lt h.f1,h.l0.below hb,h.l1.below hb,Cg h.lt hb.size⟩
theorem oz.F {w:World}{g:Nat}{p:Option Addr}{c:Nat}{q:Option Addr}{d:Nat}{la lb:List ByteArray} (h:oz w g p c q d la lb):IsF w (.agg #[.slice p la.length c,.slice q lb.length d]) la lb:=⟨⟨p,c,q,d,rfl,h.l0,h.l1⟩⟩
theorem Bc (v:Value) (a b L1 L2:List ByteArray) (er:Int) (w:World) (h:fQ a b=((L1,L2),er)) (hF:IsF w v a b) (hG:Gx w) :
  Calls Tryz.prog 49 #[v] w fun e w'=>∃ p1 c1 p2 c2,e=.returned (.tuple #[.agg #[.slice p1 L1.length c1,.slice p2 L2.length c2],.int .i64 er])∧IsS w' (.slice p1 L1.length c1) L1∧IsS w' (.slice p2 L2.length c2) L2∧Below w.heap.size w w':=by
 refine (AB v a b w hF hG).mono ?_
 rintro e w' ⟨u,rfl,hu,hb⟩
 rw[h] at hu ⊢
 obtain⟨p1,c1,p2,c2,rfl,g1,g2⟩:=oO hu
 exact⟨p1,c1,p2,c2,rfl,g1,g2,hb⟩
theorem xA (v:Value) (a b L1 L2:List ByteArray) (er:Int) (w:World) (h:du a b=((L1,L2),er)) (hF:IsF w v a b) (hG:Gx w) :
  Calls Tryz.prog 47 #[v] w fun e w'=>∃ p1 c1 p2 c2,e=.returned (.tuple #[.agg #[.slice p1 L1.length c1,.slice p2 L2.length c2],.int .i64 er])∧IsS w' (.slice p1 L1.length c1) L1∧IsS w' (.slice p2 L2.length c2) L2∧Below w.heap.size w w':=by
 refine (tD v a b w hF hG).mono ?_
 rintro e w' ⟨u,rfl,hu,hb⟩
 rw[h] at hu ⊢
 obtain⟨p1,c1,p2,c2,rfl,g1,g2⟩:=oO hu
 exact⟨p1,c1,p2,c2,rfl,g1,g2,hb⟩
theorem oV {l:List CQ}{i:Nat} (h:i<l.length):l.getD i ⟨0,0⟩=l[i]:=by
 rw[Cm,Co h];rfl
theorem tN {zs ws:List CQ} (hl:ws.length=zs.length) (hsz:SzL 2000 zs) (hsw:SzL 2000 ws):∀ i,i≤zs.length→SzV (1+i*8002) (ct (jp zs ws i))
 | 0,_=>⟨.zero (by decide),.zero (by decide)⟩
 | i+1,hi=>by
  have h1:=tN hl hsz hsw i (by omega)
  have h2:=(hsz _ (Cs (show i<zs.length by omega))).times (hsw _ (Cs (show i<ws.length by omega)))
  rw[bt] at h2
  have h3:=h1.plus h2
  rw[dr] at h3
  rw[jp,oV (by omega),oV (by omega)]
  exact h3.mono (by omega)
theorem dotN (va vb:Value) (zs ws:List CQ) (w:World) (ha:IsP w va zs) (hb:IsP w vb ws) (hl:ws.length=zs.length) (hsz:SzL 2000 zs) (hsw:SzL 2000 ws) (hlen:zs.length≤64) :
  Calls Tryz.prog 135 #[va,vb] w fun e w'=>∃ v',e=.returned v'∧IsV w' v' (ct (jp zs ws zs.length))∧Below w.heap.size w w':=by
 obtain⟨p,c,rfl,-⟩:=id ha.form
 obtain⟨p',c',rfl,-⟩:=id hb.form
 rw[hl] at hb ⊢
 go_enter Tryz.func135,Tryz.ntmps135
 go_upto_region 1 with fail
 have q3:=bI.new w (.bool false) (.slice none 0 0) (.slice none 0 0) (.bool false) (.slice none 0 0) (.slice none 0 0) (by intro z e;cases e) (by intro z e;cases e) (by intro z e;cases e) (by intro z e;cases e) (by intro z e;cases e) (by intro z e;cases e)
 have m3:=ae w (.cells #[.bool false,.slice none 0 0,.slice none 0 0,.bool false,.slice none 0 0,.slice none 0 0] 91)
 have z3:=size_alloc w (.cells #[.bool false,.slice none 0 0,.slice none 0 0,.bool false,.slice none 0 0,.slice none 0 0] 91)
 generalize w.alloc (.cells #[.bool false,.slice none 0 0,.slice none 0 0,.bool false,.slice none 0 0,.slice none 0 0] 91)=w3 at *
 have MD:=BZ m3
 have B3:=BZ q3
 have HP:=BZ (ha.below m3)
 have HP':=BZ (hb.below m3)
 have HLE:=BZ hl
 clear q3 m3 ha hb hl
 go_wp2_with fail
 refine (gW 0 w3 (by decide) (by decide)).mono ?_
 rintro e w4 ⟨v4,rfl,hv4,hb4⟩
 go_wp2_with fail
 refine (de _ _ _ hv4).mono ?_
 rintro e w5 ⟨v5,rfl,hv5,hb5⟩
 have hB5:=hb4.trans (hb5.mono hb4.size)
 have hv5:IsV w5 v5 (ct (CQ.real 0)):=by rw[←bX];exact hv5
 have hgB:w.heap.size+1≤w5.heap.size:=by have:=hB5.size;omega
 obtain⟨x1,x2,x3,y1,y2,y3,rfl,hx5,hy5⟩:=hv5
 obtain⟨xm,xp,xl,xc,xq,xk,xd,hxe⟩:=hx5.form
 obtain⟨ym,yp,yl,yc,yq,yk,yd,hye⟩:=hy5.form
 obtain⟨rfl,rfl,rfl⟩:=cU hxe
 obtain⟨rfl,rfl,rfl⟩:=cU hye
 go_upto_region 2 with fail
 have B8:=bI.new w5 (.bool xm) (.slice xp xl xc) (.slice xq xk xd) (.bool ym) (.slice yp yl yc) (.slice yq yk yd) (by intro z e;cases e) (by intro z e;cases e) (by intro z e;cases e) (by intro z e;cases e) (by intro z e;cases e) (by intro z e;cases e)
 have m5:=ae w5 (.cells #[.bool xm,.slice xp xl xc,.slice xq xk xd,.bool ym,.slice yp yl yc,.slice yq yk yd] 91)
 generalize w5.alloc (.cells #[.bool xm,.slice xp xl xc,.slice xq xk xd,.bool ym,.slice yp yl yc,.slice yq yk yd] 91)=wl at *
 generalize hg:w5.heap.size=gB at B8 hgB m5
 have hvl:IsV wl (.agg #[.bool xm,.slice xp xl xc,.slice xq xk xd,.bool ym,.slice yp yl yc,.slice yq yk yd]) (ct (CQ.real 0)):=⟨_,_,_,_,_,_,rfl,by rw[←hg] at m5;exact hx5.below m5,by rw[←hg] at m5;exact hy5.below m5⟩
 have hs3:w3.heap.size≤gB:=by rw[←hg];exact hB5.size
 have hBl:Below w3.heap.size w3 wl:=hB5.trans (m5.mono hs3)
 clear hx5 hy5 hb4 hb5 hg hB5
 have HB8:=BZ B8
 have HV8:=BZ hvl
 have HBl:=BZ hBl
 clear B8 hvl hBl m5
 go_wp2
 go_loopw [12] (fun s12 wr=>∃ (i:Nat) (xm:Bool) (xp:Option Addr) (xl xc:Nat) (xq:Option Addr) (xk xd:Nat) (ym:Bool) (yp:Option Addr) (yl yc:Nat) (yq:Option Addr) (yk yd:Nat),s12=.int .i64 i∧i≤zs.length∧bI wr gB (.bool xm) (.slice xp xl xc) (.slice xq xk xd) (.bool ym) (.slice yp yl yc) (.slice yq yk yd)∧IsV wr (.agg #[.bool xm,.slice xp xl xc,.slice xq xk xd,.bool ym,.slice yp yl yc,.slice yq yk yd]) (ct (jp zs ws i))∧Below gB wl wr) (fun s12 _=>zs.length-(intOf s12).toNat)
 case atStart=>exact⟨0,_,_,_,_,_,_,_,_,_,_,_,_,_,_,rfl,Cp _,HB8.out,HV8.out,Below.refl _ _⟩
 case round =>
  obtain⟨i,xm,xp,xl,xc,xq,xk,xd,ym,yp,yl,yc,yq,yk,yd,rfl,hi,hown,hv,hbr⟩:=hrel
  have HB3r:=BZ (HBl.out.trans (hbr.mono hs3))
  by_cases h0:i=zs.length
  ·subst h0
   obtain⟨hx,hy⟩:=hv.parts
   have B8:=B3.out.below HB3r.out
   have k0:=B8.cell 0;have k1:=B8.cell 1;have k2:=B8.cell 2;have k3:=B8.cell 3;have k4:=B8.cell 4;have k5:=B8.cell 5
   have f0:=B8.fr 0;have f1:=B8.fr 1;have f2:=B8.fr 2;have f3:=B8.fr 3;have f4:=B8.fr 4;have f5:=B8.fr 5
   have o0:=hown.cell 0;have o1:=hown.cell 1;have o2:=hown.cell 2;have o3:=hown.cell 3;have o4:=hown.cell 4;have o5:=hown.cell 5
   have P:=BZ (B8.putV hx hy)
   have M8:=BZ (P.out.2.2 _ _ (MD.out.trans (HB3r.out.mono MD.out.size)) (by omega))
   clear hx hy B8 hown hv HB8 HV8
   go_wp2_with fail
   have q0:=P.out.1.cell 0;have q1:=P.out.1.cell 1;have q2:=P.out.1.cell 2;have q3:=P.out.1.cell 3;have q4:=P.out.1.cell 4;have q5:=P.out.1.cell 5
   refine bodyPost_ret (v:=.agg #[.bool xm,.slice xp xl xc,.slice xq xk xd,.bool ym,.slice yp yl yc,.slice yq yk yd]) (by simp[results,Tryz.results135,go_sem,cZ] at q0 q1 q2 q3 q4 q5 ⊢;simp[results,Tryz.results135,go_sem,q0,q1,q2,q3,q4,q5]) rfl ⟨_,rfl,P.out.2.1,M8.out⟩
  ·have hk:i<zs.length:=by omega
   clear HB8 HV8
   obtain⟨Br,o,rfl,hlt,pm,pp,pl,pc,pq,pk,pd,rm,rp,rl,rc,rq,rk,rd,hkk,a0,a1,a2,a3,a4,a5⟩:=(HP.out.below HB3r.out).get hk
   have hzk:=hsz _ (Cs hk)
   have hwk:=hsw _ (Cs (show i<ws.length by rw[HLE.out];exact hk))
   have hsd:=tN HLE.out hsz hsw i hi
   have hst:jp zs ws (i+1)=(jp zs ws i).add (zs[i].mul (ws[i]'(by rw[HLE.out];exact hk))):=by rw[jp,oV hk,oV (by rw[HLE.out];exact hk)]
   obtain⟨Bs,o',rfl,hlt',pm',pp',pl',pc',pq',pk',pd',rm',rp',rl',rc',rq',rk',rd',hkk',g0,g1,g2,g3,g4,g5⟩:=(HP'.out.below HB3r.out).get (show i<ws.length by rw[HLE.out];exact hk)
   generalize zs[i]=zk at hkk hst hzk
   generalize ws[i]'(by rw[HLE.out];exact hk)=wk at hkk' hst hwk
   have F1:=BZ (hzk.fewV hwk (by omega))
   have hz1:=hzk.times hwk
   rw[bt] at hz1
   have F2:=BZ (And.intro (hsd.x.fewR hz1.x (by omega)) (hsd.y.fewR hz1.y (by omega)))
   have HST:=BZ hst
   have hgr:gB<wr.heap.size:=hown.lt
   clear hz1 hst hwk hzk hsd
   go_upto_region 5 with fail
   have q1:=bk.new wr (.bool pm) (.slice pp pl pc) (.slice pq pk pd) (.bool rm) (.slice rp rl rc) (.slice rq rk rd) 91
   have m1:=ae wr (.cells #[.bool pm,.slice pp pl pc,.slice pq pk pd,.bool rm,.slice rp rl rc,.slice rq rk rd] 91)
   have z1:=size_alloc wr (.cells #[.bool pm,.slice pp pl pc,.slice pq pk pd,.bool rm,.slice rp rl rc,.slice rq rk rd] 91)
   generalize wr.alloc (.cells #[.bool pm,.slice pp pl pc,.slice pq pk pd,.bool rm,.slice rp rl rc,.slice rq rk rd] 91)=wn at *
   have m4:Below wr.heap.size wr wn.drew:=m1.trans (((Below.refl _ _).drew).mono m1.size)
   have hSn:Below wn.heap.size wn wn.drew:=(Below.refl _ _).drew
   have hX1:wr.heap.size<wn.heap.size:=by omega
   refine wp_mono (aF (Q:=bL _) (fun wx:World=>Below wn.drew.heap.size wn.drew wx) (fun t=>t == 8) (by kernel_rfl) ?_) (fun _ _ _ h=>cG h)
   have e1:=fun (wy:World) (hy:Below wn.drew.heap.size wn.drew wy)=>(q1.below hSn).below hy
   have HQ:=BZ (hown.below m4)
   have HV:=BZ (hv.below m4)
   have HK:=BZ (hkk.v.below m4)
   have HK':=BZ (hkk'.v.below m4)
   have HBw:=BZ (hbr.trans (m4.mono (Ei hgr)))
   have HB3d:=BZ (HB3r.out.trans (m4.mono HB3r.out.size))
   have r0:=(m4.cell (p:=⟨Bs,o'+i*6,none⟩) hlt').trans g0
   have r1:=(m4.cell (p:=⟨Bs,o'+i*6+1,none⟩) hlt').trans g1
   have r2:=(m4.cell (p:=⟨Bs,o'+i*6+2,none⟩) hlt').trans g2
   have r3:=(m4.cell (p:=⟨Bs,o'+i*6+3,none⟩) hlt').trans g3
   have r4:=(m4.cell (p:=⟨Bs,o'+i*6+4,none⟩) hlt').trans g4
   have r5:=(m4.cell (p:=⟨Bs,o'+i*6+5,none⟩) hlt').trans g5
   have hltn:Bs<wn.drew.heap.size:=Cg hlt' m4.size
   have hgn:gB≤wn.drew.heap.size:=Cr (Ei hgr) m4.size
   clear hown hv hkk hkk' hbr a0 a1 a2 a3 a4 a5 g0 g1 g2 g3 g4 g5 m1 m4 z1 q1 HB3r HP HP' hlt hlt'
   generalize wn.drew=wd at *
   have hS:Below wd.heap.size wd wd:=Below.refl _ _
   refine aC (i:=0) (v:=?vv0) rfl (by kernel_rfl) (fun _ _ _ h=>h) rfl hS ?hy0 ?rest0
   case hy0 =>
    intro wy hy
    have Q:=HQ.out.below hy
    have o0:=Q.cell 0;have o1:=Q.cell 1;have o2:=Q.cell 2;have o3:=Q.cell 3;have o4:=Q.cell 4;have o5:=Q.cell 5
    clear hy Q
    go_simp
    try with_reducible rfl
   try simp only[Act.put,Ca,B_,B9,B4,Cb,Cc]
   refine aC (i:=1) (v:=?vv1) rfl (by kernel_rfl) (fun _ _ _ h=>h) rfl hS ?hy1 ?rest1
   case hy1 =>
    intro wy hy
    have Q:=e1 wy hy
    have o0:=Q.c0;have o1:=Q.c1;have o2:=Q.c2;have o3:=Q.c3;have o4:=Q.c4;have o5:=Q.c5
    clear hy Q
    go_simp
    try with_reducible rfl
   try simp only[Act.put,Ca,B_,B9,B4,Cb,Cc]
   refine ai (i:=2) (v:=?vv2) rfl (by kernel_rfl) (fun _ _ _ h=>h) rfl ?hy2 ?rest2
   case hy2=>(intro wy;go_simp;try with_reducible rfl)
   try simp only[Act.put,Ca,B_,B9,B4,Cb,Cc]
   refine ai (i:=3) (v:=?vv3) rfl (by kernel_rfl) (fun _ _ _ h=>h) rfl ?hy3 ?rest3
   case hy3=>(intro wy;go_simp;try with_reducible rfl)
   try simp only[Act.put,Ca,B_,B9,B4,Cb,Cc]
   refine ai (i:=4) (v:=?vv4) rfl (by kernel_rfl) (fun _ _ _ h=>h) rfl ?hy4 ?rest4
   case hy4=>(intro wy;go_simp;try with_reducible rfl)
   try simp only[Act.put,Ca,B_,B9,B4,Cb,Cc]
   refine aC (i:=5) (v:=?vv5) rfl (by kernel_rfl) (fun _ _ _ h=>h) rfl hS ?hy5 ?rest5
   case hy5 =>
    intro wy hy
    have o0:=(hy.cell (p:=⟨Bs,o'+i*6,none⟩) hltn).trans r0
    have o1:=(hy.cell (p:=⟨Bs,o'+i*6+1,none⟩) hltn).trans r1
    have o2:=(hy.cell (p:=⟨Bs,o'+i*6+2,none⟩) hltn).trans r2
    have o3:=(hy.cell (p:=⟨Bs,o'+i*6+3,none⟩) hltn).trans r3
    have o4:=(hy.cell (p:=⟨Bs,o'+i*6+4,none⟩) hltn).trans r4
    have o5:=(hy.cell (p:=⟨Bs,o'+i*6+5,none⟩) hltn).trans r5
    clear hy
    go_simp
    try with_reducible rfl
   try simp only[Act.put,Ca,B_,B9,B4,Cb,Cc]
   refine ax (i:=6) rfl (by kernel_rfl) rfl (fun K hK=>?_)
   go_simp
   refine (fJ _ _ _ _ _ HK.out HK'.out F1.out).mono ?_
   rintro e w6 ⟨v6,rfl,hv6,hb6⟩
   rw[bt] at hv6
   refine hK _ _ (fun _ _=>hb6) ?_
   clear hK K
   try simp only[Act.put,Ca,B_,B9,B4,Cb,Cc]
   refine ax (i:=7) rfl (by kernel_rfl) rfl (fun K hK=>?_)
   go_simp
   refine (pC _ _ _ _ _ (HV.out.below hb6) hv6 F2.out.1 F2.out.2).mono ?_
   rintro e w7 ⟨v7,rfl,hv7,hb7⟩
   have hB7:=hb6.trans (hb7.mono hb6.size)
   rw[dr,←HST.out] at hv7
   refine hK _ _ (fun _ _=>hB7) ?_
   clear hK K
   try simp only[Act.put,Ca,B_,B9,B4,Cb,Cc]
   obtain⟨x1,x2,x3,y1,y2,y3,rfl,hx,hy⟩:=hv7
   obtain⟨sm,sp,sl,sc,sq,sk,sd,hxe⟩:=hx.form
   obtain⟨tm,tp,tl,tc,tq,tk,td,hye⟩:=hy.form
   obtain⟨rfl,rfl,rfl⟩:=cU hxe
   obtain⟨rfl,rfl,rfl⟩:=cU hye
   have B8:=HQ.out.below hB7
   have k0:=B8.cell 0;have k1:=B8.cell 1;have k2:=B8.cell 2;have k3:=B8.cell 3;have k4:=B8.cell 4;have k5:=B8.cell 5
   have f0:=B8.fr 0;have f1:=B8.fr 1;have f2:=B8.fr 2;have f3:=B8.fr 3;have f4:=B8.fr 4;have f5:=B8.fr 5
   have P:=BZ (B8.putV hx hy)
   have M8:=BZ (P.out.2.2 gB wl (HBw.out.trans (hB7.mono hgn)) (Cd _))
   clear hx hy hxe hye B8 hv6 hb6 hb7 hS e1 r0 r1 r2 r3 r4 r5
   refine ax (i:=8) rfl (by kernel_rfl) rfl (fun K hK=>?_)
   go_simp
   refine hK _ _ (fun h=>by cases h) ?_
   clear hK K k0 k1 k2 k3 k4 k5 f0 f1 f2 f3 f4 f5
   try simp only[Act.put,Ca,B_,B9,B4,Cb,Cc]
   refine aS (by kernel_rfl) ?_ _
   simp only[bL]
   go_wp2
   go_roundw
   case rel=>exact⟨i+1,_,_,_,_,_,_,_,_,_,_,_,_,_,_,by go_num,by omega,P.out.1,P.out.2.1,M8.out⟩
   case measure=>(first | (simp[intOf];done) | (simp[intOf];omega))
theorem yx (va vb:Value) (a b:List ByteArray) (w:World) (ha:IsS w va a) (hb:IsS w vb b) (hl:b.length=a.length) (hlen:a.length≤64) (hG:Gw w) :
  Calls Tryz.prog 56 #[va,vb] w fun e w'=>e=.returned (.tuple #[.string (jP a b).1,.int .i64 (jP a b).2])∧Below w.heap.size w w':=by
 obtain⟨pa,ca,rfl,-⟩:=id ha.form
 obtain⟨pb,cb,rfl,-⟩:=id hb.form
 have HA:=BZ (oH _ a w ha (by omega) hG)
 rw[hl] at hb ⊢
 have HB:=BZ (fun (w1:World) (h:Below w.heap.size w w1)=>oH _ b w1 (hb.below h) (by omega) (hG.below h))
 have HG:=BZ hG
 obtain⟨n,hn⟩:∃ n,n=a.length:=⟨_,rfl⟩
 rw[←hn] at hlen ⊢
 have HLA:=BZ (And.intro hn.symm hl)
 rw[←hn] at HA HB
 clear ha hb hG hl hn
 go_enter Tryz.func56,Tryz.ntmps56
 go_wp2_with fail
 refine HA.out.mono ?_
 rintro e w1 ⟨v1,ok,rfl,hcase,hb1⟩
 have HCA:=BZ hcase
 clear hcase HA
 obtain⟨q1,n1,c1,rfl⟩:∃ q1 n1 c1,v1=.slice q1 n1 c1:=by
  rcases HCA.out with ⟨zs,-,-,h⟩ | ⟨-,-,h⟩
  ·obtain⟨p,c,e,-⟩:=h.form;exact⟨_,_,_,e⟩
  ·exact⟨_,_,_,h⟩
 have HG1:=BZ (HG.out.below hb1)
 go_wp2_with fail
 refine (HB.out w1 hb1).mono ?_
 rintro e w2 ⟨v2,ok2,rfl,hcase,hb2⟩
 have HCB:=BZ hcase
 clear hcase HB
 obtain⟨q2,n2,c2,rfl⟩:∃ q2 n2 c2,v2=.slice q2 n2 c2:=by
  rcases HCB.out with ⟨zs,-,-,h⟩ | ⟨-,-,h⟩
  ·obtain⟨p,c,e,-⟩:=h.form;exact⟨_,_,_,e⟩
  ·exact⟨_,_,_,h⟩
 have HB2:=BZ (hb1.trans (hb2.mono hb1.size))
 rcases HCA.out with ⟨zs,hz,rfl,hp⟩ | ⟨hz,rfl,-⟩
 ·rcases HCB.out with ⟨ws,hw,rfl,hq⟩ | ⟨hw,rfl,-⟩
  ·have HD:=BZ (show jP a b=cA (jp zs ws zs.length) by unfold jP;rw[hz,hw])
   have hzl:zs.length=n:=by rw[dp hz,HLA.out.1]
   have hwl:ws.length=zs.length:=by rw[dp hw,HLA.out.2,←dp hz]
   have HDO:=BZ (dotN _ _ zs ws w2 (hp.below hb2) hq hwl (lx hz) (lx hw) (by omega))
   have HG2:=BZ (HG1.out.below hb2)
   clear HCA HCB hz hw hp hq hb1 hb2 hzl hwl
   go_wp2_with fail
   refine HDO.out.mono ?_
   rintro e w3 ⟨v3,rfl,hv3,hb3⟩
   have HB3:=BZ (HB2.out.trans (hb3.mono HB2.out.size))
   have HP:=BZ (wm _ _ _ hv3 (HG2.out.below hb3))
   clear hb3 hv3 HDO
   go_wp2_with fail
   refine HP.out.mono ?_
   rintro e w4 ⟨rfl,hb4⟩
   go_wp2
   refine bodyPost_ret (v:=.tuple #[.string (cA (jp zs ws zs.length)).1,.int .i64 (cA (jp zs ws zs.length)).2]) (by simp[results,Tryz.results56,go_sem]) rfl ⟨by rw[HD.out],HB3.out.trans (hb4.mono HB3.out.size)⟩
  ·have HD:=BZ (show jP a b=(⟨#[]⟩,10) by unfold jP;rw[hz,hw])
   clear HCA HCB hz hw hp hb1 hb2
   go_wp2
   refine bodyPost_ret (v:=.tuple #[.string ⟨#[]⟩,.int .i64 10]) (by simp[results,Tryz.results56,go_sem]) rfl ⟨by rw[HD.out],HB2.out⟩
 ·have HD:=BZ (show jP a b=(⟨#[]⟩,10) by unfold jP;rw[hz])
  clear HCA HCB hz hb1 hb2
  go_wp2
  refine bodyPost_ret (v:=.tuple #[.string ⟨#[]⟩,.int .i64 10]) (by simp[results,Tryz.results56,go_sem]) rfl ⟨by rw[HD.out],HB2.out⟩
theorem Ab (va vb:Value) (a b s:List ByteArray) (w:World) (ha:IsS w va a) (hb:IsS w vb b) (hl:b.length=a.length) (hsl:s.length=a.length) (hn:a.length<1000) (hs:∀ i,i<a.length→aM (bE CQ.sub) (aq a i) (aq b i)=(aq s i,0)) (hG:Gx w) :
  Calls Tryz.prog 58 #[va,vb,.bool true] w fun e w'=>∃ u,e=.returned (.tuple #[u,.bool true])∧IsS w' u s∧Below w.heap.size w w':=by
 obtain⟨pa,ca,rfl,-⟩:=id ha.form
 obtain⟨pb,cb,rfl,-⟩:=id hb.form
 rw[hl] at hb ⊢
 obtain⟨n,hnn⟩:∃ n,n=a.length:=⟨_,rfl⟩
 rw[←hnn] at ha hb hl hsl hn hs ⊢
 have HNN:=BZ hnn
 have HA:=BZ ha
 have HB:=BZ hb
 have HG:=BZ hG
 have HS:=BZ hs
 have HL:=BZ (And.intro hl hsl)
 clear ha hb hG hs hl hsl hnn
 go_enter Tryz.func58,Tryz.ntmps58
 go_wp2
 go_loopw [8,9] (fun s8 s9 wr=>∃ i:Nat,s9=.int .i64 i∧i≤n∧aZ wr w.heap.size s8 (s.take i)∧Below w.heap.size w wr) (fun _ s9 _=>n-(intOf s9).toNat)
 case atStart=>exact⟨0,rfl,Cp _,aZ.nil _ _,Below.refl _ _⟩
 case round =>
  obtain⟨i,rfl,hin,hown,hbr⟩:=hrel
  by_cases hi:i<n
  ·obtain⟨ba,oa,rfl,hla,hca⟩:=(HA.out.below hbr).all (by rw[←HNN.out];omega)
   obtain⟨bb,ob,rfl,hlb,hcb⟩:=(HB.out.below hbr).all (by rw[HL.out.1];omega)
   have c0:=hca i (by rw[←HNN.out];exact hi)
   have c1:=hcb i (by rw[HL.out.1];exact hi)
   have HSUB:=BZ (HS.out i hi)
   have HT:=BZ (show s.take (i+1)=s.take i++[aq s i] from by
    have h:i<s.length:=by rw[HL.out.2];exact hi
    rw[cO h |>.symm]
    exact (Cl h).symm)
   clear hca hcb
   obtain⟨x,hx⟩:∃ x,x=aq a i:=⟨_,rfl⟩
   obtain⟨y,hy⟩:∃ y,y=aq b i:=⟨_,rfl⟩
   rw[←hx,←hy] at HSUB
   rw[←hx] at c0
   rw[←hy] at c1
   clear hx hy
   go_upto_region 7 with fail
   have hd:Below wr.heap.size wr wr.drew:=(Below.refl _ _).drew
   refine ak (fun w'=>∃ x:aw wr.drew.heap.size wr.drew,w'=x.w) (fun j=>j == 8) (by kernel_rfl) (by kernel_rfl) ⟨⟨_,Below.refl _ _⟩,rfl⟩ ?_
   have c0:=aa hd hla c0
   have c1:=aa hd hlb c1
   have hla2:ba<wr.drew.heap.size:=hla
   have hlb2:bb<wr.drew.heap.size:=hlb
   have hbd:=hbr.trans (hd.mono hbr.size)
   have hownd:=hown.below hd
   clear hown hbr hd hla hlb
   generalize wr.drew=wd at *
   have d0:=fun x:aw wd.heap.size wd=>aa x.h hla2 c0
   have d1:=fun x:aw wd.heap.size wd=>aa x.h hlb2 c1
   have HCALL:=BZ (sN x y wd (HG.out.below hbd).g)
   refine af 8 0 _ _ _ (by kernel_rfl) ?_
   simp only[Cf,Ch,Ce,Ci]
   repeat (go_big_quiet_step (fail))
   refine wpQuiet_nil ?_
   refine ag rfl rfl (fun K hK=>?_)
   go_simp
   refine HCALL.out.mono ?_
   rintro e w5 ⟨rfl,hb5⟩
   have hB5:=hbd.trans (hb5.mono hbd.size)
   have hown5:=hownd.below hb5
   refine hK _ _ ⟨⟨_,hb5⟩,rfl⟩ ?_
   clear hK K HCALL
   try simp only[Act.put,Ca,B_,B9,B4,Cb,Cc]
   refine af 5 9 _ _ _ (by kernel_rfl) ?_
   simp only[Cf,Ch,Ce,Ci]
   repeat (go_big_quiet_step (fail))
   refine wpQuiet_nil ?_
   refine av ?_
   clear d0 d1
   have c0:=aa hb5 hla2 c0
   have c1:=aa hb5 hlb2 c1
   have hla5:ba<w5.heap.size:=Cg hla2 hb5.size
   have hlb5:bb<w5.heap.size:=Cg hlb2 hb5.size
   clear hb5 hownd hbd hla2 hlb2
   generalize (aM (bE CQ.add) x y).1=r1
   generalize (aM (bE CQ.add) x y).2=r2
   go_upto_region 9 with fail
   have hd:Below w5.heap.size w5 w5.drew:=(Below.refl _ _).drew
   refine ak (fun w'=>∃ x:aw w5.drew.heap.size w5.drew,w'=x.w) (fun j=>j == 8) (by kernel_rfl) (by kernel_rfl) ⟨⟨_,Below.refl _ _⟩,rfl⟩ ?_
   have c0:=aa hd hla5 c0
   have c1:=aa hd hlb5 c1
   have hla2:ba<w5.drew.heap.size:=hla5
   have hlb2:bb<w5.drew.heap.size:=hlb5
   have hbd:=hB5.trans (hd.mono hB5.size)
   have hownd:=hown5.below hd
   clear hown5 hB5 hd hla5 hlb5
   generalize w5.drew=we at *
   have d0:=fun x:aw we.heap.size we=>aa x.h hla2 c0
   have d1:=fun x:aw we.heap.size we=>aa x.h hlb2 c1
   have hsb:=sP x y we (HG.out.below hbd).g
   rw[HSUB.out] at hsb
   have HCALL:=BZ hsb
   clear hsb c0 c1
   refine af 8 0 _ _ _ (by kernel_rfl) ?_
   simp only[Cf,Ch,Ce,Ci]
   repeat (go_big_quiet_step (fail))
   refine wpQuiet_nil ?_
   refine ag rfl rfl (fun K hK=>?_)
   go_simp
   refine HCALL.out.mono ?_
   rintro e w5 ⟨rfl,hb5⟩
   have hB5:=hbd.trans (hb5.mono hbd.size)
   have hown5:=hownd.below hb5
   refine hK _ _ ⟨⟨_,hb5⟩,rfl⟩ ?_
   clear hK K HCALL
   try simp only[Act.put,Ca,B_,B9,B4,Cb,Cc]
   refine af 5 9 _ _ _ (by kernel_rfl) ?_
   simp only[Cf,Ch,Ce,Ci]
   repeat (go_big_quiet_step (fail))
   refine wpQuiet_nil ?_
   refine av ?_
   clear d0 d1 hb5 hownd hbd hla2 hlb2
   have hbs:=hB5.size
   have hzl:(s.take i).length<1000000000:=by simp;omega
   go_wp2_with (at_builtin;refine aO 26 Tryz.underlying26 rfl (.tmp 50) (.tmp 52) rfl w.heap.size _ _ _ rfl hown5 rfl hzl hbs ?_)
   intro v' w6 hw6 hb6
   have hB6:=hb6 _ _ hB5 (Cd _)
   rw[←HT.out] at hw6
   clear hown5 hb6 hB5
   go_wp2
   go_roundw
   case rel=>exact⟨i+1,by go_num,by omega,hw6,hB6⟩
   case measure=>(first | (simp[intOf];done) | (simp[intOf];omega))
  ·obtain rfl:i=n:=by omega
   have hw:=hown.isS
   rw[show s.take i=s from Cn (by rw[HL.out.2];exact Cd _)] at hw
   have HW:=BZ hw
   clear hown hi hw
   go_wp2
   refine bodyPost_ret (v:=.tuple #[u8,.bool true]) (by simp[results,Tryz.results58,go_sem]) rfl ⟨_,rfl,HW.out,hbr⟩
end Go.Proofs.YtdlioncecgnloaaGreatDoor
