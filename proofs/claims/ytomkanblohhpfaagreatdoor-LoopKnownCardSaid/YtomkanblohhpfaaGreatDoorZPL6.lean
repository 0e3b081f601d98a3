/- Lemmas of this claim. -/
import Derived.Test.YtomkanblohhpfaaGreatDoorZPL1
set_option linter.all false
set_option maxRecDepth 100000
set_option maxHeartbeats 8000000
namespace Go.Proofs.YtomkanblohhpfaaGreatDoor
open Go.RowKit Dg
def SzL (k:Nat) (zs:List CQ):Prop:=∀ z∈zs,SzV k (ct z)
theorem qM {zs:List CQ}:∀ z∈bE zs,z∈zs:=by
 intro z hz
 unfold bE at hz
 rw[List.mem_reverse] at hz
 exact List.mem_reverse.1 ((List.dropWhile_sublist _).mem hz)
theorem SzL.lean {k:Nat}{zs:List CQ} (h:SzL k zs):SzL k (bE zs):=fun z hz=>h z (qM z hz)
theorem oY:∀ {l:List ByteArray}{zs:List CQ},dw l=some zs→SzL 2000 zs
 | [],zs,h=>by cases h;intro z hz;simp at hz
 | a :: l,zs,h=>by
  simp only[dw] at h
  cases ha:el a with
  | none=>rw[ha] at h;cases h
  | some z =>
   cases hl:dw l with
   | none=>rw[ha,hl] at h;cases h
   | some ys =>
    rw[ha,hl] at h
    cases h
    intro y hy
    rcases yB.1 hy with rfl | hy
    ·exact (mG ha).2.2
    ·exact oY hl y hy
theorem fR {l:List ByteArray}{zs:List CQ} (h:b9 l=.ok zs):SzL 2000 zs:=by
 unfold b9 at h
 split at h
 ·cases h
 ·split at h
  ·rename_i ys hy
   cases h
   exact (oY hy).lean
  ·cases h
theorem ld {a b:List ByteArray}{z:List CQ×List CQ} (h:dE a b=.ok z):b9 a=.ok z.1∧b9 b=.ok z.2:=by
 unfold dE at h
 split at h
 ·cases h
 ·rename_i x hx
  split at h
  ·cases h
  ·rename_i y hy
   cases h
   exact⟨hx,hy⟩
theorem SzL.item {k:Nat}{zs:List CQ} (h:SzL k zs) (hk:1≤k) (i:Nat):SzV k (ct (ec zs i)):=by
 unfold ec
 split
 ·exact h _ (xK _)
 ·exact⟨.zero hk,.zero hk⟩
structure rL (f:CQ→CQ→CQ):Prop where
 on:∀ a b,SzV 2000 (ct a)→SzV 2000 (ct b)→SzV 10000 (ct (f a b))
theorem sB:rL CQ.add:=⟨fun a b ha hb=>by rw[←dy];exact (ha.plus hb).mono (by decide)⟩
theorem sC:rL CQ.sub:=⟨fun a b ha hb=>by rw[←j0];exact (ha.plus hb.neg).mono (by decide)⟩
def bB (f:CQ→CQ→CQ) (p q:List CQ):List CQ:=(List.range (max p.length q.length)).map fun i=>f (ec p i) (ec q i)
theorem lK (f:CQ→CQ→CQ) (p q:List CQ) {i:Nat} (h:i<max p.length q.length):(bB f p q).take (i+1)=(bB f p q).take i++[f (ec p i) (ec q i)]:=by
 have hl:i<(bB f p q).length:=by simp[bB];omega
 rw[show (bB f p q).take (i+1)=(bB f p q).take i++[(bB f p q)[i]] from (xG hl).symm]
 simp[bB]
def cr (f:CQ→CQ→CQ) (p q:List CQ):List CQ:=bE (bB f p q)
theorem fM (f:CQ→CQ→CQ) (p q:List CQ):(bB f p q).length=max p.length q.length:=by simp[bB]
theorem pI {G:FuncId}{f:CQ→CQ→CQ} (hG:GAt G f) (hF:rL f) (va vb:Value) (p q:List CQ) (w:World) (ha:IsP w va p) (hb:IsP w vb q) (hsp:SzL 2000 p) (hsq:SzL 2000 q) (hlp:p.length<1000000) (hlq:q.length<1000000) :
  Calls Tryz.prog 194 #[va,vb,.func (.func G) #[] #[]] w fun e w'=>∃ v',e=.returned v'∧IsP w' v' (cr f p q)∧Below w.heap.size w w':=by
 obtain⟨pa,ca,rfl,-⟩:=id ha.form
 obtain⟨pb,cb,rfl,-⟩:=id hb.form
 have EN:=hG.en
 have HA:=xo ha
 have HB:=xo hb
 clear ha hb
 have HML:=fM f p q
 have HMT:=fun i h=>lK f p q (i:=i) h
 obtain⟨n,hn⟩:∃ n,n=max p.length q.length:=⟨_,rfl⟩
 have hn6:n<1000000:=by omega
 have hmax:max (p.length:Int) (q.length:Int)=(n:Int):=by rw[hn];omega
 rw[←hn] at HML HMT
 have HML:=xo HML
 have HMT:=xo HMT
 clear hn
 go_enter Tryz.func194,Tryz.ntmps194
 go_wp2
 clear hmax
 go_loopw [7,14] (fun s7 s14 wr=>∃ i:Nat,s14=.int .i64 i∧i≤n∧bZ wr w.heap.size s7 ((bB f p q).take i)∧Below w.heap.size w wr) (fun _ s14 _=>n-(intOf s14).toNat)
 case atStart=>exact⟨0,rfl,xJ _,bZ.nil _ _,Below.refl _ _⟩
 case round =>
  obtain⟨i,rfl,hin,hown,hbr⟩:=hrel
  by_cases hi:i<n
  ·have HT:=xo (HMT.out i hi)
   have hi6:i<1000000:=by omega
   have HV:=xo hown
   clear hown
   go_wp2_with fail
   refine (vo _ p i wr (HA.out.below hbr) hi6 hlp).mono ?_
   rintro e w1 ⟨v1,rfl,hk1,hb1⟩
   have hB1:=hbr.trans (hb1.mono hbr.size)
   go_wp2_with fail
   refine (vo _ q i w1 (HB.out.below hB1) hi6 hlq).mono ?_
   rintro e w2 ⟨v2,rfl,hk2,hb2⟩
   have hB2:=hB1.trans (hb2.mono hB1.size)
   go_wp2_with fail
   refine (hG.on _ _ _ _ w2 (hk1.below hb2) hk2).mono ?_
   rintro e w3 ⟨v3,rfl,hv3,hb3⟩
   have hB3:=hB2.trans (hb3.mono hB2.size)
   have hk3:IsK w3 v3 (f (ec p i) (ec q i)):=⟨hv3,hF.on _ _ (hsp.item (by decide) i) (hsq.item (by decide) i)⟩
   have hw3:=((HV.out.below hb1).below hb2).below hb3
   obtain⟨xm,xp,xl,xc,xq,xk,xd,ym,yp,yl,yc,yq,yk,yd,rfl⟩:=hk3.forms
   have hbs:=hB3.size
   have hzl:((bB f p q).take i).length<1000000000:=by rw[x6,HML.out];omega
   clear hb1 hb2 hb3 hB1 hB2 hbr hv3 hk1 hk2 HV
   go_wp2_with (at_builtin;refine cH 126 Tryz.underlying126 rfl (.tmp 17) (.tmp 26) rfl w.heap.size _ _ _ _ _ _ _ _ _ rfl hw3 hk3 rfl hzl hbs ?_)
   intro v' w4 hw4 hb4 _
   have hB4:=hb4 _ _ hB3 (xy _)
   rw[←HT.out] at hw4
   clear hw3 hb4 hB3
   go_wp2
   go_roundw
   case rel=>exact⟨i+1,by go_num,by omega,hw4,hB4⟩
   case measure=>(first | (simp[intOf];done) | (simp[intOf];omega))
  ·have hin':i=n:=by omega
   subst hin'
   have hw:=hown
   rw[show (bB f p q).take i=bB f p q from xF (by rw[HML.out];exact xy _)] at hw
   have hml:(bB f p q).length<1000000:=by rw[HML.out];exact hn6
   have HW:=xo hw.isP
   clear hown hi hw
   go_wp2_with fail
   refine (kR _ _ wr HW.out hml).mono ?_
   rintro e w1 ⟨v1,rfl,hv1,hb1⟩
   go_wp2
   go_ret
   exact⟨_,rfl,hv1,hbr.trans (hb1.mono hbr.size)⟩
def aT (f:CQ→CQ→CQ) (a b:List ByteArray):List ByteArray×Int:=match dE a b with
 | .error e=>([],e)
 | .ok z=>if eS (cr f z.1 z.2)=true then (dK (cr f z.1 z.2),0) else ([],11)
theorem ta (va vb:Value) (a b:List ByteArray) (w:World) (ha:IsS w va a) (hb:IsS w vb b) (hG:Gw w) :
  Calls Tryz.prog 168 #[va,vb] w fun e w'=>∃ v',e=.returned (.tuple #[v',.int .i64 (aT CQ.add a b).2])∧IsS w' v' (aT CQ.add a b).1∧Below w.heap.size w w':=by
 have HP:=xo (tf va vb a b w ha hb hG)
 have HG:=xo hG
 clear ha hb hG
 go_enter Tryz.func168,Tryz.ntmps168
 go_wp2_with fail
 refine HP.out.mono ?_
 rintro e w1 ⟨u,v,x,rfl,hr,hb1⟩
 cases hpc:dE a b with
 | error ea =>
  rw[hpc] at hr
  obtain⟨rfl,hx,rfl,rfl⟩:=hr
  have HE:=xo (show aT CQ.add a b=([],x) by unfold aT;rw[hpc])
  have hd:decide (x=0)=false:=decide_eq_false hx
  clear hpc HP
  go_wp2
  refine bodyPost_ret (v:=.tuple #[.slice none 0 0,.int .i64 x]) (by simp[results,Tryz.results168,go_sem]) rfl ⟨_,by rw[HE.out],by rw[HE.out];exact (bj.nil w1 0).isS,hb1⟩
 | ok z =>
  rw[hpc] at hr
  obtain⟨p,q⟩:=z
  obtain⟨rfl,hu,hv⟩:=hr
  obtain⟨hp1,hp2⟩:=ld hpc
  have s1:=fR hp1;have s2:=fR hp2
  have l1:=gC hp1;have l2:=gC hp2
  simp only at hu hv s1 s2 l1 l2
  have hml:(cr CQ.add p q).length<1000000:=by
   have h1:=gq (bB CQ.add p q)
   rw[fM] at h1
   unfold cr
   omega
  have HE:=xo (show aT CQ.add a b=if eS (cr CQ.add p q)=true then (dK (cr CQ.add p q),0) else ([],11) by unfold aT;rw[hpc])
  have HM:=xo (pI vA sB u v p q w1 hu hv s1 s2 (by omega) (by omega))
  clear hpc HP hp1 hp2 s1 s2 l1 l2 hu hv
  go_wp2_with fail
  refine HM.out.mono ?_
  rintro e w2 ⟨v2,rfl,hv2,hb2⟩
  have hB2:=hb1.trans (hb2.mono hb1.size)
  clear HM
  go_wp2_with fail
  refine (vB v2 _ w2 hv2 hml (HG.out.below hB2)).mono ?_
  rintro e w3 ⟨v3,x,rfl,hc,hb3⟩
  have hB3:=hB2.trans (hb3.mono hB2.size)
  rcases hc with ⟨h1,rfl,h3⟩ | ⟨h1,rfl,rfl⟩
  ·have HE:=xo (show aT CQ.add a b=(dK (cr CQ.add p q),0) by rw[HE.out,if_pos h1])
   clear h1 hml
   go_wp2
   refine bodyPost_ret (v:=.tuple #[v3,.int .i64 0]) (by simp[results,Tryz.results168,go_sem]) rfl ⟨_,by rw[HE.out],by rw[HE.out];exact h3.isS,hB3⟩
  ·have HE:=xo (show aT CQ.add a b=([],11) by rw[HE.out,if_neg (by rw[h1];decide)])
   clear h1 hml
   go_wp2
   refine bodyPost_ret (v:=.tuple #[.slice none 0 0,.int .i64 11]) (by simp[results,Tryz.results168,go_sem]) rfl ⟨_,by rw[HE.out],by rw[HE.out];exact (bj.nil w3 0).isS,hB3⟩
theorem tb (va vb:Value) (a b:List ByteArray) (w:World) (ha:IsS w va a) (hb:IsS w vb b) (hG:Gw w) :
  Calls Tryz.prog 169 #[va,vb] w fun e w'=>∃ v',e=.returned (.tuple #[v',.int .i64 (aT CQ.sub a b).2])∧IsS w' v' (aT CQ.sub a b).1∧Below w.heap.size w w':=by
 have HP:=xo (tf va vb a b w ha hb hG)
 have HG:=xo hG
 clear ha hb hG
 go_enter Tryz.func169,Tryz.ntmps169
 go_wp2_with fail
 refine HP.out.mono ?_
 rintro e w1 ⟨u,v,x,rfl,hr,hb1⟩
 cases hpc:dE a b with
 | error ea =>
  rw[hpc] at hr
  obtain⟨rfl,hx,rfl,rfl⟩:=hr
  have HE:=xo (show aT CQ.sub a b=([],x) by unfold aT;rw[hpc])
  have hd:decide (x=0)=false:=decide_eq_false hx
  clear hpc HP
  go_wp2
  refine bodyPost_ret (v:=.tuple #[.slice none 0 0,.int .i64 x]) (by simp[results,Tryz.results169,go_sem]) rfl ⟨_,by rw[HE.out],by rw[HE.out];exact (bj.nil w1 0).isS,hb1⟩
 | ok z =>
  rw[hpc] at hr
  obtain⟨p,q⟩:=z
  obtain⟨rfl,hu,hv⟩:=hr
  obtain⟨hp1,hp2⟩:=ld hpc
  have s1:=fR hp1;have s2:=fR hp2
  have l1:=gC hp1;have l2:=gC hp2
  simp only at hu hv s1 s2 l1 l2
  have hml:(cr CQ.sub p q).length<1000000:=by
   have h1:=gq (bB CQ.sub p q)
   rw[fM] at h1
   unfold cr
   omega
  have HE:=xo (show aT CQ.sub a b=if eS (cr CQ.sub p q)=true then (dK (cr CQ.sub p q),0) else ([],11) by unfold aT;rw[hpc])
  have HM:=xo (pI vw sC u v p q w1 hu hv s1 s2 (by omega) (by omega))
  clear hpc HP hp1 hp2 s1 s2 l1 l2 hu hv
  go_wp2_with fail
  refine HM.out.mono ?_
  rintro e w2 ⟨v2,rfl,hv2,hb2⟩
  have hB2:=hb1.trans (hb2.mono hb1.size)
  clear HM
  go_wp2_with fail
  refine (vB v2 _ w2 hv2 hml (HG.out.below hB2)).mono ?_
  rintro e w3 ⟨v3,x,rfl,hc,hb3⟩
  have hB3:=hB2.trans (hb3.mono hB2.size)
  rcases hc with ⟨h1,rfl,h3⟩ | ⟨h1,rfl,rfl⟩
  ·have HE:=xo (show aT CQ.sub a b=(dK (cr CQ.sub p q),0) by rw[HE.out,if_pos h1])
   clear h1 hml
   go_wp2
   refine bodyPost_ret (v:=.tuple #[v3,.int .i64 0]) (by simp[results,Tryz.results169,go_sem]) rfl ⟨_,by rw[HE.out],by rw[HE.out];exact h3.isS,hB3⟩
  ·have HE:=xo (show aT CQ.sub a b=([],11) by rw[HE.out,if_neg (by rw[h1];decide)])
   clear h1 hml
   go_wp2
   refine bodyPost_ret (v:=.tuple #[.slice none 0 0,.int .i64 11]) (by simp[results,Tryz.results169,go_sem]) rfl ⟨_,by rw[HE.out],by rw[HE.out];exact (bj.nil w3 0).isS,hB3⟩
def bO (zs:List CQ) (x:CQ):List CQ:=zs.map fun z=>z.mul x
def lW (zs:List CQ) (x:CQ):List CQ:=bE (bO zs x)
theorem lX (zs:List CQ) (x:CQ) {i:Nat} (h:i<zs.length):(bO zs x).take (i+1)=(bO zs x).take i++[zs[i].mul x]:=by
 have hl:i<(bO zs x).length:=by simp[bO,h]
 rw[show (bO zs x).take (i+1)=(bO zs x).take i++[(bO zs x)[i]] from (xG hl).symm]
 simp[bO]
theorem nm (zs:List CQ) (x:CQ):(bO zs x).length=zs.length:=by simp[bO]
theorem pP (vp vx:Value) (zs:List CQ) (x:CQ) (w:World) (hp:IsP w vp zs) (hx:IsK w vx x) (hfit:∀ z∈zs,SzV 10000 (ct (z.mul x))) (hlen:zs.length<1000000) :
  Calls Tryz.prog 174 #[vp,vx] w fun e w'=>∃ v',e=.returned v'∧IsP w' v' (lW zs x)∧Below w.heap.size w w':=by
 obtain⟨p,c,rfl,-⟩:=id hp.form
 obtain⟨ga,gb,gc,gd,ge,gf,rfl,-,-⟩:=id hx.v
 have HML:=xo (nm zs x)
 have HMT:=xo (fun i h=>lX zs x (i:=i) h)
 have HFIT:=xo hfit
 clear hfit
 go_enter Tryz.func174,Tryz.ntmps174
 go_upto_region 1 with fail
 have q1:=aV.new w ga gb gc gd ge gf 83
 have m1:=ac w (.cells #[ga,gb,gc,gd,ge,gf] 83)
 have z1:=size_alloc w (.cells #[ga,gb,gc,gd,ge,gf] 83)
 generalize w.alloc (.cells #[ga,gb,gc,gd,ge,gf] 83)=w1 at *
 have Q1:=xo q1
 have HP:=xo (hp.below m1)
 have HX:=xo (hx.below m1)
 have M1:=xo m1
 have hs1:w1.heap.size=w.heap.size+1:=z1
 have hle1:w.heap.size≤w1.heap.size:=by omega
 clear q1 hp hx m1 z1 hs1
 go_wp2
 go_loopw [5,10] (fun s5 s10 wr=>∃ i:Nat,s10=.int .i64 i∧i≤zs.length∧bZ wr w1.heap.size s5 ((bO zs x).take i)∧Below w1.heap.size w1 wr) (fun _ s10 _=>zs.length-(intOf s10).toNat)
 case atStart=>exact⟨0,rfl,xJ _,bZ.nil _ _,Below.refl _ _⟩
 case round =>
  obtain⟨i,rfl,hin,hown,hbr⟩:=hrel
  by_cases hi:i<zs.length
  ·obtain⟨B,o,rfl,hlt,xm,xp,xl,xc,xq,xk,xd,ym,yp,yl,yc,yq,yk,yd,hk,a0,a1,a2,a3,a4,a5⟩:=(HP.out.below hbr).get hi
   have HT:=xo (HMT.out i hi)
   have HZ:=xo (HFIT.out zs[i] (xK hi))
   generalize zs[i]=z at hk HT HZ
   have HV:=xo hown
   have HK:=xo hk
   clear hown hk
   go_upto_region 5 with fail
   have q2:=aV.new wr (.bool xm) (.slice xp xl xc) (.slice xq xk xd) (.bool ym) (.slice yp yl yc) (.slice yq yk yd) 83
   have m2:=ac wr (.cells #[.bool xm,.slice xp xl xc,.slice xq xk xd,.bool ym,.slice yp yl yc,.slice yq yk yd] 83)
   generalize wr.alloc (.cells #[.bool xm,.slice xp xl xc,.slice xq xk xd,.bool ym,.slice yp yl yc,.slice yq yk yd] 83)=w2 at *
   have b0:=q2.c0;have b1:=q2.c1;have b2:=q2.c2;have b3:=q2.c3;have b4:=q2.c4;have b5:=q2.c5
   have hB2:=hbr.trans (m2.mono hbr.size)
   have q1:=Q1.out.below hB2
   have a0:=q1.c0;have a1:=q1.c1;have a2:=q1.c2;have a3:=q1.c3;have a4:=q1.c4;have a5:=q1.c5
   have HKx:=xo (HX.out.below hB2)
   have HKz:=xo (HK.out.below m2)
   have HV2:=xo (HV.out.below m2)
   clear q1 q2 m2 hbr HV HK
   go_wp2_with fail
   refine (ft _ _ _ _ _ HKz.out.v HKx.out.v (HKz.out.s.fewV HKx.out.s (by decide))).mono ?_
   rintro e w3 ⟨v3,rfl,hv3,hb3⟩
   rw[bv] at hv3
   have hk3:IsK w3 v3 (z.mul x):=⟨hv3,HZ.out⟩
   have hB3:=hB2.trans (hb3.mono hB2.size)
   have hw3:=HV2.out.below hb3
   obtain⟨sm,sp,sl,sc,sq,sk,sd,tm,tp,tl,tc,tq',tk,td,rfl⟩:=hk3.forms
   have hbs:=hB3.size
   have hzl:((bO zs x).take i).length<1000000000:=by rw[x6,HML.out];omega
   clear hb3 hB2 hv3 HKx HKz HV2 a0 a1 a2 a3 a4 a5 b0 b1 b2 b3 b4 b5
   go_wp2_with (at_builtin;refine cH 126 Tryz.underlying126 rfl (.tmp 14) (.tmp 18) rfl w1.heap.size _ _ _ _ _ _ _ _ _ rfl hw3 hk3 rfl hzl hbs ?_)
   intro v' w4 hw4 hb4 _
   have hB4:=hb4 _ _ hB3 (xy _)
   rw[←HT.out] at hw4
   clear hw3 hb4 hB3 hk3
   go_wp2
   go_roundw
   case rel=>exact⟨i+1,by go_num,by omega,hw4,hB4⟩
   case measure=>(first | (simp[intOf];done) | (simp[intOf];omega))
  ·have hin':i=zs.length:=by omega
   subst hin'
   have hw:=hown
   rw[show (bO zs x).take zs.length=bO zs x from xF (by rw[HML.out];exact xy _)] at hw
   have hml:(bO zs x).length<1000000:=by rw[HML.out];exact hlen
   have HW:=xo hw.isP
   clear hown hi hw
   go_wp2_with fail
   refine (kR _ _ wr HW.out hml).mono ?_
   rintro e w4 ⟨v1,rfl,hv1,hb1⟩
   go_wp2
   go_ret
   exact⟨_,rfl,hv1,M1.out.trans ((hbr.trans (hb1.mono hbr.size)).mono hle1)⟩
end Go.Proofs.YtomkanblohhpfaaGreatDoor
