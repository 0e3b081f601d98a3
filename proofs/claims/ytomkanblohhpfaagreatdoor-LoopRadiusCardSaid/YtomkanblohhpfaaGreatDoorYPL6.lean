/- Lemmas of this claim. -/
import Derived.Test.YtomkanblohhpfaaGreatDoorYPL1
set_option linter.all false
set_option maxRecDepth 100000
set_option maxHeartbeats 8000000
namespace Go.Proofs.YtomkanblohhpfaaGreatDoor
open Go.RowKit Dg
def SzL (k:Nat) (zs:List CQ):Prop:=∀ z∈zs,SzV k (ct z)
theorem pO {zs:List CQ}:∀ z∈bv zs,z∈zs:=by
 intro z hz
 unfold bv at hz
 rw[List.mem_reverse] at hz
 exact List.mem_reverse.1 ((List.dropWhile_sublist _).mem hz)
theorem SzL.lean {k:Nat}{zs:List CQ} (h:SzL k zs):SzL k (bv zs):=fun z hz=>h z (pO z hz)
theorem n6:∀ {l:List ByteArray}{zs:List CQ},dj l=some zs→SzL 2000 zs
 | [],zs,h=>by cases h;intro z hz;simp at hz
 | a :: l,zs,h=>by
  simp only[dj] at h
  cases ha:d7 a with
  | none=>rw[ha] at h;cases h
  | some z =>
   cases hl:dj l with
   | none=>rw[ha,hl] at h;cases h
   | some ys =>
    rw[ha,hl] at h
    cases h
    intro y hy
    rcases xo.1 hy with rfl | hy
    ·exact (lY ha).2.2
    ·exact n6 hl y hy
theorem fF {l:List ByteArray}{zs:List CQ} (h:bW l=.ok zs):SzL 2000 zs:=by
 unfold bW at h
 split at h
 ·cases h
 ·split at h
  ·rename_i ys hy
   cases h
   exact (n6 hy).lean
  ·cases h
theorem kC {a b:List ByteArray}{z:List CQ×List CQ} (h:dw a b=.ok z):bW a=.ok z.1∧bW b=.ok z.2:=by
 unfold dw at h
 split at h
 ·cases h
 ·rename_i x hx
  split at h
  ·cases h
  ·rename_i y hy
   cases h
   exact⟨hx,hy⟩
theorem SzL.item {k:Nat}{zs:List CQ} (h:SzL k zs) (hk:1≤k) (i:Nat):SzV k (ct (dU zs i)):=by
 unfold dU
 split
 ·exact h _ (wk _)
 ·exact⟨.zero hk,.zero hk⟩
structure qC (f:CQ→CQ→CQ):Prop where
 on:∀ a b,SzV 2000 (ct a)→SzV 2000 (ct b)→SzV 10000 (ct (f a b))
theorem ry:qC CQ.add:=⟨fun a b ha hb=>by rw[←dp];exact (ha.plus hb).mono (by decide)⟩
theorem rz:qC CQ.sub:=⟨fun a b ha hb=>by rw[←jy];exact (ha.plus hb.neg).mono (by decide)⟩
def bt (f:CQ→CQ→CQ) (p q:List CQ):List CQ:=(List.range (max p.length q.length)).map fun i=>f (dU p i) (dU q i)
theorem ld (f:CQ→CQ→CQ) (p q:List CQ) {i:Nat} (h:i<max p.length q.length):(bt f p q).take (i+1)=(bt f p q).take i++[f (dU p i) (dU q i)]:=by
 have hl:i<(bt f p q).length:=by simp[bt];omega
 rw[show (bt f p q).take (i+1)=(bt f p q).take i++[(bt f p q)[i]] from (wg hl).symm]
 simp[bt]
def b_ (f:CQ→CQ→CQ) (p q:List CQ):List CQ:=bv (bt f p q)
theorem fA (f:CQ→CQ→CQ) (p q:List CQ):(bt f p q).length=max p.length q.length:=by simp[bt]
theorem oG {G:FuncId}{f:CQ→CQ→CQ} (hG:GAt G f) (hF:qC f) (va vb:Value) (p q:List CQ) (w:World) (ha:IsP w va p) (hb:IsP w vb q) (hsp:SzL 2000 p) (hsq:SzL 2000 q) (hlp:p.length<1000000) (hlq:q.length<1000000) :
  Calls Tryz.prog 194 #[va,vb,.func (.func G) #[] #[]] w fun e w'=>∃ v',e=.returned v'∧IsP w' v' (b_ f p q)∧Below w.heap.size w w':=by
 obtain⟨pa,ca,rfl,-⟩:=id ha.form
 obtain⟨pb,cb,rfl,-⟩:=id hb.form
 have EN:=hG.en
 have HA:=vL ha
 have HB:=vL hb
 clear ha hb
 have HML:=fA f p q
 have HMT:=fun i h=>ld f p q (i:=i) h
 obtain⟨n,hn⟩:∃ n,n=max p.length q.length:=⟨_,rfl⟩
 have hn6:n<1000000:=by omega
 have hmax:max (p.length:Int) (q.length:Int)=(n:Int):=by rw[hn];omega
 rw[←hn] at HML HMT
 have HML:=vL HML
 have HMT:=vL HMT
 clear hn
 go_enter Tryz.func194,Tryz.ntmps194
 go_wp2
 clear hmax
 go_loopw [7,14] (fun s7 s14 wr=>∃ i:Nat,s14=.int .i64 i∧i≤n∧bS wr w.heap.size s7 ((bt f p q).take i)∧Below w.heap.size w wr) (fun _ s14 _=>n-(intOf s14).toNat)
 case atStart=>exact⟨0,rfl,wj _,bS.nil _ _,Below.refl _ _⟩
 case round =>
  obtain⟨i,rfl,hin,hown,hbr⟩:=hrel
  by_cases hi:i<n
  ·have HT:=vL (HMT.out i hi)
   have hi6:i<1000000:=by omega
   have HV:=vL hown
   clear hown
   go_wp2_with fail
   refine (uh _ p i wr (HA.out.below hbr) hi6 hlp).mono ?_
   rintro e w1 ⟨v1,rfl,hk1,hb1⟩
   have hB1:=hbr.trans (hb1.mono hbr.size)
   go_wp2_with fail
   refine (uh _ q i w1 (HB.out.below hB1) hi6 hlq).mono ?_
   rintro e w2 ⟨v2,rfl,hk2,hb2⟩
   have hB2:=hB1.trans (hb2.mono hB1.size)
   go_wp2_with fail
   refine (hG.on _ _ _ _ w2 (hk1.below hb2) hk2).mono ?_
   rintro e w3 ⟨v3,rfl,hv3,hb3⟩
   have hB3:=hB2.trans (hb3.mono hB2.size)
   have hk3:IsK w3 v3 (f (dU p i) (dU q i)):=⟨hv3,hF.on _ _ (hsp.item (by decide) i) (hsq.item (by decide) i)⟩
   have hw3:=((HV.out.below hb1).below hb2).below hb3
   obtain⟨xm,xp,xl,xc,xq,xk,xd,ym,yp,yl,yc,yq,yk,yd,rfl⟩:=hk3.forms
   have hbs:=hB3.size
   have hzl:((bt f p q).take i).length<1000000000:=by rw[wK,HML.out];omega
   clear hb1 hb2 hb3 hB1 hB2 hbr hv3 hk1 hk2 HV
   go_wp2_with (at_builtin;refine cC 126 Tryz.underlying126 rfl (.tmp 17) (.tmp 26) rfl w.heap.size _ _ _ _ _ _ _ _ _ rfl hw3 hk3 rfl hzl hbs ?_)
   intro v' w4 hw4 hb4 _
   have hB4:=hb4 _ _ hB3 (vS _)
   rw[←HT.out] at hw4
   clear hw3 hb4 hB3
   go_wp2
   go_roundw
   case rel=>exact⟨i+1,by go_num,by omega,hw4,hB4⟩
   case measure=>(first | (simp[intOf];done) | (simp[intOf];omega))
  ·have hin':i=n:=by omega
   subst hin'
   have hw:=hown
   rw[show (bt f p q).take i=bt f p q from vZ (by rw[HML.out];exact vS _)] at hw
   have hml:(bt f p q).length<1000000:=by rw[HML.out];exact hn6
   have HW:=vL hw.isP
   clear hown hi hw
   go_wp2_with fail
   refine (kp _ _ wr HW.out hml).mono ?_
   rintro e w1 ⟨v1,rfl,hv1,hb1⟩
   go_wp2
   go_ret
   exact⟨_,rfl,hv1,hbr.trans (hb1.mono hbr.size)⟩
def aO (f:CQ→CQ→CQ) (a b:List ByteArray):List ByteArray×Int:=match dw a b with
 | .error e=>([],e)
 | .ok z=>if eH (b_ f z.1 z.2)=true then (dC (b_ f z.1 z.2),0) else ([],11)
theorem rY (va vb:Value) (a b:List ByteArray) (w:World) (ha:IsS w va a) (hb:IsS w vb b) (hG:Gw w) :
  Calls Tryz.prog 168 #[va,vb] w fun e w'=>∃ v',e=.returned (.tuple #[v',.int .i64 (aO CQ.add a b).2])∧IsS w' v' (aO CQ.add a b).1∧Below w.heap.size w w':=by
 have HP:=vL (r7 va vb a b w ha hb hG)
 have HG:=vL hG
 clear ha hb hG
 go_enter Tryz.func168,Tryz.ntmps168
 go_wp2_with fail
 refine HP.out.mono ?_
 rintro e w1 ⟨u,v,x,rfl,hr,hb1⟩
 cases hpc:dw a b with
 | error ea =>
  rw[hpc] at hr
  obtain⟨rfl,hx,rfl,rfl⟩:=hr
  have HE:=vL (show aO CQ.add a b=([],x) by unfold aO;rw[hpc])
  have hd:decide (x=0)=false:=decide_eq_false hx
  clear hpc HP
  go_wp2
  refine bodyPost_ret (v:=.tuple #[.slice none 0 0,.int .i64 x]) (by simp[results,Tryz.results168,go_sem]) rfl ⟨_,by rw[HE.out],by rw[HE.out];exact (bB.nil w1 0).isS,hb1⟩
 | ok z =>
  rw[hpc] at hr
  obtain⟨p,q⟩:=z
  obtain⟨rfl,hu,hv⟩:=hr
  obtain⟨hp1,hp2⟩:=kC hpc
  have s1:=fF hp1;have s2:=fF hp2
  have l1:=f8 hp1;have l2:=f8 hp2
  simp only at hu hv s1 s2 l1 l2
  have hml:(b_ CQ.add p q).length<1000000:=by
   have h1:=fU (bt CQ.add p q)
   rw[fA] at h1
   unfold b_
   omega
  have HE:=vL (show aO CQ.add a b=if eH (b_ CQ.add p q)=true then (dC (b_ CQ.add p q),0) else ([],11) by unfold aO;rw[hpc])
  have HM:=vL (oG uw ry u v p q w1 hu hv s1 s2 (by omega) (by omega))
  clear hpc HP hp1 hp2 s1 s2 l1 l2 hu hv
  go_wp2_with fail
  refine HM.out.mono ?_
  rintro e w2 ⟨v2,rfl,hv2,hb2⟩
  have hB2:=hb1.trans (hb2.mono hb1.size)
  clear HM
  go_wp2_with fail
  refine (ux v2 _ w2 hv2 hml (HG.out.below hB2)).mono ?_
  rintro e w3 ⟨v3,x,rfl,hc,hb3⟩
  have hB3:=hB2.trans (hb3.mono hB2.size)
  rcases hc with ⟨h1,rfl,h3⟩ | ⟨h1,rfl,rfl⟩
  ·have HE:=vL (show aO CQ.add a b=(dC (b_ CQ.add p q),0) by rw[HE.out,if_pos h1])
   clear h1 hml
   go_wp2
   refine bodyPost_ret (v:=.tuple #[v3,.int .i64 0]) (by simp[results,Tryz.results168,go_sem]) rfl ⟨_,by rw[HE.out],by rw[HE.out];exact h3.isS,hB3⟩
  ·have HE:=vL (show aO CQ.add a b=([],11) by rw[HE.out,if_neg (by rw[h1];decide)])
   clear h1 hml
   go_wp2
   refine bodyPost_ret (v:=.tuple #[.slice none 0 0,.int .i64 11]) (by simp[results,Tryz.results168,go_sem]) rfl ⟨_,by rw[HE.out],by rw[HE.out];exact (bB.nil w3 0).isS,hB3⟩
theorem rZ (va vb:Value) (a b:List ByteArray) (w:World) (ha:IsS w va a) (hb:IsS w vb b) (hG:Gw w) :
  Calls Tryz.prog 169 #[va,vb] w fun e w'=>∃ v',e=.returned (.tuple #[v',.int .i64 (aO CQ.sub a b).2])∧IsS w' v' (aO CQ.sub a b).1∧Below w.heap.size w w':=by
 have HP:=vL (r7 va vb a b w ha hb hG)
 have HG:=vL hG
 clear ha hb hG
 go_enter Tryz.func169,Tryz.ntmps169
 go_wp2_with fail
 refine HP.out.mono ?_
 rintro e w1 ⟨u,v,x,rfl,hr,hb1⟩
 cases hpc:dw a b with
 | error ea =>
  rw[hpc] at hr
  obtain⟨rfl,hx,rfl,rfl⟩:=hr
  have HE:=vL (show aO CQ.sub a b=([],x) by unfold aO;rw[hpc])
  have hd:decide (x=0)=false:=decide_eq_false hx
  clear hpc HP
  go_wp2
  refine bodyPost_ret (v:=.tuple #[.slice none 0 0,.int .i64 x]) (by simp[results,Tryz.results169,go_sem]) rfl ⟨_,by rw[HE.out],by rw[HE.out];exact (bB.nil w1 0).isS,hb1⟩
 | ok z =>
  rw[hpc] at hr
  obtain⟨p,q⟩:=z
  obtain⟨rfl,hu,hv⟩:=hr
  obtain⟨hp1,hp2⟩:=kC hpc
  have s1:=fF hp1;have s2:=fF hp2
  have l1:=f8 hp1;have l2:=f8 hp2
  simp only at hu hv s1 s2 l1 l2
  have hml:(b_ CQ.sub p q).length<1000000:=by
   have h1:=fU (bt CQ.sub p q)
   rw[fA] at h1
   unfold b_
   omega
  have HE:=vL (show aO CQ.sub a b=if eH (b_ CQ.sub p q)=true then (dC (b_ CQ.sub p q),0) else ([],11) by unfold aO;rw[hpc])
  have HM:=vL (oG uo rz u v p q w1 hu hv s1 s2 (by omega) (by omega))
  clear hpc HP hp1 hp2 s1 s2 l1 l2 hu hv
  go_wp2_with fail
  refine HM.out.mono ?_
  rintro e w2 ⟨v2,rfl,hv2,hb2⟩
  have hB2:=hb1.trans (hb2.mono hb1.size)
  clear HM
  go_wp2_with fail
  refine (ux v2 _ w2 hv2 hml (HG.out.below hB2)).mono ?_
  rintro e w3 ⟨v3,x,rfl,hc,hb3⟩
  have hB3:=hB2.trans (hb3.mono hB2.size)
  rcases hc with ⟨h1,rfl,h3⟩ | ⟨h1,rfl,rfl⟩
  ·have HE:=vL (show aO CQ.sub a b=(dC (b_ CQ.sub p q),0) by rw[HE.out,if_pos h1])
   clear h1 hml
   go_wp2
   refine bodyPost_ret (v:=.tuple #[v3,.int .i64 0]) (by simp[results,Tryz.results169,go_sem]) rfl ⟨_,by rw[HE.out],by rw[HE.out];exact h3.isS,hB3⟩
  ·have HE:=vL (show aO CQ.sub a b=([],11) by rw[HE.out,if_neg (by rw[h1];decide)])
   clear h1 hml
   go_wp2
   refine bodyPost_ret (v:=.tuple #[.slice none 0 0,.int .i64 11]) (by simp[results,Tryz.results169,go_sem]) rfl ⟨_,by rw[HE.out],by rw[HE.out];exact (bB.nil w3 0).isS,hB3⟩
def bK (zs:List CQ) (x:CQ):List CQ:=zs.map fun z=>z.mul x
def lp (zs:List CQ) (x:CQ):List CQ:=bv (bK zs x)
theorem lq (zs:List CQ) (x:CQ) {i:Nat} (h:i<zs.length):(bK zs x).take (i+1)=(bK zs x).take i++[zs[i].mul x]:=by
 have hl:i<(bK zs x).length:=by simp[bK,h]
 rw[show (bK zs x).take (i+1)=(bK zs x).take i++[(bK zs x)[i]] from (wg hl).symm]
 simp[bK]
theorem mG (zs:List CQ) (x:CQ):(bK zs x).length=zs.length:=by simp[bK]
theorem oM (vp vx:Value) (zs:List CQ) (x:CQ) (w:World) (hp:IsP w vp zs) (hx:IsK w vx x) (hfit:∀ z∈zs,SzV 10000 (ct (z.mul x))) (hlen:zs.length<1000000) :
  Calls Tryz.prog 174 #[vp,vx] w fun e w'=>∃ v',e=.returned v'∧IsP w' v' (lp zs x)∧Below w.heap.size w w':=by
 obtain⟨p,c,rfl,-⟩:=id hp.form
 obtain⟨ga,gb,gc,gd,ge,gf,rfl,-,-⟩:=id hx.v
 have HML:=vL (mG zs x)
 have HMT:=vL (fun i h=>lq zs x (i:=i) h)
 have HFIT:=vL hfit
 clear hfit
 go_enter Tryz.func174,Tryz.ntmps174
 go_upto_region 1 with fail
 have q1:=aR.new w ga gb gc gd ge gf 83
 have m1:=ac w (.cells #[ga,gb,gc,gd,ge,gf] 83)
 have z1:=size_alloc w (.cells #[ga,gb,gc,gd,ge,gf] 83)
 generalize w.alloc (.cells #[ga,gb,gc,gd,ge,gf] 83)=w1 at *
 have Q1:=vL q1
 have HP:=vL (hp.below m1)
 have HX:=vL (hx.below m1)
 have M1:=vL m1
 have hs1:w1.heap.size=w.heap.size+1:=z1
 have hle1:w.heap.size≤w1.heap.size:=by omega
 clear q1 hp hx m1 z1 hs1
 go_wp2
 go_loopw [5,10] (fun s5 s10 wr=>∃ i:Nat,s10=.int .i64 i∧i≤zs.length∧bS wr w1.heap.size s5 ((bK zs x).take i)∧Below w1.heap.size w1 wr) (fun _ s10 _=>zs.length-(intOf s10).toNat)
 case atStart=>exact⟨0,rfl,wj _,bS.nil _ _,Below.refl _ _⟩
 case round =>
  obtain⟨i,rfl,hin,hown,hbr⟩:=hrel
  by_cases hi:i<zs.length
  ·obtain⟨B,o,rfl,hlt,xm,xp,xl,xc,xq,xk,xd,ym,yp,yl,yc,yq,yk,yd,hk,a0,a1,a2,a3,a4,a5⟩:=(HP.out.below hbr).get hi
   have HT:=vL (HMT.out i hi)
   have HZ:=vL (HFIT.out zs[i] (wk hi))
   generalize zs[i]=z at hk HT HZ
   have HV:=vL hown
   have HK:=vL hk
   clear hown hk
   go_upto_region 5 with fail
   have q2:=aR.new wr (.bool xm) (.slice xp xl xc) (.slice xq xk xd) (.bool ym) (.slice yp yl yc) (.slice yq yk yd) 83
   have m2:=ac wr (.cells #[.bool xm,.slice xp xl xc,.slice xq xk xd,.bool ym,.slice yp yl yc,.slice yq yk yd] 83)
   generalize wr.alloc (.cells #[.bool xm,.slice xp xl xc,.slice xq xk xd,.bool ym,.slice yp yl yc,.slice yq yk yd] 83)=w2 at *
   have b0:=q2.c0;have b1:=q2.c1;have b2:=q2.c2;have b3:=q2.c3;have b4:=q2.c4;have b5:=q2.c5
   have hB2:=hbr.trans (m2.mono hbr.size)
   have q1:=Q1.out.below hB2
   have a0:=q1.c0;have a1:=q1.c1;have a2:=q1.c2;have a3:=q1.c3;have a4:=q1.c4;have a5:=q1.c5
   have HKx:=vL (HX.out.below hB2)
   have HKz:=vL (HK.out.below m2)
   have HV2:=vL (HV.out.below m2)
   clear q1 q2 m2 hbr HV HK
   go_wp2_with fail
   refine (fe _ _ _ _ _ HKz.out.v HKx.out.v (HKz.out.s.fewV HKx.out.s (by decide))).mono ?_
   rintro e w3 ⟨v3,rfl,hv3,hb3⟩
   rw[bk] at hv3
   have hk3:IsK w3 v3 (z.mul x):=⟨hv3,HZ.out⟩
   have hB3:=hB2.trans (hb3.mono hB2.size)
   have hw3:=HV2.out.below hb3
   obtain⟨sm,sp,sl,sc,sq,sk,sd,tm,tp,tl,tc,tq',tk,td,rfl⟩:=hk3.forms
   have hbs:=hB3.size
   have hzl:((bK zs x).take i).length<1000000000:=by rw[wK,HML.out];omega
   clear hb3 hB2 hv3 HKx HKz HV2 a0 a1 a2 a3 a4 a5 b0 b1 b2 b3 b4 b5
   go_wp2_with (at_builtin;refine cC 126 Tryz.underlying126 rfl (.tmp 14) (.tmp 18) rfl w1.heap.size _ _ _ _ _ _ _ _ _ rfl hw3 hk3 rfl hzl hbs ?_)
   intro v' w4 hw4 hb4 _
   have hB4:=hb4 _ _ hB3 (vS _)
   rw[←HT.out] at hw4
   clear hw3 hb4 hB3 hk3
   go_wp2
   go_roundw
   case rel=>exact⟨i+1,by go_num,by omega,hw4,hB4⟩
   case measure=>(first | (simp[intOf];done) | (simp[intOf];omega))
  ·have hin':i=zs.length:=by omega
   subst hin'
   have hw:=hown
   rw[show (bK zs x).take zs.length=bK zs x from vZ (by rw[HML.out];exact vS _)] at hw
   have hml:(bK zs x).length<1000000:=by rw[HML.out];exact hlen
   have HW:=vL hw.isP
   clear hown hi hw
   go_wp2_with fail
   refine (kp _ _ wr HW.out hml).mono ?_
   rintro e w4 ⟨v1,rfl,hv1,hb1⟩
   go_wp2
   go_ret
   exact⟨_,rfl,hv1,M1.out.trans ((hbr.trans (hb1.mono hbr.size)).mono hle1)⟩
theorem c_ {o:Oper}{a:Act}{w:World}{K:Act→World→Prop}{Q:Exit→Act→World→Prop} (hg:o.guard=none) (h:wpList Tryz.prog #[o] (fun e a w=>e=.normal∧K a w) [o] a w):o.wp Tryz.prog a w K Q:=by
 unfold wpList at h
 rw[if_pos (by simp only[Region.wanted,hg])] at h
 rcases h with h | ⟨-,h⟩
 ·unfold Oper.wp at *
  generalize (execOp a.eval o).run Tryz.prog w=r at *
  cases r with
  | ok n w' =>
   cases n<;>simp only[Oper.upon] at h ⊢ <;>
    first
     | exact h.2
     | exact Calls.mono h (fun e w'' he=>by
       cases e with
       | returned v=>exact he.2
       | panicked c=>exact absurd he.1 (by simp)
       | outgrown=>obtain⟨_,_,he,_⟩:=he;exact absurd he (by simp))
     | exact Rows.mono h (fun _ _ he=>he.2)
  | halt x w'=>cases x<;>simp only[Oper.upon] at h ⊢<;>first | (obtain⟨he,_⟩:=h;exact absurd he (by simp)) | exact h | (obtain⟨_,_,he,_⟩:=h;exact absurd he (by simp))
 ·obtain⟨_,_,he,_⟩:=h
  exact absurd he (by simp)
theorem iB {w:World}{ops:Array Oper}{rest:List Oper}{o:Oper}{act:Act}{Q:Exit→Act→World→Prop} (T:TypeId)
  (hT:Tryz.prog.underlying T=some (.slice 83)) (hgd:o.guard=none) (s x:Operand)
  (ho:o.op=.call { callee:=.builtin .append,args:=#[s,x],argTypes:=#[T,T] })
  (base:Nat) (v:Value) (zs:List CQ) (a b c d e f:Value) (z:CQ) (hs:act.eval s=v) (hown:bS w base v zs) (hk:IsK w (.agg #[a,b,c,d,e,f]) z)
  (hx:act.eval x=.slice (some ⟨w.heap.size,0,none⟩) 1 1) (hlen:zs.length<1000000000) (hbase:base≤w.heap.size)
  (h:∀ v' w',bS w' base v' (zs++[z])→(∀ B w0,Below B w0 w→B≤base→Below B w0 w')→(w.alloc (.cells #[a,b,c,d,e,f] 83)).grownBy w' v.ownBlock→wpList Tryz.prog ops Q rest (act.put o.dst v') w') :
  wpList Tryz.prog ops Q (o :: rest) act (w.alloc (.cells #[a,b,c,d,e,f] 83)):=by
 obtain⟨es,h1,h2,h3⟩:=hown.p
 obtain⟨i0,hi,hz0,hz1,hz2⟩:=info_parts rG
 have hb:=ac w (.cells #[a,b,c,d,e,f] 83)
 obtain⟨xm,xp,xl,xc,xq,xk,xd,ym,yp,yl,yc,yq,yk,yd,he⟩:=hk.forms
 obtain⟨rfl,rfl,rfl,rfl,rfl,rfl⟩:a=.bool xm∧b=.slice xp xl xc∧c=.slice xq xk xd∧d=.bool ym∧e=.slice yp yl yc∧f=.slice yq yk yd:=by simpa using he
 have hnu:=hown.nu.below h2 hb
 refine dA _ hgd s x T ho base 83 i0 _ 6 112 hT hi hz0 hz1 hz2 rfl (by decide) ?_ v es.length (dt es) hs (h2.alloc _) hnu ⟨w.heap.size,0,none⟩ 1 [.bool xm,.slice xp xl xc,.slice xq xk xd,.bool ym,.slice yp yl yc,.slice yq yk yd] hx rfl (lK w _ _ _ _ _ _ _) ?_ ?_ ?_ ?_ ?_ ?_
 ·intro u hu z' e'
  subst e'
  simp[Value.cells] at hu
 ·intro u hu
  simp at hu
  rcases hu with rfl | rfl | rfl | rfl | rfl | rfl<;>rfl
 ·intro u hu z' e'
  subst e'
  simp at hu
 ·unfold maxLen;omega
 ·omega
 ·rw[size_alloc];omega
 ·intro v' w' g1 g2 g3
  have hkeep:∀ u l,IsU w u l→IsU w' u l:=fun u l hu=>(hu.below hb).grown hnu g2
  refine h v' w' ⟨⟨es++[.agg #[.bool xm,.slice xp xl xc,.slice xq xk xd,.bool ym,.slice yp yl yc,.slice yq yk yd]],by simp[h1],?_,?_⟩,g3⟩ ?_ g2
  ·rw[wh,ig];exact g1
  ·intro i hi' hi2
   by_cases hlt:i<es.length
   ·rw[wE hlt,wE (by omega)]
    exact (h3 i hlt (by omega)).keepU hkeep
   ·have hie:i=es.length:=by simp at hi';omega
    subst hie
    rw[wC (vS _),wC (by omega)]
    simpa[h1] using hk.keepU hkeep
  ·intro B w0 hB hBb
   refine (hB.alloc (by have:=hbase;omega) _).grown g2 (by rw[size_alloc];omega) ?_
   intro k hk'
   have:=(h2.lt k hk').1
   omega
structure lC (k:Nat) (a b c d e f:Value) where
 w:World
 h:aR w k a b c d e f
theorem aR.grown {w w':World}{k:Nat}{a b c d e f:Value}{row:Option Nat} (h:aR w k a b c d e f) (hg:w.grownBy w' row) (hne:some k≠row):aR w' k a b c d e f :=
 ⟨vV h.lt hg.size,hg.cell h.c0 hne,hg.cell h.c1 hne,hg.cell h.c2 hne,hg.cell h.c3 hne,hg.cell h.c4 hne,hg.cell h.c5 hne⟩
theorem bS.block {w:World}{base:Nat}{v:Value}{zs:List CQ} (h:bS w base v zs) {g:Nat} (hg:v.ownBlock=some g):g<w.heap.size:=by
 obtain⟨es,-,h2,-⟩:=h.p
 exact (World.ownsRow.lt h2 g hg).2
theorem lw {n:Nat} (h:n<34):SzV 10 (ct (CQ.real ((n:Nat):Int))):=by
 refine⟨⟨?_,cS _,?_⟩,.zero (by decide)⟩
 ·show (((n:Nat):Int):Rat).num.natAbs<10 ^ 10
  simp;omega
 ·show (((n:Nat):Int):Rat).den<10 ^ 10
  simp
def gi (zs:List CQ):List CQ:=(List.range (zs.length-1)).map fun i=>(dU zs (i+1)).mul (CQ.real ((i+1:Nat):Int))
def pz (zs:List CQ):List CQ:=bv (gi zs)
theorem lT (zs:List CQ):(gi zs).length=zs.length-1:=by simp[gi]
theorem pA (zs:List CQ) {i:Nat} (h:i+1<zs.length):(gi zs).take (i+1)=(gi zs).take i++[zs[i+1].mul (CQ.real ((i+1:Nat):Int))]:=by
 have hl:i<(gi zs).length:=by rw[lT];omega
 rw[show (gi zs).take (i+1)=(gi zs).take i++[(gi zs)[i]] from (wg hl).symm]
 simp[gi,dU,h]
theorem lU (vp:Value) (zs:List CQ) (w:World) (hp:IsP w vp zs) (hfit:∀ z∈zs,∀ n:Nat,n<33→SzV 10000 (ct (z.mul (CQ.real ((n:Nat):Int))))) (hlen:zs.length≤33) :
  Calls Tryz.prog 151 #[vp] w fun e w'=>∃ v',e=.returned v'∧IsP w' v' (pz zs)∧Below w.heap.size w w':=by
 obtain⟨p,c,rfl,-⟩:=id hp.form
 have HML:=vL (lT zs)
 have HMT:=vL (fun i h=>pA zs (i:=i) h)
 have HFIT:=vL hfit
 have HP:=vL hp
 clear hfit hp
 go_enter Tryz.func151,Tryz.ntmps151
 go_wp2
 go_loopw [3,8] (fun s3 s8 wr=>∃ i:Nat,s8=.int .i64 i∧i≤zs.length∧bS wr w.heap.size s3 ((gi zs).take (i-1))∧Below w.heap.size w wr) (fun _ s8 _=>zs.length-(intOf s8).toNat)
 case atStart=>exact⟨0,rfl,wj _,bS.nil _ _,Below.refl _ _⟩
 case round =>
  obtain⟨i,rfl,hin,hown,hbr⟩:=hrel
  by_cases hi:i<zs.length
  ·obtain⟨B,o,rfl,hlt,xm,xp,xl,xc,xq,xk,xd,ym,yp,yl,yc,yq,yk,yd,hk,a0,a1,a2,a3,a4,a5⟩:=(HP.out.below hbr).get hi
   have hvb0:=vL (fun g (h:u3.ownBlock=some g)=>hown.block h)
   have HV:=vL hown
   have HK:=vL hk
   clear hown
   go_upto_region 5 with fail
   have q2:=aR.new wr (.bool xm) (.slice xp xl xc) (.slice xq xk xd) (.bool ym) (.slice yp yl yc) (.slice yq yk yd) 83
   have m2:=ac wr (.cells #[.bool xm,.slice xp xl xc,.slice xq xk xd,.bool ym,.slice yp yl yc,.slice yq yk yd] 83)
   have z2:=size_alloc wr (.cells #[.bool xm,.slice xp xl xc,.slice xq xk xd,.bool ym,.slice yp yl yc,.slice yq yk yd] 83)
   generalize wr.alloc (.cells #[.bool xm,.slice xp xl xc,.slice xq xk xd,.bool ym,.slice yp yl yc,.slice yq yk yd] 83)=w2 at *
   have hB2:=hbr.trans (m2.mono hbr.size)
   have HV2:=vL (HV.out.below m2)
   have HK2:=vL (HK.out.below m2)
   have hgr:wr.heap.size<w2.heap.size:=by omega
   clear a0 a1 a2 a3 a4 a5 m2 z2 HV HK hk
   by_cases h0:i=0
   ·subst h0
    clear q2 HK2
    go_wp2
    go_roundw
    case rel=>exact⟨1,by go_num,by omega,HV2.out,hB2⟩
    case measure=>(first | (simp[intOf];done) | (simp[intOf];omega))
   ·obtain⟨k,rfl⟩:∃ k,i=k+1:=⟨i-1,by omega⟩
    have HT:=vL (HMT.out k hi)
    have HZ:=vL (HFIT.out zs[k+1] (wk hi) (k+1) (by omega))
    generalize zs[k+1]=z at HK2 HT HZ
    rw[xx] at HV2
    go_upto_region 6 with fail
    have hvb:∀ g,u3.ownBlock=some g→g<wr.heap.size:=hvb0.out
    have m4:Below w2.heap.size w2 w2.drew:=(Below.refl _ _).drew
    have q4:=q2.below m4
    haveI:Nonempty (lC wr.heap.size (.bool xm) (.slice xp xl xc) (.slice xq xk xd) (.bool ym) (.slice yp yl yc) (.slice yq yk yd)):=⟨⟨_,q2⟩⟩
    refine ai (fun w'=>∃ x:lC wr.heap.size (.bool xm) (.slice xp xl xc) (.slice xq xk xd) (.bool ym) (.slice yp yl yc) (.slice yq yk yd),w'=x.w) (fun i=>i == 3||i == 4||i == 5||i == 6||i == 7) (by kernel_rfl) (by kernel_rfl) ⟨⟨_,q4⟩,rfl⟩ ?_
    have hB4:=hB2.trans (m4.mono hB2.size)
    have HV4:=vL (HV2.out.below m4)
    have HK4:=vL (HK2.out.below m4)
    clear q2 m4 hB2 HV2 HK2 hgr
    generalize w2.drew=wd at *
    have e0:=fun x:lC wr.heap.size (.bool xm) (.slice xp xl xc) (.slice xq xk xd) (.bool ym) (.slice yp yl yc) (.slice yq yk yd)=>x.h.c0
    have e1:=fun x:lC wr.heap.size (.bool xm) (.slice xp xl xc) (.slice xq xk xd) (.bool ym) (.slice yp yl yc) (.slice yq yk yd)=>x.h.c1
    have e2:=fun x:lC wr.heap.size (.bool xm) (.slice xp xl xc) (.slice xq xk xd) (.bool ym) (.slice yp yl yc) (.slice yq yk yd)=>x.h.c2
    have e3:=fun x:lC wr.heap.size (.bool xm) (.slice xp xl xc) (.slice xq xk xd) (.bool ym) (.slice yp yl yc) (.slice yq yk yd)=>x.h.c3
    have e4:=fun x:lC wr.heap.size (.bool xm) (.slice xp xl xc) (.slice xq xk xd) (.bool ym) (.slice yp yl yc) (.slice yq yk yd)=>x.h.c4
    have e5:=fun x:lC wr.heap.size (.bool xm) (.slice xp xl xc) (.slice xq xk xd) (.bool ym) (.slice yp yl yc) (.slice yq yk yd)=>x.h.c5
    refine ae 3 0 _ _ _ (by kernel_rfl) ?_
    simp only[vU,vY,vT,vX]
    repeat (go_big_quiet_step (fail))
    refine wpQuiet_nil ?_
    clear e0 e1 e2 e3 e4 e5
    refine af rfl rfl (fun K hK=>?_)
    go_simp
    refine (fN ((k+1:Nat):Int) wd (by omega) (by omega)).mono ?_
    rintro e w5 ⟨v5,rfl,hv5,hb5⟩
    refine hK _ _ ⟨⟨_,q4.below hb5⟩,rfl⟩ ?_
    clear hK K
    try simp only[Act.put,vP,vO,vN,vM,vQ,vR]
    refine af rfl rfl (fun K hK=>?_)
    go_simp
    refine (cR _ _ _ hv5).mono ?_
    rintro e w6 ⟨v6,rfl,hv6,hb6⟩
    have hB6:=hb5.trans (hb6.mono hb5.size)
    rw[bO] at hv6
    refine hK _ _ ⟨⟨_,q4.below hB6⟩,rfl⟩ ?_
    clear hK K
    try simp only[Act.put,vP,vO,vN,vM,vQ,vR]
    refine af rfl rfl (fun K hK=>?_)
    go_simp
    have hsn:=lw (n:=k+1) (by omega)
    refine (fe _ _ _ _ _ (HK4.out.below hB6).v hv6 (HK4.out.s.fewV hsn (by decide))).mono ?_
    rintro e w7 ⟨v7,rfl,hv7,hb7⟩
    rw[bk] at hv7
    have hB7:=hB6.trans (hb7.mono hB6.size)
    refine hK _ _ ⟨⟨_,q4.below hB7⟩,rfl⟩ ?_
    clear hK K
    try simp only[Act.put,vP,vO,vN,vM,vQ,vR]
    have hk7:IsK w7 v7 (z.mul (CQ.real ((k+1:Nat):Int))):=⟨hv7,HZ.out⟩
    obtain⟨sm,sp,sl,sc,sq,sk,sd,tm,tp,tl,tc,tq',tk,td,rfl⟩:=hk7.forms
    have hw7:=HV4.out.below hB7
    have q7:=q4.below hB7
    have hB47:=hB4.trans (hB7.mono hB4.size)
    have hbs:=hB47.size
    have hzl:((gi zs).take k).length<1000000000:=by rw[wK,HML.out];omega
    have q8:=q7.below (ac w7 (.cells #[.bool sm,.slice sp sl sc,.slice sq sk sd,.bool tm,.slice tp tl tc,.slice tq' tk td] 83))
    refine af rfl rfl (fun K hK=>?_)
    go_simp
    refine hK _ _ ⟨⟨_,q8⟩,rfl⟩ ?_
    clear hK K
    try simp only[Act.put,vP,vO,vN,vM,vQ,vR]
    refine af rfl rfl (fun K hK=>?_)
    refine c_ rfl ?_
    refine iB 126 Tryz.underlying126 rfl (.tmp 15) (.tmp 21) rfl w.heap.size _ _ _ _ _ _ _ _ _ rfl hw7 hk7 rfl hzl hbs ?_
    intro v' w9 hw9 hb9 hg9
    have hB9:=hb9 _ _ hB47 (vS _)
    have q9:=q8.grown hg9 (fun e=>Nat.lt_irrefl _ (hvb _ e.symm))
    refine⟨rfl,hK _ _ ⟨⟨_,q9⟩,rfl⟩ ?_⟩
    clear hK K
    try simp only[Act.put,vP,vO,vN,vM,vQ,vR]
    rw[←HT.out] at hw9
    have HW9:=vL hw9
    clear q4 q7 q8 q9 hg9 hb9 hw9 hw7 hk7 hv7 hv6 hv5 hb5 hb6 hb7 hB4 hB6 hB7 hB47 hvb
    refine ae 1 8 _ _ _ (by kernel_rfl) ?_
    simp only[vU,vY,vT,vX]
    repeat (go_big_quiet_step (fail))
    refine wpQuiet_nil ?_
    refine av ?_
    go_wp2
    go_roundw
    case rel=>exact⟨k+1+1,by go_num,by omega,HW9.out,hB9⟩
    case measure=>(first | (simp[intOf];done) | (simp[intOf];omega))
  ·have hin':i=zs.length:=by omega
   subst hin'
   have hw:=hown
   rw[show (gi zs).take (zs.length-1)=gi zs from vZ (by rw[HML.out];exact vS _)] at hw
   have hml:(gi zs).length<1000000:=by rw[HML.out];omega
   have HW:=vL hw.isP
   clear hown hi hw
   go_wp2_with fail
   refine (kp _ _ wr HW.out hml).mono ?_
   rintro e w4 ⟨v1,rfl,hv1,hb1⟩
   go_wp2
   go_ret
   exact⟨_,rfl,hv1,hbr.trans (hb1.mono hbr.size)⟩
end Go.Proofs.YtomkanblohhpfaaGreatDoor
