/- Lemmas of this claim. -/
import Derived.Test.YtbnkpcfjechfiaaGreatDoorZNC8
set_option linter.all false
set_option maxRecDepth 100000
set_option maxHeartbeats 8000000
namespace Go.Proofs.YtbnkpcfjechfiaaGreatDoor
open Go.RowKit Dg
def SzL (k:Nat) (zs:List CQ):Prop:=∀ z∈zs,SzV k (ct z)
theorem yK {zs:List CQ}:∀ z∈dp zs,z∈zs:=by
 intro z hz
 unfold dp at hz
 rw[List.mem_reverse] at hz
 exact List.mem_reverse.1 ((List.dropWhile_sublist _).mem hz)
theorem SzL.lean {k:Nat}{zs:List CQ} (h:SzL k zs):SzL k (dp zs):=fun z hz=>h z (yK z hz)
theorem wA:∀ {l:List ByteArray}{zs:List CQ},fk l=some zs→SzL 2000 zs
 | [],zs,h=>by cases h;intro z hz;simp at hz
 | a :: l,zs,h=>by
  simp only[fk] at h
  cases ha:dy a with
  | none=>rw[ha] at h;cases h
  | some z =>
   cases hl:fk l with
   | none=>rw[ha,hl] at h;cases h
   | some ys =>
    rw[ha,hl] at h
    cases h
    intro y hy
    rcases Gp.1 hy with rfl | hy
    ·exact (sF ha).2.2
    ·exact wA hl y hy
theorem jA {l:List ByteArray}{zs:List CQ} (h:dN l=.ok zs):SzL 2000 zs:=by
 unfold dN at h
 split at h
 ·cases h
 ·split at h
  ·rename_i ys hy
   cases h
   exact (wA hy).lean
  ·cases h
theorem p_ {a b:List ByteArray}{z:List CQ×List CQ} (h:fV a b=.ok z):dN a=.ok z.1∧dN b=.ok z.2:=by
 unfold fV at h
 split at h
 ·cases h
 ·rename_i x hx
  split at h
  ·cases h
  ·rename_i y hy
   cases h
   exact⟨hx,hy⟩
theorem SzL.item {k:Nat}{zs:List CQ} (h:SzL k zs) (hk:1≤k) (i:Nat):SzV k (ct (gN zs i)):=by
 unfold gN
 split
 ·exact h _ (FJ _)
 ·exact⟨.zero hk,.zero hk⟩
structure zK (f:CQ→CQ→CQ):Prop where
 on:∀ a b,SzV 2000 (ct a)→SzV 2000 (ct b)→SzV 10000 (ct (f a b))
theorem AE:zK CQ.add:=⟨fun a b ha hb=>by rw[←fO];exact (ha.plus hb).mono (by decide)⟩
theorem AF:zK CQ.sub:=⟨fun a b ha hb=>by rw[←nR];exact (ha.plus hb.neg).mono (by decide)⟩
def df (f:CQ→CQ→CQ) (p q:List CQ):List CQ:=(List.range (max p.length q.length)).map fun i=>f (gN p i) (gN q i)
theorem qU (f:CQ→CQ→CQ) (p q:List CQ) {i:Nat} (h:i<max p.length q.length):(df f p q).take (i+1)=(df f p q).take i++[f (gN p i) (gN q i)]:=by
 have hl:i<(df f p q).length:=by simp[df];omega
 rw[show (df f p q).take (i+1)=(df f p q).take i++[(df f p q)[i]] from (Fz hl).symm]
 simp[df]
def dZ (f:CQ→CQ→CQ) (p q:List CQ):List CQ:=dp (df f p q)
theorem jt (f:CQ→CQ→CQ) (p q:List CQ):(df f p q).length=max p.length q.length:=by simp[df]
theorem xg {G:FuncId}{f:CQ→CQ→CQ} (hG:GAt G f) (hF:zK f) (va vb:Value) (p q:List CQ) (w:World) (ha:IsP w va p) (hb:IsP w vb q) (hsp:SzL 2000 p) (hsq:SzL 2000 q) (hlp:p.length<1000000) (hlq:q.length<1000000) :
  Calls Tryz.prog 268 #[va,vb,.func (.func G) #[] #[]] w fun e w'=>∃ v',e=.returned v'∧IsP w' v' (dZ f p q)∧Below w.heap.size w w':=by
 obtain⟨pa,ca,rfl,-⟩:=id ha.form
 obtain⟨pb,cb,rfl,-⟩:=id hb.form
 have EN:=hG.en
 have HA:=Ff ha
 have HB:=Ff hb
 clear ha hb
 have HML:=jt f p q
 have HMT:=fun i h=>qU f p q (i:=i) h
 obtain⟨n,hn⟩:∃ n,n=max p.length q.length:=⟨_,rfl⟩
 have hn6:n<1000000:=by omega
 have hmax:max (p.length:Int) (q.length:Int)=(n:Int):=by rw[hn];omega
 rw[←hn] at HML HMT
 have HML:=Ff HML
 have HMT:=Ff HMT
 clear hn
 go_enter Tryz.func268,Tryz.ntmps268
 go_wp2
 clear hmax
 go_loopw [7,14] (fun s7 s14 wr=>∃ i:Nat,s14=.int .i64 i∧i≤n∧dK wr w.heap.size s7 ((df f p q).take i)∧Below w.heap.size w wr) (fun _ s14 _=>n-(intOf s14).toNat)
 case atStart=>exact⟨0,rfl,Fy _,dK.nil _ _,Below.refl _ _⟩
 case round =>
  obtain⟨i,rfl,hin,hown,hbr⟩:=hrel
  by_cases hi:i<n
  ·have HT:=Ff (HMT.out i hi)
   have hi6:i<1000000:=by omega
   have HV:=Ff hown
   clear hown
   go_wp2_with fail
   refine (DD _ p i wr (HA.out.below hbr) hi6 hlp).mono ?_
   rintro e w1 ⟨v1,rfl,hk1,hb1⟩
   have hB1:=hbr.trans (hb1.mono hbr.size)
   go_wp2_with fail
   refine (DD _ q i w1 (HB.out.below hB1) hi6 hlq).mono ?_
   rintro e w2 ⟨v2,rfl,hk2,hb2⟩
   have hB2:=hB1.trans (hb2.mono hB1.size)
   go_wp2_with fail
   refine (hG.on _ _ _ _ w2 (hk1.below hb2) hk2).mono ?_
   rintro e w3 ⟨v3,rfl,hv3,hb3⟩
   have hB3:=hB2.trans (hb3.mono hB2.size)
   have hk3:IsK w3 v3 (f (gN p i) (gN q i)):=⟨hv3,hF.on _ _ (hsp.item (by decide) i) (hsq.item (by decide) i)⟩
   have hw3:=((HV.out.below hb1).below hb2).below hb3
   obtain⟨xm,xp,xl,xc,xq,xk,xd,ym,yp,yl,yc,yq,yk,yd,rfl⟩:=hk3.forms
   have hbs:=hB3.size
   have hzl:((df f p q).take i).length<1000000000:=by rw[FN,HML.out];omega
   clear hb1 hb2 hb3 hB1 hB2 hbr hv3 hk1 hk2 HV
   go_wp2_with (at_builtin;refine eD 123 Tryz.underlying123 rfl (.tmp 17) (.tmp 26) rfl w.heap.size _ _ _ _ _ _ _ _ _ rfl hw3 hk3 rfl hzl hbs ?_)
   intro v' w4 hw4 hb4 _
   have hB4:=hb4 _ _ hB3 (Fm _)
   rw[←HT.out] at hw4
   clear hw3 hb4 hB3
   go_wp2
   go_roundw
   case rel=>exact⟨i+1,by go_num,by omega,hw4,hB4⟩
   case measure=>(first | (simp[intOf];done) | (simp[intOf];omega))
  ·have hin':i=n:=by omega
   subst hin'
   have hw:=hown
   rw[show (df f p q).take i=df f p q from Fu (by rw[HML.out];exact Fm _)] at hw
   have hml:(df f p q).length<1000000:=by rw[HML.out];exact hn6
   have HW:=Ff hw.isP
   clear hown hi hw
   go_wp2_with fail
   refine (pK _ _ wr HW.out hml).mono ?_
   rintro e w1 ⟨v1,rfl,hv1,hb1⟩
   go_wp2
   go_ret
   exact⟨_,rfl,hv1,hbr.trans (hb1.mono hbr.size)⟩
def bS (f:CQ→CQ→CQ) (a b:List ByteArray):List ByteArray×Int:=match fV a b with
 | .error e=>([],e)
 | .ok z=>if iz (dZ f z.1 z.2)=true then (f9 (dZ f z.1 z.2),0) else ([],11)
theorem Bf (va vb:Value) (a b:List ByteArray) (w:World) (ha:IsS w va a) (hb:IsS w vb b) (hG:Gw w) :
  Calls Tryz.prog 239 #[va,vb] w fun e w'=>∃ v',e=.returned (.tuple #[v',.int .i64 (bS CQ.add a b).2])∧IsS w' v' (bS CQ.add a b).1∧Below w.heap.size w w':=by
 have HP:=Ff (Bh va vb a b w ha hb hG)
 have HG:=Ff hG
 clear ha hb hG
 go_enter Tryz.func239,Tryz.ntmps239
 go_wp2_with fail
 refine HP.out.mono ?_
 rintro e w1 ⟨u,v,x,rfl,hr,hb1⟩
 cases hpc:fV a b with
 | error ea =>
  rw[hpc] at hr
  obtain⟨rfl,hx,rfl,rfl⟩:=hr
  have HE:=Ff (show bS CQ.add a b=([],x) by unfold bS;rw[hpc])
  have hd:decide (x=0)=false:=decide_eq_false hx
  clear hpc HP
  go_wp2
  refine bodyPost_ret (v:=.tuple #[.slice none 0 0,.int .i64 x]) (by simp[results,Tryz.results239,go_sem]) rfl ⟨_,by rw[HE.out],by rw[HE.out];exact (cL.nil w1 0).isS,hb1⟩
 | ok z =>
  rw[hpc] at hr
  obtain⟨p,q⟩:=z
  obtain⟨rfl,hu,hv⟩:=hr
  obtain⟨hp1,hp2⟩:=p_ hpc
  have s1:=jA hp1;have s2:=jA hp2
  have l1:=jX hp1;have l2:=jX hp2
  simp only at hu hv s1 s2 l1 l2
  have hml:(dZ CQ.add p q).length<1000000:=by
   have h1:=jS (df CQ.add p q)
   rw[jt] at h1
   unfold dZ
   omega
  have HE:=Ff (show bS CQ.add a b=if iz (dZ CQ.add p q)=true then (f9 (dZ CQ.add p q),0) else ([],11) by unfold bS;rw[hpc])
  have HM:=Ff (xg DJ AE u v p q w1 hu hv s1 s2 (by omega) (by omega))
  clear hpc HP hp1 hp2 s1 s2 l1 l2 hu hv
  go_wp2_with fail
  refine HM.out.mono ?_
  rintro e w2 ⟨v2,rfl,hv2,hb2⟩
  have hB2:=hb1.trans (hb2.mono hb1.size)
  clear HM
  go_wp2_with fail
  refine (DK v2 _ w2 hv2 hml (HG.out.below hB2)).mono ?_
  rintro e w3 ⟨v3,x,rfl,hc,hb3⟩
  have hB3:=hB2.trans (hb3.mono hB2.size)
  rcases hc with ⟨h1,rfl,h3⟩ | ⟨h1,rfl,rfl⟩
  ·have HE:=Ff (show bS CQ.add a b=(f9 (dZ CQ.add p q),0) by rw[HE.out,if_pos h1])
   clear h1 hml
   go_wp2
   refine bodyPost_ret (v:=.tuple #[v3,.int .i64 0]) (by simp[results,Tryz.results239,go_sem]) rfl ⟨_,by rw[HE.out],by rw[HE.out];exact h3.isS,hB3⟩
  ·have HE:=Ff (show bS CQ.add a b=([],11) by rw[HE.out,if_neg (by rw[h1];decide)])
   clear h1 hml
   go_wp2
   refine bodyPost_ret (v:=.tuple #[.slice none 0 0,.int .i64 11]) (by simp[results,Tryz.results239,go_sem]) rfl ⟨_,by rw[HE.out],by rw[HE.out];exact (cL.nil w3 0).isS,hB3⟩
theorem Bg (va vb:Value) (a b:List ByteArray) (w:World) (ha:IsS w va a) (hb:IsS w vb b) (hG:Gw w) :
  Calls Tryz.prog 240 #[va,vb] w fun e w'=>∃ v',e=.returned (.tuple #[v',.int .i64 (bS CQ.sub a b).2])∧IsS w' v' (bS CQ.sub a b).1∧Below w.heap.size w w':=by
 have HP:=Ff (Bh va vb a b w ha hb hG)
 have HG:=Ff hG
 clear ha hb hG
 go_enter Tryz.func240,Tryz.ntmps240
 go_wp2_with fail
 refine HP.out.mono ?_
 rintro e w1 ⟨u,v,x,rfl,hr,hb1⟩
 cases hpc:fV a b with
 | error ea =>
  rw[hpc] at hr
  obtain⟨rfl,hx,rfl,rfl⟩:=hr
  have HE:=Ff (show bS CQ.sub a b=([],x) by unfold bS;rw[hpc])
  have hd:decide (x=0)=false:=decide_eq_false hx
  clear hpc HP
  go_wp2
  refine bodyPost_ret (v:=.tuple #[.slice none 0 0,.int .i64 x]) (by simp[results,Tryz.results240,go_sem]) rfl ⟨_,by rw[HE.out],by rw[HE.out];exact (cL.nil w1 0).isS,hb1⟩
 | ok z =>
  rw[hpc] at hr
  obtain⟨p,q⟩:=z
  obtain⟨rfl,hu,hv⟩:=hr
  obtain⟨hp1,hp2⟩:=p_ hpc
  have s1:=jA hp1;have s2:=jA hp2
  have l1:=jX hp1;have l2:=jX hp2
  simp only at hu hv s1 s2 l1 l2
  have hml:(dZ CQ.sub p q).length<1000000:=by
   have h1:=jS (df CQ.sub p q)
   rw[jt] at h1
   unfold dZ
   omega
  have HE:=Ff (show bS CQ.sub a b=if iz (dZ CQ.sub p q)=true then (f9 (dZ CQ.sub p q),0) else ([],11) by unfold bS;rw[hpc])
  have HM:=Ff (xg DF AF u v p q w1 hu hv s1 s2 (by omega) (by omega))
  clear hpc HP hp1 hp2 s1 s2 l1 l2 hu hv
  go_wp2_with fail
  refine HM.out.mono ?_
  rintro e w2 ⟨v2,rfl,hv2,hb2⟩
  have hB2:=hb1.trans (hb2.mono hb1.size)
  clear HM
  go_wp2_with fail
  refine (DK v2 _ w2 hv2 hml (HG.out.below hB2)).mono ?_
  rintro e w3 ⟨v3,x,rfl,hc,hb3⟩
  have hB3:=hB2.trans (hb3.mono hB2.size)
  rcases hc with ⟨h1,rfl,h3⟩ | ⟨h1,rfl,rfl⟩
  ·have HE:=Ff (show bS CQ.sub a b=(f9 (dZ CQ.sub p q),0) by rw[HE.out,if_pos h1])
   clear h1 hml
   go_wp2
   refine bodyPost_ret (v:=.tuple #[v3,.int .i64 0]) (by simp[results,Tryz.results240,go_sem]) rfl ⟨_,by rw[HE.out],by rw[HE.out];exact h3.isS,hB3⟩
  ·have HE:=Ff (show bS CQ.sub a b=([],11) by rw[HE.out,if_neg (by rw[h1];decide)])
   clear h1 hml
   go_wp2
   refine bodyPost_ret (v:=.tuple #[.slice none 0 0,.int .i64 11]) (by simp[results,Tryz.results240,go_sem]) rfl ⟨_,by rw[HE.out],by rw[HE.out];exact (cL.nil w3 0).isS,hB3⟩
def dA (zs:List CQ) (x:CQ):List CQ:=zs.map fun z=>z.mul x
def rB (zs:List CQ) (x:CQ):List CQ:=dp (dA zs x)
theorem rC (zs:List CQ) (x:CQ) {i:Nat} (h:i<zs.length):(dA zs x).take (i+1)=(dA zs x).take i++[zs[i].mul x]:=by
 have hl:i<(dA zs x).length:=by simp[dA,h]
 rw[show (dA zs x).take (i+1)=(dA zs x).take i++[(dA zs x)[i]] from (Fz hl).symm]
 simp[dA]
theorem tM (zs:List CQ) (x:CQ):(dA zs x).length=zs.length:=by simp[dA]
theorem xy (vp vx:Value) (zs:List CQ) (x:CQ) (w:World) (hp:IsP w vp zs) (hx:IsK w vx x) (hfit:∀ z∈zs,SzV 10000 (ct (z.mul x))) (hlen:zs.length<1000000) :
  Calls Tryz.prog 245 #[vp,vx] w fun e w'=>∃ v',e=.returned v'∧IsP w' v' (rB zs x)∧Below w.heap.size w w':=by
 obtain⟨p,c,rfl,-⟩:=id hp.form
 obtain⟨ga,gb,gc,gd,ge,gf,rfl,-,-⟩:=id hx.v
 have HML:=Ff (tM zs x)
 have HMT:=Ff (fun i h=>rC zs x (i:=i) h)
 have HFIT:=Ff hfit
 clear hfit
 go_enter Tryz.func245,Tryz.ntmps245
 go_upto_region 1 with fail
 have q1:=bW.new w ga gb gc gd ge gf 153
 have m1:=aj w (.cells #[ga,gb,gc,gd,ge,gf] 153)
 have z1:=size_alloc w (.cells #[ga,gb,gc,gd,ge,gf] 153)
 generalize w.alloc (.cells #[ga,gb,gc,gd,ge,gf] 153)=w1 at *
 have Q1:=Ff q1
 have HP:=Ff (hp.below m1)
 have HX:=Ff (hx.below m1)
 have M1:=Ff m1
 have hs1:w1.heap.size=w.heap.size+1:=z1
 have hle1:w.heap.size≤w1.heap.size:=by omega
 clear q1 hp hx m1 z1 hs1
 go_wp2
 go_loopw [5,10] (fun s5 s10 wr=>∃ i:Nat,s10=.int .i64 i∧i≤zs.length∧dK wr w1.heap.size s5 ((dA zs x).take i)∧Below w1.heap.size w1 wr) (fun _ s10 _=>zs.length-(intOf s10).toNat)
 case atStart=>exact⟨0,rfl,Fy _,dK.nil _ _,Below.refl _ _⟩
 case round =>
  obtain⟨i,rfl,hin,hown,hbr⟩:=hrel
  by_cases hi:i<zs.length
  ·obtain⟨B,o,rfl,hlt,xm,xp,xl,xc,xq,xk,xd,ym,yp,yl,yc,yq,yk,yd,hk,a0,a1,a2,a3,a4,a5⟩:=(HP.out.below hbr).get hi
   have HT:=Ff (HMT.out i hi)
   have HZ:=Ff (HFIT.out zs[i] (FJ hi))
   generalize zs[i]=z at hk HT HZ
   have HV:=Ff hown
   have HK:=Ff hk
   clear hown hk
   go_upto_region 5 with fail
   have q2:=bW.new wr (.bool xm) (.slice xp xl xc) (.slice xq xk xd) (.bool ym) (.slice yp yl yc) (.slice yq yk yd) 153
   have m2:=aj wr (.cells #[.bool xm,.slice xp xl xc,.slice xq xk xd,.bool ym,.slice yp yl yc,.slice yq yk yd] 153)
   generalize wr.alloc (.cells #[.bool xm,.slice xp xl xc,.slice xq xk xd,.bool ym,.slice yp yl yc,.slice yq yk yd] 153)=w2 at *
   have b0:=q2.c0;have b1:=q2.c1;have b2:=q2.c2;have b3:=q2.c3;have b4:=q2.c4;have b5:=q2.c5
   have hB2:=hbr.trans (m2.mono hbr.size)
   have q1:=Q1.out.below hB2
   have a0:=q1.c0;have a1:=q1.c1;have a2:=q1.c2;have a3:=q1.c3;have a4:=q1.c4;have a5:=q1.c5
   have HKx:=Ff (HX.out.below hB2)
   have HKz:=Ff (HK.out.below m2)
   have HV2:=Ff (HV.out.below m2)
   clear q1 q2 m2 hbr HV HK
   go_wp2_with fail
   refine (iZ _ _ _ _ _ HKz.out.v HKx.out.v (HKz.out.s.fewV HKx.out.s (by decide))).mono ?_
   rintro e w3 ⟨v3,rfl,hv3,hb3⟩
   rw[cY] at hv3
   have hk3:IsK w3 v3 (z.mul x):=⟨hv3,HZ.out⟩
   have hB3:=hB2.trans (hb3.mono hB2.size)
   have hw3:=HV2.out.below hb3
   obtain⟨sm,sp,sl,sc,sq,sk,sd,tm,tp,tl,tc,tq',tk,td,rfl⟩:=hk3.forms
   have hbs:=hB3.size
   have hzl:((dA zs x).take i).length<1000000000:=by rw[FN,HML.out];omega
   clear hb3 hB2 hv3 HKx HKz HV2 a0 a1 a2 a3 a4 a5 b0 b1 b2 b3 b4 b5
   go_wp2_with (at_builtin;refine eD 123 Tryz.underlying123 rfl (.tmp 14) (.tmp 18) rfl w1.heap.size _ _ _ _ _ _ _ _ _ rfl hw3 hk3 rfl hzl hbs ?_)
   intro v' w4 hw4 hb4 _
   have hB4:=hb4 _ _ hB3 (Fm _)
   rw[←HT.out] at hw4
   clear hw3 hb4 hB3 hk3
   go_wp2
   go_roundw
   case rel=>exact⟨i+1,by go_num,by omega,hw4,hB4⟩
   case measure=>(first | (simp[intOf];done) | (simp[intOf];omega))
  ·have hin':i=zs.length:=by omega
   subst hin'
   have hw:=hown
   rw[show (dA zs x).take zs.length=dA zs x from Fu (by rw[HML.out];exact Fm _)] at hw
   have hml:(dA zs x).length<1000000:=by rw[HML.out];exact hlen
   have HW:=Ff hw.isP
   clear hown hi hw
   go_wp2_with fail
   refine (pK _ _ wr HW.out hml).mono ?_
   rintro e w4 ⟨v1,rfl,hv1,hb1⟩
   go_wp2
   go_ret
   exact⟨_,rfl,hv1,M1.out.trans ((hbr.trans (hb1.mono hbr.size)).mono hle1)⟩
def kO (x:CQ) (zs:List CQ) (j:Nat):CQ:=(zs.drop j).foldr (fun z acc=>(acc.mul x).add z) ⟨0,0⟩
theorem yG (x:CQ) (zs:List CQ):kO x zs zs.length=⟨0,0⟩:=by unfold kO;rw[In];rfl
theorem uR (x:CQ) {zs:List CQ}{j:Nat} (h:j<zs.length):kO x zs j=((kO x zs (j+1)).mul x).add zs[j]:=by
 unfold kO
 rw[Gf h];rfl
def atL (zs:List CQ) (x:CQ):CQ:=kO x zs 0
def nH:Nat→Nat
 | 0=>1
 | n+1=>2*(nH n+2000)+1+2000+1
theorem AJ {n:Nat} (h:n≤7):nH n≤764000:=by
 have:∀ m≤7,nH m≤764000:=by decide
 exact this n h
theorem yH {n:Nat} (h:n<7):2*(nH n+2000)+1+2000+1≤764000:=AJ (n:=n+1) h
theorem IsV.parts {w:World}{a b c d e f:Value}{u:Vl} (h:IsV w (.agg #[a,b,c,d,e,f]) u):IsR w (.agg #[a,b,c]) u.x∧IsR w (.agg #[d,e,f]) u.y:=by
 obtain⟨x1,x2,x3,y1,y2,y3,he,hx,hy⟩:=h
 obtain⟨rfl,rfl,rfl,rfl,rfl,rfl⟩:a=x1∧b=x2∧c=x3∧d=y1∧e=y2∧f=y3:=by simpa using he
 exact⟨hx,hy⟩
theorem atN (vp vx:Value) (zs:List CQ) (x:CQ) (w:World) (hp:IsP w vp zs) (hx:IsV w vx (ct x)) (hs:SzL 2000 zs) (hsx:SzV 2000 (ct x)) (hlen:zs.length≤7) :
  Calls Tryz.prog 115 #[vp,vx] w fun e w'=>∃ v',e=.returned v'∧IsV w' v' (ct (atL zs x))∧Below w.heap.size w w':=by
 obtain⟨p,c,rfl,-⟩:=id hp.form
 obtain⟨a,b,c',d,e,f,rfl,hax,hay⟩:=id hx
 go_enter Tryz.func115,Tryz.ntmps115
 go_upto_region 1 with fail
 have q1:=bW.new w a b c' d e f 153
 have m1:=aj w (.cells #[a,b,c',d,e,f] 153)
 have z1:=size_alloc w (.cells #[a,b,c',d,e,f] 153)
 generalize w.alloc (.cells #[a,b,c',d,e,f] 153)=w1 at *
 have q3:=cS.new w1 (.bool false) (.slice none 0 0) (.slice none 0 0) (.bool false) (.slice none 0 0) (.slice none 0 0) (by intro z e;cases e) (by intro z e;cases e) (by intro z e;cases e) (by intro z e;cases e) (by intro z e;cases e) (by intro z e;cases e)
 have m3:=aj w1 (.cells #[.bool false,.slice none 0 0,.slice none 0 0,.bool false,.slice none 0 0,.slice none 0 0] 153)
 generalize w1.alloc (.cells #[.bool false,.slice none 0 0,.slice none 0 0,.bool false,.slice none 0 0,.slice none 0 0] 153)=w3 at *
 rw[z1] at q3
 have q1:=q1.below m3
 have MD:=Ff (m1.trans (m3.mono m1.size))
 have B3:=Ff q3
 have Q1:=Ff q1
 have HX:=Ff (hx.below MD.out)
 have HP:=Ff (hp.below MD.out)
 clear q1 q3 m1 m3 z1 hax hay hx hp
 go_wp2_with fail
 refine (jI 0 w3 (by decide) (by decide)).mono ?_
 rintro e w4 ⟨v4,rfl,hv4,hb4⟩
 go_wp2_with fail
 refine (e_ _ _ _ hv4).mono ?_
 rintro e w5 ⟨v5,rfl,hv5,hb5⟩
 have hB5:=hb4.trans (hb5.mono hb4.size)
 have hv5:IsV w5 v5 (ct (CQ.real 0)):=by rw[←dG];exact hv5
 have hgB:w.heap.size+2≤w5.heap.size:=by have:=B3.out.lt;have:=hB5.size;have:=MD.out.size;omega
 obtain⟨x1,x2,x3,y1,y2,y3,rfl,hx5,hy5⟩:=hv5
 obtain⟨xm,xp,xl,xc,xq,xk,xd,hxe⟩:=hx5.form
 obtain⟨ym,yp,yl,yc,yq,yk,yd,hye⟩:=hy5.form
 obtain⟨rfl,rfl,rfl⟩:=eE hxe
 obtain⟨rfl,rfl,rfl⟩:=eE hye
 go_upto_region 2 with fail
 have B8:=cS.new w5 (.bool xm) (.slice xp xl xc) (.slice xq xk xd) (.bool ym) (.slice yp yl yc) (.slice yq yk yd) (by intro z e;cases e) (by intro z e;cases e) (by intro z e;cases e) (by intro z e;cases e) (by intro z e;cases e) (by intro z e;cases e)
 have m5:=aj w5 (.cells #[.bool xm,.slice xp xl xc,.slice xq xk xd,.bool ym,.slice yp yl yc,.slice yq yk yd] 153)
 generalize w5.alloc (.cells #[.bool xm,.slice xp xl xc,.slice xq xk xd,.bool ym,.slice yp yl yc,.slice yq yk yd] 153)=wl at *
 generalize hg:w5.heap.size=gB at B8 hgB m5
 have hvl:IsV wl (.agg #[.bool xm,.slice xp xl xc,.slice xq xk xd,.bool ym,.slice yp yl yc,.slice yq yk yd]) (ct (CQ.real 0)):=⟨_,_,_,_,_,_,rfl,by rw[←hg] at m5;exact hx5.below m5,by rw[←hg] at m5;exact hy5.below m5⟩
 have hs3:w3.heap.size≤gB:=by rw[←hg];exact hB5.size
 have hBl:Below w3.heap.size w3 wl:=hB5.trans (m5.mono hs3)
 clear hx5 hy5 hb4 hb5 hg hB5
 have HZ:kO x zs zs.length=CQ.real 0:=yG x zs
 have HB8:=Ff B8
 have HV8:=Ff hvl
 have HBl:=Ff hBl
 clear B8 hvl hBl m5
 go_wp2
 go_loopw [6] (fun s6 wr=>∃ (j:Nat) (z:Int) (xm:Bool) (xp:Option Addr) (xl xc:Nat) (xq:Option Addr) (xk xd:Nat) (ym:Bool) (yp:Option Addr) (yl yc:Nat) (yq:Option Addr) (yk yd:Nat),s6=.int .i64 z∧z=(j:Int)-1∧j≤zs.length∧cS wr gB (.bool xm) (.slice xp xl xc) (.slice xq xk xd) (.bool ym) (.slice yp yl yc) (.slice yq yk yd)∧IsV wr (.agg #[.bool xm,.slice xp xl xc,.slice xq xk xd,.bool ym,.slice yp yl yc,.slice yq yk yd]) (ct (kO x zs j))∧Below gB wl wr∧Hid (SzV (nH (zs.length-j)) (ct (kO x zs j)))) (fun s6 _=>(intOf s6+1).toNat)
 case atStart=>exact⟨zs.length,_,_,_,_,_,_,_,_,_,_,_,_,_,_,_,rfl,rfl,Fm _,HB8.out,by rw[HZ];exact HV8.out,Below.refl _ _,by unfold Hid;rw[HZ,G8];exact⟨.zero (by decide),.zero (by decide)⟩⟩
 case round =>
  obtain⟨j,z,xm,xp,xl,xc,xq,xk,xd,ym,yp,yl,yc,yq,yk,yd,rfl,hz,hj,hown,hv,hbr,hsz⟩:=hrel
  have HB3r:=Ff (HBl.out.trans (hbr.mono hs3))
  by_cases h0:j=0
  ·subst h0
   obtain rfl:z=-1:=by omega
   obtain⟨hx,hy⟩:=hv.parts
   have B8:=B3.out.below HB3r.out
   have k0:=B8.cell 0;have k1:=B8.cell 1;have k2:=B8.cell 2;have k3:=B8.cell 3;have k4:=B8.cell 4;have k5:=B8.cell 5
   have f0:=B8.fr 0;have f1:=B8.fr 1;have f2:=B8.fr 2;have f3:=B8.fr 3;have f4:=B8.fr 4;have f5:=B8.fr 5
   have o0:=hown.cell 0;have o1:=hown.cell 1;have o2:=hown.cell 2;have o3:=hown.cell 3;have o4:=hown.cell 4;have o5:=hown.cell 5
   have P:=Ff (B8.putV hx hy)
   have M8:=Ff (P.out.2.2 _ _ (MD.out.trans (HB3r.out.mono MD.out.size)) (by omega))
   clear hx hy B8 hown hv HB8 HV8 hsz hz
   go_wp2_with fail
   have q0:=P.out.1.cell 0;have q1:=P.out.1.cell 1;have q2:=P.out.1.cell 2;have q3:=P.out.1.cell 3;have q4:=P.out.1.cell 4;have q5:=P.out.1.cell 5
   refine bodyPost_ret (v:=.agg #[.bool xm,.slice xp xl xc,.slice xq xk xd,.bool ym,.slice yp yl yc,.slice yq yk yd]) (by simp[results,Tryz.results115,go_sem,d_] at q0 q1 q2 q3 q4 q5 ⊢;simp[results,Tryz.results115,go_sem,q0,q1,q2,q3,q4,q5]) rfl ⟨_,rfl,P.out.2.1,M8.out⟩
  ·obtain⟨k,rfl⟩:∃ k,j=k+1:=⟨j-1,by omega⟩
   obtain rfl:z=(k:Int):=by omega
   have hk:k<zs.length:=by omega
   clear HB8 HV8 hz h0
   obtain⟨Br,o,rfl,hlt,pm,pp,pl,pc,pq,pk,pd,rm,rp,rl,rc,rq,rk,rd,hkk,a0,a1,a2,a3,a4,a5⟩:=HP.out.get hk
   have hstep:=uR x hk
   have hzk:=hs _ (FJ hk)
   generalize zs[k]=zk at hkk hstep hzk
   have hS6:=yH (n:=zs.length-(k+1)) (by omega)
   have hSn:nH (zs.length-k)=2*(nH (zs.length-(k+1))+2000)+1+2000+1:=by rw[show zs.length-k=zs.length-(k+1)+1 from by omega];rfl
   have F1:=Ff (hsz.out.fewV hsx (by omega))
   have hz1:=hsz.out.times hsx
   rw[cY] at hz1
   have F2:=Ff (And.intro (hz1.x.fewR hzk.x (by omega)) (hz1.y.fewR hzk.y (by omega)))
   have hz2:=hz1.plus hzk
   rw[fO,←hstep,←hSn] at hz2
   have HZ2:=Ff hz2
   have HST:=Ff hstep
   have hgr:gB<wr.heap.size:=hown.lt
   clear hz1 hz2 hstep hS6 hSn hzk hsz
   go_upto_region 5 with fail
   have m4:Below wr.heap.size wr wr.drew:=(Below.refl _ _).drew
   refine aw (fun w'=>∃ x:aC gB wr.drew,w'=x.w) (fun i=>i == 0||i == 2||i == 7||i == 8) (by kernel_rfl) (by kernel_rfl) ⟨⟨_,Below.refl _ _⟩,rfl⟩ ?_
   generalize wr.drew=wd at *
   have hB0:Below wd.heap.size wd wd:=Below.refl _ _
   have hz:gB≤wd.heap.size:=by have:=m4.size;omega
   have HB3d:=HB3r.out.trans (m4.mono HB3r.out.size)
   have e1:=fun x:aC gB wd=>(Q1.out.below HB3d).at x.h (by omega)
   have b0:=fun x=>(e1 x).c0;have b01:=fun x=>(e1 x).c1;have b02:=fun x=>(e1 x).c2;have b03:=fun x=>(e1 x).c3;have b04:=fun x=>(e1 x).c4;have b05:=fun x=>(e1 x).c5
   have r0:=fun x:aC gB wd=>(x.h.cell (p:=⟨Br,o+k*6,none⟩) (by show Br<gB;omega)).trans ((HB3d.cell (p:=⟨Br,o+k*6,none⟩) hlt).trans a0)
   have r1:=fun x:aC gB wd=>(x.h.cell (p:=⟨Br,o+k*6+1,none⟩) (by show Br<gB;omega)).trans ((HB3d.cell (p:=⟨Br,o+k*6+1,none⟩) hlt).trans a1)
   have r2:=fun x:aC gB wd=>(x.h.cell (p:=⟨Br,o+k*6+2,none⟩) (by show Br<gB;omega)).trans ((HB3d.cell (p:=⟨Br,o+k*6+2,none⟩) hlt).trans a2)
   have r3:=fun x:aC gB wd=>(x.h.cell (p:=⟨Br,o+k*6+3,none⟩) (by show Br<gB;omega)).trans ((HB3d.cell (p:=⟨Br,o+k*6+3,none⟩) hlt).trans a3)
   have r4:=fun x:aC gB wd=>(x.h.cell (p:=⟨Br,o+k*6+4,none⟩) (by show Br<gB;omega)).trans ((HB3d.cell (p:=⟨Br,o+k*6+4,none⟩) hlt).trans a4)
   have r5:=fun x:aC gB wd=>(x.h.cell (p:=⟨Br,o+k*6+5,none⟩) (by show Br<gB;omega)).trans ((HB3d.cell (p:=⟨Br,o+k*6+5,none⟩) hlt).trans a5)
   have Q:=Ff (hown.below m4)
   have o0:=Q.out.cell 0;have o1:=Q.out.cell 1;have o2:=Q.out.cell 2;have o3:=Q.out.cell 3;have o4:=Q.out.cell 4;have o5:=Q.out.cell 5
   have HVd:=Ff (hv.below m4)
   have HXd:=Ff (HX.out.below HB3d)
   have HKd:=Ff (hkk.v.below HB3d)
   have HBw:=Ff (hbr.trans (m4.mono (GI hgr)))
   clear e1 hown hv hkk hbr a0 a1 a2 a3 a4 a5 HB3d m4 HP HX
   refine ap rfl rfl (fun K hK=>?_)
   go_simp
   refine hK _ _ ⟨⟨_,(hB0).mono hz⟩,rfl⟩ ?_
   clear hK K
   try simp only[Act.put,Fj,Fi,Fh,Fg,Fk,Fl]
   refine ak 1 1 _ _ _ (by kernel_rfl) ?_
   simp only[Fp,Ft,Fq,Fr]
   repeat (go_big_quiet_step (fail))
   refine wpQuiet_nil ?_
   refine ap rfl rfl (fun K hK=>?_)
   go_simp
   refine (iZ _ _ _ _ _ HVd.out HXd.out F1.out).mono ?_
   rintro e w6 ⟨v6,rfl,hv6,hb6⟩
   rw[cY] at hv6
   refine hK _ _ ⟨⟨_,(hb6).mono hz⟩,rfl⟩ ?_
   clear hK K
   try simp only[Act.put,Fj,Fi,Fh,Fg,Fk,Fl]
   refine ak 4 3 _ _ _ (by kernel_rfl) ?_
   simp only[Fp,Ft,Fq,Fr]
   repeat (go_big_quiet_step (fail))
   refine wpQuiet_nil ?_
   refine ap rfl rfl (fun K hK=>?_)
   go_simp
   refine (vy _ _ _ _ _ hv6 (HKd.out.below hb6) F2.out.1 F2.out.2).mono ?_
   rintro e w7 ⟨v7,rfl,hv7,hb7⟩
   have hB7:=hb6.trans (hb7.mono hb6.size)
   rw[fO,←HST.out] at hv7
   refine hK _ _ ⟨⟨_,(hB7).mono hz⟩,rfl⟩ ?_
   clear hK K
   try simp only[Act.put,Fj,Fi,Fh,Fg,Fk,Fl]
   obtain⟨x1,x2,x3,y1,y2,y3,rfl,hx,hy⟩:=hv7
   obtain⟨sm,sp,sl,sc,sq,sk,sd,hxe⟩:=hx.form
   obtain⟨tm,tp,tl,tc,tq,tk,td,hye⟩:=hy.form
   obtain⟨rfl,rfl,rfl⟩:=eE hxe
   obtain⟨rfl,rfl,rfl⟩:=eE hye
   have B8:=Q.out.below hB7
   have k0:=B8.cell 0;have k1:=B8.cell 1;have k2:=B8.cell 2;have k3:=B8.cell 3;have k4:=B8.cell 4;have k5:=B8.cell 5
   have f0:=B8.fr 0;have f1:=B8.fr 1;have f2:=B8.fr 2;have f3:=B8.fr 3;have f4:=B8.fr 4;have f5:=B8.fr 5
   have P:=Ff (B8.putV hx hy)
   refine ap rfl rfl (fun K hK=>?_)
   go_simp
   refine hK undef _ ⟨⟨_,P.out.2.2 _ _ (hB7.mono hz) (Fm _)⟩,rfl⟩ ?_
   clear hK K
   try simp only[Act.put,Fj,Fi,Fh,Fg,Fk,Fl]
   refine aI ?_
   have M8:=Ff (P.out.2.2 gB wl (HBw.out.trans (hB7.mono hz)) (Fm _))
   clear hx hy hxe hye B8 k0 k1 k2 k3 k4 k5 f0 f1 f2 f3 f4 f5 o0 o1 o2 o3 o4 o5 hv6 hb6 hb7 hB0 r0 r1 r2 r3 r4 r5 b0 b01 b02 b03 b04 b05
   go_wp2
   go_roundw
   case rel=>exact⟨k,_,_,_,_,_,_,_,_,_,_,_,_,_,_,_,rfl,by go_num,by omega,P.out.1,P.out.2.1,M8.out,HZ2.out⟩
   case measure=>(first | (simp[intOf];done) | (simp[intOf];omega))
end Go.Proofs.YtbnkpcfjechfiaaGreatDoor
