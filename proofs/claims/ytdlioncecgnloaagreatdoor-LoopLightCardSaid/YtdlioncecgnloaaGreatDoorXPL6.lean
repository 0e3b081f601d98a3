/- Lemmas of this claim. -/
import Derived.Test.YtdlioncecgnloaaGreatDoorXPL1
import Derived.Test.YtdlioncecgnloaaGreatDoorXRng2
set_option linter.all false
set_option maxRecDepth 100000
set_option maxHeartbeats 8000000
namespace Go.Proofs.YtdlioncecgnloaaGreatDoor
open Go.RowKit Dg
def SzL (k:Nat) (zs:List CQ):Prop:=∀ z∈zs,SzV k (ct z)
theorem vK {zs:List CQ}:∀ z∈ce zs,z∈zs:=by
 intro z hz
 unfold ce at hz
 rw[List.mem_reverse] at hz
 exact List.mem_reverse.1 ((List.dropWhile_sublist _).mem hz)
theorem SzL.lean {k:Nat}{zs:List CQ} (h:SzL k zs):SzL k (ce zs):=fun z hz=>h z (vK z hz)
theorem lx:∀ {l:List ByteArray}{zs:List CQ},dB l=some zs→SzL 2000 zs
 | [],zs,h=>by cases h;intro z hz;simp at hz
 | a :: l,zs,h=>by
  simp only[dB] at h
  cases ha:dM a with
  | none=>rw[ha] at h;cases h
  | some z =>
   cases hl:dB l with
   | none=>rw[ha,hl] at h;cases h
   | some ys =>
    rw[ha,hl] at h
    cases h
    intro y hy
    rcases CW.1 hy with rfl | hy
    ·exact (qC ha).2.2
    ·exact lx hl y hy
theorem ix {l:List ByteArray}{zs:List CQ} (h:cR l=.ok zs):SzL 2000 zs:=by
 unfold cR at h
 split at h
 ·cases h
 ·split at h
  ·rename_i ys hy
   cases h
   exact (lx hy).lean
  ·cases h
theorem nT {a b:List ByteArray}{z:List CQ×List CQ} (h:eN a b=.ok z):cR a=.ok z.1∧cR b=.ok z.2:=by
 unfold eN at h
 split at h
 ·cases h
 ·rename_i x hx
  split at h
  ·cases h
  ·rename_i y hy
   cases h
   exact⟨hx,hy⟩
theorem SzL.item {k:Nat}{zs:List CQ} (h:SzL k zs) (hk:1≤k) (i:Nat):SzV k (ct (fq zs i)):=by
 unfold fq
 split
 ·exact h _ (Cs _)
 ·exact⟨.zero hk,.zero hk⟩
structure wY (f:CQ→CQ→CQ):Prop where
 on:∀ a b,SzV 2000 (ct a)→SzV 2000 (ct b)→SzV 10000 (ct (f a b))
theorem xV:wY CQ.add:=⟨fun a b ha hb=>by rw[←dr];exact (ha.plus hb).mono (by decide)⟩
theorem xW:wY CQ.sub:=⟨fun a b ha hb=>by rw[←mc];exact (ha.plus hb.neg).mono (by decide)⟩
def bZ (f:CQ→CQ→CQ) (p q:List CQ):List CQ:=(List.range (max p.length q.length)).map fun i=>f (fq p i) (fq q i)
theorem ph (f:CQ→CQ→CQ) (p q:List CQ) {i:Nat} (h:i<max p.length q.length):(bZ f p q).take (i+1)=(bZ f p q).take i++[f (fq p i) (fq q i)]:=by
 have hl:i<(bZ f p q).length:=by simp[bZ];omega
 rw[show (bZ f p q).take (i+1)=(bZ f p q).take i++[(bZ f p q)[i]] from (Cl hl).symm]
 simp[bZ]
def da (f:CQ→CQ→CQ) (p q:List CQ):List CQ:=ce (bZ f p q)
theorem io (f:CQ→CQ→CQ) (p q:List CQ):(bZ f p q).length=max p.length q.length:=by simp[bZ]
theorem ur {G:FuncId}{f:CQ→CQ→CQ} (hG:GAt G f) (hF:wY f) (va vb:Value) (p q:List CQ) (w:World) (ha:IsP w va p) (hb:IsP w vb q) (hsp:SzL 2000 p) (hsq:SzL 2000 q) (hlp:p.length<1000000) (hlq:q.length<1000000) :
  Calls Tryz.prog 305 #[va,vb,.func (.func G) #[] #[]] w fun e w'=>∃ v',e=.returned v'∧IsP w' v' (da f p q)∧Below w.heap.size w w':=by
 obtain⟨pa,ca,rfl,-⟩:=id ha.form
 obtain⟨pb,cb,rfl,-⟩:=id hb.form
 have EN:=hG.en
 have HA:=BZ ha
 have HB:=BZ hb
 clear ha hb
 have HML:=io f p q
 have HMT:=fun i h=>ph f p q (i:=i) h
 obtain⟨n,hn⟩:∃ n,n=max p.length q.length:=⟨_,rfl⟩
 have hn6:n<1000000:=by omega
 have hmax:max (p.length:Int) (q.length:Int)=(n:Int):=by rw[hn];omega
 rw[←hn] at HML HMT
 have HML:=BZ HML
 have HMT:=BZ HMT
 clear hn
 go_enter Tryz.func305,Tryz.ntmps305
 go_wp2
 clear hmax
 go_loopw [7,14] (fun s7 s14 wr=>∃ i:Nat,s14=.int .i64 i∧i≤n∧cP wr w.heap.size s7 ((bZ f p q).take i)∧Below w.heap.size w wr) (fun _ s14 _=>n-(intOf s14).toNat)
 case atStart=>exact⟨0,rfl,Cp _,cP.nil _ _,Below.refl _ _⟩
 case round =>
  obtain⟨i,rfl,hin,hown,hbr⟩:=hrel
  by_cases hi:i<n
  ·have HT:=BZ (HMT.out i hi)
   have hi6:i<1000000:=by omega
   have HV:=BZ hown
   clear hown
   go_wp2_with fail
   refine (AG _ p i wr (HA.out.below hbr) hi6 hlp).mono ?_
   rintro e w1 ⟨v1,rfl,hk1,hb1⟩
   have hB1:=hbr.trans (hb1.mono hbr.size)
   go_wp2_with fail
   refine (AG _ q i w1 (HB.out.below hB1) hi6 hlq).mono ?_
   rintro e w2 ⟨v2,rfl,hk2,hb2⟩
   have hB2:=hB1.trans (hb2.mono hB1.size)
   go_wp2_with fail
   refine (hG.on _ _ _ _ w2 (hk1.below hb2) hk2).mono ?_
   rintro e w3 ⟨v3,rfl,hv3,hb3⟩
   have hB3:=hB2.trans (hb3.mono hB2.size)
   have hk3:IsK w3 v3 (f (fq p i) (fq q i)):=⟨hv3,hF.on _ _ (hsp.item (by decide) i) (hsq.item (by decide) i)⟩
   have hw3:=((HV.out.below hb1).below hb2).below hb3
   obtain⟨xm,xp,xl,xc,xq,xk,xd,ym,yp,yl,yc,yq,yk,yd,rfl⟩:=hk3.forms
   have hbs:=hB3.size
   have hzl:((bZ f p q).take i).length<1000000000:=by rw[Cw,HML.out];omega
   clear hb1 hb2 hb3 hB1 hB2 hbr hv3 hk1 hk2 HV
   go_wp2_with (at_builtin;refine dA 156 Tryz.underlying156 rfl (.tmp 17) (.tmp 26) rfl w.heap.size _ _ _ _ _ _ _ _ _ rfl hw3 hk3 rfl hzl hbs ?_)
   intro v' w4 hw4 hb4 _
   have hB4:=hb4 _ _ hB3 (Cd _)
   rw[←HT.out] at hw4
   clear hw3 hb4 hB3
   go_wp2
   go_roundw
   case rel=>exact⟨i+1,by go_num,by omega,hw4,hB4⟩
   case measure=>(first | (simp[intOf];done) | (simp[intOf];omega))
  ·have hin':i=n:=by omega
   subst hin'
   have hw:=hown
   rw[show (bZ f p q).take i=bZ f p q from Cn (by rw[HML.out];exact Cd _)] at hw
   have hml:(bZ f p q).length<1000000:=by rw[HML.out];exact hn6
   have HW:=BZ hw.isP
   clear hown hi hw
   go_wp2_with fail
   refine (nG _ _ wr HW.out hml).mono ?_
   rintro e w1 ⟨v1,rfl,hv1,hb1⟩
   go_wp2
   go_ret
   exact⟨_,rfl,hv1,hbr.trans (hb1.mono hbr.size)⟩
def bn (f:CQ→CQ→CQ) (a b:List ByteArray):List ByteArray×Int:=match eN a b with
 | .error e=>([],e)
 | .ok z=>if gj (da f z.1 z.2)=true then (eU (da f z.1 z.2),0) else ([],11)
theorem yH (va vb:Value) (a b:List ByteArray) (w:World) (ha:IsS w va a) (hb:IsS w vb b) (hG:Gw w) :
  Calls Tryz.prog 278 #[va,vb] w fun e w'=>∃ v',e=.returned (.tuple #[v',.int .i64 (bn CQ.add a b).2])∧IsS w' v' (bn CQ.add a b).1∧Below w.heap.size w w':=by
 have HP:=BZ (yJ va vb a b w ha hb hG)
 have HG:=BZ hG
 clear ha hb hG
 go_enter Tryz.func278,Tryz.ntmps278
 go_wp2_with fail
 refine HP.out.mono ?_
 rintro e w1 ⟨u,v,x,rfl,hr,hb1⟩
 cases hpc:eN a b with
 | error ea =>
  rw[hpc] at hr
  obtain⟨rfl,hx,rfl,rfl⟩:=hr
  have HE:=BZ (show bn CQ.add a b=([],x) by unfold bn;rw[hpc])
  have hd:decide (x=0)=false:=decide_eq_false hx
  clear hpc HP
  go_wp2
  refine bodyPost_ret (v:=.tuple #[.slice none 0 0,.int .i64 x]) (by simp[results,Tryz.results278,go_sem]) rfl ⟨_,by rw[HE.out],by rw[HE.out];exact (aZ.nil w1 0).isS,hb1⟩
 | ok z =>
  rw[hpc] at hr
  obtain⟨p,q⟩:=z
  obtain⟨rfl,hu,hv⟩:=hr
  obtain⟨hp1,hp2⟩:=nT hpc
  have s1:=ix hp1;have s2:=ix hp2
  have l1:=iT hp1;have l2:=iT hp2
  simp only at hu hv s1 s2 l1 l2
  have hml:(da CQ.add p q).length<1000000:=by
   have h1:=iN (bZ CQ.add p q)
   rw[io] at h1
   unfold da
   omega
  have HE:=BZ (show bn CQ.add a b=if gj (da CQ.add p q)=true then (eU (da CQ.add p q),0) else ([],11) by unfold bn;rw[hpc])
  have HM:=BZ (ur AO xV u v p q w1 hu hv s1 s2 (by omega) (by omega))
  clear hpc HP hp1 hp2 s1 s2 l1 l2 hu hv
  go_wp2_with fail
  refine HM.out.mono ?_
  rintro e w2 ⟨v2,rfl,hv2,hb2⟩
  have hB2:=hb1.trans (hb2.mono hb1.size)
  clear HM
  go_wp2_with fail
  refine (AP v2 _ w2 hv2 hml (HG.out.below hB2)).mono ?_
  rintro e w3 ⟨v3,x,rfl,hc,hb3⟩
  have hB3:=hB2.trans (hb3.mono hB2.size)
  rcases hc with ⟨h1,rfl,h3⟩ | ⟨h1,rfl,rfl⟩
  ·have HE:=BZ (show bn CQ.add a b=(eU (da CQ.add p q),0) by rw[HE.out,if_pos h1])
   clear h1 hml
   go_wp2
   refine bodyPost_ret (v:=.tuple #[v3,.int .i64 0]) (by simp[results,Tryz.results278,go_sem]) rfl ⟨_,by rw[HE.out],by rw[HE.out];exact h3.isS,hB3⟩
  ·have HE:=BZ (show bn CQ.add a b=([],11) by rw[HE.out,if_neg (by rw[h1];decide)])
   clear h1 hml
   go_wp2
   refine bodyPost_ret (v:=.tuple #[.slice none 0 0,.int .i64 11]) (by simp[results,Tryz.results278,go_sem]) rfl ⟨_,by rw[HE.out],by rw[HE.out];exact (aZ.nil w3 0).isS,hB3⟩
theorem yI (va vb:Value) (a b:List ByteArray) (w:World) (ha:IsS w va a) (hb:IsS w vb b) (hG:Gw w) :
  Calls Tryz.prog 279 #[va,vb] w fun e w'=>∃ v',e=.returned (.tuple #[v',.int .i64 (bn CQ.sub a b).2])∧IsS w' v' (bn CQ.sub a b).1∧Below w.heap.size w w':=by
 have HP:=BZ (yJ va vb a b w ha hb hG)
 have HG:=BZ hG
 clear ha hb hG
 go_enter Tryz.func279,Tryz.ntmps279
 go_wp2_with fail
 refine HP.out.mono ?_
 rintro e w1 ⟨u,v,x,rfl,hr,hb1⟩
 cases hpc:eN a b with
 | error ea =>
  rw[hpc] at hr
  obtain⟨rfl,hx,rfl,rfl⟩:=hr
  have HE:=BZ (show bn CQ.sub a b=([],x) by unfold bn;rw[hpc])
  have hd:decide (x=0)=false:=decide_eq_false hx
  clear hpc HP
  go_wp2
  refine bodyPost_ret (v:=.tuple #[.slice none 0 0,.int .i64 x]) (by simp[results,Tryz.results279,go_sem]) rfl ⟨_,by rw[HE.out],by rw[HE.out];exact (aZ.nil w1 0).isS,hb1⟩
 | ok z =>
  rw[hpc] at hr
  obtain⟨p,q⟩:=z
  obtain⟨rfl,hu,hv⟩:=hr
  obtain⟨hp1,hp2⟩:=nT hpc
  have s1:=ix hp1;have s2:=ix hp2
  have l1:=iT hp1;have l2:=iT hp2
  simp only at hu hv s1 s2 l1 l2
  have hml:(da CQ.sub p q).length<1000000:=by
   have h1:=iN (bZ CQ.sub p q)
   rw[io] at h1
   unfold da
   omega
  have HE:=BZ (show bn CQ.sub a b=if gj (da CQ.sub p q)=true then (eU (da CQ.sub p q),0) else ([],11) by unfold bn;rw[hpc])
  have HM:=BZ (ur AJ xW u v p q w1 hu hv s1 s2 (by omega) (by omega))
  clear hpc HP hp1 hp2 s1 s2 l1 l2 hu hv
  go_wp2_with fail
  refine HM.out.mono ?_
  rintro e w2 ⟨v2,rfl,hv2,hb2⟩
  have hB2:=hb1.trans (hb2.mono hb1.size)
  clear HM
  go_wp2_with fail
  refine (AP v2 _ w2 hv2 hml (HG.out.below hB2)).mono ?_
  rintro e w3 ⟨v3,x,rfl,hc,hb3⟩
  have hB3:=hB2.trans (hb3.mono hB2.size)
  rcases hc with ⟨h1,rfl,h3⟩ | ⟨h1,rfl,rfl⟩
  ·have HE:=BZ (show bn CQ.sub a b=(eU (da CQ.sub p q),0) by rw[HE.out,if_pos h1])
   clear h1 hml
   go_wp2
   refine bodyPost_ret (v:=.tuple #[v3,.int .i64 0]) (by simp[results,Tryz.results279,go_sem]) rfl ⟨_,by rw[HE.out],by rw[HE.out];exact h3.isS,hB3⟩
  ·have HE:=BZ (show bn CQ.sub a b=([],11) by rw[HE.out,if_neg (by rw[h1];decide)])
   clear h1 hml
   go_wp2
   refine bodyPost_ret (v:=.tuple #[.slice none 0 0,.int .i64 11]) (by simp[results,Tryz.results279,go_sem]) rfl ⟨_,by rw[HE.out],by rw[HE.out];exact (aZ.nil w3 0).isS,hB3⟩
def cC (zs:List CQ) (x:CQ):List CQ:=zs.map fun z=>z.mul x
def pI (zs:List CQ) (x:CQ):List CQ:=ce (cC zs x)
theorem pJ (zs:List CQ) (x:CQ) {i:Nat} (h:i<zs.length):(cC zs x).take (i+1)=(cC zs x).take i++[zs[i].mul x]:=by
 have hl:i<(cC zs x).length:=by simp[cC,h]
 rw[show (cC zs x).take (i+1)=(cC zs x).take i++[(cC zs x)[i]] from (Cl hl).symm]
 simp[cC]
theorem rH (zs:List CQ) (x:CQ):(cC zs x).length=zs.length:=by simp[cC]
theorem uF (vp vx:Value) (zs:List CQ) (x:CQ) (w:World) (hp:IsP w vp zs) (hx:IsK w vx x) (hfit:∀ z∈zs,SzV 10000 (ct (z.mul x))) (hlen:zs.length<1000000) :
  Calls Tryz.prog 284 #[vp,vx] w fun e w'=>∃ v',e=.returned v'∧IsP w' v' (pI zs x)∧Below w.heap.size w w':=by
 obtain⟨p,c,rfl,-⟩:=id hp.form
 obtain⟨ga,gb,gc,gd,ge,gf,rfl,-,-⟩:=id hx.v
 have HML:=BZ (rH zs x)
 have HMT:=BZ (fun i h=>pJ zs x (i:=i) h)
 have HFIT:=BZ hfit
 clear hfit
 go_enter Tryz.func284,Tryz.ntmps284
 go_upto_region 1 with fail
 have q1:=bk.new w ga gb gc gd ge gf 91
 have m1:=ae w (.cells #[ga,gb,gc,gd,ge,gf] 91)
 have z1:=size_alloc w (.cells #[ga,gb,gc,gd,ge,gf] 91)
 generalize w.alloc (.cells #[ga,gb,gc,gd,ge,gf] 91)=w1 at *
 have Q1:=BZ q1
 have HP:=BZ (hp.below m1)
 have HX:=BZ (hx.below m1)
 have M1:=BZ m1
 have hs1:w1.heap.size=w.heap.size+1:=z1
 have hle1:w.heap.size≤w1.heap.size:=by omega
 clear q1 hp hx m1 z1 hs1
 go_wp2
 go_loopw [5,10] (fun s5 s10 wr=>∃ i:Nat,s10=.int .i64 i∧i≤zs.length∧cP wr w1.heap.size s5 ((cC zs x).take i)∧Below w1.heap.size w1 wr) (fun _ s10 _=>zs.length-(intOf s10).toNat)
 case atStart=>exact⟨0,rfl,Cp _,cP.nil _ _,Below.refl _ _⟩
 case round =>
  obtain⟨i,rfl,hin,hown,hbr⟩:=hrel
  by_cases hi:i<zs.length
  ·obtain⟨B,o,rfl,hlt,xm,xp,xl,xc,xq,xk,xd,ym,yp,yl,yc,yq,yk,yd,hk,a0,a1,a2,a3,a4,a5⟩:=(HP.out.below hbr).get hi
   have HT:=BZ (HMT.out i hi)
   have HZ:=BZ (HFIT.out zs[i] (Cs hi))
   generalize zs[i]=z at hk HT HZ
   have HV:=BZ hown
   have HK:=BZ hk
   clear hown hk
   go_upto_region 5 with fail
   have q2:=bk.new wr (.bool xm) (.slice xp xl xc) (.slice xq xk xd) (.bool ym) (.slice yp yl yc) (.slice yq yk yd) 91
   have m2:=ae wr (.cells #[.bool xm,.slice xp xl xc,.slice xq xk xd,.bool ym,.slice yp yl yc,.slice yq yk yd] 91)
   generalize wr.alloc (.cells #[.bool xm,.slice xp xl xc,.slice xq xk xd,.bool ym,.slice yp yl yc,.slice yq yk yd] 91)=w2 at *
   have b0:=q2.c0;have b1:=q2.c1;have b2:=q2.c2;have b3:=q2.c3;have b4:=q2.c4;have b5:=q2.c5
   have hB2:=hbr.trans (m2.mono hbr.size)
   have q1:=Q1.out.below hB2
   have a0:=q1.c0;have a1:=q1.c1;have a2:=q1.c2;have a3:=q1.c3;have a4:=q1.c4;have a5:=q1.c5
   have HKx:=BZ (HX.out.below hB2)
   have HKz:=BZ (HK.out.below m2)
   have HV2:=BZ (HV.out.below m2)
   clear q1 q2 m2 hbr HV HK
   go_wp2_with fail
   refine (fJ _ _ _ _ _ HKz.out.v HKx.out.v (HKz.out.s.fewV HKx.out.s (by decide))).mono ?_
   rintro e w3 ⟨v3,rfl,hv3,hb3⟩
   rw[bt] at hv3
   have hk3:IsK w3 v3 (z.mul x):=⟨hv3,HZ.out⟩
   have hB3:=hB2.trans (hb3.mono hB2.size)
   have hw3:=HV2.out.below hb3
   obtain⟨sm,sp,sl,sc,sq,sk,sd,tm,tp,tl,tc,tq',tk,td,rfl⟩:=hk3.forms
   have hbs:=hB3.size
   have hzl:((cC zs x).take i).length<1000000000:=by rw[Cw,HML.out];omega
   clear hb3 hB2 hv3 HKx HKz HV2 a0 a1 a2 a3 a4 a5 b0 b1 b2 b3 b4 b5
   go_wp2_with (at_builtin;refine dA 156 Tryz.underlying156 rfl (.tmp 14) (.tmp 18) rfl w1.heap.size _ _ _ _ _ _ _ _ _ rfl hw3 hk3 rfl hzl hbs ?_)
   intro v' w4 hw4 hb4 _
   have hB4:=hb4 _ _ hB3 (Cd _)
   rw[←HT.out] at hw4
   clear hw3 hb4 hB3 hk3
   go_wp2
   go_roundw
   case rel=>exact⟨i+1,by go_num,by omega,hw4,hB4⟩
   case measure=>(first | (simp[intOf];done) | (simp[intOf];omega))
  ·have hin':i=zs.length:=by omega
   subst hin'
   have hw:=hown
   rw[show (cC zs x).take zs.length=cC zs x from Cn (by rw[HML.out];exact Cd _)] at hw
   have hml:(cC zs x).length<1000000:=by rw[HML.out];exact hlen
   have HW:=BZ hw.isP
   clear hown hi hw
   go_wp2_with fail
   refine (nG _ _ wr HW.out hml).mono ?_
   rintro e w4 ⟨v1,rfl,hv1,hb1⟩
   go_wp2
   go_ret
   exact⟨_,rfl,hv1,M1.out.trans ((hbr.trans (hb1.mono hbr.size)).mono hle1)⟩
theorem aQ {o:Oper}{a:Act}{w:World}{K:Act→World→Prop}{Q:Exit→Act→World→Prop} (hg:o.guard=none) (h:wpList Tryz.prog #[o] (fun e a w=>e=.normal∧K a w) [o] a w):o.wp Tryz.prog a w K Q:=by
 unfold wpList at h
 rw[if_pos (by simp only[Region.wanted,hg])] at h
 rcases h with h | ⟨-,h⟩
 ·unfold Oper.wp at *
  generalize (execOp a.eval o).run Tryz.prog w=r at *
  cases r with
  | ok n w' =>
   cases n<;>simp only[Oper.upon] at h ⊢ <;>
    first
     | exact h.2
     | exact Calls.mono h (fun e w'' he=>by
       cases e with
       | returned v=>exact he.2
       | panicked c=>exact absurd he.1 (by simp)
       | outgrown=>obtain⟨_,_,he,_⟩:=he;exact absurd he (by simp))
     | exact Rows.mono h (fun _ _ he=>he.2)
  | halt x w'=>cases x<;>simp only[Oper.upon] at h ⊢<;>first | (obtain⟨he,_⟩:=h;exact absurd he (by simp)) | exact h | (obtain⟨_,_,he,_⟩:=h;exact absurd he (by simp))
 ·obtain⟨_,_,he,_⟩:=h
  exact absurd he (by simp)
theorem kG {w:World}{ops:Array Oper}{rest:List Oper}{o:Oper}{act:Act}{Q:Exit→Act→World→Prop} (T:TypeId)
  (hT:Tryz.prog.underlying T=some (.slice 91)) (hgd:o.guard=none) (s x:Operand)
  (ho:o.op=.call { callee:=.builtin .append,args:=#[s,x],argTypes:=#[T,T] })
  (base:Nat) (v:Value) (zs:List CQ) (a b c d e f:Value) (z:CQ) (hs:act.eval s=v) (hown:cP w base v zs) (hk:IsK w (.agg #[a,b,c,d,e,f]) z)
  (hx:act.eval x=.slice (some ⟨w.heap.size,0,none⟩) 1 1) (hlen:zs.length<1000000000) (hbase:base≤w.heap.size)
  (h:∀ v' w',cP w' base v' (zs++[z])→(∀ B w0,Below B w0 w→B≤base→Below B w0 w')→(w.alloc (.cells #[a,b,c,d,e,f] 91)).grownBy w' v.ownBlock→wpList Tryz.prog ops Q rest (act.put o.dst v') w') :
  wpList Tryz.prog ops Q (o :: rest) act (w.alloc (.cells #[a,b,c,d,e,f] 91)):=by
 obtain⟨es,h1,h2,h3⟩:=hown.p
 obtain⟨i0,hi,hz0,hz1,hz2⟩:=info_parts x8
 have hb:=ae w (.cells #[a,b,c,d,e,f] 91)
 obtain⟨xm,xp,xl,xc,xq,xk,xd,ym,yp,yl,yc,yq,yk,yd,he⟩:=hk.forms
 obtain⟨rfl,rfl,rfl,rfl,rfl,rfl⟩:a=.bool xm∧b=.slice xp xl xc∧c=.slice xq xk xd∧d=.bool ym∧e=.slice yp yl yc∧f=.slice yq yk yd:=by simpa using he
 have hnu:=hown.nu.below h2 hb
 refine eQ _ hgd s x T ho base 91 i0 _ 6 112 hT hi hz0 hz1 hz2 rfl (by decide) ?_ v es.length (eI es) hs (h2.alloc _) hnu ⟨w.heap.size,0,none⟩ 1 [.bool xm,.slice xp xl xc,.slice xq xk xd,.bool ym,.slice yp yl yc,.slice yq yk yd] hx rfl (p_ w _ _ _ _ _ _ _) ?_ ?_ ?_ ?_ ?_ ?_
 ·intro u hu z' e'
  subst e'
  simp[Value.cells] at hu
 ·intro u hu
  simp at hu
  rcases hu with rfl | rfl | rfl | rfl | rfl | rfl<;>rfl
 ·intro u hu z' e'
  subst e'
  simp at hu
 ·unfold maxLen;omega
 ·omega
 ·rw[size_alloc];omega
 ·intro v' w' g1 g2 g3
  have hkeep:∀ u l,IsU w u l→IsU w' u l:=fun u l hu=>(hu.below hb).grown hnu g2
  refine h v' w' ⟨⟨es++[.agg #[.bool xm,.slice xp xl xc,.slice xq xk xd,.bool ym,.slice yp yl yc,.slice yq yk yd]],by simp[h1],?_,?_⟩,g3⟩ ?_ g2
  ·rw[Cq,ki];exact g1
  ·intro i hi' hi2
   by_cases hlt:i<es.length
   ·rw[CR hlt,CR (by omega)]
    exact (h3 i hlt (by omega)).keepU hkeep
   ·have hie:i=es.length:=by simp at hi';omega
    subst hie
    rw[CM (Cd _),CM (by omega)]
    simpa[h1] using hk.keepU hkeep
  ·intro B w0 hB hBb
   refine (hB.alloc (by have:=hbase;omega) _).grown g2 (by rw[size_alloc];omega) ?_
   intro k hk'
   have:=(h2.lt k hk').1
   omega
structure pT (k:Nat) (a b c d e f:Value) where
 w:World
 h:bk w k a b c d e f
theorem bk.grown {w w':World}{k:Nat}{a b c d e f:Value}{row:Option Nat} (h:bk w k a b c d e f) (hg:w.grownBy w' row) (hne:some k≠row):bk w' k a b c d e f :=
 ⟨Cg h.lt hg.size,hg.cell h.c0 hne,hg.cell h.c1 hne,hg.cell h.c2 hne,hg.cell h.c3 hne,hg.cell h.c4 hne,hg.cell h.c5 hne⟩
theorem cP.block {w:World}{base:Nat}{v:Value}{zs:List CQ} (h:cP w base v zs) {g:Nat} (hg:v.ownBlock=some g):g<w.heap.size:=by
 obtain⟨es,-,h2,-⟩:=h.p
 exact (World.ownsRow.lt h2 g hg).2
theorem pN {n:Nat} (h:n<34):SzV 10 (ct (CQ.real ((n:Nat):Int))):=by
 refine⟨⟨?_,dF _,?_⟩,.zero (by decide)⟩
 ·show (((n:Nat):Int):Rat).num.natAbs<10 ^ 10
  simp;omega
 ·show (((n:Nat):Int):Rat).den<10 ^ 10
  simp
def i6 (zs:List CQ):List CQ:=(List.range (zs.length-1)).map fun i=>(fq zs (i+1)).mul (CQ.real ((i+1:Nat):Int))
def vh (zs:List CQ):List CQ:=ce (i6 zs)
theorem qv (zs:List CQ):(i6 zs).length=zs.length-1:=by simp[i6]
theorem vi (zs:List CQ) {i:Nat} (h:i+1<zs.length):(i6 zs).take (i+1)=(i6 zs).take i++[zs[i+1].mul (CQ.real ((i+1:Nat):Int))]:=by
 have hl:i<(i6 zs).length:=by rw[qv];omega
 rw[show (i6 zs).take (i+1)=(i6 zs).take i++[(i6 zs)[i]] from (Cl hl).symm]
 simp[i6,fq,h]
theorem qw (vp:Value) (zs:List CQ) (w:World) (hp:IsP w vp zs) (hfit:∀ z∈zs,∀ n:Nat,n<33→SzV 10000 (ct (z.mul (CQ.real ((n:Nat):Int))))) (hlen:zs.length≤33) :
  Calls Tryz.prog 245 #[vp] w fun e w'=>∃ v',e=.returned v'∧IsP w' v' (vh zs)∧Below w.heap.size w w':=by
 obtain⟨p,c,rfl,-⟩:=id hp.form
 have HML:=BZ (qv zs)
 have HMT:=BZ (fun i h=>vi zs (i:=i) h)
 have HFIT:=BZ hfit
 have HP:=BZ hp
 clear hfit hp
 go_enter Tryz.func245,Tryz.ntmps245
 go_wp2
 go_loopw [3,8] (fun s3 s8 wr=>∃ i:Nat,s8=.int .i64 i∧i≤zs.length∧cP wr w.heap.size s3 ((i6 zs).take (i-1))∧Below w.heap.size w wr) (fun _ s8 _=>zs.length-(intOf s8).toNat)
 case atStart=>exact⟨0,rfl,Cp _,cP.nil _ _,Below.refl _ _⟩
 case round =>
  obtain⟨i,rfl,hin,hown,hbr⟩:=hrel
  by_cases hi:i<zs.length
  ·obtain⟨B,o,rfl,hlt,xm,xp,xl,xc,xq,xk,xd,ym,yp,yl,yc,yq,yk,yd,hk,a0,a1,a2,a3,a4,a5⟩:=(HP.out.below hbr).get hi
   have hvb0:=BZ (fun g (h:u3.ownBlock=some g)=>hown.block h)
   have HV:=BZ hown
   have HK:=BZ hk
   clear hown
   go_upto_region 5 with fail
   have q2:=bk.new wr (.bool xm) (.slice xp xl xc) (.slice xq xk xd) (.bool ym) (.slice yp yl yc) (.slice yq yk yd) 91
   have m2:=ae wr (.cells #[.bool xm,.slice xp xl xc,.slice xq xk xd,.bool ym,.slice yp yl yc,.slice yq yk yd] 91)
   have z2:=size_alloc wr (.cells #[.bool xm,.slice xp xl xc,.slice xq xk xd,.bool ym,.slice yp yl yc,.slice yq yk yd] 91)
   generalize wr.alloc (.cells #[.bool xm,.slice xp xl xc,.slice xq xk xd,.bool ym,.slice yp yl yc,.slice yq yk yd] 91)=w2 at *
   have hB2:=hbr.trans (m2.mono hbr.size)
   have HV2:=BZ (HV.out.below m2)
   have HK2:=BZ (HK.out.below m2)
   have hgr:wr.heap.size<w2.heap.size:=by omega
   clear a0 a1 a2 a3 a4 a5 m2 z2 HV HK hk
   by_cases h0:i=0
   ·subst h0
    clear q2 HK2
    go_wp2
    go_roundw
    case rel=>exact⟨1,by go_num,by omega,HV2.out,hB2⟩
    case measure=>(first | (simp[intOf];done) | (simp[intOf];omega))
   ·obtain⟨k,rfl⟩:∃ k,i=k+1:=⟨i-1,by omega⟩
    have HT:=BZ (HMT.out k hi)
    have HZ:=BZ (HFIT.out zs[k+1] (Cs hi) (k+1) (by omega))
    generalize zs[k+1]=z at HK2 HT HZ
    rw[Dl] at HV2
    go_upto_region 6 with fail
    have hvb:∀ g,u3.ownBlock=some g→g<wr.heap.size:=hvb0.out
    have m4:Below w2.heap.size w2 w2.drew:=(Below.refl _ _).drew
    have q4:=q2.below m4
    haveI:Nonempty (pT wr.heap.size (.bool xm) (.slice xp xl xc) (.slice xq xk xd) (.bool ym) (.slice yp yl yc) (.slice yq yk yd)):=⟨⟨_,q2⟩⟩
    refine ak (fun w'=>∃ x:pT wr.heap.size (.bool xm) (.slice xp xl xc) (.slice xq xk xd) (.bool ym) (.slice yp yl yc) (.slice yq yk yd),w'=x.w) (fun i=>i == 3||i == 4||i == 5||i == 6||i == 7) (by kernel_rfl) (by kernel_rfl) ⟨⟨_,q4⟩,rfl⟩ ?_
    have hB4:=hB2.trans (m4.mono hB2.size)
    have HV4:=BZ (HV2.out.below m4)
    have HK4:=BZ (HK2.out.below m4)
    clear q2 m4 hB2 HV2 HK2 hgr
    generalize w2.drew=wd at *
    have e0:=fun x:pT wr.heap.size (.bool xm) (.slice xp xl xc) (.slice xq xk xd) (.bool ym) (.slice yp yl yc) (.slice yq yk yd)=>x.h.c0
    have e1:=fun x:pT wr.heap.size (.bool xm) (.slice xp xl xc) (.slice xq xk xd) (.bool ym) (.slice yp yl yc) (.slice yq yk yd)=>x.h.c1
    have e2:=fun x:pT wr.heap.size (.bool xm) (.slice xp xl xc) (.slice xq xk xd) (.bool ym) (.slice yp yl yc) (.slice yq yk yd)=>x.h.c2
    have e3:=fun x:pT wr.heap.size (.bool xm) (.slice xp xl xc) (.slice xq xk xd) (.bool ym) (.slice yp yl yc) (.slice yq yk yd)=>x.h.c3
    have e4:=fun x:pT wr.heap.size (.bool xm) (.slice xp xl xc) (.slice xq xk xd) (.bool ym) (.slice yp yl yc) (.slice yq yk yd)=>x.h.c4
    have e5:=fun x:pT wr.heap.size (.bool xm) (.slice xp xl xc) (.slice xq xk xd) (.bool ym) (.slice yp yl yc) (.slice yq yk yd)=>x.h.c5
    refine af 3 0 _ _ _ (by kernel_rfl) ?_
    simp only[Cf,Ch,Ce,Ci]
    repeat (go_big_quiet_step (fail))
    refine wpQuiet_nil ?_
    clear e0 e1 e2 e3 e4 e5
    refine ag rfl rfl (fun K hK=>?_)
    go_simp
    refine (gW ((k+1:Nat):Int) wd (by omega) (by omega)).mono ?_
    rintro e w5 ⟨v5,rfl,hv5,hb5⟩
    refine hK _ _ ⟨⟨_,q4.below hb5⟩,rfl⟩ ?_
    clear hK K
    try simp only[Act.put,Ca,B_,B9,B4,Cb,Cc]
    refine ag rfl rfl (fun K hK=>?_)
    go_simp
    refine (de _ _ _ hv5).mono ?_
    rintro e w6 ⟨v6,rfl,hv6,hb6⟩
    have hB6:=hb5.trans (hb6.mono hb5.size)
    rw[bX] at hv6
    refine hK _ _ ⟨⟨_,q4.below hB6⟩,rfl⟩ ?_
    clear hK K
    try simp only[Act.put,Ca,B_,B9,B4,Cb,Cc]
    refine ag rfl rfl (fun K hK=>?_)
    go_simp
    have hsn:=pN (n:=k+1) (by omega)
    refine (fJ _ _ _ _ _ (HK4.out.below hB6).v hv6 (HK4.out.s.fewV hsn (by decide))).mono ?_
    rintro e w7 ⟨v7,rfl,hv7,hb7⟩
    rw[bt] at hv7
    have hB7:=hB6.trans (hb7.mono hB6.size)
    refine hK _ _ ⟨⟨_,q4.below hB7⟩,rfl⟩ ?_
    clear hK K
    try simp only[Act.put,Ca,B_,B9,B4,Cb,Cc]
    have hk7:IsK w7 v7 (z.mul (CQ.real ((k+1:Nat):Int))):=⟨hv7,HZ.out⟩
    obtain⟨sm,sp,sl,sc,sq,sk,sd,tm,tp,tl,tc,tq',tk,td,rfl⟩:=hk7.forms
    have hw7:=HV4.out.below hB7
    have q7:=q4.below hB7
    have hB47:=hB4.trans (hB7.mono hB4.size)
    have hbs:=hB47.size
    have hzl:((i6 zs).take k).length<1000000000:=by rw[Cw,HML.out];omega
    have q8:=q7.below (ae w7 (.cells #[.bool sm,.slice sp sl sc,.slice sq sk sd,.bool tm,.slice tp tl tc,.slice tq' tk td] 91))
    refine ag rfl rfl (fun K hK=>?_)
    go_simp
    refine hK _ _ ⟨⟨_,q8⟩,rfl⟩ ?_
    clear hK K
    try simp only[Act.put,Ca,B_,B9,B4,Cb,Cc]
    refine ag rfl rfl (fun K hK=>?_)
    refine aQ rfl ?_
    refine kG 156 Tryz.underlying156 rfl (.tmp 15) (.tmp 21) rfl w.heap.size _ _ _ _ _ _ _ _ _ rfl hw7 hk7 rfl hzl hbs ?_
    intro v' w9 hw9 hb9 hg9
    have hB9:=hb9 _ _ hB47 (Cd _)
    have q9:=q8.grown hg9 (fun e=>Nat.lt_irrefl _ (hvb _ e.symm))
    refine⟨rfl,hK _ _ ⟨⟨_,q9⟩,rfl⟩ ?_⟩
    clear hK K
    try simp only[Act.put,Ca,B_,B9,B4,Cb,Cc]
    rw[←HT.out] at hw9
    have HW9:=BZ hw9
    clear q4 q7 q8 q9 hg9 hb9 hw9 hw7 hk7 hv7 hv6 hv5 hb5 hb6 hb7 hB4 hB6 hB7 hB47 hvb
    refine af 1 8 _ _ _ (by kernel_rfl) ?_
    simp only[Cf,Ch,Ce,Ci]
    repeat (go_big_quiet_step (fail))
    refine wpQuiet_nil ?_
    refine av ?_
    go_wp2
    go_roundw
    case rel=>exact⟨k+1+1,by go_num,by omega,HW9.out,hB9⟩
    case measure=>(first | (simp[intOf];done) | (simp[intOf];omega))
  ·have hin':i=zs.length:=by omega
   subst hin'
   have hw:=hown
   rw[show (i6 zs).take (zs.length-1)=i6 zs from Cn (by rw[HML.out];exact Cd _)] at hw
   have hml:(i6 zs).length<1000000:=by rw[HML.out];omega
   have HW:=BZ hw.isP
   clear hown hi hw
   go_wp2_with fail
   refine (nG _ _ wr HW.out hml).mono ?_
   rintro e w4 ⟨v1,rfl,hv1,hb1⟩
   go_wp2
   go_ret
   exact⟨_,rfl,hv1,hbr.trans (hb1.mono hbr.size)⟩
section
variable {P : Program} (w : World)
theorem pF (base:Nat) (t ty e:TypeId) (i:TypeInfo) (z:Value) (size bytes:Nat) (ht:P.underlying t=some (.slice e)) (hi:P.info? e=some i) (hz:i.zero=some z)
  (hsize:i.size=size) (hby:i.bytes=bytes) (hzs:z.cells.size=size) (hsz:0<size)
  (v:Value) (n:Nat) (xs:List Value) (hown:w.ownsRow base e size v n xs)
  (a:Addr) (m c:Nat) (news:List Value) (hm0:0<m) (hl:news.length=m*size) (hnews:∀ j u,news[j]?=some u→w.cell? (a.add j)=some u) (h1:∀ u∈news,u.oneCell'=true)
  (h63:n+m≤maxLen) (hbytes:(n+m)*bytes≤140737488355328) (hbase:base≤w.heap.size) :
  ∃ v' w',(Builtin.append_ #[t,t] ty #[v,.slice (some a) m c]).run P w=.ok v' w'∧w'.ownsRow base e size v' (n+m) (xs++news)∧w.grownBy w' v.ownBlock∧(v'.ownBlock=v.ownBlock∨∃ g,v'.ownBlock=some g∧w.heap.size≤g):=by
 obtain⟨v',w',hr,h2,h3,-⟩:=run_append_own (P:=P) w base t ty e i z size bytes ht hi hz hsize hby hzs hsz v n xs hown a m c news hl hnews h1 h63 hbytes hbase
 refine⟨v',w',hr,h2,h3,?_⟩
 have hsmall:n+m≤9223372036854775807:=by simp only[maxLen] at h63;omega
 subst hsize
 subst hby
 rcases hown.2 with ⟨rfl,rfl⟩ | ⟨g,cap,cur,rfl,hbg,hg,hnc,hcm,hcs,htake⟩
 ·have hr':=run_append_nil (P:=P) w t ty e i z ht hi hz a m c news hl hnews hm0 (by omega) (by rw[C5] at hbytes;omega)
  rw[hr'] at hr
  cases hr
  exact Or.inr ⟨_,rfl,Cd _⟩
 ·by_cases hroom:n+m≤cap
  ·have hfit:n*i.size+news.length≤cur.size:=by rw[hl,hcs,←CS];exact Ck _ hroom
   have hr':=run_append_room (P:=P) w t ty e i ht hi g n cap cur hg a m c news hl hnews h1 hroom hfit
   rw[hr'] at hr
   cases hr
   exact Or.inl rfl
  ·have holds:∀ j u,xs[j]?=some u→w.cell? ((⟨g,0,none⟩:Addr).add j)=some u:=hown.cells (g:=g) rfl
   have hr':=run_append_grow (P:=P) w t ty e i z ht hi hz ⟨g,0,none⟩ n cap xs hown.1 holds a m c news hl hnews (by omega) (by omega) (growslice_fits (by omega) hbytes)
   rw[hr'] at hr
   cases hr
   exact Or.inr ⟨_,rfl,Cd _⟩
theorem lm {ops:Array Oper}{rest:List Oper}{o:Oper}{a:Act}{Q:Exit→Act→World→Prop} (hgd:o.guard=none) (s x:Operand) (t:TypeId)
  (ho:o.op=.call { callee:=.builtin .append,args:=#[s,x],argTypes:=#[t,t] })
  (base:Nat) (e:TypeId) (i:TypeInfo) (z:Value) (size bytes:Nat) (ht:P.underlying t=some (.slice e)) (hi:P.info? e=some i) (hz:i.zero=some z)
  (hsize:i.size=size) (hby:i.bytes=bytes) (hzs:z.cells.size=size) (hsz:0<size)
  (v:Value) (n:Nat) (xs:List Value) (hs:a.eval s=v) (hown:w.ownsRow base e size v n xs)
  (ad:Addr) (m c:Nat) (news:List Value) (hm0:0<m) (hx:a.eval x=.slice (some ad) m c) (hl:news.length=m*size) (hnews:∀ j u,news[j]?=some u→w.cell? (ad.add j)=some u) (h1:∀ u∈news,u.oneCell'=true)
  (h63:n+m≤maxLen) (hbytes:(n+m)*bytes≤140737488355328) (hbase:base≤w.heap.size)
  (h:∀ v' w',w'.ownsRow base e size v' (n+m) (xs++news)→w.grownBy w' v.ownBlock→(v'.ownBlock=v.ownBlock∨∃ g,v'.ownBlock=some g∧w.heap.size≤g)→wpList P ops Q rest (a.put o.dst v') w'):wpList P ops Q (o :: rest) a w:=by
 refine wpList_plain hgd fun K hK=>?_
 obtain⟨v',w',hr,h2,h3,h4⟩:=pF (P:=P) w base t o.type e i z size bytes ht hi hz hsize hby hzs hsz v n xs hown ad m c news hm0 hl hnews h1 h63 hbytes hbase
 unfold Oper.wp execOp
 obtain⟨pv,nv,cv,rfl⟩:∃ p n c,v=.slice p n c:=by
  rcases hown.2 with ⟨rfl,-⟩ | ⟨g,cap,cur,rfl,-⟩<;>exact⟨_,_,_,rfl⟩
 simp only[ho,resolve,invoke,builtin,Sem.run_bind,Sem.run_pure,Result.andThen_ok,Ep,C3,D6,hs,hx,hr]
 exact hK _ _ (h v' w' h2 h3 h4)
end
structure gD (w:World) (B:Nat) (v:Value) (l:List ByteArray) (v':Value) (l':List ByteArray):Prop where
 o1:aZ w B v l
 o2:aZ w B v' l'
 ne:∀ g,v.ownBlock=some g→v'.ownBlock≠some g
theorem gD.nil (w:World) (B:Nat):gD w B (.slice none 0 0) [] (.slice none 0 0) []:=⟨aZ.nil _ _,aZ.nil _ _,fun g h=>by cases h⟩
theorem gD.below {w w':World}{B:Nat}{v v':Value}{l l':List ByteArray} (h:gD w B v l v' l') (hb:Below w.heap.size w w'):gD w' B v l v' l':=⟨h.o1.below hb,h.o2.below hb,h.ne⟩
theorem gD.alloc {w:World}{B:Nat}{v v':Value}{l l':List ByteArray} (h:gD w B v l v' l') (o:Obj):gD (w.alloc o) B v l v' l':=⟨World.ownsRow.alloc h.o1 o,World.ownsRow.alloc h.o2 o,h.ne⟩
structure om (w w':World) (B:Nat) (v v':Value) (l:List ByteArray):Prop where
 own:aZ w' B v' l
 grown:w.grownBy w' v.ownBlock
 blk:v'.ownBlock=v.ownBlock∨∃ g,v'.ownBlock=some g∧w.heap.size≤g
theorem om.below {w w':World}{B:Nat}{v v':Value}{l l0:List ByteArray} (h:om w w' B v v' l) (ho:aZ w B v l0) {B':Nat}{w0:World} (hb:Below B' w0 w) (hB:B'≤B) (hs:B≤w.heap.size):Below B' w0 w':=by
 refine hb.grown h.grown (Cr hB hs) fun k hk=>?_
 have:=(World.ownsRow.lt ho k hk).1
 omega
theorem om.one {w w':World}{B:Nat}{v1 v2 v1':Value}{l1 l2 l:List ByteArray} (h:om w w' B v1 v1' l) (ht:gD w B v1 l1 v2 l2):gD w' B v1' l v2 l2:=by
 refine⟨h.own,World.ownsRow.kept ht.o2 h.grown ?_,fun g hg e=>?_⟩
 ·cases h1:v1.ownBlock with
  | none=>cases h2:v2.ownBlock with
   | none=>exact Or.inl rfl
   | some g=>exact Or.inr (by simp)
  | some g=>exact Or.inr (ht.ne g h1)
 ·rcases h.blk with hb | ⟨g',hb,hge⟩
  ·exact ht.ne g (by rw[←hb];exact hg) e
  ·obtain rfl:g=g':=by rw[hg] at hb;exact Option.some.inj hb
   have:=(World.ownsRow.lt ht.o2 g e).2
   omega
theorem gD.swap {w:World}{B:Nat}{v1 v2:Value}{l1 l2:List ByteArray} (h:gD w B v1 l1 v2 l2):gD w B v2 l2 v1 l1:=⟨h.o2,h.o1,fun g hg e=>h.ne g e hg⟩
theorem om.two {w w':World}{B:Nat}{v1 v2 v2':Value}{l1 l2 l:List ByteArray} (h:om w w' B v2 v2' l) (ht:gD w B v1 l1 v2 l2):gD w' B v1 l1 v2' l:=(h.one ht.swap).swap
theorem om.cell {w w':World}{B:Nat}{v v':Value}{l l0:List ByteArray} (h:om w w' B v v' l) (ho:aZ w B v l0) {b o:Nat}{u:Value} (hb:v.ownBlock≠some b) (hc:w.cell? ⟨b,o,none⟩=some u):w'.cell? ⟨b,o,none⟩=some u :=
 h.grown.cell hc fun e=>hb e.symm
theorem aJ {w:World}{ops:Array Oper}{rest:List Oper}{o:Oper}{act:Act}{Q:Exit→Act→World→Prop} (T:TypeId)
  (hT:Tryz.prog.underlying T=some (.slice 22)) (hgd:o.guard=none) (s x:Operand)
  (ho:o.op=.call { callee:=.builtin .append,args:=#[s,x],argTypes:=#[T,T] })
  (base:Nat) (v:Value) (l:List ByteArray) (t:ByteArray) (hs:act.eval s=v) (hown:aZ w base v l) (bx:Nat)
  (hx:act.eval x=.slice (some ⟨bx,0,none⟩) 1 1) (hcx:w.cell? ⟨bx,0,none⟩=some (.string t)) (hlen:l.length<1000000000) (hbase:base≤w.heap.size)
  (h:∀ v' w',om w w' base v v' (l++[t])→wpList Tryz.prog ops Q rest (act.put o.dst v') w') :
  wpList Tryz.prog ops Q (o :: rest) act w:=by
 obtain⟨i0,hi,hz0,hz1,hz2⟩:=info_parts t_
 refine lm w hgd s x T ho base 22 i0 _ 1 16 hT hi hz0 hz1 hz2 rfl (by decide) v l.length (l.map .string) hs hown ⟨bx,0,none⟩ 1 1 [.string t] (by decide) hx rfl ?_ ?_ ?_ ?_ hbase ?_
 ·intro j u hj
  match j,hj with
  | 0,hj =>
   simp at hj
   subst hj
   exact hcx
 ·intro u hu
  simp at hu
  subst hu
  rfl
 ·unfold maxLen;omega
 ·omega
 ·intro v' w' hown' hg hbl
  refine h v' w' ⟨?_,hg,hbl⟩
  unfold aZ
  rw[Cq,DH];exact hown'
end Go.Proofs.YtdlioncecgnloaaGreatDoor
