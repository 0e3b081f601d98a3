/- L -/
import Derived.Test.YtgakllaobooabaaGreatDoorXPL1
import Derived.Test.YtgakllaobooabaaGreatDoorXB
set_option linter.all false
set_option maxRecDepth 100000
set_option maxHeartbeats 8000000
namespace Go.Proofs.YtgakllaobooabaaGreatDoor
open Go.RowKit Dg
def SzL (k:Nat) (zs:List CQ):Prop:=∀ z∈zs,SzV k (ct z)
theorem tz {zs:List CQ}:∀ z∈bA zs,z∈zs:=by
 intro z hz;unfold bA at hz;rw[List.mem_reverse] at hz;exact List.mem_reverse.1 ((List.dropWhile_sublist _).mem hz)
theorem SzL.lean {k:Nat}{zs:List CQ} (h:SzL k zs):SzL k (bA zs):=fun z hz=>h z (tz z hz)
theorem ko:∀ {l:List ByteArray}{zs:List CQ},allC l=some zs->SzL 2000 zs
 | [],zs,h=>by cases h;intro z hz;simp at hz
 | a :: l,zs,h=>by
  simp only[allC] at h
  cases ha:dX a with
  | none=>rw[ha] at h;cases h
  | some z =>
   cases hl:allC l with
   | none=>rw[ha,hl] at h;cases h
   | some ys =>
    rw[ha,hl] at h
    cases h
    intro y hy;rcases Bm.1 hy with rfl | hy
    ·exact (oN ha).2.2
    ·exact ko hl y hy
theorem gS {l:List ByteArray}{zs:List CQ} (h:cj l=.ok zs):SzL 2000 zs:=by
 unfold cj at h
 split at h
 ·cases h
 ·split at h
  ·rename_i ys hy
   cases h
   exact (ko hy).lean
  ·cases h
theorem mJ {a b:List ByteArray}{z:List CQ×List CQ} (h:d6 a b=.ok z):cj a=.ok z.1/\cj b=.ok z.2:=by
 unfold d6 at h
 split at h
 ·cases h
 ·rename_i x hx
  split at h
  ·cases h
  ·rename_i y hy
   cases h
   exact⟨hx,hy⟩
theorem SzL.item {k:Nat}{zs:List CQ} (h:SzL k zs) (hk:1<=k) (i:Nat):SzV k (ct (eP zs i)):=by
 unfold eP
 split
 ·exact h _ (AR _)
 ·exact⟨.zero hk,.zero hk⟩
structure uz (f:CQ->CQ->CQ):Prop where
 on:∀ a b,SzV 2000 (ct a)->SzV 2000 (ct b)->SzV 10000 (ct (f a b))
theorem vj:uz CQ.add:=⟨fun a b ha hb=>by rw[<-cW];exact (ha.plus hb).mono (by decide)⟩
theorem vo:uz CQ.sub:=⟨fun a b ha hb=>by rw[<-ld];exact (ha.plus hb.neg).mono (by decide)⟩
def bL (f:CQ->CQ->CQ) (p q:List CQ):List CQ:=(List.range (max p.length q.length)).map fun i=>f (eP p i) (eP q i)
theorem nt (f:CQ->CQ->CQ) (p q:List CQ) {i:Nat} (h:i<max p.length q.length):(bL f p q).take (i+1)=(bL f p q).take i++[f (eP p i) (eP q i)]:=by
 have hl:i<(bL f p q).length:=by simp[bL];omega
 rw[show (bL f p q).take (i+1)=(bL f p q).take i++[(bL f p q)[i]] from (AM hl).symm];simp[bL]
def cN (f:CQ->CQ->CQ) (p q:List CQ):List CQ:=bA (bL f p q)
theorem gL (f:CQ->CQ->CQ) (p q:List CQ):(bL f p q).length=max p.length q.length:=by simp[bL]
theorem sh {G:FuncId}{f:CQ->CQ->CQ} (hG:GAt G f) (hF:uz f) (va vb:Value) (p q:List CQ) (w:World) (ha:IsP w va p) (hb:IsP w vb q) (hsp:SzL 2000 p) (hsq:SzL 2000 q) (hlp:p.length<1000000) (hlq:q.length<1000000) :
  Calls Tryz.prog 167 #[va,vb,.func (.func G) #[] #[]] w fun e w'=>∃ v',e=.returned v'/\IsP w' v' (cN f p q)/\Below w.heap.size w w':=by
 obtain⟨pa,ca,rfl,-⟩:=id ha.form;obtain⟨pb,cb,rfl,-⟩:=id hb.form;have EN:=hG.en;have HA:=At ha;have HB:=At hb;clear ha hb;have HML:=gL f p q;have HMT:=fun i h=>nt f p q (i:=i) h;obtain⟨n,hn⟩:∃ n,n=max p.length q.length:=⟨_,rfl⟩;have hn6:n<1000000:=by omega
 have hmax:max (p.length:Int) (q.length:Int)=(n:Int):=by rw[hn];omega
 rw[<-hn] at HML HMT;have HML:=At HML;have HMT:=At HMT;clear hn;go_enter Tryz.func167,Tryz.ntmps167;go_wp2;clear hmax;go_loopw [7,14] (fun s7 s14 wr=>∃ i:Nat,s14=.int .i64 i/\i<=n/\cC wr w.heap.size s7 ((bL f p q).take i)/\Below w.heap.size w wr) (fun _ s14 _=>n-(intOf s14).toNat)
 case atStart=>exact⟨0,rfl,AI _,cC.nil _ _,Dv _ _⟩
 case round =>
  obtain⟨i,rfl,hin,hown,hbr⟩:=hrel;by_cases hi:i<n
  ·have HT:=At (HMT.out i hi);have hi6:i<1000000:=by omega
   have HV:=At hown;clear hown;go_wp2_with fail
   refine (yS _ p i wr (HA.out.below hbr) hi6 hlp).mono ?_;rintro e w1 ⟨v1,rfl,hk1,hb1⟩;have hB1:=hbr.trans (hb1.mono hbr.size);go_wp2_with fail
   refine (yS _ q i w1 (HB.out.below hB1) hi6 hlq).mono ?_;rintro e w2 ⟨v2,rfl,hk2,hb2⟩;have hB2:=hB1.trans (hb2.mono hB1.size);go_wp2_with fail
   refine (hG.on _ _ _ _ w2 (hk1.below hb2) hk2).mono ?_;rintro e w3 ⟨v3,rfl,hv3,hb3⟩;have hB3:=hB2.trans (hb3.mono hB2.size);have hk3:IsK w3 v3 (f (eP p i) (eP q i)):=⟨hv3,hF.on _ _ (hsp.item (by decide) i) (hsq.item (by decide) i)⟩;have hw3:=((HV.out.below hb1).below hb2).below hb3;obtain⟨xm,xp,xl,xc,xq,xk,xd,ym,yp,yl,yc,yq,yk,yd,rfl⟩:=hk3.forms;have hbs:=hB3.size;have hzl:((bL f p q).take i).length<1000000000:=by rw[A6,HML.out];omega
   clear hb1 hb2 hb3 hB1 hB2 hbr hv3 hk1 hk2 HV;go_wp2_with (at_builtin;refine df 57 Tryz.underlying57 rfl (.tmp 17) (.tmp 26) rfl w.heap.size _ _ _ _ _ _ _ _ _ rfl hw3 hk3 rfl hzl hbs ?_)
   intro v' w4 hw4 hb4 _;have hB4:=hb4 _ _ hB3 (AA _);rw[<-HT.out] at hw4;clear hw3 hb4 hB3;go_wp2;go_roundw;case rel=>exact⟨i+1,by go_num,by omega,hw4,hB4⟩
   case measure=>simp[intOf]<;>omega
  ·have hin':i=n:=by omega
   subst hin';have hw:=hown;rw[show (bL f p q).take i=bL f p q from AK (by rw[HML.out];exact AA _)] at hw;have hml:(bL f p q).length<1000000:=by rw[HML.out];exact hn6
   have HW:=At hw.isP;clear hown hi hw;go_wp2_with fail
   refine (mp _ _ wr HW.out hml).mono ?_;rintro e w1 ⟨v1,rfl,hv1,hb1⟩;go_wp2;go_ret;exact⟨_,rfl,hv1,hbr.trans (hb1.mono hbr.size)⟩
def aY (f:CQ->CQ->CQ) (a b:List ByteArray):List ByteArray×Int:=match d6 a b with
 | .error e=>([],e)
 | .ok z=>if fJ (cN f z.1 z.2)=true then (ee (cN f z.1 z.2),0) else ([],11)
theorem v_ (va vb:Value) (a b:List ByteArray) (w:World) (ha:IsS w va a) (hb:IsS w vb b) (hG:Gw w) :
  Calls Tryz.prog 144 #[va,vb] w fun e w'=>∃ v',e=.returned (.tuple #[v',.int .i64 (aY CQ.add a b).2])/\IsS w' v' (aY CQ.add a b).1/\Below w.heap.size w w':=by
 have HP:=At (wh va vb a b w ha hb hG);have HG:=At hG;clear ha hb hG;go_enter Tryz.func144,Tryz.ntmps144;go_wp2_with fail
 refine HP.out.mono ?_;rintro e w1 ⟨u,v,x,rfl,hr,hb1⟩
 cases hpc:d6 a b with
 | error ea =>
  rw[hpc] at hr;obtain⟨rfl,hx,rfl,rfl⟩:=hr;have HE:=At (show aY CQ.add a b=([],x) by unfold aY;rw[hpc]);have hd:decide (x=0)=false:=decide_eq_false hx;clear hpc HP;go_wp2;refine Du (v:=.tuple #[.slice none 0 0,.int .i64 x]) (by simp[results,Tryz.results144,go_sem]) rfl ⟨_,by rw[HE.out],by rw[HE.out];exact (bU.nil w1 0).isS,hb1⟩
 | ok z =>
  rw[hpc] at hr;obtain⟨p,q⟩:=z;obtain⟨rfl,hu,hv⟩:=hr;obtain⟨hp1,hp2⟩:=mJ hpc;have s1:=gS hp1;have s2:=gS hp2;have l1:=ik hp1;have l2:=ik hp2;simp only at hu hv s1 s2 l1 l2
  have hml:(cN CQ.add p q).length<1000000:=by
   have h1:=ic (bL CQ.add p q);rw[gL] at h1;unfold cN;omega
  have HE:=At (show aY CQ.add a b=if fJ (cN CQ.add p q)=true then (ee (cN CQ.add p q),0) else ([],11) by unfold aY;rw[hpc]);have HM:=At (sh yZ vj u v p q w1 hu hv s1 s2 (by omega) (by omega));clear hpc HP hp1 hp2 s1 s2 l1 l2 hu hv;go_wp2_with fail
  refine HM.out.mono ?_;rintro e w2 ⟨v2,rfl,hv2,hb2⟩;have hB2:=hb1.trans (hb2.mono hb1.size);clear HM;go_wp2_with fail
  refine (y4 v2 _ w2 hv2 hml (HG.out.below hB2)).mono ?_;rintro e w3 ⟨v3,x,rfl,hc,hb3⟩;have hB3:=hB2.trans (hb3.mono hB2.size);rcases hc with ⟨h1,rfl,h3⟩ | ⟨h1,rfl,rfl⟩
  ·have HE:=At (show aY CQ.add a b=(ee (cN CQ.add p q),0) by rw[HE.out,if_pos h1]);clear h1 hml;go_wp2;refine Du (v:=.tuple #[v3,.int .i64 0]) (by simp[results,Tryz.results144,go_sem]) rfl ⟨_,by rw[HE.out],by rw[HE.out];exact h3.isS,hB3⟩
  ·have HE:=At (show aY CQ.add a b=([],11) by rw[HE.out,if_neg (by rw[h1];decide)]);clear h1 hml;go_wp2;refine Du (v:=.tuple #[.slice none 0 0,.int .i64 11]) (by simp[results,Tryz.results144,go_sem]) rfl ⟨_,by rw[HE.out],by rw[HE.out];exact (bU.nil w3 0).isS,hB3⟩
theorem wg (va vb:Value) (a b:List ByteArray) (w:World) (ha:IsS w va a) (hb:IsS w vb b) (hG:Gw w) :
  Calls Tryz.prog 145 #[va,vb] w fun e w'=>∃ v',e=.returned (.tuple #[v',.int .i64 (aY CQ.sub a b).2])/\IsS w' v' (aY CQ.sub a b).1/\Below w.heap.size w w':=by
 have HP:=At (wh va vb a b w ha hb hG);have HG:=At hG;clear ha hb hG;go_enter Tryz.func145,Tryz.ntmps145;go_wp2_with fail
 refine HP.out.mono ?_;rintro e w1 ⟨u,v,x,rfl,hr,hb1⟩
 cases hpc:d6 a b with
 | error ea =>
  rw[hpc] at hr;obtain⟨rfl,hx,rfl,rfl⟩:=hr;have HE:=At (show aY CQ.sub a b=([],x) by unfold aY;rw[hpc]);have hd:decide (x=0)=false:=decide_eq_false hx;clear hpc HP;go_wp2;refine Du (v:=.tuple #[.slice none 0 0,.int .i64 x]) (by simp[results,Tryz.results145,go_sem]) rfl ⟨_,by rw[HE.out],by rw[HE.out];exact (bU.nil w1 0).isS,hb1⟩
 | ok z =>
  rw[hpc] at hr;obtain⟨p,q⟩:=z;obtain⟨rfl,hu,hv⟩:=hr;obtain⟨hp1,hp2⟩:=mJ hpc;have s1:=gS hp1;have s2:=gS hp2;have l1:=ik hp1;have l2:=ik hp2;simp only at hu hv s1 s2 l1 l2
  have hml:(cN CQ.sub p q).length<1000000:=by
   have h1:=ic (bL CQ.sub p q);rw[gL] at h1;unfold cN;omega
  have HE:=At (show aY CQ.sub a b=if fJ (cN CQ.sub p q)=true then (ee (cN CQ.sub p q),0) else ([],11) by unfold aY;rw[hpc]);have HM:=At (sh yV vo u v p q w1 hu hv s1 s2 (by omega) (by omega));clear hpc HP hp1 hp2 s1 s2 l1 l2 hu hv;go_wp2_with fail
  refine HM.out.mono ?_;rintro e w2 ⟨v2,rfl,hv2,hb2⟩;have hB2:=hb1.trans (hb2.mono hb1.size);clear HM;go_wp2_with fail
  refine (y4 v2 _ w2 hv2 hml (HG.out.below hB2)).mono ?_;rintro e w3 ⟨v3,x,rfl,hc,hb3⟩;have hB3:=hB2.trans (hb3.mono hB2.size);rcases hc with ⟨h1,rfl,h3⟩ | ⟨h1,rfl,rfl⟩
  ·have HE:=At (show aY CQ.sub a b=(ee (cN CQ.sub p q),0) by rw[HE.out,if_pos h1]);clear h1 hml;go_wp2;refine Du (v:=.tuple #[v3,.int .i64 0]) (by simp[results,Tryz.results145,go_sem]) rfl ⟨_,by rw[HE.out],by rw[HE.out];exact h3.isS,hB3⟩
  ·have HE:=At (show aY CQ.sub a b=([],11) by rw[HE.out,if_neg (by rw[h1];decide)]);clear h1 hml;go_wp2;refine Du (v:=.tuple #[.slice none 0 0,.int .i64 11]) (by simp[results,Tryz.results145,go_sem]) rfl ⟨_,by rw[HE.out],by rw[HE.out];exact (bU.nil w3 0).isS,hB3⟩
def b9 (zs:List CQ) (x:CQ):List CQ:=zs.map fun z=>z.mul x
def nN (zs:List CQ) (x:CQ):List CQ:=bA (b9 zs x)
theorem nO (zs:List CQ) (x:CQ) {i:Nat} (h:i<zs.length):(b9 zs x).take (i+1)=(b9 zs x).take i++[zs[i].mul x]:=by
 have hl:i<(b9 zs x).length:=by simp[b9,h]
 rw[show (b9 zs x).take (i+1)=(b9 zs x).take i++[(b9 zs x)[i]] from (AM hl).symm];simp[b9]
theorem pL (zs:List CQ) (x:CQ):(b9 zs x).length=zs.length:=by simp[b9]
theorem sB (vp vx:Value) (zs:List CQ) (x:CQ) (w:World) (hp:IsP w vp zs) (hx:IsK w vx x) (hfit:∀ z∈zs,SzV 10000 (ct (z.mul x))) (hlen:zs.length<1000000) :
  Calls Tryz.prog 150 #[vp,vx] w fun e w'=>∃ v',e=.returned v'/\IsP w' v' (nN zs x)/\Below w.heap.size w w':=by
 obtain⟨p,c,rfl,-⟩:=id hp.form;obtain⟨ga,gb,gc,gd,ge,gf,rfl,-,-⟩:=id hx.v;have HML:=At (pL zs x);have HMT:=At (fun i h=>nO zs x (i:=i) h);have HFIT:=At hfit;clear hfit;go_enter Tryz.func150,Tryz.ntmps150;go_upto_region 1 with fail
 have q1:=aW.new w ga gb gc gd ge gf 65;have m1:=ac w (.cells #[ga,gb,gc,gd,ge,gf] 65);have z1:=size_alloc w (.cells #[ga,gb,gc,gd,ge,gf] 65);generalize w.alloc (.cells #[ga,gb,gc,gd,ge,gf] 65)=w1 at *
 have Q1:=At q1;have HP:=At (hp.below m1);have HX:=At (hx.below m1);have M1:=At m1;have hs1:w1.heap.size=w.heap.size+1:=z1;have hle1:w.heap.size<=w1.heap.size:=by omega
 clear q1 hp hx m1 z1 hs1;go_wp2;go_loopw [5,10] (fun s5 s10 wr=>∃ i:Nat,s10=.int .i64 i/\i<=zs.length/\cC wr w1.heap.size s5 ((b9 zs x).take i)/\Below w1.heap.size w1 wr) (fun _ s10 _=>zs.length-(intOf s10).toNat)
 case atStart=>exact⟨0,rfl,AI _,cC.nil _ _,Dv _ _⟩
 case round =>
  obtain⟨i,rfl,hin,hown,hbr⟩:=hrel;by_cases hi:i<zs.length
  ·obtain⟨B,o,rfl,hlt,xm,xp,xl,xc,xq,xk,xd,ym,yp,yl,yc,yq,yk,yd,hk,a0,a1,a2,a3,a4,a5⟩:=(HP.out.below hbr).get hi;have HT:=At (HMT.out i hi);have HZ:=At (HFIT.out zs[i] (AR hi));generalize zs[i]=z at hk HT HZ;have HV:=At hown;have HK:=At hk;clear hown hk;go_upto_region 5 with fail
   have q2:=aW.new wr (.bool xm) (.slice xp xl xc) (.slice xq xk xd) (.bool ym) (.slice yp yl yc) (.slice yq yk yd) 65;have m2:=ac wr (.cells #[.bool xm,.slice xp xl xc,.slice xq xk xd,.bool ym,.slice yp yl yc,.slice yq yk yd] 65);generalize wr.alloc (.cells #[.bool xm,.slice xp xl xc,.slice xq xk xd,.bool ym,.slice yp yl yc,.slice yq yk yd] 65)=w2 at *
   have b0:=q2.c0;have b1:=q2.c1;have b2:=q2.c2;have b3:=q2.c3;have b4:=q2.c4;have b5:=q2.c5;have hB2:=hbr.trans (m2.mono hbr.size);have q1:=Q1.out.below hB2;have a0:=q1.c0;have a1:=q1.c1;have a2:=q1.c2;have a3:=q1.c3;have a4:=q1.c4;have a5:=q1.c5;have HKx:=At (HX.out.below hB2);have HKz:=At (HK.out.below m2);have HV2:=At (HV.out.below m2);clear q1 q2 m2 hbr HV HK;go_wp2_with fail
   refine (ff _ _ _ _ _ HKz.out.v HKx.out.v (HKz.out.s.fewV HKx.out.s (by decide))).mono ?_;rintro e w3 ⟨v3,rfl,hv3,hb3⟩;rw[a6] at hv3;have hk3:IsK w3 v3 (z.mul x):=⟨hv3,HZ.out⟩;have hB3:=hB2.trans (hb3.mono hB2.size);have hw3:=HV2.out.below hb3;obtain⟨sm,sp,sl,sc,sq,sk,sd,tm,tp,tl,tc,tq',tk,td,rfl⟩:=hk3.forms;have hbs:=hB3.size;have hzl:((b9 zs x).take i).length<1000000000:=by rw[A6,HML.out];omega
   clear hb3 hB2 hv3 HKx HKz HV2 a0 a1 a2 a3 a4 a5 b0 b1 b2 b3 b4 b5;go_wp2_with (at_builtin;refine df 57 Tryz.underlying57 rfl (.tmp 14) (.tmp 18) rfl w1.heap.size _ _ _ _ _ _ _ _ _ rfl hw3 hk3 rfl hzl hbs ?_)
   intro v' w4 hw4 hb4 _;have hB4:=hb4 _ _ hB3 (AA _);rw[<-HT.out] at hw4;clear hw3 hb4 hB3 hk3;go_wp2;go_roundw;case rel=>exact⟨i+1,by go_num,by omega,hw4,hB4⟩
   case measure=>simp[intOf]<;>omega
  ·have hin':i=zs.length:=by omega
   subst hin';have hw:=hown;rw[show (b9 zs x).take zs.length=b9 zs x from AK (by rw[HML.out];exact AA _)] at hw;have hml:(b9 zs x).length<1000000:=by rw[HML.out];exact hlen
   have HW:=At hw.isP;clear hown hi hw;go_wp2_with fail
   refine (mp _ _ wr HW.out hml).mono ?_;rintro e w4 ⟨v1,rfl,hv1,hb1⟩;go_wp2;go_ret;exact⟨_,rfl,hv1,M1.out.trans ((hbr.trans (hb1.mono hbr.size)).mono hle1)⟩
def iC (x:CQ) (zs:List CQ) (j:Nat):CQ:=(zs.drop j).foldr (fun z acc=>(acc.mul x).add z) ⟨0,0⟩
theorem ts (x:CQ) (zs:List CQ):iC x zs zs.length=⟨0,0⟩:=by unfold iC;rw[List.drop_length];rfl
theorem qI (x:CQ) {zs:List CQ}{j:Nat} (h:j<zs.length):iC x zs j=((iC x zs (j+1)).mul x).add zs[j]:=by
 unfold iC;rw[Bi h];rfl
def atL (zs:List CQ) (x:CQ):CQ:=iC x zs 0
def kY:Nat->Nat
 | 0=>1
 | n+1=>2*(kY n+2000)+1+2000+1
theorem vz {n:Nat} (h:n<=7):kY n<=764000:=by
 have:∀ m≤7,kY m<=764000:=by decide
 exact this n h
theorem tu {n:Nat} (h:n<7):2*(kY n+2000)+1+2000+1<=764000:=vz (n:=n+1) h
theorem IsV.parts {w:World}{a b c d e f:Value}{u:Vl} (h:IsV w (.agg #[a,b,c,d,e,f]) u):IsR w (.agg #[a,b,c]) u.x/\IsR w (.agg #[d,e,f]) u.y:=by
 obtain⟨x1,x2,x3,y1,y2,y3,he,hx,hy⟩:=h;obtain⟨rfl,rfl,rfl,rfl,rfl,rfl⟩:a=x1/\b=x2/\c=x3/\d=y1/\e=y2/\f=y3:=by simpa using he
 exact⟨hx,hy⟩
theorem atN (vp vx:Value) (zs:List CQ) (x:CQ) (w:World) (hp:IsP w vp zs) (hx:IsV w vx (ct x)) (hs:SzL 2000 zs) (hsx:SzV 2000 (ct x)) (hlen:zs.length<=7) :
  Calls Tryz.prog 86 #[vp,vx] w fun e w'=>∃ v',e=.returned v'/\IsV w' v' (ct (atL zs x))/\Below w.heap.size w w':=by
 obtain⟨p,c,rfl,-⟩:=id hp.form;obtain⟨a,b,c',d,e,f,rfl,hax,hay⟩:=id hx;go_enter Tryz.func86,Tryz.ntmps86;go_upto_region 1 with fail
 have q1:=aW.new w a b c' d e f 65;have m1:=ac w (.cells #[a,b,c',d,e,f] 65);have z1:=size_alloc w (.cells #[a,b,c',d,e,f] 65);generalize w.alloc (.cells #[a,b,c',d,e,f] 65)=w1 at *
 have q3:=bm.new w1 (.bool false) (.slice none 0 0) (.slice none 0 0) (.bool false) (.slice none 0 0) (.slice none 0 0) nofun nofun nofun nofun nofun nofun;have m3:=ac w1 (.cells #[.bool false,.slice none 0 0,.slice none 0 0,.bool false,.slice none 0 0,.slice none 0 0] 65);generalize w1.alloc (.cells #[.bool false,.slice none 0 0,.slice none 0 0,.bool false,.slice none 0 0,.slice none 0 0] 65)=w3 at *
 rw[z1] at q3;have q1:=q1.below m3;have MD:=At (m1.trans (m3.mono m1.size));have B3:=At q3;have Q1:=At q1;have HX:=At (hx.below MD.out);have HP:=At (hp.below MD.out);clear q1 q3 m1 m3 z1 hax hay hx hp;go_wp2_with fail
 refine (gn 0 w3 (by decide) (by decide)).mono ?_;rintro e w4 ⟨v4,rfl,hv4,hb4⟩;go_wp2_with fail
 refine (de _ _ _ hv4).mono ?_;rintro e w5 ⟨v5,rfl,hv5,hb5⟩;have hB5:=hb4.trans (hb5.mono hb4.size);have hv5:IsV w5 v5 (ct (CQ.real 0)):=by rw[<-bO];exact hv5
 have hgB:w.heap.size+2<=w5.heap.size:=by have:=B3.out.lt;have:=hB5.size;have:=MD.out.size;omega
 obtain⟨x1,x2,x3,y1,y2,y3,rfl,hx5,hy5⟩:=hv5;obtain⟨xm,xp,xl,xc,xq,xk,xd,hxe⟩:=hx5.form;obtain⟨ym,yp,yl,yc,yq,yk,yd,hye⟩:=hy5.form;obtain⟨rfl,rfl,rfl⟩:=cH hxe;obtain⟨rfl,rfl,rfl⟩:=cH hye;go_upto_region 2 with fail
 have B8:=bm.new w5 (.bool xm) (.slice xp xl xc) (.slice xq xk xd) (.bool ym) (.slice yp yl yc) (.slice yq yk yd) nofun nofun nofun nofun nofun nofun;have m5:=ac w5 (.cells #[.bool xm,.slice xp xl xc,.slice xq xk xd,.bool ym,.slice yp yl yc,.slice yq yk yd] 65);generalize w5.alloc (.cells #[.bool xm,.slice xp xl xc,.slice xq xk xd,.bool ym,.slice yp yl yc,.slice yq yk yd] 65)=wl at *
 generalize hg:w5.heap.size=gB at B8 hgB m5;have hvl:IsV wl (.agg #[.bool xm,.slice xp xl xc,.slice xq xk xd,.bool ym,.slice yp yl yc,.slice yq yk yd]) (ct (CQ.real 0)):=⟨_,_,_,_,_,_,rfl,by rw[<-hg] at m5;exact hx5.below m5,by rw[<-hg] at m5;exact hy5.below m5⟩;have hs3:w3.heap.size<=gB:=by rw[<-hg];exact hB5.size
 have hBl:Below w3.heap.size w3 wl:=hB5.trans (m5.mono hs3);clear hx5 hy5 hb4 hb5 hg hB5;have HZ:iC x zs zs.length=CQ.real 0:=ts x zs;have HB8:=At B8;have HV8:=At hvl;have HBl:=At hBl;clear B8 hvl hBl m5;go_wp2;go_loopw [6] (fun s6 wr=>∃ (j:Nat) (z:Int) (xm:Bool) (xp:Option Addr) (xl xc:Nat) (xq:Option Addr) (xk xd:Nat) (ym:Bool) (yp:Option Addr) (yl yc:Nat) (yq:Option Addr) (yk yd:Nat),s6=.int .i64 z/\z=(j:Int)-1/\j<=zs.length/\bm wr gB (.bool xm) (.slice xp xl xc) (.slice xq xk xd) (.bool ym) (.slice yp yl yc) (.slice yq yk yd)/\IsV wr (.agg #[.bool xm,.slice xp xl xc,.slice xq xk xd,.bool ym,.slice yp yl yc,.slice yq yk yd]) (ct (iC x zs j))/\Below gB wl wr/\Hid (SzV (kY (zs.length-j)) (ct (iC x zs j)))) (fun s6 _=>(intOf s6+1).toNat)
 case atStart=>exact⟨zs.length,_,_,_,_,_,_,_,_,_,_,_,_,_,_,_,rfl,rfl,AA _,HB8.out,by rw[HZ];exact HV8.out,Dv _ _,by unfold Hid;rw[HZ,BL];exact⟨.zero (by decide),.zero (by decide)⟩⟩
 case round =>
  obtain⟨j,z,xm,xp,xl,xc,xq,xk,xd,ym,yp,yl,yc,yq,yk,yd,rfl,hz,hj,hown,hv,hbr,hsz⟩:=hrel;have HB3r:=At (HBl.out.trans (hbr.mono hs3));by_cases h0:j=0
  ·subst h0;obtain rfl:z=-1:=by omega
   obtain⟨hx,hy⟩:=hv.parts;have B8:=B3.out.below HB3r.out;have k0:=B8.cell 0;have k1:=B8.cell 1;have k2:=B8.cell 2;have k3:=B8.cell 3;have k4:=B8.cell 4;have k5:=B8.cell 5;have f0:=B8.fr 0;have f1:=B8.fr 1;have f2:=B8.fr 2;have f3:=B8.fr 3;have f4:=B8.fr 4;have f5:=B8.fr 5;have o0:=hown.cell 0;have o1:=hown.cell 1;have o2:=hown.cell 2;have o3:=hown.cell 3;have o4:=hown.cell 4;have o5:=hown.cell 5;have P:=At (B8.putV hx hy);have M8:=At (P.out.2.2 _ _ (MD.out.trans (HB3r.out.mono MD.out.size)) (by omega));clear hx hy B8 hown hv HB8 HV8 hsz hz;go_wp2_with fail
   have q0:=P.out.1.cell 0;have q1:=P.out.1.cell 1;have q2:=P.out.1.cell 2;have q3:=P.out.1.cell 3;have q4:=P.out.1.cell 4;have q5:=P.out.1.cell 5;refine Du (v:=.agg #[.bool xm,.slice xp xl xc,.slice xq xk xd,.bool ym,.slice yp yl yc,.slice yq yk yd]) (by simp[results,Tryz.results86,go_sem,cP] at q0 q1 q2 q3 q4 q5 |-;simp[results,Tryz.results86,go_sem,q0,q1,q2,q3,q4,q5]) rfl ⟨_,rfl,P.out.2.1,M8.out⟩
  ·obtain⟨k,rfl⟩:∃ k,j=k+1:=⟨j-1,by omega⟩;obtain rfl:z=(k:Int):=by omega
   have hk:k<zs.length:=by omega
   clear HB8 HV8 hz h0;obtain⟨Br,o,rfl,hlt,pm,pp,pl,pc,pq,pk,pd,rm,rp,rl,rc,rq,rk,rd,hkk,a0,a1,a2,a3,a4,a5⟩:=HP.out.get hk;have hstep:=qI x hk;have hzk:=hs _ (AR hk);generalize zs[k]=zk at hkk hstep hzk;have hS6:=tu (n:=zs.length-(k+1)) (by omega);have hSn:kY (zs.length-k)=2*(kY (zs.length-(k+1))+2000)+1+2000+1:=by rw[show zs.length-k=zs.length-(k+1)+1 from by omega];rfl
   have F1:=At (hsz.out.fewV hsx (by omega));have hz1:=hsz.out.times hsx;rw[a6] at hz1;have F2:=At (And.intro (hz1.x.fewR hzk.x (by omega)) (hz1.y.fewR hzk.y (by omega)));have hz2:=hz1.plus hzk;rw[cW,<-hstep,<-hSn] at hz2;have HZ2:=At hz2;have HST:=At hstep;have hgr:gB<wr.heap.size:=hown.lt;clear hz1 hz2 hstep hS6 hSn hzk hsz;go_upto_region 5 with fail
   have m4:Below wr.heap.size wr wr.drew:=(Dv _ _).drew;refine ai (fun w'=>∃ x:ax gB wr.drew,w'=x.w) (fun i=>i == 0||i == 2||i == 7||i == 8) (by kernel_rfl) (by kernel_rfl) ⟨⟨_,Dv _ _⟩,rfl⟩ ?_;generalize wr.drew=wd at *
   have hB0:Below wd.heap.size wd wd:=Dv _ _;have hz:gB<=wd.heap.size:=by have:=m4.size;omega
   have HB3d:=HB3r.out.trans (m4.mono HB3r.out.size);have e1:=fun x:ax gB wd=>(Q1.out.below HB3d).at x.h (by omega);have b0:=fun x=>(e1 x).c0;have b01:=fun x=>(e1 x).c1;have b02:=fun x=>(e1 x).c2;have b03:=fun x=>(e1 x).c3;have b04:=fun x=>(e1 x).c4;have b05:=fun x=>(e1 x).c5;have r0:=fun x:ax gB wd=>(x.h.cell (p:=⟨Br,o+k*6,none⟩) (by show Br<gB;omega)).trans ((HB3d.cell (p:=⟨Br,o+k*6,none⟩) hlt).trans a0);have r1:=fun x:ax gB wd=>(x.h.cell (p:=⟨Br,o+k*6+1,none⟩) (by show Br<gB;omega)).trans ((HB3d.cell (p:=⟨Br,o+k*6+1,none⟩) hlt).trans a1);have r2:=fun x:ax gB wd=>(x.h.cell (p:=⟨Br,o+k*6+2,none⟩) (by show Br<gB;omega)).trans ((HB3d.cell (p:=⟨Br,o+k*6+2,none⟩) hlt).trans a2);have r3:=fun x:ax gB wd=>(x.h.cell (p:=⟨Br,o+k*6+3,none⟩) (by show Br<gB;omega)).trans ((HB3d.cell (p:=⟨Br,o+k*6+3,none⟩) hlt).trans a3);have r4:=fun x:ax gB wd=>(x.h.cell (p:=⟨Br,o+k*6+4,none⟩) (by show Br<gB;omega)).trans ((HB3d.cell (p:=⟨Br,o+k*6+4,none⟩) hlt).trans a4);have r5:=fun x:ax gB wd=>(x.h.cell (p:=⟨Br,o+k*6+5,none⟩) (by show Br<gB;omega)).trans ((HB3d.cell (p:=⟨Br,o+k*6+5,none⟩) hlt).trans a5);have Q:=At (hown.below m4);have o0:=Q.out.cell 0;have o1:=Q.out.cell 1;have o2:=Q.out.cell 2;have o3:=Q.out.cell 3;have o4:=Q.out.cell 4;have o5:=Q.out.cell 5;have HVd:=At (hv.below m4);have HXd:=At (HX.out.below HB3d);have HKd:=At (hkk.v.below HB3d);have HBw:=At (hbr.trans (m4.mono (Cy hgr)));clear e1 hown hv hkk hbr a0 a1 a2 a3 a4 a5 HB3d m4 HP HX;refine af rfl rfl (fun K hK=>?_)
   go_simp;refine hK _ _ ⟨⟨_,hB0.mono hz⟩,rfl⟩ ?_;clear hK K;try simp only[Act.put,Ax,Aw,Av,Au,Ay,Az]
   refine ae 1 1 _ _ _ (by kernel_rfl) ?_;simp only[AC,AG,AB,AF];repeat (go_big_quiet_step (fail))
   refine wpQuiet_nil ?_;refine af rfl rfl (fun K hK=>?_);go_simp;refine (ff _ _ _ _ _ HVd.out HXd.out F1.out).mono ?_;rintro e w6 ⟨v6,rfl,hv6,hb6⟩;rw[a6] at hv6;refine hK _ _ ⟨⟨_,hb6.mono hz⟩,rfl⟩ ?_;clear hK K;try simp only[Act.put,Ax,Aw,Av,Au,Ay,Az]
   refine ae 4 3 _ _ _ (by kernel_rfl) ?_;simp only[AC,AG,AB,AF];repeat (go_big_quiet_step (fail))
   refine wpQuiet_nil ?_;refine af rfl rfl (fun K hK=>?_);go_simp;refine (nI _ _ _ _ _ hv6 (HKd.out.below hb6) F2.out.1 F2.out.2).mono ?_;rintro e w7 ⟨v7,rfl,hv7,hb7⟩;have hB7:=hb6.trans (hb7.mono hb6.size);rw[cW,<-HST.out] at hv7;refine hK _ _ ⟨⟨_,hB7.mono hz⟩,rfl⟩ ?_;clear hK K;try simp only[Act.put,Ax,Aw,Av,Au,Ay,Az]
   obtain⟨x1,x2,x3,y1,y2,y3,rfl,hx,hy⟩:=hv7;obtain⟨sm,sp,sl,sc,sq,sk,sd,hxe⟩:=hx.form;obtain⟨tm,tp,tl,tc,tq,tk,td,hye⟩:=hy.form;obtain⟨rfl,rfl,rfl⟩:=cH hxe;obtain⟨rfl,rfl,rfl⟩:=cH hye;have B8:=Q.out.below hB7;have k0:=B8.cell 0;have k1:=B8.cell 1;have k2:=B8.cell 2;have k3:=B8.cell 3;have k4:=B8.cell 4;have k5:=B8.cell 5;have f0:=B8.fr 0;have f1:=B8.fr 1;have f2:=B8.fr 2;have f3:=B8.fr 3;have f4:=B8.fr 4;have f5:=B8.fr 5;have P:=At (B8.putV hx hy);refine af rfl rfl (fun K hK=>?_);go_simp;refine hK undef _ ⟨⟨_,P.out.2.2 _ _ (hB7.mono hz) (AA _)⟩,rfl⟩ ?_;clear hK K;try simp only[Act.put,Ax,Aw,Av,Au,Ay,Az]
   refine av ?_;have M8:=At (P.out.2.2 gB wl (HBw.out.trans (hB7.mono hz)) (AA _));clear hx hy hxe hye B8 k0 k1 k2 k3 k4 k5 f0 f1 f2 f3 f4 f5 o0 o1 o2 o3 o4 o5 hv6 hb6 hb7 hB0 r0 r1 r2 r3 r4 r5 b0 b01 b02 b03 b04 b05;go_wp2;go_roundw;case rel=>exact⟨k,_,_,_,_,_,_,_,_,_,_,_,_,_,_,_,rfl,by go_num,by omega,P.out.1,P.out.2.1,M8.out,HZ2.out⟩
   case measure=>simp[intOf]<;>omega
end Go.Proofs.YtgakllaobooabaaGreatDoor
