/- L -/
import Derived.RangeFuncNested
import Derived.RangeFuncBound
import Derived.RangeFuncCalls
import Derived.RangeFuncLeaves
import Derived.Shelf.Abstract
import Derived.Shelf.RegionOpen
import Derived.OwnWalkIn
import Derived.TacticsInMore
import Derived.LoopNIn
import Derived.LoopIn
import Derived.OwnWalk
import Derived.Test.YtmakbmhlemhgeaaGreatDoorWPM4
import Derived.Test.YtmakbmhlemhgeaaGreatDoorWB
set_option linter.all false
set_option maxRecDepth 100000
set_option maxHeartbeats 8000000
namespace Go.Proofs.YtmakbmhlemhgeaaGreatDoor
open Go.RowKit Dg
inductive nH:List CQ->List CQ->Prop
 | one (c:CQ) (h:c≠⟨0,0⟩) (hs:SzV 300 (ct c)):nH [c] []
 | two (a c:CQ) (h:c≠⟨0,0⟩) (hs:SzV 300 (ct a)) (hc:SzV 300 (ct c)):nH [a,c] [c]
theorem pi {k:Nat} (h:10<=k):SzV k (ct (CQ.real 1)):=SzV.mono (sj (n:=1) (by decide)) h
theorem DM (vp vq:Value) (zs qs:List CQ) (w:World) (hp:IsP w vp zs) (hq:IsP w vq qs) (hpq:nH zs qs) :
  Calls Tryz.prog 186 #[vp,vq] w fun e w'=>∃ v,e=.returned v/\IsP w' v [CQ.real 1]/\Below w.heap.size w w':=by
 go_enter Tryz.func186,Tryz.ntmps186;go_wp2;go_loopw [0,1] (fun s0 s1 wr=>∃ ps rs,IsP wr s0 ps/\IsP wr s1 rs/\nH ps rs/\Below w.heap.size w wr) (fun _ s1 _=>vO s1)
 case atStart=>exact⟨zs,qs,hp,hq,hpq,Ki _ _⟩
 case round =>
  clear hp hq hpq;obtain⟨ps,rs,hp,hq,hpq,hbr⟩:=hrel
  cases hpq with
  | two a c hc hsa hsc =>
   obtain⟨p,cp,rfl,-⟩:=id hp.form;obtain⟨q,cq,rfl,-⟩:=id hq.form
   have HO:=GF (vU _ _ [a,c] c wr hp hq hc (by simp) (by simp) (fun z hz=>by
    simp only[Ir,Jn,or_false] at hz;rcases hz with rfl | rfl
    ·exact hsa
    ·exact hsc) hsc)
   have HQ:=GF hq;have HP2:=GF (nH.one c hc hsc);clear hp hq hc hsa hsc;go_wp2_with fail
   refine HO.out.mono ?_;rintro e w2 ⟨v1,v2,rfl,hv1,hv2,hb2⟩;have hq2:=HQ.out.below hb2;have hB2:=hbr.trans (hb2.mono hbr.size);obtain⟨p2,c2,rfl,-⟩:=id hv2.form;clear hbr hb2 HQ HO;go_wp2;go_roundw;case rel=>exact⟨_,_,hq2,hv2,HP2.out,hB2⟩
   case measure=>simp[vO]
  | one c hc hsc =>
   obtain⟨p,cp,rfl,-⟩:=id hp.form;obtain⟨q,cq,rfl,-⟩:=id hq.form;go_upto_region 6 with fail
   obtain⟨b,o,rfl,hlt,xm,xp,xl,xc,xq,xk,xd,ym,yp,yl,yc,yq,yk,yd,hk,a0,a1,a2,a3,a4,a5⟩:=hp.get (i:=0) (by simp);simp only[Iu,Hq,GH] at hk a0 a1 a2 a3 a4 a5;have hBd:Below wr.heap.size wr wr.drew:=(Ki _ _).drew;have HP:=GF (hp.below hBd);have HK:=GF (hk.below hBd);have HB:=GF (hbr.trans (hBd.mono hbr.size));refine aB (fun w'=>∃ x:aL wr.drew.heap.size wr.drew,w'=x.w) (fun i=>i == 1||i == 2||i == 9||i == 10) (by kernel_rfl) (by kernel_rfl) ⟨⟨_,Ki _ _⟩,rfl⟩ ?_;have hz:wr.drew.heap.size<=wr.drew.heap.size:=GM _;have hltd:b<wr.drew.heap.size:=GN hlt hBd.size;have d0:=aj hBd hlt a0;have d1:=aj hBd hlt a1;have d2:=aj hBd hlt a2;have d3:=aj hBd hlt a3;have d4:=aj hBd hlt a4;have d5:=aj hBd hlt a5;clear hp hq hk hbr hBd a0 a1 a2 a3 a4 a5;generalize wr.drew=wd at *
   have c0:=fun x:aL wd.heap.size wd=>aj x.h hltd d0;have c1:=fun x:aL wd.heap.size wd=>aj x.h hltd d1;have c2:=fun x:aL wd.heap.size wd=>aj x.h hltd d2;have c3:=fun x:aL wd.heap.size wd=>aj x.h hltd d3;have c4:=fun x:aL wd.heap.size wd=>aj x.h hltd d4;have c5:=fun x:aL wd.heap.size wd=>aj x.h hltd d5;clear d0 d1 d2 d3 d4 d5;refine aq 1 0 _ _ _ (by kernel_rfl) ?_;simp only[GP,GS,GQ,GR];repeat (go_big_quiet_step (fail))
   refine wpQuiet_nil ?_;refine ar rfl rfl (fun K hK=>?_);go_simp;refine (kp 1 wd (by decide) (by decide)).mono ?_;rintro e w4 ⟨v4,rfl,hv4,hb4⟩;refine hK _ _ ⟨⟨_,hb4.mono hz⟩,rfl⟩ ?_;clear hK K;try simp only[Act.put,GJ,GI,GH,GG,GL,GK]
   refine ar rfl rfl (fun K hK=>?_);go_simp;refine (ft _ _ _ hv4).mono ?_;rintro e w5 ⟨v5,rfl,hv5,hb5⟩;have hB5:=hb4.trans (hb5.mono hb4.size);rw[dP] at hv5;refine hK _ _ ⟨⟨_,hB5.mono hz⟩,rfl⟩ ?_;clear hK K;try simp only[Act.put,GJ,GI,GH,GG,GL,GK]
   refine aq 6 3 _ _ _ (by kernel_rfl) ?_;simp only[GP,GS,GQ,GR];repeat (go_big_quiet_step (fail))
   refine wpQuiet_nil ?_;refine ar rfl rfl (fun K hK=>?_);go_simp;refine (rV _ _ _ _ 300 300 w5 hv5 (HK.out.below hB5).v (pi (by decide)) hsc (oI hc) (by decide)).mono ?_;rintro e w6 ⟨v6,rfl,hv6,hb6⟩;have hB6:=hB5.trans (hb6.mono hB5.size);rw[ka hc] at hv6;refine hK _ _ ⟨⟨_,hB6.mono hz⟩,rfl⟩ ?_;clear hK K;try simp only[Act.put,GJ,GI,GH,GG,GL,GK]
   refine ar rfl rfl (fun K hK=>?_);go_simp
   refine (yh _ _ [c] _ w6 (HP.out.below hB6) ⟨hv6,C5 (pi (by decide)) hsc hc⟩ (fun z hz=>by
    simp only[Ir,Jn,or_false] at hz;subst hz;have h1:=CQ.mul_inv hc;rw[show CQ.real ((1:Int):Rat)=CQ.real 1 from rfl,h1]
    exact pi (by decide)) (by simp)).mono ?_
   rintro e w7 ⟨v7,rfl,hv7,hb7⟩;have hB7:=hB6.trans (hb7.mono hB6.size);rw[show CQ.real ((1:Int):Rat)=CQ.real 1 from rfl,uy hc] at hv7;refine hK _ _ ⟨⟨_,hB7.mono hz⟩,rfl⟩ ?_;clear hK K;try simp only[Act.put,GJ,GI,GH,GG,GL,GK]
   refine aq 1 11 _ _ _ (by kernel_rfl) ?_;simp only[GP,GS,GQ,GR];repeat (go_big_quiet_step (fail))
   refine wpQuiet_nil ?_;refine aH ?_;have HF:=GF (HB.out.trans (hB7.mono HB.out.size));clear hB5 hB6 hB7 hb4 hb5 hb6 hb7 hv4 hv5 hv6 HB HP HK c0 c1 c2 c3 c4 c5;go_wp2;go_ret;exact⟨_,rfl,hv7,HF.out⟩
open Go.RowKit Go.Shelf Dg
theorem Fc (v:Value) (zs:List CQ) (w:World) (hl:IsP w v zs) :
  Calls Tryz.prog 230 #[v] w fun e w'=>e=.returned (.func (.func 257) #[] #[.pointer (some ⟨w.heap.size,0,none⟩)])/\w'.heap[w.heap.size]?=some (.cells #[v] 143 (0,0))/\w.heap.size<w'.heap.size/\IsP w' v zs/\Below w.heap.size w w':=by
 obtain⟨p,c,rfl,-⟩:=id hl.form;have c0:=heap_alloc_new w (.cells #[.slice p zs.length c] 143 (0,0));have m1:=au w (.cells #[.slice p zs.length c] 143);have z1:=size_alloc w (.cells #[.slice p zs.length c] 143);have HL:=GF (hl.below m1);have H0:=GF (And.intro c0 (And.intro (show w.heap.size<(w.alloc (.cells #[.slice p zs.length c] 143)).heap.size by omega) m1));clear c0 m1 z1 hl;go_enter Tryz.func230,Tryz.ntmps230;go_wp2;go_ret;exact⟨rfl,H0.out.1,H0.out.2.1,HL.out,H0.out.2.2⟩
theorem dX {w:World}{g:Nat}{v:Value}{T:TypeId} (h:w.heap[g]?=some (.cells #[v] T (0,0))):w.cell? ⟨g,0,none⟩=some v/\w.frozen? ⟨g,0,none⟩=false:=by
 constructor
 ·rw[World.cell?,h];rfl
 ·rw[World.frozen?,h];simp
theorem nL {w:World}{g:Nat}{v:Value}{T:TypeId} (h:w.heap[g]?=some (.cells #[v] T (0,0))) (hv:∀ z,v≠.int .u64 z):sG (fun k=>k=g) An w:=by
 rintro k rfl j u hc;rw[World.cell?,h] at hc;simp only[Hz,G8,if_false] at hc
 have hj:j=0:=by
  have:=(GT.1 hc).1;simpa using this
 subst hj;simp at hc;subst hc;rintro (h | ⟨z,e⟩)
 ·omega
 ·exact hv z e
theorem fC.pair {zs:List CQ} (h:fC zs) (hs:SzL 300 zs):nH zs (yY zs):=by
 cases h with
 | one c h=>rw[AZ];exact .one c h (hs c (by simp))
 | two a c h=>rw[A0 h];exact .two a c h (hs a (by simp)) (hs c (by simp))
theorem C6:SzV 10000 (ct (CQ.real (((-1:Int)):Rat))):=by
 rw[show CQ.real (((-1:Int)):Rat)=(CQ.real 1).neg from by decide,<-rQ];exact (pi (by decide)).neg
def Ap (zs:List CQ) (i:Nat) (W:World) (vs:Array Value):Prop:=∃ v l,vs=#[v]/\(cG zs)[i]?=some l/\IsP W v l
attribute [local go_sem] Oper.semAt_some
theorem sP (n:Nat) (hn:3<=n) (g:Nat) (vp:Value) (zs:List CQ) (w:World) (Sb:Nat->Prop) (hbox:w.heap[g]?=some (.cells #[vp] 143 (0,0))) (hp:IsP w vp zs) (h2:fC zs) (hs:SzL 300 zs) (hsb:¬ Sb g) :
  uX Fence.wide n Tryz.prog 257 #[] #[.pointer (some ⟨g,0,none⟩)] (Ap zs) (cG zs).length Sb (fun k=>k=g) (sG Sb An) w:=by
 intro l J W hW hJ hOk hY h0;have hgl:g<w.heap.size:=(GT.1 hbox).1;have hb0:=(hW.block g hgl).trans hbox;have hpW:=hp.below hW;have HY:=GF hY;have HJ:=GF hJ;have HOK:=GF hOk;have HPR:=GF (h2.pair hs)
 have HFIT:=GF (show ∀ z∈zs,∀ n:Nat,n<33->SzV 10000 (ct (z.mul (CQ.real ((n:Nat):Int)))) from fun z hz n hn=>by
  rw[<-cV]
  exact ((hs z hz).times (sj (by omega))).mono (by decide))
 have hzl:zs.length<=33:=by cases h2<;>simp
 obtain⟨p,c,rfl,-⟩:=id hpW.form;have HP:=GF hpW;have HB:=GF hb0;have c0:=(dX hb0).1;clear hW hY hJ hOk hbox hp hpW h2 hs hb0;refine callsIn_of_wp Tryz.func257 rfl trivial ?_ rfl;simp only[Tryz.ntmps257,JB,G_,Id,Nat.reduceAdd,Nat.reduceSub,Jj,Jk,JA,Jq,Hh,Hn]
 gi_wp2_with fail
 refine⟨trivial,fun _=>by omega,(callsIn_wide.2 (th _ zs W HP.out HFIT.out hzl)).mono ?_⟩;rintro e W2 ⟨q,rfl,hq,hb2⟩;have HB2:=GF ((hb2.block g (GT.1 HB.out).1).trans HB.out);have HP2:=GF (HP.out.below hb2);have h02:=HJ.out _ _ _ h0 (cT.of_below hb2);clear h0 hb2 c0 HB HP
 gi_wp2
 gi_loopw [3] (fun s3 wr=>∃ (i:Nat) (vp:Value) (ps qs:List CQ),wr.heap[g]?=some (.cells #[vp] 143 (0,0))/\IsP wr vp ps/\IsP wr s3 qs/\nH ps qs/\J i wr/\Hid ((cG zs).drop i=cG ps)) (fun s3 _=>vO s3)
 case atStart=>exact⟨0,_,_,_,HB2.out,HP2.out,hq,HPR.out,h02,rfl⟩
 case round =>
  clear HB2 HP2 hq HPR h02;obtain⟨i,vp,ps,qs,hbx,hp,hq,hpq,hJi,hdrop⟩:=hrel;obtain⟨p,cp,rfl,-⟩:=id hp.form;obtain⟨qp,cq,rfl,-⟩:=id hq.form;have c0:=(dX hbx).1;have hgl:=(GT.1 hbx).1
  cases hpq with
  | one a ha hsa =>
   have hdrop':(cG zs).drop i=[[a]]:=hdrop.out
   have hi:i<(cG zs).length:=by
    have:=congrArg List.length hdrop';simp at this;omega
   have hlen:(cG zs).length=i+1:=by
    have:=congrArg List.length hdrop';simp at this;omega
   have hget:(cG zs)[i]?=some [a]:=by
    have:=IL (xs:=cG zs) (i:=i) (j:=0);rw[hdrop'] at this;simpa using this.symm
   obtain⟨fn,tmps,assign,body,hy,hR⟩:=HY.out i hi wr #[.slice p [a].length cp] hJi ⟨_,_,rfl,hget,hp⟩;clear HY HJ HOK hJi hp hq hdrop hdrop' hget;have hy:(Instr.yield l #[.slice p 1 cp]).run Tryz.prog wr=.ok (.round l fn tmps assign body) wr:=hy
   gi_wp2
   refine⟨fun _=>by omega,hR.mono ?_⟩;rintro e W' ⟨rfl,hJ',hT⟩
   gi_wp2
   refine Kh (v:=.tuple #[]) (by simp[results,Tryz.results257,go_sem]) rfl ⟨⟨_,rfl⟩,by rw[hlen];exact hJ'⟩
  | two a b hb hsa hsb =>
   have hdrop':(cG zs).drop i=[[a,b],[b]]:=hdrop.out
   have hi:i<(cG zs).length:=by
    have:=congrArg List.length hdrop';simp at this;omega
   have hdrop2:(cG zs).drop (i+1)=[[b]]:=by
    have:=congrArg (List.drop 1) hdrop'
    rwa [List.drop_drop] at this
   have hget:(cG zs)[i]?=some [a,b]:=by
    have:=IL (xs:=cG zs) (i:=i) (j:=0);rw[hdrop'] at this;simpa using this.symm
   obtain⟨fn,tmps,assign,body,hy,hR⟩:=HY.out i hi wr #[.slice p [a,b].length cp] hJi ⟨_,_,rfl,hget,hp⟩;have hsafe:=HOK.out _ _ hJi;have HQ:=GF hq;have HP:=GF hp;have HBX:=GF hbx;have HD2:=GF hdrop2;have hy:(Instr.yield l #[.slice p 2 cp]).run Tryz.prog wr=.ok (.round l fn tmps assign body) wr:=hy;clear hJi hp hq hdrop hdrop' hdrop2 hget hbx
   gi_wp2
   refine⟨fun _=>by omega,hR.mono ?_⟩;rintro e W' ⟨rfl,hJ',hT⟩;have hkeep:=jN.of_turns hT hsafe;have HQ:=GF (HQ.out.keep hkeep);have HP:=GF (HP.out.keep hkeep);have HBX:=GF ((hT.block g hgl ‹¬ Sb g›).trans HBX.out);have c0:=(dX HBX.out).1;have HJ':=GF hJ';clear hR hy hT hsafe hkeep hJ' HY
   gi_wp2_with fail
   refine⟨trivial,fun _=>by omega,(callsIn_wide.2 (vU _ _ [a,b] b W' HP.out HQ.out hb (by simp) (by simp) (fun z hz=>by
    simp only[Ir,Jn,or_false] at hz;rcases hz with rfl | rfl
    ·exact hsa
    ·exact hsb) hsb)).mono ?_⟩
   rintro e W3 ⟨v1,v2,rfl,hv1,hv2,hb3⟩;obtain⟨p2,c2,rfl,-⟩:=id hv2.form;have HQ:=GF (HQ.out.below hb3);have HBX:=GF ((hb3.block g (GT.1 HBX.out).1).trans HBX.out);have HJ':=GF (HJ.out _ _ _ HJ'.out (cT.of_below hb3));have HV2:=GF hv2;clear HP c0 hb3 hv1 hv2
   gi_wp2_with fail
   refine⟨trivial,fun _=>by omega,(callsIn_wide.2 (kp (-1) W3 (by decide) (by decide))).mono ?_⟩;rintro e W4 ⟨v4,rfl,hv4,hb4⟩
   gi_wp2_with fail
   refine⟨trivial,fun _=>by omega,(callsIn_wide.2 (ft _ _ _ hv4)).mono ?_⟩;rintro e W5 ⟨v5,rfl,hv5,hb5⟩;rw[dP] at hv5;have hB5:=hb4.trans (hb5.mono hb4.size)
   gi_wp2_with fail
   refine⟨trivial,fun _=>by omega,(callsIn_wide.2 (yh _ _ [] _ W5 (HV2.out.below hB5) ⟨hv5,C6⟩ (fun z hz=>by cases hz) (by simp))).mono ?_⟩;rintro e W6 ⟨v6,rfl,hv6,hb6⟩;rw[show r_ [] (CQ.real (((-1:Int)):Rat))=[] from rfl] at hv6;have hB6:=hB5.trans (hb6.mono hB5.size);obtain⟨p6,c6,rfl,-⟩:=id hv6.form;have HQ:=GF (HQ.out.below hB6);have HBX:=GF ((hB6.block g (GT.1 HBX.out).1).trans HBX.out);have HJ':=GF (HJ.out _ _ _ HJ'.out (cT.of_below hB6));have HS6:=GF (nL HBX.out nofun);obtain⟨k0,f0⟩:=dX HBX.out;have hT:=cT.set (S:=fun k=>k=g) (w:=W6) rfl 0 (.slice qp [b].length cq);have hK:=jN.of_turns hT HS6.out;have HQ:=GF (HQ.out.keep hK);have HV6:=GF (hv6.keep hK);have HJ':=GF (HJ.out _ _ _ HJ'.out hT);have HBX:=GF (heap_setCell_same W6 g 0 _ _ (.slice qp [b].length cq) HBX.out);clear hB5 hB6 hb4 hb5 hb6 hv4 hv5 hv6 HV2 HS6 hT hK
   gi_wp2
   go_roundw;case rel=>exact⟨i+1,_,[b],[],HBX.out,HQ.out,HV6.out,.one b hb hsb,HJ'.out,HD2.out⟩
   case measure=>simp[vO]
theorem tA {c x:CQ} (hc:SzV 300 (ct c)) (hx:SzV 2000 (ct x)):SzV 20000 (ct (atL [c] x)):=by
 show SzV 20000 (ct (((⟨0,0⟩:CQ).mul x).add c))
 rw[<-fW,<-cV];exact (((show SzV 1 (ct ⟨0,0⟩) from⟨.zero (by decide),.zero (by decide)⟩).times hx).plus hc).mono (by decide)
theorem Bp {a c x:CQ} (ha:SzV 300 (ct a)) (hc:SzV 300 (ct c)) (hx:SzV 2000 (ct x)):SzV 20000 (ct (atL [a,c] x)):=by
 show SzV 20000 (ct (((((⟨0,0⟩:CQ).mul x).add c).mul x).add a))
 rw[<-fW,<-cV,<-fW,<-cV];exact (((((show SzV 1 (ct ⟨0,0⟩) from⟨.zero (by decide),.zero (by decide)⟩).times hx).plus hc).times hx).plus ha).mono (by decide)
/-- an element of the chain is short, and so is its value -/
theorem AM {zs : List CQ} (h : fC zs) (hs : SzL 300 zs) {x : CQ} (hx : SzV 2000 (ct x)) {i : Nat} {l : List CQ} (hl : (cG zs)[i]? = some l) : SzL 300 l /\ l.length <= 7 /\ SzV 20000 (ct (atL l x)) := by
  cases h with
  | one c h =>
    match i, hl with
    | 0, hl => obtain rfl : [c] = l := by simpa [cG] using hl
               exact ⟨hs, by simp, tA (hs c (by simp)) hx⟩
    | i + 1, hl => simp [cG] at hl
  | two a c h =>
    match i, hl with
    | 0, hl => obtain rfl : [a, c] = l := by simpa [cG] using hl
               exact ⟨hs, by simp, Bp (hs a (by simp)) (hs c (by simp)) hx⟩
    | 1, hl => obtain rfl : [c] = l := by simpa [cG] using hl
               refine ⟨fun z hz => ?_, by simp, tA (hs c (by simp)) hx⟩
               exact hs z (by simp at hz; simp [hz])
    | i + 2, hl => simp [cG] at hl
theorem vj (a b:Rat):-1<=lz a b/\lz a b<=1:=by
 unfold lz
 split
 ·decide
 ·split<;>decide
theorem uV (a:Tmp) (v:Value) (t:Array Value):(#[a].zip #[v]).foldl (fun t (p,v)=>t.setIfInBounds p v) t=t.setIfInBounds a v:=by simp
def ChgI (w:World) (b3:Nat) (x0 x1 x2:Value) (x:Rat) (zs:List CQ) (i:Nat) (W:World):Prop :=
 ∃ n last:Int,sS x ((cG zs).take i)=(n,last)/\W.heap[b3]?=some (.cells #[x0,x1,x2] 106 (0,0))/\W.heap[b3+1]?=some (.cells #[.int .i64 n] 3 (0,0))/\W.heap[b3+1+1]?=some (.cells #[.int .i64 last] 3 (0,0))/\Below w.heap.size w W/\0<=n/\n<=i/\-1<=last/\last<=1
attribute [local go_sem] Oper.semAt_some
theorem sQ (vp vx:Value) (zs:List CQ) (x:Rat) (w:World) (hp:IsP w vp zs) (hx:IsR w vx (rt x)) (hsx:Sz 2000 (rt x)) (h2:fC zs) (hs:SzL 300 zs) :
  Calls Tryz.prog 188 #[vp,vx] w fun e w'=>e=.returned (.int .i64 (dL zs x))/\Below w.heap.size w w':=by
 obtain⟨xm,xp,xl,xc,xq,xk,xd,rfl⟩:=hx.form;obtain⟨p,c,rfl,-⟩:=id hp.form;have hx0:=hx;refine (callsIn_wide (n:=9)).1 ?_;refine callsIn_of_wp_marks Tryz.func188 rfl trivial ?_ rfl;simp only[Tryz.ntmps188,JB,G_,Id,Nat.reduceAdd,Nat.reduceSub,Jj,Jk,JA,Jq,Hh,Hn]
 gi_wp2_with fail
 have m1:=au w (.cells #[.bool xm,.slice xp xl xc,.slice xq xk xd] 106);have z1:=size_alloc w (.cells #[.bool xm,.slice xp xl xc,.slice xq xk xd] 106);have r1:=heap_alloc_new w (.cells #[.bool xm,.slice xp xl xc,.slice xq xk xd] 106 (0,0));generalize w.alloc (.cells #[.bool xm,.slice xp xl xc,.slice xq xk xd] 106)=w1 at *
 have m2:=au w1 (.cells #[.int .i64 0] 3);have z2:=size_alloc w1 (.cells #[.int .i64 0] 3);have r2:=heap_alloc_new w1 (.cells #[.int .i64 0] 3 (0,0));generalize w1.alloc (.cells #[.int .i64 0] 3)=w2 at *
 have m3:=au w2 (.cells #[.int .i64 0] 3);have z3:=size_alloc w2 (.cells #[.int .i64 0] 3);have r3:=heap_alloc_new w2 (.cells #[.int .i64 0] 3 (0,0));generalize w2.alloc (.cells #[.int .i64 0] 3)=w3 at *
 have hM3:=(m1.trans (m2.mono m1.size)).trans (m3.mono (by omega));have hz3:w3.heap.size=w.heap.size+3:=by omega
 obtain⟨b3,hb3⟩:∃ b,b=w.heap.size:=⟨_,rfl⟩;rw[z1] at r2;rw[z2,z1] at r3;rw[<-hb3] at r1 r2 r3 hz3 |-;have R1:=(m3.block b3 (by omega)).trans ((m2.block b3 (by omega)).trans r1);have R2:=(m3.block (b3+1) (by omega)).trans r2;have hp3:=hp.below hM3;have hx3:=hx.below hM3;clear m1 z1 r1 m2 z2 r2 m3 z3 hp hx;refine⟨trivial,(callsIn_wide.2 (Fc _ zs w3 hp3)).mono ?_⟩;rintro e w4 ⟨rfl,hbc,hltc,hp4,hb4⟩;have R1:=(hb4.block b3 (by omega)).trans R1;have R2:=(hb4.block (b3+1) (by omega)).trans R2;have R3:=(hb4.block (b3+1+1) (by omega)).trans r3;have hx4:=hx3.below hb4;have hM4:=hM3.trans (hb4.mono (by omega));obtain⟨gc,hgc⟩:∃ g,g=w3.heap.size:=⟨_,rfl⟩;rw[<-hgc] at hbc hltc |-;have hgb:gc=b3+3:=by omega
 have HB3:=GF hb3;have HX4:=GF hx4;have HX:=GF hx0;have hgb1:gc≠b3:=by omega
 have hgb2:gc≠b3+1:=by omega
 have hgb3:gc≠b3+1+1:=by omega
 have hb3w:w.heap.size<=b3:=by omega
 have hgw:w.heap.size<=gc:=by omega
 clear hp3 hx3 hM3 hb4 r3 hgc hb3 hx0 hx4 hz3 hgb
 gi_wp2
 refine mT (gf:=257) (bnd:=#[]) (lb:=#[.pointer (some ⟨gc,0,none⟩)]) (E:=Ap zs) (len:=(cG zs).length) (Sb:=fun k=>k=b3+1\/k=b3+1+1) (Si:=fun k=>k=gc) (Ok:=sG (fun k=>k=b3+1\/k=b3+1+1) An) rfl (by omega) rfl trivial ?eg ?hSb ?hSi (sP 8 (by omega) gc _ zs w4 _ hbc hp4 h2 hs (by omega)) ?hps
  (ChgI w b3 (.bool xm) (.slice xp xl xc) (.slice xq xk xd) x zs) ?hI ?hOk ?h0
  (fun i a W=>∃ v l,a={ tmps:=#[.slice p zs.length c,.agg #[.bool xm,.slice xp xl xc,.slice xq xk xd],undef,.pointer (some ⟨b3,0,none⟩),.int .i64 0,.pointer (some ⟨b3+1,0,none⟩),.pointer (some ⟨b3+1+1,0,none⟩),v,undef,.slice p zs.length c,.func (.func 257) #[] #[.pointer (some ⟨gc,0,none⟩)],v,undef,undef,undef,undef,undef,undef,undef,undef,undef,undef,undef,undef,undef,undef,undef,undef,undef],defers:=[] }/\(cG zs)[i]?=some l/\IsP W v l/\ChgI w b3 (.bool xm) (.slice xp xl xc) (.slice xq xk xd) x zs i W) ?hI1 ?hassign ?hbody ?hdone
 case eg=>exact cD Tryz.func257 rfl (by kernel_rfl)
 case hSb=>rintro k (rfl | rfl)<;>exact (GT.1 (by assumption)).1
 case hSi=>rintro k rfl;exact hltc
 case hps=>rintro i W vs ⟨v,l,rfl,-,-⟩;rfl
 case hI =>
  rintro i W W' ⟨n,last,h1,h2,h3,h4,h5,h6⟩ hB;exact⟨n,last,h1,hB.cells h2 (by omega),hB.cells h3 (by omega),hB.cells h4 (by omega),hB.below h5 hM4.size h5.size (fun k e=>by omega),h6⟩
 case hOk =>
  rintro i W ⟨n,last,-,-,h3,h4,-⟩ k hk j u hc;rcases hk with rfl | rfl
  ·exact nL h3 nofun _ rfl j u hc
  ·exact nL h4 nofun _ rfl j u hc
 case h0=>exact⟨0,0,rfl,R1,R2,R3,hM4,by omega,by omega,by omega,by omega⟩
 case hI1 =>
  rintro i a W W' ⟨v,l,e,hl,hv,n,last,h1,h2,h3,h4,h5,h6⟩ hB;exact⟨v,l,e,hl,hv.keep (jN.of_bes hB (fun k hk=>hk.elim)),n,last,h1,hB.cells h2 id,hB.cells h3 id,hB.cells h4 id,hB.below h5 hM4.size h5.size (fun k e=>e.elim),h6⟩
 case hassign =>
  rintro l i hi W vs hI ⟨v,lc,rfl,hl,hv⟩;rw[uV];simp only[GG,GL,GK]
  gi_wp2
  exact⟨cT.refl _ _,v,lc,rfl,hl,hv,hI⟩
 case hbody =>
  rintro l i hi a₁ W ⟨v,lc,rfl,hl,hv,n,last,h1,h2',h3,h4,h5,h6⟩;obtain⟨hs3,hl7,hsa⟩:=AM h2 hs (x:=CQ.real x) ⟨hsx,.zero (by decide)⟩ hl
  have HN:=GF (show sS x ((cG zs).take (i+1))=jI (kT x lc) (n,last) by
   rw[yQ x hi,h1];rw[G4 hi] at hl
   rw[Option.some.inj hl])
  obtain⟨hn0,hn1,hl0,hl1⟩:=h6;have hir:i<2:=by have:=hi;cases h2<;>simp[cG] at this<;>omega
  have c0:W.cell? ⟨b3,0,none⟩=some (.bool xm):=by rw[World.cell?,h2'];rfl
  have c1:W.cell? ⟨b3,1,none⟩=some (.slice xp xl xc):=by rw[World.cell?,h2'];rfl
  have c2:W.cell? ⟨b3,2,none⟩=some (.slice xq xk xd):=by rw[World.cell?,h2'];rfl
  have HI:=GF (And.intro h2' (And.intro h3 (And.intro h4 h5)));have HXW:=GF (HX.out.below h5);have HV:=GF hv;have HHS:=GF hs3;clear h1 h2' h3 h4 h5 hl hi hv hs3 hbc HX4 R1 R2 R3 hM4 hp4
  gi_wp2_with fail
  refine⟨trivial,(CallsIn.inRound l (callsIn_wide.2 (ft _ _ W HXW.out))).mono ?_⟩;rintro e W1 ⟨v1,rfl,hv1,hb1⟩;rw[dP] at hv1
  gi_wp2_with fail
  refine⟨trivial,(CallsIn.inRound l (callsIn_wide.2 (atN v v1 lc (CQ.real x) W1 (HV.out.below hb1) hv1 (fun z hz=>(HHS.out z hz).mono (by decide)) ⟨hsx,.zero (by decide)⟩ hl7))).mono ?_⟩;rintro e W2 ⟨v2,rfl,hv2,hb2⟩;have hB2:=hb1.trans (hb2.mono hb1.size);obtain⟨x1,x2,x3,y1,y2,y3,rfl,hx2,hy2⟩:=hv2;obtain⟨sm,sp,sl,sc,sq,sk,sd,hxe⟩:=hx2.form;obtain⟨tm,tp,tl,tc,tq,tk,td,hye⟩:=hy2.form;obtain⟨rfl,rfl,rfl⟩:=eU hxe;obtain⟨rfl,rfl,rfl⟩:=eU hye;have hfd:=fun wy:World=>(show (Instr.field 110 (.agg #[.bool sm,.slice sp sl sc,.slice sq sk sd,.bool tm,.slice tp tl tc,.slice tq tk td]) 0).run Tryz.prog wy=.ok (.agg #[.bool sm,.slice sp sl sc,.slice sq sk sd]) wy from by kernel_rfl);clear hxe hye hy2 hb1 hb2 hv1 c0 c1 c2
  gi_wp2_with fail
  refine⟨trivial,(CallsIn.inRound l (callsIn_wide.2 (kp 0 W2 (by decide) (by decide)))).mono ?_⟩;rintro e W3 ⟨v3,rfl,hv3,hb3'⟩;clear hfd;have hz0:Sz 1 (rt (((0:Int)):Rat)):=.zero (by decide);have hcmp:=nP _ _ _ _ W3 (hx2.below hb3') hv3 (dz _) (dz _) (hsa.x.fewR hz0 (by decide)).f1 (hsa.x.fewR hz0 (by decide)).f2 (hsa.x.fewR hz0 (by decide)).f3 (hsa.x.fewR hz0 (by decide)).f4;rw[show (ct (atL lc (CQ.real x))).x=rt (atL lc (CQ.real x)).re from rfl,rB] at hcmp;obtain⟨sg,hsg⟩:∃ s,s=lz (atL lc (CQ.real x)).re (((0:Int)):Rat):=⟨_,rfl⟩;have hsr:-1<=sg/\sg<=1:=by rw[hsg];exact vj _ _
  rw[<-hsg] at hcmp;rw[show kT x lc=sg from hsg.symm] at HN;have HC:=GF hcmp;have hB3:=hB2.trans (hb3'.mono hB2.size);clear hcmp hsg hz0 hv3 hx2 hb3' hB2
  gi_wp2_with fail
  refine⟨trivial,(CallsIn.inRound l (callsIn_wide.2 HC.out)).mono ?_⟩;rintro e W4 ⟨rfl,hb4⟩;have hB4:=hB3.trans (hb4.mono hB3.size);obtain⟨h2',h3,h4,h5⟩:=HI.out;have h2':=(hB4.block _ (GT.1 h2').1).trans h2';have h3:=(hB4.block _ (GT.1 h3).1).trans h3;have h4:=(hB4.block _ (GT.1 h4).1).trans h4;have h5:=h5.trans (hB4.mono h5.size);have HT:=GF (cT.of_below (S:=fun k=>k=b3+1\/k=b3+1+1) hB4);obtain⟨k5,f5⟩:=dX h3;obtain⟨k6,f6⟩:=dX h4;have HI:=GF (And.intro h2' (And.intro h3 (And.intro h4 h5)));clear hB3 hb4 hB4 HC h2' h3 h4 h5;by_cases hs0:sg=0
  ·subst hs0
   gi_wp2
   obtain⟨q1,q2,q3,q4⟩:=HI.out;exact⟨HT.out,n,last,by rw[HN.out];simp[jI],q1,q2,q3,q4,hn0,by omega,hl0,hl1⟩
  ·have hw1:IntKind.i64.wrap (-last)=-last:=IntWalk.i64_in _ (by omega);have hw2:IntKind.i64.wrap (n+1)=n+1:=IntWalk.i64_in _ (by omega);have hd0:(sg == 0)=false:=by simpa using hs0
   by_cases hsl:sg=-last
   ·have hd:(sg == -last)=true:=by simpa using hsl
    have HN:=GF (show sS x ((cG zs).take (i+1))=(n+1,sg) by rw[HN.out];simp only[jI];rw[if_neg hs0,if_pos hsl]);have HSR:=GF hsr;have e1:b3+1≠b3:=by omega
    have e2:b3+1+1≠b3:=by omega
    have e3:b3+1+1≠b3+1:=by omega
    clear hsl hsr hs0
    gi_wp2
    obtain⟨q1,q2,q3,q4⟩:=HI.out;have g1:=(Below.heap_setCell W4 ⟨b3+1,0,none⟩ (.int .i64 (n+1)) b3 (by show b3≠b3+1;omega)).trans q1;have g2:=heap_setCell_same W4 (b3+1) 0 _ _ (.int .i64 (n+1)) q2;have g3:=(Below.heap_setCell W4 ⟨b3+1,0,none⟩ (.int .i64 (n+1)) (b3+1+1) (by show b3+1+1≠b3+1;omega)).trans q3;have g4:=q4.setCell (p:=⟨b3+1,0,none⟩) (by show w.heap.size<=b3+1;omega) (.int .i64 (n+1));have t1:=HT.out.trans (cT.set (S:=fun k=>k=b3+1\/k=b3+1+1) (w:=W4) (Or.inl rfl) 0 (.int .i64 (n+1)));generalize W4.setCell ⟨b3+1,0,none⟩ (.int .i64 (n+1))=W5 at *
    exact⟨t1.trans (cT.set (Or.inr rfl) 0 _),n+1,sg,HN.out,(Below.heap_setCell W5 ⟨b3+1+1,0,none⟩ _ b3 (by show b3≠b3+1+1;omega)).trans g1,(Below.heap_setCell W5 ⟨b3+1+1,0,none⟩ _ (b3+1) (by show b3+1≠b3+1+1;omega)).trans g2,heap_setCell_same W5 (b3+1+1) 0 _ _ _ g3,g4.setCell (p:=⟨b3+1+1,0,none⟩) (by show w.heap.size<=b3+1+1;omega) _,by omega,by omega,HSR.out.1,HSR.out.2⟩
   ·have hd:(sg == -last)=false:=by simpa using hsl
    have HN:=GF (show sS x ((cG zs).take (i+1))=(n,sg) by rw[HN.out];simp only[jI];rw[if_neg hs0,if_neg hsl]);have HSR:=GF hsr;clear hsl hsr hs0
    gi_wp2
    obtain⟨q1,q2,q3,q4⟩:=HI.out;exact⟨HT.out.trans (cT.set (Or.inr rfl) 0 _),n,sg,HN.out,(Below.heap_setCell W4 ⟨b3+1+1,0,none⟩ _ b3 (by show b3≠b3+1+1;omega)).trans q1,(Below.heap_setCell W4 ⟨b3+1+1,0,none⟩ _ (b3+1) (by show b3+1≠b3+1+1;omega)).trans q2,heap_setCell_same W4 (b3+1+1) 0 _ _ _ q3,q4.setCell (p:=⟨b3+1+1,0,none⟩) (by show w.heap.size<=b3+1+1;omega) _,hn0,by omega,HSR.out.1,HSR.out.2⟩
 case hdone =>
  rintro D W hD ⟨n,last,h1,h2',h3,h4,h5,h6⟩ hK;rw[He] at h1;have HN:=GF (show dL zs x=n by unfold dL;rw[h1]);obtain⟨k5,f5⟩:=dX h3;have HM:=GF h5;have HK:=GF hK;clear h1 h2' h3 h4 h5 hK hbc HX4 R1 R2 R3 hp4
  gi_wp2
  have hne:w.heap.size<=D:=by have:=hM4.size;omega
  refine⟨by simp,.inl ⟨_,_,rfl,run_takeDeferred HK.out,?_⟩⟩;refine⟨.int .i64 n,by simp[results,Tryz.results188,go_sem],by rw[HN.out],HM.out.trans ⟨rfl,rfl,rfl,by simp,fun k hk=>World.putObj_heap_other (by omega)⟩⟩
end Go.Proofs.YtmakbmhlemhgeaaGreatDoor
