/- L -/
import Derived.RangeFuncNested
import Derived.RangeFuncBound
import Derived.RangeFuncCalls
import Derived.RangeFuncLeaves
import Derived.Shelf.Abstract
import Derived.Shelf.RegionOpen
import Derived.OwnWalkIn
import Derived.TacticsInMore
import Derived.LoopNIn
import Derived.LoopIn
import Derived.OwnWalk
import Derived.Test.YtgakllaobooabaaGreatDoorXPM4
import Derived.Test.YtgakllaobooabaaGreatDoorXB
set_option linter.all false
set_option maxRecDepth 100000
set_option maxHeartbeats 8000000
namespace Go.Proofs.YtgakllaobooabaaGreatDoor
open Go.RowKit Dg
inductive kG:List CQ->List CQ->Prop
 | one (c:CQ) (h:c≠⟨0,0⟩) (hs:SzV 300 (ct c)):kG [c] []
 | two (a c:CQ) (h:c≠⟨0,0⟩) (hs:SzV 300 (ct a)) (hc:SzV 300 (ct c)):kG [a,c] [c]
theorem lA {k:Nat} (h:10<=k):SzV k (ct (CQ.real 1)):=SzV.mono (nS (n:=1) (by decide)) h
theorem xT (vp vq:Value) (zs qs:List CQ) (w:World) (hp:IsP w vp zs) (hq:IsP w vq qs) (hpq:kG zs qs) :
  Calls Tryz.prog 126 #[vp,vq] w fun e w'=>∃ v,e=.returned v/\IsP w' v [CQ.real 1]/\Below w.heap.size w w':=by
 go_enter Tryz.func126,Tryz.ntmps126;go_wp2;go_loopw [0,1] (fun s0 s1 wr=>∃ ps rs,IsP wr s0 ps/\IsP wr s1 rs/\kG ps rs/\Below w.heap.size w wr) (fun _ s1 _=>qO s1)
 case atStart=>exact⟨zs,qs,hp,hq,hpq,Dv _ _⟩
 case round =>
  clear hp hq hpq;obtain⟨ps,rs,hp,hq,hpq,hbr⟩:=hrel
  cases hpq with
  | two a c hc hsa hsc =>
   obtain⟨p,cp,rfl,-⟩:=id hp.form;obtain⟨q,cq,rfl,-⟩:=id hq.form
   have HO:=At (qR _ _ [a,c] c wr hp hq hc (by simp) (by simp) (fun z hz=>by
    simp only[Bm,CG,or_false] at hz;rcases hz with rfl | rfl
    ·exact hsa
    ·exact hsc) hsc)
   have HQ:=At hq;have HP2:=At (kG.one c hc hsc);clear hp hq hc hsa hsc;go_wp2_with fail
   refine HO.out.mono ?_;rintro e w2 ⟨v1,v2,rfl,hv1,hv2,hb2⟩;have hq2:=HQ.out.below hb2;have hB2:=hbr.trans (hb2.mono hbr.size);obtain⟨p2,c2,rfl,-⟩:=id hv2.form;clear hbr hb2 HQ HO;go_wp2;go_roundw;case rel=>exact⟨_,_,hq2,hv2,HP2.out,hB2⟩
   case measure=>simp[qO]
  | one c hc hsc =>
   obtain⟨p,cp,rfl,-⟩:=id hp.form;obtain⟨q,cq,rfl,-⟩:=id hq.form;go_upto_region 6 with fail
   obtain⟨b,o,rfl,hlt,xm,xp,xl,xc,xq,xk,xd,ym,yp,yl,yc,yq,yk,yd,hk,a0,a1,a2,a3,a4,a5⟩:=hp.get (i:=0) (by simp);simp only[BR,Bb,Av] at hk a0 a1 a2 a3 a4 a5;have hBd:Below wr.heap.size wr wr.drew:=(Dv _ _).drew;have HP:=At (hp.below hBd);have HK:=At (hk.below hBd);have HB:=At (hbr.trans (hBd.mono hbr.size));refine ai (fun w'=>∃ x:ax wr.drew.heap.size wr.drew,w'=x.w) (fun i=>i == 1||i == 2||i == 9||i == 10) (by kernel_rfl) (by kernel_rfl) ⟨⟨_,Dv _ _⟩,rfl⟩ ?_;have hz:wr.drew.heap.size<=wr.drew.heap.size:=AA _;have hltd:b<wr.drew.heap.size:=AD hlt hBd.size;have d0:=aa hBd hlt a0;have d1:=aa hBd hlt a1;have d2:=aa hBd hlt a2;have d3:=aa hBd hlt a3;have d4:=aa hBd hlt a4;have d5:=aa hBd hlt a5;clear hp hq hk hbr hBd a0 a1 a2 a3 a4 a5;generalize wr.drew=wd at *
   have c0:=fun x:ax wd.heap.size wd=>aa x.h hltd d0;have c1:=fun x:ax wd.heap.size wd=>aa x.h hltd d1;have c2:=fun x:ax wd.heap.size wd=>aa x.h hltd d2;have c3:=fun x:ax wd.heap.size wd=>aa x.h hltd d3;have c4:=fun x:ax wd.heap.size wd=>aa x.h hltd d4;have c5:=fun x:ax wd.heap.size wd=>aa x.h hltd d5;clear d0 d1 d2 d3 d4 d5;refine ae 1 0 _ _ _ (by kernel_rfl) ?_;simp only[AC,AG,AB,AF];repeat (go_big_quiet_step (fail))
   refine wpQuiet_nil ?_;refine af rfl rfl (fun K hK=>?_);go_simp;refine (gn 1 wd (by decide) (by decide)).mono ?_;rintro e w4 ⟨v4,rfl,hv4,hb4⟩;refine hK _ _ ⟨⟨_,hb4.mono hz⟩,rfl⟩ ?_;clear hK K;try simp only[Act.put,Ax,Aw,Av,Au,Ay,Az]
   refine af rfl rfl (fun K hK=>?_);go_simp;refine (de _ _ _ hv4).mono ?_;rintro e w5 ⟨v5,rfl,hv5,hb5⟩;have hB5:=hb4.trans (hb5.mono hb4.size);rw[bO] at hv5;refine hK _ _ ⟨⟨_,hB5.mono hz⟩,rfl⟩ ?_;clear hK K;try simp only[Act.put,Ax,Aw,Av,Au,Ay,Az]
   refine ae 6 3 _ _ _ (by kernel_rfl) ?_;simp only[AC,AG,AB,AF];repeat (go_big_quiet_step (fail))
   refine wpQuiet_nil ?_;refine af rfl rfl (fun K hK=>?_);go_simp;refine (nG _ _ _ _ 300 300 w5 hv5 (HK.out.below hB5).v (lA (by decide)) hsc (lh hc) (by decide)).mono ?_;rintro e w6 ⟨v6,rfl,hv6,hb6⟩;have hB6:=hB5.trans (hb6.mono hB5.size);rw[gQ hc] at hv6;refine hK _ _ ⟨⟨_,hB6.mono hz⟩,rfl⟩ ?_;clear hK K;try simp only[Act.put,Ax,Aw,Av,Au,Ay,Az]
   refine af rfl rfl (fun K hK=>?_);go_simp
   refine (sB _ _ [c] _ w6 (HP.out.below hB6) ⟨hv6,xi (lA (by decide)) hsc hc⟩ (fun z hz=>by
    simp only[Bm,CG,or_false] at hz;subst hz;have h1:=CQ.mul_inv hc;rw[show CQ.real ((1:Int):Rat)=CQ.real 1 from rfl,h1]
    exact lA (by decide)) (by simp)).mono ?_
   rintro e w7 ⟨v7,rfl,hv7,hb7⟩;have hB7:=hB6.trans (hb7.mono hB6.size);rw[show CQ.real ((1:Int):Rat)=CQ.real 1 from rfl,pK hc] at hv7;refine hK _ _ ⟨⟨_,hB7.mono hz⟩,rfl⟩ ?_;clear hK K;try simp only[Act.put,Ax,Aw,Av,Au,Ay,Az]
   refine ae 1 11 _ _ _ (by kernel_rfl) ?_;simp only[AC,AG,AB,AF];repeat (go_big_quiet_step (fail))
   refine wpQuiet_nil ?_;refine av ?_;have HF:=At (HB.out.trans (hB7.mono HB.out.size));clear hB5 hB6 hB7 hb4 hb5 hb6 hb7 hv4 hv5 hv6 HB HP HK c0 c1 c2 c3 c4 c5;go_wp2;go_ret;exact⟨_,rfl,hv7,HF.out⟩
open Go.RowKit Go.Shelf Dg
theorem zg (v:Value) (zs:List CQ) (w:World) (hl:IsP w v zs) :
  Calls Tryz.prog 151 #[v] w fun e w'=>e=.returned (.func (.func 169) #[] #[.pointer (some ⟨w.heap.size,0,none⟩)])/\w'.heap[w.heap.size]?=some (.cells #[v] 113 (0,0))/\w.heap.size<w'.heap.size/\IsP w' v zs/\Below w.heap.size w w':=by
 obtain⟨p,c,rfl,-⟩:=id hl.form;have c0:=heap_alloc_new w (.cells #[.slice p zs.length c] 113 (0,0));have m1:=ac w (.cells #[.slice p zs.length c] 113);have z1:=size_alloc w (.cells #[.slice p zs.length c] 113);have HL:=At (hl.below m1);have H0:=At (And.intro c0 (And.intro (show w.heap.size<(w.alloc (.cells #[.slice p zs.length c] 113)).heap.size by omega) m1));clear c0 m1 z1 hl;go_enter Tryz.func151,Tryz.ntmps151;go_wp2;go_ret;exact⟨rfl,H0.out.1,H0.out.2.1,HL.out,H0.out.2.2⟩
theorem cE {w:World}{g:Nat}{v:Value}{T:TypeId} (h:w.heap[g]?=some (.cells #[v] T (0,0))):w.cell? ⟨g,0,none⟩=some v/\w.frozen? ⟨g,0,none⟩=false:=by
 constructor
 ·rw[World.cell?,h];rfl
 ·rw[World.frozen?,h];simp
theorem kJ {w:World}{g:Nat}{v:Value}{T:TypeId} (h:w.heap[g]?=some (.cells #[v] T (0,0))) (hv:∀ z,v≠.int .u64 z):n8 (fun k=>k=g) uu w:=by
 rintro k rfl j u hc;rw[World.cell?,h] at hc;simp only[Bj,AU,if_false] at hc
 have hj:j=0:=by
  have:=(AE.1 hc).1;simpa using this
 subst hj;simp at hc;subst hc;rintro (h | ⟨z,e⟩)
 ·omega
 ·exact hv z e
theorem dB.pair {zs:List CQ} (h:dB zs) (hs:SzL 300 zs):kG zs (s_ zs):=by
 cases h with
 | one c h=>rw[qu4];exact .one c h (hs c (by simp))
 | two a c h=>rw[qu5 h];exact .two a c h (hs a (by simp)) (hs c (by simp))
theorem xj:SzV 10000 (ct (CQ.real (((-1:Int)):Rat))):=by
 rw[show CQ.real (((-1:Int)):Rat)=(CQ.real 1).neg from by decide,<-si];exact (lA (by decide)).neg
def uw (zs:List CQ) (i:Nat) (W:World) (vs:Array Value):Prop:=∃ v l,vs=#[v]/\(a8 zs)[i]?=some l/\IsP W v l
attribute [local go_sem] Oper.semAt_some
theorem oe (n:Nat) (hn:3<=n) (g:Nat) (vp:Value) (zs:List CQ) (w:World) (Sb:Nat->Prop) (hbox:w.heap[g]?=some (.cells #[vp] 113 (0,0))) (hp:IsP w vp zs) (h2:dB zs) (hs:SzL 300 zs) (hsb:¬ Sb g) :
  qk Fence.wide n Tryz.prog 169 #[] #[.pointer (some ⟨g,0,none⟩)] (uw zs) (a8 zs).length Sb (fun k=>k=g) (n8 Sb uu) w:=by
 intro l J W hW hJ hOk hY h0;have hgl:g<w.heap.size:=(AE.1 hbox).1;have hb0:=(hW.block g hgl).trans hbox;have hpW:=hp.below hW;have HY:=At hY;have HJ:=At hJ;have HOK:=At hOk;have HPR:=At (h2.pair hs)
 have HFIT:=At (show ∀ z∈zs,∀ n:Nat,n<33->SzV 10000 (ct (z.mul (CQ.real ((n:Nat):Int)))) from fun z hz n hn=>by
  rw[<-a6]
  exact ((hs z hz).times (nS (by omega))).mono (by decide))
 have hzl:zs.length<=33:=by cases h2<;>simp
 obtain⟨p,c,rfl,-⟩:=id hpW.form;have HP:=At hpW;have HB:=At hb0;have c0:=(cE hb0).1;clear hW hY hJ hOk hbox hp hpW h2 hs hb0;refine callsIn_of_wp Tryz.func169 rfl trivial ?_ rfl;simp only[Tryz.ntmps169,CN,A2,Bw,Nat.reduceAdd,Nat.reduceSub,CA,CC,CM,CH,A1,A9]
 gi_wp2_with fail
 refine⟨trivial,fun _=>by omega,(callsIn_wide.2 (oD _ zs W HP.out HFIT.out hzl)).mono ?_⟩;rintro e W2 ⟨q,rfl,hq,hb2⟩;have HB2:=At ((hb2.block g (AE.1 HB.out).1).trans HB.out);have HP2:=At (HP.out.below hb2);have h02:=HJ.out _ _ _ h0 (bf.of_below hb2);clear h0 hb2 c0 HB HP
 gi_wp2
 gi_loopw [3] (fun s3 wr=>∃ (i:Nat) (vp:Value) (ps qs:List CQ),wr.heap[g]?=some (.cells #[vp] 113 (0,0))/\IsP wr vp ps/\IsP wr s3 qs/\kG ps qs/\J i wr/\Hid ((a8 zs).drop i=a8 ps)) (fun s3 _=>qO s3)
 case atStart=>exact⟨0,_,_,_,HB2.out,HP2.out,hq,HPR.out,h02,rfl⟩
 case round =>
  clear HB2 HP2 hq HPR h02;obtain⟨i,vp,ps,qs,hbx,hp,hq,hpq,hJi,hdrop⟩:=hrel;obtain⟨p,cp,rfl,-⟩:=id hp.form;obtain⟨qp,cq,rfl,-⟩:=id hq.form;have c0:=(cE hbx).1;have hgl:=(AE.1 hbx).1
  cases hpq with
  | one a ha hsa =>
   have hdrop':(a8 zs).drop i=[[a]]:=hdrop.out
   have hi:i<(a8 zs).length:=by
    have:=congrArg List.length hdrop';simp at this;omega
   have hlen:(a8 zs).length=i+1:=by
    have:=congrArg List.length hdrop';simp at this;omega
   have hget:(a8 zs)[i]?=some [a]:=by
    have:=Cn (xs:=a8 zs) (i:=i) (j:=0);rw[hdrop'] at this;simpa using this.symm
   obtain⟨fn,tmps,assign,body,hy,hR⟩:=HY.out i hi wr #[.slice p [a].length cp] hJi ⟨_,_,rfl,hget,hp⟩;clear HY HJ HOK hJi hp hq hdrop hdrop' hget;have hy:(Instr.yield l #[.slice p 1 cp]).run Tryz.prog wr=.ok (.round l fn tmps assign body) wr:=hy
   gi_wp2
   refine⟨fun _=>by omega,hR.mono ?_⟩;rintro e W' ⟨rfl,hJ',hT⟩
   gi_wp2
   refine Du (v:=.tuple #[]) (by simp[results,Tryz.results169,go_sem]) rfl ⟨⟨_,rfl⟩,by rw[hlen];exact hJ'⟩
  | two a b hb hsa hsb =>
   have hdrop':(a8 zs).drop i=[[a,b],[b]]:=hdrop.out
   have hi:i<(a8 zs).length:=by
    have:=congrArg List.length hdrop';simp at this;omega
   have hdrop2:(a8 zs).drop (i+1)=[[b]]:=by
    have:=congrArg (List.drop 1) hdrop'
    rwa [List.drop_drop] at this
   have hget:(a8 zs)[i]?=some [a,b]:=by
    have:=Cn (xs:=a8 zs) (i:=i) (j:=0);rw[hdrop'] at this;simpa using this.symm
   obtain⟨fn,tmps,assign,body,hy,hR⟩:=HY.out i hi wr #[.slice p [a,b].length cp] hJi ⟨_,_,rfl,hget,hp⟩;have hsafe:=HOK.out _ _ hJi;have HQ:=At hq;have HP:=At hp;have HBX:=At hbx;have HD2:=At hdrop2;have hy:(Instr.yield l #[.slice p 2 cp]).run Tryz.prog wr=.ok (.round l fn tmps assign body) wr:=hy;clear hJi hp hq hdrop hdrop' hdrop2 hget hbx
   gi_wp2
   refine⟨fun _=>by omega,hR.mono ?_⟩;rintro e W' ⟨rfl,hJ',hT⟩;have hkeep:=gC.of_turns hT hsafe;have HQ:=At (HQ.out.keep hkeep);have HP:=At (HP.out.keep hkeep);have HBX:=At ((hT.block g hgl ‹¬ Sb g›).trans HBX.out);have c0:=(cE HBX.out).1;have HJ':=At hJ';clear hR hy hT hsafe hkeep hJ' HY
   gi_wp2_with fail
   refine⟨trivial,fun _=>by omega,(callsIn_wide.2 (qR _ _ [a,b] b W' HP.out HQ.out hb (by simp) (by simp) (fun z hz=>by
    simp only[Bm,CG,or_false] at hz;rcases hz with rfl | rfl
    ·exact hsa
    ·exact hsb) hsb)).mono ?_⟩
   rintro e W3 ⟨v1,v2,rfl,hv1,hv2,hb3⟩;obtain⟨p2,c2,rfl,-⟩:=id hv2.form;have HQ:=At (HQ.out.below hb3);have HBX:=At ((hb3.block g (AE.1 HBX.out).1).trans HBX.out);have HJ':=At (HJ.out _ _ _ HJ'.out (bf.of_below hb3));have HV2:=At hv2;clear HP c0 hb3 hv1 hv2
   gi_wp2_with fail
   refine⟨trivial,fun _=>by omega,(callsIn_wide.2 (gn (-1) W3 (by decide) (by decide))).mono ?_⟩;rintro e W4 ⟨v4,rfl,hv4,hb4⟩
   gi_wp2_with fail
   refine⟨trivial,fun _=>by omega,(callsIn_wide.2 (de _ _ _ hv4)).mono ?_⟩;rintro e W5 ⟨v5,rfl,hv5,hb5⟩;rw[bO] at hv5;have hB5:=hb4.trans (hb5.mono hb4.size)
   gi_wp2_with fail
   refine⟨trivial,fun _=>by omega,(callsIn_wide.2 (sB _ _ [] _ W5 (HV2.out.below hB5) ⟨hv5,xj⟩ (fun z hz=>by cases hz) (by simp))).mono ?_⟩;rintro e W6 ⟨v6,rfl,hv6,hb6⟩;rw[show nN [] (CQ.real (((-1:Int)):Rat))=[] from rfl] at hv6;have hB6:=hB5.trans (hb6.mono hB5.size);obtain⟨p6,c6,rfl,-⟩:=id hv6.form;have HQ:=At (HQ.out.below hB6);have HBX:=At ((hB6.block g (AE.1 HBX.out).1).trans HBX.out);have HJ':=At (HJ.out _ _ _ HJ'.out (bf.of_below hB6));have HS6:=At (kJ HBX.out nofun);obtain⟨k0,f0⟩:=cE HBX.out;have hT:=bf.set (S:=fun k=>k=g) (w:=W6) rfl 0 (.slice qp [b].length cq);have hK:=gC.of_turns hT HS6.out;have HQ:=At (HQ.out.keep hK);have HV6:=At (hv6.keep hK);have HJ':=At (HJ.out _ _ _ HJ'.out hT);have HBX:=At (heap_setCell_same W6 g 0 _ _ (.slice qp [b].length cq) HBX.out);clear hB5 hB6 hb4 hb5 hb6 hv4 hv5 hv6 HV2 HS6 hT hK
   gi_wp2
   go_roundw;case rel=>exact⟨i+1,_,[b],[],HBX.out,HQ.out,HV6.out,.one b hb hsb,HJ'.out,HD2.out⟩
   case measure=>simp[qO]
theorem oV {c x:CQ} (hc:SzV 300 (ct c)) (hx:SzV 2000 (ct x)):SzV 20000 (ct (atL [c] x)):=by
 show SzV 20000 (ct (((⟨0,0⟩:CQ).mul x).add c))
 rw[<-cW,<-a6];exact (((show SzV 1 (ct ⟨0,0⟩) from⟨.zero (by decide),.zero (by decide)⟩).times hx).plus hc).mono (by decide)
theorem vA {a c x:CQ} (ha:SzV 300 (ct a)) (hc:SzV 300 (ct c)) (hx:SzV 2000 (ct x)):SzV 20000 (ct (atL [a,c] x)):=by
 show SzV 20000 (ct (((((⟨0,0⟩:CQ).mul x).add c).mul x).add a))
 rw[<-cW,<-a6,<-cW,<-a6];exact (((((show SzV 1 (ct ⟨0,0⟩) from⟨.zero (by decide),.zero (by decide)⟩).times hx).plus hc).times hx).plus ha).mono (by decide)
/-- an element of the chain is short, and so is its value -/
theorem uS {zs : List CQ} (h : dB zs) (hs : SzL 300 zs) {x : CQ} (hx : SzV 2000 (ct x)) {i : Nat} {l : List CQ} (hl : (a8 zs)[i]? = some l) : SzL 300 l /\ l.length <= 7 /\ SzV 20000 (ct (atL l x)) := by
  cases h with
  | one c h =>
    match i, hl with
    | 0, hl => obtain rfl : [c] = l := by simpa [a8] using hl
               exact ⟨hs, by simp, oV (hs c (by simp)) hx⟩
    | i + 1, hl => simp [a8] at hl
  | two a c h =>
    match i, hl with
    | 0, hl => obtain rfl : [a, c] = l := by simpa [a8] using hl
               exact ⟨hs, by simp, vA (hs a (by simp)) (hs c (by simp)) hx⟩
    | 1, hl => obtain rfl : [c] = l := by simpa [a8] using hl
               refine ⟨fun z hz => ?_, by simp, oV (hs c (by simp)) hx⟩
               exact hs z (by simp at hz; simp [hz])
    | i + 2, hl => simp [a8] at hl
theorem qv (a b:Rat):-1<=gy a b/\gy a b<=1:=by
 unfold gy
 split
 ·decide
 ·split<;>decide
theorem qi (a:Tmp) (v:Value) (t:Array Value):(#[a].zip #[v]).foldl (fun t (p,v)=>t.setIfInBounds p v) t=t.setIfInBounds a v:=by simp
def ChgI (w:World) (b3:Nat) (x0 x1 x2:Value) (x:Rat) (zs:List CQ) (i:Nat) (W:World):Prop :=
 ∃ n last:Int,oh x ((a8 zs).take i)=(n,last)/\W.heap[b3]?=some (.cells #[x0,x1,x2] 63 (0,0))/\W.heap[b3+1]?=some (.cells #[.int .i64 n] 3 (0,0))/\W.heap[b3+1+1]?=some (.cells #[.int .i64 last] 3 (0,0))/\Below w.heap.size w W/\0<=n/\n<=i/\-1<=last/\last<=1
attribute [local go_sem] Oper.semAt_some
theorem og (vp vx:Value) (zs:List CQ) (x:Rat) (w:World) (hp:IsP w vp zs) (hx:IsR w vx (rt x)) (hsx:Sz 2000 (rt x)) (h2:dB zs) (hs:SzL 300 zs) :
  Calls Tryz.prog 128 #[vp,vx] w fun e w'=>e=.returned (.int .i64 (ce zs x))/\Below w.heap.size w w':=by
 obtain⟨xm,xp,xl,xc,xq,xk,xd,rfl⟩:=hx.form;obtain⟨p,c,rfl,-⟩:=id hp.form;have hx0:=hx;refine (callsIn_wide (n:=9)).1 ?_;refine callsIn_of_wp_marks Tryz.func128 rfl trivial ?_ rfl;simp only[Tryz.ntmps128,CN,A2,Bw,Nat.reduceAdd,Nat.reduceSub,CA,CC,CM,CH,A1,A9]
 gi_wp2_with fail
 have m1:=ac w (.cells #[.bool xm,.slice xp xl xc,.slice xq xk xd] 63);have z1:=size_alloc w (.cells #[.bool xm,.slice xp xl xc,.slice xq xk xd] 63);have r1:=heap_alloc_new w (.cells #[.bool xm,.slice xp xl xc,.slice xq xk xd] 63 (0,0));generalize w.alloc (.cells #[.bool xm,.slice xp xl xc,.slice xq xk xd] 63)=w1 at *
 have m2:=ac w1 (.cells #[.int .i64 0] 3);have z2:=size_alloc w1 (.cells #[.int .i64 0] 3);have r2:=heap_alloc_new w1 (.cells #[.int .i64 0] 3 (0,0));generalize w1.alloc (.cells #[.int .i64 0] 3)=w2 at *
 have m3:=ac w2 (.cells #[.int .i64 0] 3);have z3:=size_alloc w2 (.cells #[.int .i64 0] 3);have r3:=heap_alloc_new w2 (.cells #[.int .i64 0] 3 (0,0));generalize w2.alloc (.cells #[.int .i64 0] 3)=w3 at *
 have hM3:=(m1.trans (m2.mono m1.size)).trans (m3.mono (by omega));have hz3:w3.heap.size=w.heap.size+3:=by omega
 obtain⟨b3,hb3⟩:∃ b,b=w.heap.size:=⟨_,rfl⟩;rw[z1] at r2;rw[z2,z1] at r3;rw[<-hb3] at r1 r2 r3 hz3 |-;have R1:=(m3.block b3 (by omega)).trans ((m2.block b3 (by omega)).trans r1);have R2:=(m3.block (b3+1) (by omega)).trans r2;have hp3:=hp.below hM3;have hx3:=hx.below hM3;clear m1 z1 r1 m2 z2 r2 m3 z3 hp hx;refine⟨trivial,(callsIn_wide.2 (zg _ zs w3 hp3)).mono ?_⟩;rintro e w4 ⟨rfl,hbc,hltc,hp4,hb4⟩;have R1:=(hb4.block b3 (by omega)).trans R1;have R2:=(hb4.block (b3+1) (by omega)).trans R2;have R3:=(hb4.block (b3+1+1) (by omega)).trans r3;have hx4:=hx3.below hb4;have hM4:=hM3.trans (hb4.mono (by omega));obtain⟨gc,hgc⟩:∃ g,g=w3.heap.size:=⟨_,rfl⟩;rw[<-hgc] at hbc hltc |-;have hgb:gc=b3+3:=by omega
 have HB3:=At hb3;have HX4:=At hx4;have HX:=At hx0;have hgb1:gc≠b3:=by omega
 have hgb2:gc≠b3+1:=by omega
 have hgb3:gc≠b3+1+1:=by omega
 have hb3w:w.heap.size<=b3:=by omega
 have hgw:w.heap.size<=gc:=by omega
 clear hp3 hx3 hM3 hb4 r3 hgc hb3 hx0 hx4 hz3 hgb
 gi_wp2
 refine j9 (gf:=169) (bnd:=#[]) (lb:=#[.pointer (some ⟨gc,0,none⟩)]) (E:=uw zs) (len:=(a8 zs).length) (Sb:=fun k=>k=b3+1\/k=b3+1+1) (Si:=fun k=>k=gc) (Ok:=n8 (fun k=>k=b3+1\/k=b3+1+1) uu) rfl (by omega) rfl trivial ?eg ?hSb ?hSi (oe 8 (by omega) gc _ zs w4 _ hbc hp4 h2 hs (by omega)) ?hps
  (ChgI w b3 (.bool xm) (.slice xp xl xc) (.slice xq xk xd) x zs) ?hI ?hOk ?h0
  (fun i a W=>∃ v l,a={ tmps:=#[.slice p zs.length c,.agg #[.bool xm,.slice xp xl xc,.slice xq xk xd],undef,.pointer (some ⟨b3,0,none⟩),.int .i64 0,.pointer (some ⟨b3+1,0,none⟩),.pointer (some ⟨b3+1+1,0,none⟩),v,undef,.slice p zs.length c,.func (.func 169) #[] #[.pointer (some ⟨gc,0,none⟩)],v,undef,undef,undef,undef,undef,undef,undef,undef,undef,undef,undef,undef,undef,undef,undef,undef,undef],defers:=[] }/\(a8 zs)[i]?=some l/\IsP W v l/\ChgI w b3 (.bool xm) (.slice xp xl xc) (.slice xq xk xd) x zs i W) ?hI1 ?hassign ?hbody ?hdone
 case eg=>exact aZ Tryz.func169 rfl (by kernel_rfl)
 case hSb=>rintro k (rfl | rfl)<;>exact (AE.1 (by assumption)).1
 case hSi=>rintro k rfl;exact hltc
 case hps=>rintro i W vs ⟨v,l,rfl,-,-⟩;rfl
 case hI =>
  rintro i W W' ⟨n,last,h1,h2,h3,h4,h5,h6⟩ hB;exact⟨n,last,h1,hB.cells h2 (by omega),hB.cells h3 (by omega),hB.cells h4 (by omega),hB.below h5 hM4.size h5.size (fun k e=>by omega),h6⟩
 case hOk =>
  rintro i W ⟨n,last,-,-,h3,h4,-⟩ k hk j u hc;rcases hk with rfl | rfl
  ·exact kJ h3 nofun _ rfl j u hc
  ·exact kJ h4 nofun _ rfl j u hc
 case h0=>exact⟨0,0,rfl,R1,R2,R3,hM4,by omega,by omega,by omega,by omega⟩
 case hI1 =>
  rintro i a W W' ⟨v,l,e,hl,hv,n,last,h1,h2,h3,h4,h5,h6⟩ hB;exact⟨v,l,e,hl,hv.keep (gC.of_bes hB (fun k hk=>hk.elim)),n,last,h1,hB.cells h2 id,hB.cells h3 id,hB.cells h4 id,hB.below h5 hM4.size h5.size (fun k e=>e.elim),h6⟩
 case hassign =>
  rintro l i hi W vs hI ⟨v,lc,rfl,hl,hv⟩;rw[qi];simp only[Au,Ay,Az]
  gi_wp2
  exact⟨bf.refl _ _,v,lc,rfl,hl,hv,hI⟩
 case hbody =>
  rintro l i hi a₁ W ⟨v,lc,rfl,hl,hv,n,last,h1,h2',h3,h4,h5,h6⟩;obtain⟨hs3,hl7,hsa⟩:=uS h2 hs (x:=CQ.real x) ⟨hsx,.zero (by decide)⟩ hl
  have HN:=At (show oh x ((a8 zs).take (i+1))=gr (iG x lc) (n,last) by
   rw[sY x hi,h1];rw[AL hi] at hl
   rw[Option.some.inj hl])
  obtain⟨hn0,hn1,hl0,hl1⟩:=h6;have hir:i<2:=by have:=hi;cases h2<;>simp[a8] at this<;>omega
  have c0:W.cell? ⟨b3,0,none⟩=some (.bool xm):=by rw[World.cell?,h2'];rfl
  have c1:W.cell? ⟨b3,1,none⟩=some (.slice xp xl xc):=by rw[World.cell?,h2'];rfl
  have c2:W.cell? ⟨b3,2,none⟩=some (.slice xq xk xd):=by rw[World.cell?,h2'];rfl
  have HI:=At (And.intro h2' (And.intro h3 (And.intro h4 h5)));have HXW:=At (HX.out.below h5);have HV:=At hv;have HHS:=At hs3;clear h1 h2' h3 h4 h5 hl hi hv hs3 hbc HX4 R1 R2 R3 hM4 hp4
  gi_wp2_with fail
  refine⟨trivial,(CallsIn.inRound l (callsIn_wide.2 (de _ _ W HXW.out))).mono ?_⟩;rintro e W1 ⟨v1,rfl,hv1,hb1⟩;rw[bO] at hv1
  gi_wp2_with fail
  refine⟨trivial,(CallsIn.inRound l (callsIn_wide.2 (atN v v1 lc (CQ.real x) W1 (HV.out.below hb1) hv1 (fun z hz=>(HHS.out z hz).mono (by decide)) ⟨hsx,.zero (by decide)⟩ hl7))).mono ?_⟩;rintro e W2 ⟨v2,rfl,hv2,hb2⟩;have hB2:=hb1.trans (hb2.mono hb1.size);obtain⟨x1,x2,x3,y1,y2,y3,rfl,hx2,hy2⟩:=hv2;obtain⟨sm,sp,sl,sc,sq,sk,sd,hxe⟩:=hx2.form;obtain⟨tm,tp,tl,tc,tq,tk,td,hye⟩:=hy2.form;obtain⟨rfl,rfl,rfl⟩:=cH hxe;obtain⟨rfl,rfl,rfl⟩:=cH hye;have hfd:=fun wy:World=>(show (Instr.field 65 (.agg #[.bool sm,.slice sp sl sc,.slice sq sk sd,.bool tm,.slice tp tl tc,.slice tq tk td]) 0).run Tryz.prog wy=.ok (.agg #[.bool sm,.slice sp sl sc,.slice sq sk sd]) wy from by kernel_rfl);clear hxe hye hy2 hb1 hb2 hv1 c0 c1 c2
  gi_wp2_with fail
  refine⟨trivial,(CallsIn.inRound l (callsIn_wide.2 (gn 0 W2 (by decide) (by decide)))).mono ?_⟩;rintro e W3 ⟨v3,rfl,hv3,hb3'⟩;clear hfd;have hz0:Sz 1 (rt (((0:Int)):Rat)):=.zero (by decide);have hcmp:=kN _ _ _ _ W3 (hx2.below hb3') hv3 (dl _) (dl _) (hsa.x.fewR hz0 (by decide)).f1 (hsa.x.fewR hz0 (by decide)).f2 (hsa.x.fewR hz0 (by decide)).f3 (hsa.x.fewR hz0 (by decide)).f4;rw[show (ct (atL lc (CQ.real x))).x=rt (atL lc (CQ.real x)).re from rfl,nj] at hcmp;obtain⟨sg,hsg⟩:∃ s,s=gy (atL lc (CQ.real x)).re (((0:Int)):Rat):=⟨_,rfl⟩;have hsr:-1<=sg/\sg<=1:=by rw[hsg];exact qv _ _
  rw[<-hsg] at hcmp;rw[show iG x lc=sg from hsg.symm] at HN;have HC:=At hcmp;have hB3:=hB2.trans (hb3'.mono hB2.size);clear hcmp hsg hz0 hv3 hx2 hb3' hB2
  gi_wp2_with fail
  refine⟨trivial,(CallsIn.inRound l (callsIn_wide.2 HC.out)).mono ?_⟩;rintro e W4 ⟨rfl,hb4⟩;have hB4:=hB3.trans (hb4.mono hB3.size);obtain⟨h2',h3,h4,h5⟩:=HI.out;have h2':=(hB4.block _ (AE.1 h2').1).trans h2';have h3:=(hB4.block _ (AE.1 h3).1).trans h3;have h4:=(hB4.block _ (AE.1 h4).1).trans h4;have h5:=h5.trans (hB4.mono h5.size);have HT:=At (bf.of_below (S:=fun k=>k=b3+1\/k=b3+1+1) hB4);obtain⟨k5,f5⟩:=cE h3;obtain⟨k6,f6⟩:=cE h4;have HI:=At (And.intro h2' (And.intro h3 (And.intro h4 h5)));clear hB3 hb4 hB4 HC h2' h3 h4 h5;by_cases hs0:sg=0
  ·subst hs0
   gi_wp2
   obtain⟨q1,q2,q3,q4⟩:=HI.out;exact⟨HT.out,n,last,by rw[HN.out];simp[gr],q1,q2,q3,q4,hn0,by omega,hl0,hl1⟩
  ·have hw1:IntKind.i64.wrap (-last)=-last:=IntWalk.i64_in _ (by omega);have hw2:IntKind.i64.wrap (n+1)=n+1:=IntWalk.i64_in _ (by omega);have hd0:(sg == 0)=false:=by simpa using hs0
   by_cases hsl:sg=-last
   ·have hd:(sg == -last)=true:=by simpa using hsl
    have HN:=At (show oh x ((a8 zs).take (i+1))=(n+1,sg) by rw[HN.out];simp only[gr];rw[if_neg hs0,if_pos hsl]);have HSR:=At hsr;have e1:b3+1≠b3:=by omega
    have e2:b3+1+1≠b3:=by omega
    have e3:b3+1+1≠b3+1:=by omega
    clear hsl hsr hs0
    gi_wp2
    obtain⟨q1,q2,q3,q4⟩:=HI.out;have g1:=(Below.heap_setCell W4 ⟨b3+1,0,none⟩ (.int .i64 (n+1)) b3 (by show b3≠b3+1;omega)).trans q1;have g2:=heap_setCell_same W4 (b3+1) 0 _ _ (.int .i64 (n+1)) q2;have g3:=(Below.heap_setCell W4 ⟨b3+1,0,none⟩ (.int .i64 (n+1)) (b3+1+1) (by show b3+1+1≠b3+1;omega)).trans q3;have g4:=q4.setCell (p:=⟨b3+1,0,none⟩) (by show w.heap.size<=b3+1;omega) (.int .i64 (n+1));have t1:=HT.out.trans (bf.set (S:=fun k=>k=b3+1\/k=b3+1+1) (w:=W4) (Or.inl rfl) 0 (.int .i64 (n+1)));generalize W4.setCell ⟨b3+1,0,none⟩ (.int .i64 (n+1))=W5 at *
    exact⟨t1.trans (bf.set (Or.inr rfl) 0 _),n+1,sg,HN.out,(Below.heap_setCell W5 ⟨b3+1+1,0,none⟩ _ b3 (by show b3≠b3+1+1;omega)).trans g1,(Below.heap_setCell W5 ⟨b3+1+1,0,none⟩ _ (b3+1) (by show b3+1≠b3+1+1;omega)).trans g2,heap_setCell_same W5 (b3+1+1) 0 _ _ _ g3,g4.setCell (p:=⟨b3+1+1,0,none⟩) (by show w.heap.size<=b3+1+1;omega) _,by omega,by omega,HSR.out.1,HSR.out.2⟩
   ·have hd:(sg == -last)=false:=by simpa using hsl
    have HN:=At (show oh x ((a8 zs).take (i+1))=(n,sg) by rw[HN.out];simp only[gr];rw[if_neg hs0,if_neg hsl]);have HSR:=At hsr;clear hsl hsr hs0
    gi_wp2
    obtain⟨q1,q2,q3,q4⟩:=HI.out;exact⟨HT.out.trans (bf.set (Or.inr rfl) 0 _),n,sg,HN.out,(Below.heap_setCell W4 ⟨b3+1+1,0,none⟩ _ b3 (by show b3≠b3+1+1;omega)).trans q1,(Below.heap_setCell W4 ⟨b3+1+1,0,none⟩ _ (b3+1) (by show b3+1≠b3+1+1;omega)).trans q2,heap_setCell_same W4 (b3+1+1) 0 _ _ _ q3,q4.setCell (p:=⟨b3+1+1,0,none⟩) (by show w.heap.size<=b3+1+1;omega) _,hn0,by omega,HSR.out.1,HSR.out.2⟩
 case hdone =>
  rintro D W hD ⟨n,last,h1,h2',h3,h4,h5,h6⟩ hK;rw[AX] at h1;have HN:=At (show ce zs x=n by unfold ce;rw[h1]);obtain⟨k5,f5⟩:=cE h3;have HM:=At h5;have HK:=At hK;clear h1 h2' h3 h4 h5 hK hbc HX4 R1 R2 R3 hp4
  gi_wp2
  have hne:w.heap.size<=D:=by have:=hM4.size;omega
  refine⟨by simp,.inl ⟨_,_,rfl,run_takeDeferred HK.out,?_⟩⟩;refine⟨.int .i64 n,by simp[results,Tryz.results128,go_sem],by rw[HN.out],HM.out.trans ⟨rfl,rfl,rfl,by simp,fun k hk=>World.putObj_heap_other (by omega)⟩⟩
end Go.Proofs.YtgakllaobooabaaGreatDoor
