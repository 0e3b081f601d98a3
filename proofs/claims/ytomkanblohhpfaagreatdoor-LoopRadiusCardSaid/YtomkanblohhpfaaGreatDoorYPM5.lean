/- Lemmas of this claim. -/
import Derived.RangeFuncNested
import Derived.RangeFuncBound
import Derived.RangeFuncCalls
import Derived.RangeFuncLeaves
import Derived.Shelf.Abstract
import Derived.Shelf.RegionOpen
import Derived.OwnWalkIn
import Derived.TacticsInMore
import Derived.LoopNIn
import Derived.LoopIn
import Derived.Test.YtomkanblohhpfaaGreatDoorYPM4
set_option linter.all false
set_option maxRecDepth 100000
set_option maxHeartbeats 8000000
namespace Go.Proofs.YtomkanblohhpfaaGreatDoor
open Go.RowKit Dg
inductive jf:List CQ→List CQ→Prop
 | one (c:CQ) (h:c≠⟨0,0⟩) (hs:SzV 300 (ct c)):jf [c] []
 | two (a c:CQ) (h:c≠⟨0,0⟩) (hs:SzV 300 (ct a)) (hc:SzV 300 (ct c)):jf [a,c] [c]
theorem jR {k:Nat} (h:10≤k):SzV k (ct (CQ.real 1)):=SzV.mono (lw (n:=1) (by decide)) h
theorem tB (vp vq:Value) (zs qs:List CQ) (w:World) (hp:IsP w vp zs) (hq:IsP w vq qs) (hpq:jf zs qs) :
  Calls Tryz.prog 150 #[vp,vq] w fun e w'=>∃ v,e=.returned v∧IsP w' v [CQ.real 1]∧Below w.heap.size w w':=by
 go_enter Tryz.func150,Tryz.ntmps150
 go_wp2
 go_loopw [0,1] (fun s0 s1 wr=>∃ ps rs,IsP wr s0 ps∧IsP wr s1 rs∧jf ps rs∧Below w.heap.size w wr) (fun _ s1 _=>nt s1)
 case atStart=>exact⟨zs,qs,hp,hq,hpq,Below.refl _ _⟩
 case round =>
  clear hp hq hpq
  obtain⟨ps,rs,hp,hq,hpq,hbr⟩:=hrel
  cases hpq with
  | two a c hc hsa hsc =>
   obtain⟨p,cp,rfl,-⟩:=id hp.form
   obtain⟨q,cq,rfl,-⟩:=id hq.form
   have HO:=vL (nz _ _ [a,c] c wr hp hq hc (by simp) (by simp) (fun z hz=>by
    simp only[xo,yj,or_false] at hz
    rcases hz with rfl | rfl
    ·exact hsa
    ·exact hsc) hsc)
   have HQ:=vL hq
   have HP2:=vL (jf.one c hc hsc)
   clear hp hq hc hsa hsc
   go_wp2_with fail
   refine HO.out.mono ?_
   rintro e w2 ⟨v1,v2,rfl,hv1,hv2,hb2⟩
   have hq2:=HQ.out.below hb2
   have hB2:=hbr.trans (hb2.mono hbr.size)
   obtain⟨p2,c2,rfl,-⟩:=id hv2.form
   clear hbr hb2 HQ HO
   go_wp2
   go_roundw
   case rel=>exact⟨_,_,hq2,hv2,HP2.out,hB2⟩
   case measure=>simp[nt]
  | one c hc hsc =>
   obtain⟨p,cp,rfl,-⟩:=id hp.form
   obtain⟨q,cq,rfl,-⟩:=id hq.form
   go_upto_region 6 with fail
   obtain⟨b,o,rfl,hlt,xm,xp,xl,xc,xq,xk,xd,ym,yp,yl,yc,yq,yk,yd,hk,a0,a1,a2,a3,a4,a5⟩:=hp.get (i:=0) (by simp)
   simp only[xF,wL,vN] at hk a0 a1 a2 a3 a4 a5
   have hBd:Below wr.heap.size wr wr.drew:=(Below.refl _ _).drew
   have HP:=vL (hp.below hBd)
   have HK:=vL (hk.below hBd)
   have HB:=vL (hbr.trans (hBd.mono hbr.size))
   refine ai (fun w'=>∃ x:ax wr.drew.heap.size wr.drew,w'=x.w) (fun i=>i == 1||i == 2||i == 9||i == 10) (by kernel_rfl) (by kernel_rfl) ⟨⟨_,Below.refl _ _⟩,rfl⟩ ?_
   have hz:wr.drew.heap.size≤wr.drew.heap.size:=vS _
   have hltd:b<wr.drew.heap.size:=vV hlt hBd.size
   have d0:=aa hBd hlt a0;have d1:=aa hBd hlt a1;have d2:=aa hBd hlt a2;have d3:=aa hBd hlt a3;have d4:=aa hBd hlt a4;have d5:=aa hBd hlt a5
   clear hp hq hk hbr hBd a0 a1 a2 a3 a4 a5
   generalize wr.drew=wd at *
   have c0:=fun x:ax wd.heap.size wd=>aa x.h hltd d0
   have c1:=fun x:ax wd.heap.size wd=>aa x.h hltd d1
   have c2:=fun x:ax wd.heap.size wd=>aa x.h hltd d2
   have c3:=fun x:ax wd.heap.size wd=>aa x.h hltd d3
   have c4:=fun x:ax wd.heap.size wd=>aa x.h hltd d4
   have c5:=fun x:ax wd.heap.size wd=>aa x.h hltd d5
   clear d0 d1 d2 d3 d4 d5
   refine ae 1 0 _ _ _ (by kernel_rfl) ?_
   simp only[vU,vY,vT,vX]
   repeat (go_big_quiet_step (fail))
   refine wpQuiet_nil ?_
   refine af rfl rfl (fun K hK=>?_)
   go_simp
   refine (fN 1 wd (by decide) (by decide)).mono ?_
   rintro e w4 ⟨v4,rfl,hv4,hb4⟩
   refine hK _ _ ⟨⟨_,(hb4).mono hz⟩,rfl⟩ ?_
   clear hK K
   try simp only[Act.put,vP,vO,vN,vM,vQ,vR]
   refine af rfl rfl (fun K hK=>?_)
   go_simp
   refine (cR _ _ _ hv4).mono ?_
   rintro e w5 ⟨v5,rfl,hv5,hb5⟩
   have hB5:=hb4.trans (hb5.mono hb4.size)
   rw[bO] at hv5
   refine hK _ _ ⟨⟨_,(hB5).mono hz⟩,rfl⟩ ?_
   clear hK K
   try simp only[Act.put,vP,vO,vN,vM,vQ,vR]
   refine ae 6 3 _ _ _ (by kernel_rfl) ?_
   simp only[vU,vY,vT,vX]
   repeat (go_big_quiet_step (fail))
   refine wpQuiet_nil ?_
   refine af rfl rfl (fun K hK=>?_)
   go_simp
   refine (li _ _ _ _ 300 300 w5 hv5 (HK.out.below hB5).v (jR (by decide)) hsc (jD hc) (by decide)).mono ?_
   rintro e w6 ⟨v6,rfl,hv6,hb6⟩
   have hB6:=hB5.trans (hb6.mono hB5.size)
   rw[fE hc] at hv6
   refine hK _ _ ⟨⟨_,(hB6).mono hz⟩,rfl⟩ ?_
   clear hK K
   try simp only[Act.put,vP,vO,vN,vM,vQ,vR]
   refine af rfl rfl (fun K hK=>?_)
   go_simp
   refine (oM _ _ [c] _ w6 (HP.out.below hB6) ⟨hv6,sM (jR (by decide)) hsc hc⟩ (fun z hz=>by
    simp only[xo,yj,or_false] at hz
    subst hz
    have h1:=CQ.mul_inv hc
    rw[show CQ.real ((1:Int):Rat)=CQ.real 1 from rfl,h1]
    exact jR (by decide)) (by simp)).mono ?_
   rintro e w7 ⟨v7,rfl,hv7,hb7⟩
   have hB7:=hB6.trans (hb7.mono hB6.size)
   rw[show CQ.real ((1:Int):Rat)=CQ.real 1 from rfl,mF hc] at hv7
   refine hK _ _ ⟨⟨_,(hB7).mono hz⟩,rfl⟩ ?_
   clear hK K
   try simp only[Act.put,vP,vO,vN,vM,vQ,vR]
   refine ae 1 11 _ _ _ (by kernel_rfl) ?_
   simp only[vU,vY,vT,vX]
   repeat (go_big_quiet_step (fail))
   refine wpQuiet_nil ?_
   refine av ?_
   have HF:=vL (HB.out.trans (hB7.mono HB.out.size))
   clear hB5 hB6 hB7 hb4 hb5 hb6 hb7 hv4 hv5 hv6 HB HP HK c0 c1 c2 c3 c4 c5
   go_wp2
   go_ret
   exact⟨_,rfl,hv7,HF.out⟩
open Go.RowKit Go.Shelf Dg
theorem uJ (v:Value) (zs:List CQ) (w:World) (hl:IsP w v zs) :
  Calls Tryz.prog 175 #[v] w fun e w'=>e=.returned (.func (.func 196) #[] #[.pointer (some ⟨w.heap.size,0,none⟩)])∧w'.heap[w.heap.size]?=some (.cells #[v] 127 (0,0))∧w.heap.size<w'.heap.size∧IsP w' v zs∧Below w.heap.size w w':=by
 obtain⟨p,c,rfl,-⟩:=id hl.form
 have c0:=heap_alloc_new w (.cells #[.slice p zs.length c] 127 (0,0))
 have m1:=ac w (.cells #[.slice p zs.length c] 127)
 have z1:=size_alloc w (.cells #[.slice p zs.length c] 127)
 have HL:=vL (hl.below m1)
 have H0:=vL (And.intro c0 (And.intro (show w.heap.size<(w.alloc (.cells #[.slice p zs.length c] 127)).heap.size by omega) m1))
 clear c0 m1 z1 hl
 go_enter Tryz.func175,Tryz.ntmps175
 go_wp2
 go_ret
 exact⟨rfl,H0.out.1,H0.out.2.1,HL.out,H0.out.2.2⟩
theorem bU {w:World}{g:Nat}{v:Value}{T:TypeId} (h:w.heap[g]?=some (.cells #[v] T (0,0))):w.cell? ⟨g,0,none⟩=some v∧w.frozen? ⟨g,0,none⟩=false:=by
 constructor
 ·rw[World.cell?,h];rfl
 ·rw[World.frozen?,h];simp
theorem ji {w:World}{g:Nat}{v:Value}{T:TypeId} (h:w.heap[g]?=some (.cells #[v] T (0,0))) (hv:∀ z,v≠.int .u64 z):lG (fun k=>k=g) qy w:=by
 rintro k rfl j u hc
 rw[World.cell?,h] at hc
 simp only[wO,wt,if_false] at hc
 have hj:j=0:=by
  have:=(vW.1 hc).1
  simpa using this
 subst hj
 simp at hc
 subst hc
 rintro (h | ⟨z,e⟩)
 ·omega
 ·exact hv z e
theorem cV.pair {zs:List CQ} (h:cV zs) (hs:SzL 300 zs):jf zs (pz zs):=by
 cases h with
 | one c h=>rw[qZ];exact .one c h (hs c (by simp))
 | two a c h=>rw[q_ h];exact .two a c h (hs a (by simp)) (hs c (by simp))
theorem sN:SzV 10000 (ct (CQ.real (((-1:Int)):Rat))):=by
 rw[show CQ.real (((-1:Int)):Rat)=(CQ.real 1).neg from by decide,←oH]
 exact (jR (by decide)).neg
def qA (zs:List CQ) (i:Nat) (W:World) (vs:Array Value):Prop:=∃ v l,vs=#[v]∧(aT zs)[i]?=some l∧IsP W v l
attribute [local go_sem] Oper.semAt_some
theorem lL (n:Nat) (hn:3≤n) (g:Nat) (vp:Value) (zs:List CQ) (w:World) (Sb:Nat→Prop) (hbox:w.heap[g]?=some (.cells #[vp] 127 (0,0))) (hp:IsP w vp zs) (h2:cV zs) (hs:SzL 300 zs) (hsb:¬ Sb g) :
  mY Fence.wide n Tryz.prog 196 #[] #[.pointer (some ⟨g,0,none⟩)] (qA zs) (aT zs).length Sb (fun k=>k=g) (lG Sb qy) w:=by
 intro l J W hW hJ hOk hY h0
 have hgl:g<w.heap.size:=(vW.1 hbox).1
 have hb0:=(hW.block g hgl).trans hbox
 have hpW:=hp.below hW
 have HY:=vL hY
 have HJ:=vL hJ
 have HOK:=vL hOk
 have HPR:=vL (h2.pair hs)
 have HFIT:=vL (show ∀ z∈zs,∀ n:Nat,n<33→SzV 10000 (ct (z.mul (CQ.real ((n:Nat):Int)))) from fun z hz n hn=>by
  rw[←bk]
  exact ((hs z hz).times (lw (by omega))).mono (by decide))
 have hzl:zs.length≤33:=by cases h2<;>simp
 obtain⟨p,c,rfl,-⟩:=id hpW.form
 have HP:=vL hpW
 have HB:=vL hb0
 have c0:=(bU hb0).1
 clear hW hY hJ hOk hbox hp hpW h2 hs hb0
 refine callsIn_of_wp Tryz.func196 rfl trivial ?_ rfl
 simp only[Tryz.ntmps196,yB,wI,xt,Nat.reduceAdd,Nat.reduceSub,x9,x_,yA,yv,wP,wQ]
 gi_wp2_with fail
 refine⟨trivial,fun _=>by omega,(callsIn_wide.2 (lU _ zs W HP.out HFIT.out hzl)).mono ?_⟩
 rintro e W2 ⟨q,rfl,hq,hb2⟩
 have HB2:=vL ((hb2.block g (vW.1 HB.out).1).trans HB.out)
 have HP2:=vL (HP.out.below hb2)
 have h02:=HJ.out _ _ _ h0 (aZ.of_below hb2)
 clear h0 hb2 c0 HB HP
 gi_wp2
 gi_loopw [3] (fun s3 wr=>∃ (i:Nat) (vp:Value) (ps qs:List CQ),wr.heap[g]?=some (.cells #[vp] 127 (0,0))∧IsP wr vp ps∧IsP wr s3 qs∧jf ps qs∧J i wr∧Hid ((aT zs).drop i=aT ps)) (fun s3 _=>nt s3)
 case atStart=>exact⟨0,_,_,_,HB2.out,HP2.out,hq,HPR.out,h02,rfl⟩
 case round =>
  clear HB2 HP2 hq HPR h02
  obtain⟨i,vp,ps,qs,hbx,hp,hq,hpq,hJi,hdrop⟩:=hrel
  obtain⟨p,cp,rfl,-⟩:=id hp.form
  obtain⟨qp,cq,rfl,-⟩:=id hq.form
  have c0:=(bU hbx).1
  have hgl:=(vW.1 hbx).1
  cases hpq with
  | one a ha hsa =>
   have hdrop':(aT zs).drop i=[[a]]:=hdrop.out
   have hi:i<(aT zs).length:=by
    have:=congrArg List.length hdrop'
    simp at this;omega
   have hlen:(aT zs).length=i+1:=by
    have:=congrArg List.length hdrop'
    simp at this;omega
   have hget:(aT zs)[i]?=some [a]:=by
    have:=xS (xs:=aT zs) (i:=i) (j:=0)
    rw[hdrop'] at this
    simpa using this.symm
   obtain⟨fn,tmps,assign,body,hy,hR⟩:=HY.out i hi wr #[.slice p [a].length cp] hJi ⟨_,_,rfl,hget,hp⟩
   clear HY HJ HOK hJi hp hq hdrop hdrop' hget
   have hy:(Instr.yield l #[.slice p 1 cp]).run Tryz.prog wr=.ok (.round l fn tmps assign body) wr:=hy
   gi_wp2
   refine⟨fun _=>by omega,hR.mono ?_⟩
   rintro e W' ⟨rfl,hJ',hT⟩
   gi_wp2
   refine bodyPost_ret (v:=.tuple #[]) (by simp[results,Tryz.results196,go_sem]) rfl ⟨⟨_,rfl⟩,by rw[hlen];exact hJ'⟩
  | two a b hb hsa hsb =>
   have hdrop':(aT zs).drop i=[[a,b],[b]]:=hdrop.out
   have hi:i<(aT zs).length:=by
    have:=congrArg List.length hdrop'
    simp at this;omega
   have hdrop2:(aT zs).drop (i+1)=[[b]]:=by
    have:=congrArg (List.drop 1) hdrop'
    rwa [List.drop_drop] at this
   have hget:(aT zs)[i]?=some [a,b]:=by
    have:=xS (xs:=aT zs) (i:=i) (j:=0)
    rw[hdrop'] at this
    simpa using this.symm
   obtain⟨fn,tmps,assign,body,hy,hR⟩:=HY.out i hi wr #[.slice p [a,b].length cp] hJi ⟨_,_,rfl,hget,hp⟩
   have hsafe:=HOK.out _ _ hJi
   have HQ:=vL hq
   have HP:=vL hp
   have HBX:=vL hbx
   have HD2:=vL hdrop2
   have hy:(Instr.yield l #[.slice p 2 cp]).run Tryz.prog wr=.ok (.round l fn tmps assign body) wr:=hy
   clear hJi hp hq hdrop hdrop' hdrop2 hget hbx
   gi_wp2
   refine⟨fun _=>by omega,hR.mono ?_⟩
   rintro e W' ⟨rfl,hJ',hT⟩
   have hkeep:=fp.of_turns hT hsafe
   have HQ:=vL (HQ.out.keep hkeep)
   have HP:=vL (HP.out.keep hkeep)
   have HBX:=vL ((hT.block g hgl ‹¬ Sb g›).trans HBX.out)
   have c0:=(bU HBX.out).1
   have HJ':=vL hJ'
   clear hR hy hT hsafe hkeep hJ' HY
   gi_wp2_with fail
   refine⟨trivial,fun _=>by omega,(callsIn_wide.2 (nz _ _ [a,b] b W' HP.out HQ.out hb (by simp) (by simp) (fun z hz=>by
    simp only[xo,yj,or_false] at hz
    rcases hz with rfl | rfl
    ·exact hsa
    ·exact hsb) hsb)).mono ?_⟩
   rintro e W3 ⟨v1,v2,rfl,hv1,hv2,hb3⟩
   obtain⟨p2,c2,rfl,-⟩:=id hv2.form
   have HQ:=vL (HQ.out.below hb3)
   have HBX:=vL ((hb3.block g (vW.1 HBX.out).1).trans HBX.out)
   have HJ':=vL (HJ.out _ _ _ HJ'.out (aZ.of_below hb3))
   have HV2:=vL hv2
   clear HP c0 hb3 hv1 hv2
   gi_wp2_with fail
   refine⟨trivial,fun _=>by omega,(callsIn_wide.2 (fN (-1) W3 (by decide) (by decide))).mono ?_⟩
   rintro e W4 ⟨v4,rfl,hv4,hb4⟩
   gi_wp2_with fail
   refine⟨trivial,fun _=>by omega,(callsIn_wide.2 (cR _ _ _ hv4)).mono ?_⟩
   rintro e W5 ⟨v5,rfl,hv5,hb5⟩
   rw[bO] at hv5
   have hB5:=hb4.trans (hb5.mono hb4.size)
   gi_wp2_with fail
   refine⟨trivial,fun _=>by omega,(callsIn_wide.2 (oM _ _ [] _ W5 (HV2.out.below hB5) ⟨hv5,sN⟩ (fun z hz=>by cases hz) (by simp))).mono ?_⟩
   rintro e W6 ⟨v6,rfl,hv6,hb6⟩
   rw[show lp [] (CQ.real (((-1:Int)):Rat))=[] from rfl] at hv6
   have hB6:=hB5.trans (hb6.mono hB5.size)
   obtain⟨p6,c6,rfl,-⟩:=id hv6.form
   have HQ:=vL (HQ.out.below hB6)
   have HBX:=vL ((hB6.block g (vW.1 HBX.out).1).trans HBX.out)
   have HJ':=vL (HJ.out _ _ _ HJ'.out (aZ.of_below hB6))
   have HS6:=vL (ji HBX.out (by intro z e;cases e))
   obtain⟨k0,f0⟩:=bU HBX.out
   have hT:=aZ.set (S:=fun k=>k=g) (w:=W6) rfl 0 (.slice qp [b].length cq)
   have hK:=fp.of_turns hT HS6.out
   have HQ:=vL (HQ.out.keep hK)
   have HV6:=vL (hv6.keep hK)
   have HJ':=vL (HJ.out _ _ _ HJ'.out hT)
   have HBX:=vL (heap_setCell_same W6 g 0 _ _ (.slice qp [b].length cq) HBX.out)
   clear hB5 hB6 hb4 hb5 hb6 hv4 hv5 hv6 HV2 HS6 hT hK
   gi_wp2
   go_roundw
   case rel=>exact⟨i+1,_,[b],[],HBX.out,HQ.out,HV6.out,.one b hb hsb,HJ'.out,HD2.out⟩
   case measure=>simp[nt]
end Go.Proofs.YtomkanblohhpfaaGreatDoor
