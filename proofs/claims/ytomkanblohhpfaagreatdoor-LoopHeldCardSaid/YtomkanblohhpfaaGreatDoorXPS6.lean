/- Lemmas of this claim. -/
import Derived.Test.YtomkanblohhpfaaGreatDoorXLPr2
set_option linter.all false
set_option maxRecDepth 100000
set_option maxHeartbeats 8000000
namespace Go.Proofs.YtomkanblohhpfaaGreatDoor
open Go.RowKit Dg Dc
theorem CQ.cancel {x y c:CQ} (hc:c≠⟨0,0⟩) (h:x.mul c=y.mul c):x=y:=by
 have e:∀ v:CQ,(v.mul c).mul ((CQ.real 1).div c)=v:=fun v=>by
  have h1:=CQ.mul_inv hc
  have e2:(v.mul c).mul ((CQ.real 1).div c)=v.mul (c.mul ((CQ.real 1).div c)):=by
   generalize (CQ.real 1).div c=i
   obtain⟨a,b⟩:=v;obtain⟨x,y⟩:=c;obtain⟨s,t⟩:=i
   simp only[CQ.mul,CQ.mk.injEq]
   constructor<;>grind
  rw[e2,h1,CQ.mul_one]
 rw[←e x,h,e y]
theorem CQ.mul_ne {a b:CQ} (ha:a≠⟨0,0⟩) (hb:b≠⟨0,0⟩):a.mul b≠⟨0,0⟩:=fun e=>ha (CQ.cancel hb (by rw[e];exact (CQ.zero_mul b).symm))
theorem CQ.div_mul_div {a b c d:CQ} (hb:b≠⟨0,0⟩) (hd:d≠⟨0,0⟩):(a.mul c).div (b.mul d)=(a.div b).mul (c.div d):=by
 refine CQ.cancel (CQ.mul_ne hb hd) ?_
 rw[CQ.div_mul (CQ.mul_ne hb hd)]
 have e1:=CQ.div_mul (z:=a) hb
 have e2:=CQ.div_mul (z:=c) hd
 have e3:((a.div b).mul (c.div d)).mul (b.mul d)=((a.div b).mul b).mul ((c.div d).mul d):=by
  generalize a.div b=p
  generalize c.div d=q
  obtain⟨x1,y1⟩:=p;obtain⟨x2,y2⟩:=q;obtain⟨x3,y3⟩:=b;obtain⟨x4,y4⟩:=d
  simp only[CQ.mul,CQ.mk.injEq]
  constructor<;>grind
 rw[e3,e1,e2]
theorem CQ.div_add_div {a b c d:CQ} (hb:b≠⟨0,0⟩) (hd:d≠⟨0,0⟩):((a.mul d).add (c.mul b)).div (b.mul d)=(a.div b).add (c.div d):=by
 refine CQ.cancel (CQ.mul_ne hb hd) ?_
 rw[CQ.div_mul (CQ.mul_ne hb hd)]
 have e1:=CQ.div_mul (z:=a) hb
 have e2:=CQ.div_mul (z:=c) hd
 have e3:((a.div b).add (c.div d)).mul (b.mul d)=(((a.div b).mul b).mul d).add (((c.div d).mul d).mul b):=by
  generalize a.div b=p
  generalize c.div d=q
  obtain⟨x1,y1⟩:=p;obtain⟨x2,y2⟩:=q;obtain⟨x3,y3⟩:=b;obtain⟨x4,y4⟩:=d
  simp only[CQ.mul,CQ.add,CQ.mk.injEq]
  constructor<;>grind
 rw[e3,e1,e2]
theorem yD {a b:Rat} (ha:okQ a) (hb:okQ b) (h:tq a=tq b):a=b:=congrArg CQ.re (rH ha hb h)
theorem eu:∀ {l m:List Rat},(∀ q∈l,okQ q)→(∀ q∈m,okQ q)→l.map tq=m.map tq→l=m
 | [],[],_,_,_=>rfl
 | [],_ :: _,_,_,h=>by cases h
 | _ :: _,[],_,_,h=>by cases h
 | a :: l,b :: m,h1,h2,h=>by
  rw[Ac,Ac] at h
  rw[yD (h1 a (zB ..)) (h2 b (zB ..)) (List.cons.inj h).1,eu (fun q hq=>h1 q (zv _ hq)) (fun q hq=>h2 q (zv _ hq)) (List.cons.inj h).2]
theorem gN {a b:List ByteArray}{qa qb:List Rat} (ha:gr a qa) (hb:gr b qb) (hb0:0<qb.length) :
  ∃ qp:List Rat,∃ D,b9 a b=qp.map tq∧0<D∧D≤2 ^ 168∧(∀ q∈qp,Ov D (2 ^ 198) q∧okQ q)∧∀ w,evQ w qp=(evQ w qa).mul (evQ w qb):=by
 obtain⟨D,hD,hDl,oa⟩:=ha.ov
 obtain⟨E,hE,hEl,ob⟩:=hb.ov
 have hDE:D*E≤2 ^ 168:=by
  have:=zw hDl hEl
  rw[←zQ] at this
  exact this
 have hll:qa.length*qb.length≤7*7:=zw ha.len hb.len
 have hs:(qa.length*qb.length+1)*(2 ^ 96*2 ^ 96)≤2 ^ 198:=by
  have:=zg (2 ^ 96*2 ^ 96) (show qa.length*qb.length+1≤2 ^ 6 by omega)
  exact zq this (by decide)
 have hDE2:=bJ hDE (by decide)
 obtain⟨h1,h2⟩:=ry hD hE (fun q hq=>⟨oa q hq,ha.ok q hq⟩) (fun q hq=>⟨ob q hq,hb.ok q hq⟩) hb0 hDE2 (bJ hs (by decide)) qa.length (y9 _)
 have h3:∀ q∈fd qa qb qa.length,Ov (D*E) (2 ^ 198) q:=fun q hq=>(h2 q hq).mono (zq (zg _ (zP _)) hs)
 refine⟨fd qa qb qa.length,D*E,?_,z7 hD hE,hDE,fun q hq=>⟨h3 q hq,(h3 q hq).ok (z7 hD hE) hDE2 (bJ (y9 _) (by decide))⟩,fun w=>?_⟩
 ·unfold b9
  rw[ha.e,hb.e,zA,h1]
 ·rw[qJ w qa qb hb0 _ (y9 _),zD]
theorem vM {a b:CQ}{D E:Nat} (ha:OvC D (2 ^ 1327) a) (hb:OvC E (2 ^ 1327) b) (hD:D≤2 ^ 1327) (hE:E≤2 ^ 1327):aM (b8 CQ.mul) (txt a) (txt b)=(txt (a.mul b),0):=by
 have k1:=ha.ok (bJ hD (by decide)) (bJ (y9 _) (by decide))
 have k2:=hb.ok (bJ hE (by decide)) (bJ (y9 _) (by decide))
 have o:=ha.mul hb
 have hDE : D * E ≤ 2 ^ 2654 := le_mul (x := D) (y := E) (a := 1327) (b := 1327) (c := 2654) hD hE rfl
 have hM : 2 * (2 ^ 1327 * 2 ^ 1327) ≤ 2 ^ 2655 := Nat.le_of_eq (pow_dup (a := 1327) (b := 1327) (c := 2654) (d := 2655) rfl rfl)
 have k3:=o.ok (bJ hDE (by decide)) (bJ hM (by decide))
 unfold aM b8
 rw[dl k1,dl k2]
 simp only[if_true]
 rw[i_ k3]
theorem oP {a b:CQ}{D E:Nat} (ha:OvC D (2 ^ 1327) a) (hb:OvC E (2 ^ 1327) b) (hD:D≤2 ^ 1327) (hE:E≤2 ^ 1327):aM (b8 CQ.add) (txt a) (txt b)=(txt (a.add b),0):=by
 have k1:=ha.ok (bJ hD (by decide)) (bJ (y9 _) (by decide))
 have k2:=hb.ok (bJ hE (by decide)) (bJ (y9 _) (by decide))
 have hb2:=hb.wide D ha.pos
 rw[zC E D] at hb2
 have o:=(ha.wide E hb.pos).add hb2
 have hDE : D * E ≤ 2 ^ 2654 := le_mul (x := D) (y := E) (a := 1327) (b := 1327) (c := 2654) hD hE rfl
 have hM : 2 ^ 1327 * E + 2 ^ 1327 * D ≤ 2 ^ 2655 := two_sum (D := D) (E := E) (a := 1327) (b := 1327) (c := 2654) (d := 2655) hD hE rfl rfl
 have k3:=o.ok (bJ hDE (by decide)) (bJ hM (by decide))
 unfold aM b8
 rw[dl k1,dl k2]
 simp only[if_true]
 rw[i_ k3]
theorem gA {fa fb ga gb l1 l2:List ByteArray} (h:(aE fa fb ga gb (.ok (l1,l2))).2=0):aE fa fb ga gb (.ok (l1,l2))=((l1,l2),0)∧au l1 l2=true:=by
 unfold aE at h ⊢
 split at h
 ·cases h
 ·rename_i h1
  rw[if_neg h1]
  split at h
  ·cases h
  ·rename_i h2
   rw[if_neg h2]
   replace h:(if 7<l1.length∨7<l2.length then (([],[]),3) else if au l1 l2=false then (([],[]),8) else ((l1,l2),0):(List ByteArray×List ByteArray)×Int).2=0:=h
   show (if 7<l1.length∨7<l2.length then (([],[]),3) else if au l1 l2=false then (([],[]),8) else ((l1,l2),0):(List ByteArray×List ByteArray)×Int)=_∧_
   by_cases h3:7<l1.length∨7<l2.length
   ·rw[if_pos h3] at h;cases h
   ·rw[if_neg h3] at h ⊢
    by_cases h4:au l1 l2=false
    ·rw[if_pos h4] at h;cases h
    ·rw[if_neg h4];exact⟨rfl,by simpa using h4⟩
theorem dx {a b:List ByteArray} (h:au a b=true):∃ qa qb,gr a qa∧gr b qb∧0<qa.length∧0<qb.length:=by
 obtain⟨b1,b7,a1,a7,ac,bc,-⟩:=aC h
 obtain⟨qa,ha⟩:=oA a7 ac
 obtain⟨qb,hb⟩:=oA b7 bc
 refine⟨qa,qb,ha,hb,?_,?_⟩
 ·rw[ha.e,zA] at a1;omega
 ·rw[hb.e,zA] at b1;omega
theorem lh {fa fb ga gb:List ByteArray}{z:ByteArray} (hf:(aG fa fb z).2=0) (hg:(aG ga gb z).2=0) (hs:(di fa fb ga gb).2=0) :
  ∃ r,aG (di fa fb ga gb).1.1 (di fa fb ga gb).1.2 z=(r,0)∧aM (b8 CQ.mul) (aG fa fb z).1 (aG ga gb z).1=(r,0):=by
 obtain⟨c1,hsh,hz,n1⟩:=fJ hf
 obtain⟨c2,-,-,n2⟩:=fJ hg
 obtain⟨w,hw⟩:=yE hsh hz
 obtain⟨qfa,qfb,p1,p2,l1,l2⟩:=dx c1
 obtain⟨qga,qgb,p3,p4,l3,l4⟩:=dx c2
 have hn1:=n1 qfb w p2 hw
 have hn2:=n2 qgb w p4 hw
 obtain⟨e1,D1,hD1,o1⟩:=de c1 hsh hz p1 p2 hw hn1
 obtain⟨e2,D2,hD2,o2⟩:=de c2 hsh hz p3 p4 hw hn2
 obtain⟨es,cs⟩:=gA hs
 rw[show di fa fb ga gb=((b9 fa ga,b9 fb gb),0) from es,e1,e2]
 obtain⟨qsa,qsb,p5,p6,-,-⟩:=dx cs
 obtain⟨q1,E1,f1,-,-,k1,v1⟩:=gN p1 p3 l3
 obtain⟨q2,E2,f2,-,-,k2,v2⟩:=gN p2 p4 l4
 obtain rfl:qsa=q1:=eu p5.ok (fun q hq=>(k1 q hq).2) (by rw[←p5.e,f1])
 obtain rfl:qsb=q2:=eu p6.ok (fun q hq=>(k2 q hq).2) (by rw[←p6.e,f2])
 have hne:evQ w qsb≠⟨0,0⟩:=by rw[v2];exact CQ.mul_ne hn1 hn2
 obtain⟨e3,-⟩:=de cs hsh hz p5 p6 hw hne
 refine⟨_,e3,?_⟩
 rw[vM o1 o2 hD1 hD2,v1,v2,CQ.div_mul_div hn1 hn2]
def j0:List Rat→List Rat→List Rat
 | [],_=>[]
 | a :: l,[]=>a :: j0 l []
 | a :: l,b :: m=>(a+b) :: j0 l m
theorem j7:∀ l:List Rat,j0 l []=l
 | []=>rfl
 | a :: l=>by rw[j0,j7 l]
theorem pG (w:CQ):∀ l m:List Rat,m.length≤l.length→evQ w (j0 l m)=(evQ w l).add (evQ w m)
 | [],[],_=>by
  show (⟨0,0⟩:CQ)=(⟨0,0⟩:CQ).add ⟨0,0⟩
  exact (CQ.add_zero _).symm
 | [],_ :: _,h=>by simp at h
 | a :: l,[],_=>by
  rw[j7]
  exact (CQ.add_zero _).symm
 | a :: l,b :: m,h=>by
  rw[j0,cX,cX,cX,pG w l m (by simpa using h)]
  generalize evQ w l=e
  generalize evQ w m=f
  obtain⟨x,y⟩:=e;obtain⟨u,v⟩:=f;obtain⟨s,t⟩:=w
  simp only[CQ.add,CQ.mul,CQ.real,CQ.mk.injEq]
  constructor<;>grind
theorem s_ (x y:ByteArray) (l m:List ByteArray):cC (x :: l) (y :: m)=ef x y :: cC l m:=by
 unfold cC
 rw[show (x :: l).length=l.length+1 from rfl,show (y :: m).length=m.length+1 from rfl,List.range_succ_eq_map,Ac,List.map_map]
 congr 1
 refine List.map_congr_left fun i _=>?_
 simp only[Function.comp,Nat.succ_eq_add_one,Nat.add_lt_add_iff_right]
 rfl
theorem vJ (l:List ByteArray):cC l []=l:=by
 refine List.ext_getElem (by simp[cC]) fun i h1 h2=>?_
 simp only[cC,Af,Bs,Ab,Nat.not_lt_zero,if_false]
 exact (eo h2).symm
theorem qj:∀ l m:List Rat,m.length≤l.length→(∀ q∈l,okQ q)→(∀ q∈m,okQ q)→(∀ a∈l,∀ b∈m,okQ (a+b))→cC (l.map tq) (m.map tq)=(j0 l m).map tq
 | l,[],_,_,_,_=>by rw[BC,vJ,j7]
 | [],_ :: _,h,_,_,_=>by simp at h
 | a :: l,b :: m,h,h1,h2,h3=>by
  rw[Ac,Ac,s_,j0,Ac,qx (h1 a (zB ..)) (h2 b (zB ..)) (h3 a (zB ..) b (zB ..)),
   qj l m (by simpa using h) (fun q hq=>h1 q (zv _ hq)) (fun q hq=>h2 q (zv _ hq)) (fun a ha b hb=>h3 a (zv _ ha) b (zv _ hb))]
theorem o_:∀ l m:List Rat,(∀ q∈l,okQ q)→(∀ a∈l,∀ b∈m,okQ (a+b))→∀ q∈j0 l m,okQ q
 | [],_,_,_,q,h=>by cases h
 | a :: l,[],h1,_,q,h=>by rw[j7] at h;exact h1 q h
 | a :: l,b :: m,h1,h2,q,h=>by
  rw[j0] at h
  rcases zW.1 h with rfl | h
  ·exact h2 a (zB ..) b (zB ..)
  ·exact o_ l m (fun q hq=>h1 q (zv _ hq)) (fun a ha b hb=>h2 a (zv _ ha) b (zv _ hb)) q h
theorem uQ {a b:Rat}{D E:Nat} (ha:Ov D (2 ^ 198) a) (hb:Ov E (2 ^ 198) b) (hD:0<D) (hE:0<E) (hDl:D≤2 ^ 168) (hEl:E≤2 ^ 168):okQ (a+b):=by
 have h2:=hb.wide D hE hD
 rw[zC E D] at h2
 have h:=(ha.wide E hD hE).add h2
 have b1 : D * E ≤ 2 ^ 336 := le_mul (x := D) (y := E) (a := 168) (b := 168) (c := 336) hDl hEl rfl
 have b2 : 2 ^ 198 * E + 2 ^ 198 * D ≤ 2 ^ 367 := two_sum (D := D) (E := E) (a := 198) (b := 168) (c := 366) (d := 367) hDl hEl rfl rfl
 exact h.ok (z7 hD hE) (bJ b1 (by decide)) (bJ b2 (by decide))
theorem rE {a b:List ByteArray}{qa qb:List Rat}{D E:Nat} (ea:a=qa.map tq) (eb:b=qb.map tq) (hD:0<D) (hE:0<E) (hDl:D≤2 ^ 168) (hEl:E≤2 ^ 168) (oa:∀ q∈qa,Ov D (2 ^ 198) q∧okQ q) (ob:∀ q∈qb,Ov E (2 ^ 198) q∧okQ q) :
  ∃ qs:List Rat,cH a b=qs.map tq∧(∀ q∈qs,okQ q)∧∀ w,evQ w qs=(evQ w qa).add (evQ w qb):=by
 unfold cH
 rw[ea,eb,zA,zA]
 by_cases h:qa.length<qb.length
 ·rw[if_pos h]
  have hok:∀ x∈qb,∀ y∈qa,okQ (x+y):=fun x hx y hy=>uQ (ob x hx).1 (oa y hy).1 hE hD hEl hDl
  refine⟨j0 qb qa,qj qb qa (by omega) (fun q hq=>(ob q hq).2) (fun q hq=>(oa q hq).2) hok,o_ qb qa (fun q hq=>(ob q hq).2) hok,fun w=>?_⟩
  rw[pG w qb qa (by omega)]
  generalize evQ w qb=e
  generalize evQ w qa=f
  obtain⟨x,y⟩:=e;obtain⟨u,v⟩:=f
  simp only[CQ.add,CQ.mk.injEq]
  constructor<;>grind
 ·rw[if_neg h]
  have hok:∀ x∈qa,∀ y∈qb,okQ (x+y):=fun x hx y hy=>uQ (oa x hx).1 (ob y hy).1 hD hE hDl hEl
  exact⟨j0 qa qb,qj qa qb (by omega) (fun q hq=>(oa q hq).2) (fun q hq=>(ob q hq).2) hok,o_ qa qb (fun q hq=>(oa q hq).2) hok,fun w=>pG w qa qb (by omega)⟩
theorem mZ {fa fb ga gb:List ByteArray}{z:ByteArray} (hf:(aG fa fb z).2=0) (hg:(aG ga gb z).2=0) (hs:(cD fa fb ga gb).2=0) :
  ∃ r,aG (cD fa fb ga gb).1.1 (cD fa fb ga gb).1.2 z=(r,0)∧aM (b8 CQ.add) (aG fa fb z).1 (aG ga gb z).1=(r,0):=by
 obtain⟨c1,hsh,hz,n1⟩:=fJ hf
 obtain⟨c2,-,-,n2⟩:=fJ hg
 obtain⟨w,hw⟩:=yE hsh hz
 obtain⟨qfa,qfb,p1,p2,l1,l2⟩:=dx c1
 obtain⟨qga,qgb,p3,p4,l3,l4⟩:=dx c2
 have hn1:=n1 qfb w p2 hw
 have hn2:=n2 qgb w p4 hw
 obtain⟨e1,D1,hD1,o1⟩:=de c1 hsh hz p1 p2 hw hn1
 obtain⟨e2,D2,hD2,o2⟩:=de c2 hsh hz p3 p4 hw hn2
 obtain⟨es,cs⟩:=gA hs
 rw[show cD fa fb ga gb=((cH (b9 fa gb) (b9 ga fb),b9 fb gb),0) from es,e1,e2]
 obtain⟨qsa,qsb,p5,p6,-,-⟩:=dx cs
 obtain⟨q1,E1,f1,x1,y1,k1,v1⟩:=gN p1 p4 l4
 obtain⟨q3,E3,f3,x3,y3,k3,v3⟩:=gN p3 p2 l2
 obtain⟨q2,E2,f2,-,-,k2,v2⟩:=gN p2 p4 l4
 obtain⟨q4,f4,k4,v4⟩:=rE f1 f3 x1 x3 y1 y3 k1 k3
 obtain rfl:qsa=q4:=eu p5.ok k4 (by rw[←p5.e,f4])
 obtain rfl:qsb=q2:=eu p6.ok (fun q hq=>(k2 q hq).2) (by rw[←p6.e,f2])
 have hne:evQ w qsb≠⟨0,0⟩:=by rw[v2];exact CQ.mul_ne hn1 hn2
 obtain⟨e3,-⟩:=de cs hsh hz p5 p6 hw hne
 refine⟨_,e3,?_⟩
 rw[oP o1 o2 hD1 hD2,v4,v1,v3,v2,CQ.div_add_div hn1 hn2]
theorem pz:bm (⟨#[]⟩:ByteArray).data.toList=false:=by decide +kernel
theorem ua {a b:Rat} (ha:okQ a) (hb:okQ b) (hne:b≠0) (h:bm (aY (tq a) (tq b)).data.toList=true):okQ (a / b)∧aY (tq a) (tq b)=tq (a / b):=by
 have hok:okQ (a / b):=by
  unfold aY aM kC at h
  rw[ff ha,ff hb] at h
  have hn:CQ.real b≠⟨0,0⟩:=fun e=>hne (congrArg CQ.re e)
  simp only[if_neg hn,if_true] at h
  rw[oD a b hne] at h
  unfold ck at h
  unfold okQ
  cases hb:cF (CQ.real (a / b))
  ·rfl
  ·rw[hb] at h
   simp only[if_true] at h
   rw[pz] at h
   cases h
 exact⟨hok,qG ha hb hne hok⟩
theorem iV {b:Rat} (hb:okQ b) (hne:b≠0):∀ qs:List Rat,(∀ q∈qs,okQ q)→(∀ s∈(qs.map tq).map (fun a=>aY a (tq b)),bm s.data.toList=true) →
  (qs.map tq).map (fun a=>aY a (tq b))=(qs.map (fun q=>q / b)).map tq∧∀ q∈qs.map (fun q=>q / b),okQ q
 | [],_,_=>⟨rfl,fun q h=>by cases h⟩
 | q :: qs,h1,h2=>by
  obtain⟨e1,e2⟩:=ua (h1 q (zB ..)) hb hne (h2 _ (zB ..))
  obtain⟨e3,e4⟩:=iV hb hne qs (fun r hr=>h1 r (zv _ hr)) (fun s hs=>h2 s (zv _ hs))
  refine⟨?_,fun r hr=>?_⟩
  ·simp only[Ac]
   rw[e2,e3]
  ·rcases zW.1 hr with rfl | hr
   ·exact e1
   ·exact e4 r hr
theorem mO (w:CQ) (b:Rat):∀ qs:List Rat,evQ w (qs.map (fun q=>q / b))=(evQ w qs).mul (CQ.real (1 / b))
 | []=>(CQ.zero_mul _).symm
 | q :: qs=>by
  rw[Ac,cX,cX,mO w b qs]
  generalize evQ w qs=e
  obtain⟨x,y⟩:=e;obtain⟨s,t⟩:=w
  simp only[CQ.add,CQ.mul,CQ.real,CQ.mk.injEq]
  constructor<;>grind
theorem CQ.div_add {a c o:CQ} (ho:o≠⟨0,0⟩):(a.div o).add (c.div o)=(a.add c).div o:=by
 refine CQ.cancel ho ?_
 rw[CQ.div_mul ho]
 have e1:=CQ.div_mul (z:=a) ho
 have e2:=CQ.div_mul (z:=c) ho
 have e3:((a.div o).add (c.div o)).mul o=((a.div o).mul o).add ((c.div o).mul o):=by
  generalize a.div o=p
  generalize c.div o=q
  obtain⟨x1,y1⟩:=p;obtain⟨x2,y2⟩:=q;obtain⟨x3,y3⟩:=o
  simp only[CQ.mul,CQ.add,CQ.mk.injEq]
  constructor<;>grind
 rw[e3,e1,e2]
theorem CQ.div_self {o:CQ} (ho:o≠⟨0,0⟩):o.div o=CQ.real 1:=by
 refine CQ.cancel ho ?_
 rw[CQ.div_mul ho]
 obtain⟨x,y⟩:=o
 simp only[CQ.mul,CQ.real,CQ.mk.injEq]
 constructor<;>grind
theorem nI {fa fb ga gb:List ByteArray}{r:Except Int (List ByteArray×List ByteArray)} (h:(aE fa fb ga gb r).2≠0):(aE fa fb ga gb r).1=([],[]):=by
 unfold aE at h ⊢
 split
 ·rfl
 ·rename_i h1
  rw[if_neg h1] at h
  split
  ·rfl
  ·rename_i h2
   rw[if_neg h2] at h
   cases r with
   | error n=>rfl
   | ok ab =>
    obtain⟨l1,l2⟩:=ab
    replace h:(if 7<l1.length∨7<l2.length then (([],[]),3) else if au l1 l2=false then (([],[]),8) else ((l1,l2),0):(List ByteArray×List ByteArray)×Int).2≠0:=h
    show (if 7<l1.length∨7<l2.length then (([],[]),3) else if au l1 l2=false then (([],[]),8) else ((l1,l2),0):(List ByteArray×List ByteArray)×Int).1=_
    by_cases h3:7<l1.length∨7<l2.length
    ·rw[if_pos h3]
    ·rw[if_neg h3] at h ⊢
     by_cases h4:au l1 l2=false
     ·rw[if_pos h4]
     ·rw[if_neg h4] at h;exact absurd rfl h
theorem jk {l fa fb:List ByteArray} (h:(aE fa fb fa fb (cf l fa fb)).2=0) :
  au fa fb=true∧aq (cH fa fb) 0≠⟨#[48]⟩∧aE fa fb fa fb (cf l fa fb)=((l.map (fun a=>aY a (aq (cH fa fb) 0)),(cH fa fb).map (fun a=>aY a (aq (cH fa fb) 0))),0) ∧
   au (l.map (fun a=>aY a (aq (cH fa fb) 0))) ((cH fa fb).map (fun a=>aY a (aq (cH fa fb) 0)))=true:=by
 by_cases hs:aq (cH fa fb) 0=⟨#[48]⟩
 ·exfalso
  unfold cf at h
  rw[if_pos hs] at h
  unfold aE at h
  split at h
  ·cases h
  ·first | (cases h;done) | (split at h<;>cases h)
 ·have e:cf l fa fb=.ok (l.map (fun a=>aY a (aq (cH fa fb) 0)),(cH fa fb).map (fun a=>aY a (aq (cH fa fb) 0))):=by unfold cf;rw[if_neg hs]
  rw[e] at h ⊢
  obtain⟨h1,h2⟩:=gA h
  refine⟨?_,hs,h1,h2⟩
  unfold aE at h
  by_cases hc:au fa fb=true
  ·exact hc
  ·rw[if_pos (by simpa using hc)] at h;cases h
theorem uu {fa fb:List ByteArray}{z:ByteArray} (hl:(d_ fa fb).2=0) (hk:(ce fa fb).2=0) (ht:(aG (d_ fa fb).1.1 (d_ fa fb).1.2 z).2=0) :
  ∃ m,aG (ce fa fb).1.1 (ce fa fb).1.2 z=(m,0)∧aM (b8 CQ.add) (aG (d_ fa fb).1.1 (d_ fa fb).1.2 z).1 m=(⟨#[49]⟩,0)∧(ce fa fb).1.2=(d_ fa fb).1.2:=by
 obtain⟨hc,hs0,eL,cL⟩:=jk (l:=fb) hl
 obtain⟨-,-,eK,cK⟩:=jk (l:=fa) hk
 rw[show d_ fa fb=_ from eL] at ht ⊢
 rw[show ce fa fb=_ from eK]
 obtain⟨-,hsh,hz,n1⟩:=fJ ht
 obtain⟨w,hw⟩:=yE hsh hz
 obtain⟨qa,qb,pa,pb,la,lb⟩:=dx hc
 obtain⟨D,hD,hDl,oa⟩:=pa.ov
 obtain⟨E,hE,hEl,ob⟩:=pb.ov
 have h198:(2:Nat) ^ 96≤2 ^ 198:=zo (by decide) (by decide)
 have h168:(2:Nat) ^ 84≤2 ^ 168:=zo (by decide) (by decide)
 obtain⟨qs,es,ks,vs⟩:=rE pa.e pb.e hD hE (zq hDl h168) (zq hEl h168) (fun q hq=>⟨(oa q hq).mono h198,pa.ok q hq⟩) (fun q hq=>⟨(ob q hq).mono h198,pb.ok q hq⟩)
 have hsl:0<qs.length:=by
  have h1:=congrArg List.length es
  rw[jf,zA,pa.e,zA] at h1
  omega
 have e0:aq (cH fa fb) 0=tq (qs.getD 0 0):=by rw[es,kg hsl]
 have hq0:okQ (qs.getD 0 0):=ks _ (by rw[zN,zm hsl];exact zn hsl)
 have hne0:qs.getD 0 0≠0:=fun e=>hs0 (by rw[e0,e];exact gU)
 rw[e0] at cL cK ht n1 ⊢
 rw[es,pb.e] at cL
 rw[es,pa.e] at cK
 rw[es,pb.e] at n1 ht
 rw[es,pa.e,pb.e]
 obtain⟨-,-,-,-,c1,c2,-⟩:=aC cL
 obtain⟨-,-,-,-,c3,-⟩:=aC cK
 obtain⟨t1,k1⟩:=iV hq0 hne0 qb pb.ok c1
 obtain⟨t2,k2⟩:=iV hq0 hne0 qs ks c2
 obtain⟨t3,k3⟩:=iV hq0 hne0 qa pa.ok c3
 rw[t1,t2] at cL ht n1 ⊢
 rw[t3,t2] at cK
 rw[t3]
 obtain⟨x1,x2,p1,p2,-,-⟩:=dx cL
 obtain⟨x3,x4,p3,p4,-,-⟩:=dx cK
 obtain rfl:x1=qb.map (fun q=>q / qs.getD 0 0):=eu p1.ok k1 p1.e.symm
 obtain rfl:x2=qs.map (fun q=>q / qs.getD 0 0):=eu p2.ok k2 p2.e.symm
 obtain rfl:x3=qa.map (fun q=>q / qs.getD 0 0):=eu p3.ok k3 p3.e.symm
 obtain rfl:x4=qs.map (fun q=>q / qs.getD 0 0):=eu p4.ok k2 p4.e.symm
 have hn:=n1 _ w p2 hw
 obtain⟨e1,D1,hD1,o1⟩:=de cL hsh hz p1 p2 hw hn
 obtain⟨e2,D2,hD2,o2⟩:=de cK hsh hz p3 p2 hw hn
 refine⟨_,e2,?_,rfl⟩
 rw[e1,oP o1 o2 hD1 hD2,CQ.div_add hn]
 have hsum:(evQ w (qb.map (fun q=>q / qs.getD 0 0))).add (evQ w (qa.map (fun q=>q / qs.getD 0 0)))=evQ w (qs.map (fun q=>q / qs.getD 0 0)):=by
  rw[mO,mO,mO,vs w]
  generalize evQ w qa=e
  generalize evQ w qb=f
  obtain⟨x,y⟩:=e;obtain⟨s,t⟩:=f
  simp only[CQ.add,CQ.mul,CQ.real,CQ.mk.injEq]
  constructor<;>grind
 rw[hsum,CQ.div_self hn]
 exact congrArg (fun t=>(t,(0:Int))) ln
end Go.Proofs.YtomkanblohhpfaaGreatDoor
