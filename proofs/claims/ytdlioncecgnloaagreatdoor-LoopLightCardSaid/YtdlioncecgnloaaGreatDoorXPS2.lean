/- Lemmas of this claim. -/
import Derived.Test.YtdlioncecgnloaaGreatDoorXLP13
import Derived.Test.YtdlioncecgnloaaGreatDoorXPM3
import Derived.Test.YtdlioncecgnloaaGreatDoorXLPr2
set_option linter.all false
set_option maxRecDepth 100000
set_option maxHeartbeats 8000000
namespace Go.Proofs.YtdlioncecgnloaaGreatDoor
open Go.RowKit Dg Dc
theorem nY {t:List UInt8}:∀ {m:Nat},(∀ k c,1≤k→k≤m→t[k]?=some c→c≠43∧c≠45)→cI t m=none
 | 0,_=>rfl
 | m+1,h=>by
  unfold cI
  rw[if_neg,nY (fun k c h1 h2 h3=>h k c h1 (by omega) h3)]
  rintro (e | e)
  ·exact (h _ _ (by omega) (Cd _) e).1 rfl
  ·exact (h _ _ (by omega) (Cd _) e).2 rfl
theorem rM {t:List UInt8}{k0:Nat} (h0:1≤k0) (hs:t[k0]?=some 43∨t[k0]?=some 45):∀ {m:Nat},k0≤m→(∀ k c,k0<k→k≤m→t[k]?=some c→c≠43∧c≠45)→cI t m=some k0
 | 0,hm,_=>by omega
 | m+1,hm,h=>by
  unfold cI
  by_cases e:m+1=k0
  ·subst e
   rw[if_pos hs]
  ·rw[if_neg,rM h0 hs (by omega) (fun k c h1 h2 h3=>h k c h1 (by omega) h3)]
   rintro (e2 | e2)
   ·exact (h _ _ (by omega) (Cd _) e2).1 rfl
   ·exact (h _ _ (by omega) (Cd _) e2).2 rfl
theorem uY (r:Rt):∀ c∈ez r,c≠43∧c≠45:=by
 intro c hc
 unfold ez at hc
 rcases DI.1 hc with h | h
 ·have:=ij (Cz.1 (dx r.n) _ h);exact⟨this.1,this.2.1⟩
 ·split at h
  ·rcases CW.1 h with rfl | h
   ·decide
   ·have:=ij (Cz.1 (dx r.d) _ h);exact⟨this.1,this.2.1⟩
  ·cases h
def bT (r:Rt):List UInt8:=if ez r=[49] then [] else ez r
theorem jI (r:Rt):∀ c∈bT r,c≠43∧c≠45:=by
 intro c hc
 unfold bT at hc
 split at hc
 ·cases hc
 ·exact uY r c hc
theorem lJ (r:Rt):cV r=(if r.minus then [45] else [])++bT r:=by
 obtain⟨c,t,e1,e2⟩:=jE r
 have hc:=ij e2
 unfold cV bT
 rw[fd]
 cases r.minus
 ·simp only[CA,if_false,CH]
  by_cases h:ez r=[49]
  ·rw[if_pos (Or.inl h),if_pos h,h];rfl
  ·rw[if_neg,if_neg h]
   rintro (e | e)
   ·exact h e
   ·rw[e1] at e;exact hc.2.1 (List.cons.inj e).1
 ·simp only[if_true,CN,CH]
  by_cases h:ez r=[49]
  ·rw[if_pos (Or.inr (by rw[h])),if_pos h,h];rfl
  ·rw[if_neg,if_neg h]
   rintro (e | e)
   ·exact absurd (List.cons.inj e).1 (by decide)
   ·exact h (List.cons.inj e).2
theorem Bz (r:Rt):(if cV r=[]∨cV r=[45] then cV r++[49] else cV r)=aN r:=by
 obtain⟨c,t,e1,e2⟩:=jE r
 have hc:=ij e2
 rw[lJ,fd]
 unfold bT
 by_cases h:ez r=[49]
 ·rw[if_pos h,h]
  cases r.minus
  ·rfl
  ·rfl
 ·rw[if_neg h]
  rw[if_neg]
  rintro (e | e)
  ·cases hm:r.minus
   ·rw[hm,e1] at e;cases e
   ·rw[hm] at e;cases e
  ·cases hm:r.minus
   ·rw[hm] at e
    simp only[CA,if_false,CH] at e
    rw[e1] at e
    exact hc.2.1 (List.cons.inj e).1
   ·rw[hm] at e
    simp only[if_true,CN,CH] at e
    have:=(List.cons.inj e).2
    rw[e1] at this;cases this
theorem oW {l:List UInt8}{k:Nat}{c:UInt8} (h:l[k]?=some c):c∈l:=DN h
theorem ry (X l:List UInt8) (d:UInt8) (hX:1≤X.length) (hd:d=43∨d=45) (hl:∀ c∈l,c≠43∧c≠45):kz (X++d :: l)=(X,Lib.trimPrefix (d :: l) [43]):=by
 have hs:cI (X++d :: l) ((X++d :: l).length-1)=some X.length:=by
  refine rM hX ?_ (by simp) (fun k c h1 _ h3=>?_)
  ·rw[Dt (Cd _),DV]
   rcases hd with rfl | rfl
   ·exact Or.inl rfl
   ·exact Or.inr rfl
  ·rw[Dt (by omega),show k-X.length=(k-X.length-1)+1 from by omega,DW] at h3
   exact hl c (oW h3)
 unfold kz
 rw[hs]
 simp only
 rw[Ev rfl,List.drop_left' rfl]
theorem yN (l:List UInt8) (hl:∀ k c,1≤k→l[k]?=some c→c≠43∧c≠45):kz l=([48],l):=by
 unfold kz
 rw[nY (fun k c h1 _ h3=>hl k c h1 h3)]
theorem AA (y:Rt):∀ k c,1≤k→(cV y)[k]?=some c→c≠43∧c≠45:=by
 intro k c h1 h3
 rw[lJ] at h3
 cases hm:y.minus
 ·rw[hm] at h3
  exact jI y c (oW h3)
 ·rw[hm] at h3
  simp only[if_true,CN,CH] at h3
  rw[show k=(k-1)+1 from by omega,DW] at h3
  exact jI y c (oW h3)
theorem BU (x y:Rt) (b:Bool):kz ((if b then [] else aN x++(if y.minus then [] else [43]))++cV y)=(if b then [48] else aN x,cV y):=by
 cases b
 ·simp only[CA,if_false]
  have hX:=rz x
  cases hm:y.minus
  ·simp only[CA,if_false]
   have hy:cV y=bT y:=by rw[lJ,hm];rfl
   rw[CV,D7,ry _ _ 43 hX (Or.inl rfl) (by rw[hy];exact jI y)]
   unfold Lib.trimPrefix
   rw[gO,decide_eq_true rfl];rfl
  ·simp only[if_true,C2]
   have hy:cV y=45 :: bT y:=by rw[lJ,hm];rfl
   rw[hy,ry _ _ 45 hX (Or.inr rfl) (jI y)]
   unfold Lib.trimPrefix
   rw[gO,decide_eq_false (by decide)];rfl
 ·simp only[if_true,CH]
  exact yN _ (AA y)
theorem rQ (l:List UInt8):Lib.hasSuffix (l++[105]) [105]=true∧Lib.trimSuffix (l++[105]) [105]=l:=by
 have h:Lib.hasSuffix (l++[105]) [105]=true:=by
  unfold Lib.hasSuffix
  rw[EF]
  exact⟨l,rfl⟩
 refine⟨h,?_⟩
 unfold Lib.trimSuffix
 rw[h]
 simp
theorem qD {z:CQ} (h:dI z=false):dM (txt z)=some z:=by
 by_cases hi:z.im=0
 ·have e:z=CQ.real z.re:=by cases z;simp only at hi;subst hi;rfl
  rw[e] at h ⊢
  exact nA h
 ·have hb:=h
  unfold dI at hb
  simp only[Dy] at hb
  have hyn:(ct z).y.n≠0:=fun e=>hi ((aX _).1 e)
  obtain⟨b,hbx⟩:∃ b:Bool,b=decide ((ct z).x.n=0):=⟨_,rfl⟩
  have hv:cJ (ct z)=((if b then [] else aN (ct z).x++(if (ct z).y.minus then [] else [43]))++cV (ct z).y)++[105]:=by
   unfold cJ
   rw[if_neg hyn,hbx]
   simp only[decide_eq_true_eq]
  have hg:fm (cJ (ct z))=some (ct z):=by
   have hl1:=mM hb.1
   have hl2:=mM hb.2
   have hl3:(cV (ct z).y).length≤4002:=by
    unfold cV
    split
    ·rw[Cw];have:(aN (ct z).y).length≤4002:=hl2;omega
    ·exact hl2
   have hlen:(cJ (ct z)).length≤8008:=by
    rw[hv]
    have:(aN (ct z).x).length≤4002:=hl1
    simp only[Cq,CK,C_]
    split<;>(try split)<;>simp<;>omega
   have hp:eM (cJ (ct z))=(if b then [48] else aN (ct z).x,aN (ct z).y):=by
    unfold eM
    rw[hv,(rQ _).1,(rQ _).2,BU]
    simp only[if_true]
    rw[Bz]
   have hx:bW (if b then [48] else aN (ct z).x)=some (ct z).x:=by
    cases b
    ·exact iw (lA z.re)
    ·have:(ct z).x.n=0:=by simpa using hbx
     have h0:z.re=0:=(aX _).1 this
     show bW [48]=some (rt z.re)
     rw[h0,eu]
     exact kP
   unfold fm
   rw[if_neg (by omega),hp]
   simp only
   rw[hx,show bW (aN (ct z).y)=some (ct z).y from iw (lA z.im)]
   simp only
   rw[if_pos ⟨trivial,hb.1,hb.2⟩]
  unfold dM txt
  simp only[EB]
  rw[hg]
  simp only[Ey]
  show some (⟨toQ (rt z.re),toQ (rt z.im)⟩:CQ)=some z
  rw[tu,tu]
theorem mO:txt ⟨0,0⟩=⟨#[48]⟩:=by decide +kernel
theorem Ax {a b:CQ} (ha:dI a=false) (hb:dI b=false) (h:txt a=txt b):a=b:=by
 have e:=qD ha
 rw[h,qD hb] at e
 exact (Option.some.inj e).symm
def evQ (w:CQ) (qs:List Rat):CQ:=qs.foldr (fun q acc=>(acc.mul w).add (CQ.real q)) ⟨0,0⟩
theorem wS (w:CQ):((⟨0,0⟩:CQ).mul w).add ⟨0,0⟩=⟨0,0⟩:=by
 unfold CQ.mul CQ.add
 congr 1<;>grind
theorem jm {s:ByteArray} (h:bj s.data.toList=true):∃ q,s=tq q∧okQ q∧q.num.natAbs≤4096∧q.den≤4096:=by
 obtain⟨q,rfl,hq⟩:=tM h
 refine⟨q,rfl,hq,?_⟩
 unfold bj at h
 simp only[CC] at h
 have e:(tq q).data.toList=aN (rt q):=by
  show cJ (ct (CQ.real q))=_
  rw[cw (z:=ct (CQ.real q)) (by show (rt 0).n=0;rw[eu])];rfl
 have h2:=h.2
 rw[e] at h2
 unfold fN at h2
 rw[(od (rt q)).1,wF (rt q) (dF q)] at h2
 unfold tg at h2
 simp only[CC,decide_eq_true_eq] at h2
 exact h2
theorem jn:∀ l:List ByteArray,(∀ s∈l,bj s.data.toList=true)→∃ qs:List Rat,∃ D,l=qs.map tq∧0<D∧D≤4096 ^ l.length∧(∀ q∈qs,Ov D (4096*4096 ^ l.length) q∧okQ q)
 | [],_=>⟨[],1,rfl,by decide,by simp,fun q h=>by cases h⟩
 | s :: l,h=>by
  obtain⟨q,rfl,hq,hn,hd⟩:=jm (h s (CF ..))
  obtain⟨qs,D,rfl,hD,hDl,hall⟩:=jn l (fun t ht=>h t (CE _ ht))
  have hdp:=q.den_pos
  have hp:(4096:Nat) ^ (qs.map tq).length*4096=4096 ^ (tq q :: qs.map tq).length:=by rw[CK,Cx]
  refine⟨q :: qs,D*q.den,rfl,CJ hD hdp,?_,?_⟩
  ·rw[←hp];exact CU hDl hd
  ·intro r hr
   rcases CW.1 hr with rfl | hr
   ·refine⟨?_,hq⟩
    have h1:=(Ov.of r).wide D hdp hD
    rw[CG r.den D] at h1
    refine h1.mono ?_
    have:=CU hn hDl
    refine Cr this ?_
    rw[←hp]
    exact CD _ (Nat.le_mul_of_pos_right _ (by decide))
   ·obtain⟨h1,h2⟩:=hall r hr
    refine⟨(h1.wide q.den hD hdp).mono ?_,h2⟩
    rw[←hp,←DX]
    exact CD _ hd
theorem oG:∀ qs:List Rat,(∀ q∈qs,okQ q)→dB (qs.map tq)=some (qs.map CQ.real)
 | [],_=>rfl
 | q :: qs,h=>by
  show (match dM (tq q),dB (qs.map tq) with | some z,some zs=>some (z :: zs) | _,_=>none)=_
  rw[b8 (h q (CF ..)),oG qs (fun r hr=>h r (CE _ hr))]
  rfl
def g_ (w:CQ):Nat→CQ
 | 0=>CQ.real 1
 | j+1=>(g_ w j).mul w
theorem CQ.zero_mul (a:CQ):(⟨0,0⟩:CQ).mul a=⟨0,0⟩:=by
 obtain⟨x,y⟩:=a
 unfold CQ.mul;congr 1<;>grind
theorem wI (e w:CQ) (q c:Rat):(e.mul w).add (CQ.real (q+c))=((e.mul w).add (CQ.real q)).add ((CQ.real c).mul (CQ.real 1)):=by
 obtain⟨x,y⟩:=e;obtain⟨u,v⟩:=w
 simp only[CQ.add,CQ.mul,CQ.real,CQ.mk.injEq]
 constructor<;>grind
theorem nZ (e w p:CQ) (q c:Rat):((e.add ((CQ.real c).mul p)).mul w).add (CQ.real q)=((e.mul w).add (CQ.real q)).add ((CQ.real c).mul (p.mul w)):=by
 obtain⟨x,y⟩:=e;obtain⟨u,v⟩:=w;obtain⟨s,t⟩:=p
 simp only[CQ.add,CQ.mul,CQ.real,CQ.mk.injEq]
 constructor<;>grind
theorem gH (w:CQ) (q:Rat) (l:List Rat):evQ w (q :: l)=((evQ w l).mul w).add (CQ.real q):=rfl
theorem xS (w:CQ) (c:Rat):∀ (l:List Rat) (j:Nat),j<l.length→evQ w (l.set j (l.getD j 0+c))=(evQ w l).add ((CQ.real c).mul (g_ w j))
 | [],_,h=>by simp at h
 | q :: l,0,_=>by
  rw[Cb,gH,gH]
  exact wI _ _ _ _
 | q :: l,j+1,h=>by
  rw[Cc,gH,gH,show (q :: l).getD (j+1) 0=l.getD j 0 from by simp,xS w c l j (by simpa using h)]
  exact nZ _ _ _ _ _
theorem oT (w:CQ) (c:Rat):∀ l:List Rat,evQ w (l++[c])=(evQ w l).add ((CQ.real c).mul (g_ w l.length))
 | []=>by
  show (((⟨0,0⟩:CQ).mul w).add (CQ.real c))=(⟨0,0⟩:CQ).add ((CQ.real c).mul (CQ.real 1))
  obtain⟨u,v⟩:=w
  simp only[CQ.add,CQ.mul,CQ.real,CQ.mk.injEq]
  constructor<;>grind
 | q :: l=>by
  rw[CN,gH,gH,oT w c l]
  exact nZ _ _ _ _ _
theorem pow_add (w:CQ) (i:Nat):∀ k,g_ w (i+k)=(g_ w i).mul (g_ w k)
 | 0=>by
  show g_ w i=(g_ w i).mul (CQ.real 1)
  rw[CQ.mul_one]
 | k+1=>by
  show (g_ w (i+k)).mul w=(g_ w i).mul ((g_ w k).mul w)
  rw[pow_add w i k]
  generalize g_ w i=p
  generalize g_ w k=q
  obtain⟨x,y⟩:=p;obtain⟨u,v⟩:=w;obtain⟨s,t⟩:=q
  simp only[CQ.mul,CQ.mk.injEq]
  constructor<;>grind
def gQ (out:List Rat) (x:Rat) (b:List Rat) (i:Nat):Nat→List Rat
 | 0=>out
 | k+1=>(gQ out x b i k).set (i+k) ((gQ out x b i k).getD (i+k) 0+x*b.getD k 0)
def eE (a b:List Rat):Nat→List Rat
 | 0=>List.replicate (a.length+b.length-1) 0
 | i+1=>gQ (eE a b i) (a.getD i 0) b i b.length
theorem iC (out:List Rat) (x:Rat) (b:List Rat) (i:Nat):∀ k,(gQ out x b i k).length=out.length
 | 0=>rfl
 | k+1=>by rw[gQ,Di,iC out x b i k]
theorem iV (a b:List Rat):∀ i,(eE a b i).length=a.length+b.length-1
 | 0=>by simp[eE]
 | i+1=>by rw[eE,iC,iV a b i]
theorem qB (w:CQ):∀ n,evQ w (List.replicate n 0)=⟨0,0⟩
 | 0=>rfl
 | n+1=>by
  rw[Df,gH,qB w n]
  exact wS w
theorem xR (w:CQ) (out:List Rat) (x:Rat) (b:List Rat) (i:Nat):∀ k,k≤b.length→i+k≤out.length→evQ w (gQ out x b i k)=(evQ w out).add (((CQ.real x).mul (g_ w i)).mul (evQ w (b.take k)))
 | 0,_,_=>by
  rw[gQ,Ch]
  show evQ w out=(evQ w out).add ((_:CQ).mul ⟨0,0⟩)
  generalize evQ w out=e
  generalize (CQ.real x).mul (g_ w i)=p
  obtain⟨s,t⟩:=e;obtain⟨u,v⟩:=p
  simp only[CQ.add,CQ.mul,CQ.mk.injEq]
  constructor<;>grind
 | k+1,hk,hl=>by
  have hkb:k<b.length:=by omega
  rw[gQ,xS w _ _ _ (by rw[iC];omega),xR w out x b i k (by omega) (by omega),show b.take (k+1)=b.take k++[b.getD k 0] from by
   rw[Cm,Co hkb]
   exact (Cl hkb).symm,oT,Cw,CP (by omega),pow_add]
  generalize evQ w out=e
  generalize evQ w (b.take k)=f
  generalize g_ w i=p
  generalize g_ w k=q
  generalize b.getD k 0=c
  obtain⟨s,t⟩:=e;obtain⟨u,v⟩:=p;obtain⟨m,n⟩:=q;obtain⟨g,h⟩:=f
  simp only[CQ.add,CQ.mul,CQ.real,CQ.mk.injEq]
  constructor<;>grind
theorem zZ (w:CQ) (a b:List Rat) (hb:0<b.length):∀ i,i≤a.length→evQ w (eE a b i)=(evQ w (a.take i)).mul (evQ w b)
 | 0,_=>by
  rw[eE,qB,Ch]
  exact (CQ.zero_mul _).symm
 | i+1,hi=>by
  have hia:i<a.length:=by omega
  rw[eE,xR w _ _ _ _ _ (Cd _) (by rw[iV];omega),Cv,zZ w a b hb i (by omega),show a.take (i+1)=a.take i++[a.getD i 0] from by
   rw[Cm,Co hia]
   exact (Cl hia).symm,oT,Cw,CP (by omega)]
  generalize evQ w (a.take i)=e
  generalize evQ w b=f
  generalize g_ w i=p
  generalize a.getD i 0=c
  obtain⟨s,t⟩:=e;obtain⟨u,v⟩:=p;obtain⟨g,h⟩:=f
  simp only[CQ.add,CQ.mul,CQ.real,CQ.mk.injEq]
  constructor<;>grind
theorem db {l:List Rat}{j:Nat} (h:j<l.length):aq (l.map tq) j=tq (l.getD j 0):=by
 rw[←cO (l:=l.map tq) (by simpa using h),Dk,Cm,Co h];rfl
theorem y5 {D E M N c:Nat}{out b:List Rat}{x:Rat}{i:Nat} (hD:0<D) (hE:0<E) (hx:Ov D M x) (hxo:okQ x) (hb:∀ q∈b,Ov E N q∧okQ q) (ho:∀ q∈out,Ov (D*E) (c*(M*N)) q) (hDE:D*E<10 ^ 2000) :
  ∀ k,k≤b.length→i+k≤out.length→(c+k+1)*(M*N)<10 ^ 2000→mG (out.map tq) (tq x) (b.map tq) i k=(gQ out x b i k).map tq∧∀ q∈gQ out x b i k,Ov (D*E) ((c+k)*(M*N)) q
 | 0,_,_,_=>⟨rfl,by simpa[gQ] using ho⟩
 | k+1,hk,hl,hs=>by
  have hDp:=CJ hD hE
  obtain⟨h1,h2⟩:=y5 (i:=i) hD hE hx hxo hb ho hDE k (by omega) (by omega) (Cu (Ck _ (by omega)) hs)
  have hkb:k<b.length:=by omega
  have hjl:i+k<(gQ out x b i k).length:=by rw[iC];omega
  have hbk:b.getD k 0∈b:=by rw[Cm,Co hkb];exact Cs hkb
  have hoj:(gQ out x b i k).getD (i+k) 0∈gQ out x b i k:=by rw[Cm,Co hjl];exact Cs hjl
  have o1:=h2 _ hoj
  have o2:=hx.mul (hb _ hbk).1 hD hE
  have o3:=o1.add o2
  have e3:(c+k)*(M*N)+M*N=(c+(k+1))*(M*N):=by rw[←DB,CS (c+k) 1,DC]
  rw[e3] at o3
  have s3:(c+(k+1))*(M*N)<10 ^ 2000:=Cu (Ck _ (by omega)) hs
  have s1:(c+k)*(M*N)<10 ^ 2000:=Cu (Ck _ (by omega)) s3
  have s2:M*N<10 ^ 2000:=Cu (Nat.le_mul_of_pos_left _ (by omega)) s3
  refine⟨?_,fun q hq=>?_⟩
  ·rw[mG,gQ,h1,db hjl,db hkb,eh hxo (hb _ hbk).2 (o2.ok hDp hDE s2),lr (o1.ok hDp hDE s1) (o2.ok hDp hDE s2) (o3.ok hDp hDE s3),List.map_set]
  ·rw[gQ] at hq
   rcases DP hq with h | h
   ·exact (h2 q h).mono (by rw[←e3];exact Ed _ _)
   ·rw[h];exact o3
theorem uD {D E M N:Nat}{a b:List Rat} (hD:0<D) (hE:0<E) (ha:∀ q∈a,Ov D M q∧okQ q) (hb:∀ q∈b,Ov E N q∧okQ q) (hb0:0<b.length) (hDE:D*E<10 ^ 2000) (hs:(a.length*b.length+1)*(M*N)<10 ^ 2000) :
  ∀ i,i≤a.length→eT (a.map tq) (b.map tq) i=(eE a b i).map tq∧∀ q∈eE a b i,Ov (D*E) (i*b.length*(M*N)) q
 | 0,_=>by
  refine⟨?_,fun q hq=>?_⟩
  ·rw[eT,eE,List.map_replicate,Ct,Ct,show tq 0=⟨#[48]⟩ from mO]
  ·rw[eE] at hq
   rw[DA hq]
   exact (Ov.zero _).mono (Cp _)
 | i+1,hi=>by
  obtain⟨h1,h2⟩:=uD hD hE ha hb hb0 hDE hs i (by omega)
  have hia:i<a.length:=by omega
  have hai:a.getD i 0∈a:=by rw[Cm,Co hia];exact Cs hia
  have hs2:(i*b.length+b.length+1)*(M*N)<10 ^ 2000:=by
   refine Cu (Ck _ ?_) hs
   have:(i+1)*b.length≤a.length*b.length:=Ck _ hi
   rw[CS,DC] at this
   omega
  obtain⟨h3,h4⟩:=y5 (i:=i) hD hE (ha _ hai).1 (ha _ hai).2 hb h2 hDE b.length (Cd _) (by rw[iV];omega) hs2
  refine⟨?_,fun q hq=>?_⟩
  ·rw[eT,eE,h1,db hia,Ct,h3]
  ·rw[CS i 1,DC]
   exact h4 q hq
def shS (j:Nat) (x:Nat→Rat):Nat→Rat:=fun n=>if j≤n then x (n-j) else 0
def opS (qs:List Rat) (x:Nat→Rat):Nat→Rat:=qs.foldr (fun q acc=>fun n=>q*x n+shS 1 acc n) (fun _=>0)
theorem fw (x:Nat→Rat) (n:Nat):opS [] x n=0:=rfl
theorem aW (q:Rat) (qs:List Rat) (x:Nat→Rat) (n:Nat):opS (q :: qs) x n=q*x n+shS 1 (opS qs x) n:=rfl
theorem uH (x:Nat→Rat) (n:Nat):shS 0 x n=x n:=by unfold shS;rw[if_pos (Cp _)];rfl
theorem y_ (i k:Nat) (x:Nat→Rat) (n:Nat):shS i (shS k x) n=shS (i+k) x n:=by
 unfold shS
 by_cases h:i≤n
 ·by_cases h2:k≤n-i
  ·rw[if_pos h,if_pos h2,if_pos (by omega),Nat.sub_sub]
  ·rw[if_pos h,if_neg h2,if_neg (by omega)]
 ·rw[if_neg h,if_neg (by omega)]
theorem jy (i:Nat) (c:Rat) (x y:Nat→Rat) (n:Nat):shS i (fun m=>x m+c*y m) n=shS i x n+c*shS i y n:=by
 unfold shS
 by_cases h:i≤n
 ·rw[if_pos h,if_pos h,if_pos h]
 ·rw[if_neg h,if_neg h,if_neg h];grind
theorem cH {i:Nat}{x y:Nat→Rat} (n:Nat) (h:∀ m,m+i=n→x m=y m):shS i x n=shS i y n:=by
 unfold shS
 by_cases hi:i≤n
 ·rw[if_pos hi,if_pos hi];exact h _ (by omega)
 ·rw[if_neg hi,if_neg hi]
theorem yB (x:Nat→Rat) (c:Rat):∀ (l:List Rat) (j n:Nat),j<l.length→opS (l.set j (l.getD j 0+c)) x n=opS l x n+c*shS j x n
 | [],_,_,h=>by simp at h
 | q :: l,0,n,_=>by
  rw[Cb,aW,aW,uH]
  show (q+c)*x n+_=_
  grind
 | q :: l,j+1,n,h=>by
  rw[Cc,aW,aW,show (q :: l).getD (j+1) 0=l.getD j 0 from by simp]
  have e:shS 1 (opS (l.set j (l.getD j 0+c)) x) n=shS 1 (fun m=>opS l x m+c*shS j x m) n:=cH n fun m _=>yB x c l j m (by simpa using h)
  rw[e,jy,y_,Eh 1 j]
  grind
theorem j2 (x:Nat→Rat) (c:Rat):∀ (l:List Rat) (n:Nat),opS (l++[c]) x n=opS l x n+c*shS l.length x n
 | [],n=>by
  rw[CH,aW,fw,C_,uH]
  have e:shS 1 (opS [] x) n=0:=by
   unfold shS
   split<;>rfl
  rw[e];grind
 | q :: l,n=>by
  rw[CN,aW,aW]
  have e:shS 1 (opS (l++[c]) x) n=shS 1 (fun m=>opS l x m+c*shS l.length x m) n:=cH n fun m _=>j2 x c l m
  rw[e,jy,y_,Eh 1,CK]
  grind
theorem ra (x:Nat→Rat):∀ k n,opS (List.replicate k 0) x n=0
 | 0,n=>rfl
 | k+1,n=>by
  rw[Df,aW]
  have e:shS 1 (opS (List.replicate k 0) x) n=shS 1 (fun _=>0) n:=cH n fun m _=>ra x k m
  rw[e]
  unfold shS
  split<;>grind
theorem yA (s:Nat→Rat) (out:List Rat) (x:Rat) (b:List Rat) (i n:Nat):∀ k,k≤b.length→i+k≤out.length→opS (gQ out x b i k) s n=opS out s n+x*shS i (opS (b.take k) s) n
 | 0,_,_=>by
  rw[gQ,Ch]
  have e:shS i (opS [] s) n=0:=by unfold shS;split<;>rfl
  rw[e];grind
 | k+1,hk,hl=>by
  have hkb:k<b.length:=by omega
  rw[gQ,yB s _ _ _ n (by rw[iC];omega),yA s out x b i n k (by omega) (by omega)]
  have e:shS i (opS (b.take (k+1)) s) n=shS i (fun m=>opS (b.take k) s m+b.getD k 0*shS k s m) n:=cH n fun m _=>by
   rw[show b.take (k+1)=b.take k++[b.getD k 0] from by
    rw[Cm,Co hkb]
    exact (Cl hkb).symm,j2,Cw,CP (by omega)]
  rw[e,jy,y_]
  grind
theorem uA (s:Nat→Rat) (a b:List Rat) (hb:0<b.length):∀ i,i≤a.length→∀ n,opS (eE a b i) s n=opS (a.take i) (opS b s) n
 | 0,_,n=>by rw[eE,ra,Ch];rfl
 | i+1,hi,n=>by
  have hia:i<a.length:=by omega
  rw[eE,yA s _ _ _ _ n _ (Cd _) (by rw[iV];omega),Cv,uA s a b hb i (by omega) n,show a.take (i+1)=a.take i++[a.getD i 0] from by
   rw[Cm,Co hia]
   exact (Cl hia).symm,j2,Cw,CP (by omega)]
theorem dS {x y:Nat→Rat}:∀ (l:List Rat) (n:Nat),(∀ m,m≤n→x m=y m)→opS l x n=opS l y n
 | [],_,_=>rfl
 | q :: l,n,h=>by
  rw[aW,aW,h n (Cd _)]
  have e:shS 1 (opS l x) n=shS 1 (opS l y) n:=cH n fun m hm=>dS l m (fun k hk=>h k (by omega))
  rw[e]
theorem jv (c:Rat) (x y:Nat→Rat):∀ (l:List Rat) (n:Nat),opS l (fun m=>x m+c*y m) n=opS l x n+c*opS l y n
 | [],n=>by rw[fw,fw,fw];grind
 | q :: l,n=>by
  rw[aW,aW,aW]
  have e:shS 1 (opS l fun m=>x m+c*y m) n=shS 1 (fun m=>opS l x m+c*opS l y m) n:=cH n fun m _=>jv c x y l m
  rw[e,jy]
  grind
theorem AN (x:Nat→Rat):∀ (l:List Rat) (n:Nat),opS l (shS 1 x) n=shS 1 (opS l x) n
 | [],n=>by rw[fw];unfold shS;split<;>rfl
 | q :: l,n=>by
  rw[aW]
  have e:shS 1 (opS l (shS 1 x)) n=shS 1 (shS 1 (opS l x)) n:=cH n fun m _=>AN x l m
  have e2:shS 1 (opS (q :: l) x) n=shS 1 (fun m=>shS 1 (opS l x) m+q*x m) n:=cH n fun m _=>by rw[aW];grind
  rw[e,e2,jy]
  grind
theorem lC (x:Nat→Rat) (b:List Rat):∀ (a:List Rat) (n:Nat),opS a (opS b x) n=opS b (opS a x) n
 | [],n=>by
  rw[fw]
  have e:opS b (opS [] x) n=opS b (fun m=>(fun _=>(0:Rat)) m+(-1)*(fun _=>(0:Rat)) m) n:=dS b n fun m _=>by rw[fw];grind
  rw[e,jv]
  grind
 | q :: a,n=>by
  rw[aW]
  have e:opS b (opS (q :: a) x) n=opS b (fun m=>shS 1 (opS a x) m+q*x m) n:=dS b n fun m _=>by rw[aW];grind
  have e2:shS 1 (opS a (opS b x)) n=shS 1 (opS b (opS a x)) n:=cH n fun m _=>lC x b a m
  rw[e,jv,AN,e2]
  grind
theorem nR {b:List Rat}{y z:Nat→Rat}{N:Nat} (h:∀ n,n<N→opS (1 :: b) y n=opS (1 :: b) z n):∀ n,n<N→y n=z n:=by
 intro n
 induction n using Nat.strongRecOn with
 | _ n ih =>
  intro hn
  have h1:=h n hn
  rw[aW,aW] at h1
  have e:shS 1 (opS b y) n=shS 1 (opS b z) n:=cH n fun m hm=>dS b m fun k hk=>ih k (by omega) (by omega)
  rw[e] at h1
  grind
end Go.Proofs.YtdlioncecgnloaaGreatDoor
