/- Lemmas of this claim. -/
import Derived.Laws.IdiomCopy
import Derived.Test.YtbnkpcfjechfiaaGreatDoorZReg
import Derived.Test.YtbnkpcfjechfiaaGreatDoorZNC7
import Derived.Test.YtbnkpcfjechfiaaGreatDoorZRng2
import Derived.Test.YtbnkpcfjechfiaaGreatDoorZPM2
import Derived.Test.YtbnkpcfjechfiaaGreatDoorZLP13
import Derived.Test.YtbnkpcfjechfiaaGreatDoorZLH1
set_option linter.all false
set_option maxRecDepth 100000
set_option maxHeartbeats 8000000
namespace Go.Proofs.YtbnkpcfjechfiaaGreatDoor
open Go.RowKit Dg
theorem CQ.norm_ne {c:CQ} (h:c≠⟨0,0⟩):c.norm≠0:=fun e=>h (lH e)
theorem CQ.div_mul {z c:CQ} (h:c≠⟨0,0⟩):(z.div c).mul c=z:=by
 have hn:=CQ.norm_ne h
 obtain⟨a,b⟩:=z
 obtain⟨x,y⟩:=c
 simp only[CQ.div,CQ.mul,CQ.norm,CQ.mk.injEq] at hn ⊢
 constructor<;>grind
theorem CQ.sub_self (z:CQ):z.sub z=⟨0,0⟩:=by
 obtain⟨a,b⟩:=z
 simp only[CQ.sub,CQ.mk.injEq]
 constructor<;>grind
theorem CQ.mul_inv {z:CQ} (h:z≠⟨0,0⟩):z.mul ((CQ.real 1).div z)=CQ.real 1:=by
 have hn:=CQ.norm_ne h
 obtain⟨x,y⟩:=z
 simp only[CQ.div,CQ.mul,CQ.norm,CQ.real,CQ.mk.injEq] at hn ⊢
 constructor<;>grind
theorem CQ.div_one (z:CQ):z.div (CQ.real 1)=z:=by
 obtain⟨x,y⟩:=z
 simp only[CQ.div,CQ.norm,CQ.real]
 congr 1<;>grind
theorem CQ.mul_one (z:CQ):z.mul (CQ.real 1)=z:=by
 obtain⟨x,y⟩:=z
 simp only[CQ.mul,CQ.real]
 congr 1<;>grind
theorem CQ.one_ne:CQ.real 1≠⟨0,0⟩:=by decide
def ku (zs:List CQ) (c:CQ):List CQ:=zs.map fun z=>z.div c
theorem jC (zs:List CQ) (c:CQ):(ku zs c).length=zs.length:=by simp[ku]
theorem Bu (zs:List CQ):ku zs (CQ.real 1)=zs:=by
 unfold ku
 rw[show (fun z:CQ=>z.div (CQ.real 1))=id from funext fun z=>z.div_one,List.map_id]
theorem zf (zs:List CQ) (c:CQ) {i:Nat} (h:i<zs.length):(ku zs c).drop i=zs[i].div c :: (ku zs c).drop (i+1):=by
 rw[Gf (by rw[jC];exact h)]
 simp[ku]
theorem lC {c:CQ} (h:c≠⟨0,0⟩):dp [c]=[c]:=by
 have:=iR [] c
 rwa [if_neg h] at this
theorem yL {a c:CQ} (h:c≠⟨0,0⟩):dp [a,c]=[a,c]:=by
 have:=iR [a] c
 rwa [if_neg h] at this
theorem l7:∀ n:Nat,dp (List.replicate n ⟨0,0⟩)=[]
 | 0=>rfl
 | n+1=>by
  rw[Iu,iR,if_pos rfl]
  exact l7 n
theorem Ap (c:CQ):yw [c]=[]:=rfl
theorem Aq {a c:CQ} (h:c≠⟨0,0⟩):yw [a,c]=[c]:=by
 have e:j3 [a,c]=[c]:=by
  show [c.mul (CQ.real (((0+1:Nat):Int):Rat))]=[c]
  rw[show CQ.real (((0+1:Nat):Int):Rat)=CQ.real 1 from rfl,CQ.mul_one]
 unfold yw
 rw[e];exact lC h
theorem tL {c:CQ} (h:c≠⟨0,0⟩):rB [c] ((CQ.real 1).div c)=[CQ.real 1]:=by
 show dp [c.mul ((CQ.real 1).div c)]=_
 rw[CQ.mul_inv h];exact lC CQ.one_ne
inductive fj:List CQ→Prop
 | one (c:CQ) (h:c≠⟨0,0⟩):fj [c]
 | two (a c:CQ) (h:c≠⟨0,0⟩):fj [a,c]
theorem fj.lean {zs:List CQ} (h:fj zs):dp zs=zs:=by
 cases h with
 | one c h=>exact lC h
 | two a c h=>exact yL h
def bZ (zs:List CQ):List (List CQ):=match zs with
 | []=>[]
 | [c]=>[[c]]
 | [a,c]=>[[a,c],[c]]
 | _=>[]
def ja (s:Int) (p:Int×Int):Int×Int:=if s=0 then p else (if s=-p.2 then p.1+1 else p.1,s)
def kg (x:Rat) (zs:List CQ):Int:=f_ (atL zs (CQ.real x)).re 0
def r7 (x:Rat) (l:List (List CQ)):Int×Int:=l.foldl (fun p q=>ja (kg x q) p) (0,0)
def dD (zs:List CQ) (x:Rat):Int:=(r7 x (bZ zs)).1
theorem yg (x:Rat) {l:List (List CQ)}{i:Nat} (h:i<l.length):r7 x (l.take (i+1))=ja (kg x l[i]) (r7 x (l.take i)):=by
 unfold r7
 rw[←Fz h,List.foldl_append]
 rfl
open Go.RowKit Dg Dc
def Ov (D M:Nat) (q:Rat):Prop:=∃ n:Int,q=(n:Rat) / (D:Rat)∧n.natAbs≤M
theorem eR {D:Nat} (h:0<D):(D:Rat)≠0:=by
 intro e
 have e2:((D:Int):Rat)=((0:Int):Rat):=e
 have:=Rat.intCast_inj.1 e2
 omega
theorem Ov.mono {D M M':Nat}{q:Rat} (h:Ov D M q) (hM:M≤M'):Ov D M' q:=by
 obtain⟨n,e,hn⟩:=h
 exact⟨n,e,Fx hn hM⟩
theorem Ov.wide {D M:Nat}{q:Rat} (h:Ov D M q) (E:Nat) (hD:0<D) (hE:0<E):Ov (D*E) (M*E) q:=by
 obtain⟨n,e,hn⟩:=h
 have h1:=eR hD
 have h2:=eR hE
 refine⟨n*E,?_,?_⟩
 ·rw[e,Rat.intCast_mul,Rat.natCast_mul]
  show (n:Rat) / (D:Rat)=(n:Rat)*((E:Nat):Rat) / ((D:Rat)*(E:Rat))
  grind
 ·rw[GK];exact Fw _ hn
theorem Ov.add {D M N:Nat}{a b:Rat} (h1:Ov D M a) (h2:Ov D N b):Ov D (M+N) (a+b):=by
 obtain⟨n,e,hn⟩:=h1
 obtain⟨m,f,hm⟩:=h2
 refine⟨n+m,?_,by omega⟩
 rw[e,f,Rat.intCast_add]
 grind
theorem Ov.neg {D M:Nat}{a:Rat} (h1:Ov D M a):Ov D M (-a):=by
 obtain⟨n,e,hn⟩:=h1
 refine⟨-n,?_,by omega⟩
 rw[e,Rat.intCast_neg]
 grind
theorem Ov.sub {D M N:Nat}{a b:Rat} (h1:Ov D M a) (h2:Ov D N b):Ov D (M+N) (a-b):=by
 rw[Rat.sub_eq_add_neg];exact h1.add h2.neg
theorem Ov.mul {D E M N:Nat}{a b:Rat} (h1:Ov D M a) (h2:Ov E N b) (hD:0<D) (hE:0<E):Ov (D*E) (M*N) (a*b):=by
 obtain⟨n,e,hn⟩:=h1
 obtain⟨m,f,hm⟩:=h2
 have k1:=eR hD
 have k2:=eR hE
 refine⟨n*m,?_,by rw[GK];exact Gj hn hm⟩
 rw[e,f,Rat.intCast_mul,Rat.natCast_mul]
 grind
theorem Ov.zero (D:Nat):Ov D 0 0:=⟨0,by rw[show ((0:Int):Rat)=0 from rfl];grind,by simp⟩
theorem qY (q:Rat):(q.num:Rat) / (q.den:Rat)=q:=by rw[←Rat.mkRat_eq_div,Rat.mkRat_self]
theorem Ov.bound {D M:Nat}{q:Rat} (h:Ov D M q) (hD:0<D):q.num.natAbs≤M∧q.den≤D:=by
 obtain⟨n,e,hn⟩:=h
 have k1:=eR hD
 have k2:=eR q.den_pos
 have e2:(q.num:Rat) / (q.den:Rat)=q:=qY q
 have e3:(q.num:Rat)*(D:Rat)=(n:Rat)*(q.den:Rat):=by
  rw[e] at e2
  grind
 have e4:q.num*(D:Int)=n*(q.den:Int):=by
  apply Rat.intCast_inj.1
  rw[Rat.intCast_mul,Rat.intCast_mul]
  exact e3
 have e5:q.num.natAbs*D=n.natAbs*q.den:=by
  have:=congrArg Int.natAbs e4
  rw[GK,GK] at this
  exact this
 have hc:Nat.Coprime q.num.natAbs q.den:=q.reduced
 have d1:q.den ∣ D:=(Nat.Coprime.symm hc).dvd_of_dvd_mul_left ⟨n.natAbs,by rw[e5,FE]⟩
 have d2:q.num.natAbs ∣ n.natAbs:=hc.dvd_of_dvd_mul_right ⟨D,by rw[←e5]⟩
 refine⟨?_,Hz hD d1⟩
 rcases Gt n.natAbs with h0 | h0
 ·rw[h0,GJ] at e5
  rcases Nat.mul_eq_zero.1 e5 with h | h
  ·omega
  ·omega
 ·exact Fx (Hz h0 d2) hn
theorem Ov.of (q:Rat):Ov q.den q.num.natAbs q:=⟨q.num,(qY q).symm,Fm _⟩
theorem Ov.ok {D M:Nat}{q:Rat} (h:Ov D M q) (hD:0<D) (h1:D<10 ^ 2000) (h2:M<10 ^ 2000):okQ q:=by
 obtain⟨b1,b2⟩:=h.bound hD
 exact q_ (F7 b1 h2) (F7 b2 h1)
structure OvC (D M:Nat) (z:CQ):Prop where
 re:Ov D M z.re
 im:Ov D M z.im
 pos:0<D
theorem OvC.ok {D M:Nat}{z:CQ} (h:OvC D M z) (h1:D<10 ^ 2000) (h2:M<10 ^ 2000):ee z=false:=by
 have k1:=(kX _).1 (h.re.ok h.pos h1 h2)
 have k2:=(kX _).1 (h.im.ok h.pos h1 h2)
 unfold ee
 rw[k1,k2];rfl
theorem qh {t:List UInt8}:∀ {m:Nat},(∀ k c,1≤k→k≤m→t[k]?=some c→c≠43∧c≠45)→dH t m=none
 | 0,_=>rfl
 | m+1,h=>by
  unfold dH
  rw[if_neg,qh (fun k c h1 h2 h3=>h k c h1 (by omega) h3)]
  rintro (e | e)
  ·exact (h _ _ (by omega) (Fm _) e).1 rfl
  ·exact (h _ _ (by omega) (Fm _) e).2 rfl
theorem tR {t:List UInt8}{k0:Nat} (h0:1≤k0) (hs:t[k0]?=some 43∨t[k0]?=some 45):∀ {m:Nat},k0≤m→(∀ k c,k0<k→k≤m→t[k]?=some c→c≠43∧c≠45)→dH t m=some k0
 | 0,hm,_=>by omega
 | m+1,hm,h=>by
  unfold dH
  by_cases e:m+1=k0
  ·subst e
   rw[if_pos hs]
  ·rw[if_neg,tR h0 hs (by omega) (fun k c h1 h2 h3=>h k c h1 (by omega) h3)]
   rintro (e2 | e2)
   ·exact (h _ _ (by omega) (Fm _) e2).1 rfl
   ·exact (h _ _ (by omega) (Fm _) e2).2 rfl
theorem xX (r:Rt):∀ c∈fJ r,c≠43∧c≠45:=by
 intro c hc
 unfold fJ at hc
 rcases F8.1 hc with h | h
 ·have:=jo (FR.1 (et r.n) _ h);exact⟨this.1,this.2.1⟩
 ·split at h
  ·rcases Gp.1 h with rfl | h
   ·decide
   ·have:=jo (FR.1 (et r.d) _ h);exact⟨this.1,this.2.1⟩
  ·cases h
def bT (r:Rt):List UInt8:=if fJ r=[49] then [] else fJ r
theorem kG (r:Rt):∀ c∈bT r,c≠43∧c≠45:=by
 intro c hc
 unfold bT at hc
 split at hc
 ·cases hc
 ·exact xX r c hc
theorem mR (r:Rt):bK r=(if r.minus then [45] else [])++bT r:=by
 obtain⟨c,t,e1,e2⟩:=kD r
 have hc:=jo e2
 unfold bK bT
 rw[gC]
 cases r.minus
 ·simp only[FL,if_false,FS]
  by_cases h:fJ r=[49]
  ·rw[if_pos (Or.inl h),if_pos h,h];rfl
  ·rw[if_neg,if_neg h]
   rintro (e | e)
   ·exact h e
   ·rw[e1] at e;exact hc.2.1 (List.cons.inj e).1
 ·simp only[if_true,FX,FS]
  by_cases h:fJ r=[49]
  ·rw[if_pos (Or.inr (by rw[h])),if_pos h,h];rfl
  ·rw[if_neg,if_neg h]
   rintro (e | e)
   ·exact absurd (List.cons.inj e).1 (by decide)
   ·exact h (List.cons.inj e).2
theorem EG (r:Rt):(if bK r=[]∨bK r=[45] then bK r++[49] else bK r)=aK r:=by
 obtain⟨c,t,e1,e2⟩:=kD r
 have hc:=jo e2
 rw[mR,gC]
 unfold bT
 by_cases h:fJ r=[49]
 ·rw[if_pos h,h]
  cases r.minus
  ·rfl
  ·rfl
 ·rw[if_neg h]
  rw[if_neg]
  rintro (e | e)
  ·cases hm:r.minus
   ·rw[hm,e1] at e;cases e
   ·rw[hm] at e;cases e
  ·cases hm:r.minus
   ·rw[hm] at e
    simp only[FL,if_false,FS] at e
    rw[e1] at e
    exact hc.2.1 (List.cons.inj e).1
   ·rw[hm] at e
    simp only[if_true,FX,FS] at e
    have:=(List.cons.inj e).2
    rw[e1] at this;cases this
theorem qP {l:List UInt8}{k:Nat}{c:UInt8} (h:l[k]?=some c):c∈l:=Hd h
theorem tn (X l:List UInt8) (d:UInt8) (hX:1≤X.length) (hd:d=43∨d=45) (hl:∀ c∈l,c≠43∧c≠45):lJ (X++d :: l)=(X,Lib.trimPrefix (d :: l) [43]):=by
 have hs:dH (X++d :: l) ((X++d :: l).length-1)=some X.length:=by
  refine tR hX ?_ (by simp) (fun k c h1 _ h3=>?_)
  ·rw[GT (Fm _),G8]
   rcases hd with rfl | rfl
   ·exact Or.inl rfl
   ·exact Or.inr rfl
  ·rw[GT (by omega),show k-X.length=(k-X.length-1)+1 from by omega,Hi] at h3
   exact hl c (qP h3)
 unfold lJ
 rw[hs]
 simp only
 rw[Iv rfl,List.drop_left' rfl]
theorem Bl (l:List UInt8) (hl:∀ k c,1≤k→l[k]?=some c→c≠43∧c≠45):lJ l=([48],l):=by
 unfold lJ
 rw[qh (fun k c h1 _ h3=>hl k c h1 h3)]
theorem Dy (y:Rt):∀ k c,1≤k→(bK y)[k]?=some c→c≠43∧c≠45:=by
 intro k c h1 h3
 rw[mR] at h3
 cases hm:y.minus
 ·rw[hm] at h3
  exact kG y c (qP h3)
 ·rw[hm] at h3
  simp only[if_true,FX,FS] at h3
  rw[show k=(k-1)+1 from by omega,Hi] at h3
  exact kG y c (qP h3)
theorem Fb (x y:Rt) (b:Bool):lJ ((if b then [] else aK x++(if y.minus then [] else [43]))++bK y)=(if b then [48] else aK x,bK y):=by
 cases b
 ·simp only[FL,if_false]
  have hX:=tA x
  cases hm:y.minus
  ·simp only[FL,if_false]
   have hy:bK y=bT y:=by rw[mR,hm];rfl
   rw[FW,Ht,tn _ _ 43 hX (Or.inl rfl) (by rw[hy];exact kG y)]
   unfold Lib.trimPrefix
   rw[iU,decide_eq_true rfl];rfl
  ·simp only[if_true,Gk]
   have hy:bK y=45 :: bT y:=by rw[mR,hm];rfl
   rw[hy,tn _ _ 45 hX (Or.inr rfl) (kG y)]
   unfold Lib.trimPrefix
   rw[iU,decide_eq_false (by decide)];rfl
 ·simp only[if_true,FS]
  exact Bl _ (Dy y)
theorem tU (l:List UInt8):Lib.hasSuffix (l++[105]) [105]=true∧Lib.trimSuffix (l++[105]) [105]=l:=by
 have h:Lib.hasSuffix (l++[105]) [105]=true:=by
  unfold Lib.hasSuffix
  rw[IG]
  exact⟨l,rfl⟩
 refine⟨h,?_⟩
 unfold Lib.trimSuffix
 rw[h]
 simp
theorem sG {z:CQ} (h:ee z=false):dy (txt z)=some z:=by
 by_cases hi:z.im=0
 ·have e:z=CQ.real z.re:=by cases z;simp only at hi;subst hi;rfl
  rw[e] at h ⊢
  exact pE h
 ·have hb:=h
  unfold ee at hb
  simp only[GY] at hb
  have hyn:(ct z).y.n≠0:=fun e=>hi ((bh _).1 e)
  obtain⟨b,hbx⟩:∃ b:Bool,b=decide ((ct z).x.n=0):=⟨_,rfl⟩
  have hv:bI (ct z)=((if b then [] else aK (ct z).x++(if (ct z).y.minus then [] else [43]))++bK (ct z).y)++[105]:=by
   unfold bI
   rw[if_neg hyn,hbx]
   simp only[decide_eq_true_eq]
  have hg:gg (bI (ct z))=some (ct z):=by
   have hl1:=oH hb.1
   have hl2:=oH hb.2
   have hl3:(bK (ct z).y).length≤4002:=by
    unfold bK
    split
    ·rw[FN];have:(aK (ct z).y).length≤4002:=hl2;omega
    ·exact hl2
   have hlen:(bI (ct z)).length≤8008:=by
    rw[hv]
    have:(aK (ct z).x).length≤4002:=hl1
    simp only[Fv,FH,Gc]
    split<;>(try split)<;>simp<;>omega
   have hp:fU (bI (ct z))=(if b then [48] else aK (ct z).x,aK (ct z).y):=by
    unfold fU
    rw[hv,(tU _).1,(tU _).2,Fb]
    simp only[if_true]
    rw[EG]
   have hx:cT (if b then [48] else aK (ct z).x)=some (ct z).x:=by
    cases b
    ·exact jz (kH z.re)
    ·have:(ct z).x.n=0:=by simpa using hbx
     have h0:z.re=0:=(bh _).1 this
     show cT [48]=some (rt z.re)
     rw[h0,dz]
     exact mc
   unfold gg
   rw[if_neg (by omega),hp]
   simp only
   rw[hx,show cT (aK (ct z).y)=some (ct z).y from jz (kH z.im)]
   simp only
   rw[if_pos ⟨trivial,hb.1,hb.2⟩]
  unfold dy txt
  simp only[IB]
  rw[hg]
  simp only[Iz]
  show some (⟨toQ (rt z.re),toQ (rt z.im)⟩:CQ)=some z
  rw[vU,vU]
theorem Du {a b:CQ} (ha:ee a=false) (hb:ee b=false) (h:txt a=txt b):a=b:=by
 have e:=sG ha
 rw[h,sG hb] at e
 exact (Option.some.inj e).symm
theorem uE {s:ByteArray} (h:bX s.data.toList=true):∃ q,s=tq q∧okQ q∧q.num.natAbs≤4096∧q.den≤4096:=by
 obtain⟨q,rfl,hq⟩:=wG h
 refine⟨q,rfl,hq,?_⟩
 unfold bX at h
 simp only[FI] at h
 have e:(tq q).data.toList=aK (rt q):=by
  show bI (ct (CQ.real q))=_
  rw[db (z:=ct (CQ.real q)) (by show (rt 0).n=0;rw[dz])];rfl
 have h2:=h.2
 rw[e] at h2
 unfold gP at h2
 rw[(lR (rt q)).1,qj (rt q) (dJ q)] at h2
 unfold ec at h2
 simp only[FI,decide_eq_true_eq] at h2
 exact h2
theorem nn:∀ l:List ByteArray,(∀ s∈l,bX s.data.toList=true)→∃ qs:List Rat,∃ D,l=qs.map tq∧0<D∧D≤4096 ^ l.length∧(∀ q∈qs,Ov D (4096*4096 ^ l.length) q∧okQ q)
 | [],_=>⟨[],1,rfl,by decide,by simp,fun q h=>by cases h⟩
 | s :: l,h=>by
  obtain⟨q,rfl,hq,hn,hd⟩:=uE (h s (Gq ..))
  obtain⟨qs,D,rfl,hD,hDl,hall⟩:=nn l (fun t ht=>h t (GE _ ht))
  have hdp:=q.den_pos
  have hp:(4096:Nat) ^ (qs.map tq).length*4096=4096 ^ (tq q :: qs.map tq).length:=by rw[FH,FD]
  refine⟨q :: qs,D*q.den,rfl,GB hD hdp,?_,?_⟩
  ·rw[←hp];exact Gj hDl hd
  ·intro r hr
   rcases Gp.1 hr with rfl | hr
   ·refine⟨?_,hq⟩
    have h1:=(Ov.of r).wide D hdp hD
    rw[FE r.den D] at h1
    refine h1.mono ?_
    have:=Gj hn hDl
    refine Fx this ?_
    rw[←hp]
    exact FM _ (GC _ (by decide))
   ·obtain⟨h1,h2⟩:=hall r hr
    refine⟨(h1.wide q.den hD hdp).mono ?_,h2⟩
    rw[←hp,←Hb]
    exact FM _ hd
theorem g9 {l:List Rat}{j:Nat} (h:j<l.length):aD (l.map tq) j=tq (l.getD j 0):=by
 rw[←eX (l:=l.map tq) (by simpa using h),GD,FA,FB h];rfl
structure lV (l:List ByteArray) (qs:List Rat):Prop where
 e:l=qs.map tq
 ov:∃ D,0<D∧D≤2 ^ 84∧∀ q∈qs,Ov D (2 ^ 96) q
 ok:∀ q∈qs,okQ q
 len:qs.length≤7
theorem tj {l:List ByteArray} (hl:l.length≤7) (h:∀ s∈l,bX s.data.toList=true):∃ qs,lV l qs:=by
 obtain⟨qs,D,e,hD,hDl,hall⟩:=nn l h
 have h7:(4096:Nat) ^ l.length≤4096 ^ 7:=FG (by decide) hl
 have e7:(4096:Nat) ^ 7=2 ^ 84:=by decide
 refine⟨qs,e,⟨D,hD,by omega,fun q hq=>(hall q hq).1.mono ?_⟩,fun q hq=>(hall q hq).2,by rw[e,FF] at hl;exact hl⟩
 have:4096*4096 ^ l.length≤4096*4096 ^ 7:=FM _ h7
 rw[e7] at this
 exact Fx this (by decide)
theorem oJ {a b:Nat} (h:a≤b):(2:Nat) ^ a≤2 ^ b:=FG (by decide) h
theorem Ef {x a b c:Nat} (h:x≤2 ^ a*2 ^ b) (hc:a+b=c):x≤2 ^ c:=by rw[←hc,G4];exact h
theorem Eg {x y a b c:Nat} (h1:x≤2 ^ a) (h2:y≤2 ^ b) (hc:a+b=c):x*y≤2 ^ c:=Ef (Gj h1 h2) hc
theorem Cd {a b:Rat} (ha:okQ a) (hb:okQ b) (h:tq a=tq b):a=b:=congrArg CQ.re (Du ha hb h)
theorem rH:∀ {l m:List Rat},(∀ q∈l,okQ q)→(∀ q∈m,okQ q)→l.map tq=m.map tq→l=m
 | [],[],_,_,_=>rfl
 | [],_ :: _,_,_,h=>by cases h
 | _ :: _,[],_,_,h=>by cases h
 | a :: l,b :: m,h1,h2,h=>by
  rw[GH,GH] at h
  rw[Cd (h1 a (Gq ..)) (h2 b (Gq ..)) (List.cons.inj h).1,rH (fun q hq=>h1 q (GE _ hq)) (fun q hq=>h2 q (GE _ hq)) (List.cons.inj h).2]
theorem n9 {a b:List ByteArray} (h:aB a b=true):∃ qa qb,lV a qa∧lV b qb∧0<qa.length∧0<qb.length:=by
 obtain⟨b1,b7,a1,a7,ac,bc,-⟩:=bf h
 obtain⟨qa,ha⟩:=tj a7 ac
 obtain⟨qb,hb⟩:=tj b7 bc
 refine⟨qa,qb,ha,hb,?_,?_⟩
 ·rw[ha.e,FF] at a1;omega
 ·rw[hb.e,FF] at b1;omega
theorem eh {l:List Rat}{k:Nat} (h:k<l.length):l.getD k 0∈l:=by rw[FA,FB h];exact FJ h
theorem nG {a b:List ByteArray}{qb:List Rat} (h:aB a b=true) (hb:lV b qb):∃ b',qb=1 :: b':=by
 obtain⟨b1,-,-,-,-,bc,hh⟩:=bf h
 have hl:=hb.e
 subst hl
 match qb,hb,b1,hh with
 | q :: b',hb,_,hh =>
  have e:(tq q).data.toList=[49]:=by
   unfold nF at hh
   simpa using hh
  have:tq q=tq 1:=by
   rw[jG]
   exact iM e
  exact⟨b',by rw[Cd (hb.ok q (Gq ..)) gl this]⟩
theorem Fd (n:Nat) (h:n≠0):(2:Nat) ^ (33*n)<10 ^ (10*n):=by
 rw[G5,G5];exact Nat.pow_lt_pow_left (by decide) h
theorem E4 {x k n t:Nat} (h:x≤2 ^ k) (hk:k≤33*n) (ht:10*n=t) (hn:n≠0):x<10 ^ t:=by
 subst ht;exact F7 (Fx h (oJ hk)) (Fd n hn)
theorem mK {x k:Nat} (h:x≤2 ^ k) (hk:k≤6600):x<10 ^ 2000:=E4 (n:=200) (t:=2000) h (by omega) rfl (by decide)
def dh (p:List Rat) (j:Nat) (k:Rat):List Rat:=(List.range j).map fun i=>(p.getD i 0-k*p.getD (j-i) 0) / (1-k*k)
def aZ:Nat→List Rat→Option (List Rat)
 | 0,_=>some []
 | j+1,p=>if -1<p.getD (j+1) 0∧p.getD (j+1) 0<1 then (aZ j (dh p (j+1) (p.getD (j+1) 0))).map fun l=>l++[p.getD (j+1) 0] else none
theorem ci (p:List Rat) (j:Nat) (k:Rat):(dh p j k).length=j:=by simp[dh]
theorem eK (p:List Rat) (j:Nat) (k:Rat) (i:Nat) (h:i<j):(dh p j k).getD i 0=(p.getD i 0-k*p.getD (j-i) 0) / (1-k*k):=by
 unfold dh
 rw[FA,Ho,List.getElem?_range h]
 rfl
theorem pS (p:List Rat) (j:Nat) (k:Rat) (i:Nat) (h:j≤i):(dh p j k).getD i 0=0:=by
 rw[FA,GM (by rw[ci];exact h)]
 rfl
structure uu (e:Nat) (p:List Rat):Prop where
 one:p.getD 0 0=1
 ov:∃ D,0<D∧D≤2 ^ e∧∀ q∈p,Ov D (2 ^ e) q
theorem rE {k:Rat} (h1:-1<k) (h2:k<1):0<1-k*k:=by
 have e:1-k*k=(1-k)*(1+k):=by grind
 rw[e]
 exact Rat.mul_pos (by grind) (by grind)
theorem rV {D:Nat} (h:0<D):(0:Rat)<(D:Rat):=by
 have:=Rat.intCast_lt_intCast.2 (show (0:Int)<(D:Int) by omega)
 exact this
theorem Ao {D M:Nat}{k:Rat} (hD:0<D) (hk:Ov D M k) (h1:-1<k) (h2:k<1):∃ F:Nat,0<F∧F≤D*D∧1-k*k=(F:Rat) / ((D:Rat)*(D:Rat)):=by
 obtain⟨K,e,-⟩:=hk
 have hDc:=eR hD
 have hDp:=rV hD
 obtain⟨X,hX⟩:∃ X:Int,X=(D:Int)*D-K*K:=⟨_,rfl⟩
 have hXQ:(X:Rat)=(D:Rat)*(D:Rat)-(K:Rat)*(K:Rat):=by
  have:=congrArg (fun x:Int=>(x:Rat)) hX
  simp only[Rat.intCast_sub,Rat.intCast_mul] at this
  exact this
 have e1:1-k*k=(X:Rat) / ((D:Rat)*(D:Rat)):=by
  rw[hXQ,e]
  grind
 have hp:=rE h1 h2
 have e2:(X:Rat)=(1-k*k)*((D:Rat)*(D:Rat)):=by
  rw[e1]
  grind
 have hX0:(0:Rat)<(X:Rat):=by
  rw[e2]
  exact Rat.mul_pos hp (Rat.mul_pos hDp hDp)
 have hX1:0<X:=Rat.intCast_lt_intCast.1 hX0
 have hKK:0≤K*K:=by
  rw[←Int.natAbs_mul_self']
  exact Int.natCast_nonneg _
 obtain⟨F,hF⟩:∃ F:Nat,X=(F:Int):=⟨X.toNat,by omega⟩
 refine⟨F,by omega,?_,?_⟩
 ·have:(F:Int)≤((D*D:Nat):Int):=by rw[H6];omega
  omega
 ·rw[e1,hF]
  rfl
theorem Bv {D F M:Nat}{x y:Rat} (hD:0<D) (hF:0<F) (hx:Ov (D*D) M x) (hy:y=(F:Rat) / ((D:Rat)*(D:Rat))):Ov F M (x / y):=by
 obtain⟨n,e,hn⟩:=hx
 have h1:=eR hD
 have h2:=eR hF
 refine⟨n,?_,hn⟩
 rw[e,hy,Rat.natCast_mul]
 show (n:Rat) / ((D:Rat)*(D:Rat)) / ((F:Rat) / ((D:Rat)*(D:Rat)))=(n:Rat) / (F:Rat)
 grind
theorem uO {e:Nat}:2 ^ e*2 ^ e+2 ^ e*2 ^ e≤2 ^ (2*e+1):=by
 rw[←G4,FD,Nat.mul_two,show e+e=2*e from by omega]
 exact Fm _
theorem tT {e:Nat}:2 ^ e*2 ^ e≤2 ^ (2*e+1):=Fx (Nat.le_add_right _ _) uO
theorem qV {p:List Rat}{e j:Nat} (hp:uu e p) (hl:p.length=j+2) (he:2*e+1≤6600) (h1:-1<p.getD (j+1) 0) (h2:p.getD (j+1) 0<1) :
  kV (p.map tq) (j+1) (tq (p.getD (j+1) 0))=(dh p (j+1) (p.getD (j+1) 0)).map tq∧uu (2*e+1) (dh p (j+1) (p.getD (j+1) 0)):=by
 obtain⟨one,D,hD,hDl,ov⟩:=hp
 have hg:∀ i,i<j+2→Ov D (2 ^ e) (p.getD i 0):=fun i hi=>ov _ (eh (by omega))
 have hk:=hg (j+1) (by omega)
 obtain⟨k,hke⟩:∃ k,k=p.getD (j+1) 0:=⟨_,rfl⟩
 rw[←hke] at h1 h2 hk ⊢
 obtain⟨F,hF,hFl,hFe⟩:=Ao hD hk h1 h2
 have hDD:D*D≤2 ^ (2*e+1):=Fx (Gj hDl hDl) tT
 have hDp:=GB hD hD
 have big:=fun (n:Nat) (h:n≤2 ^ (2*e+1))=>mK h he
 have small:2 ^ e≤2 ^ (2*e+1):=oJ (by omega)
 have ok1:∀ i,i<j+2→okQ (p.getD i 0):=fun i hi=>(hg i hi).ok hD (big _ (Fx hDl small)) (big _ small)
 have okk:okQ k:=by rw[hke];exact ok1 _ (by omega)
 have m1:∀ i,i<j+2→Ov (D*D) (2 ^ e*2 ^ e) (k*p.getD i 0):=fun i hi=>hk.mul (hg i hi) hD hD
 have s1:∀ i,i<j+2→∀ l,l<j+2→Ov (D*D) (2 ^ (2*e+1)) (p.getD i 0-k*p.getD l 0):=fun i hi l hl' =>
  (((hg i hi).wide D hD hD).sub (m1 l hl')).mono (Fx (Nat.add_le_add_right (FM _ hDl) _) uO)
 have kk:Ov (D*D) (2 ^ e*2 ^ e) (k*k):=hk.mul hk hD hD
 have one1:Ov (D*D) (D*D) 1:=⟨((D*D:Nat):Int),by
  have:=eR hDp
  show (1:Rat)=((D*D:Nat):Rat) / ((D*D:Nat):Rat)
  grind,IP (FT _)⟩
 have s2:Ov (D*D) (2 ^ (2*e+1)) (1-k*k):=(one1.sub kk).mono (Fx (Nat.add_le_add_right (Gj hDl hDl) _) uO)
 have hne:1-k*k≠0:=by have:=rE h1 h2;grind
 have q1:∀ i,i<j+2→∀ l,l<j+2→Ov F (2 ^ (2*e+1)) ((p.getD i 0-k*p.getD l 0) / (1-k*k)):=fun i hi l hl'=>Bv hD hF (s1 i hi l hl') hFe
 have hFb:F≤2 ^ (2*e+1):=Fx hFl hDD
 have b0:=big _ (Fm _)
 have bD:=big _ hDD
 have bF:=big _ hFb
 refine⟨?_,?_,F,hF,hFb,?_⟩
 ·unfold kV dh
  rw[List.map_map]
  refine List.map_congr_left fun i hi=>?_
  have hi:=Gv.1 hi
  show dl (ie (aD (p.map tq) i) (dj (tq k) (aD (p.map tq) (j+1-i)))) (ie ⟨#[49]⟩ (dj (tq k) (tq k)))=tq _
  rw[g9 (by omega),g9 (by omega),←jG]
  rw[kU okk (ok1 _ (by omega)) ((m1 _ (by omega)).ok hDp bD (big _ tT)),kU okk okk (kk.ok hDp bD (big _ tT)),
   xC (ok1 _ (by omega)) ((m1 _ (by omega)).ok hDp bD (big _ tT)) ((s1 i (by omega) (j+1-i) (by omega)).ok hDp bD b0),
   xC gl (kk.ok hDp bD (big _ tT)) (s2.ok hDp bD b0),
   wI ((s1 i (by omega) (j+1-i) (by omega)).ok hDp bD b0) (s2.ok hDp bD b0) hne ((q1 i (by omega) (j+1-i) (by omega)).ok hF bF b0)]
 ·rw[eK _ _ _ _ (by omega),Ie,←hke,one]
  grind
 ·intro q hq
  unfold dh at hq
  obtain⟨i,hi,rfl⟩:=Hs.1 hq
  have hi:=Gv.1 hi
  exact q1 i (by omega) _ (by omega)
theorem BS {e:Nat}{p:List Rat} (hp:uu e p) (he:e≤6600):∀ q∈p,okQ q:=by
 obtain⟨-,D,hD,hDl,ov⟩:=hp
 exact fun q hq=>(ov q hq).ok hD (mK hDl he) (mK (Fm _) he)
theorem n_ (j:Nat):1≤2 ^ j:=GS (by decide)
theorem Ea {e j:Nat} (h:(e+1)*2 ^ (j+1)≤6600):2*e+1≤6600∧(2*e+1+1)*2 ^ j≤6600:=by
 have h1:(2*e+1+1)*2 ^ j=(e+1)*2 ^ (j+1):=by
  rw[FD,show 2*e+1+1=(e+1)*2 from by omega,Hb,FE 2]
 have h2:=FM (2*e+1+1) (n_ j)
 omega
theorem qe:∀ (j:Nat) (p:List Rat) (e:Nat) (pf:List ByteArray),p.length=j+1→uu e p→(e+1)*2 ^ j≤6600→j≤pf.length→jB j (p.map tq) pf=(aZ j p).map fun l=>l.map tq++pf.drop j
 | 0,_,_,_,_,_,_,_=>rfl
 | j+1,p,e,pf,hl,hp,he,hpf=>by
  obtain⟨g1,g2⟩:=Ea he
  have okk:okQ (p.getD (j+1) 0):=BS hp (by omega) _ (eh (by omega))
  rw[jB,aZ,g9 (by omega),kq okk]
  by_cases h:-1<p.getD (j+1) 0∧p.getD (j+1) 0<1
  ·obtain⟨n1,n2⟩:=qV hp hl g1 h.1 h.2
   rw[if_pos h,if_pos (by rw[decide_eq_true h.1,decide_eq_true h.2];rfl),n1,qe j _ (2*e+1) _ (ci ..) n2 g2 (by rw[GL];omega)]
   rw[Option.map_map]
   congr 1
   funext l
   have hd:(pf.set j (tq (p.getD (j+1) 0))).drop j=tq (p.getD (j+1) 0) :: pf.drop (j+1):=by
    rw[Gf (by rw[GL];omega),Hr,List.drop_set_of_lt (by omega)]
   show l.map tq++(pf.set j _).drop j=(l++[p.getD (j+1) 0]).map tq++pf.drop (j+1)
   rw[hd,H7,FW]
   rfl
  ·rw[if_neg h,if_neg (by simp only[FI,decide_eq_true_eq];exact h)]
   rfl
theorem oE {b:List ByteArray}{qb:List Rat} (h:lV b qb) (h1:qb.getD 0 0=1):uu 96 qb:=by
 obtain⟨D,hD,hDl,ov⟩:=h.ov
 exact⟨h1,D,hD,Fx hDl (oJ (by decide)),ov⟩
theorem lO {j:Nat} (h:j≤6):(96+1)*2 ^ j≤6600:=by
 have:2 ^ j≤2 ^ 6:=oJ h
 omega
theorem od {b:List ByteArray}{qb:List Rat} (h:lV b qb) (h1:qb.getD 0 0=1) (hl:0<qb.length):aY b=(aZ (qb.length-1) qb).map fun l=>l.map tq:=by
 obtain⟨n,hn⟩:∃ n,qb.length=n+1:=⟨qb.length-1,by omega⟩
 have h7:=h.len
 unfold aY
 rw[h.e,FF,hn,Gs,qe n qb 96 _ hn (oE h h1) (lO (by omega)) (by simp)]
 congr 1
 funext l
 rw[List.drop_of_length_le (by simp),Gk]
theorem kt:∀ (j:Nat) (p l:List Rat),aZ j p=some l→l.length=j
 | 0,_,l,h=>by cases h;rfl
 | j+1,p,l,h=>by
  rw[aZ] at h
  split at h
  ·cases hq:aZ j (dh p (j+1) (p.getD (j+1) 0)) with
   | none=>rw[hq] at h;cases h
   | some l' =>
    rw[hq] at h
    cases h
    rw[Fv,kt j _ _ hq]
    rfl
  ·cases h
structure gV (w:World) (g cap:Nat) (zs:List CQ):Prop where
 lt:g<w.heap.size
 fr:∀ j,w.frozen? ⟨g,j,none⟩=false
 nu:∀ j z,w.cell? ⟨g,j,none⟩≠some (.int .u64 z)
 row:∃ es:List Value,es.length=zs.length∧(∀ i (h:i<es.length) j u,(cellsOf es[i])[j]?=some u→w.cell? ⟨g,i*6+j,none⟩=some u)∧∀ i (h:i<es.length) (h':i<zs.length),IsK w es[i] zs[i]
 cap:zs.length≤cap∧cap≤maxLen
theorem gV.isP {w:World}{g cap:Nat}{zs:List CQ} (h:gV w g cap zs):IsP w (.slice (some ⟨g,0,none⟩) zs.length cap) zs:=by
 obtain⟨es,h1,h2,h3⟩:=h.row
 refine⟨es,h1,⟨_,cap,by rw[h1],by rw[h1];exact h.cap.1,h.cap.2,fun _=>⟨g,0,rfl,h.lt,fun i hi j u hu=>?_⟩⟩,h3⟩
 rw[Gl];exact h2 i hi j u hu
theorem gV.below {w w':World}{g cap:Nat}{zs:List CQ} (h:gV w g cap zs) (hb:Below w.heap.size w w'):gV w' g cap zs:=by
 obtain⟨es,h1,h2,h3⟩:=h.row
 have hblk:=hb.block g h.lt
 have hc:∀ j,w'.cell? ⟨g,j,none⟩=w.cell? ⟨g,j,none⟩:=fun j=>World.cell?_of_block (w:=w) (w':=w') (a:=⟨g,j,none⟩) hblk
 refine⟨Fo h.lt hb.size,fun j=>?_,fun j z=>by rw[hc];exact h.nu j z,⟨es,h1,fun i hi j u hu=>by rw[hc];exact h2 i hi j u hu,fun i hi hi'=>(h3 i hi hi').below hb⟩,h.cap⟩
 have:=h.fr j
 unfold World.frozen? at this ⊢
 simp only[hblk]
 exact this
theorem gV.of_own {w:World}{base:Nat}{v:Value}{zs:List CQ} (h:dK w base v zs) (hz:0<zs.length):∃ g cap,v=.slice (some ⟨g,0,none⟩) zs.length cap∧base≤g∧gV w g cap zs:=by
 obtain⟨es,h1,h2,h3⟩:=h.p
 have hrow:=fw (kE h1 h3) h2
 rcases h2.2 with ⟨rfl,h0⟩ | ⟨g,cap,cur,rfl,hg,hh,hn,hm,hs,ht⟩
 ·omega
 ·obtain⟨p,c,e,e1,e2,e3⟩:=hrow
  obtain⟨b,o,e4,hlt,hc⟩:=e3 (by omega)
  subst e4
  simp only[Value.slice.injEq,Option.some.injEq,Addr.mk.injEq,and_true] at e
  obtain⟨⟨rfl,rfl⟩,-,rfl⟩:=e
  refine⟨g,cap,by rw[h1],hg,hlt,fun j=>by rw[World.frozen?,hh];simp,fun j z=>h.nu g rfl j z,⟨es,h1,fun i hi j u hu=>?_,h3⟩,by omega,hm⟩
  have:=hc i hi j u hu
  rwa [Gl] at this
theorem gV.set {w:World}{g cap k:Nat}{zs:List CQ}{a b c d e f:Value}{z:CQ} (h:gV w g cap zs) (hk:k<zs.length) (hK:IsK w (.agg #[a,b,c,d,e,f]) z) :
  gV (w.setCells g (k*6) [a,b,c,d,e,f]) g cap (zs.set k z)∧(∀ u l,IsU w u l→IsU (w.setCells g (k*6) [a,b,c,d,e,f]) u l)∧Below g w (w.setCells g (k*6) [a,b,c,d,e,f])∧∀ i,i≠g→(w.setCells g (k*6) [a,b,c,d,e,f]).heap[i]?=w.heap[i]?:=by
 obtain⟨es,h1,h2,h3⟩:=h.row
 have h6:=kE h1 h3
 obtain⟨xm,xp,xl,xc,xq,xk,xd,ym,yp,yl,yc,yq,yk,yd,he⟩:=hK.forms
 have hin:∀ j,j<6→(w.cell? ⟨g,k*6+j,none⟩).isSome=true:=fun j hj=>by
  have hlt:j<(cellsOf (es[k]'(by omega))).length:=by rw[h6 _ (FJ _)];exact hj
  rw[h2 k (by omega) j _ (FB hlt)];rfl
 have hnot:∀ u∈[a,b,c,d,e,f],∀ z,u≠.int .u64 z:=by
  simp only[Value.agg.injEq,Array.mk.injEq,List.cons.injEq,and_true] at he
  obtain⟨rfl,rfl,rfl,rfl,rfl,rfl⟩:=he
  intro u hu z e
  subst e
  simp at hu
 have hcin:=World.cell?_setCells_in g [a,b,c,d,e,f] (k*6) w hin
 have hcout:=fun x h=>World.cell?_setCells_out g [a,b,c,d,e,f] (k*6) w x h
 have hb:Below g w (w.setCells g (k*6) [a,b,c,d,e,f]) :=
  ((((((Below.refl g w).setCell (p:=⟨g,k*6,none⟩) (Fm _) a).setCell (p:=⟨g,k*6+1,none⟩) (Fm _) b).setCell (p:=⟨g,k*6+1+1,none⟩) (Fm _) c).setCell (p:=⟨g,k*6+1+1+1,none⟩) (Fm _) d).setCell (p:=⟨g,k*6+1+1+1+1,none⟩) (Fm _) e).setCell (p:=⟨g,k*6+1+1+1+1+1,none⟩) (Fm _) f
 have hU:∀ u l,IsU w u l→IsU (w.setCells g (k*6) [a,b,c,d,e,f]) u l:=fun u l hu=>by
  obtain⟨p,cp,e1,e2,e3,e4⟩:=hu
  refine⟨p,cp,e1,e2,e3,fun hl=>?_⟩
  obtain⟨b',o,e5,hlt,hc⟩:=e4 hl
  refine⟨b',o,e5,Fo hlt hb.size,fun j hj=>?_⟩
  rw[hcout ⟨b',o+j,none⟩ (fun (hbb:b'=g) _=>?_)]
  ·exact hc j hj
  ·subst hbb
   exact absurd (hc j hj) (h.nu _ _)
 refine⟨⟨Fo h.lt hb.size,fun j=>?_,fun j z' hc=>?_,⟨es.set k (.agg #[a,b,c,d,e,f]),by simp[h1],fun i hi j u hu=>?_,fun i hi hi'=>?_⟩,by simpa using h.cap⟩,hU,hb,fun i hi=>?_⟩
 ·rw[World.frozen?_setCells];exact h.fr j
 ·by_cases hj:k*6≤j∧j<k*6+6
  ·obtain⟨r,rfl⟩:∃ r,j=k*6+r:=⟨j-k*6,by omega⟩
   have hr:r < [a,b,c,d,e,f].length:=by simp;omega
   rw[hcin r hr] at hc
   exact hnot _ (FJ hr) z' (Option.some.inj hc)
  ·rw[hcout ⟨g,j,none⟩ (fun _ _=>by show j<k*6∨k*6+[a,b,c,d,e,f].length≤j;simp;omega)] at hc
   exact h.nu j z' hc
 ·have hi0:i<es.length:=by simpa using hi
  by_cases hik:k=i
  ·subst hik
   rw[Hr] at hu
   have hr:j < [a,b,c,d,e,f].length:=(Gg.1 hu).1
   rw[hcin j hr]
   rw[←hu];show some _=[a,b,c,d,e,f][j]?;rw[FB hr]
  ·rw[IA hik] at hu
   have hj:j<6:=by
    have:=(Gg.1 hu).1
    rwa [h6 _ (FJ hi0)] at this
   rw[hcout ⟨g,i*6+j,none⟩ (fun _ _=>by show i*6+j<k*6∨k*6+[a,b,c,d,e,f].length≤i*6+j;simp;omega)]
   exact h2 i hi0 j u hu
 ·by_cases hik:k=i
  ·subst hik
   rw[Hr,Hr]
   exact hK.keepU hU
  ·rw[IA hik,IA hik]
   exact (h3 i (by simpa using hi) (by simpa using hi')).keepU hU
 ·show ((((((w.setCell ⟨g,k*6,none⟩ a).setCell ⟨g,k*6+1,none⟩ b).setCell ⟨g,k*6+1+1,none⟩ c).setCell ⟨g,k*6+1+1+1,none⟩ d).setCell ⟨g,k*6+1+1+1+1,none⟩ e).setCell ⟨g,k*6+1+1+1+1+1,none⟩ f).heap[i]?=_
  rw[Below.heap_setCell _ _ _ _ hi,Below.heap_setCell _ _ _ _ hi,Below.heap_setCell _ _ _ _ hi,Below.heap_setCell _ _ _ _ hi,Below.heap_setCell _ _ _ _ hi,Below.heap_setCell _ _ _ _ hi]
theorem dK.apart {w w':World}{base g:Nat}{v:Value}{zs:List CQ} (h:dK w base v zs) (hg:g<base) (hk:∀ i,i≠g→w'.heap[i]?=w.heap[i]?) (hU:∀ u l,IsU w u l→IsU w' u l):dK w' base v zs:=by
 obtain⟨es,h1,h2,h3⟩:=h.p
 refine⟨⟨es,h1,⟨h2.1,?_⟩,fun i hi hi'=>(h3 i hi hi').keepU hU⟩,fun b hb j z hc=>?_⟩
 ·rcases h2.2 with h | ⟨b,cap,cur,rfl,hb,hh,r⟩
  ·exact Or.inl h
  ·exact Or.inr ⟨b,cap,cur,rfl,hb,by rw[hk b (by omega)];exact hh,r⟩
 ·have hlt:=(h2.lt b hb).1
  rw[World.cell?_of_block (w:=w) (w':=w') (a:=⟨b,j,none⟩) (hk b (by omega))] at hc
  exact h.nu b hb j z hc
theorem dK.lower {w:World}{base base':Nat}{v:Value}{zs:List CQ} (h:dK w base v zs) (hb:base'≤base):dK w base' v zs:=by
 obtain⟨es,h1,h2,h3⟩:=h.p
 refine⟨⟨es,h1,⟨h2.1,?_⟩,h3⟩,h.nu⟩
 rcases h2.2 with h | ⟨b,cap,cur,rfl,hg,r⟩
 ·exact Or.inl h
 ·exact Or.inr ⟨b,cap,cur,rfl,by omega,r⟩
theorem bW.blk {w w':World}{k:Nat}{a b c d e f:Value} (h:bW w k a b c d e f) (hs:w.heap.size≤w'.heap.size) (hb:w'.heap[k]?=w.heap[k]?):bW w' k a b c d e f:=by
 have hc:∀ j,w'.cell? ⟨k,j,none⟩=w.cell? ⟨k,j,none⟩:=fun j=>World.cell?_of_block (w:=w) (w':=w') (a:=⟨k,j,none⟩) hb
 exact⟨Fo h.lt hs,(hc 0).trans h.c0,(hc 1).trans h.c1,(hc 2).trans h.c2,(hc 3).trans h.c3,(hc 4).trans h.c4,(hc 5).trans h.c5⟩
theorem cS.blk {w w':World}{k:Nat}{a b c d e f:Value} (h:cS w k a b c d e f) (hb:w'.heap[k]?=w.heap[k]?):cS w' k a b c d e f:=⟨hb.trans h.hp,h.na,h.nb,h.nc,h.nd,h.ne,h.nf⟩
theorem Be {w:World}{base:Nat}{a b c d e f:Value}{z:CQ} (hK:IsK w (.agg #[a,b,c,d,e,f]) z) (hb:base≤w.heap.size):dK (w.alloc (.cells #[a,b,c,d,e,f] 153)) base (.slice (some ⟨w.heap.size,0,none⟩) 1 1) [z]:=by
 obtain⟨xm,xp,xl,xc,xq,xk,xd,ym,yp,yl,yc,yq,yk,yd,he⟩:=hK.forms
 simp only[Value.agg.injEq,Array.mk.injEq,List.cons.injEq,and_true] at he
 obtain⟨rfl,rfl,rfl,rfl,rfl,rfl⟩:=he
 refine⟨⟨[.agg #[.bool xm,.slice xp xl xc,.slice xq xk xd,.bool ym,.slice yp yl yc,.slice yq yk yd]],rfl,⟨rfl,Or.inr ⟨w.heap.size,1,_,rfl,hb,heap_alloc_new w _,Fm _,by simp[maxLen],rfl,rfl⟩⟩,fun i hi hi'=>?_⟩,fun g hg j u hc=>?_⟩
 ·simp at hi
  subst hi
  exact hK.below (aj _ _)
 ·simp only[Value.ownBlock,Option.some.injEq] at hg
  subst hg
  rw[World.cell?,heap_alloc_new] at hc
  simp only[Ga,FL,if_false] at hc
  have:=Gb hc
  simp at this
end Go.Proofs.YtbnkpcfjechfiaaGreatDoor
