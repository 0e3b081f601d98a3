/- Lemmas of this claim. -/
import Derived.Test.YtdlioncecgnloaaGreatDoorYReg
import Derived.Test.YtdlioncecgnloaaGreatDoorYNC7
import Derived.Test.YtdlioncecgnloaaGreatDoorYLP13
import Derived.Test.YtdlioncecgnloaaGreatDoorYPM2
import Derived.Test.YtdlioncecgnloaaGreatDoorYPM3
import Derived.Test.YtdlioncecgnloaaGreatDoorYLH1
import Derived.Test.YtdlioncecgnloaaGreatDoorYWK1
set_option linter.all false
set_option maxRecDepth 100000
set_option maxHeartbeats 8000000
namespace Go.Proofs.YtdlioncecgnloaaGreatDoor
open Go.RowKit Dg Dc
theorem l_ {t:List UInt8}:∀ {m:Nat},(∀ k c,1≤k→k≤m→t[k]?=some c→c≠43∧c≠45)→bZ t m=none
 | 0,_=>rfl
 | m+1,h=>by
  unfold bZ
  rw[if_neg,l_ (fun k c h1 h2 h3=>h k c h1 (by omega) h3)]
  rintro (e | e)
  ·exact (h _ _ (by omega) (zn _) e).1 rfl
  ·exact (h _ _ (by omega) (zn _) e).2 rfl
theorem oW {t:List UInt8}{k0:Nat} (h0:1≤k0) (hs:t[k0]?=some 43∨t[k0]?=some 45):∀ {m:Nat},k0≤m→(∀ k c,k0<k→k≤m→t[k]?=some c→c≠43∧c≠45)→bZ t m=some k0
 | 0,hm,_=>by omega
 | m+1,hm,h=>by
  unfold bZ
  by_cases e:m+1=k0
  ·subst e
   rw[if_pos hs]
  ·rw[if_neg,oW h0 hs (by omega) (fun k c h1 h2 h3=>h k c h1 (by omega) h3)]
   rintro (e2 | e2)
   ·exact (h _ _ (by omega) (zn _) e2).1 rfl
   ·exact (h _ _ (by omega) (zn _) e2).2 rfl
theorem r_ (r:Rt):∀ c∈dR r,c≠43∧c≠45:=by
 intro c hc
 unfold dR at hc
 rcases AM.1 hc with h | h
 ·have:=gj (zS.1 (cV r.n) _ h);exact⟨this.1,this.2.1⟩
 ·split at h
  ·rcases Ac.1 h with rfl | h
   ·decide
   ·have:=gj (zS.1 (cV r.d) _ h);exact⟨this.1,this.2.1⟩
  ·cases h
def bT (r:Rt):List UInt8:=if dR r=[49] then [] else dR r
theorem iy (r:Rt):∀ c∈bT r,c≠43∧c≠45:=by
 intro c hc
 unfold bT at hc
 split at hc
 ·cases hc
 ·exact r_ r c hc
theorem j8 (r:Rt):cA r=(if r.minus then [45] else [])++bT r:=by
 obtain⟨c,t,e1,e2⟩:=it r
 have hc:=gj e2
 unfold cA bT
 rw[eo]
 cases r.minus
 ·simp only[zI,if_false,zN]
  by_cases h:dR r=[49]
  ·rw[if_pos (Or.inl h),if_pos h,h];rfl
  ·rw[if_neg,if_neg h]
   rintro (e | e)
   ·exact h e
   ·rw[e1] at e;exact hc.2.1 (List.cons.inj e).1
 ·simp only[if_true,zT,zN]
  by_cases h:dR r=[49]
  ·rw[if_pos (Or.inr (by rw[h])),if_pos h,h];rfl
  ·rw[if_neg,if_neg h]
   rintro (e | e)
   ·exact absurd (List.cons.inj e).1 (by decide)
   ·exact h (List.cons.inj e).2
theorem yP (r:Rt):(if cA r=[]∨cA r=[45] then cA r++[49] else cA r)=aF r:=by
 obtain⟨c,t,e1,e2⟩:=it r
 have hc:=gj e2
 rw[j8,eo]
 unfold bT
 by_cases h:dR r=[49]
 ·rw[if_pos h,h]
  cases r.minus
  ·rfl
  ·rfl
 ·rw[if_neg h]
  rw[if_neg]
  rintro (e | e)
  ·cases hm:r.minus
   ·rw[hm,e1] at e;cases e
   ·rw[hm] at e;cases e
  ·cases hm:r.minus
   ·rw[hm] at e
    simp only[zI,if_false,zN] at e
    rw[e1] at e
    exact hc.2.1 (List.cons.inj e).1
   ·rw[hm] at e
    simp only[if_true,zT,zN] at e
    have:=(List.cons.inj e).2
    rw[e1] at this;cases this
theorem mO {l:List UInt8}{k:Nat}{c:UInt8} (h:l[k]?=some c):c∈l:=AW h
theorem oK (X l:List UInt8) (d:UInt8) (hX:1≤X.length) (hd:d=43∨d=45) (hl:∀ c∈l,c≠43∧c≠45):jj (X++d :: l)=(X,Lib.trimPrefix (d :: l) [43]):=by
 have hs:bZ (X++d :: l) ((X++d :: l).length-1)=some X.length:=by
  refine oW hX ?_ (by simp) (fun k c h1 _ h3=>?_)
  ·rw[AD (zn _),Bj]
   rcases hd with rfl | rfl
   ·exact Or.inl rfl
   ·exact Or.inr rfl
  ·rw[AD (by omega),show k-X.length=(k-X.length-1)+1 from by omega,A7] at h3
   exact hl c (mO h3)
 unfold jj
 rw[hs]
 simp only
 rw[BM rfl,List.drop_left' rfl]
theorem uZ (l:List UInt8) (hl:∀ k c,1≤k→l[k]?=some c→c≠43∧c≠45):jj l=([48],l):=by
 unfold jj
 rw[l_ (fun k c h1 _ h3=>hl k c h1 h3)]
theorem xF (y:Rt):∀ k c,1≤k→(cA y)[k]?=some c→c≠43∧c≠45:=by
 intro k c h1 h3
 rw[j8] at h3
 cases hm:y.minus
 ·rw[hm] at h3
  exact iy y c (mO h3)
 ·rw[hm] at h3
  simp only[if_true,zT,zN] at h3
  rw[show k=(k-1)+1 from by omega,A7] at h3
  exact iy y c (mO h3)
theorem zc (x y:Rt) (b:Bool):jj ((if b then [] else aF x++(if y.minus then [] else [43]))++cA y)=(if b then [48] else aF x,cA y):=by
 cases b
 ·simp only[zI,if_false]
  have hX:=oN x
  cases hm:y.minus
  ·simp only[zI,if_false]
   have hy:cA y=bT y:=by rw[j8,hm];rfl
   rw[Af,Bi,oK _ _ 43 hX (Or.inl rfl) (by rw[hy];exact iy y)]
   unfold Lib.trimPrefix
   rw[fM,decide_eq_true rfl];rfl
  ·simp only[if_true,Ar]
   have hy:cA y=45 :: bT y:=by rw[j8,hm];rfl
   rw[hy,oK _ _ 45 hX (Or.inr rfl) (iy y)]
   unfold Lib.trimPrefix
   rw[fM,decide_eq_false (by decide)];rfl
 ·simp only[if_true,zN]
  exact uZ _ (xF y)
theorem o6 (l:List UInt8):Lib.hasSuffix (l++[105]) [105]=true∧Lib.trimSuffix (l++[105]) [105]=l:=by
 have h:Lib.hasSuffix (l++[105]) [105]=true:=by
  unfold Lib.hasSuffix
  rw[BX]
  exact⟨l,rfl⟩
 refine⟨h,?_⟩
 unfold Lib.trimSuffix
 rw[h]
 simp
theorem nV {z:CQ} (h:dl z=false):dE (txt z)=some z:=by
 by_cases hi:z.im=0
 ·have e:z=CQ.real z.re:=by cases z;simp only at hi;subst hi;rfl
  rw[e] at h ⊢
  exact lI h
 ·have hb:=h
  unfold dl at hb
  simp only[AK] at hb
  have hyn:(ct z).y.n≠0:=fun e=>hi ((aM _).1 e)
  obtain⟨b,hbx⟩:∃ b:Bool,b=decide ((ct z).x.n=0):=⟨_,rfl⟩
  have hv:bS (ct z)=((if b then [] else aF (ct z).x++(if (ct z).y.minus then [] else [43]))++cA (ct z).y)++[105]:=by
   unfold bS
   rw[if_neg hyn,hbx]
   simp only[decide_eq_true_eq]
  have hg:ec (bS (ct z))=some (ct z):=by
   have hl1:=kW hb.1
   have hl2:=kW hb.2
   have hl3:(cA (ct z).y).length≤4002:=by
    unfold cA
    split
    ·rw[zX];have:(aF (ct z).y).length≤4002:=hl2;omega
    ·exact hl2
   have hlen:(bS (ct z)).length≤8008:=by
    rw[hv]
    have:(aF (ct z).x).length≤4002:=hl1
    simp only[zw,zU,As]
    split<;>(try split)<;>simp<;>omega
   have hp:dX (bS (ct z))=(if b then [48] else aF (ct z).x,aF (ct z).y):=by
    unfold dX
    rw[hv,(o6 _).1,(o6 _).2,zc]
    simp only[if_true]
    rw[yP]
   have hx:bu (if b then [48] else aF (ct z).x)=some (ct z).x:=by
    cases b
    ·exact gy (jY z.re)
    ·have:(ct z).x.n=0:=by simpa using hbx
     have h0:z.re=0:=(aM _).1 this
     show bu [48]=some (rt z.re)
     rw[h0,cZ]
     exact jB
   unfold ec
   rw[if_neg (by omega),hp]
   simp only
   rw[hx,show bu (aF (ct z).y)=some (ct z).y from gy (jY z.im)]
   simp only
   rw[if_pos ⟨trivial,hb.1,hb.2⟩]
  unfold dE txt
  simp only[BS]
  rw[hg]
  simp only[BQ]
  show some (⟨toQ (rt z.re),toQ (rt z.im)⟩:CQ)=some z
  rw[qA,qA]
theorem xB {a b:CQ} (ha:dl a=false) (hb:dl b=false) (h:txt a=txt b):a=b:=by
 have e:=nV ha
 rw[h,nV hb] at e
 exact (Option.some.inj e).symm
theorem pJ {s:ByteArray} (h:bA s.data.toList=true):∃ q,s=tq q∧okQ q∧q.num.natAbs≤4096∧q.den≤4096:=by
 obtain⟨q,rfl,hq⟩:=qP h
 refine⟨q,rfl,hq,?_⟩
 unfold bA at h
 simp only[zL] at h
 have e:(tq q).data.toList=aF (rt q):=by
  show bS (ct (CQ.real q))=_
  rw[bE (z:=ct (CQ.real q)) (by show (rt 0).n=0;rw[cZ])];rfl
 have h2:=h.2
 rw[e] at h2
 unfold eW at h2
 rw[(mo (rt q)).1,th (rt q) (df q)] at h2
 unfold qu at h2
 simp only[zL,decide_eq_true_eq] at h2
 exact h2
theorem kj:∀ l:List ByteArray,(∀ s∈l,bA s.data.toList=true)→∃ qs:List Rat,∃ D,l=qs.map tq∧0<D∧D≤4096 ^ l.length∧(∀ q∈qs,Ov D (4096*4096 ^ l.length) q∧okQ q)
 | [],_=>⟨[],1,rfl,by decide,by simp,fun q h=>by cases h⟩
 | s :: l,h=>by
  obtain⟨q,rfl,hq,hn,hd⟩:=pJ (h s (z_ ..))
  obtain⟨qs,D,rfl,hD,hDl,hall⟩:=kj l (fun t ht=>h t (Ai _ ht))
  have hdp:=q.den_pos
  have hp:(4096:Nat) ^ (qs.map tq).length*4096=4096 ^ (tq q :: qs.map tq).length:=by rw[zU,zH]
  refine⟨q :: qs,D*q.den,rfl,Ak hD hdp,?_,?_⟩
  ·rw[←hp];exact An hDl hd
  ·intro r hr
   rcases Ac.1 hr with rfl | hr
   ·refine⟨?_,hq⟩
    have h1:=(Ov.of r).wide D hdp hD
    rw[zK r.den D] at h1
    refine h1.mono ?_
    have:=An hn hDl
    refine zF this ?_
    rw[←hp]
    exact zM _ (Ah _ (by decide))
   ·obtain⟨h1,h2⟩:=hall r hr
    refine⟨(h1.wide q.den hD hdp).mono ?_,h2⟩
    rw[←hp,←AO]
    exact zM _ hd
theorem mC:∀ qs:List Rat,(∀ q∈qs,okQ q)→cO (qs.map tq)=some (qs.map CQ.real)
 | [],_=>rfl
 | q :: qs,h=>by
  show (match dE (tq q),cO (qs.map tq) with | some z,some zs=>some (z :: zs) | _,_=>none)=_
  rw[cE (h q (z_ ..)),mC qs (fun r hr=>h r (Ai _ hr))]
  rfl
theorem cX {l:List Rat}{j:Nat} (h:j<l.length):ap (l.map tq) j=tq (l.getD j 0):=by
 rw[←ee (l:=l.map tq) (by simpa using h),AE,zC,zE h];rfl
structure jr (l:List ByteArray) (qs:List Rat):Prop where
 e:l=qs.map tq
 ov:∃ D,0<D∧D≤2 ^ 84∧∀ q∈qs,Ov D (2 ^ 96) q
 ok:∀ q∈qs,okQ q
 len:qs.length≤7
theorem oJ {l:List ByteArray} (hl:l.length≤7) (h:∀ s∈l,bA s.data.toList=true):∃ qs,jr l qs:=by
 obtain⟨qs,D,e,hD,hDl,hall⟩:=kj l h
 have h7:(4096:Nat) ^ l.length≤4096 ^ 7:=zQ (by decide) hl
 have e7:(4096:Nat) ^ 7=2 ^ 84:=by decide
 refine⟨qs,e,⟨D,hD,by omega,fun q hq=>(hall q hq).1.mono ?_⟩,fun q hq=>(hall q hq).2,by rw[e,zJ] at hl;exact hl⟩
 have:4096*4096 ^ l.length≤4096*4096 ^ 7:=zM _ h7
 rw[e7] at this
 exact zF this (by decide)
theorem kZ {a b:Nat} (h:a≤b):(2:Nat) ^ a≤2 ^ b:=zQ (by decide) h
theorem yw {x a b c:Nat} (h:x≤2 ^ a*2 ^ b) (hc:a+b=c):x≤2 ^ c:=by rw[←hc,AY];exact h
theorem yx {x y a b c:Nat} (h1:x≤2 ^ a) (h2:y≤2 ^ b) (hc:a+b=c):x*y≤2 ^ c:=yw (An h1 h2) hc
theorem qE {a b:Rat} (ha:okQ a) (hb:okQ b) (h:tq a=tq b):a=b:=congrArg CQ.re (xB ha hb h)
theorem rQ:∀ {l m:List Rat},(∀ q∈l,okQ q)→(∀ q∈m,okQ q)→l.map tq=m.map tq→l=m
 | [],[],_,_,_=>rfl
 | [],_ :: _,_,_,h=>by cases h
 | _ :: _,[],_,_,h=>by cases h
 | a :: l,b :: m,h1,h2,h=>by
  rw[Ap,Ap] at h
  rw[qE (h1 a (z_ ..)) (h2 b (z_ ..)) (List.cons.inj h).1,rQ (fun q hq=>h1 q (Ai _ hq)) (fun q hq=>h2 q (Ai _ hq)) (List.cons.inj h).2]
theorem uV {a b:List ByteArray} (h:au a b=true):∃ qa qb,jr a qa∧jr b qb∧0<qa.length∧0<qb.length:=by
 obtain⟨b1,b7,a1,a7,ac,bc,-⟩:=aG h
 obtain⟨qa,ha⟩:=oJ a7 ac
 obtain⟨qb,hb⟩:=oJ b7 bc
 refine⟨qa,qb,ha,hb,?_,?_⟩
 ·rw[ha.e,zJ] at a1;omega
 ·rw[hb.e,zJ] at b1;omega
theorem cD {l:List Rat}{k:Nat} (h:k<l.length):l.getD k 0∈l:=by rw[zC,zE h];exact zG h
theorem uw {a b:List ByteArray}{qb:List Rat} (h:au a b=true) (hb:jr b qb):∃ b',qb=1 :: b':=by
 obtain⟨b1,-,-,-,-,bc,hh⟩:=aG h
 have hl:=hb.e
 subst hl
 match qb,hb,b1,hh with
 | q :: b',hb,_,hh =>
  have e:(tq q).data.toList=[49]:=by
   unfold n6 at hh
   simpa using hh
  have:tq q=tq 1:=by
   rw[eY]
   exact fF e
  exact⟨b',by rw[qE (hb.ok q (z_ ..)) dP this]⟩
def ie (a b:List CQ):Nat→CQ
 | 0=>CQ.real 0
 | i+1=>(ie a b i).add ((a.getD i ⟨0,0⟩).mul (b.getD i ⟨0,0⟩))
def iY (a b:List ByteArray):ByteArray×Int :=
 match cO a,cO b with
 | some x,some y=>b9 (ie x y x.length)
 | _,_=>(⟨#[]⟩,10)
def pO (a b:List Rat):Nat→Rat
 | 0=>0
 | i+1=>pO a b i+a.getD i 0*b.getD i 0
theorem lJ (a:List Rat) (i:Nat):(a.map CQ.real).getD i ⟨0,0⟩=CQ.real (a.getD i 0):=by
 rw[zC,zC,AU]
 cases a[i]?<;>rfl
theorem nS (a b:List Rat):∀ i,ie (a.map CQ.real) (b.map CQ.real) i=CQ.real (pO a b i)
 | 0=>rfl
 | i+1=>by rw[ie,pO,nS a b i,lJ,lJ,kP,oO]
theorem yi {a b:List Rat} (ha:∀ q∈a,okQ q) (hb:∀ q∈b,okQ q) (h:okQ (pO a b a.length)):iY (a.map tq) (b.map tq)=(tq (pO a b a.length),0):=by
 unfold iY
 rw[mC a ha,mC b hb]
 show b9 (ie _ _ _)=_
 rw[zJ,nS]
 exact ij h
open Go.RowKit Dg
theorem y5 (s t r:ByteArray) (w:World) (h:bn (dA CQ.mul) s t=(r,0)) (hG:Gw w) :
  Calls Tryz.prog 19 #[.string s,.string t] w fun e w'=>e=.returned (.tuple #[.string r,.int .i64 0])∧Below w.heap.size w w':=by
 have:=uO s t w hG
 rw[h] at this
 exact this
theorem zd (n:Nat) (h:n≠0):(2:Nat) ^ (33*n)<10 ^ (10*n):=by
 rw[Bt,Bt];exact Nat.pow_lt_pow_left (by decide) h
theorem y4 {x k n t:Nat} (h:x≤2 ^ k) (hk:k≤33*n) (ht:10*n=t) (hn:n≠0):x<10 ^ t:=by
 subst ht;exact zY (zF h (kZ hk)) (zd n hn)
theorem iK {x k:Nat} (h:x≤2 ^ k) (hk:k≤6600):x<10 ^ 2000:=y4 (n:=200) (t:=2000) h (by omega) rfl (by decide)
def d9 (p:List Rat) (j:Nat) (k:Rat):List Rat:=(List.range j).map fun i=>(p.getD i 0-k*p.getD (j-i) 0) / (1-k*k)
def cG:Nat→List Rat→Option (List Rat)
 | 0,_=>some []
 | j+1,p=>if -1<p.getD (j+1) 0∧p.getD (j+1) 0<1 then (cG j (d9 p (j+1) (p.getD (j+1) 0))).map fun l=>l++[p.getD (j+1) 0] else none
theorem cz (p:List Rat) (j:Nat) (k:Rat):(d9 p j k).length=j:=by simp[d9]
theorem dH (p:List Rat) (j:Nat) (k:Rat) (i:Nat) (h:i<j):(d9 p j k).getD i 0=(p.getD i 0-k*p.getD (j-i) 0) / (1-k*k):=by
 unfold d9
 rw[zC,AU,List.getElem?_range h]
 rfl
theorem lU (p:List Rat) (j:Nat) (k:Rat) (i:Nat) (h:j≤i):(d9 p j k).getD i 0=0:=by
 rw[zC,AG (by rw[cz];exact h)]
 rfl
structure r9 (e:Nat) (p:List Rat):Prop where
 one:p.getD 0 0=1
 ov:∃ D,0<D∧D≤2 ^ e∧∀ q∈p,Ov D (2 ^ e) q
theorem qy {k:Rat} (h1:-1<k) (h2:k<1):0<1-k*k:=by
 have e:1-k*k=(1-k)*(1+k):=by grind
 rw[e]
 exact Rat.mul_pos (by grind) (by grind)
theorem nB {D:Nat} (h:0<D):(0:Rat)<(D:Rat):=by
 have:=Rat.intCast_lt_intCast.2 (show (0:Int)<(D:Int) by omega)
 exact this
theorem tZ {D M:Nat}{k:Rat} (hD:0<D) (hk:Ov D M k) (h1:-1<k) (h2:k<1):∃ F:Nat,0<F∧F≤D*D∧1-k*k=(F:Rat) / ((D:Rat)*(D:Rat)):=by
 obtain⟨K,e,-⟩:=hk
 have hDc:=dp hD
 have hDp:=nB hD
 obtain⟨X,hX⟩:∃ X:Int,X=(D:Int)*D-K*K:=⟨_,rfl⟩
 have hXQ:(X:Rat)=(D:Rat)*(D:Rat)-(K:Rat)*(K:Rat):=by
  have:=congrArg (fun x:Int=>(x:Rat)) hX
  simp only[Rat.intCast_sub,Rat.intCast_mul] at this
  exact this
 have e1:1-k*k=(X:Rat) / ((D:Rat)*(D:Rat)):=by
  rw[hXQ,e]
  grind
 have hp:=qy h1 h2
 have e2:(X:Rat)=(1-k*k)*((D:Rat)*(D:Rat)):=by
  rw[e1]
  grind
 have hX0:(0:Rat)<(X:Rat):=by
  rw[e2]
  exact Rat.mul_pos hp (Rat.mul_pos hDp hDp)
 have hX1:0<X:=Rat.intCast_lt_intCast.1 hX0
 have hKK:0≤K*K:=by
  rw[←Int.natAbs_mul_self']
  exact Int.natCast_nonneg _
 obtain⟨F,hF⟩:∃ F:Nat,X=(F:Int):=⟨X.toNat,by omega⟩
 refine⟨F,by omega,?_,?_⟩
 ·have:(F:Int)≤((D*D:Nat):Int):=by rw[BI];omega
  omega
 ·rw[e1,hF]
  rfl
theorem vh {D F M:Nat}{x y:Rat} (hD:0<D) (hF:0<F) (hx:Ov (D*D) M x) (hy:y=(F:Rat) / ((D:Rat)*(D:Rat))):Ov F M (x / y):=by
 obtain⟨n,e,hn⟩:=hx
 have h1:=dp hD
 have h2:=dp hF
 refine⟨n,?_,hn⟩
 rw[e,hy,Rat.natCast_mul]
 show (n:Rat) / ((D:Rat)*(D:Rat)) / ((F:Rat) / ((D:Rat)*(D:Rat)))=(n:Rat) / (F:Rat)
 grind
theorem pP {e:Nat}:2 ^ e*2 ^ e+2 ^ e*2 ^ e≤2 ^ (2*e+1):=by
 rw[←AY,zH,Nat.mul_two,show e+e=2*e from by omega]
 exact zn _
theorem oZ {e:Nat}:2 ^ e*2 ^ e≤2 ^ (2*e+1):=zF (Nat.le_add_right _ _) pP
theorem rC {p:List Rat}{e j:Nat} (hp:r9 e p) (hl:p.length=j+2) (he:2*e+1≤6600) (h1:-1<p.getD (j+1) 0) (h2:p.getD (j+1) 0<1) :
  iM (p.map tq) (j+1) (tq (p.getD (j+1) 0))=(d9 p (j+1) (p.getD (j+1) 0)).map tq∧r9 (2*e+1) (d9 p (j+1) (p.getD (j+1) 0)):=by
 obtain⟨one,D,hD,hDl,ov⟩:=hp
 have hg:∀ i,i<j+2→Ov D (2 ^ e) (p.getD i 0):=fun i hi=>ov _ (cD (by omega))
 have hk:=hg (j+1) (by omega)
 obtain⟨k,hke⟩:∃ k,k=p.getD (j+1) 0:=⟨_,rfl⟩
 rw[←hke] at h1 h2 hk ⊢
 obtain⟨F,hF,hFl,hFe⟩:=tZ hD hk h1 h2
 have hDD:D*D≤2 ^ (2*e+1):=zF (An hDl hDl) oZ
 have hDp:=Ak hD hD
 have big:=fun (n:Nat) (h:n≤2 ^ (2*e+1))=>iK h he
 have small:2 ^ e≤2 ^ (2*e+1):=kZ (by omega)
 have ok1:∀ i,i<j+2→okQ (p.getD i 0):=fun i hi=>(hg i hi).ok hD (big _ (zF hDl small)) (big _ small)
 have okk:okQ k:=by rw[hke];exact ok1 _ (by omega)
 have m1:∀ i,i<j+2→Ov (D*D) (2 ^ e*2 ^ e) (k*p.getD i 0):=fun i hi=>hk.mul (hg i hi) hD hD
 have s1:∀ i,i<j+2→∀ l,l<j+2→Ov (D*D) (2 ^ (2*e+1)) (p.getD i 0-k*p.getD l 0):=fun i hi l hl' =>
  (((hg i hi).wide D hD hD).sub (m1 l hl')).mono (zF (Nat.add_le_add_right (zM _ hDl) _) pP)
 have kk:Ov (D*D) (2 ^ e*2 ^ e) (k*k):=hk.mul hk hD hD
 have one1:Ov (D*D) (D*D) 1:=⟨((D*D:Nat):Int),by
  have:=dp hDp
  show (1:Rat)=((D*D:Nat):Rat) / ((D*D:Nat):Rat)
  grind,Nat.le_of_eq (Int.natAbs_natCast _)⟩
 have s2:Ov (D*D) (2 ^ (2*e+1)) (1-k*k):=(one1.sub kk).mono (zF (Nat.add_le_add_right (An hDl hDl) _) pP)
 have hne:1-k*k≠0:=by have:=qy h1 h2;grind
 have q1:∀ i,i<j+2→∀ l,l<j+2→Ov F (2 ^ (2*e+1)) ((p.getD i 0-k*p.getD l 0) / (1-k*k)):=fun i hi l hl'=>vh hD hF (s1 i hi l hl') hFe
 have hFb:F≤2 ^ (2*e+1):=zF hFl hDD
 have b0:=big _ (zn _)
 have bD:=big _ hDD
 have bF:=big _ hFb
 refine⟨?_,?_,F,hF,hFb,?_⟩
 ·unfold iM d9
  rw[List.map_map]
  refine List.map_congr_left fun i hi=>?_
  have hi:=Aq.1 hi
  show bL (eX (ap (p.map tq) i) (ck (tq k) (ap (p.map tq) (j+1-i)))) (eX ⟨#[49]⟩ (ck (tq k) (tq k)))=tq _
  rw[cX (by omega),cX (by omega),←eY]
  rw[j0 okk (ok1 _ (by omega)) ((m1 _ (by omega)).ok hDp bD (big _ oZ)),j0 okk okk (kk.ok hDp bD (big _ oZ)),
   rK (ok1 _ (by omega)) ((m1 _ (by omega)).ok hDp bD (big _ oZ)) ((s1 i (by omega) (j+1-i) (by omega)).ok hDp bD b0),
   rK dP (kk.ok hDp bD (big _ oZ)) (s2.ok hDp bD b0),
   qQ ((s1 i (by omega) (j+1-i) (by omega)).ok hDp bD b0) (s2.ok hDp bD b0) hne ((q1 i (by omega) (j+1-i) (by omega)).ok hF bF b0)]
 ·rw[dH _ _ _ _ (by omega),BO,←hke,one]
  grind
 ·intro q hq
  unfold d9 at hq
  obtain⟨i,hi,rfl⟩:=BK.1 hq
  have hi:=Aq.1 hi
  exact q1 i (by omega) _ (by omega)
theorem yL {e:Nat}{p:List Rat} (hp:r9 e p) (he:e≤6600):∀ q∈p,okQ q:=by
 obtain⟨-,D,hD,hDl,ov⟩:=hp
 exact fun q hq=>(ov q hq).ok hD (iK hDl he) (iK (zn _) he)
theorem kJ (j:Nat):1≤2 ^ j:=AP (by decide)
theorem grow {e j:Nat} (h:(e+1)*2 ^ (j+1)≤6600):2*e+1≤6600∧(2*e+1+1)*2 ^ j≤6600:=by
 have h1:(2*e+1+1)*2 ^ j=(e+1)*2 ^ (j+1):=by
  rw[zH,show 2*e+1+1=(e+1)*2 from by omega,AO,zK 2]
 have h2:=zM (2*e+1+1) (kJ j)
 omega
theorem l7:∀ (j:Nat) (p:List Rat) (e:Nat) (pf:List ByteArray),p.length=j+1→r9 e p→(e+1)*2 ^ j≤6600→j≤pf.length→gA j (p.map tq) pf=(cG j p).map fun l=>l.map tq++pf.drop j
 | 0,_,_,_,_,_,_,_=>rfl
 | j+1,p,e,pf,hl,hp,he,hpf=>by
  obtain⟨g1,g2⟩:=grow he
  have okk:okQ (p.getD (j+1) 0):=yL hp (by omega) _ (cD (by omega))
  rw[gA,cG,cX (by omega),kv okk]
  by_cases h:-1<p.getD (j+1) 0∧p.getD (j+1) 0<1
  ·obtain⟨n1,n2⟩:=rC hp hl g1 h.1 h.2
   rw[if_pos h,if_pos (by rw[decide_eq_true h.1,decide_eq_true h.2];rfl),n1,l7 j _ (2*e+1) _ (cz ..) n2 g2 (by rw[z7];omega)]
   rw[Option.map_map]
   congr 1
   funext l
   have hd:(pf.set j (tq (p.getD (j+1) 0))).drop j=tq (p.getD (j+1) 0) :: pf.drop (j+1):=by
    rw[Al (by rw[z7];omega),Bg,List.drop_set_of_lt (by omega)]
   show l.map tq++(pf.set j _).drop j=(l++[p.getD (j+1) 0]).map tq++pf.drop (j+1)
   rw[hd,A_,Af]
   rfl
  ·rw[if_neg h,if_neg (by simp only[zL,decide_eq_true_eq];exact h)]
   rfl
theorem oX {b:List ByteArray}{qb:List Rat} (h:jr b qb) (h1:qb.getD 0 0=1):r9 96 qb:=by
 obtain⟨D,hD,hDl,ov⟩:=h.ov
 exact⟨h1,D,hD,zF hDl (kZ (by decide)),ov⟩
theorem mc {j:Nat} (h:j≤6):(96+1)*2 ^ j≤6600:=by
 have:2 ^ j≤2 ^ 6:=kZ h
 omega
theorem u_ {b:List ByteArray}{qb:List Rat} (h:jr b qb) (h1:qb.getD 0 0=1) (hl:0<qb.length):aQ b=(cG (qb.length-1) qb).map fun l=>l.map tq:=by
 obtain⟨n,hn⟩:∃ n,qb.length=n+1:=⟨qb.length-1,by omega⟩
 have h7:=h.len
 unfold aQ
 rw[h.e,zJ,hn,Aj,l7 n qb 96 _ hn (oX h h1) (mc (by omega)) (by simp)]
 congr 1
 funext l
 rw[List.drop_of_length_le (by simp),Ar]
theorem kK:∀ (j:Nat) (p l:List Rat),cG j p=some l→l.length=j
 | 0,_,l,h=>by cases h;rfl
 | j+1,p,l,h=>by
  rw[cG] at h
  split at h
  ·cases hq:cG j (d9 p (j+1) (p.getD (j+1) 0)) with
   | none=>rw[hq] at h;cases h
   | some l' =>
    rw[hq] at h
    cases h
    rw[zw,kK j _ _ hq]
    rfl
  ·cases h
end Go.Proofs.YtdlioncecgnloaaGreatDoor
