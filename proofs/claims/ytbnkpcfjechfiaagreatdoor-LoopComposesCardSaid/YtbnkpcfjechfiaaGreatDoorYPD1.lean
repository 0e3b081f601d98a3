/- Lemmas of this claim. -/
import Derived.Laws.IdiomCopy
import Derived.Test.YtbnkpcfjechfiaaGreatDoorYRng2
import Derived.Test.YtbnkpcfjechfiaaGreatDoorYPM2
import Derived.Test.YtbnkpcfjechfiaaGreatDoorYPL3
set_option linter.all false
set_option maxRecDepth 100000
set_option maxHeartbeats 8000000
namespace Go.Proofs.YtbnkpcfjechfiaaGreatDoor
open Go.RowKit Dg
theorem CQ.norm_ne {c:CQ} (h:c≠⟨0,0⟩):c.norm≠0:=fun e=>h (lP e)
theorem CQ.div_mul {z c:CQ} (h:c≠⟨0,0⟩):(z.div c).mul c=z:=by
 have hn:=CQ.norm_ne h;obtain⟨a,b⟩:=z;obtain⟨x,y⟩:=c;simp only[CQ.div,CQ.mul,CQ.norm,CQ.mk.injEq] at hn ⊢;constructor<;>grind
theorem CQ.sub_self (z:CQ):z.sub z=⟨0,0⟩:=by
 obtain⟨a,b⟩:=z;simp only[CQ.sub,CQ.mk.injEq];constructor<;>grind
theorem CQ.mul_inv {z:CQ} (h:z≠⟨0,0⟩):z.mul ((CQ.real 1).div z)=CQ.real 1:=by
 have hn:=CQ.norm_ne h;obtain⟨x,y⟩:=z;simp only[CQ.div,CQ.mul,CQ.norm,CQ.real,CQ.mk.injEq] at hn ⊢;constructor<;>grind
theorem CQ.div_one (z:CQ):z.div (CQ.real 1)=z:=by
 obtain⟨x,y⟩:=z;simp only[CQ.div,CQ.norm,CQ.real];congr 1<;>grind
theorem CQ.mul_one (z:CQ):z.mul (CQ.real 1)=z:=by
 obtain⟨x,y⟩:=z;simp only[CQ.mul,CQ.real];congr 1<;>grind
theorem CQ.one_ne:CQ.real 1≠⟨0,0⟩:=by decide
def kC (zs:List CQ) (c:CQ):List CQ:=zs.map fun z=>z.div c
theorem jB (zs:List CQ) (c:CQ):(kC zs c).length=zs.length:=by simp[kC]
theorem Bw (zs:List CQ):kC zs (CQ.real 1)=zs:=by
 unfold kC;rw[show (fun z:CQ=>z.div (CQ.real 1))=id from funext fun z=>z.div_one,List.map_id]
theorem y5 (zs:List CQ) (c:CQ) {i:Nat} (h:i<zs.length):(kC zs c).drop i=zs[i].div c :: (kC zs c).drop (i+1):=by
 rw[GL (by rw[jB];exact h)];simp[kC]
theorem lN {c:CQ} (h:c≠⟨0,0⟩):db [c]=[c]:=by
 have:=iN [] c
 rwa [if_neg h] at this
theorem yE {a c:CQ} (h:c≠⟨0,0⟩):db [a,c]=[a,c]:=by
 have:=iN [a] c
 rwa [if_neg h] at this
theorem mp:∀ n:Nat,db (List.replicate n ⟨0,0⟩)=[]
 | 0=>rfl
 | n+1=>by
  rw[Hi,iN,if_pos rfl];exact mp n
theorem Al (c:CQ):x_ [c]=[]:=rfl
theorem Am {a c:CQ} (h:c≠⟨0,0⟩):x_ [a,c]=[c]:=by
 have e:j9 [a,c]=[c]:=by
  show [c.mul (CQ.real (((0+1:Nat):Int):Rat))]=[c]
  rw[show CQ.real (((0+1:Nat):Int):Rat)=CQ.real 1 from rfl,CQ.mul_one]
 unfold x_;rw[e];exact lN h
theorem tQ {c:CQ} (h:c≠⟨0,0⟩):rO [c] ((CQ.real 1).div c)=[CQ.real 1]:=by
 show db [c.mul ((CQ.real 1).div c)]=_
 rw[CQ.mul_inv h];exact lN CQ.one_ne
inductive eY:List CQ→Prop
 | one (c:CQ) (h:c≠⟨0,0⟩):eY [c]
 | two (a c:CQ) (h:c≠⟨0,0⟩):eY [a,c]
theorem eY.lean {zs:List CQ} (h:eY zs):db zs=zs:=by
 cases h with
 | one c h=>exact lN h
 | two a c h=>exact yE h
def bX (zs:List CQ):List (List CQ):=match zs with
 | []=>[]
 | [c]=>[[c]]
 | [a,c]=>[[a,c],[c]]
 | _=>[]
def iY (s:Int) (p:Int×Int):Int×Int:=if s=0 then p else (if s=-p.2 then p.1+1 else p.1,s)
def kp (x:Rat) (zs:List CQ):Int:=kQ (atL zs (CQ.real x)).re 0
def sw (x:Rat) (l:List (List CQ)):Int×Int:=l.foldl (fun p q=>iY (kp x q) p) (0,0)
def dt (zs:List CQ) (x:Rat):Int:=(sw x (bX zs)).1
theorem xT (x:Rat) {l:List (List CQ)}{i:Nat} (h:i<l.length):sw x (l.take (i+1))=iY (kp x l[i]) (sw x (l.take i)):=by
 unfold sw;rw[←FD h,List.foldl_append];rfl
open Go.RowKit Dg Dc
def Ov (D M:Nat) (q:Rat):Prop:=∃ n:Int,q=(n:Rat) / (D:Rat)∧n.natAbs≤M
theorem jM {D:Nat} (h:0<D):(D:Rat)≠0:=by
 intro e;have e2:((D:Int):Rat)=((0:Int):Rat):=e;have:=Rat.intCast_inj.1 e2;omega
theorem Ov.mono {D M M':Nat}{q:Rat} (h:Ov D M q) (hM:M≤M'):Ov D M' q:=by
 obtain⟨n,e,hn⟩:=h;exact⟨n,e,FB hn hM⟩
theorem Ov.wide {D M:Nat}{q:Rat} (h:Ov D M q) (E:Nat) (hD:0<D) (hE:0<E):Ov (D*E) (M*E) q:=by
 obtain⟨n,e,hn⟩:=h;have h1:=jM hD;have h2:=jM hE;refine⟨n*E,?_,?_⟩
 ·rw[e,Rat.intCast_mul,Rat.natCast_mul]
  show (n:Rat) / (D:Rat)=(n:Rat)*((E:Nat):Rat) / ((D:Rat)*(E:Rat))
  grind
 ·rw[GU];exact Fy _ hn
theorem Ov.add {D M N:Nat}{a b:Rat} (h1:Ov D M a) (h2:Ov D N b):Ov D (M+N) (a+b):=by
 obtain⟨n,e,hn⟩:=h1;obtain⟨m,f,hm⟩:=h2;refine⟨n+m,?_,by omega⟩;rw[e,f,Rat.intCast_add];grind
theorem Ov.mul {D E M N:Nat}{a b:Rat} (h1:Ov D M a) (h2:Ov E N b) (hD:0<D) (hE:0<E):Ov (D*E) (M*N) (a*b):=by
 obtain⟨n,e,hn⟩:=h1;obtain⟨m,f,hm⟩:=h2;have k1:=jM hD;have k2:=jM hE;refine⟨n*m,?_,by rw[GU];exact Gs hn hm⟩;rw[e,f,Rat.intCast_mul,Rat.natCast_mul];grind
theorem Ov.zero (D:Nat):Ov D 0 0:=⟨0,by rw[show ((0:Int):Rat)=0 from rfl];grind,by simp⟩
theorem wX (q:Rat):(q.num:Rat) / (q.den:Rat)=q:=by rw[←Rat.mkRat_eq_div,Rat.mkRat_self]
theorem Ov.bound {D M:Nat}{q:Rat} (h:Ov D M q) (hD:0<D):q.num.natAbs≤M∧q.den≤D:=by
 obtain⟨n,e,hn⟩:=h;have k1:=jM hD;have k2:=jM q.den_pos;have e2:(q.num:Rat) / (q.den:Rat)=q:=wX q
 have e3:(q.num:Rat)*(D:Rat)=(n:Rat)*(q.den:Rat):=by
  rw[e] at e2;grind
 have e4:q.num*(D:Int)=n*(q.den:Int):=by
  apply Rat.intCast_inj.1
  rw[Rat.intCast_mul,Rat.intCast_mul];exact e3
 have e5:q.num.natAbs*D=n.natAbs*q.den:=by
  have:=congrArg Int.natAbs e4;rw[GU,GU] at this;exact this
 have hc:Nat.Coprime q.num.natAbs q.den:=q.reduced;have d1:q.den ∣ D:=(Nat.Coprime.symm hc).dvd_of_dvd_mul_left ⟨n.natAbs,by rw[e5,FL]⟩;have d2:q.num.natAbs ∣ n.natAbs:=hc.dvd_of_dvd_mul_right ⟨D,by rw[←e5]⟩;refine⟨?_,H7 hD d1⟩;rcases GG n.natAbs with h0 | h0
 ·rw[h0,GF] at e5;rcases Nat.mul_eq_zero.1 e5 with h | h
  ·omega
  ·omega
 ·exact FB (H7 h0 d2) hn
theorem Ov.of (q:Rat):Ov q.den q.num.natAbs q:=⟨q.num,(wX q).symm,Fq _⟩
theorem Ov.ok {D M:Nat}{q:Rat} (h:Ov D M q) (hD:0<D) (h1:D<10 ^ 2000) (h2:M<10 ^ 2000):okQ q:=by
 obtain⟨b1,b2⟩:=h.bound hD;exact Bc (FO b1 h2) (FO b2 h1)
structure OvC (D M:Nat) (z:CQ):Prop where
 re:Ov D M z.re
 im:Ov D M z.im
 pos:0<D
theorem OvC.ok {D M:Nat}{z:CQ} (h:OvC D M z) (h1:D<10 ^ 2000) (h2:M<10 ^ 2000):eG z=false:=by
 have k1:=(lh _).1 (h.re.ok h.pos h1 h2);have k2:=(lh _).1 (h.im.ok h.pos h1 h2);unfold eG;rw[k1,k2];rfl
theorem qu {t:List UInt8}:∀ {m:Nat},(∀ k c,1≤k→k≤m→t[k]?=some c→c≠43∧c≠45)→dA t m=none
 | 0,_=>rfl
 | m+1,h=>by
  unfold dA;rw[if_neg,qu (fun k c h1 h2 h3=>h k c h1 (by omega) h3)];rintro (e | e)
  ·exact (h _ _ (by omega) (Fq _) e).1 rfl
  ·exact (h _ _ (by omega) (Fq _) e).2 rfl
theorem tW {t:List UInt8}{k0:Nat} (h0:1≤k0) (hs:t[k0]?=some 43∨t[k0]?=some 45):∀ {m:Nat},k0≤m→(∀ k c,k0<k→k≤m→t[k]?=some c→c≠43∧c≠45)→dA t m=some k0
 | 0,hm,_=>by omega
 | m+1,hm,h=>by
  unfold dA;by_cases e:m+1=k0
  ·subst e;rw[if_pos hs]
  ·rw[if_neg,tW h0 hs (by omega) (fun k c h1 h2 h3=>h k c h1 (by omega) h3)];rintro (e2 | e2)
   ·exact (h _ _ (by omega) (Fq _) e2).1 rfl
   ·exact (h _ _ (by omega) (Fq _) e2).2 rfl
theorem xO (r:Rt):∀ c∈fw r,c≠43∧c≠45:=by
 intro c hc;unfold fw at hc;rcases Gt.1 hc with h | h
 ·have:=jl (FX.1 (ef r.n) _ h);exact⟨this.1,this.2.1⟩
 ·split at h
  ·rcases Gy.1 h with rfl | h
   ·decide
   ·have:=jl (FX.1 (ef r.d) _ h);exact⟨this.1,this.2.1⟩
  ·cases h
def bT (r:Rt):List UInt8:=if fw r=[49] then [] else fw r
theorem kM (r:Rt):∀ c∈bT r,c≠43∧c≠45:=by
 intro c hc;unfold bT at hc
 split at hc
 ·cases hc
 ·exact xO r c hc
theorem nk (r:Rt):bH r=(if r.minus then [45] else [])++bT r:=by
 obtain⟨c,t,e1,e2⟩:=kJ r;have hc:=jl e2;unfold bH bT;rw[gi]
 cases r.minus
 ·simp only[FR,if_false,F6];by_cases h:fw r=[49]
  ·rw[if_pos (Or.inl h),if_pos h,h];rfl
  ·rw[if_neg,if_neg h];rintro (e | e)
   ·exact h e
   ·rw[e1] at e;exact hc.2.1 (List.cons.inj e).1
 ·simp only[if_true,Gc,F6];by_cases h:fw r=[49]
  ·rw[if_pos (Or.inr (by rw[h])),if_pos h,h];rfl
  ·rw[if_neg,if_neg h];rintro (e | e)
   ·exact absurd (List.cons.inj e).1 (by decide)
   ·exact h (List.cons.inj e).2
theorem EL (r:Rt):(if bH r=[]∨bH r=[45] then bH r++[49] else bH r)=aL r:=by
 obtain⟨c,t,e1,e2⟩:=kJ r;have hc:=jl e2;rw[nk,gi];unfold bT;by_cases h:fw r=[49]
 ·rw[if_pos h,h]
  cases r.minus
  ·rfl
  ·rfl
 ·rw[if_neg h];rw[if_neg];rintro (e | e)
  ·cases hm:r.minus
   ·rw[hm,e1] at e;cases e
   ·rw[hm] at e;cases e
  ·cases hm:r.minus
   ·rw[hm] at e;simp only[FR,if_false,F6] at e;rw[e1] at e;exact hc.2.1 (List.cons.inj e).1
   ·rw[hm] at e;simp only[if_true,Gc,F6] at e;have:=(List.cons.inj e).2;rw[e1] at this;cases this
theorem qZ {l:List UInt8}{k:Nat}{c:UInt8} (h:l[k]?=some c):c∈l:=G5 h
theorem tI (X l:List UInt8) (d:UInt8) (hX:1≤X.length) (hd:d=43∨d=45) (hl:∀ c∈l,c≠43∧c≠45):lR (X++d :: l)=(X,Lib.trimPrefix (d :: l) [43]):=by
 have hs:dA (X++d :: l) ((X++d :: l).length-1)=some X.length:=by
  refine tW hX ?_ (by simp) (fun k c h1 _ h3=>?_)
  ·rw[Hh (Fq _),Hd];rcases hd with rfl | rfl
   ·exact Or.inl rfl
   ·exact Or.inr rfl
  ·rw[Hh (by omega),show k-X.length=(k-X.length-1)+1 from by omega,Hm] at h3;exact hl c (qZ h3)
 unfold lR;rw[hs];simp only;rw[Is rfl,List.drop_left' rfl]
theorem Bn (l:List UInt8) (hl:∀ k c,1≤k→l[k]?=some c→c≠43∧c≠45):lR l=([48],l):=by
 unfold lR;rw[qu (fun k c h1 _ h3=>hl k c h1 h3)]
theorem DC (y:Rt):∀ k c,1≤k→(bH y)[k]?=some c→c≠43∧c≠45:=by
 intro k c h1 h3;rw[nk] at h3
 cases hm:y.minus
 ·rw[hm] at h3;exact kM y c (qZ h3)
 ·rw[hm] at h3;simp only[if_true,Gc,F6] at h3;rw[show k=(k-1)+1 from by omega,Hm] at h3;exact kM y c (qZ h3)
theorem Fe (x y:Rt) (b:Bool):lR ((if b then [] else aL x++(if y.minus then [] else [43]))++bH y)=(if b then [48] else aL x,bH y):=by
 cases b
 ·simp only[FR,if_false];have hX:=tK x
  cases hm:y.minus
  ·simp only[FR,if_false];have hy:bH y=bT y:=by rw[nk,hm];rfl
   rw[F7,Hw,tI _ _ 43 hX (Or.inl rfl) (by rw[hy];exact kM y)];unfold Lib.trimPrefix;rw[iQ,decide_eq_true rfl];rfl
  ·simp only[if_true,Gz];have hy:bH y=45 :: bT y:=by rw[nk,hm];rfl
   rw[hy,tI _ _ 45 hX (Or.inr rfl) (kM y)];unfold Lib.trimPrefix;rw[iQ,decide_eq_false (by decide)];rfl
 ·simp only[if_true,F6];exact Bn _ (DC y)
theorem tY (l:List UInt8):Lib.hasSuffix (l++[105]) [105]=true∧Lib.trimSuffix (l++[105]) [105]=l:=by
 have h:Lib.hasSuffix (l++[105]) [105]=true:=by
  unfold Lib.hasSuffix;rw[IF];exact⟨l,rfl⟩
 refine⟨h,?_⟩;unfold Lib.trimSuffix;rw[h];simp
theorem sT {z:CQ} (h:eG z=false):fR (txt z)=some z:=by
 by_cases hi:z.im=0
 ·have e:z=CQ.real z.re:=by cases z;simp only at hi;subst hi;rfl
  rw[e] at h ⊢;exact pR h
 ·have hb:=h;unfold eG at hb;simp only[G4] at hb;have hyn:(ct z).y.n≠0:=fun e=>hi ((bA _).1 e);obtain⟨b,hbx⟩:∃ b:Bool,b=decide ((ct z).x.n=0):=⟨_,rfl⟩
  have hv:bQ (ct z)=((if b then [] else aL (ct z).x++(if (ct z).y.minus then [] else [43]))++bH (ct z).y)++[105]:=by
   unfold bQ;rw[if_neg hyn,hbx];simp only[decide_eq_true_eq]
  have hg:gx (bQ (ct z))=some (ct z):=by
   have hl1:=oQ hb.1;have hl2:=oQ hb.2
   have hl3:(bH (ct z).y).length≤4002:=by
    unfold bH
    split
    ·rw[FM];have:(aL (ct z).y).length≤4002:=hl2;omega
    ·exact hl2
   have hlen:(bQ (ct z)).length≤8008:=by
    rw[hv];have:(aL (ct z).x).length≤4002:=hl1;simp only[FA,FK,Gj]
    split<;>(try split)<;>simp<;>omega
   have hp:fH (bQ (ct z))=(if b then [48] else aL (ct z).x,aL (ct z).y):=by
    unfold fH;rw[hv,(tY _).1,(tY _).2,Fe];simp only[if_true];rw[EL]
   have hx:cS (if b then [48] else aL (ct z).x)=some (ct z).x:=by
    cases b
    ·exact jx (kN z.re)
    ·have:(ct z).x.n=0:=by simpa using hbx
     have h0:z.re=0:=(bA _).1 this
     show cS [48]=some (rt z.re)
     rw[h0,dN];exact mu
   unfold gx;rw[if_neg (by omega),hp];simp only;rw[hx,show cS (aL (ct z).y)=some (ct z).y from jx (kN z.im)];simp only;rw[if_pos ⟨trivial,hb.1,hb.2⟩]
  unfold fR txt;simp only[Iy];rw[hg];simp only[Ix]
  show some (⟨toQ (rt z.re),toQ (rt z.im)⟩:CQ)=some z
  rw[vO,vO]
theorem Ch:txt ⟨0,0⟩=⟨#[48]⟩:=by decide +kernel
theorem Dz {a b:CQ} (ha:eG a=false) (hb:eG b=false) (h:txt a=txt b):a=b:=by
 have e:=sT ha;rw[h,sT hb] at e;exact (Option.some.inj e).symm
def evQ (w:CQ) (qs:List Rat):CQ:=qs.foldr (fun q acc=>(acc.mul w).add (CQ.real q)) ⟨0,0⟩
theorem zA (w:CQ):((⟨0,0⟩:CQ).mul w).add ⟨0,0⟩=⟨0,0⟩:=by
 unfold CQ.mul CQ.add;congr 1<;>grind
theorem uG {s:ByteArray} (h:bU s.data.toList=true):∃ q,s=tq q∧okQ q∧q.num.natAbs≤4096∧q.den≤4096:=by
 obtain⟨q,rfl,hq⟩:=wk h;refine⟨q,rfl,hq,?_⟩;unfold bU at h;simp only[FP] at h
 have e:(tq q).data.toList=aL (rt q):=by
  show bQ (ct (CQ.real q))=_
  rw[dG (z:=ct (CQ.real q)) (by show (rt 0).n=0;rw[dN])];rfl
 have h2:=h.2;rw[e] at h2;unfold gE at h2;rw[(lZ (rt q)).1,qw (rt q) (dF q)] at h2;unfold d6 at h2;simp only[FP,decide_eq_true_eq] at h2;exact h2
theorem nG:∀ l:List ByteArray,(∀ s∈l,bU s.data.toList=true)→∃ qs:List Rat,∃ D,l=qs.map tq∧0<D∧D≤4096 ^ l.length∧(∀ q∈qs,Ov D (4096*4096 ^ l.length) q∧okQ q)
 | [],_=>⟨[],1,rfl,by decide,by simp,fun q h=>by cases h⟩
 | s :: l,h=>by
  obtain⟨q,rfl,hq,hn,hd⟩:=uG (h s (FW ..));obtain⟨qs,D,rfl,hD,hDl,hall⟩:=nG l (fun t ht=>h t (FZ _ ht));have hdp:=q.den_pos;have hp:(4096:Nat) ^ (qs.map tq).length*4096=4096 ^ (tq q :: qs.map tq).length:=by rw[FK,FH]
  refine⟨q :: qs,D*q.den,rfl,GJ hD hdp,?_,?_⟩
  ·rw[←hp];exact Gs hDl hd
  ·intro r hr;rcases Gy.1 hr with rfl | hr
   ·refine⟨?_,hq⟩;have h1:=(Ov.of r).wide D hdp hD;rw[FL r.den D] at h1;refine h1.mono ?_;have:=Gs hn hDl;refine FB this ?_;rw[←hp];exact FU _ (Ig _ (by decide))
   ·obtain⟨h1,h2⟩:=hall r hr;refine⟨(h1.wide q.den hD hdp).mono ?_,h2⟩;rw[←hp,←IG];exact FU _ hd
structure gM (w:World) (g cap:Nat) (zs:List CQ):Prop where
 lt:g<w.heap.size
 fr:∀ j,w.frozen? ⟨g,j,none⟩=false
 nu:∀ j z,w.cell? ⟨g,j,none⟩≠some (.int .u64 z)
 row:∃ es:List Value,es.length=zs.length∧(∀ i (h:i<es.length) j u,(cellsOf es[i])[j]?=some u→w.cell? ⟨g,i*6+j,none⟩=some u)∧∀ i (h:i<es.length) (h':i<zs.length),IsK w es[i] zs[i]
 cap:zs.length≤cap∧cap≤maxLen
theorem gM.isP {w:World}{g cap:Nat}{zs:List CQ} (h:gM w g cap zs):IsP w (.slice (some ⟨g,0,none⟩) zs.length cap) zs:=by
 obtain⟨es,h1,h2,h3⟩:=h.row;refine⟨es,h1,⟨_,cap,by rw[h1],by rw[h1];exact h.cap.1,h.cap.2,fun _=>⟨g,0,rfl,h.lt,fun i hi j u hu=>?_⟩⟩,h3⟩;rw[Gq];exact h2 i hi j u hu
theorem gM.below {w w':World}{g cap:Nat}{zs:List CQ} (h:gM w g cap zs) (hb:Below w.heap.size w w'):gM w' g cap zs:=by
 obtain⟨es,h1,h2,h3⟩:=h.row;have hblk:=hb.block g h.lt;have hc:∀ j,w'.cell? ⟨g,j,none⟩=w.cell? ⟨g,j,none⟩:=fun j=>World.cell?_of_block (w:=w) (w':=w') (a:=⟨g,j,none⟩) hblk;refine⟨Ft h.lt hb.size,fun j=>?_,fun j z=>by rw[hc];exact h.nu j z,⟨es,h1,fun i hi j u hu=>by rw[hc];exact h2 i hi j u hu,fun i hi hi'=>(h3 i hi hi').below hb⟩,h.cap⟩;have:=h.fr j;unfold World.frozen? at this ⊢;simp only[hblk];exact this
theorem gM.of_own {w:World}{base:Nat}{v:Value}{zs:List CQ} (h:dH w base v zs) (hz:0<zs.length):∃ g cap,v=.slice (some ⟨g,0,none⟩) zs.length cap∧base≤g∧gM w g cap zs:=by
 obtain⟨es,h1,h2,h3⟩:=h.p;have hrow:=fd (kK h1 h3) h2;rcases h2.2 with ⟨rfl,h0⟩ | ⟨g,cap,cur,rfl,hg,hh,hn,hm,hs,ht⟩
 ·omega
 ·obtain⟨p,c,e,e1,e2,e3⟩:=hrow;obtain⟨b,o,e4,hlt,hc⟩:=e3 (by omega);subst e4;simp only[Value.slice.injEq,Option.some.injEq,Addr.mk.injEq,and_true] at e;obtain⟨⟨rfl,rfl⟩,-,rfl⟩:=e;refine⟨g,cap,by rw[h1],hg,hlt,fun j=>by rw[World.frozen?,hh];simp,fun j z=>h.nu g rfl j z,⟨es,h1,fun i hi j u hu=>?_,h3⟩,by omega,hm⟩;have:=hc i hi j u hu
  rwa [Gq] at this
theorem gM.set {w:World}{g cap k:Nat}{zs:List CQ}{a b c d e f:Value}{z:CQ} (h:gM w g cap zs) (hk:k<zs.length) (hK:IsK w (.agg #[a,b,c,d,e,f]) z) :
  gM (w.setCells g (k*6) [a,b,c,d,e,f]) g cap (zs.set k z)∧(∀ u l,IsU w u l→IsU (w.setCells g (k*6) [a,b,c,d,e,f]) u l)∧Below g w (w.setCells g (k*6) [a,b,c,d,e,f])∧∀ i,i≠g→(w.setCells g (k*6) [a,b,c,d,e,f]).heap[i]?=w.heap[i]?:=by
 obtain⟨es,h1,h2,h3⟩:=h.row;have h6:=kK h1 h3;obtain⟨xm,xp,xl,xc,xq,xk,xd,ym,yp,yl,yc,yq,yk,yd,he⟩:=hK.forms
 have hin:∀ j,j<6→(w.cell? ⟨g,k*6+j,none⟩).isSome=true:=fun j hj=>by
  have hlt:j<(cellsOf (es[k]'(by omega))).length:=by rw[h6 _ (FG _)];exact hj
  rw[h2 k (by omega) j _ (FC hlt)];rfl
 have hnot:∀ u∈[a,b,c,d,e,f],∀ z,u≠.int .u64 z:=by
  simp only[Value.agg.injEq,Array.mk.injEq,List.cons.injEq,and_true] at he;obtain⟨rfl,rfl,rfl,rfl,rfl,rfl⟩:=he;intro u hu z e;subst e;simp at hu
 have hcin:=World.cell?_setCells_in g [a,b,c,d,e,f] (k*6) w hin;have hcout:=fun x h=>World.cell?_setCells_out g [a,b,c,d,e,f] (k*6) w x h
 have hb:Below g w (w.setCells g (k*6) [a,b,c,d,e,f]) :=
  ((((((Below.refl g w).setCell (p:=⟨g,k*6,none⟩) (Fq _) a).setCell (p:=⟨g,k*6+1,none⟩) (Fq _) b).setCell (p:=⟨g,k*6+1+1,none⟩) (Fq _) c).setCell (p:=⟨g,k*6+1+1+1,none⟩) (Fq _) d).setCell (p:=⟨g,k*6+1+1+1+1,none⟩) (Fq _) e).setCell (p:=⟨g,k*6+1+1+1+1+1,none⟩) (Fq _) f
 have hU:∀ u l,IsU w u l→IsU (w.setCells g (k*6) [a,b,c,d,e,f]) u l:=fun u l hu=>by
  obtain⟨p,cp,e1,e2,e3,e4⟩:=hu;refine⟨p,cp,e1,e2,e3,fun hl=>?_⟩;obtain⟨b',o,e5,hlt,hc⟩:=e4 hl;refine⟨b',o,e5,Ft hlt hb.size,fun j hj=>?_⟩;rw[hcout ⟨b',o+j,none⟩ (fun (hbb:b'=g) _=>?_)]
  ·exact hc j hj
  ·subst hbb;exact absurd (hc j hj) (h.nu _ _)
 refine⟨⟨Ft h.lt hb.size,fun j=>?_,fun j z' hc=>?_,⟨es.set k (.agg #[a,b,c,d,e,f]),by simp[h1],fun i hi j u hu=>?_,fun i hi hi'=>?_⟩,by simpa using h.cap⟩,hU,hb,fun i hi=>?_⟩
 ·rw[World.frozen?_setCells];exact h.fr j
 ·by_cases hj:k*6≤j∧j<k*6+6
  ·obtain⟨r,rfl⟩:∃ r,j=k*6+r:=⟨j-k*6,by omega⟩;have hr:r < [a,b,c,d,e,f].length:=by simp;omega
   rw[hcin r hr] at hc;exact hnot _ (FG hr) z' (Option.some.inj hc)
  ·rw[hcout ⟨g,j,none⟩ (fun _ _=>by show j<k*6∨k*6+[a,b,c,d,e,f].length≤j;simp;omega)] at hc;exact h.nu j z' hc
 ·have hi0:i<es.length:=by simpa using hi
  by_cases hik:k=i
  ·subst hik;rw[Hg] at hu;have hr:j < [a,b,c,d,e,f].length:=(Gi.1 hu).1;rw[hcin j hr];rw[←hu];show some _=[a,b,c,d,e,f][j]?;rw[FC hr]
  ·rw[Hl hik] at hu
   have hj:j<6:=by
    have:=(Gi.1 hu).1
    rwa [h6 _ (FG hi0)] at this
   rw[hcout ⟨g,i*6+j,none⟩ (fun _ _=>by show i*6+j<k*6∨k*6+[a,b,c,d,e,f].length≤i*6+j;simp;omega)];exact h2 i hi0 j u hu
 ·by_cases hik:k=i
  ·subst hik;rw[Hg,Hg];exact hK.keepU hU
  ·rw[Hl hik,Hl hik];exact (h3 i (by simpa using hi) (by simpa using hi')).keepU hU
 ·show ((((((w.setCell ⟨g,k*6,none⟩ a).setCell ⟨g,k*6+1,none⟩ b).setCell ⟨g,k*6+1+1,none⟩ c).setCell ⟨g,k*6+1+1+1,none⟩ d).setCell ⟨g,k*6+1+1+1+1,none⟩ e).setCell ⟨g,k*6+1+1+1+1+1,none⟩ f).heap[i]?=_
  rw[Below.heap_setCell _ _ _ _ hi,Below.heap_setCell _ _ _ _ hi,Below.heap_setCell _ _ _ _ hi,Below.heap_setCell _ _ _ _ hi,Below.heap_setCell _ _ _ _ hi,Below.heap_setCell _ _ _ _ hi]
theorem dH.apart {w w':World}{base g:Nat}{v:Value}{zs:List CQ} (h:dH w base v zs) (hg:g<base) (hk:∀ i,i≠g→w'.heap[i]?=w.heap[i]?) (hU:∀ u l,IsU w u l→IsU w' u l):dH w' base v zs:=by
 obtain⟨es,h1,h2,h3⟩:=h.p;refine⟨⟨es,h1,⟨h2.1,?_⟩,fun i hi hi'=>(h3 i hi hi').keepU hU⟩,fun b hb j z hc=>?_⟩
 ·rcases h2.2 with h | ⟨b,cap,cur,rfl,hb,hh,r⟩
  ·exact Or.inl h
  ·exact Or.inr ⟨b,cap,cur,rfl,hb,by rw[hk b (by omega)];exact hh,r⟩
 ·have hlt:=(h2.lt b hb).1;rw[World.cell?_of_block (w:=w) (w':=w') (a:=⟨b,j,none⟩) (hk b (by omega))] at hc;exact h.nu b hb j z hc
theorem dH.lower {w:World}{base base':Nat}{v:Value}{zs:List CQ} (h:dH w base v zs) (hb:base'≤base):dH w base' v zs:=by
 obtain⟨es,h1,h2,h3⟩:=h.p;refine⟨⟨es,h1,⟨h2.1,?_⟩,h3⟩,h.nu⟩;rcases h2.2 with h | ⟨b,cap,cur,rfl,hg,r⟩
 ·exact Or.inl h
 ·exact Or.inr ⟨b,cap,cur,rfl,by omega,r⟩
theorem bS.blk {w w':World}{k:Nat}{a b c d e f:Value} (h:bS w k a b c d e f) (hs:w.heap.size≤w'.heap.size) (hb:w'.heap[k]?=w.heap[k]?):bS w' k a b c d e f:=by
 have hc:∀ j,w'.cell? ⟨k,j,none⟩=w.cell? ⟨k,j,none⟩:=fun j=>World.cell?_of_block (w:=w) (w':=w') (a:=⟨k,j,none⟩) hb;exact⟨Ft h.lt hs,(hc 0).trans h.c0,(hc 1).trans h.c1,(hc 2).trans h.c2,(hc 3).trans h.c3,(hc 4).trans h.c4,(hc 5).trans h.c5⟩
theorem cQ.blk {w w':World}{k:Nat}{a b c d e f:Value} (h:cQ w k a b c d e f) (hb:w'.heap[k]?=w.heap[k]?):cQ w' k a b c d e f:=⟨hb.trans h.hp,h.na,h.nb,h.nc,h.nd,h.ne,h.nf⟩
theorem Bg {w:World}{base:Nat}{a b c d e f:Value}{z:CQ} (hK:IsK w (.agg #[a,b,c,d,e,f]) z) (hb:base≤w.heap.size):dH (w.alloc (.cells #[a,b,c,d,e,f] 153)) base (.slice (some ⟨w.heap.size,0,none⟩) 1 1) [z]:=by
 obtain⟨xm,xp,xl,xc,xq,xk,xd,ym,yp,yl,yc,yq,yk,yd,he⟩:=hK.forms;simp only[Value.agg.injEq,Array.mk.injEq,List.cons.injEq,and_true] at he;obtain⟨rfl,rfl,rfl,rfl,rfl,rfl⟩:=he;refine⟨⟨[.agg #[.bool xm,.slice xp xl xc,.slice xq xk xd,.bool ym,.slice yp yl yc,.slice yq yk yd]],rfl,⟨rfl,Or.inr ⟨w.heap.size,1,_,rfl,hb,heap_alloc_new w _,Fq _,by simp[maxLen],rfl,rfl⟩⟩,fun i hi hi'=>?_⟩,fun g hg j u hc=>?_⟩
 ·simp at hi;subst hi;exact hK.below (aq _ _)
 ·simp only[Value.ownBlock,Option.some.injEq] at hg;subst hg;rw[World.cell?,heap_alloc_new] at hc;simp only[Gn,FR,if_false] at hc;have:=Gg hc;simp at this
end Go.Proofs.YtbnkpcfjechfiaaGreatDoor
