/- L -/
import Derived.Test.YtgakllaobooabaaGreatDoorXLE2
import Derived.Test.YtgakllaobooabaaGreatDoorXPS5
set_option linter.all false
set_option maxRecDepth 100000
set_option maxHeartbeats 8000000
namespace Go.Proofs.YtgakllaobooabaaGreatDoor
open Go.RowKit Dg Dc
theorem ii {x d:Rat} (hd:0<d) (h:0<=x*d):0<=x:=by
 rcases (Rat.le_total:0<=x\/x<=0) with h1 | h1
 ·exact h1
 ·have p:=Rat.mul_nonneg (show 0<=-x by grind) (Rat.le_of_lt hd);have:x*d=0:=by grind
  rcases Rat.mul_eq_zero.1 this with h | h<;>grind
theorem Bd.div {V q c:Rat} (hc:0<c) (h:Bd (V*c) q):Bd V (q / c):=by
 have e:q / c*c=q:=by grind
 constructor
 ·have:0<=q / c+V:=ii hc (by have:=h.1;grind);grind
 ·have:0<=V-q / c:=ii hc (by have:=h.2;grind);grind
theorem Fr.of_ov {D M:Nat}{q:Rat} (h:Ov D M q):Fr D q:=by
 obtain⟨n,e,-⟩:=h;exact⟨n,e⟩
theorem Fr.to {D E:Nat}{q:Rat} (h:Fr D q) (e:D=E):Fr E q:=e ▸ h
theorem Ov.to {D E M:Nat}{q:Rat} (h:Ov D M q) (e:D=E):Ov E M q:=e ▸ h
theorem Fr.nat {M:Nat}{q:Rat} (h:Fr M q) (hM:0<M) (h0:0<q) (h1:q<=1):∃ A:Nat,0<A/\A<=M/\q=(A:Rat) / (M:Rat):=by
 obtain⟨n,e⟩:=h;have hp:=i_ hM;have k:=aI hM;have en:(n:Rat)=q*(M:Rat):=by rw[e];grind
 have n0:(0:Rat)<(n:Rat):=by rw[en];exact Rat.mul_pos h0 hp
 have n1:0<n:=Rat.intCast_lt_intCast.1 n0
 have m1:(n:Rat)<=((M:Int):Rat):=by
  rw[en]
  show q*(M:Rat)<=(M:Rat)
  have:=Rat.mul_nonneg (show 0<=1-q by grind) (Rat.le_of_lt hp);grind
 have m2:=Rat.intCast_le_intCast.1 m1;refine⟨n.toNat,by omega,by omega,?_⟩;rw[e]
 have:((n.toNat:Nat):Rat)=(n:Rat):=by
  show (((n.toNat:Nat):Int):Rat)=_
  rw[Int.toNat_of_nonneg (by omega)]
 rw[this]
theorem Fr.ov2 {D V M A:Nat}{q c:Rat} (h:Fr (D*A) q) (hc:c=(A:Rat) / (M:Rat)) (hM:0<M) (hA:0<A) (hb:Bd (V:Rat) (q*c)) (hD:0<D):Ov (D*A) (V*(D*M)) q:=by
 obtain⟨n,e⟩:=h;have k1:=aI hD;have k2:=aI hM;have k3:=aI hA;have hqc:Fr (D*M) (q*c):=⟨n,by rw[e,hc,Rat.natCast_mul,Rat.natCast_mul];grind⟩;obtain⟨n2,e2,hn2⟩:=hqc.ov hb (AN hD hM)
 have en:(n:Rat)=(n2:Rat):=by
  have e3:(n2:Rat)=q*c*((D*M:Nat):Rat):=by
   rw[e2,Rat.natCast_mul];grind
  rw[e3,e,hc,Rat.natCast_mul,Rat.natCast_mul];grind
 have:n=n2:=Rat.intCast_inj.1 en;subst this;exact⟨n,e,hn2⟩
structure EnS (n:Nat) (a b:Nat->Rat) (D M B:Nat):Prop where
 D0:0<D
 M0:0<M
 fa:∀ i,i<=n->Fr M (a i)
 fb:∀ i,i<=n->Fr (D*M) (b i)
 good:cF n a
 one:a 0<=1
 n6:n<=6
 bb:∀ i,i<=n->Bd (B:Rat) (b i)
theorem yI:∀ n,n<=6->iy n<=64:=fun n hn=>by
 match n,hn with
 | 0,_=>exact (by decide +kernel)
 | 1,_=>exact (by decide +kernel)
 | 2,_=>exact (by decide +kernel)
 | 3,_=>exact (by decide +kernel)
 | 4,_=>exact (by decide +kernel)
 | 5,_=>exact (by decide +kernel)
 | 6,_=>exact (by decide +kernel)
theorem gW {n:Nat}{a:Nat->Rat} (g:cF n a) (h6:n<=6) {i:Nat} (hi:i<=n):Bd (64*a 0) (a i):=by
 obtain⟨h1,h2⟩:=kX g i hi;have p:=Rat.mul_nonneg (show 0<=64-iy n by have:=yI n h6;grind) (Rat.le_of_lt g.pos);constructor<;>grind
theorem EnS.step {n:Nat}{a b:Nat->Rat}{D M B:Nat} (h:EnS (n+1) a b D M B) {A:Nat} (hA:0<A) (hc:a 0=(A:Rat) / (M:Rat)):EnS n (dnE (n+1) a a) (dnE (n+1) a b) D (M*A) (65*B):=by
 have g0:=h.good.1;have hD:=h.D0;have hM:=h.M0;refine⟨hD,AN hM hA,fun i hi=>?_,fun i hi=>?_,h.good.2,?_,by have:=h.n6;omega,fun i hi=>?_⟩
 ·have f1:=(Fr.over (D:=1) ((h.fa (n+1) (AA _)).to (BV M).symm) hc (by decide) hM hA).mul (h.fa (n+1-i) (by omega)) (by rw[BV];exact hA) hM;have f2:=(h.fa i (by omega)).wide A hM hA;exact f2.sub (f1.to (by rw[BV,AT]))
 ·have f1:=(Fr.over (h.fb (n+1) (AA _)) hc hD hM hA).mul (h.fa (n+1-i) (by omega)) (AN hD hA) hM;have f2:=(h.fb i (by omega)).wide A (AN hD hM) hA;exact (f2.to (Bn D M A)).sub (f1.to (by rw[Bn,AT A M]))
 ·have e:dnE (n+1) a a 0=a 0-a (n+1)*a (n+1) / a 0:=by unfold dnE;rw[CJ];grind
  have p:=jg.sq_div_pos (x:=a (n+1)) g0;have:=h.one;rw[e];grind
 ·have hb1:=h.bb i (by omega);have hb2:=h.bb (n+1) (AA _);have hs:=Bd.div g0 (gW h.good h.n6 (show n+1-i<=n+1 by omega));have hm:=hb2.mul hs;have e:dnE (n+1) a b i=b i-b (n+1)*(a (n+1-i) / a 0):=by unfold dnE;grind
  rw[e];have:=hb1.sub hm;refine this.mono ?_;rw[Rat.natCast_mul];have:((65:Nat):Rat)=65:=rfl;rw[this];grind
theorem kt {k:Nat}{la l:List ByteArray}{a x:Nat->Rat} (h0:a 0≠0) (hla:∀ i,i<=k->am la i=tq (a i)) (oa:∀ i,i<=k->okQ (a i)) (hl:∀ i,i<=k->am l i=tq (x i)) (ox:∀ i,i<=k->okQ (x i))
  (ok3:okQ (x k / a 0)) (ok4:∀ i,i<k->okQ (x k / a 0*a (k-i))) (ok5:∀ i,i<k->okQ (dnE k a x i)):∀ i,i<k->am (cI la l k) i=tq (dnE k a x i):=by
 intro i hi;have hlen:i<(cI la l k).length:=by rw[h_];exact hi
 rw[<-fc hlen,l_,hl k (AA _),hla 0 (AI _),hZ (ox k (AA _)) (oa 0 (AI _)) h0 ok3,hla (k-i) (Nat.sub_le _ _),el ok3 (oa _ (Nat.sub_le _ _)) (ok4 i hi),hl i (by omega),
  kB (ox i (by omega)) (ok4 i hi) (ok5 i hi)]
 rfl
theorem EnS.a64 {n:Nat}{a b:Nat->Rat}{D M B:Nat} (h:EnS n a b D M B) {i:Nat} (hi:i<=n):Bd ((64:Nat):Rat) (a i):=by
 refine (gW h.good h.n6 hi).mono ?_;have:=h.one;have e:((64:Nat):Rat)=64:=rfl;rw[e];grind
theorem fF {D V k l:Nat}{q:Rat} (h:Fr D q) (hb:Bd (V:Rat) q) (hD:0<D) (h1:D<=2 ^ k) (h2:V<=2 ^ l) (hk:k+l<=6600):okQ q :=
 h.ok hb hD (bQ h1 (by omega)) (bQ (aF (c:=l+k) h2 h1 rfl) (by omega))
theorem lD:64<=2 ^ 6:=by decide
structure SzS (n:Nat) (a b:Nat->Rat) (D M B m t:Nat):Prop where
 s:EnS n a b D M B
 hd:D<=2 ^ 84
 hm:M<=2 ^ m
 hb:B<=2 ^ t
 lim:2*t+169+2*m<=6600
section
variable {n : Nat} {a b : Nat -> Rat} {D M B m t : Nat}
theorem SzS.dm (h:SzS n a b D M B m t):D*M<=2 ^ (84+m):=aF h.hd h.hm rfl
theorem SzS.oa (h:SzS n a b D M B m t) {i:Nat} (hi:i<=n):okQ (a i):=fF (h.s.fa i hi) (h.s.a64 hi) h.s.M0 h.hm lD (by have:=h.lim;omega)
theorem SzS.ob (h:SzS n a b D M B m t) {i:Nat} (hi:i<=n):okQ (b i):=fF (h.s.fb i hi) (h.s.bb i hi) (AN h.s.D0 h.s.M0) h.dm h.hb (by have:=h.lim;omega)
theorem SzS.a0 (h:SzS n a b D M B m t):∃ A:Nat,0<A/\A<=M/\a 0=(A:Rat) / (M:Rat):=(h.s.fa 0 (AI _)).nat h.s.M0 h.s.good.pos h.s.one
theorem SzS.bsq (h:SzS n a b D M B m t):Bd ((B*B:Nat):Rat) (b n*b n):=by
 rw[Rat.natCast_mul];exact (h.s.bb n (AA _)).mul (h.s.bb n (AA _))
theorem SzS.bb2 (h:SzS n a b D M B m t):B*B<=2 ^ (t+t):=aF h.hb h.hb rfl
theorem SzS.fsq (h:SzS n a b D M B m t):Fr (D*D*M*M) (b n*b n) :=
 ((h.s.fb n (AA _)).mul (h.s.fb n (AA _)) (AN h.s.D0 h.s.M0) (AN h.s.D0 h.s.M0)).to (by simp[AT,Ct])
theorem SzS.ddm (h:SzS n a b D M B m t):D*D*M<=2 ^ (168+m):=aF (a:=168) (aF (a:=84) (b:=84) (c:=168) h.hd h.hd rfl) h.hm rfl
theorem SzS.ddmp (h:SzS n a b D M B m t):0<D*D*M:=AN (AN h.s.D0 h.s.D0) h.s.M0
theorem SzS.osq (h:SzS n a b D M B m t):okQ (b n*b n):=fF h.fsq h.bsq (AN h.ddmp h.s.M0) (aF h.ddm h.hm rfl) h.bb2 (by have:=h.lim;omega)
theorem SzS.add (h:SzS n a b D M B m t) {A:Nat} (hA:0<A) (hc:a 0=(A:Rat) / (M:Rat)):Ov (D*D*M*A) (2 ^ (2*t+168+2*m)) (b n*b n / a 0):=by
 have h1:=Fr.over (D:=D*D*M) h.fsq hc h.ddmp h.s.M0 hA;have h2:=Fr.ov2 h1 hc h.s.M0 hA (by have:=h.s.good.pos;rw[show b n*b n / a 0*a 0=b n*b n by grind];exact h.bsq) h.ddmp;refine h2.mono ?_;exact aF h.bb2 (aF h.ddm h.hm rfl) (by omega)
theorem SzS.sum (h:SzS n a b D M B m t) {A:Nat} (hA:0<A) (hAM:A<=M) (hc:a 0=(A:Rat) / (M:Rat)) {e:Rat} (he:Ov (D*D*M) (2 ^ (2*t+168+m)) e) :
  Ov (D*D*M*A) (2 ^ (2*t+169+2*m)) (e+b n*b n / a 0):=by
 have h1:=(he.wide A h.ddmp hA).add (h.add hA hc);refine h1.mono ?_;have h2:2 ^ (2*t+168+m)*A<=2 ^ (2*t+168+2*m):=aF (AA _) (AP hAM h.hm) (by omega);have h3:2 ^ (2*t+169+2*m)=2 ^ (2*t+168+2*m)*2:=by rw[<-AS];congr 1;omega
 omega
theorem SzS.osum (h:SzS n a b D M B m t) {A:Nat} (hA:0<A) (hAM:A<=M) (hc:a 0=(A:Rat) / (M:Rat)) {e:Rat} (he:Ov (D*D*M) (2 ^ (2*t+168+m)) e):okQ (e+b n*b n / a 0)/\okQ (b n*b n / a 0):=by
 have hd:D*D*M*A<=2 ^ (168+m+m):=aF h.ddm (AP hAM h.hm) rfl;have hl:=h.lim
 exact⟨(h.sum hA hAM hc he).ok (AN h.ddmp hA) (bQ hd (by omega)) (bQ (AA _) (by omega)),
  (h.add hA hc).ok (AN h.ddmp hA) (bQ hd (by omega)) (bQ (AA _) (by omega))⟩
end
theorem SzS.texts {n:Nat}{a b:Nat->Rat}{D M B m t:Nat} (h:SzS (n+1) a b D M B m t) {A:Nat} (hA:0<A) (hAM:A<=M) (hc:a 0=(A:Rat) / (M:Rat)) {la lb:List ByteArray} (hla:∀ i,i<=n+1->am la i=tq (a i)) (hlb:∀ i,i<=n+1->am lb i=tq (b i)) :
  (∀ i,i<=n->am (cI la la (n+1)) i=tq (dnE (n+1) a a i))/\(∀ i,i<=n->am (cI la lb (n+1)) i=tq (dnE (n+1) a b i)):=by
 have st:=h.s.step hA hc;have hl:=h.lim;have hD:=h.s.D0;have hM:=h.s.M0;have h0:a 0≠0:=by have:=h.s.good.pos;grind
 have g0:=h.s.good.pos;have hA2:A<=2 ^ m:=AP hAM h.hm;have hMA:M*A<=2 ^ (m+m):=aF h.hm hA2 rfl;have fk:=(Fr.over (D:=1) ((h.s.fa (n+1) (AA _)).to (BV M).symm) hc (by decide) hM hA).to (BV A);have bk:∀ i,i<=n+1->Bd ((64:Nat):Rat) (a i / a 0):=fun i hi=>Bd.div g0 (gW h.s.good h.s.n6 hi);have fb:=Fr.over (h.s.fb (n+1) (AA _)) hc hD hM hA;have hDA:D*A<=2 ^ (84+m):=aF h.hd hA2 rfl;have e64:(64:Nat)*64<=2 ^ 12:=by decide
 have hB64:B*64<=2 ^ (t+6):=aF h.hb lD rfl;have hB65:65*B<=2 ^ (7+t):=aF (show 65<=2 ^ 7 by decide) h.hb rfl;constructor
 ·intro i hi;refine kt h0 hla (fun i hi=>h.oa hi) hla (fun i hi=>h.oa hi) (fF fk (bk _ (AA _)) hA hA2 lD (by omega)) (fun i hi=>?_) (fun i hi=>?_) i (by omega)
  ·exact fF (fk.mul (h.s.fa (n+1-i) (by omega)) hA hM) (V:=64*64) (by rw[Rat.natCast_mul];exact (bk _ (AA _)).mul (h.s.a64 (by omega))) (AN hA hM) (aF hA2 h.hm rfl) e64 (by omega)
  ·exact fF (st.fa i (by omega)) (st.a64 (by omega)) (AN hM hA) hMA lD (by omega)
 ·intro i hi;refine kt h0 hla (fun i hi=>h.oa hi) hlb (fun i hi=>h.ob hi) ?_ (fun i hi=>?_) (fun i hi=>?_) i (by omega)
  ·exact Fr.ok2 fb hc hM hA (V:=B) (by rw[show b (n+1) / a 0*a 0=b (n+1) by grind];exact h.s.bb _ (AA _)) hD (bQ hDA (by omega)) (bQ (aF h.hb h.dm rfl) (by omega))
  ·refine fF (fb.mul (h.s.fa (n+1-i) (by omega)) (AN hD hA) hM) (V:=B*64) ?_ (AN (AN hD hA) hM) (aF hDA h.hm rfl) hB64 (by omega);rw[Rat.natCast_mul,show b (n+1) / a 0*a (n+1-i)=b (n+1)*(a (n+1-i) / a 0) by grind];exact (h.s.bb _ (AA _)).mul (bk _ (by omega))
  ·exact fF (st.fb i (by omega)) (st.bb i (by omega)) (AN hD (AN hM hA)) (aF h.hd hMA rfl) hB65 (by omega)
theorem iM:∀ (n:Nat) (a b:Nat->Rat) (D M B m t:Nat) (la lb:List ByteArray) (e:Rat),EnS n a b D M B->D<=2 ^ 84->M<=2 ^ m->B<=2 ^ t->2*t+14*n+169+2*(m*2 ^ n)<=6600->Ov (D*D*M) (2 ^ (2*t+168+m)) e->okQ e ->
  (∀ i,i<=n->am la i=tq (a i))->(∀ i,i<=n->am lb i=tq (b i))->dM (n+1) la lb (tq e)=tq (e+aA n a b b)/\okQ (e+aA n a b b)
 | 0,a,b,D,M,B,m,t,la,lb,e,hs,hd,hm,hb,hl,he,ho,hla,hlb=>by
  have S:SzS 0 a b D M B m t:=⟨hs,hd,hm,hb,by rw[Dl] at hl;omega⟩;obtain⟨A,hA,hAM,hc⟩:=S.a0;obtain⟨o1,o2⟩:=S.osum hA hAM hc he;have h0:a 0≠0:=by have:=hs.good.pos;grind
  have z:=AA 0;refine⟨?_,o1⟩
  show eX (tq e) (bE (cw (am lb 0) (am lb 0)) (am la 0))=_
  rw[hla 0 z,hlb 0 z,el (S.ob z) (S.ob z) S.osq,hZ S.osq (S.oa z) h0 o2,km ho o2 o1];rfl
 | n+1,a,b,D,M,B,m,t,la,lb,e,hs,hd,hm,hb,hl,he,ho,hla,hlb=>by
  have hp:1<=2 ^ n:=Bh (by decide);have hmp:m<=m*2 ^ n:=Nat.le_mul_of_pos_right m hp;have e2:m*2 ^ (n+1)=2*(m*2 ^ n):=by rw[AS,AT (2 ^ n) 2,Ct]
  have S:SzS (n+1) a b D M B m t:=⟨hs,hd,hm,hb,by omega⟩;obtain⟨A,hA,hAM,hc⟩:=S.a0;obtain⟨o1,o2⟩:=S.osum hA hAM hc he;have h0:a 0≠0:=by have:=hs.good.pos;grind
  have z:=AA (n+1);obtain⟨t1,t2⟩:=S.texts hA hAM hc hla hlb
  have ih:=iM n (dnE (n+1) a a) (dnE (n+1) a b) D (M*A) (65*B) (m+m) (7+t) (cI la la (n+1)) (cI la lb (n+1)) (e+b (n+1)*b (n+1) / a 0)
   (hs.step hA hc) hd (aF hm (AP hAM hm) rfl) (aF (show 65<=2 ^ 7 by decide) hb rfl) (by have e3:(m+m)*2 ^ n=2*(m*2 ^ n):=(by rw[Bf];omega);omega)
   (((S.sum hA hAM hc he).mono (gY (by omega))).to (Bn _ _ _)) o1 t1 t2
  have ef:e+b (n+1)*b (n+1) / a 0+aA n (dnE (n+1) a a) (dnE (n+1) a b) (dnE (n+1) a b)=e+aA (n+1) a b b:=by
   show _=e+(b (n+1)*b (n+1) / a 0+aA n (dnE (n+1) a a) (dnE (n+1) a b) (dnE (n+1) a b))
   grind
  rw[ef] at ih;refine⟨?_,ih.2⟩;rw[<-ih.1]
  show dM (n+1) _ _ (eX (tq e) (bE (cw (am lb (n+1)) (am lb (n+1))) (am la 0)))=_
  rw[hla 0 (AI _),hlb _ z,el (S.ob z) (S.ob z) S.osq,hZ S.osq (S.oa (AI _)) h0 o2,km ho o2 o1]
open Go.RowKit Dg Dc
theorem uN {q : Rat} (h : q.num.natAbs <= 4096) : Bd ((4096 : Nat) : Rat) q := by
  have hd := i_ q.den_pos
  have e : q * (q.den : Rat) = (q.num : Rat) := by
    have h1 := ny q
    have h2 := aI q.den_pos
    grind
  have d1 : (1 : Rat) <= (q.den : Rat) := by
    have := Rat.intCast_le_intCast.2 (show (1 : Int) <= (q.den : Int) by have := q.den_pos; omega)
    exact this
  have n1 : (q.num : Rat) <= 4096 := Rat.intCast_le_intCast.2 (show q.num <= 4096 by omega)
  have n2 : -4096 <= (q.num : Rat) := by
    have := Rat.intCast_le_intCast.2 (show (-4096 : Int) <= q.num by omega)
    exact this
  have e4 : ((4096 : Nat) : Rat) = 4096 := rfl
  rw [e4]
  have e5 : (q + 4096) * (q.den : Rat) = (q.num : Rat) + 4096 * (q.den : Rat) := by rw [<- e]; grind
  have e6 : (4096 - q) * (q.den : Rat) = 4096 * (q.den : Rat) - (q.num : Rat) := by rw [<- e]; grind
  constructor
  . have : 0 <= q + 4096 := ii hd (by rw [e5]; grind)
    grind
  . have : 0 <= 4096 - q := ii hd (by rw [e6]; grind)
    grind
theorem kM:∀ l:List ByteArray,(∀ s∈l,bN s.data.toList=true)->∃ qs:List Rat,∃ D,l=qs.map tq/\0<D/\D<=4096 ^ l.length/\∀ q∈qs,Fr D q/\Bd ((4096:Nat):Rat) q/\okQ q/\q.den<=4096
 | [],_=>⟨[],1,rfl,by decide,by simp,fun q h=>by cases h⟩
 | s :: l,h=>by
  obtain⟨q,rfl,hq,hn,hd⟩:=qw (h s (By ..));obtain⟨qs,D,rfl,hD,hDl,hall⟩:=kM l (fun t ht=>h t (Bz _ ht));have hdp:=q.den_pos;refine⟨q :: qs,D*q.den,rfl,AN hD hdp,?_,?_⟩
  ·rw[A2,AS];exact Be hDl hd
  ·intro r hr;rcases Bm.1 hr with rfl | hr
   ·have h1:=(Fr.of_ov (Ov.of r)).wide D hdp hD;rw[AT r.den D] at h1;exact⟨h1,uN hn,hq,hd⟩
   ·obtain⟨h1,h2⟩:=hall r hr;exact⟨h1.wide q.den hD hdp,h2⟩
theorem Fr.zero (D:Nat):Fr D 0:=⟨0,by rw[show ((0:Int):Rat)=0 from rfl];grind⟩
theorem Bd.zero (V:Nat):Bd (V:Rat) 0:=by
 have:(0:Rat)<=(V:Rat):=Rat.intCast_le_intCast.2 (show (0:Int)<=(V:Int) by omega);constructor<;>grind
theorem fA {P:Rat->Prop}{l:List Rat} (h:∀ q∈l,P q) (h0:P 0) (i:Nat):P (l.getD i 0):=by
 rw[AH];by_cases hi:i<l.length
 ·rw[AL hi];exact h _ (AR hi)
 ·rw[Bc (by omega)];exact h0
theorem vZ (qs:List Rat) {m i:Nat} (hi:i<m):am (cS (qs.map tq) m) i=tq (qs.getD i 0):=by
 unfold am cS;by_cases h:i<qs.length
 ·rw[AH,BU (by rw[AY];exact h),BZ,AH,AL h];rfl
 ·rw[AH,BA (by rw[AY];omega),List.getElem?_replicate,AY,if_pos (by omega),AH,Bc (by omega)];exact lE.symm
/-- the first order: Out's first coefficient is 1 -/
theorem nm {a b : Nat -> Rat} {n D M : Nat} (h6 : n <= 6) (hg : cF n a) (h1 : a 0 = 1) (hD : 0 < D) (hDl : D <= 2 ^ 84) (hM : 0 < M) (hMl : M <= 2 ^ 84) (fa : ∀ i, Fr M (a i)) (fb : ∀ i, Fr D (b i)) (bb : ∀ i, Bd ((4096 : Nat) : Rat) (b i))
    (oa : ∀ i, okQ (a i)) (ob : ∀ i, okQ (b i)) (hd : ∀ i, (a i).den <= 4096) {la lb : List ByteArray} (hla : ∀ i, i <= n -> am la i = tq (a i)) (hlb : ∀ i, i <= n -> am lb i = tq (b i)) :
    dM (n + 1) la lb ⟨#[48]⟩ = tq (aA n a b b) /\ okQ (aA n a b b) := by
  have z0 : (⟨#[48]⟩ : ByteArray) = tq 0 := lE.symm
  have d1 : ∀ q : Rat, q / a 0 = q := fun q => by rw [h1]; grind
  have h0 : a 0 ≠ 0 := by rw [h1]; decide
  have hDD : D * D <= 2 ^ 168 := aF (a := 84) (b := 84) (c := 168) hDl hDl rfl
  have t12 : (4096 : Nat) <= 2 ^ 12 := by decide
  rw [z0]
  match n, h6, hg, hla, hlb with
  | 0, _, hg, hla, hlb =>
    have f0 : ∀ i, i <= 0 -> Fr 1 (a i) := fun i hi => by
      obtain rfl : i = 0 := by omega
      rw [h1]
      exact ⟨1, by rw [show ((1 : Int) : Rat) = 1 from rfl, show ((1 : Nat) : Rat) = 1 from rfl]; grind⟩
    have hs : EnS 0 a b D 1 4096 := ⟨hD, by decide, f0, fun i _ => (fb i).to (Bu D).symm, hg, by rw [h1]; exact (by decide), by decide, fun i _ => bb i⟩
    have r := iM 0 a b D 1 4096 0 12 la lb 0 hs hDl (by decide) t12 (by decide) ((Ov.zero _).mono (AI _)) fE hla hlb
    rw [show (0 : Rat) + aA 0 a b b = aA 0 a b b by grind] at r
    exact r
  | k + 1, h6, hg, hla, hlb =>
    have hk : k <= 5 := by omega
    have z := AA (k + 1)
    obtain ⟨d, hdd⟩ : ∃ d, d = (a (k + 1)).den := ⟨_, rfl⟩
    have hd1 : 0 < d := by rw [hdd]; exact (a (k + 1)).den_pos
    have hd2 : d <= 2 ^ 12 := by rw [hdd]; exact AP (hd _) t12
    have fk : Fr d (a (k + 1)) := by rw [hdd]; exact Fr.of_ov (Ov.of _)
    have b64 : ∀ i, i <= k + 1 -> Bd ((64 : Nat) : Rat) (a i) := fun i hi => by
      have := gW hg (by omega) hi
      rw [h1] at this
      exact this.mono (by rw [show ((64 : Nat) : Rat) = 64 from rfl]; grind)
    have hMd : M * d <= 2 ^ 96 := aF (a := 84) (b := 12) (c := 96) hMl hd2 rfl
    have hMd0 : 0 < M * d := AN hM hd1
    have ec : ∀ i, dnE (k + 1) a a i = a i - a (k + 1) * a (k + 1 - i) := fun i => by unfold dnE; rw [d1]
    have ed : ∀ i, dnE (k + 1) a b i = b i - b (k + 1) * a (k + 1 - i) := fun i => by unfold dnE; rw [d1]
    have b4 : ∀ i, i <= k + 1 -> Bd ((4096 * 64 : Nat) : Rat) (b (k + 1) * a i) := fun i hi => by rw [Rat.natCast_mul]; exact (bb _).mul (b64 i hi)
    have hDM : D * M <= 2 ^ 168 := aF (a := 84) (b := 84) (c := 168) hDl hMl rfl
    have hs : EnS k (dnE (k + 1) a a) (dnE (k + 1) a b) D (M * d) (65 * 4096) := by
      refine ⟨hD, hMd0, fun i _ => ?_, fun i _ => ?_, hg.2, ?_, by omega, fun i hi => ?_⟩
      . rw [ec]; exact ((fa i).wide d hM hd1).sub ((fk.mul (fa _) hd1 hM).to (AT d M))
      . rw [ed]
        exact (((fb i).wide (M * d) hD hMd0)).sub ((((fb _).mul (fa _) hD hM).wide d (AN hD hM) hd1).to (Bn D M d))
      . rw [ec, h1]
        have p := jg.sq_div_pos (x := a (k + 1)) (show (0 : Rat) < 1 by decide)
        rw [CJ]
        have : a (k + 1) * a (k + 1) / 1 = a (k + 1) * a (k + 1) := by grind
        rw [this] at p
        grind
      . rw [ed]
        refine ((bb i).sub (b4 _ (by omega))).mono ?_
        rw [show ((4096 : Nat) : Rat) = 4096 from rfl, show ((4096 * 64 : Nat) : Rat) = 262144 from rfl, show ((65 * 4096 : Nat) : Rat) = 266240 from rfl]
        grind
    have fsq : Fr (D * D) (b (k + 1) * b (k + 1)) := (fb _).mul (fb _) hD hD
    have bsq : Bd ((4096 * 4096 : Nat) : Rat) (b (k + 1) * b (k + 1)) := by rw [Rat.natCast_mul]; exact (bb _).mul (bb _)
    have t24 : (4096 : Nat) * 4096 <= 2 ^ 24 := by decide
    have osq : okQ (b (k + 1) * b (k + 1)) := fF fsq bsq (AN hD hD) hDD t24 (by decide)
    have he : Ov (D * D * (M * d)) (2 ^ (2 * 19 + 168 + 96)) (b (k + 1) * b (k + 1)) := by
      have h2 := (fsq.ov bsq (AN hD hD)).wide (M * d) (AN hD hD) hMd0
      obtain ⟨c, hc⟩ : ∃ c, 24 + 168 + 96 = c := ⟨_, rfl⟩
      obtain ⟨g, hg⟩ : ∃ g, 2 * 19 + 168 + 96 = g := ⟨_, rfl⟩
      rw [hg]
      exact h2.mono (AP (aF (a := 24 + 168) (b := 96) (c := c) (aF (a := 24) (b := 168) t24 hDD rfl) hMd hc) (gY (by omega)))
    have t1 : ∀ i, i < k + 1 -> am (cI la la (k + 1)) i = tq (dnE (k + 1) a a i) := kt h0 hla (fun i _ => oa i) hla (fun i _ => oa i) (by rw [d1]; exact oa _)
      (fun i hi => by
        rw [d1]
        exact fF ((fk.mul (fa _) hd1 hM).to (AT d M)) (V := 64 * 64) (by rw [Rat.natCast_mul]; exact (b64 _ z).mul (b64 _ (by omega))) hMd0 hMd (show 64 * 64 <= 2 ^ 12 by decide) (by decide))
      (fun i hi => fF (hs.fa i (by omega)) (hs.a64 (by omega)) hMd0 hMd lD (by decide))
    have t2 : ∀ i, i < k + 1 -> am (cI la lb (k + 1)) i = tq (dnE (k + 1) a b i) := kt h0 hla (fun i _ => oa i) hlb (fun i _ => ob i) (by rw [d1]; exact ob _)
      (fun i hi => by
        rw [d1]
        exact fF ((fb _).mul (fa _) hD hM) (b4 _ (by omega)) (AN hD hM) hDM (show 4096 * 64 <= 2 ^ 18 by decide) (by decide))
      (fun i hi => fF (hs.fb i (by omega)) (hs.bb i (by omega)) (AN hD hMd0) (aF (a := 84) (b := 96) (c := 180) hDl hMd rfl) (show 65 * 4096 <= 2 ^ 19 by decide) (by decide))
    have hp : 2 ^ k <= 2 ^ 5 := gY hk
    have r := iM k (dnE (k + 1) a a) (dnE (k + 1) a b) D (M * d) (65 * 4096) 96 19 (cI la la (k + 1)) (cI la lb (k + 1)) (b (k + 1) * b (k + 1)) hs hDl hMd (by decide) (by omega) he osq (fun i hi => t1 i (by omega)) (fun i hi => t2 i (by omega))
    have ef : b (k + 1) * b (k + 1) + aA k (dnE (k + 1) a a) (dnE (k + 1) a b) (dnE (k + 1) a b) = aA (k + 1) a b b := by
      show _ = b (k + 1) * b (k + 1) / a 0 + _
      rw [d1]
    rw [ef] at r
    refine ⟨?_, r.2⟩
    rw [<- r.1]
    show dM (k + 1) _ _ (eX (tq 0) (bE (cw (am lb (k + 1)) (am lb (k + 1))) (am la 0))) = _
    rw [hla 0 (AI _), hlb _ z, el (ob _) (ob _) osq, hZ osq (oa 0) h0 (by rw [d1]; exact osq), d1, km fE osq (by rw [Rat.zero_add]; exact osq), Rat.zero_add]
theorem sy {l:List ByteArray}{qs:List Rat}{D:Nat} (e:l=qs.map tq) (hD:0<D) (hDl:D<=2 ^ 84) (hl:l.length<=7) (h:∀ q∈qs,Fr D q/\Bd ((4096:Nat):Rat) q/\okQ q/\q.den<=4096):gD l qs :=
 ⟨e,⟨D,hD,hDl,fun q hq=>((h q hq).1.ov (h q hq).2.1 hD).mono (aF (a:=12) (b:=84) (c:=96) (by decide) hDl rfl)⟩,fun q hq=>(h q hq).2.2.1,by rw[e,AY] at hl;exact hl⟩
theorem th {fa fb:List ByteArray} (hc:aq fa fb=true) (hp:(aK fb).isSome=true) :
  ∃ (qa tl:List Rat) (n:Nat),gD fa qa/\gD fb (1 :: tl)/\n<=6/\qa.length<=n+1/\(1 :: tl).length<=n+1/\cF n (fun i=>(1 :: tl).getD i 0)/\(∀ q∈qa,Bd ((4096:Nat):Rat) q) /\
   bG fa fb=(tq (aA n (fun i=>(1 :: tl).getD i 0) (fun i=>qa.getD i 0) (fun i=>qa.getD i 0)),0)/\okQ (aA n (fun i=>(1 :: tl).getD i 0) (fun i=>qa.getD i 0) (fun i=>qa.getD i 0)):=by
 obtain⟨b0,b7,a0,a7,ca,cb,-⟩:=aN hc;have e84:(4096:Nat) ^ 7=2 ^ 84:=by decide
 obtain⟨qa,D,ea,hD,hDl,hqa⟩:=kM fa ca;obtain⟨qb,M,eb,hM,hMl,hqb⟩:=kM fb cb;have hDl2:D<=2 ^ 84:=by rw[<-e84];exact AP hDl (AW (by decide) a7)
 have hMl2:M<=2 ^ 84:=by rw[<-e84];exact AP hMl (AW (by decide) b7)
 have pa:=sy ea hD hDl2 a7 hqa;have pb:=sy eb hM hMl2 b7 hqb;obtain⟨tl,rfl⟩:=vy hc pb;have la:fa.length=qa.length:=by rw[ea,AY]
 have lb:fb.length=(1 :: tl).length:=by rw[eb,AY]
 obtain⟨n,hn⟩:∃ n,max fa.length fb.length=n+1:=⟨max fa.length fb.length-1,by omega⟩;have lt1:(1 :: tl).length=tl.length+1:=rfl;have hps:=hp;rw[wD pb rfl (by simp),Option.isSome_map] at hps;have g1:cF tl.length (fun i=>(1 :: tl).getD i 0):=kW tl.length _ (1 :: tl) (by show (0:Rat)<1;decide) (fun i _=>by show _=1*_;grind) hps
 have g2:cF n (fun i=>(1 :: tl).getD i 0):=by
  have:=mg g1 (fun i hi=>by
   show (1 :: tl).getD i 0=0
   rw[AH,Bc (by rw[lt1];omega)];rfl) (n-tl.length)
  rwa [show tl.length+(n-tl.length)=n by omega] at this
 have r:=nm (a:=fun i=>(1 :: tl).getD i 0) (b:=fun i=>qa.getD i 0) (n:=n) (by omega) g2 rfl hD hDl2 hM hMl2
  (fA (fun q hq=>(hqb q hq).1) (Fr.zero M)) (fA (fun q hq=>(hqa q hq).1) (Fr.zero D)) (fA (fun q hq=>(hqa q hq).2.1) (Bd.zero _)) (fA (fun q hq=>(hqb q hq).2.2.1) fE)
  (fA (fun q hq=>(hqa q hq).2.2.1) fE) (fA (P:=fun q=>q.den<=4096) (fun q hq=>(hqb q hq).2.2.2) (by decide))
  (la:=cS fb (n+1)) (lb:=cS fa (n+1)) (fun i hi=>by rw[eb];exact vZ _ (by omega)) (fun i hi=>by rw[ea];exact vZ _ (by omega))
 refine⟨qa,tl,n,pa,pb,by omega,by omega,by omega,g2,fun q hq=>(hqa q hq).2.1,?_,r.2⟩;unfold bG;rw[if_pos hc,if_pos hp,hn,r.1]
end Go.Proofs.YtgakllaobooabaaGreatDoor
