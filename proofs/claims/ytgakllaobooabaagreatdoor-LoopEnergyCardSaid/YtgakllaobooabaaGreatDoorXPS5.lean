/- L -/
import Derived.Test.YtgakllaobooabaaGreatDoorXPD1
import Derived.Test.YtgakllaobooabaaGreatDoorXLD1
import Derived.Test.YtgakllaobooabaaGreatDoorXLE2
import Derived.Test.YtgakllaobooabaaGreatDoorXLB4
set_option linter.all false
set_option maxRecDepth 100000
set_option maxHeartbeats 8000000
namespace Go.Proofs.YtgakllaobooabaaGreatDoor
def dnE (n:Nat) (a x:Nat->Rat):Nat->Rat:=fun i=>x i-x n / a 0*a (n-i)
def aA:Nat->(Nat->Rat)->(Nat->Rat)->(Nat->Rat)->Rat
 | 0,a,x,y=>x 0*y 0 / a 0
 | n+1,a,x,y=>x (n+1)*y (n+1) / a 0+aA n (dnE (n+1) a a) (dnE (n+1) a x) (dnE (n+1) a y)
def cF:Nat->(Nat->Rat)->Prop
 | 0,a=>0<a 0
 | n+1,a=>0<a 0/\cF n (dnE (n+1) a a)
theorem cF.pos:∀ {n:Nat}{a:Nat->Rat},cF n a->0<a 0
 | 0,_,h=>h
 | _+1,_,h=>h.1
theorem jd {n:Nat}{a a' x x':Nat->Rat} (ha:∀ i,i<=n->a i=a' i) (hx:∀ i,i<=n->x i=x' i):∀ i,i<=n->dnE n a x i=dnE n a' x' i:=fun i hi=>by
 unfold dnE;rw[hx i hi,hx n (AA _),ha 0 (AI _),ha (n-i) (Nat.sub_le _ _)]
theorem cJ:∀ {n:Nat}{a a' x x' y y':Nat->Rat},(∀ i,i<=n->a i=a' i)->(∀ i,i<=n->x i=x' i)->(∀ i,i<=n->y i=y' i)->aA n a x y=aA n a' x' y'
 | 0,_,_,_,_,_,_,ha,hx,hy=>by unfold aA;rw[ha 0 (AA _),hx 0 (AA _),hy 0 (AA _)]
 | n+1,_,_,_,_,_,_,ha,hx,hy=>by
  unfold aA;rw[ha 0 (AI _),hx (n+1) (AA _),hy (n+1) (AA _)];congr 1;exact cJ (fun i hi=>jd ha ha i (by omega)) (fun i hi=>jd ha hx i (by omega)) (fun i hi=>jd ha hy i (by omega))
theorem ia:∀ {n:Nat}{a x y:Nat->Rat},aA n a x y=aA n a y x
 | 0,_,x,y=>by unfold aA;rw[Rat.mul_comm (x 0)]
 | n+1,_,x,y=>by unfold aA;rw[Rat.mul_comm (x (n+1)),ia]
theorem jf (c:Rat):∀ {n:Nat}{a x x' y:Nat->Rat},aA n a (fun i=>x i+c*x' i) y=aA n a x y+c*aA n a x' y
 | 0,a,x,x',y=>by
  unfold aA;simp only[Rat.div_def];grind
 | n+1,a,x,x',y=>by
  unfold aA
  have e:aA n (dnE (n+1) a a) (dnE (n+1) a fun i=>x i+c*x' i) (dnE (n+1) a y)=aA n (dnE (n+1) a a) (fun i=>dnE (n+1) a x i+c*dnE (n+1) a x' i) (dnE (n+1) a y):=by
   refine cJ (fun _ _=>rfl) (fun i _=>?_) (fun _ _=>rfl);unfold dnE;simp only[Rat.div_def];grind
  rw[e,jf c];simp only[Rat.div_def];grind
theorem np (c:Rat) {n:Nat}{a x y:Nat->Rat}:aA n a (fun i=>x i+c*y i) (fun i=>x i+c*y i)=aA n a x x+2*c*aA n a y x+c*c*aA n a y y:=by
 rw[jf,ia,ia (x:=y) (y:=fun i=>x i+c*y i),jf,jf,ia (x:=x) (y:=y)];grind
theorem mc:∀ {n:Nat}{a y:Nat->Rat},aA n a (fun _=>0) y=0
 | 0,a,y=>by unfold aA;simp only[Rat.div_def];grind
 | n+1,a,y=>by
  unfold aA
  have e:aA n (dnE (n+1) a a) (dnE (n+1) a fun _=>0) (dnE (n+1) a y)=aA n (dnE (n+1) a a) (fun _=>0) (dnE (n+1) a y):=by
   refine cJ (fun _ _=>rfl) (fun i _=>?_) (fun _ _=>rfl);unfold dnE;simp only[Rat.div_def];grind
  rw[e,mc];simp only[Rat.div_def];grind
theorem gK:∀ {n:Nat}{a y:Nat->Rat},cF n a->aA n a a y=y 0
 | 0,a,y,h=>by
  have h0:0<a 0:=h;unfold aA;grind
 | n+1,a,y,h=>by
  have h0:=h.1;unfold aA;rw[gK h.2];unfold dnE;rw[CJ];grind
theorem oL:∀ {n:Nat}{a y:Nat->Rat},cF n a->aA n a (fun i=>a (n-i)) y=y n
 | 0,a,y,h=>by
  have h0:0<a 0:=h;unfold aA;grind
 | n+1,a,y,h=>by
  have h0:=h.1;unfold aA
  have e:aA n (dnE (n+1) a a) (dnE (n+1) a fun i=>a (n+1-i)) (dnE (n+1) a y)=aA n (dnE (n+1) a a) (fun _=>0) (dnE (n+1) a y):=by
   refine cJ (fun _ _=>rfl) (fun i _=>?_) (fun _ _=>rfl);unfold dnE;simp only[BL];grind
  rw[e,mc];simp only[BL];grind
theorem jg:∀ {n:Nat}{a x:Nat->Rat},cF n a->0<=aA n a x x
 | 0,a,x,h=>by
  have h0:0<a 0:=h;unfold aA;exact sq_div_pos h0
 | n+1,a,x,h=>by
  unfold aA;have h1:=sq_div_pos (x:=x (n+1)) h.1;have h2:=jg (x:=dnE (n+1) a x) h.2;grind
where
 sq_div_pos {x a:Rat} (h:0<a):0<=x*x / a:=by
  have h1:0<=x*x:=by
   rcases (Rat.le_total:0<=x\/x<=0) with h | h
   ·exact Rat.mul_nonneg h h
   ·have:=Rat.mul_nonneg (show 0<=-x by grind) (show 0<=-x by grind);grind
  rw[Rat.div_def];exact Rat.mul_nonneg h1 (Rat.le_of_lt (Rat.inv_pos.2 h))
def shE (x:Nat->Rat):Nat->Rat
 | 0=>0
 | i+1=>x i
theorem yB {A0 L C X:Rat} (hA:A0≠0) (hC:C≠0) (e:C=A0-L / A0*L):X*X / A0+(L / A0*(X / C))*(L / A0*(X / C))*C=X / C*(X / C)*C:=by grind
theorem wU {A0 L C X P Q:Rat} (hA:A0≠0) (hC:C≠0) (e:C=A0-L / A0*L):X / A0*P=X / C*(P-L / A0*Q)+L / A0*(X / C)*(Q-L / A0*P):=by grind
theorem wT {A0 L C X:Rat} (hC:C≠0):X / A0*L=L / A0*(X / C)*C:=by grind
theorem rU:∀ {n:Nat}{a x:Nat->Rat},cF n a->x n=0->aA n a (shE x) (shE x)=aA n a x x
 | 0,a,x,h,h0=>by
  unfold aA shE
  rw[h0]
 | n+1,a,x,h,h0=>by
  have ha:a 0≠0:=by have:=h.1;grind
  obtain⟨c,hc⟩:∃ c,c=dnE (n+1) a a:=⟨_,rfl⟩
  have hg:cF n c:=by rw[hc];exact h.2
  have hc0:c 0≠0:=by have:=hg.pos;grind
  have ec:∀ i,i<=n->c i=a i-a (n+1) / a 0*a (n+1-i):=fun i _=>by rw[hc];rfl
  have ec0:c 0=a 0-a (n+1) / a 0*a (n+1):=ec 0 (AI _)
  have ih:=rU (n:=n) (a:=c) (x:=dnE n c x) hg (by unfold dnE;rw[BL];grind)
  have e1:aA (n+1) a x x=aA n c x x:=by
   show x (n+1)*x (n+1) / a 0+_=_
   rw[h0,<-hc,cJ (a':=c) (x':=x) (y':=x) (fun _ _=>rfl) (fun i _=>by unfold dnE;rw[h0];grind) (fun i _=>by unfold dnE;rw[h0];grind)]
   grind
  have e2:aA n c x x=aA n c (dnE n c x) (dnE n c x)+x n / c 0*(x n / c 0)*c 0:=by
   have e:aA n c x x=aA n c (fun i=>dnE n c x i+x n / c 0*c (n-i)) (fun i=>dnE n c x i+x n / c 0*c (n-i)) :=
    cJ (fun _ _=>rfl) (fun i _=>by unfold dnE;grind) (fun i _=>by unfold dnE;grind)
   rw[e,np,oL hg,oL hg,BL]
   have:dnE n c x n=0:=by unfold dnE;rw[BL];grind
   rw[this];grind
  obtain⟨t,ht⟩:∃ t,t=a (n+1) / a 0*(x n / c 0):=⟨_,rfl⟩
  have e3:aA (n+1) a (shE x) (shE x)=x n*x n / a 0+aA n c (dnE (n+1) a (shE x)) (dnE (n+1) a (shE x)):=by rw[hc];rfl
  have pt:∀ i,i<=n->dnE (n+1) a (shE x) i=shE (dnE n c x) i+-t*c i:=fun i hi=>by
   match i,hi with
   | 0,_ =>
    show 0-x n / a 0*a (n+1)=0+-t*c 0
    have:=wT (A0:=a 0) (L:=a (n+1)) (X:=x n) hc0
    rw[ht];grind
   | j+1,hj =>
    show x j-x n / a 0*a (n+1-(j+1))=x j-x n / c 0*c (n-j)+-t*c (j+1)
    have e:n+1-(j+1)=n-j:=by omega
    have:=wU (L:=a (n+1)) (X:=x n) (P:=a (n-j)) (Q:=a (j+1)) ha hc0 ec0
    rw[ec (n-j) (by omega),ec (j+1) hj,e,show n+1-(n-j)=j+1 by omega,ht]
    grind
  rw[e3,cJ (fun _ _=>rfl) pt pt,np,gK hg,gK hg,ih,e1,e2]
  have:=yB (X:=x n) ha hc0 ec0
  show x n*x n / a 0+(_+2*-t*0+_)=_
  rw[ht]
  grind
def cX (a b:Nat->Rat):Nat->Nat->Rat
 | 0=>b
 | t+1=>fun i=>cX a b t (i+1)-cX a b t 0*a (i+1)
theorem sA {a b:Nat->Rat}{n:Nat} (ha:∀ i,n<i->a i=0) (hb:∀ i,n<i->b i=0):∀ t i,n<i->cX a b t i=0
 | 0,i,h=>hb i h
 | t+1,i,h=>by
  show cX a b t (i+1)-cX a b t 0*a (i+1)=0
  rw[sA ha hb t (i+1) (by omega),ha (i+1) (by omega)];grind
theorem tr {n:Nat}{a b:Nat->Rat} (hg:cF n a) (h1:a 0=1) (ha:∀ i,n<i->a i=0) (hb:∀ i,n<i->b i=0) (t:Nat) :
  aA n a (cX a b t) (cX a b t)=cX a b t 0*cX a b t 0+aA n a (cX a b (t+1)) (cX a b (t+1)):=by
 have hz:cX a b (t+1) n=0:=by
  show cX a b t (n+1)-cX a b t 0*a (n+1)=0
  rw[sA ha hb t (n+1) (by omega),ha (n+1) (by omega)]
  grind
 have e:∀ i,i<=n->cX a b t i=shE (cX a b (t+1)) i+cX a b t 0*a i:=fun i _=>by
  match i with
  | 0 =>
   show _=0+_
   rw[h1];grind
  | j+1 =>
   show _=cX a b t (j+1)-cX a b t 0*a (j+1)+_
   grind
 rw[cJ (fun _ _=>rfl) e e,np,gK hg,gK hg,rU hg hz,h1]
 show _+2*_*0+_=_
 grind
def sqS (h:Nat->Rat):Nat->Rat
 | 0=>0
 | t+1=>sqS h t+h t*h t
theorem oM {n:Nat}{a b:Nat->Rat} (hg:cF n a) (h1:a 0=1) (ha:∀ i,n<i->a i=0) (hb:∀ i,n<i->b i=0) :
  ∀ t,aA n a b b=sqS (fun s=>cX a b s 0) t+aA n a (cX a b t) (cX a b t)
 | 0=>by
  show _=0+aA n a b b
  grind
 | t+1=>by
  rw[oM hg h1 ha hb t,tr hg h1 ha hb t,sqS];grind
theorem x6 {n:Nat}{a b:Nat->Rat} (hg:cF n a) (h1:a 0=1) (ha:∀ i,n<i->a i=0) (hb:∀ i,n<i->b i=0) (t:Nat):sqS (fun s=>cX a b s 0) t<=aA n a b b:=by
 rw[oM hg h1 ha hb t];have:=jg (x:=cX a b t) hg;grind
theorem nD (x:Nat->Rat) (l:List Rat) (s t:Nat):opS (l.drop s) x t=l.getD s 0*x t+shS 1 (opS (l.drop (s+1)) x) t:=by
 by_cases h:s<l.length
 ·rw[Bi h,db,AH,AL h];rfl
 ·rw[Bt (by omega),Bt (by omega),nE,AH,Bc (by omega)];have:shS 1 (opS [] x) t=0:=by unfold shS;split<;>rfl
  rw[this]
  show (0:Rat)=0*_+0
  grind
theorem rg (x:Nat->Rat):shS 1 x 0=0:=by unfold shS;rw[if_neg (by omega)]
theorem nP (x:Nat->Rat) (t:Nat):shS 1 x (t+1)=x t:=by unfold shS;rw[if_pos (by omega)];rfl
theorem pI (l:List Rat) (b:Nat->Rat):∀ t s,cX (fun i=>l.getD i 0) b (t+1) s=b (t+1+s)-opS (l.drop (s+1)) (fun k=>cX (fun i=>l.getD i 0) b k 0) t
 | 0,s=>by
  rw[nD,rg]
  show b (s+1)-b 0*l.getD (s+1) 0=b (0+1+s)-(l.getD (s+1) 0*b 0+0)
  rw[show 0+1+s=s+1 by omega];grind
 | t+1,s=>by
  rw[nD,nP]
  show cX (fun i=>l.getD i 0) b (t+1) (s+1)-cX (fun i=>l.getD i 0) b (t+1) 0*l.getD (s+1) 0=_
  rw[pI l b t (s+1),show t+1+1+s=t+1+(s+1) by omega];grind
theorem zM (l:List Rat) (b:Nat->Rat) (h1:l.getD 0 0=1) (t:Nat):opS l (fun k=>cX (fun i=>l.getD i 0) b k 0) t=b t:=by
 have e:=nD (fun k=>cX (fun i=>l.getD i 0) b k 0) l 0 t
 rw[AF,h1] at e
 rw[e]
 match t with
 | 0 =>
  rw[rg]
  show 1*b 0+0=b 0
  grind
 | t+1 =>
  rw[nP,pI l b t 0]
  show _+opS (l.drop 1) _ t=_
  grind
open Go.RowKit Dg Dc
structure gD (l:List ByteArray) (qs:List Rat):Prop where
 e:l=qs.map tq
 ov:∃ D,0<D/\D<=2 ^ 84/\∀ q∈qs,Ov D (2 ^ 96) q
 ok:∀ q∈qs,okQ q
 len:qs.length<=7
theorem gD.allC {l:List ByteArray}{qs:List Rat} (h:gD l qs):cj l=.ok (bA (qs.map CQ.real)):=by
 have hl:l.length<=7:=by rw[h.e,AY];exact h.len
 unfold cj;rw[if_neg (by omega),h.e,iY qs h.ok]
structure WV (z:ByteArray) (w:CQ):Prop where
 t:bE ⟨#[49]⟩ z=txt w
 ok:cV w=false
 ov:∃ E,E<=2 ^ 49/\OvC E (2 ^ 49) w
theorem gY {a b:Nat} (h:a<=b):(2:Nat) ^ a<=2 ^ b:=AW (by decide) h
theorem zt {x a b c:Nat} (h:x<=2 ^ a*2 ^ b) (hc:a+b=c):x<=2 ^ c:=by rw[<-hc,BC];exact h
theorem aF {x y a b c:Nat} (h1:x<=2 ^ a) (h2:y<=2 ^ b) (hc:a+b=c):x*y<=2 ^ c:=zt (Be h1 h2) hc
theorem zu {E e k n m:Nat} (hE:E<=2 ^ e) (hk:k<=n) (hm:e*n=m):E ^ k<=2 ^ m:=by
 rw[<-hm,BW];exact AP (BQ hE k) (AW (Bh (by decide)) hk)
theorem zU (n:Nat):(2:Nat) ^ (3*n)<10 ^ (n+1):=by
 rw[BW];have h1:((2:Nat) ^ 3) ^ n<=10 ^ n:=BQ (by decide) n;have h2:(10:Nat) ^ n<10 ^ (n+1):=Nat.pow_lt_pow_right (by decide) (Nat.lt_succ_self n);exact AZ h1 h2
theorem zA {n k m t:Nat} (h:n<=2 ^ k) (hk:k<=3*m) (ht:m+1=t):n<10 ^ t:=by
 subst ht;exact AZ (AP h (AW (by decide) hk)) (zU m)
theorem vP {n k:Nat} (h:n<=2 ^ k) (hk:k<=5997):n<10 ^ 2000:=zA (m:=1999) (t:=2000) h (by omega) (by omega)
theorem at_val {l:List ByteArray}{qs:List Rat}{z:ByteArray}{w:CQ} (h:gD l qs) (hw:WV z w) :
  ∃ D,D<=2 ^ 427/\OvC D (2 ^ 449) (evQ w qs)/\cV (evQ w qs)=false/\atT l (bE ⟨#[49]⟩ z)=(txt (evQ w qs),0):=by
 obtain⟨D,hD,hDl,hq⟩:=h.ov;obtain⟨E,hE,ho⟩:=hw.ov;have h1:=rR ho hE hD qs hq;have hlen:=h.len;have b1:D*E ^ qs.length<=2 ^ 427:=aF (x:=D) (y:=E ^ qs.length) (a:=84) (b:=343) (c:=427) hDl (zu (E:=E) (e:=49) (k:=qs.length) (n:=7) (m:=343) hE hlen rfl) rfl
 have b2:qs.length*(2 ^ 96*2 ^ (50*qs.length))<=2 ^ 449:=by
  have k1:(2:Nat) ^ (50*qs.length)<=2 ^ 350:=gY (a:=50*qs.length) (b:=350) (by omega);have k2:2 ^ 96*2 ^ (50*qs.length)<=2 ^ 446:=aF (x:=2 ^ 96) (y:=2 ^ (50*qs.length)) (a:=96) (b:=350) (c:=446) (AA _) k1 rfl;exact aF (x:=qs.length) (y:=2 ^ 96*2 ^ (50*qs.length)) (a:=3) (b:=446) (c:=449) (by omega) k2 rfl
 have h2:=h1.mono b2;have hok:=h2.ok (vP b1 (by decide)) (vP (AA _) (by decide));refine⟨_,b1,h2,hok,?_⟩;unfold atT;rw[h.allC,hw.t];simp only;unfold ofC;rw[kU hw.ok];simp only;rw[zf,yo hok]
theorem zT {a b:Rat} (ha:okQ a) (hb:okQ b) (h:tq a=tq b):a=b:=congrArg CQ.re (yJ ha hb h)
def inQ (a x:List Rat) (t:Nat):Nat->Rat
 | 0=>0
 | k+1=>if k<=t then inQ a x t k+a.getD k 0*x.getD (t-k) 0 else inQ a x t k
def iw (b y:List Rat) (t:Nat) (n:Rat):Nat->Rat
 | 0=>n
 | k+1=>if 0<k/\k<=t then iw b y t n k-b.getD k 0*y.getD (t-k) 0 else iw b y t n k
def aS (a b x:List Rat):Nat->List Rat
 | 0=>[]
 | t+1=>aS a b x t++[iw b (aS a b x t) t (inQ a x t a.length) b.length]
theorem cz (a b x:List Rat):∀ t,(aS a b x t).length=t
 | 0=>rfl
 | t+1=>by rw[aS,AO,cz a b x t];rfl
theorem fB {l:List Rat}{k:Nat} (h:k<l.length):l.getD k 0∈l:=by rw[AH,AL h];exact AR h
def fe (l:List Rat):Nat->Rat:=fun n=>l.getD n 0
theorem yR (a x:List Rat) (t:Nat):∀ k,k<=a.length->inQ a x t k=opS (a.take k) (fe x) t
 | 0,_=>by rw[AG];rfl
 | k+1,hk=>by
  have hka:k<a.length:=by omega
  rw[inQ,yR a x t k (by omega),show a.take (k+1)=a.take k++[a.getD k 0] from by
   rw[AH,AL hka]
   exact (AM hka).symm,nF,A6,Bo (by omega)]
  unfold shS;by_cases h:k<=t
  ·rw[if_pos h,if_pos h];rfl
  ·rw[if_neg h,if_neg h];grind
theorem vV (b y:List Rat) (t:Nat) (n:Rat) (hy:y.length<=t):∀ k,k<=b.length->iw b y t n k=n-opS (b.take k) (fe y) t
 | 0,_=>by rw[AG,nE,iw];grind
 | k+1,hk=>by
  have hkb:k<b.length:=by omega
  rw[iw,vV b y t n hy k (by omega),show b.take (k+1)=b.take k++[b.getD k 0] from by
   rw[AH,AL hkb]
   exact (AM hkb).symm,nF,A6,Bo (by omega)]
  unfold shS;by_cases h:0<k/\k<=t
  ·rw[if_pos h,if_pos h.2]
   show _-b.getD k 0*y.getD (t-k) 0=n-(_+b.getD k 0*y.getD (t-k) 0)
   grind
  ·rw[if_neg h];by_cases h2:k<=t
   ·obtain rfl:k=0:=by omega
    rw[if_pos h2]
    have e:fe y (t-0)=0:=by
     unfold fe;rw[AH,Bc (by omega)];rfl
    rw[e];grind
   ·rw[if_neg h2];grind
theorem iP (a b x:List Rat) {s t:Nat} (hs:s<t):∀ N,t<=N->(aS a b x N).getD s 0=(aS a b x t).getD s 0
 | 0,h=>by omega
 | N+1,h=>by
  by_cases e:t=N+1
  ·rw[e]
  ·rw[aS,AH,BU (by rw[cz];omega),<-AH,iP a b x hs N (by omega)]
theorem tO (a b' x:List Rat) (N t:Nat) (ht:t<N):opS (1 :: b') (fe (aS a (1 :: b') x N)) t=opS a (fe x) t:=by
 have e1:(aS a (1 :: b') x N).getD t 0=opS a (fe x) t-opS (1 :: b') (fe (aS a (1 :: b') x t)) t:=by
  rw[iP a (1 :: b') x (show t<t+1 by omega) N (by omega),aS,AH,BA (by rw[cz];exact AA _),cz,BL]
  show iw _ _ _ _ _=_
  rw[vV _ _ _ _ (by rw[cz];exact AA _) _ (AA _),yR _ _ _ _ (AA _),AX,AX]
 have e2:fe (aS a (1 :: b') x t) t=0:=by
  unfold fe;rw[AH,Bc (by rw[cz];exact AA _)];rfl
 rw[db] at e1;rw[db];have e3:shS 1 (opS b' (fe (aS a (1 :: b') x N))) t=shS 1 (opS b' (fe (aS a (1 :: b') x t))) t:=js t fun m hm=>jo b' m fun k hk=>iP a (1 :: b') x (show k<t by omega) N (by omega);rw[e2] at e1;rw[e3]
 show 1*(aS a (1 :: b') x N).getD t 0+_=_
 rw[e1];grind
theorem vy {a b:List ByteArray}{qb:List Rat} (h:aq a b=true) (hb:gD b qb):∃ b',qb=1 :: b':=by
 obtain⟨b1,-,-,-,-,bc,hh⟩:=aN h
 have hl:=hb.e
 subst hl
 match qb,hb,b1,hh with
 | q :: b',hb,_,hh =>
  have e:(tq q).data.toList=[49]:=by
   unfold oT at hh
   simpa using hh
  have:tq q=tq 1:=by
   rw[iR]
   exact fT e
  exact⟨b',by rw[zT (hb.ok q (By ..)) et this]⟩
def iL (a b:List CQ):Nat->CQ
 | 0=>CQ.real 0
 | i+1=>(iL a b i).add ((a.getD i ⟨0,0⟩).mul (b.getD i ⟨0,0⟩))
def kc (a b:List ByteArray):ByteArray×Int :=
 match allC a,allC b with
 | some x,some y=>b8 (iL x y x.length)
 | _,_=>(⟨#[]⟩,10)
def qB (a b:List Rat):Nat->Rat
 | 0=>0
 | i+1=>qB a b i+a.getD i 0*b.getD i 0
theorem mf (a:List Rat) (i:Nat):(a.map CQ.real).getD i ⟨0,0⟩=CQ.real (a.getD i 0):=by
 rw[AH,AH,BZ]
 cases a[i]?<;>rfl
theorem oI (a b:List Rat):∀ i,iL (a.map CQ.real) (b.map CQ.real) i=CQ.real (qB a b i)
 | 0=>rfl
 | i+1=>by rw[iL,qB,oI a b i,mf,mf,pH,pG]
theorem zm {a b:List Rat} (ha:∀ q∈a,okQ q) (hb:∀ q∈b,okQ q) (h:okQ (qB a b a.length)):kc (a.map tq) (b.map tq)=(tq (qB a b a.length),0):=by
 unfold kc;rw[iY a ha,iY b hb]
 show b8 (iL _ _ _)=_
 rw[AY,oI];exact jM h
theorem As (n:Nat) (h:n≠0):(2:Nat) ^ (33*n)<10 ^ (10*n):=by
 rw[BW,BW];exact Nat.pow_lt_pow_left (by decide) h
theorem Af {x k n t:Nat} (h:x<=2 ^ k) (hk:k<=33*n) (ht:10*n=t) (hn:n≠0):x<10 ^ t:=by
 subst ht;exact AZ (AP h (gY hk)) (As n hn)
theorem bQ {x k:Nat} (h:x<=2 ^ k) (hk:k<=6600):x<10 ^ 2000:=Af (n:=200) (t:=2000) h (by omega) rfl (by decide)
def iD (p:List Rat) (j:Nat) (k:Rat):List Rat:=(List.range j).map fun i=>(p.getD i 0-k*p.getD (j-i) 0) / (1-k*k)
def jL:Nat->List Rat->Option (List Rat)
 | 0,_=>some []
 | j+1,p=>if -1<p.getD (j+1) 0/\p.getD (j+1) 0<1 then (jL j (iD p (j+1) (p.getD (j+1) 0))).map fun l=>l++[p.getD (j+1) 0] else none
theorem tJ (p:List Rat) (j:Nat) (k:Rat):(iD p j k).length=j:=by simp[iD]
theorem mw (p:List Rat) (j:Nat) (k:Rat) (i:Nat) (h:i<j):(iD p j k).getD i 0=(p.getD i 0-k*p.getD (j-i) 0) / (1-k*k):=by
 unfold iD;rw[AH,BZ,List.getElem?_range h];rfl
structure uH (e:Nat) (p:List Rat):Prop where
 one:p.getD 0 0=1
 ov:∃ D,0<D/\D<=2 ^ e/\∀ q∈p,Ov D (2 ^ e) q
theorem nQ {k:Rat} (h1:-1<k) (h2:k<1):0<1-k*k:=by
 have e:1-k*k=(1-k)*(1+k):=by grind
 rw[e];exact Rat.mul_pos (by grind) (by grind)
theorem i_ {D:Nat} (h:0<D):(0:Rat)<(D:Rat):=by
 have:=Rat.intCast_lt_intCast.2 (show (0:Int)<(D:Int) by omega);exact this
theorem uZ {D M:Nat}{k:Rat} (hD:0<D) (hk:Ov D M k) (h1:-1<k) (h2:k<1):∃ F:Nat,0<F/\F<=D*D/\1-k*k=(F:Rat) / ((D:Rat)*(D:Rat)):=by
 obtain⟨K,e,-⟩:=hk;have hDc:=aI hD;have hDp:=i_ hD;obtain⟨X,hX⟩:∃ X:Int,X=(D:Int)*D-K*K:=⟨_,rfl⟩
 have hXQ:(X:Rat)=(D:Rat)*(D:Rat)-(K:Rat)*(K:Rat):=by
  have:=congrArg (fun x:Int=>(x:Rat)) hX;simp only[Rat.intCast_sub,Rat.intCast_mul] at this;exact this
 have e1:1-k*k=(X:Rat) / ((D:Rat)*(D:Rat)):=by
  rw[hXQ,e];grind
 have hp:=nQ h1 h2
 have e2:(X:Rat)=(1-k*k)*((D:Rat)*(D:Rat)):=by
  rw[e1];grind
 have hX0:(0:Rat)<(X:Rat):=by
  rw[e2];exact Rat.mul_pos hp (Rat.mul_pos hDp hDp)
 have hX1:0<X:=Rat.intCast_lt_intCast.1 hX0
 have hKK:0<=K*K:=by
  rw[<-CT];exact Int.natCast_nonneg _
 obtain⟨F,hF⟩:∃ F:Nat,X=(F:Int):=⟨X.toNat,by omega⟩;refine⟨F,by omega,?_,?_⟩
 ·have:(F:Int)<=((D*D:Nat):Int):=by rw[Cm];omega
  omega
 ·rw[e1,hF];rfl
theorem wG {D F M:Nat}{x y:Rat} (hD:0<D) (hF:0<F) (hx:Ov (D*D) M x) (hy:y=(F:Rat) / ((D:Rat)*(D:Rat))):Ov F M (x / y):=by
 obtain⟨n,e,hn⟩:=hx;have h1:=aI hD;have h2:=aI hF;refine⟨n,?_,hn⟩;rw[e,hy,Rat.natCast_mul]
 show (n:Rat) / ((D:Rat)*(D:Rat)) / ((F:Rat) / ((D:Rat)*(D:Rat)))=(n:Rat) / (F:Rat)
 grind
theorem qD {e:Nat}:2 ^ e*2 ^ e+2 ^ e*2 ^ e<=2 ^ (2*e+1):=by
 rw[<-BC,AS,Nat.mul_two,show e+e=2*e from by omega];exact AA _
theorem pT {e:Nat}:2 ^ e*2 ^ e<=2 ^ (2*e+1):=AP (Nat.le_add_right _ _) qD
theorem yf {p:List Rat}{e j:Nat} (hp:uH e p) (hl:p.length=j+2) (he:2*e+1<=6600) (h1:-1<p.getD (j+1) 0) (h2:p.getD (j+1) 0<1) :
  jm (p.map tq) (j+1) (tq (p.getD (j+1) 0))=(iD p (j+1) (p.getD (j+1) 0)).map tq/\uH (2*e+1) (iD p (j+1) (p.getD (j+1) 0)):=by
 obtain⟨one,D,hD,hDl,ov⟩:=hp;have hg:∀ i,i<j+2->Ov D (2 ^ e) (p.getD i 0):=fun i hi=>ov _ (fB (by omega));have hk:=hg (j+1) (by omega);obtain⟨k,hke⟩:∃ k,k=p.getD (j+1) 0:=⟨_,rfl⟩;rw[<-hke] at h1 h2 hk |-;obtain⟨F,hF,hFl,hFe⟩:=uZ hD hk h1 h2;have hDD:D*D<=2 ^ (2*e+1):=AP (Be hDl hDl) pT;have hDp:=AN hD hD;have big:=fun (n:Nat) (h:n<=2 ^ (2*e+1))=>bQ h he;have small:2 ^ e<=2 ^ (2*e+1):=gY (by omega);have ok1:∀ i,i<j+2->okQ (p.getD i 0):=fun i hi=>(hg i hi).ok hD (big _ (AP hDl small)) (big _ small);have okk:okQ k:=by rw[hke];exact ok1 _ (by omega)
 have m1:∀ i,i<j+2->Ov (D*D) (2 ^ e*2 ^ e) (k*p.getD i 0):=fun i hi=>hk.mul (hg i hi) hD hD
 have s1:∀ i,i<j+2->∀ l,l<j+2->Ov (D*D) (2 ^ (2*e+1)) (p.getD i 0-k*p.getD l 0):=fun i hi l hl' =>
  (((hg i hi).wide D hD hD).sub (m1 l hl')).mono (AP (Nat.add_le_add_right (AQ _ hDl) _) qD)
 have kk:Ov (D*D) (2 ^ e*2 ^ e) (k*k):=hk.mul hk hD hD
 have one1:Ov (D*D) (D*D) 1:=⟨((D*D:Nat):Int),by
  have:=aI hDp
  show (1:Rat)=((D*D:Nat):Rat) / ((D*D:Nat):Rat)
  grind,Dj (Int.natAbs_natCast _)⟩
 have s2:Ov (D*D) (2 ^ (2*e+1)) (1-k*k):=(one1.sub kk).mono (AP (Nat.add_le_add_right (Be hDl hDl) _) qD);have hne:1-k*k≠0:=by have:=nQ h1 h2;grind
 have q1:∀ i,i<j+2->∀ l,l<j+2->Ov F (2 ^ (2*e+1)) ((p.getD i 0-k*p.getD l 0) / (1-k*k)):=fun i hi l hl'=>wG hD hF (s1 i hi l hl') hFe;have hFb:F<=2 ^ (2*e+1):=AP hFl hDD;have b0:=big _ (AA _);have bD:=big _ hDD;have bF:=big _ hFb;refine⟨?_,?_,F,hF,hFb,?_⟩
 ·unfold jm iD;rw[List.map_map];refine List.map_congr_left fun i hi=>?_;have hi:=BM.1 hi
  show bE (fj (am (p.map tq) i) (cw (tq k) (am (p.map tq) (j+1-i)))) (fj ⟨#[49]⟩ (cw (tq k) (tq k)))=tq _
  rw[f8 (by omega),f8 (by omega),<-iR]
  rw[el okk (ok1 _ (by omega)) ((m1 _ (by omega)).ok hDp bD (big _ pT)),el okk okk (kk.ok hDp bD (big _ pT)),
   kB (ok1 _ (by omega)) ((m1 _ (by omega)).ok hDp bD (big _ pT)) ((s1 i (by omega) (j+1-i) (by omega)).ok hDp bD b0),
   kB et (kk.ok hDp bD (big _ pT)) (s2.ok hDp bD b0),
   hZ ((s1 i (by omega) (j+1-i) (by omega)).ok hDp bD b0) (s2.ok hDp bD b0) hne ((q1 i (by omega) (j+1-i) (by omega)).ok hF bF b0)]
 ·rw[mw _ _ _ _ (by omega),CJ,<-hke,one];grind
 ·intro q hq;unfold iD at hq;obtain⟨i,hi,rfl⟩:=CV.1 hq;have hi:=BM.1 hi;exact q1 i (by omega) _ (by omega)
theorem zQ {e:Nat}{p:List Rat} (hp:uH e p) (he:e<=6600):∀ q∈p,okQ q:=by
 obtain⟨-,D,hD,hDl,ov⟩:=hp;exact fun q hq=>(ov q hq).ok hD (bQ hDl he) (bQ (AA _) he)
theorem qW (j:Nat):1<=2 ^ j:=Bh (by decide)
theorem grow {e j:Nat} (h:(e+1)*2 ^ (j+1)<=6600):2*e+1<=6600/\(2*e+1+1)*2 ^ j<=6600:=by
 have h1:(2*e+1+1)*2 ^ j=(e+1)*2 ^ (j+1):=by
  rw[AS,show 2*e+1+1=(e+1)*2 from by omega,Bn,AT 2]
 have h2:=AQ (2*e+1+1) (qW j);omega
theorem mK:∀ (j:Nat) (p:List Rat) (e:Nat) (pf:List ByteArray),p.length=j+1->uH e p->(e+1)*2 ^ j<=6600->j<=pf.length->gT j (p.map tq) pf=(jL j p).map fun l=>l.map tq++pf.drop j
 | 0,_,_,_,_,_,_,_=>rfl
 | j+1,p,e,pf,hl,hp,he,hpf=>by
  obtain⟨g1,g2⟩:=grow he;have okk:okQ (p.getD (j+1) 0):=zQ hp (by omega) _ (fB (by omega));rw[gT,jL,f8 (by omega),qK okk];by_cases h:-1<p.getD (j+1) 0/\p.getD (j+1) 0<1
  ·obtain⟨n1,n2⟩:=yf hp hl g1 h.1 h.2;rw[if_pos h,if_pos (by rw[decide_eq_true h.1,decide_eq_true h.2];rfl),n1,mK j _ (2*e+1) _ (tJ ..) n2 g2 (by rw[BO];omega)];rw[Option.map_map];congr 1;funext l
   have hd:(pf.set j (tq (p.getD (j+1) 0))).drop j=tq (p.getD (j+1) 0) :: pf.drop (j+1):=by
    rw[Bi (by rw[BO];omega),Cv,List.drop_set_of_lt (by omega)]
   show l.map tq++(pf.set j _).drop j=(l++[p.getD (j+1) 0]).map tq++pf.drop (j+1)
   rw[hd,CU,Bl];rfl
  ·rw[if_neg h,if_neg (by simp only[AV,decide_eq_true_eq];exact h)];rfl
theorem wX {b:List ByteArray}{qb:List Rat} (h:gD b qb) (h1:qb.getD 0 0=1):uH 96 qb:=by
 obtain⟨D,hD,hDl,ov⟩:=h.ov;exact⟨h1,D,hD,AP hDl (gY (by decide)),ov⟩
theorem t_ {j:Nat} (h:j<=6):(96+1)*2 ^ j<=6600:=by
 have:2 ^ j<=2 ^ 6:=gY h;omega
theorem wD {b:List ByteArray}{qb:List Rat} (h:gD b qb) (h1:qb.getD 0 0=1) (hl:0<qb.length):aK b=(jL (qb.length-1) qb).map fun l=>l.map tq:=by
 obtain⟨n,hn⟩:∃ n,qb.length=n+1:=⟨qb.length-1,by omega⟩;have h7:=h.len;unfold aK;rw[h.e,AY,hn,BH,mK n qb 96 _ hn (wX h h1) (t_ (by omega)) (by simp)];congr 1;funext l;rw[List.drop_of_length_le (by simp),BE]
def Fr (D:Nat) (q:Rat):Prop:=∃ n:Int,q=(n:Rat) / (D:Rat)
def Bd (V q:Rat):Prop:=-V<=q/\q<=V
theorem Bd.mono {V W q:Rat} (h:Bd V q) (hw:V<=W):Bd W q:=⟨by have:=h.1;grind,by have:=h.2;grind⟩
theorem Bd.add {V W a b:Rat} (h:Bd V a) (h2:Bd W b):Bd (V+W) (a+b):=⟨by have:=h.1;have:=h2.1;grind,by have:=h.2;have:=h2.2;grind⟩
theorem Bd.sub {V W a b:Rat} (h:Bd V a) (h2:Bd W b):Bd (V+W) (a-b):=⟨by have:=h.1;have:=h2.2;grind,by have:=h.2;have:=h2.1;grind⟩
theorem Bd.mul {V W a b:Rat} (h:Bd V a) (h2:Bd W b):Bd (V*W) (a*b):=by
 obtain⟨a1,a2⟩:=h;obtain⟨b1,b2⟩:=h2;have k1:0<=(V-a)*(W-b):=Rat.mul_nonneg (by grind) (by grind);have k2:0<=(V-a)*(W+b):=Rat.mul_nonneg (by grind) (by grind);have k3:0<=(V+a)*(W-b):=Rat.mul_nonneg (by grind) (by grind);have k4:0<=(V+a)*(W+b):=Rat.mul_nonneg (by grind) (by grind);exact⟨by grind,by grind⟩
theorem Fr.wide {D:Nat}{q:Rat} (h:Fr D q) (E:Nat) (hD:0<D) (hE:0<E):Fr (D*E) q:=by
 obtain⟨n,e⟩:=h;have h1:=aI hD;have h2:=aI hE;refine⟨n*E,?_⟩;rw[e,Rat.intCast_mul,Rat.natCast_mul]
 show (n:Rat) / (D:Rat)=(n:Rat)*((E:Nat):Rat) / ((D:Rat)*(E:Rat))
 grind
theorem Fr.add {D:Nat}{a b:Rat} (h:Fr D a) (h2:Fr D b):Fr D (a+b):=by
 obtain⟨n,e⟩:=h;obtain⟨m,f⟩:=h2;refine⟨n+m,?_⟩;rw[e,f,Rat.intCast_add];grind
theorem Fr.sub {D:Nat}{a b:Rat} (h:Fr D a) (h2:Fr D b):Fr D (a-b):=by
 obtain⟨n,e⟩:=h;obtain⟨m,f⟩:=h2;refine⟨n-m,?_⟩;rw[e,f,Rat.intCast_sub];grind
theorem Fr.mul {D E:Nat}{a b:Rat} (h:Fr D a) (h2:Fr E b) (hD:0<D) (hE:0<E):Fr (D*E) (a*b):=by
 obtain⟨n,e⟩:=h;obtain⟨m,f⟩:=h2;have h1:=aI hD;have h2:=aI hE;refine⟨n*m,?_⟩;rw[e,f,Rat.intCast_mul,Rat.natCast_mul];grind
theorem Fr.over {D M A:Nat}{q c:Rat} (h:Fr (D*M) q) (hc:c=(A:Rat) / (M:Rat)) (hD:0<D) (hM:0<M) (hA:0<A):Fr (D*A) (q / c):=by
 obtain⟨n,e⟩:=h;have h1:=aI hD;have h2:=aI hM;have h3:=aI hA;refine⟨n,?_⟩;rw[e,hc,Rat.natCast_mul,Rat.natCast_mul];grind
theorem Fr.ov {D V:Nat}{q:Rat} (h:Fr D q) (hb:Bd (V:Rat) q) (hD:0<D):Ov D (V*D) q:=by
 obtain⟨n,e⟩:=h;refine⟨n,e,?_⟩;have hp:=i_ hD;have h1:=aI hD;have en:(n:Rat)=q*(D:Rat):=by rw[e];grind
 obtain⟨b1,b2⟩:=hb;have k1:0<=((V:Rat)-q)*(D:Rat):=Rat.mul_nonneg (by grind) (by grind);have k2:0<=((V:Rat)+q)*(D:Rat):=Rat.mul_nonneg (by grind) (by grind)
 have l1:(n:Rat)<=(((V*D:Nat):Int):Rat):=by
  rw[en]
  show q*(D:Rat)<=((V*D:Nat):Rat)
  rw[Rat.natCast_mul];grind
 have l2:(((-((V*D:Nat):Int)):Int):Rat)<=(n:Rat):=by
  rw[en,Rat.intCast_neg]
  show -((V*D:Nat):Rat)<=q*(D:Rat)
  rw[Rat.natCast_mul];grind
 have m1:=Rat.intCast_le_intCast.1 l1;have m2:=Rat.intCast_le_intCast.1 l2;omega
theorem Fr.ok {D V:Nat}{q:Rat} (h:Fr D q) (hb:Bd (V:Rat) q) (hD:0<D) (h1:D<10 ^ 2000) (h2:V*D<10 ^ 2000):okQ q:=(h.ov hb hD).ok hD h1 h2
theorem Fr.ok2 {D V M A:Nat}{q c:Rat} (h:Fr (D*A) q) (hc:c=(A:Rat) / (M:Rat)) (hM:0<M) (hA:0<A) (hb:Bd (V:Rat) (q*c)) (hD:0<D) (h1:D*A<10 ^ 2000) (h2:V*(D*M)<10 ^ 2000):okQ q:=by
 obtain⟨n,e⟩:=h;have k1:=aI hD;have k2:=aI hM;have k3:=aI hA;have hqc:Fr (D*M) (q*c):=⟨n,by rw[e,hc,Rat.natCast_mul,Rat.natCast_mul];grind⟩;obtain⟨n2,e2,hn2⟩:=hqc.ov hb (AN hD hM)
 have en:(n:Rat)=(n2:Rat):=by
  have e3:(n2:Rat)=q*c*((D*M:Nat):Rat):=by
   rw[e2,Rat.natCast_mul];grind
  rw[e3,e,hc,Rat.natCast_mul,Rat.natCast_mul];grind
 have:n=n2:=Rat.intCast_inj.1 en;subst this;exact Ov.ok ⟨n,e,hn2⟩ (AN hD hA) h1 h2
theorem kV:∀ {n:Nat}{a a':Nat->Rat},(∀ i,i<=n->a i=a' i)->cF n a->cF n a'
 | 0,_,_,h,g=>by
  have g0:(0:Rat)<_:=g
  show 0<_
  rw[<-h 0 (AA _)];exact g0
 | n+1,_,_,h,g=>⟨by rw[<-h 0 (AI _)];exact g.1,kV (fun i hi=>jd h h i (by omega)) g.2⟩
theorem vv {n:Nat}{a:Nat->Rat} (g:cF n a) (h:a (n+1)=0):cF (n+1) a :=
 ⟨g.pos,kV (a:=a) (fun i _=>by unfold dnE;rw[h];grind) g⟩
theorem mg {a:Nat->Rat}{n:Nat} (g:cF n a) (h:∀ i,n<i->a i=0):∀ k,cF (n+k) a
 | 0=>g
 | k+1=>vv (mg g h k) (h (n+k+1) (by omega))
theorem kW:∀ (n:Nat) (a:Nat->Rat) (p:List Rat),0<a 0->(∀ i,i<=n->a i=a 0*p.getD i 0)->(jL n p).isSome=true->cF n a
 | 0,a,p,h0,_,_=>h0
 | n+1,a,p,h0,ha,hs=>by
  refine⟨h0,?_⟩;rw[jL] at hs
  split at hs
  ·rename_i hk
   have hd:=nQ hk.1 hk.2;have hne:1-p.getD (n+1) 0*p.getD (n+1) 0≠0:=by grind
   rw[Option.isSome_map] at hs;have hp0:p.getD 0 0=1:=by have:=ha 0 (AI _);grind
   have e0:dnE (n+1) a a 0=a 0*(1-p.getD (n+1) 0*p.getD (n+1) 0):=by
    unfold dnE;rw[CJ,ha (n+1) (AA _)];grind
   refine kW n (dnE (n+1) a a) (iD p (n+1) (p.getD (n+1) 0)) (by rw[e0];exact Rat.mul_pos h0 hd) (fun i hi=>?_) hs;rw[e0,mw _ _ _ _ (by omega)];unfold dnE;rw[ha (n+1) (AA _),ha i (by omega),ha (n+1-i) (by omega)];grind
  ·cases hs
def iy:Nat->Rat
 | 0=>1
 | n+1=>2*iy n
theorem pZ:∀ n,0<iy n
 | 0=>by decide
 | n+1=>by have:=pZ n;unfold iy;grind
theorem uM {A0 k c c' W x y:Rat} (hk:0<A0*(1-k*k)) (h1:-(W*(A0*(1-k*k)))<=c/\c<=W*(A0*(1-k*k))) (h2:-(W*(A0*(1-k*k)))<=c'/\c'<=W*(A0*(1-k*k)))
  (e1:c=x-k*y) (e2:c'=y-k*x) (hW:0<W) (hk1:-1<k) (hk2:k<1):-(2*W*A0)<=x/\x<=2*W*A0:=by
 have hd:0<1-k*k:=nQ hk1 hk2;have ex:x*(1-k*k)=c+k*c':=by rw[e1,e2];grind
 have hT:0<W*(A0*(1-k*k)):=Rat.mul_pos hW hk;obtain⟨T,eT⟩:∃ T,T=W*(A0*(1-k*k)):=⟨_,rfl⟩;rw[<-eT] at h1 h2 hT
 have b1:k*c'<=T:=by
  have p1:=Rat.mul_nonneg (show 0<=1-k by grind) (show 0<=T+c' by grind);have p2:=Rat.mul_nonneg (show 0<=1+k by grind) (show 0<=T-c' by grind);grind
 have b2:-T<=k*c':=by
  have p1:=Rat.mul_nonneg (show 0<=1-k by grind) (show 0<=T-c' by grind);have p2:=Rat.mul_nonneg (show 0<=1+k by grind) (show 0<=T+c' by grind);grind
 have u1:0<=(2*W*A0-x)*(1-k*k):=by
  have:(2*W*A0-x)*(1-k*k)=2*T-(c+k*c'):=by rw[<-ex,eT];grind
  rw[this];grind
 have u2:0<=(2*W*A0+x)*(1-k*k):=by
  have:(2*W*A0+x)*(1-k*k)=2*T+(c+k*c'):=by rw[<-ex,eT];grind
  rw[this];grind
 have v1:0<=2*W*A0-x:=by
  rcases (Rat.le_total:0<=2*W*A0-x\/2*W*A0-x<=0) with h | h
  ·exact h
  ·have p:=Rat.mul_nonneg (show 0<=-(2*W*A0-x) by grind) (Rat.le_of_lt hd);have:(2*W*A0-x)*(1-k*k)=0:=by grind
   rcases Rat.mul_eq_zero.1 this with h | h<;>grind
 have v2:0<=2*W*A0+x:=by
  rcases (Rat.le_total:0<=2*W*A0+x\/2*W*A0+x<=0) with h | h
  ·exact h
  ·have p:=Rat.mul_nonneg (show 0<=-(2*W*A0+x) by grind) (Rat.le_of_lt hd);have:(2*W*A0+x)*(1-k*k)=0:=by grind
   rcases Rat.mul_eq_zero.1 this with h | h<;>grind
 constructor<;>grind
theorem Ar {k:Rat} (h:0<1-k*k):-1<k/\k<1:=by
 constructor
 ·rcases (Rat.le_total:k<=-1\/-1<=k) with h1 | h1
  ·have:=Rat.mul_nonneg (show 0<=-1-k by grind) (show 0<=1-k by grind);grind
  ·rcases Decidable.em (k=-1) with e | e
   ·subst e;grind
   ·grind
 ·rcases (Rat.le_total:1<=k\/k<=1) with h1 | h1
  ·have:=Rat.mul_nonneg (show 0<=k-1 by grind) (show 0<=1+k by grind);grind
  ·rcases Decidable.em (k=1) with e | e
   ·subst e;grind
   ·grind
theorem kX:∀ {n:Nat}{a:Nat->Rat},cF n a->∀ i,i<=n->-(iy n*a 0)<=a i/\a i<=iy n*a 0
 | 0,a,g,i,hi=>by
  have g0:0<a 0:=g;obtain rfl:i=0:=by omega
  unfold iy;constructor<;>grind
 | n+1,a,g,i,hi=>by
  have g0:=g.1;obtain⟨k,hk⟩:∃ k,k=a (n+1) / a 0:=⟨_,rfl⟩;have ek:a (n+1)=k*a 0:=by rw[hk];grind
  have ec:∀ j,dnE (n+1) a a j=a j-k*a (n+1-j):=fun j=>by unfold dnE;rw[hk]
  have ec0:dnE (n+1) a a 0=a 0*(1-k*k):=by rw[ec,CJ,ek];grind
  have c0:=g.2.pos;rw[ec0] at c0
  have hd:0<1-k*k:=by
   rcases (Rat.le_total:0<=1-k*k\/1-k*k<=0) with h | h
   ·rcases Decidable.em (1-k*k=0) with e | e
    ·rw[e] at c0;grind
    ·grind
   ·have:=Rat.mul_nonneg (Rat.le_of_lt g0) (show 0<=-(1-k*k) by grind);grind
  obtain⟨hk1,hk2⟩:=Ar hd;have hW:=pZ n;have ih:=kX g.2;rw[ec0] at ih;by_cases hin:i<=n
  ·by_cases h0:i=0
   ·subst h0
    have hW1:1<=iy (n+1):=by
     have:∀ m,1<=iy m:=fun m=>by
      induction m with
      | zero=>exact (by decide:(1:Rat)<=1)
      | succ m ih=>unfold iy;grind
     exact this _
    have:=Rat.mul_nonneg (show 0<=iy (n+1)-1 by grind) (Rat.le_of_lt g0);constructor<;>grind
   ·have h1:=ih i hin;have h2:=ih (n+1-i) (by omega);exact uM c0 h1 h2 (ec i) (by rw[ec,show n+1-(n+1-i)=i by omega]) hW hk1 hk2
  ·obtain rfl:i=n+1:=by omega
   have hW1:1<=iy (n+1):=by
    have:∀ m,1<=iy m:=fun m=>by
     induction m with
     | zero=>exact (by decide:(1:Rat)<=1)
     | succ m ih=>unfold iy;grind
    exact this _
   rw[ek];have p:=Rat.mul_nonneg (show 0<=iy (n+1)-1 by grind) (Rat.le_of_lt g0);have p1:=Rat.mul_nonneg (show 0<=1-k by grind) (Rat.le_of_lt g0);have p2:=Rat.mul_nonneg (show 0<=1+k by grind) (Rat.le_of_lt g0);constructor<;>grind
theorem dec_lt (n:Nat):n<10 ^ (dec n).length:=Dk fun h=>by have:=fg h;omega
theorem vD {D E M N K:Nat}{a x:List Rat}{t:Nat} (hD:0<D) (hE:0<E) (hDE:D*E<10 ^ 2000) (ha:∀ q∈a,Ov D M q/\okQ q) (hx:∀ q∈x,Ov E N q/\okQ q) (hal:a.length<=7) (ht:t<x.length) (hK:M*N<=K) (h8:8*K<10 ^ 2000) :
  ∀ k,k<=a.length->inT (a.map tq) (x.map tq) t k=tq (inQ a x t k)/\Ov (D*E) (k*K) (inQ a x t k)/\okQ (inQ a x t k)
 | 0,_=>⟨lE.symm,(Ov.zero _).mono (AI _),fE⟩
 | k+1,hk=>by
  obtain⟨h1,h2,h4⟩:=vD hD hE hDE ha hx hal ht hK h8 k (by omega);have hDp:=AN hD hE;rw[inT,inQ];by_cases hkt:k<=t
  ·rw[if_pos hkt,if_pos hkt];have m1:=ha _ (fB (show k<a.length by omega));have m2:=hx _ (fB (show t-k<x.length by omega));have o2:=(m1.1.mul m2.1 hD hE).mono hK;have o3:=h2.add o2;have e3:k*K+K=(k+1)*K:=by rw[Bf,BV]
   rw[e3] at o3;have b3:(k+1)*K<10 ^ 2000:=AZ (AJ K (show k+1<=8 by omega)) h8;have b2:K<10 ^ 2000:=AZ (Nat.le_mul_of_pos_left K (by decide)) h8;have k2:=o2.ok hDp hDE b2;have k3:=o3.ok hDp hDE b3;refine⟨?_,o3,k3⟩;rw[h1,f8 (by omega),f8 (by omega),el m1.2 m2.2 k2,km h4 k2 k3]
  ·rw[if_neg hkt,if_neg hkt];exact⟨h1,h2.mono (AJ _ (Bg k)),h4⟩
def fm (m:Nat->Nat):Nat->Nat
 | 0=>0
 | k+1=>if 0<k then fm m k+m k else fm m k
theorem mG (b y:List Rat) (n:Rat):∀ k,iw b y 0 n k=n
 | 0=>rfl
 | k+1=>by rw[iw,if_neg (by omega),mG b y n k]
theorem mH (b y:List ByteArray) (n:ByteArray):∀ k,jp b y 0 n k=n
 | 0=>rfl
 | k+1=>by rw[jp,if_neg (by omega),mH b y n k]
theorem su {W E I G:Nat}{m:Nat->Nat}{b y:List Rat}{t:Nat}{n:Rat} (hW:0<W) (hE:0<E) (hb:∀ k,0<k->k<b.length->Ov E (m k) (b.getD k 0)) (hbo:∀ k,k<b.length->okQ (b.getD k 0)) (hyl:y.length=t+1) (hEG:E<=G) (hG:E+fm m b.length<=G)
  (hy:∀ s,s<t+1->Ov (W*E ^ s) (I*G ^ s) (y.getD s 0)) (hn:Ov W I n) (hs1:W*E ^ (t+1)<10 ^ 2000) (hs2:I*G ^ (t+1)<10 ^ 2000) (hno:okQ n) (hyo:∀ s,s<t+1->okQ (y.getD s 0)) :
  ∀ k,k<=b.length->jp (b.map tq) (y.map tq) (t+1) (tq n) k=tq (iw b y (t+1) n k)/\Ov (W*E ^ (t+1)) (I*(G ^ t*(E+fm m k))) (iw b y (t+1) n k)/\okQ (iw b y (t+1) n k)/\fm m k<=fm m b.length
 | 0,_=>by
  refine⟨rfl,?_,hno,AI _⟩;refine (hn.wide (E ^ (t+1)) hW (Bh hE)).mono (AQ _ ?_);rw[AS];exact Be (BQ hEG t) (Nat.le_add_right _ _)
 | k+1,hk=>by
  obtain⟨h1,h2,h4,h5⟩:=su hW hE hb hbo hyl hEG hG hy hn hs1 hs2 hno hyo k (by omega);have hEt:0<E ^ (t+1):=Bh hE;have hDp:=AN hW hEt
  have mono:∀ j,fm m j<=fm m (j+1):=fun j=>by
   rw[fm];split<;>omega
  have up:∀ j i,fm m j<=fm m (j+i):=fun j i=>by
   induction i with
   | zero=>exact AA _
   | succ i ih=>exact AP ih (mono _)
  have h5':fm m (k+1)<=fm m b.length:=by
   have:=up (k+1) (b.length-(k+1))
   rwa [show k+1+(b.length-(k+1))=b.length by omega] at this
  rw[jp,iw];by_cases hkt:0<k/\k<=t+1
  ·rw[if_pos hkt,if_pos hkt];have m1:=hb k hkt.1 (by omega);have m2:=hy (t+1-k) (by omega);have hEs:0<E ^ (t+1-k):=Bh hE;have o1:=(m1.mul m2 hE (AN hW hEs)).wide (E ^ (k-1)) (AN hE (AN hW hEs)) (Bh hE)
   have eD:E*(W*E ^ (t+1-k))*E ^ (k-1)=W*E ^ (t+1):=by
    have e:E ^ (t+1)=E*E ^ (t+1-k)*E ^ (k-1):=by
     rw[<-Nat.pow_succ',<-BC];congr 1;omega
    rw[e];simp only[Ct,AT,Bn]
   rw[eD] at o1
   have o2:Ov (W*E ^ (t+1)) (I*(G ^ t*m k)) (b.getD k 0*y.getD (t+1-k) 0):=o1.mono (by
    have g1:E ^ (k-1)<=G ^ (k-1):=BQ hEG _;have g2:G ^ (t+1-k)*G ^ (k-1)=G ^ t:=by rw[<-BC];congr 1;omega
    have g3:=AQ (m k*(I*G ^ (t+1-k))) g1;refine AP g3 (Dj ?_);rw[<-g2]
    simp only[Ct,AT,Bn])
   have o3:=h2.sub o2
   have e3:I*(G ^ t*(E+fm m k))+I*(G ^ t*m k)=I*(G ^ t*(E+fm m (k+1))):=by
    rw[<-CO,<-CO,fm,if_pos hkt.1,Cb]
   rw[e3] at o3
   have b3:I*(G ^ t*(E+fm m (k+1)))<=I*G ^ (t+1):=by
    rw[AS];exact AQ _ (AQ _ (by omega))
   have b2:I*(G ^ t*m k)<=I*(G ^ t*(E+fm m (k+1))):=by rw[<-e3];exact Nat.le_add_left _ _
   have k3:=o3.ok hDp hs1 (AZ b3 hs2);have k2:=o2.ok hDp hs1 (AZ (AP b2 b3) hs2);refine⟨?_,o3,k3,h5'⟩;rw[h1,f8 (by omega),f8 (by omega),el (hbo k (by omega)) (hyo _ (by omega)) k2,kB h4 k2 k3]
  ·rw[if_neg hkt,if_neg hkt];exact⟨h1,h2.mono (AQ _ (AQ _ (by have:=mono k;omega))),h4,h5'⟩
theorem tH {x y K:Nat} (h:x<=8) (hK:8*K=y):x*K<=y:=by rw[<-hK];exact AJ K h
open Go.RowKit Dg
structure uy (w:World) (g:Nat) (p:Option Addr) (c:Nat) (q:Option Addr) (d:Nat) (la lb:List ByteArray):Prop where
 f0:w.cell? ⟨g,0,none⟩=some (.slice p la.length c)
 f1:w.cell? ⟨g,1,none⟩=some (.slice q lb.length d)
 l0:IsS w (.slice p la.length c) la
 l1:IsS w (.slice q lb.length d) lb
 lt:g<w.heap.size
theorem uy.below {w w':World}{g:Nat}{p:Option Addr}{c:Nat}{q:Option Addr}{d:Nat}{la lb:List ByteArray} (h:uy w g p c q d la lb) (hb:Below w.heap.size w w'):uy w' g p c q d la lb :=
 ⟨aa hb h.lt h.f0,aa hb h.lt h.f1,h.l0.below hb,h.l1.below hb,AD h.lt hb.size⟩
theorem uy.F {w:World}{g:Nat}{p:Option Addr}{c:Nat}{q:Option Addr}{d:Nat}{la lb:List ByteArray} (h:uy w g p c q d la lb):IsF w (.agg #[.slice p la.length c,.slice q lb.length d]) la lb:=⟨⟨p,c,q,d,rfl,h.l0,h.l1⟩⟩
end Go.Proofs.YtgakllaobooabaaGreatDoor
