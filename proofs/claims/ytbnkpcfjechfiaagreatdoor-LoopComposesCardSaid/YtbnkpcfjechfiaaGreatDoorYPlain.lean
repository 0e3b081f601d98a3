/- Lemmas of this claim. -/
import Derived.Test.YtbnkpcfjechfiaaGreatDoorYA
set_option linter.all false
set_option maxRecDepth 100000
set_option maxHeartbeats 8000000
namespace Go.Proofs.YtbnkpcfjechfiaaGreatDoor.Dg
def val (b:Nat):List Nat→Nat
 | []=>0
 | d :: l=>d+b*val b l
@[simp] theorem val_nil (b:Nat):val b []=0:=rfl
@[simp] theorem dR (b d:Nat) (l:List Nat):val b (d :: l)=d+b*val b l:=rfl
theorem oT (b:Nat) (l m:List Nat):val b (l++m)=val b l+b ^ l.length*val b m:=by
 induction l with
 | nil=>simp
 | cons d l ih=>simp only[Gc,dR,ih,FK,FH];grind
theorem fg (b:Nat) (l:List Nat) (h:∀ d∈l,d<b):val b l<b ^ l.length:=by
 induction l with
 | nil=>simp
 | cons d l ih =>
  have h1:=ih (fun x hx=>h x (FZ _ hx));have h2:=h d (FW ..);simp only[dR,FK,FH];have:b*(val b l+1)≤b*b ^ l.length:=FU _ h1;rw[FL (b ^ l.length) b];rw[IC] at this;omega
theorem dS (b:Nat) (l:List Nat) (d:Nat):val b (l++[d])=val b l+b ^ l.length*d:=by
 rw[oT];simp
theorem l5 (b n:Nat):val b (List.replicate n 0)=0:=by
 induction n with
 | zero=>simp
 | succ n ih=>simp[GK,ih]
theorem xB (b:Nat):∀ (l:List Nat) (k d:Nat) (h:k<l.length),val b (l.set k d)+l[k]*b ^ k=val b l+d*b ^ k
 | [],k,d,h=>by simp at h
 | x :: l,0,d,h=>by simp;omega
 | x :: l,k+1,d,h=>by
  have hk:k<l.length:=by simpa using h
  have ih:=xB b l k d hk;simp only[Fp,dR,Fl,FH];have:b*(val b (l.set k d)+l[k]*b ^ k)=b*(val b l+d*b ^ k):=by rw[ih]
  grind
theorem gZ (b:Nat) (l:List Nat) (k:Nat) (h:k<l.length):val b (l.take (k+1))=val b (l.take k)+l[k]*b ^ k:=by
 rw[GT h,dS,FM];rw[Gf (by omega),FL]
theorem fh (b:Nat) (l:List Nat) (k:Nat):val b l=val b (l.take k)+b ^ (min k l.length)*val b (l.drop k):=by
 have:=oT b (l.take k) (l.drop k);rw[In] at this;rw[this,FM]
def Can (b:Nat) (l:List Nat):Prop:=(∀ d∈l,d<b)∧∀ hne,l.getLast hne≠0
theorem qO (b:Nat):Can b []:=⟨by simp,by simp⟩
def lean:List Nat→List Nat
 | []=>[]
 | d :: l=>match lean l with
  | []=>if d=0 then [] else [d]
  | e :: m=>d :: e :: m
theorem eA (d:Nat) (l:List Nat):lean (d :: l)=if lean l=[]∧d=0 then [] else d :: lean l:=by
 simp only[lean]
 cases h:lean l with
 | nil=>by_cases hd:d=0<;>simp[hd]
 | cons e m=>simp
theorem oU (b:Nat) (l:List Nat):val b (lean l)=val b l:=by
 induction l with
 | nil=>rfl
 | cons d l ih =>
  rw[eA]
  split
  ·rename_i h;simp[←ih,h.1,h.2]
  ·simp[ih]
theorem nX (l:List Nat):lean (l++[0])=lean l:=by
 induction l with
 | nil=>simp[lean]
 | cons d l ih=>rw[Gc,eA,eA,ih]
theorem yF (l:List Nat) (d:Nat) (h:d≠0):lean (l++[d])=l++[d]:=by
 induction l with
 | nil=>simp[lean,h]
 | cons e l ih=>rw[Gc,eA,ih];simp
theorem tj {b:Nat}{l:List Nat} (h:∀ d∈l,d<b):Can b (lean l):=by
 induction l with
 | nil=>exact qO b
 | cons d l ih =>
  have ih:=ih (fun x hx=>h x (FZ _ hx));have hd:=h d (FW ..);rw[eA]
  split
  ·exact qO b
  ·rename_i hn
   refine⟨?_,?_⟩
   ·intro x hx;rcases Gy.1 hx with rfl | hx
    ·exact hd
    ·exact ih.1 x hx
   ·intro hne;by_cases hl:lean l=[]
    ·simp only[hl,List.getLast_singleton];intro h0;exact hn ⟨hl,h0⟩
    ·rw[II hl];exact ih.2 hl
theorem bD (l:List Nat):(lean l).length≤l.length:=by
 induction l with
 | nil=>simp[lean]
 | cons d l ih=>rw[eA];split<;>simp<;>omega
theorem jV (l:List Nat):l.take (lean l).length=lean l:=by
 induction l with
 | nil=>simp[lean]
 | cons d l ih=>rw[eA];split<;>simp[ih]
def ar (b n:Nat):List Nat:=if _h:n=0∨b<2 then [] else n % b :: ar b (n / b)
termination_by n
decreasing_by exact IS (by omega) (by omega)
theorem bR (b:Nat):ar b 0=[]:=by rw[ar];simp
theorem digs_pos {b n:Nat} (hb:2≤b) (h:n≠0):ar b n=n % b :: ar b (n / b):=by
 rw[ar,dif_neg (by omega)]
theorem aA {b:Nat} (hb:2≤b) (n:Nat):val b (ar b n)=n:=by
 induction n using Nat.strongRecOn with
 | ind n ih =>
  by_cases h:n=0
  ·subst h;simp[bR]
  ·rw[digs_pos hb h,dR,ih _ (IS (by omega) hb)];exact Nat.mod_add_div n b
theorem cT {b n:Nat} (hb:2≤b):ar b n=[]↔n=0:=by
 constructor
 ·intro h;by_cases h0:n=0
  ·exact h0
  ·rw[digs_pos hb h0] at h;cases h
 ·rintro rfl;exact bR b
theorem jm {b:Nat} (hb:2≤b) (n:Nat):Can b (ar b n):=by
 induction n using Nat.strongRecOn with
 | ind n ih =>
  by_cases h:n=0
  ·subst h;rw[bR];exact qO b
  ·have ih':=ih _ (IS (GX h) hb);rw[digs_pos hb h];refine⟨?_,?_⟩
   ·intro d hd;rcases Gy.1 hd with rfl | hd
    ·exact Gm _ (by omega)
    ·exact ih'.1 d hd
   ·intro hne;by_cases hl:ar b (n / b)=[]
    ·have hlt:n / b=0:=(cT hb).1 hl;simp only[hl,List.getLast_singleton];have:=Nat.mod_add_div n b;rw[hlt] at this;omega
    ·rw[II hl];exact ih'.2 hl
theorem el {b:Nat}{l:List Nat} (h:Can b l) (hne:l≠[]):b ^ (l.length-1)≤val b l:=by
 have hs:=Iz hne;rw[←hs,dS];simp only[FA,List.length_dropLast,FK,Gj];have h1:=GX (h.2 hne);have:b ^ (l.length-1)*1≤b ^ (l.length-1)*l.getLast hne:=FU _ h1;have e:l.length-1+(0+1)-1=l.length-1:=by omega
 rw[e];omega
theorem jn {b:Nat} (hb:2≤b) {l:List Nat} (h:Can b l):ar b (val b l)=l:=by
 induction l with
 | nil=>simp[bR]
 | cons d l ih =>
  have hc:Can b l:=⟨fun x hx=>h.1 x (FZ _ hx),fun hne=>by have:=h.2 (by simp);rwa [II hne] at this⟩;have hd:=h.1 d (FW ..)
  have hne:val b (d :: l)≠0:=by
   have:=el h (by simp);have h2:0<b ^ ((d :: l).length-1):=Ha (by omega);omega
  rw[digs_pos hb hne,dR,Nat.add_mul_mod_self_left,G9 hd,Iu _ _ (by omega),GH hd,Gq,ih hc]
theorem aU {b:Nat} (hb:2≤b) {n k:Nat} (h:n<b ^ k):(ar b n).length≤k:=by
 by_cases hn:ar b n=[]
 ·simp[hn]
 ·have:=el (jm hb n) hn;rw[aA hb] at this;have h2:b ^ ((ar b n).length-1)<b ^ k:=FO this h;have h3:=(Nat.pow_lt_pow_iff_right (by omega:1<b)).1 h2;have:0<(ar b n).length:=FN.2 hn;omega
theorem bG {b:Nat} (hb:2≤b) (n:Nat):n<b ^ (ar b n).length:=by
 have:=fg b (ar b n) (jm hb n).1
 rwa [aA hb] at this
theorem cH {b:Nat} (hb:2≤b) {l:List Nat} (h:∀ d∈l,d<b):lean l=ar b (val b l):=by
 have:=jn hb (tj h);rw[oU] at this;exact this.symm
/-! comparison -/
theorem ci {b:Nat} (hb:2≤b) {l m:List Nat} (hl:Can b l) (hm:Can b m) (h:l.length<m.length):val b l<val b m:=by
 have h1:=fg b l hl.1;have h2:=el hm (by intro e;simp[e] at h);have h3:b ^ l.length≤b ^ (m.length-1):=FI (by omega) (by omega);omega
theorem ft {b:Nat}{l m:List Nat} (hl:∀ d∈l,d<b) (hlen:l.length=m.length) (k:Nat) (hk:k<l.length)
  (hsame:l.drop (k+1)=m.drop (k+1)) (hlt:l[k]<m[k]'(by omega)):val b l<val b m:=by
 have e1:=fh b l (k+1);have e2:=fh b m (k+1);have hk':k<m.length:=by omega
 rw[gZ b l k hk] at e1;rw[gZ b m k hk'] at e2;rw[hsame,Gf (by omega)] at e1;rw[Gf (by omega)] at e2
 have h1:val b (l.take k)<b ^ k:=by
  have:=fg b (l.take k) (fun d hd=>hl d (G6 hd))
  rwa [FM,Gf (by omega)] at this
 have h2:(l[k]+1)*b ^ k≤m[k]*b ^ k:=Fy _ hlt;rw[Ga] at h2;omega
end Go.Proofs.YtbnkpcfjechfiaaGreatDoor.Dg
namespace Go.Proofs.YtbnkpcfjechfiaaGreatDoor.Kn
theorem guess_low {b P U V top u2 ulow vt v2 vlow q r:Nat} (hU:U=(top*b+u2)*P+ulow) (hV:V=(vt*b+v2)*P+vlow) (hvlow:vlow<P)
  (hqr:q*vt+r=top) (hq:q<b) (hvt:1≤vt) (hex:q*v2≤r*b+u2):(q-1)*V≤U:=by
 cases q with
 | zero=>simp
 | succ q =>
  simp only[GW]
  have h1:(q+1)*(vt*b+v2)≤top*b+u2:=by
   have:(q+1)*(vt*b+v2)=(q+1)*vt*b+(q+1)*v2:=by grind
   have h2:top*b=(q+1)*vt*b+r*b:=by rw[←hqr,Ga]
   omega
  have h3:q≤vt*b+v2:=by
   have:1*b≤vt*b:=Fy _ hvt
   omega
  have h4:q*(vt*b+v2+1)≤(q+1)*(vt*b+v2):=by
   rw[IC,Ga];omega
  have h5:V≤(vt*b+v2+1)*P:=by rw[hV,Ga (vt*b+v2) 1 P];omega
  calc q*V≤q*((vt*b+v2+1)*P):=FU _ h5
   _=q*(vt*b+v2+1)*P:=by rw[IG]
   _≤(q+1)*(vt*b+v2)*P:=Fy _ h4
   _≤(top*b+u2)*P:=Fy _ h1
   _≤U:=by omega
theorem guess_back {b P U V top u2 ulow vt v2 vlow q r:Nat} (hU:U=(top*b+u2)*P+ulow) (hul:ulow<P) (hV:V=(vt*b+v2)*P+vlow)
  (hlt:U<V*b) (hqr:q*vt+r=top) (hb:b≤q∨r*b+u2<q*v2):U<q*V:=by
 rcases hb with hb | hb
 ·have:b*V≤q*V:=Fy _ hb;rw[FL b V] at this;omega
 ·have h1:top*b+u2+1≤q*(vt*b+v2):=by
   have:q*(vt*b+v2)=q*vt*b+q*v2:=by grind
   have h2:top*b=q*vt*b+r*b:=by rw[←hqr,Ga]
   omega
  have h2:(top*b+u2+1)*P≤q*(vt*b+v2)*P:=Fy _ h1
  have h3:q*(vt*b+v2)*P≤q*V:=by
   rw[IG];exact FU _ (by omega)
  rw[Ga (top*b+u2) 1 P] at h2;omega
theorem guess_first {b P U V top u2 ulow vt v2 vlow:Nat} (hU:U=(top*b+u2)*P+ulow) (hul:ulow<P) (hu2:u2<b) (hV:V=(vt*b+v2)*P+vlow)
  (hvt:1≤vt):U<(top / vt+1)*V:=by
 have h1:top+1≤(top / vt+1)*vt:=by
  have:=Gk top vt;have h2:=Gm top (show vt > 0 by omega);rw[Ga,FL (top / vt) vt];omega
 have h2:(top+1)*(b*P)≤(top / vt+1)*vt*(b*P):=Fy _ h1
 have h3:(top / vt+1)*vt*(b*P)≤(top / vt+1)*V:=by
  rw[IG];refine FU _ ?_;have:vt*(b*P)=vt*b*P:=by grind
  rw[hV,Ga,this];omega
 have h4:U<(top+1)*(b*P):=by
  have h5:u2+1≤b:=hu2;have h6:(u2+1)*P≤b*P:=Fy _ h5;have e1:(top+1)*(b*P)=top*b*P+b*P:=by grind
  have e2:(top*b+u2)*P=top*b*P+u2*P:=by grind
  have e3:(u2+1)*P=u2*P+P:=by grind
  omega
 omega
theorem round_fits {M N U V low q W t borrow:Nat} (hlow:low<M) (hbal:W+t*N+q*V*M=U*M+low+borrow*N)
  (hhi:U<(q+1)*V) (ht:borrow≤t):W+(t-borrow)*N+q*V*M=U*M+low∧W+(t-borrow)*N<V*M:=by
 have e:t*N=(t-borrow)*N+borrow*N:=by rw[←Ga];congr 1;omega
 have h1:W+(t-borrow)*N+q*V*M=U*M+low:=by omega
 refine⟨h1,?_⟩;have h2:(U+1)*M≤(q+1)*V*M:=Fy _ hhi;have e2:(U+1)*M=U*M+M:=by grind
 have e3:(q+1)*V*M=q*V*M+V*M:=by grind
 omega
theorem round_back {b M N U V low q W t borrow W2 carry:Nat} (hW:W<N) (hW2:W2<N)  (hVN:V*M≤N) (hbb:borrow≤b)
  (hbal:W+t*N+q*V*M=U*M+low+borrow*N) (hlo:(q-1)*V≤U) (ht:t<borrow)
  (hadd:W2+carry*N=W+V*M):1≤q∧W2+(q-1)*V*M=U*M+low∧W2<V*M∧t+b-borrow+carry=b:=by
 have hq:1≤q:=by
  cases q with
  | zero =>
   have:(t+1)*N≤borrow*N:=Fy _ ht;rw[Ga] at this;omega
  | succ q=>omega
 have e1:q*V*M=(q-1)*V*M+V*M:=by
  obtain⟨p,rfl⟩:∃ p,q=p+1:=⟨q-1,by omega⟩;simp only[GW];grind
 have h1:(t+1)*N≤borrow*N:=Fy _ ht;rw[Ga] at h1;have h2:(q-1)*V*M≤U*M:=Fy _ hlo
 -- R: the true rest
 obtain⟨R,hR⟩:∃ R,U*M+low=(q-1)*V*M+R:=⟨U*M+low-(q-1)*V*M,by omega⟩
 -- t N + W + V M = R + borrow N
 have h3:W+t*N+V*M=R+borrow*N:=by omega
 have h4:W2+carry*N+t*N=R+borrow*N:=by omega
 have hRlt:R<V*M:=by omega
 have hRN:R<N:=by omega
 have hN:0<N:=by omega
 have h5:W2+(carry+t)*N=R+borrow*N:=by rw[Ga];omega
 have h6:carry+t=borrow:=by
  have a1:(W2+(carry+t)*N) / N=carry+t:=by rw[Io _ _ hN,GH hW2,Gq]
  have a2:(R+borrow*N) / N=borrow:=by rw[Io _ _ hN,GH hRN,Gq]
  rw[←a1,h5,a2]
 refine⟨hq,?_,?_,?_⟩
 ·rw[h6] at h5;omega
 ·rw[h6] at h5;omega
 ·omega
end Go.Proofs.YtbnkpcfjechfiaaGreatDoor.Kn
namespace Go.Proofs.YtbnkpcfjechfiaaGreatDoor.Dc
def dg (k:Nat):UInt8:=UInt8.ofNat (48+k)
def dec (n:Nat):List UInt8:=if _h:n<10 then [dg n] else dec (n / 10)++[dg (n % 10)]
termination_by n
decreasing_by omega
theorem dY {n:Nat} (h:n<10):dec n=[dg n]:=by rw[dec,dif_pos h]
theorem iJ {n:Nat} (h:10≤n):dec n=dec (n / 10)++[dg (n % 10)]:=by rw[dec,dif_neg (by omega)]
theorem gq (n:Nat):dec n≠[]:=by
 by_cases h:n<10
 ·rw[dY h];simp
 ·rw[iJ (by omega)];simp
theorem gp (n:Nat):0<(dec n).length:=FN.2 (gq n)
theorem bC {k n:Nat} (hk:1≤k) (h:n<10 ^ k):(dec n).length≤k:=by
 induction k generalizing n with
 | zero=>omega
 | succ k ih =>
  by_cases hn:n<10
  ·rw[dY hn];simp
  ·rw[iJ (by omega),FA]
   have hk1:1≤k:=by
    cases k with
    | zero=>simp at h;omega
    | succ k=>omega
   have:=ih hk1 (n:=n / 10) (by rw[FH] at h;omega);simp;omega
theorem kh {k n:Nat} (h:10 ^ k≤n):k+1≤(dec n).length:=by
 induction k generalizing n with
 | zero=>exact gp n
 | succ k ih =>
  have h10:10≤n:=by
   have:10 ^ 1≤10 ^ (k+1):=FI (by omega) (by omega);omega
  rw[iJ h10,FA];have:=ih (n:=n / 10) (by rw[FH] at h;omega);simp;omega
def low:Nat→Nat→List UInt8
 | 0,_=>[]
 | k+1,n=>low k (n / 10)++[dg (n % 10)]
theorem iO (k n:Nat):(low k n).length=k:=by
 induction k generalizing n with
 | zero=>rfl
 | succ k ih=>simp[low,ih]
theorem A0 (k:Nat):low k 0=List.replicate k 48:=by
 induction k with
 | zero=>rfl
 | succ k ih=>simp only[low,Nat.zero_div,ih,Nat.zero_mod];exact (Hi ..).symm
theorem jP (k n:Nat) (h:10 ^ k≤n):dec n=dec (n / 10 ^ k)++low k (n % 10 ^ k):=by
 induction k generalizing n with
 | zero=>simp[low]
 | succ k ih =>
  have h10:10≤n:=by
   have:10 ^ 1≤10 ^ (k+1):=FI (by omega) (by omega);omega
  have hq:10 ^ k≤n / 10:=by rw[FH] at h;omega
  rw[iJ h10,ih _ hq,low,F7];have e1:n / 10 / 10 ^ k=n / 10 ^ (k+1):=by rw[Nat.div_div_eq_div_mul,FH,FL]
  have e2:n % 10 ^ (k+1) / 10=n / 10 % 10 ^ k:=by
   rw[FH,FL,Nat.mod_mul_right_div_self]
  have e3:n % 10 ^ (k+1) % 10=n % 10:=by
   rw[FH];exact Nat.mod_mod_of_dvd _ (Nat.dvd_mul_left _ _)
  rw[e1,e2,e3]
theorem Ek (k n:Nat) (hk:1≤k) (h:n<10 ^ k):low k n=List.replicate (k-(dec n).length) 48++dec n:=by
 induction k generalizing n with
 | zero=>omega
 | succ k ih =>
  by_cases hn:n<10
  ·rw[low,GH hn,A0,dY hn,G9 hn];simp
  ·have hk1:1≤k:=by
    cases k with
    | zero=>simp at h;omega
    | succ k=>omega
   have hd:n / 10<10 ^ k:=by rw[FH] at h;omega
   rw[low,ih _ hk1 hd,iJ (n:=n) (by omega),F7,FA];simp
def a_ (c:UInt8):Bool:=decide (48≤c.toNat)&&decide (c.toNat≤57)
def aS (l:List UInt8):Nat:=l.foldl (fun n c=>10*n+(c.toNat-48)) 0
theorem yy (l:List UInt8) (n:Nat):l.foldl (fun n c=>10*n+(c.toNat-48)) n=n*10 ^ l.length+aS l:=by
 induction l generalizing n with
 | nil=>simp[aS]
 | cons c l ih =>
  simp only[List.foldl_cons,FK,aS];rw[ih,ih (10*0+(c.toNat-48)),FH];grind
theorem d8 (l m:List UInt8):aS (l++m)=aS l*10 ^ m.length+aS m:=by
 rw[aS,List.foldl_append,yy];rfl
theorem me (l:List UInt8) (c:UInt8):aS (l++[c])=10*aS l+(c.toNat-48):=by
 rw[d8];simp[aS];omega
theorem fZ (l:List UInt8) (h:l.all a_=true):aS l<10 ^ l.length:=by
 induction l with
 | nil=>simp[aS]
 | cons c l ih =>
  simp only[H6,FP] at h;have ih:=ih h.2;have hc:c.toNat≤57:=by have:=h.1;simp[a_] at this;exact this.2
  have:c :: l=[c]++l:=rfl;rw[this,d8];simp only[aS,List.foldl_cons,List.foldl_nil,FA,FK,Gj,G_] at *
  have h2:(10*0+(c.toNat-48))*10 ^ l.length≤9*10 ^ l.length:=Fy _ (by omega);omega
theorem lQ {k:Nat} (h:k<10):(dg k).toNat=48+k:=by
 rw[dg,UInt8.toNat_ofNat'];exact G9 (by omega)
theorem mj {k:Nat} (h:k<10):a_ (dg k)=true:=by
 simp only[a_,lQ h];simp;omega
theorem ef (n:Nat):(dec n).all a_=true:=by
 induction n using Nat.strongRecOn with
 | ind n ih =>
  by_cases h:n<10
  ·rw[dY h];simp[mj h]
  ·rw[iJ (by omega)];simp[ih (n / 10) (by omega),mj (Gm n (by omega))]
theorem kv (n:Nat):aS (dec n)=n:=by
 induction n using Nat.strongRecOn with
 | ind n ih =>
  by_cases h:n<10
  ·rw[dY h];simp[aS,lQ h]
  ·rw[iJ (by omega),me,ih (n / 10) (by omega),lQ (Gm n (by omega))];omega
end Go.Proofs.YtbnkpcfjechfiaaGreatDoor.Dc
