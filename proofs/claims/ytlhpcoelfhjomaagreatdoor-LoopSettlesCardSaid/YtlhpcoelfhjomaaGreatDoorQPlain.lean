/- L -/
import Derived.Test.YtlhpcoelfhjomaaGreatDoorQA
set_option linter.all false
set_option maxRecDepth 100000
set_option maxHeartbeats 8000000
namespace Go.Proofs.YtlhpcoelfhjomaaGreatDoor.Dg
def val (b:Nat):List Nat->Nat
 | []=>0
 | d :: l=>d+b*val b l
@[simp] theorem val_nil (b:Nat):val b []=0:=rfl
@[simp] theorem eH (b d:Nat) (l:List Nat):val b (d :: l)=d+b*val b l:=rfl
theorem ri (b:Nat) (l m:List Nat):val b (l++m)=val b l+b ^ l.length*val b m:=by
 induction l with
 | nil=>simp
 | cons d l ih=>simp only[Jf,eH,ih,IT,IN];grind
theorem f9 (b:Nat) (l:List Nat) (h:∀ d∈l,d<b):val b l<b ^ l.length:=by
 induction l with
 | nil=>simp
 | cons d l ih =>
  have h1:=ih (fun x hx=>h x (JL _ hx));have h2:=h d (JA ..);simp only[eH,IT,IN];have:b*(val b l+1)<=b*b ^ l.length:=IV _ h1;rw[IM (b ^ l.length) b];rw[K8] at this;omega
theorem eI (b:Nat) (l:List Nat) (d:Nat):val b (l++[d])=val b l+b ^ l.length*d:=by
 rw[ri];simp
theorem nP (b n:Nat):val b (List.replicate n 0)=0:=by
 induction n with
 | zero=>simp
 | succ n ih=>simp[Kj,ih]
theorem Aq (b:Nat):∀ (l:List Nat) (k d:Nat) (h:k<l.length),val b (l.set k d)+l[k]*b ^ k=val b l+d*b ^ k
 | [],k,d,h=>by simp at h
 | x :: l,0,d,h=>by simp;omega
 | x :: l,k+1,d,h=>by
  have hk:k<l.length:=by simpa using h
  have ih:=Aq b l k d hk;simp only[Iv,eH,Is,IN];have:b*(val b (l.set k d)+l[k]*b ^ k)=b*(val b l+d*b ^ k):=by rw[ih]
  grind
theorem iZ (b:Nat) (l:List Nat) (k:Nat) (h:k<l.length):val b (l.take (k+1))=val b (l.take k)+l[k]*b ^ k:=by
 rw[J0 h,eI,IY];rw[Jp (by omega),IM]
theorem f_ (b:Nat) (l:List Nat) (k:Nat):val b l=val b (l.take k)+b ^ (min k l.length)*val b (l.drop k):=by
 have:=ri b (l.take k) (l.drop k);rw[Lf] at this;rw[this,IY]
def Can (b:Nat) (l:List Nat):Prop:=(∀ d∈l,d<b)/\∀ hne,l.getLast hne≠0
theorem tF (b:Nat):Can b []:=⟨by simp,by simp⟩
def lean:List Nat->List Nat
 | []=>[]
 | d :: l=>match lean l with
  | []=>if d=0 then [] else [d]
  | e :: m=>d :: e :: m
theorem fm (d:Nat) (l:List Nat):lean (d :: l)=if lean l=[]/\d=0 then [] else d :: lean l:=by
 simp only[lean]
 cases h:lean l with
 | nil=>by_cases hd:d=0<;>simp[hd]
 | cons e m=>simp
theorem rj (b:Nat) (l:List Nat):val b (lean l)=val b l:=by
 induction l with
 | nil=>rfl
 | cons d l ih =>
  rw[fm]
  split
  ·rename_i h;simp[<-ih,h.1,h.2]
  ·simp[ih]
theorem qg (l:List Nat):lean (l++[0])=lean l:=by
 induction l with
 | nil=>simp[lean]
 | cons d l ih=>rw[Jf,fm,fm,ih]
theorem Bf (l:List Nat) (d:Nat) (h:d≠0):lean (l++[d])=l++[d]:=by
 induction l with
 | nil=>simp[lean,h]
 | cons e l ih=>rw[Jf,fm,ih];simp
theorem vU {b:Nat}{l:List Nat} (h:∀ d∈l,d<b):Can b (lean l):=by
 induction l with
 | nil=>exact tF b
 | cons d l ih =>
  have ih:=ih (fun x hx=>h x (JL _ hx));have hd:=h d (JA ..);rw[fm]
  split
  ·exact tF b
  ·rename_i hn
   refine⟨?_,?_⟩
   ·intro x hx;rcases Jv.1 hx with rfl | hx
    ·exact hd
    ·exact ih.1 x hx
   ·intro hne;by_cases hl:lean l=[]
    ·simp only[hl,List.getLast_singleton];intro h0;exact hn ⟨hl,h0⟩
    ·rw[Lw hl];exact ih.2 hl
theorem bO (l:List Nat):(lean l).length<=l.length:=by
 induction l with
 | nil=>simp[lean]
 | cons d l ih=>rw[fm];split<;>simp<;>omega
theorem kX (l:List Nat):l.take (lean l).length=lean l:=by
 induction l with
 | nil=>simp[lean]
 | cons d l ih=>rw[fm];split<;>simp[ih]
def aq (b n:Nat):List Nat:=if _h:n=0\/b<2 then [] else n % b :: aq b (n / b)
termination_by n
decreasing_by exact LG (by omega) (by omega)
theorem cz (b:Nat):aq b 0=[]:=by rw[aq];simp
theorem digs_pos {b n:Nat} (hb:2<=b) (h:n≠0):aq b n=n % b :: aq b (n / b):=by
 rw[aq,dif_neg (by omega)]
theorem aA {b:Nat} (hb:2<=b) (n:Nat):val b (aq b n)=n:=by
 induction n using Nat.strongRecOn with
 | ind n ih =>
  by_cases h:n=0
  ·subst h;simp[cz]
  ·rw[digs_pos hb h,eH,ih _ (LG (by omega) hb)];exact Nat.mod_add_div n b
theorem dy {b n:Nat} (hb:2<=b):aq b n=[]↔n=0:=by
 constructor
 ·intro h;by_cases h0:n=0
  ·exact h0
  ·rw[digs_pos hb h0] at h;cases h
 ·rintro rfl;exact cz b
theorem kj {b:Nat} (hb:2<=b) (n:Nat):Can b (aq b n):=by
 induction n using Nat.strongRecOn with
 | ind n ih =>
  by_cases h:n=0
  ·subst h;rw[cz];exact tF b
  ·have ih':=ih _ (LG (JU h) hb);rw[digs_pos hb h];refine⟨?_,?_⟩
   ·intro d hd;rcases Jv.1 hd with rfl | hd
    ·exact Jw _ (by omega)
    ·exact ih'.1 d hd
   ·intro hne;by_cases hl:aq b (n / b)=[]
    ·have hlt:n / b=0:=(dy hb).1 hl;simp only[hl,List.getLast_singleton];have:=Nat.mod_add_div n b;rw[hlt] at this;omega
    ·rw[Lw hl];exact ih'.2 hl
theorem ff {b:Nat}{l:List Nat} (h:Can b l) (hne:l≠[]):b ^ (l.length-1)<=val b l:=by
 have hs:=Lq hne;rw[<-hs,eI];simp only[IG,List.length_dropLast,IT,Jn];have h1:=JU (h.2 hne);have:b ^ (l.length-1)*1<=b ^ (l.length-1)*l.getLast hne:=IV _ h1;have e:l.length-1+(0+1)-1=l.length-1:=by omega
 rw[e];omega
theorem kl {b:Nat} (hb:2<=b) {l:List Nat} (h:Can b l):aq b (val b l)=l:=by
 induction l with
 | nil=>simp[cz]
 | cons d l ih =>
  have hc:Can b l:=⟨fun x hx=>h.1 x (JL _ hx),fun hne=>by have:=h.2 (by simp);rwa [Lw hne] at this⟩;have hd:=h.1 d (JA ..)
  have hne:val b (d :: l)≠0:=by
   have:=ff h (by simp);have h2:0<b ^ ((d :: l).length-1):=I9 (by omega);omega
  rw[digs_pos hb hne,eH,Nat.add_mul_mod_self_left,J9 hd,Lk _ _ (by omega),JM hd,Jk,ih hc]
theorem aZ {b:Nat} (hb:2<=b) {n k:Nat} (h:n<b ^ k):(aq b n).length<=k:=by
 by_cases hn:aq b n=[]
 ·simp[hn]
 ·have:=ff (kj hb n) hn;rw[aA hb] at this;have h2:b ^ ((aq b n).length-1)<b ^ k:=Jb this h;have h3:=(Nat.pow_lt_pow_iff_right (by omega:1<b)).1 h2;have:0<(aq b n).length:=IU.2 hn;omega
theorem bV {b:Nat} (hb:2<=b) (n:Nat):n<b ^ (aq b n).length:=by
 have:=f9 b (aq b n) (kj hb n).1
 rwa [aA hb] at this
theorem c_ {b:Nat} (hb:2<=b) {l:List Nat} (h:∀ d∈l,d<b):lean l=aq b (val b l):=by
 have:=kl hb (vU h);rw[rj] at this;exact this.symm
/-! comparison -/
theorem cQ {b:Nat} (hb:2<=b) {l m:List Nat} (hl:Can b l) (hm:Can b m) (h:l.length<m.length):val b l<val b m:=by
 have h1:=f9 b l hl.1;have h2:=ff hm (by intro e;simp[e] at h);have h3:b ^ l.length<=b ^ (m.length-1):=IQ (by omega) (by omega);omega
theorem gw {b:Nat}{l m:List Nat} (hl:∀ d∈l,d<b) (hlen:l.length=m.length) (k:Nat) (hk:k<l.length)
  (hsame:l.drop (k+1)=m.drop (k+1)) (hlt:l[k]<m[k]'(by omega)):val b l<val b m:=by
 have e1:=f_ b l (k+1);have e2:=f_ b m (k+1);have hk':k<m.length:=by omega
 rw[iZ b l k hk] at e1;rw[iZ b m k hk'] at e2;rw[hsame,Jp (by omega)] at e1;rw[Jp (by omega)] at e2
 have h1:val b (l.take k)<b ^ k:=by
  have:=f9 b (l.take k) (fun d hd=>hl d (J4 hd))
  rwa [IY,Jp (by omega)] at this
 have h2:(l[k]+1)*b ^ k<=m[k]*b ^ k:=IJ _ hlt;rw[Jg] at h2;omega
end Go.Proofs.YtlhpcoelfhjomaaGreatDoor.Dg
namespace Go.Proofs.YtlhpcoelfhjomaaGreatDoor.Kn
theorem guess_low {b P U V top u2 ulow vt v2 vlow q r:Nat} (hU:U=(top*b+u2)*P+ulow) (hV:V=(vt*b+v2)*P+vlow) (hvlow:vlow<P)
  (hqr:q*vt+r=top) (hq:q<b) (hvt:1<=vt) (hex:q*v2<=r*b+u2):(q-1)*V<=U:=by
 cases q with
 | zero=>simp
 | succ q =>
  simp only[JC]
  have h1:(q+1)*(vt*b+v2)<=top*b+u2:=by
   have:(q+1)*(vt*b+v2)=(q+1)*vt*b+(q+1)*v2:=by grind
   have h2:top*b=(q+1)*vt*b+r*b:=by rw[<-hqr,Jg]
   omega
  have h3:q<=vt*b+v2:=by
   have:1*b<=vt*b:=IJ _ hvt
   omega
  have h4:q*(vt*b+v2+1)<=(q+1)*(vt*b+v2):=by
   rw[K8,Jg];omega
  have h5:V<=(vt*b+v2+1)*P:=by rw[hV,Jg (vt*b+v2) 1 P];omega
  calc q*V<=q*((vt*b+v2+1)*P):=IV _ h5
   _=q*(vt*b+v2+1)*P:=by rw[Jz]
   _<=(q+1)*(vt*b+v2)*P:=IJ _ h4
   _<=(top*b+u2)*P:=IJ _ h1
   _<=U:=by omega
theorem guess_back {b P U V top u2 ulow vt v2 vlow q r:Nat} (hU:U=(top*b+u2)*P+ulow) (hul:ulow<P) (hV:V=(vt*b+v2)*P+vlow)
  (hlt:U<V*b) (hqr:q*vt+r=top) (hb:b<=q\/r*b+u2<q*v2):U<q*V:=by
 rcases hb with hb | hb
 ·have:b*V<=q*V:=IJ _ hb;rw[IM b V] at this;omega
 ·have h1:top*b+u2+1<=q*(vt*b+v2):=by
   have:q*(vt*b+v2)=q*vt*b+q*v2:=by grind
   have h2:top*b=q*vt*b+r*b:=by rw[<-hqr,Jg]
   omega
  have h2:(top*b+u2+1)*P<=q*(vt*b+v2)*P:=IJ _ h1
  have h3:q*(vt*b+v2)*P<=q*V:=by
   rw[Jz];exact IV _ (by omega)
  rw[Jg (top*b+u2) 1 P] at h2;omega
theorem guess_first {b P U V top u2 ulow vt v2 vlow:Nat} (hU:U=(top*b+u2)*P+ulow) (hul:ulow<P) (hu2:u2<b) (hV:V=(vt*b+v2)*P+vlow)
  (hvt:1<=vt):U<(top / vt+1)*V:=by
 have h1:top+1<=(top / vt+1)*vt:=by
  have:=Jh top vt;have h2:=Jw top (show vt > 0 by omega);rw[Jg,IM (top / vt) vt];omega
 have h2:(top+1)*(b*P)<=(top / vt+1)*vt*(b*P):=IJ _ h1
 have h3:(top / vt+1)*vt*(b*P)<=(top / vt+1)*V:=by
  rw[Jz];refine IV _ ?_;have:vt*(b*P)=vt*b*P:=by grind
  rw[hV,Jg,this];omega
 have h4:U<(top+1)*(b*P):=by
  have h5:u2+1<=b:=hu2;have h6:(u2+1)*P<=b*P:=IJ _ h5;have e1:(top+1)*(b*P)=top*b*P+b*P:=by grind
  have e2:(top*b+u2)*P=top*b*P+u2*P:=by grind
  have e3:(u2+1)*P=u2*P+P:=by grind
  omega
 omega
theorem round_fits {M N U V low q W t borrow:Nat} (hlow:low<M) (hbal:W+t*N+q*V*M=U*M+low+borrow*N)
  (hhi:U<(q+1)*V) (ht:borrow<=t):W+(t-borrow)*N+q*V*M=U*M+low/\W+(t-borrow)*N<V*M:=by
 have e:t*N=(t-borrow)*N+borrow*N:=by rw[<-Jg];congr 1;omega
 have h1:W+(t-borrow)*N+q*V*M=U*M+low:=by omega
 refine⟨h1,?_⟩;have h2:(U+1)*M<=(q+1)*V*M:=IJ _ hhi;have e2:(U+1)*M=U*M+M:=by grind
 have e3:(q+1)*V*M=q*V*M+V*M:=by grind
 omega
theorem round_back {b M N U V low q W t borrow W2 carry:Nat} (hW:W<N) (hW2:W2<N)  (hVN:V*M<=N) (hbb:borrow<=b)
  (hbal:W+t*N+q*V*M=U*M+low+borrow*N) (hlo:(q-1)*V<=U) (ht:t<borrow)
  (hadd:W2+carry*N=W+V*M):1<=q/\W2+(q-1)*V*M=U*M+low/\W2<V*M/\t+b-borrow+carry=b:=by
 have hq:1<=q:=by
  cases q with
  | zero =>
   have:(t+1)*N<=borrow*N:=IJ _ ht;rw[Jg] at this;omega
  | succ q=>omega
 have e1:q*V*M=(q-1)*V*M+V*M:=by
  obtain⟨p,rfl⟩:∃ p,q=p+1:=⟨q-1,by omega⟩;simp only[JC];grind
 have h1:(t+1)*N<=borrow*N:=IJ _ ht;rw[Jg] at h1;have h2:(q-1)*V*M<=U*M:=IJ _ hlo
 -- R: the true rest
 obtain⟨R,hR⟩:∃ R,U*M+low=(q-1)*V*M+R:=⟨U*M+low-(q-1)*V*M,by omega⟩
 -- t N + W + V M = R + borrow N
 have h3:W+t*N+V*M=R+borrow*N:=by omega
 have h4:W2+carry*N+t*N=R+borrow*N:=by omega
 have hRlt:R<V*M:=by omega
 have hRN:R<N:=by omega
 have hN:0<N:=by omega
 have h5:W2+(carry+t)*N=R+borrow*N:=by rw[Jg];omega
 have h6:carry+t=borrow:=by
  have a1:(W2+(carry+t)*N) / N=carry+t:=by rw[Lg _ _ hN,JM hW2,Jk]
  have a2:(R+borrow*N) / N=borrow:=by rw[Lg _ _ hN,JM hRN,Jk]
  rw[<-a1,h5,a2]
 refine⟨hq,?_,?_,?_⟩
 ·rw[h6] at h5;omega
 ·rw[h6] at h5;omega
 ·omega
end Go.Proofs.YtlhpcoelfhjomaaGreatDoor.Kn
namespace Go.Proofs.YtlhpcoelfhjomaaGreatDoor.Dc
def dg (k:Nat):UInt8:=UInt8.ofNat (48+k)
def dec (n:Nat):List UInt8:=if _h:n<10 then [dg n] else dec (n / 10)++[dg (n % 10)]
termination_by n
decreasing_by omega
theorem ez {n:Nat} (h:n<10):dec n=[dg n]:=by rw[dec,dif_pos h]
theorem jA {n:Nat} (h:10<=n):dec n=dec (n / 10)++[dg (n % 10)]:=by rw[dec,dif_neg (by omega)]
theorem it (n:Nat):dec n≠[]:=by
 by_cases h:n<10
 ·rw[ez h];simp
 ·rw[jA (by omega)];simp
theorem ir (n:Nat):0<(dec n).length:=IU.2 (it n)
theorem bK {k n:Nat} (hk:1<=k) (h:n<10 ^ k):(dec n).length<=k:=by
 induction k generalizing n with
 | zero=>omega
 | succ k ih =>
  by_cases hn:n<10
  ·rw[ez hn];simp
  ·rw[jA (by omega),IG]
   have hk1:1<=k:=by
    cases k with
    | zero=>simp at h;omega
    | succ k=>omega
   have:=ih hk1 (n:=n / 10) (by rw[IN] at h;omega);simp;omega
theorem lw {k n:Nat} (h:10 ^ k<=n):k+1<=(dec n).length:=by
 induction k generalizing n with
 | zero=>exact ir n
 | succ k ih =>
  have h10:10<=n:=by
   have:10 ^ 1<=10 ^ (k+1):=IQ (by omega) (by omega);omega
  rw[jA h10,IG];have:=ih (n:=n / 10) (by rw[IN] at h;omega);simp;omega
def low:Nat->Nat->List UInt8
 | 0,_=>[]
 | k+1,n=>low k (n / 10)++[dg (n % 10)]
theorem jI (k n:Nat):(low k n).length=k:=by
 induction k generalizing n with
 | zero=>rfl
 | succ k ih=>simp[low,ih]
theorem DC (k:Nat):low k 0=List.replicate k 48:=by
 induction k with
 | zero=>rfl
 | succ k ih=>simp only[low,Nat.zero_div,ih,Nat.zero_mod];exact (Li ..).symm
theorem kQ (k n:Nat) (h:10 ^ k<=n):dec n=dec (n / 10 ^ k)++low k (n % 10 ^ k):=by
 induction k generalizing n with
 | zero=>simp[low]
 | succ k ih =>
  have h10:10<=n:=by
   have:10 ^ 1<=10 ^ (k+1):=IQ (by omega) (by omega);omega
  have hq:10 ^ k<=n / 10:=by rw[IN] at h;omega
  rw[jA h10,ih _ hq,low,I_];have e1:n / 10 / 10 ^ k=n / 10 ^ (k+1):=by rw[Nat.div_div_eq_div_mul,IN,IM]
  have e2:n % 10 ^ (k+1) / 10=n / 10 % 10 ^ k:=by
   rw[IN,IM,Nat.mod_mul_right_div_self]
  have e3:n % 10 ^ (k+1) % 10=n % 10:=by
   rw[IN];exact Nat.mod_mod_of_dvd _ (Nat.dvd_mul_left _ _)
  rw[e1,e2,e3]
theorem GZ (k n:Nat) (hk:1<=k) (h:n<10 ^ k):low k n=List.replicate (k-(dec n).length) 48++dec n:=by
 induction k generalizing n with
 | zero=>omega
 | succ k ih =>
  by_cases hn:n<10
  ·rw[low,JM hn,DC,ez hn,J9 hn];simp
  ·have hk1:1<=k:=by
    cases k with
    | zero=>simp at h;omega
    | succ k=>omega
   have hd:n / 10<10 ^ k:=by rw[IN] at h;omega
   rw[low,ih _ hk1 hd,jA (n:=n) (by omega),I_,IG];simp
def bj (c:UInt8):Bool:=decide (48<=c.toNat)&&decide (c.toNat<=57)
def aX (l:List UInt8):Nat:=l.foldl (fun n c=>10*n+(c.toNat-48)) 0
theorem A6 (l:List UInt8) (n:Nat):l.foldl (fun n c=>10*n+(c.toNat-48)) n=n*10 ^ l.length+aX l:=by
 induction l generalizing n with
 | nil=>simp[aX]
 | cons c l ih =>
  simp only[LD,IT,aX];rw[ih,ih (10*0+(c.toNat-48)),IN];grind
theorem eW (l m:List UInt8):aX (l++m)=aX l*10 ^ m.length+aX m:=by
 rw[aX,List.foldl_append,A6];rfl
theorem nU (l:List UInt8) (c:UInt8):aX (l++[c])=10*aX l+(c.toNat-48):=by
 rw[eW];simp[aX];omega
theorem gZ (l:List UInt8) (h:l.all bj=true):aX l<10 ^ l.length:=by
 induction l with
 | nil=>simp[aX]
 | cons c l ih =>
  simp only[KE,IR] at h;have ih:=ih h.2;have hc:c.toNat<=57:=by have:=h.1;simp[bj] at this;exact this.2
  have:c :: l=[c]++l:=rfl;rw[this,eW];simp only[aX,LD,List.foldl_nil,IG,IT,Jn,JX] at *
  have h2:(10*0+(c.toNat-48))*10 ^ l.length<=9*10 ^ l.length:=IJ _ (by omega);omega
theorem nB {k:Nat} (h:k<10):(dg k).toNat=48+k:=by
 rw[dg,UInt8.toNat_ofNat'];exact J9 (by omega)
theorem nY {k:Nat} (h:k<10):bj (dg k)=true:=by
 simp only[bj,nB h];simp;omega
theorem fc (n:Nat):(dec n).all bj=true:=by
 induction n using Nat.strongRecOn with
 | ind n ih =>
  by_cases h:n<10
  ·rw[ez h];simp[nY h]
  ·rw[jA (by omega)];simp[ih (n / 10) (by omega),nY (Jw n (by omega))]
theorem lI (n:Nat):aX (dec n)=n:=by
 induction n using Nat.strongRecOn with
 | ind n ih =>
  by_cases h:n<10
  ·rw[ez h];simp[aX,nB h]
  ·rw[jA (by omega),nU,ih (n / 10) (by omega),nB (Jw n (by omega))];omega
end Go.Proofs.YtlhpcoelfhjomaaGreatDoor.Dc
