/- Lemmas of this claim. -/
import Derived.Test.YtlkniohhalnjjaaGreatDoorKA
set_option linter.all false
set_option maxRecDepth 100000
set_option maxHeartbeats 8000000
namespace Go.Proofs.YtlkniohhalnjjaaGreatDoor.Dc
def dg (k:Nat):UInt8:=UInt8.ofNat (48+k)
def dec (n:Nat):List UInt8:=if _h:n<10 then [dg n] else dec (n / 10)++[dg (n % 10)]
termination_by n
decreasing_by omega
theorem eY {n:Nat} (h:n<10):dec n=[dg n]:=by rw[dec,dif_pos h]
theorem h_ {n:Nat} (h:10≤n):dec n=dec (n / 10)++[dg (n % 10)]:=by rw[dec,dif_neg (by omega)]
theorem mS (n:Nat):dec n≠[]:=by
 by_cases h:n<10
 ·rw[eY h];simp
 ·rw[h_ (by omega)];simp
theorem eX (n:Nat):0<(dec n).length:=uJ.2 (mS n)
theorem b_ {k n:Nat} (hk:1≤k) (h:n<10 ^ k):(dec n).length≤k:=by
 induction k generalizing n with
 | zero=>omega
 | succ k ih =>
  by_cases hn:n<10
  ·rw[eY hn];simp
  ·rw[h_ (by omega),uF]
   have hk1:1≤k:=by
    cases k with
    | zero=>simp at h;omega
    | succ k=>omega
   have:=ih hk1 (n:=n / 10) (by rw[uI] at h;omega)
   simp;omega
theorem rQ {k n:Nat} (h:10 ^ k≤n):k+1≤(dec n).length:=by
 induction k generalizing n with
 | zero=>exact eX n
 | succ k ih =>
  have h10:10≤n:=by
   have:10 ^ 1≤10 ^ (k+1):=vp (by omega) (by omega)
   omega
  rw[h_ h10,uF]
  have:=ih (n:=n / 10) (by rw[uI] at h;omega)
  simp;omega
def low:Nat→Nat→List UInt8
 | 0,_=>[]
 | k+1,n=>low k (n / 10)++[dg (n % 10)]
theorem m9 (k n:Nat):(low k n).length=k:=by
 induction k generalizing n with
 | zero=>rfl
 | succ k ih=>simp[low,ih]
theorem qN (k:Nat):low k 0=List.replicate k 48:=by
 induction k with
 | zero=>rfl
 | succ k ih=>simp only[low,Nat.zero_div,ih,Nat.zero_mod];exact (List.replicate_succ' ..).symm
theorem jZ (k n:Nat) (h:10 ^ k≤n):dec n=dec (n / 10 ^ k)++low k (n % 10 ^ k):=by
 induction k generalizing n with
 | zero=>simp[low]
 | succ k ih =>
  have h10:10≤n:=by
   have:10 ^ 1≤10 ^ (k+1):=vp (by omega) (by omega)
   omega
  have hq:10 ^ k≤n / 10:=by rw[uI] at h;omega
  rw[h_ h10,ih _ hq,low,wt]
  have e1:n / 10 / 10 ^ k=n / 10 ^ (k+1):=by rw[Nat.div_div_eq_div_mul,uI,uY]
  have e2:n % 10 ^ (k+1) / 10=n / 10 % 10 ^ k:=by
   rw[uI,uY,Nat.mod_mul_right_div_self]
  have e3:n % 10 ^ (k+1) % 10=n % 10:=by
   rw[uI];exact Nat.mod_mod_of_dvd _ (Nat.dvd_mul_left _ _)
  rw[e1,e2,e3]
theorem ts (k n:Nat) (hk:1≤k) (h:n<10 ^ k):low k n=List.replicate (k-(dec n).length) 48++dec n:=by
 induction k generalizing n with
 | zero=>omega
 | succ k ih =>
  by_cases hn:n<10
  ·rw[low,vm hn,qN,eY hn,vW hn];simp
  ·have hk1:1≤k:=by
    cases k with
    | zero=>simp at h;omega
    | succ k=>omega
   have hd:n / 10<10 ^ k:=by rw[uI] at h;omega
   rw[low,ih _ hk1 hd,h_ (n:=n) (by omega),wt,uF]
   simp
def cJ (c:UInt8):Bool:=decide (48≤c.toNat)&&decide (c.toNat≤57)
def a_ (l:List UInt8):Nat:=l.foldl (fun n c=>10*n+(c.toNat-48)) 0
theorem oL (l:List UInt8) (n:Nat):l.foldl (fun n c=>10*n+(c.toNat-48)) n=n*10 ^ l.length+a_ l:=by
 induction l generalizing n with
 | nil=>simp[a_]
 | cons c l ih =>
  simp only[List.foldl_cons,uG,a_]
  rw[ih,ih (10*0+(c.toNat-48)),uI]
  grind
theorem dN (l m:List UInt8):a_ (l++m)=a_ l*10 ^ m.length+a_ m:=by
 rw[a_,wO,oL];rfl
theorem lj (l:List UInt8) (c:UInt8):a_ (l++[c])=10*a_ l+(c.toNat-48):=by
 rw[dN];simp[a_];omega
theorem hO (l:List UInt8) (h:l.all cJ=true):a_ l<10 ^ l.length:=by
 induction l with
 | nil=>simp[a_]
 | cons c l ih =>
  simp only[List.all_cons,uz] at h
  have ih:=ih h.2
  have hc:c.toNat≤57:=by have:=h.1;simp[cJ] at this;exact this.2
  have:c :: l=[c]++l:=rfl
  rw[this,dN]
  simp only[a_,List.foldl_cons,List.foldl_nil,uF,uG,vu,wA] at *
  have h2:(10*0+(c.toNat-48))*10 ^ l.length≤9*10 ^ l.length:=uA _ (by omega)
  omega
end Go.Proofs.YtlkniohhalnjjaaGreatDoor.Dc
namespace Go.Proofs.YtlkniohhalnjjaaGreatDoor.Dg
def val (b:Nat):List Nat→Nat
 | []=>0
 | d :: l=>d+b*val b l
@[simp] theorem val_nil (b:Nat):val b []=0:=rfl
@[simp] theorem val_cons (b d:Nat) (l:List Nat):val b (d :: l)=d+b*val b l:=rfl
theorem jB (b:Nat) (l m:List Nat):val b (l++m)=val b l+b ^ l.length*val b m:=by
 induction l with
 | nil=>simp
 | cons d l ih=>simp only[vT,val_cons,ih,uG,uI];grind
theorem gC (b:Nat) (l:List Nat) (h:∀ d∈l,d<b):val b l<b ^ l.length:=by
 induction l with
 | nil=>simp
 | cons d l ih =>
  have h1:=ih (fun x hx=>h x (vc _ hx))
  have h2:=h d (uU ..)
  simp only[val_cons,uG,uI]
  have:b*(val b l+1)≤b*b ^ l.length:=vj _ h1
  rw[uY (b ^ l.length) b]
  rw[Nat.mul_add] at this
  omega
theorem gX (b:Nat) (l:List Nat) (d:Nat):val b (l++[d])=val b l+b ^ l.length*d:=by
 rw[jB];simp
theorem pG (b n:Nat):val b (List.replicate n 0)=0:=by
 induction n with
 | zero=>simp
 | succ n ih=>simp[List.replicate_succ,ih]
theorem oh (b:Nat):∀ (l:List Nat) (k d:Nat) (h:k<l.length),val b (l.set k d)+l[k]*b ^ k=val b l+d*b ^ k
 | [],k,d,h=>by simp at h
 | x :: l,0,d,h=>by simp;omega
 | x :: l,k+1,d,h=>by
  have hk:k<l.length:=by simpa using h
  have ih:=oh b l k d hk
  simp only[ul,val_cons,uq,uI]
  have:b*(val b (l.set k d)+l[k]*b ^ k)=b*(val b l+d*b ^ k):=by rw[ih]
  grind
theorem dR (b:Nat) (l:List Nat) (k:Nat) (h:k<l.length):val b (l.take (k+1))=val b (l.take k)+l[k]*b ^ k:=by
 rw[vA h,gX,uW]
 rw[vl (by omega),uY]
theorem eb (b:Nat) (l:List Nat) (k:Nat):val b l=val b (l.take k)+b ^ (min k l.length)*val b (l.drop k):=by
 have:=jB b (l.take k) (l.drop k)
 rw[List.take_append_drop] at this
 rw[this,uW]
def Can (b:Nat) (l:List Nat):Prop:=(∀ d∈l,d<b)∧∀ hne,l.getLast hne≠0
theorem kz (b:Nat):Can b []:=⟨by simp,by simp⟩
def lean:List Nat→List Nat
 | []=>[]
 | d :: l=>match lean l with
  | []=>if d=0 then [] else [d]
  | e :: m=>d :: e :: m
theorem ci (d:Nat) (l:List Nat):lean (d :: l)=if lean l=[]∧d=0 then [] else d :: lean l:=by
 simp only[lean]
 cases h:lean l with
 | nil=>by_cases hd:d=0<;>simp[hd]
 | cons e m=>simp
theorem mw (b:Nat) (l:List Nat):val b (lean l)=val b l:=by
 induction l with
 | nil=>rfl
 | cons d l ih =>
  rw[ci]
  split
  ·rename_i h;simp[←ih,h.1,h.2]
  ·simp[ih]
theorem jh (l:List Nat):lean (l++[0])=lean l:=by
 induction l with
 | nil=>simp[lean]
 | cons d l ih=>rw[vT,ci,ci,ih]
theorem oX (l:List Nat) (d:Nat) (h:d≠0):lean (l++[d])=l++[d]:=by
 induction l with
 | nil=>simp[lean,h]
 | cons e l ih=>rw[vT,ci,ih];simp
theorem lM {b:Nat}{l:List Nat} (h:∀ d∈l,d<b):Can b (lean l):=by
 induction l with
 | nil=>exact kz b
 | cons d l ih =>
  have ih:=ih (fun x hx=>h x (vc _ hx))
  have hd:=h d (uU ..)
  rw[ci]
  split
  ·exact kz b
  ·rename_i hn
   refine⟨?_,?_⟩
   ·intro x hx
    rcases uy.1 hx with rfl | hx
    ·exact hd
    ·exact ih.1 x hx
   ·intro hne
    by_cases hl:lean l=[]
    ·simp only[hl,List.getLast_singleton]
     intro h0;exact hn ⟨hl,h0⟩
    ·rw[wP hl];exact ih.2 hl
theorem cE (l:List Nat):(lean l).length≤l.length:=by
 induction l with
 | nil=>simp[lean]
 | cons d l ih=>rw[ci];split<;>simp<;>omega
theorem kf (l:List Nat):l.take (lean l).length=lean l:=by
 induction l with
 | nil=>simp[lean]
 | cons d l ih=>rw[ci];split<;>simp[ih]
def ah (b n:Nat):List Nat:=if _h:n=0∨b<2 then [] else n % b :: ah b (n / b)
termination_by n
decreasing_by exact wV (by omega) (by omega)
theorem bi (b:Nat):ah b 0=[]:=by rw[ah];simp
theorem dV {b n:Nat} (hb:2≤b) (h:n≠0):ah b n=n % b :: ah b (n / b):=by
 rw[ah,dif_neg (by omega)]
theorem cc {b:Nat} (hb:2≤b) (n:Nat):val b (ah b n)=n:=by
 induction n using Nat.strongRecOn with
 | ind n ih =>
  by_cases h:n=0
  ·subst h;simp[bi]
  ·rw[dV hb h,val_cons,ih _ (wV (by omega) hb)]
   exact Nat.mod_add_div n b
theorem bH {b n:Nat} (hb:2≤b):ah b n=[]↔n=0:=by
 constructor
 ·intro h
  by_cases h0:n=0
  ·exact h0
  ·rw[dV hb h0] at h;cases h
 ·rintro rfl;exact bi b
theorem gK {b:Nat} (hb:2≤b) (n:Nat):Can b (ah b n):=by
 induction n using Nat.strongRecOn with
 | ind n ih =>
  by_cases h:n=0
  ·subst h;rw[bi];exact kz b
  ·have ih':=ih _ (wV (wk h) hb)
   rw[dV hb h]
   refine⟨?_,?_⟩
   ·intro d hd
    rcases uy.1 hd with rfl | hd
    ·exact vX _ (by omega)
    ·exact ih'.1 d hd
   ·intro hne
    by_cases hl:ah b (n / b)=[]
    ·have hlt:n / b=0:=(bH hb).1 hl
     simp only[hl,List.getLast_singleton]
     have:=Nat.mod_add_div n b
     rw[hlt] at this
     omega
    ·rw[wP hl];exact ih'.2 hl
theorem dI {b:Nat}{l:List Nat} (h:Can b l) (hne:l≠[]):b ^ (l.length-1)≤val b l:=by
 have hs:=List.dropLast_concat_getLast hne
 rw[←hs,gX]
 simp only[uF,List.length_dropLast,uG,vu]
 have h1:=wk (h.2 hne)
 have:b ^ (l.length-1)*1≤b ^ (l.length-1)*l.getLast hne:=vj _ h1
 have e:l.length-1+(0+1)-1=l.length-1:=by omega
 rw[e]
 omega
theorem lk {b:Nat} (hb:2≤b) {l:List Nat} (h:Can b l):ah b (val b l)=l:=by
 induction l with
 | nil=>simp[bi]
 | cons d l ih =>
  have hc:Can b l:=⟨fun x hx=>h.1 x (vc _ hx),fun hne=>by have:=h.2 (by simp);rwa [wP hne] at this⟩
  have hd:=h.1 d (uU ..)
  have hne:val b (d :: l)≠0:=by
   have:=dI h (by simp)
   have h2:0<b ^ ((d :: l).length-1):=wL (by omega)
   omega
  rw[dV hb hne,val_cons,Nat.add_mul_mod_self_left,vW hd,wG _ _ (by omega),vm hd,vh,ih hc]
theorem bC {b:Nat} (hb:2≤b) {n k:Nat} (h:n<b ^ k):(ah b n).length≤k:=by
 by_cases hn:ah b n=[]
 ·simp[hn]
 ·have:=dI (gK hb n) hn
  rw[cc hb] at this
  have h2:b ^ ((ah b n).length-1)<b ^ k:=vo this h
  have h3:=(Nat.pow_lt_pow_iff_right (by omega:1<b)).1 h2
  have:0<(ah b n).length:=uJ.2 hn
  omega
theorem cj {b:Nat} (hb:2≤b) (n:Nat):n<b ^ (ah b n).length:=by
 have:=gC b (ah b n) (gK hb n).1
 rwa [cc hb] at this
theorem fx {b:Nat} (hb:2≤b) {l:List Nat} (h:∀ d∈l,d<b):lean l=ah b (val b l):=by
 have:=lk hb (lM h)
 rw[mw] at this
 exact this.symm
/-! comparison -/
theorem cR {b:Nat} (hb:2≤b) {l m:List Nat} (hl:Can b l) (hm:Can b m) (h:l.length<m.length):val b l<val b m:=by
 have h1:=gC b l hl.1
 have h2:=dI hm (by intro e;simp[e] at h)
 have h3:b ^ l.length≤b ^ (m.length-1):=vp (by omega) (by omega)
 omega
theorem fZ {b:Nat}{l m:List Nat} (hl:∀ d∈l,d<b) (hlen:l.length=m.length) (k:Nat) (hk:k<l.length)
  (hsame:l.drop (k+1)=m.drop (k+1)) (hlt:l[k]<m[k]'(by omega)):val b l<val b m:=by
 have e1:=eb b l (k+1)
 have e2:=eb b m (k+1)
 have hk':k<m.length:=by omega
 rw[dR b l k hk] at e1
 rw[dR b m k hk'] at e2
 rw[hsame,vl (by omega)] at e1
 rw[vl (by omega)] at e2
 have h1:val b (l.take k)<b ^ k:=by
  have:=gC b (l.take k) (fun d hd=>hl d (wF hd))
  rwa [uW,vl (by omega)] at this
 have h2:(l[k]+1)*b ^ k≤m[k]*b ^ k:=uA _ hlt
 rw[u9] at h2
 omega
end Go.Proofs.YtlkniohhalnjjaaGreatDoor.Dg
namespace Go.Proofs.YtlkniohhalnjjaaGreatDoor.Kn
theorem guess_low {b P U V top u2 ulow vt v2 vlow q r:Nat} (hU:U=(top*b+u2)*P+ulow) (hV:V=(vt*b+v2)*P+vlow) (hvlow:vlow<P)
  (hqr:q*vt+r=top) (hq:q<b) (hvt:1≤vt) (hex:q*v2≤r*b+u2):(q-1)*V≤U:=by
 cases q with
 | zero=>simp
 | succ q =>
  simp only[wj]
  have h1:(q+1)*(vt*b+v2)≤top*b+u2:=by
   have:(q+1)*(vt*b+v2)=(q+1)*vt*b+(q+1)*v2:=by grind
   have h2:top*b=(q+1)*vt*b+r*b:=by rw[←hqr,u9]
   omega
  have h3:q≤vt*b+v2:=by
   have:1*b≤vt*b:=uA _ hvt
   omega
  have h4:q*(vt*b+v2+1)≤(q+1)*(vt*b+v2):=by
   rw[Nat.mul_add,u9];omega
  have h5:V≤(vt*b+v2+1)*P:=by rw[hV,u9 (vt*b+v2) 1 P];omega
  calc q*V≤q*((vt*b+v2+1)*P):=vj _ h5
   _=q*(vt*b+v2+1)*P:=by rw[Nat.mul_assoc]
   _≤(q+1)*(vt*b+v2)*P:=uA _ h4
   _≤(top*b+u2)*P:=uA _ h1
   _≤U:=by omega
theorem guess_back {b P U V top u2 ulow vt v2 vlow q r:Nat} (hU:U=(top*b+u2)*P+ulow) (hul:ulow<P) (hV:V=(vt*b+v2)*P+vlow)
  (hlt:U<V*b) (hqr:q*vt+r=top) (hb:b≤q∨r*b+u2<q*v2):U<q*V:=by
 rcases hb with hb | hb
 ·have:b*V≤q*V:=uA _ hb
  rw[uY b V] at this
  omega
 ·have h1:top*b+u2+1≤q*(vt*b+v2):=by
   have:q*(vt*b+v2)=q*vt*b+q*v2:=by grind
   have h2:top*b=q*vt*b+r*b:=by rw[←hqr,u9]
   omega
  have h2:(top*b+u2+1)*P≤q*(vt*b+v2)*P:=uA _ h1
  have h3:q*(vt*b+v2)*P≤q*V:=by
   rw[Nat.mul_assoc];exact vj _ (by omega)
  rw[u9 (top*b+u2) 1 P] at h2
  omega
theorem guess_first {b P U V top u2 ulow vt v2 vlow:Nat} (hU:U=(top*b+u2)*P+ulow) (hul:ulow<P) (hu2:u2<b) (hV:V=(vt*b+v2)*P+vlow)
  (hvt:1≤vt):U<(top / vt+1)*V:=by
 have h1:top+1≤(top / vt+1)*vt:=by
  have:=vJ top vt
  have h2:=vX top (show vt > 0 by omega)
  rw[u9,uY (top / vt) vt];omega
 have h2:(top+1)*(b*P)≤(top / vt+1)*vt*(b*P):=uA _ h1
 have h3:(top / vt+1)*vt*(b*P)≤(top / vt+1)*V:=by
  rw[Nat.mul_assoc]
  refine vj _ ?_
  have:vt*(b*P)=vt*b*P:=by grind
  rw[hV,u9,this];omega
 have h4:U<(top+1)*(b*P):=by
  have h5:u2+1≤b:=hu2
  have h6:(u2+1)*P≤b*P:=uA _ h5
  have e1:(top+1)*(b*P)=top*b*P+b*P:=by grind
  have e2:(top*b+u2)*P=top*b*P+u2*P:=by grind
  have e3:(u2+1)*P=u2*P+P:=by grind
  omega
 omega
theorem round_fits {M N U V low q W t borrow:Nat} (hlow:low<M) (hbal:W+t*N+q*V*M=U*M+low+borrow*N)
  (hhi:U<(q+1)*V) (ht:borrow≤t):W+(t-borrow)*N+q*V*M=U*M+low∧W+(t-borrow)*N<V*M:=by
 have e:t*N=(t-borrow)*N+borrow*N:=by rw[←u9];congr 1;omega
 have h1:W+(t-borrow)*N+q*V*M=U*M+low:=by omega
 refine⟨h1,?_⟩
 have h2:(U+1)*M≤(q+1)*V*M:=uA _ hhi
 have e2:(U+1)*M=U*M+M:=by grind
 have e3:(q+1)*V*M=q*V*M+V*M:=by grind
 omega
theorem round_back {b M N U V low q W t borrow W2 carry:Nat} (hW:W<N) (hW2:W2<N)  (hVN:V*M≤N) (hbb:borrow≤b)
  (hbal:W+t*N+q*V*M=U*M+low+borrow*N) (hlo:(q-1)*V≤U) (ht:t<borrow)
  (hadd:W2+carry*N=W+V*M):1≤q∧W2+(q-1)*V*M=U*M+low∧W2<V*M∧t+b-borrow+carry=b:=by
 have hq:1≤q:=by
  cases q with
  | zero =>
   have:(t+1)*N≤borrow*N:=uA _ ht
   rw[u9] at this
   omega
  | succ q=>omega
 have e1:q*V*M=(q-1)*V*M+V*M:=by
  obtain⟨p,rfl⟩:∃ p,q=p+1:=⟨q-1,by omega⟩
  simp only[wj];grind
 have h1:(t+1)*N≤borrow*N:=uA _ ht
 rw[u9] at h1
 have h2:(q-1)*V*M≤U*M:=uA _ hlo
 -- R: the true rest
 obtain⟨R,hR⟩:∃ R,U*M+low=(q-1)*V*M+R:=⟨U*M+low-(q-1)*V*M,by omega⟩
 -- t N + W + V M = R + borrow N
 have h3:W+t*N+V*M=R+borrow*N:=by omega
 have h4:W2+carry*N+t*N=R+borrow*N:=by omega
 have hRlt:R<V*M:=by omega
 have hRN:R<N:=by omega
 have hN:0<N:=by omega
 have h5:W2+(carry+t)*N=R+borrow*N:=by rw[u9];omega
 have h6:carry+t=borrow:=by
  have a1:(W2+(carry+t)*N) / N=carry+t:=by rw[wE _ _ hN,vm hW2,vh]
  have a2:(R+borrow*N) / N=borrow:=by rw[wE _ _ hN,vm hRN,vh]
  rw[←a1,h5,a2]
 refine⟨hq,?_,?_,?_⟩
 ·rw[h6] at h5;omega
 ·rw[h6] at h5;omega
 ·omega
end Go.Proofs.YtlkniohhalnjjaaGreatDoor.Kn
