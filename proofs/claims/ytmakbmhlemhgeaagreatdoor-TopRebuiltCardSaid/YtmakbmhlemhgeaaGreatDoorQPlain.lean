/- L -/
import Derived.Test.YtmakbmhlemhgeaaGreatDoorQA
set_option linter.all false
set_option maxRecDepth 100000
set_option maxHeartbeats 8000000
namespace Go.Proofs.YtmakbmhlemhgeaaGreatDoor.Dg
def val (b:Nat):List Nat->Nat
 | []=>0
 | d :: l=>d+b*val b l
@[simp] theorem val_nil (b:Nat):val b []=0:=rfl
@[simp] theorem val_cons (b d:Nat) (l:List Nat):val b (d :: l)=d+b*val b l:=rfl
theorem gQ (b:Nat) (l m:List Nat):val b (l++m)=val b l+b ^ l.length*val b m:=by
 induction l with
 | nil=>simp
 | cons d l ih=>simp only[sl,val_cons,ih,rM,rK];grind
theorem dI (b:Nat) (l:List Nat) (h:∀ d∈l,d<b):val b l<b ^ l.length:=by
 induction l with
 | nil=>simp
 | cons d l ih =>
  have h1:=ih (fun x hx=>h x (sL _ hx));have h2:=h d (sY ..);simp only[val_cons,rM,rK];have:b*(val b l+1)<=b*b ^ l.length:=rY _ h1;rw[rQ (b ^ l.length) b];rw[Nat.mul_add] at this;omega
theorem cX (b:Nat) (l:List Nat) (d:Nat):val b (l++[d])=val b l+b ^ l.length*d:=by
 rw[gQ];simp
theorem mw (b n:Nat):val b (List.replicate n 0)=0:=by
 induction n with
 | zero=>simp
 | succ n ih=>simp[List.replicate_succ,ih]
theorem lJ (b:Nat):∀ (l:List Nat) (k d:Nat) (h:k<l.length),val b (l.set k d)+l[k]*b ^ k=val b l+d*b ^ k
 | [],k,d,h=>by simp at h
 | x :: l,0,d,h=>by simp;omega
 | x :: l,k+1,d,h=>by
  have hk:k<l.length:=by simpa using h
  have ih:=lJ b l k d hk;simp only[rq,val_cons,rl,rK];have:b*(val b (l.set k d)+l[k]*b ^ k)=b*(val b l+d*b ^ k):=by rw[ih]
  grind
theorem cQ (b:Nat) (l:List Nat) (k:Nat) (h:k<l.length):val b (l.take (k+1))=val b (l.take k)+l[k]*b ^ k:=by
 rw[sn h,cX,rV];rw[r9 (by omega),rQ]
theorem ck (b:Nat) (l:List Nat) (k:Nat):val b l=val b (l.take k)+b ^ (min k l.length)*val b (l.drop k):=by
 have:=gQ b (l.take k) (l.drop k);rw[List.take_append_drop] at this;rw[this,rV]
def Can (b:Nat) (l:List Nat):Prop:=(∀ d∈l,d<b)/\∀ hne,l.getLast hne≠0
theorem iR (b:Nat):Can b []:=⟨by simp,by simp⟩
def lean:List Nat->List Nat
 | []=>[]
 | d :: l=>match lean l with
  | []=>if d=0 then [] else [d]
  | e :: m=>d :: e :: m
theorem bB (d:Nat) (l:List Nat):lean (d :: l)=if lean l=[]/\d=0 then [] else d :: lean l:=by
 simp only[lean]
 cases h:lean l with
 | nil=>by_cases hd:d=0<;>simp[hd]
 | cons e m=>simp
theorem ko (b:Nat) (l:List Nat):val b (lean l)=val b l:=by
 induction l with
 | nil=>rfl
 | cons d l ih =>
  rw[bB]
  split
  ·rename_i h;simp[<-ih,h.1,h.2]
  ·simp[ih]
theorem gx (l:List Nat):lean (l++[0])=lean l:=by
 induction l with
 | nil=>simp[lean]
 | cons d l ih=>rw[sl,bB,bB,ih]
theorem l5 (l:List Nat) (d:Nat) (h:d≠0):lean (l++[d])=l++[d]:=by
 induction l with
 | nil=>simp[lean,h]
 | cons e l ih=>rw[sl,bB,ih];simp
theorem jH {b:Nat}{l:List Nat} (h:∀ d∈l,d<b):Can b (lean l):=by
 induction l with
 | nil=>exact iR b
 | cons d l ih =>
  have ih:=ih (fun x hx=>h x (sL _ hx));have hd:=h d (sY ..);rw[bB]
  split
  ·exact iR b
  ·rename_i hn
   refine⟨?_,?_⟩
   ·intro x hx;rcases sU.1 hx with rfl | hx
    ·exact hd
    ·exact ih.1 x hx
   ·intro hne;by_cases hl:lean l=[]
    ·simp only[hl,List.getLast_singleton];intro h0;exact hn ⟨hl,h0⟩
    ·rw[tK hl];exact ih.2 hl
theorem bo (l:List Nat):(lean l).length<=l.length:=by
 induction l with
 | nil=>simp[lean]
 | cons d l ih=>rw[bB];split<;>simp<;>omega
theorem eY (l:List Nat):l.take (lean l).length=lean l:=by
 induction l with
 | nil=>simp[lean]
 | cons d l ih=>rw[bB];split<;>simp[ih]
def aa (b n:Nat):List Nat:=if _h:n=0\/b<2 then [] else n % b :: aa b (n / b)
termination_by n
decreasing_by exact tS (by omega) (by omega)
theorem aE (b:Nat):aa b 0=[]:=by rw[aa];simp
theorem digs_pos {b n:Nat} (hb:2<=b) (h:n≠0):aa b n=n % b :: aa b (n / b):=by
 rw[aa,dif_neg (by omega)]
theorem av {b:Nat} (hb:2<=b) (n:Nat):val b (aa b n)=n:=by
 induction n using Nat.strongRecOn with
 | ind n ih =>
  by_cases h:n=0
  ·subst h;simp[aE]
  ·rw[digs_pos hb h,val_cons,ih _ (tS (by omega) hb)];exact Nat.mod_add_div n b
theorem aQ {b n:Nat} (hb:2<=b):aa b n=[]↔n=0:=by
 constructor
 ·intro h;by_cases h0:n=0
  ·exact h0
  ·rw[digs_pos hb h0] at h;cases h
 ·rintro rfl;exact aE b
theorem eA {b:Nat} (hb:2<=b) (n:Nat):Can b (aa b n):=by
 induction n using Nat.strongRecOn with
 | ind n ih =>
  by_cases h:n=0
  ·subst h;rw[aE];exact iR b
  ·have ih':=ih _ (tS (tb h) hb);rw[digs_pos hb h];refine⟨?_,?_⟩
   ·intro d hd;rcases sU.1 hd with rfl | hd
    ·exact sB _ (by omega)
    ·exact ih'.1 d hd
   ·intro hne;by_cases hl:aa b (n / b)=[]
    ·have hlt:n / b=0:=(aQ hb).1 hl;simp only[hl,List.getLast_singleton];have:=Nat.mod_add_div n b;rw[hlt] at this;omega
    ·rw[tK hl];exact ih'.2 hl
theorem ch {b:Nat}{l:List Nat} (h:Can b l) (hne:l≠[]):b ^ (l.length-1)<=val b l:=by
 have hs:=tH hne;rw[<-hs,cX];simp only[rE,List.length_dropLast,rM,r8];have h1:=tb (h.2 hne);have:b ^ (l.length-1)*1<=b ^ (l.length-1)*l.getLast hne:=rY _ h1;have e:l.length-1+(0+1)-1=l.length-1:=by omega
 rw[e];omega
theorem jw {b:Nat} (hb:2<=b) {l:List Nat} (h:Can b l):aa b (val b l)=l:=by
 induction l with
 | nil=>simp[aE]
 | cons d l ih =>
  have hc:Can b l:=⟨fun x hx=>h.1 x (sL _ hx),fun hne=>by have:=h.2 (by simp);rwa [tK hne] at this⟩;have hd:=h.1 d (sY ..)
  have hne:val b (d :: l)≠0:=by
   have:=ch h (by simp);have h2:0<b ^ ((d :: l).length-1):=sf (by omega);omega
  rw[digs_pos hb hne,val_cons,Nat.add_mul_mod_self_left,sQ hd,tG _ _ (by omega),se hd,sk,ih hc]
theorem aD {b:Nat} (hb:2<=b) {n k:Nat} (h:n<b ^ k):(aa b n).length<=k:=by
 by_cases hn:aa b n=[]
 ·simp[hn]
 ·have:=ch (eA hb n) hn;rw[av hb] at this;have h2:b ^ ((aa b n).length-1)<b ^ k:=rP this h;have h3:=(Nat.pow_lt_pow_iff_right (by omega:1<b)).1 h2;have:0<(aa b n).length:=rN.2 hn;omega
theorem bf {b:Nat} (hb:2<=b) (n:Nat):n<b ^ (aa b n).length:=by
 have:=dI b (aa b n) (eA hb n).1
 rwa [av hb] at this
theorem ci {b:Nat} (hb:2<=b) {l:List Nat} (h:∀ d∈l,d<b):lean l=aa b (val b l):=by
 have:=jw hb (jH h);rw[ko] at this;exact this.symm
/-! comparison -/
theorem bu {b:Nat} (hb:2<=b) {l m:List Nat} (hl:Can b l) (hm:Can b m) (h:l.length<m.length):val b l<val b m:=by
 have h1:=dI b l hl.1;have h2:=ch hm (by intro e;simp[e] at h);have h3:b ^ l.length<=b ^ (m.length-1):=rI (by omega) (by omega);omega
theorem d6 {b:Nat}{l m:List Nat} (hl:∀ d∈l,d<b) (hlen:l.length=m.length) (k:Nat) (hk:k<l.length)
  (hsame:l.drop (k+1)=m.drop (k+1)) (hlt:l[k]<m[k]'(by omega)):val b l<val b m:=by
 have e1:=ck b l (k+1);have e2:=ck b m (k+1);have hk':k<m.length:=by omega
 rw[cQ b l k hk] at e1;rw[cQ b m k hk'] at e2;rw[hsame,r9 (by omega)] at e1;rw[r9 (by omega)] at e2
 have h1:val b (l.take k)<b ^ k:=by
  have:=dI b (l.take k) (fun d hd=>hl d (tF hd))
  rwa [rV,r9 (by omega)] at this
 have h2:(l[k]+1)*b ^ k<=m[k]*b ^ k:=rx _ hlt;rw[rZ] at h2;omega
end Go.Proofs.YtmakbmhlemhgeaaGreatDoor.Dg
namespace Go.Proofs.YtmakbmhlemhgeaaGreatDoor.Kn
theorem guess_low {b P U V top u2 ulow vt v2 vlow q r:Nat} (hU:U=(top*b+u2)*P+ulow) (hV:V=(vt*b+v2)*P+vlow) (hvlow:vlow<P)
  (hqr:q*vt+r=top) (hq:q<b) (hvt:1<=vt) (hex:q*v2<=r*b+u2):(q-1)*V<=U:=by
 cases q with
 | zero=>simp
 | succ q =>
  simp only[s_]
  have h1:(q+1)*(vt*b+v2)<=top*b+u2:=by
   have:(q+1)*(vt*b+v2)=(q+1)*vt*b+(q+1)*v2:=by grind
   have h2:top*b=(q+1)*vt*b+r*b:=by rw[<-hqr,rZ]
   omega
  have h3:q<=vt*b+v2:=by
   have:1*b<=vt*b:=rx _ hvt
   omega
  have h4:q*(vt*b+v2+1)<=(q+1)*(vt*b+v2):=by
   rw[Nat.mul_add,rZ];omega
  have h5:V<=(vt*b+v2+1)*P:=by rw[hV,rZ (vt*b+v2) 1 P];omega
  calc q*V<=q*((vt*b+v2+1)*P):=rY _ h5
   _=q*(vt*b+v2+1)*P:=by rw[tJ]
   _<=(q+1)*(vt*b+v2)*P:=rx _ h4
   _<=(top*b+u2)*P:=rx _ h1
   _<=U:=by omega
theorem guess_back {b P U V top u2 ulow vt v2 vlow q r:Nat} (hU:U=(top*b+u2)*P+ulow) (hul:ulow<P) (hV:V=(vt*b+v2)*P+vlow)
  (hlt:U<V*b) (hqr:q*vt+r=top) (hb:b<=q\/r*b+u2<q*v2):U<q*V:=by
 rcases hb with hb | hb
 ·have:b*V<=q*V:=rx _ hb;rw[rQ b V] at this;omega
 ·have h1:top*b+u2+1<=q*(vt*b+v2):=by
   have:q*(vt*b+v2)=q*vt*b+q*v2:=by grind
   have h2:top*b=q*vt*b+r*b:=by rw[<-hqr,rZ]
   omega
  have h2:(top*b+u2+1)*P<=q*(vt*b+v2)*P:=rx _ h1
  have h3:q*(vt*b+v2)*P<=q*V:=by
   rw[tJ];exact rY _ (by omega)
  rw[rZ (top*b+u2) 1 P] at h2;omega
theorem guess_first {b P U V top u2 ulow vt v2 vlow:Nat} (hU:U=(top*b+u2)*P+ulow) (hul:ulow<P) (hu2:u2<b) (hV:V=(vt*b+v2)*P+vlow)
  (hvt:1<=vt):U<(top / vt+1)*V:=by
 have h1:top+1<=(top / vt+1)*vt:=by
  have:=sA top vt;have h2:=sB top (show vt > 0 by omega);rw[rZ,rQ (top / vt) vt];omega
 have h2:(top+1)*(b*P)<=(top / vt+1)*vt*(b*P):=rx _ h1
 have h3:(top / vt+1)*vt*(b*P)<=(top / vt+1)*V:=by
  rw[tJ];refine rY _ ?_;have:vt*(b*P)=vt*b*P:=by grind
  rw[hV,rZ,this];omega
 have h4:U<(top+1)*(b*P):=by
  have h5:u2+1<=b:=hu2;have h6:(u2+1)*P<=b*P:=rx _ h5;have e1:(top+1)*(b*P)=top*b*P+b*P:=by grind
  have e2:(top*b+u2)*P=top*b*P+u2*P:=by grind
  have e3:(u2+1)*P=u2*P+P:=by grind
  omega
 omega
theorem round_fits {M N U V low q W t borrow:Nat} (hlow:low<M) (hbal:W+t*N+q*V*M=U*M+low+borrow*N)
  (hhi:U<(q+1)*V) (ht:borrow<=t):W+(t-borrow)*N+q*V*M=U*M+low/\W+(t-borrow)*N<V*M:=by
 have e:t*N=(t-borrow)*N+borrow*N:=by rw[<-rZ];congr 1;omega
 have h1:W+(t-borrow)*N+q*V*M=U*M+low:=by omega
 refine⟨h1,?_⟩;have h2:(U+1)*M<=(q+1)*V*M:=rx _ hhi;have e2:(U+1)*M=U*M+M:=by grind
 have e3:(q+1)*V*M=q*V*M+V*M:=by grind
 omega
theorem round_back {b M N U V low q W t borrow W2 carry:Nat} (hW:W<N) (hW2:W2<N)  (hVN:V*M<=N) (hbb:borrow<=b)
  (hbal:W+t*N+q*V*M=U*M+low+borrow*N) (hlo:(q-1)*V<=U) (ht:t<borrow)
  (hadd:W2+carry*N=W+V*M):1<=q/\W2+(q-1)*V*M=U*M+low/\W2<V*M/\t+b-borrow+carry=b:=by
 have hq:1<=q:=by
  cases q with
  | zero =>
   have:(t+1)*N<=borrow*N:=rx _ ht;rw[rZ] at this;omega
  | succ q=>omega
 have e1:q*V*M=(q-1)*V*M+V*M:=by
  obtain⟨p,rfl⟩:∃ p,q=p+1:=⟨q-1,by omega⟩;simp only[s_];grind
 have h1:(t+1)*N<=borrow*N:=rx _ ht;rw[rZ] at h1;have h2:(q-1)*V*M<=U*M:=rx _ hlo
 -- R: the true rest
 obtain⟨R,hR⟩:∃ R,U*M+low=(q-1)*V*M+R:=⟨U*M+low-(q-1)*V*M,by omega⟩
 -- t N + W + V M = R + borrow N
 have h3:W+t*N+V*M=R+borrow*N:=by omega
 have h4:W2+carry*N+t*N=R+borrow*N:=by omega
 have hRlt:R<V*M:=by omega
 have hRN:R<N:=by omega
 have hN:0<N:=by omega
 have h5:W2+(carry+t)*N=R+borrow*N:=by rw[rZ];omega
 have h6:carry+t=borrow:=by
  have a1:(W2+(carry+t)*N) / N=carry+t:=by rw[tC _ _ hN,se hW2,sk]
  have a2:(R+borrow*N) / N=borrow:=by rw[tC _ _ hN,se hRN,sk]
  rw[<-a1,h5,a2]
 refine⟨hq,?_,?_,?_⟩
 ·rw[h6] at h5;omega
 ·rw[h6] at h5;omega
 ·omega
end Go.Proofs.YtmakbmhlemhgeaaGreatDoor.Kn
namespace Go.Proofs.YtmakbmhlemhgeaaGreatDoor.Dc
def dg (k:Nat):UInt8:=UInt8.ofNat (48+k)
def dec (n:Nat):List UInt8:=if _h:n<10 then [dg n] else dec (n / 10)++[dg (n % 10)]
termination_by n
decreasing_by omega
theorem cr {n:Nat} (h:n<10):dec n=[dg n]:=by rw[dec,dif_pos h]
theorem dC {n:Nat} (h:10<=n):dec n=dec (n / 10)++[dg (n % 10)]:=by rw[dec,dif_neg (by omega)]
theorem c_ (n:Nat):dec n≠[]:=by
 by_cases h:n<10
 ·rw[cr h];simp
 ·rw[dC (by omega)];simp
theorem cp (n:Nat):0<(dec n).length:=rN.2 (c_ n)
theorem aT {k n:Nat} (hk:1<=k) (h:n<10 ^ k):(dec n).length<=k:=by
 induction k generalizing n with
 | zero=>omega
 | succ k ih =>
  by_cases hn:n<10
  ·rw[cr hn];simp
  ·rw[dC (by omega),rE]
   have hk1:1<=k:=by
    cases k with
    | zero=>simp at h;omega
    | succ k=>omega
   have:=ih hk1 (n:=n / 10) (by rw[rK] at h;omega);simp;omega
theorem dY {k n:Nat} (h:10 ^ k<=n):k+1<=(dec n).length:=by
 induction k generalizing n with
 | zero=>exact cp n
 | succ k ih =>
  have h10:10<=n:=by
   have:10 ^ 1<=10 ^ (k+1):=rI (by omega) (by omega);omega
  rw[dC h10,rE];have:=ih (n:=n / 10) (by rw[rK] at h;omega);simp;omega
def low:Nat->Nat->List UInt8
 | 0,_=>[]
 | k+1,n=>low k (n / 10)++[dg (n % 10)]
theorem kH (k n:Nat):(low k n).length=k:=by
 induction k generalizing n with
 | zero=>rfl
 | succ k ih=>simp[low,ih]
theorem nt (k:Nat):low k 0=List.replicate k 48:=by
 induction k with
 | zero=>rfl
 | succ k ih=>simp only[low,Nat.zero_div,ih,Nat.zero_mod];exact (List.replicate_succ' ..).symm
theorem ie (k n:Nat) (h:10 ^ k<=n):dec n=dec (n / 10 ^ k)++low k (n % 10 ^ k):=by
 induction k generalizing n with
 | zero=>simp[low]
 | succ k ih =>
  have h10:10<=n:=by
   have:10 ^ 1<=10 ^ (k+1):=rI (by omega) (by omega);omega
  have hq:10 ^ k<=n / 10:=by rw[rK] at h;omega
  rw[dC h10,ih _ hq,low,sK];have e1:n / 10 / 10 ^ k=n / 10 ^ (k+1):=by rw[Nat.div_div_eq_div_mul,rK,rQ]
  have e2:n % 10 ^ (k+1) / 10=n / 10 % 10 ^ k:=by
   rw[rK,rQ,Nat.mod_mul_right_div_self]
  have e3:n % 10 ^ (k+1) % 10=n % 10:=by
   rw[rK];exact Nat.mod_mod_of_dvd _ (Nat.dvd_mul_left _ _)
  rw[e1,e2,e3]
theorem qp (k n:Nat) (hk:1<=k) (h:n<10 ^ k):low k n=List.replicate (k-(dec n).length) 48++dec n:=by
 induction k generalizing n with
 | zero=>omega
 | succ k ih =>
  by_cases hn:n<10
  ·rw[low,se hn,nt,cr hn,sQ hn];simp
  ·have hk1:1<=k:=by
    cases k with
    | zero=>simp at h;omega
    | succ k=>omega
   have hd:n / 10<10 ^ k:=by rw[rK] at h;omega
   rw[low,ih _ hk1 hd,dC (n:=n) (by omega),sK,rE];simp
def aL (c:UInt8):Bool:=decide (48<=c.toNat)&&decide (c.toNat<=57)
def aC (l:List UInt8):Nat:=l.foldl (fun n c=>10*n+(c.toNat-48)) 0
theorem lY (l:List UInt8) (n:Nat):l.foldl (fun n c=>10*n+(c.toNat-48)) n=n*10 ^ l.length+aC l:=by
 induction l generalizing n with
 | nil=>simp[aC]
 | cons c l ih =>
  simp only[List.foldl_cons,rM,aC];rw[ih,ih (10*0+(c.toNat-48)),rK];grind
theorem cL (l m:List UInt8):aC (l++m)=aC l*10 ^ m.length+aC m:=by
 rw[aC,List.foldl_append,lY];rfl
theorem fs (l:List UInt8) (c:UInt8):aC (l++[c])=10*aC l+(c.toNat-48):=by
 rw[cL];simp[aC];omega
theorem eR (l:List UInt8) (h:l.all aL=true):aC l<10 ^ l.length:=by
 induction l with
 | nil=>simp[aC]
 | cons c l ih =>
  simp only[List.all_cons,rS] at h;have ih:=ih h.2;have hc:c.toNat<=57:=by have:=h.1;simp[aL] at this;exact this.2
  have:c :: l=[c]++l:=rfl;rw[this,cL];simp only[aC,List.foldl_cons,List.foldl_nil,rE,rM,r8,r0] at *
  have h2:(10*0+(c.toNat-48))*10 ^ l.length<=9*10 ^ l.length:=rx _ (by omega);omega
theorem fc {k:Nat} (h:k<10):(dg k).toNat=48+k:=by
 rw[dg,UInt8.toNat_ofNat'];exact sQ (by omega)
theorem fv {k:Nat} (h:k<10):aL (dg k)=true:=by
 simp only[aL,fc h];simp;omega
theorem dO (n:Nat):(dec n).all aL=true:=by
 induction n using Nat.strongRecOn with
 | ind n ih =>
  by_cases h:n<10
  ·rw[cr h];simp[fv h]
  ·rw[dC (by omega)];simp[ih (n / 10) (by omega),fv (sB n (by omega))]
theorem gm (n:Nat):aC (dec n)=n:=by
 induction n using Nat.strongRecOn with
 | ind n ih =>
  by_cases h:n<10
  ·rw[cr h];simp[aC,fc h]
  ·rw[dC (by omega),fs,ih (n / 10) (by omega),fc (sB n (by omega))];omega
end Go.Proofs.YtmakbmhlemhgeaaGreatDoor.Dc
