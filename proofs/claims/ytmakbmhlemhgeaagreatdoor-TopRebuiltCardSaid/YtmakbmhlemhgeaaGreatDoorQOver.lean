/- L -/
import Derived.Test.YtmakbmhlemhgeaaGreatDoorQPlain
import Derived.Test.YtmakbmhlemhgeaaGreatDoorQNat
set_option linter.all false
set_option maxRecDepth 100000
set_option maxHeartbeats 8000000
namespace Go.Proofs.YtmakbmhlemhgeaaGreatDoor
open Dg
theorem cT (l:List Nat) (i j:Nat):nth (l.drop i) j=nth l (i+j):=by simp[nth]
theorem fH {b:Nat}{l:List Nat} (h:∀ j,nth l j=0):val b l=0:=by
 induction l with
 | nil=>rfl
 | cons d l ih =>
  have h0:=h 0;have h1:=ih (fun j=>by have:=h (j+1);simpa[nth] using this);simp[nth] at h0;simp[h0,h1]
theorem oB {b:Nat}{L:List Nat}{n:Nat} (h2:2<=n) (hn:n<L.length) (hz:∀ j,n+1<=j->nth L j=0) :
  val b L=((nth L n*b+nth L (n-1))*b+nth L (n-2))*b ^ (n-2)+val b (L.take (n-2)):=by
 have e:=ck b L (n+1);rw[fH (l:=L.drop (n+1)) (fun j=>by rw[cT];exact hz _ (by omega)),Nat.mul_zero,r7] at e;obtain⟨p,rfl⟩:∃ p,n=p+2:=⟨n-2,by omega⟩;rw[aS hn,aS (by omega),aS (by omega)] at e;rw[e,rK,rK,show p+2-1=p+1 by omega,show p+2-2=p by omega];grind
theorem oA {b:Nat}{L:List Nat} (h2:2<=L.length) :
  val b L=(nth L (L.length-1)*b+nth L (L.length-2))*b ^ (L.length-2)+val b (L.take (L.length-2)):=by
 obtain⟨p,hp⟩:∃ p,L.length=p+2:=⟨L.length-2,by omega⟩;have e:val b L=val b (L.take (p+1+1)):=by rw[rz (by omega)]
 rw[aS (by omega),aS (by omega)] at e;rw[e,hp,rK,show p+2-1=p+1 by omega,show p+2-2=p by omega];grind
theorem dp {l:List Nat}{k:Nat} (h:∀ x∈l,x<BB) (hk:k<=l.length):val BB (l.take k)<BB ^ k:=by
 have:=dI BB (l.take k) (fun d hd=>h d (tF hd))
 rwa [rV,r9 hk] at this
structure dz (lu0 lv:List Nat) (k:Nat) (lu lo:List Nat):Prop where
 len:lu.length=lu0.length
 dig:∀ x∈lu,x<BB
 zero:∀ j,k+lv.length<=j->nth lu j=0
 leno:lo.length+lv.length=lu0.length
 digo:∀ x∈lo,x<BB
 eq:Dg.val BB lu0=Dg.val BB lu+Dg.val BB lv*(BB ^ k*Dg.val BB (lo.drop k))
 lt:Dg.val BB lu<Dg.val BB lv*BB ^ k
structure ku (lu lv:List Nat) (i U low top u2 ulow vt v2 vlow P:Nat):Prop where
 all:Dg.val BB lu=U*BB ^ i+low
 low:low<BB ^ i
 lt:U<Dg.val BB lv*BB
 eqU:U=(top*BB+u2)*P+ulow
 ulow:ulow<P
 eqV:Dg.val BB lv=(vt*BB+v2)*P+vlow
 vlow:vlow<P
theorem m0 {lu0 lv lu lo:List Nat}{i:Nat} (h:dz lu0 lv (i+1) lu lo) (hv:∀ x∈lv,x<BB) (h2:2<=lv.length) (hi:i+lv.length<lu.length) :
  ku lu lv i (val BB (lu.drop i)) (val BB (lu.take i)) (nth lu (i+lv.length)*BB+nth lu (i+lv.length-1)) (nth lu (i+lv.length-2)) (val BB ((lu.drop i).take (lv.length-2)))
   (nth lv (lv.length-1)) (nth lv (lv.length-2)) (val BB (lv.take (lv.length-2))) (BB ^ (lv.length-2)):=by
 have e:=ck BB lu i;rw[r9 (by omega)] at e;have e':val BB lu=val BB (lu.drop i)*BB ^ i+val BB (lu.take i):=by rw[e,rQ];omega
 have e3:=oB (b:=BB) (L:=lu.drop i) h2 (by rw[rW];omega) (fun j hj=>by rw[cT];exact h.zero _ (by omega));rw[cT,cT,cT,show i+(lv.length-1)=i+lv.length-1 by omega,show i+(lv.length-2)=i+lv.length-2 by omega] at e3;refine⟨e',dp h.dig (by omega),?_,e3,?_,oA h2,dp hv (by omega)⟩
 ·have h1:=h.lt;rw[e',rK] at h1
  have h4:val BB (lu.drop i)*BB ^ i<val BB lv*BB*BB ^ i:=by
   have:val BB lv*(BB ^ i*BB)=val BB lv*BB*BB ^ i:=by grind
   omega
  exact sJ h4
 ·have hd:∀ x∈lu.drop i,x<BB:=fun x hx=>h.dig x (tE hx);exact dp hd (by rw[rW];omega)
theorem nJ (k:Nat):0<BB ^ k:=sf (by decide)
theorem oD {lu lv:List Nat}{i U low un u1 u2 ulow vt v2 vlow P:Nat} (h:ku lu lv i U low (un*BB+u1) u2 ulow vt v2 vlow P) (hv2:v2<BB) (_hu1:u1<BB):un<=vt:=by
 have hP:0<P:=by have:=h.vlow;omega
 have h1:un*(BB*BB*P)<=U:=by
  rw[h.eqU];have:((un*BB+u1)*BB+u2)*P=un*(BB*BB*P)+(u1*BB+u2)*P:=by grind
  omega
 have h2:val BB lv*BB<(vt+1)*(BB*BB*P):=by
  have e1:val BB lv<(vt+1)*BB*P:=by
   rw[h.eqV];have e3:(v2+1)*P<=BB*P:=rx _ hv2;have e4:(vt+1)*BB*P=vt*BB*P+BB*P:=by grind
   have e5:(vt*BB+v2)*P=vt*BB*P+v2*P:=by grind
   have e6:(v2+1)*P=v2*P+P:=by grind
   have:=h.vlow;omega
  have:(vt+1)*(BB*BB*P)=(vt+1)*BB*P*BB:=by grind
  rw[this];exact sG e1 (by decide)
 have h3:=h.lt;have h4:un*(BB*BB*P)<(vt+1)*(BB*BB*P):=by omega
 have:=sJ h4;omega
structure jh (U V top vt q r:Nat):Prop where
 eq:q*vt+r=top
 hi:U<(q+1)*V
structure fP (U V q:Nat):Prop where
 small:q<BB
 lo:(q-1)*V<=U
 hi:U<(q+1)*V
theorem jz {lu lv:List Nat}{i U low top u2 ulow vt v2 vlow P:Nat} (h:ku lu lv i U low top u2 ulow vt v2 vlow P) (hvt:1<=vt) (hu2:u2<BB) :
  jh U (val BB lv) top vt (top / vt) (top % vt) :=
 ⟨by rw[rQ];exact sA ..,Kn.guess_first h.eqU h.ulow hu2 h.eqV hvt⟩
theorem ii {lu lv:List Nat}{i U low top u2 ulow vt v2 vlow P q r:Nat} (h:ku lu lv i U low top u2 ulow vt v2 vlow P) (hg:jh U (val BB lv) top vt q r)
  (hb:BB<=q\/r*BB+u2<q*v2):1<=q/\jh U (val BB lv) top vt (q-1) (r+vt):=by
 have hq:1<=q:=by
  rcases hb with hb | hb
  ·have:1<=BB:=by decide
   omega
  ·cases q with
   | zero=>simp at hb
   | succ q=>omega
 have h1:=Kn.guess_back h.eqU h.ulow h.eqV h.lt hg.eq hb;refine⟨hq,?_,?_⟩
 ·rw[<-hg.eq];obtain⟨p,rfl⟩:∃ p,q=p+1:=⟨q-1,by omega⟩;rw[s_,rZ];omega
 ·rw[show q-1+1=q by omega];exact h1
theorem eW {lu lv:List Nat}{i U low un u1 u2 ulow vt v2 vlow P q r:Nat} (h:ku lu lv i U low (un*BB+u1) u2 ulow vt v2 vlow P) (hg:jh U (val BB lv) (un*BB+u1) vt q r)
  (hvt:1<=vt) (hv2:v2<BB) (hu1:u1<BB) (hb:(q<BB/\q*v2<=r*BB+u2)\/BB<=r):fP U (val BB lv) q:=by
 have hq:q<BB/\q*v2<=r*BB+u2:=by
  rcases hb with hb | hb
  ·exact hb
  ·have hun:=oD h hv2 hu1
   have hq:q<BB:=by
    rcases sj q BB with hq | hq
    ·exact hq
    ·exfalso
     have h1:=hg.eq;have h2:BB*vt<=q*vt:=rx _ hq;have h3:un*BB<=vt*BB:=rx _ hun;rw[rQ BB vt] at h2;omega
   refine⟨hq,?_⟩;have h1:q*v2<=BB*BB:=sg (by omega) (by omega);have h2:BB*BB<=r*BB:=rx _ hb;omega
 exact⟨hq.1,Kn.guess_low h.eqU h.eqV h.vlow hg.eq hq.1 hvt hq.2,hg.hi⟩
structure Sub (lu0 lv:List Nat) (i q k bw:Nat) (lu:List Nat):Prop where
 len:lu.length=lu0.length
 dig:∀ x∈lu,x<BB
 bor:bw<=BB
 val:Dg.val BB lu+q*Dg.val BB (lv.take k)*BB ^ i=Dg.val BB lu0+bw*BB ^ (i+k)
 same:∀ j,i+k<=j->nth lu j=nth lu0 j
theorem mp (lu0 lv:List Nat) (i q:Nat) (h:∀ x∈lu0,x<BB):Sub lu0 lv i q 0 0 lu0:=⟨rfl,h,rH _,by simp,fun _ _=>rfl⟩
theorem lC {bw q y:Nat} (hb:bw<=BB) (hq:q<BB) (hy:y<BB):bw+q*y<=999999999000000001:=by
 have:q*y<=999999999*999999999:=sg (by simp only[BB] at hq;omega) (by simp only[BB] at hy;omega);simp only[BB] at *;omega
theorem n_ {lu0 lv lu:List Nat}{i q k bw c d:Nat} (h:Sub lu0 lv i q k bw lu) (hk:k<lv.length) (hik:i+k<lu0.length) (hq:q<BB) (hv:∀ x∈lv,x<BB)
  (hd:d<BB) (hc:c<=1) (he:d+(bw+q*nth lv k) % BB=nth lu (i+k)+c*BB) :
  Sub lu0 lv i q (k+1) ((bw+q*nth lv k) / BB+c) (lu.set (i+k) d):=by
 have hlen:i+k<lu.length:=by rw[h.len];exact hik
 have hS:=lC h.bor hq (aV hv hk);have hpos:0<BB:=by decide
 refine⟨by simp[h.len],bg h.dig hd,?_,?_,?_⟩
 ·have:(bw+q*nth lv k) / BB<BB:=by
   rw[sH hpos];simp only[BB];omega
  omega
 ·have e1:=dl (b:=BB) (d:=d) hlen;have e2:=h.val;have e3:=aS (b:=BB) hk;have e4:=sA (bw+q*nth lv k) BB;rw[e3];generalize (bw+q*nth lv k) / BB=p at *
  generalize (bw+q*nth lv k) % BB=r at *
  generalize nth lu (i+k)=o at *
  generalize nth lv k=y at *
  have e5:BB ^ (i+(k+1))=BB*BB ^ (i+k):=by rw[<-sV,rK,rQ]
  have e6:BB ^ (i+k)=BB ^ i*BB ^ k:=r0 ..;rw[e5];have e7:(BB*p+r)*BB ^ (i+k)=(bw+q*y)*BB ^ (i+k):=by rw[e4]
  have e8:(d+r)*BB ^ (i+k)=(o+c*BB)*BB ^ (i+k):=by rw[he]
  have e9:q*(val BB (lv.take k)+y*BB ^ k)*BB ^ i=q*val BB (lv.take k)*BB ^ i+q*y*BB ^ (i+k):=by rw[e6];grind
  rw[e9];have f1:(BB*p+r)*BB ^ (i+k)=p*(BB*BB ^ (i+k))+r*BB ^ (i+k):=by grind
  have f2:(bw+q*y)*BB ^ (i+k)=bw*BB ^ (i+k)+q*y*BB ^ (i+k):=by grind
  have f3:(d+r)*BB ^ (i+k)=d*BB ^ (i+k)+r*BB ^ (i+k):=by grind
  have f4:(o+c*BB)*BB ^ (i+k)=o*BB ^ (i+k)+c*(BB*BB ^ (i+k)):=by grind
  have f5:(p+c)*(BB*BB ^ (i+k))=p*(BB*BB ^ (i+k))+c*(BB*BB ^ (i+k)):=by grind
  omega
 ·intro j hj;rw[aW (by omega)];exact h.same j (by omega)
structure Add (lu0 lv:List Nat) (i k c:Nat) (lu:List Nat):Prop where
 len:lu.length=lu0.length
 dig:∀ x∈lu,x<BB
 car:c<=1
 val:Dg.val BB lu+c*BB ^ (i+k)=Dg.val BB lu0+Dg.val BB (lv.take k)*BB ^ i
 same:∀ j,i+k<=j->nth lu j=nth lu0 j
theorem lP (lu0 lv:List Nat) (i:Nat) (h:∀ x∈lu0,x<BB):Add lu0 lv i 0 0 lu0:=⟨rfl,h,rH _,by simp,fun _ _=>rfl⟩
theorem mH {lu0 lv lu:List Nat}{i k c:Nat} (h:Add lu0 lv i k c lu) (hk:k<lv.length) (hik:i+k<lu0.length) (hv:∀ x∈lv,x<BB) :
  Add lu0 lv i (k+1) ((c+(nth lu (i+k)+nth lv k)) / BB) (lu.set (i+k) ((c+(nth lu (i+k)+nth lv k)) % BB)):=by
 have hlen:i+k<lu.length:=by rw[h.len];exact hik
 have hu:=aV h.dig hlen;have hy:=aV hv hk;have hc:=h.car;have hpos:0<BB:=by decide
 refine⟨by simp[h.len],bg h.dig (sB _ hpos),?_,?_,?_⟩
 ·have:(c+(nth lu (i+k)+nth lv k)) / BB<2:=by rw[sH hpos];omega
  omega
 ·have e1:=dl (b:=BB) (d:=(c+(nth lu (i+k)+nth lv k)) % BB) hlen;have e2:=h.val;have e3:=aS (b:=BB) hk;have e4:=sA (c+(nth lu (i+k)+nth lv k)) BB;rw[e3];generalize (c+(nth lu (i+k)+nth lv k)) / BB=p at *
  generalize (c+(nth lu (i+k)+nth lv k)) % BB=r at *
  generalize nth lu (i+k)=o at *
  generalize nth lv k=y at *
  have e5:BB ^ (i+(k+1))=BB*BB ^ (i+k):=by rw[<-sV,rK,rQ]
  have e6:BB ^ (i+k)=BB ^ i*BB ^ k:=r0 ..;rw[e5];have e7:(BB*p+r)*BB ^ (i+k)=(c+(o+y))*BB ^ (i+k):=by rw[e4]
  have e9:(val BB (lv.take k)+y*BB ^ k)*BB ^ i=val BB (lv.take k)*BB ^ i+y*BB ^ (i+k):=by rw[e6];grind
  rw[e9];have f1:(BB*p+r)*BB ^ (i+k)=p*(BB*BB ^ (i+k))+r*BB ^ (i+k):=by grind
  have f2:(c+(o+y))*BB ^ (i+k)=c*BB ^ (i+k)+o*BB ^ (i+k)+y*BB ^ (i+k):=by grind
  omega
 ·intro j hj;rw[aW (by omega)];exact h.same j (by omega)
theorem cf {l:List Nat}{k d:Nat} (h:k<l.length):nth (l.set k d) k=d:=by simp[nth,h]
theorem kh {l:List Nat}{k d:Nat}:(l.set k d).take k=l.take k:=by
 apply List.ext_getElem?
 intro j;simp only[List.getElem?_take]
 split
 ·rw[List.getElem?_set_ne (by omega)]
 ·rfl
theorem gR {b:Nat}{l:List Nat}{p:Nat} (hp:p<l.length) (hz:∀ j,p+1<=j->nth l j=0):val b l=val b (l.take p)+nth l p*b ^ p:=by
 have e:=ck b l (p+1);rw[fH (l:=l.drop (p+1)) (fun j=>by rw[cT];exact hz _ (by omega)),Nat.mul_zero,r7,aS hp] at e;exact e
theorem pV {lv:List Nat} (hv:∀ x∈lv,x<BB) (i:Nat):val BB lv*BB ^ i<=BB ^ (i+lv.length):=by
 have:=dI BB lv hv;have h2:val BB lv*BB ^ i<=BB ^ lv.length*BB ^ i:=rx _ (by omega);rw[r0,rQ (BB ^ i)];exact h2
theorem ln {lo:List Nat}{i q:Nat} (h:i<lo.length):val BB ((lo.set i q).drop i)=q+BB*val BB (lo.drop (i+1)):=by
 rw[dZ h,val_cons]
theorem mZ {lu0 lv lu lo lu1:List Nat}{i q bw U low top u2 ulow vt v2 vlow P:Nat} (h:dz lu0 lv (i+1) lu lo) (hw:ku lu lv i U low top u2 ulow vt v2 vlow P)
  (hv:∀ x∈lv,x<BB) (hi:i+lv.length<lu0.length) (hg:fP U (val BB lv) q) (hs:Sub lu lv i q lv.length bw lu1) (ht:bw<=nth lu1 (i+lv.length)) :
  dz lu0 lv i (lu1.set (i+lv.length) (nth lu1 (i+lv.length)-bw)) (lo.set i q):=by
 have hlen1:i+lv.length<lu1.length:=by rw[hs.len,h.len];exact hi
 have hz1:∀ j,i+lv.length+1<=j->nth lu1 j=0:=fun j hj=>by rw[hs.same j (by omega)];exact h.zero j (by omega)
 have e1:=gR (b:=BB) hlen1 hz1;have e2:=hs.val;rw[rz (rp _),e1,hw.all] at e2;have R:=Kn.round_fits hw.low e2 hg.hi ht
 have e3:val BB (lu1.set (i+lv.length) (nth lu1 (i+lv.length)-bw))=val BB (lu1.take (i+lv.length))+(nth lu1 (i+lv.length)-bw)*BB ^ (i+lv.length):=by
  have:=dl (b:=BB) (d:=nth lu1 (i+lv.length)-bw) hlen1;rw[e1] at this;omega
 have hz:nth lu1 (i+lv.length)-bw=0:=by
  have h1:=R.2;have h2:=pV hv i;have h3:(nth lu1 (i+lv.length)-bw)*BB ^ (i+lv.length)<1*BB ^ (i+lv.length):=by omega
  have:=sJ h3;omega
 have hlo:i<lo.length:=by have:=h.leno;omega
 refine⟨by simp[hs.len,h.len],bg hs.dig (by rw[hz];decide),?_,by simp;exact h.leno,bg h.digo hg.small,?_,?_⟩
 ·intro j hj;by_cases hj2:j=i+lv.length
  ·subst hj2;rw[cf hlen1];exact hz
  ·rw[aW hj2];exact hz1 j (by omega)
 ·rw[h.eq,hw.all,e3,ln hlo,<-R.1,rK];grind
 ·rw[e3];exact R.2
theorem mX {lu0 lv lu lo lu1 lu3:List Nat}{i q bw c U low top u2 ulow vt v2 vlow P:Nat} (h:dz lu0 lv (i+1) lu lo) (hw:ku lu lv i U low top u2 ulow vt v2 vlow P)
  (hv:∀ x∈lv,x<BB) (hi:i+lv.length<lu0.length) (hg:fP U (val BB lv) q) (hs:Sub lu lv i q lv.length bw lu1) (ht:nth lu1 (i+lv.length)<bw)
  (ha:Add (lu1.set (i+lv.length) (nth lu1 (i+lv.length)+BB-bw)) lv i lv.length c lu3) :
  1<=q/\dz lu0 lv i (lu3.set (i+lv.length) ((nth lu3 (i+lv.length)+c) % BB)) (lo.set i (q-1)):=by
 have hlen1:i+lv.length<lu1.length:=by rw[hs.len,h.len];exact hi
 have hlen3:i+lv.length<lu3.length:=by rw[ha.len,tm];exact hlen1
 have hz1:∀ j,i+lv.length+1<=j->nth lu1 j=0:=fun j hj=>by rw[hs.same j (by omega)];exact h.zero j (by omega)
 have hz3:∀ j,i+lv.length+1<=j->nth lu3 j=0:=fun j hj=>by
  rw[ha.same j (by omega),aW (by omega)];exact hz1 j hj
 have hn3:nth lu3 (i+lv.length)=nth lu1 (i+lv.length)+BB-bw:=by rw[ha.same _ (rp _),cf hlen1]
 have e1:=gR (b:=BB) hlen1 hz1;have e2:=hs.val;rw[rz (rp _),e1,hw.all] at e2;have e3:=gR (b:=BB) hlen3 hz3;have e4:=dl (b:=BB) (d:=nth lu1 (i+lv.length)+BB-bw) hlen1;have e5:=ha.val;rw[rz (rp _),e3,hn3] at e5;have hW:val BB (lu1.take (i+lv.length))<BB ^ (i+lv.length):=dp hs.dig (by omega);have hW3:val BB (lu3.take (i+lv.length))<BB ^ (i+lv.length):=dp ha.dig (by omega)
 have hadd:val BB (lu3.take (i+lv.length))+c*BB ^ (i+lv.length)=val BB (lu1.take (i+lv.length))+val BB lv*BB ^ i:=by
  rw[e1] at e4;omega
 have R:=Kn.round_back (b:=BB) hW hW3 (pV hv i) hs.bor e2 hg.lo ht hadd;have hm:(nth lu3 (i+lv.length)+c) % BB=0:=by rw[hn3,R.2.2.2,Nat.mod_self]
 have e6:val BB (lu3.set (i+lv.length) ((nth lu3 (i+lv.length)+c) % BB))=val BB (lu3.take (i+lv.length)):=by
  have:=dl (b:=BB) (d:=(nth lu3 (i+lv.length)+c) % BB) hlen3;rw[e3,hm] at this;rw[hm];omega
 have hlo:i<lo.length:=by have:=h.leno;omega
 have hq:=hg.small;refine⟨R.1,by simp[ha.len,hs.len,h.len],bg ha.dig (by rw[hm];decide),?_,by simp;exact h.leno,bg h.digo (by omega),?_,?_⟩
 ·intro j hj;by_cases hj2:j=i+lv.length
  ·subst hj2;rw[cf hlen3];exact hm
  ·rw[aW hj2];exact hz3 j (by omega)
 ·rw[h.eq,hw.all,e6,ln hlo,<-R.2.1,rK];grind
 ·rw[e6];exact R.2.2.1
end Go.Proofs.YtmakbmhlemhgeaaGreatDoor
