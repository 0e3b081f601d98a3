/- L -/
import Derived.Deep.DeepCutAuto
import Derived.Deep.CutBlock
import Derived.Deep.CutRange
import Derived.StillTailTactics
import Derived.Deep.DeepFit
import Derived.Deep.RegionWith
import Derived.RegionTactic
import Derived.Test.YtgakllaobooabaaGreatDoorXPlain
import Derived.Test.YtgakllaobooabaaGreatDoorXNat
import Derived.Test.YtgakllaobooabaaGreatDoorXB
set_option linter.all false
set_option maxRecDepth 100000
set_option maxHeartbeats 8000000
namespace Go.Proofs.YtgakllaobooabaaGreatDoor
open Dg
theorem fD (l:List Nat) (i j:Nat):nth (l.drop i) j=nth l (i+j):=by simp[nth]
theorem j8 {b:Nat}{l:List Nat} (h:∀ j,nth l j=0):val b l=0:=by
 induction l with
 | nil=>rfl
 | cons d l ih =>
  have h0:=h 0;have h1:=ih (fun j=>by have:=h (j+1);simpa[nth] using this);simp[nth] at h0;simp[h0,h1]
theorem xy {b:Nat}{L:List Nat}{n:Nat} (h2:2<=n) (hn:n<L.length) (hz:∀ j,n+1<=j->nth L j=0) :
  val b L=((nth L n*b+nth L (n-1))*b+nth L (n-2))*b ^ (n-2)+val b (L.take (n-2)):=by
 have e:=fP b L (n+1);rw[j8 (l:=L.drop (n+1)) (fun j=>by rw[fD];exact hz _ (by omega)),Nat.mul_zero,Bb] at e;obtain⟨p,rfl⟩:∃ p,n=p+2:=⟨n-2,by omega⟩;rw[bS hn,bS (by omega),bS (by omega)] at e;rw[e,AS,AS,show p+2-1=p+1 by omega,show p+2-2=p by omega];grind
theorem xx {b:Nat}{L:List Nat} (h2:2<=L.length) :
  val b L=(nth L (L.length-1)*b+nth L (L.length-2))*b ^ (L.length-2)+val b (L.take (L.length-2)):=by
 obtain⟨p,hp⟩:∃ p,L.length=p+2:=⟨L.length-2,by omega⟩;have e:val b L=val b (L.take (p+1+1)):=by rw[AK (by omega)]
 rw[bS (by omega),bS (by omega)] at e;rw[e,hp,AS,show p+2-1=p+1 by omega,show p+2-2=p by omega];grind
theorem gj {l:List Nat}{k:Nat} (h:∀ x∈l,x<BB) (hk:k<=l.length):val BB (l.take k)<BB ^ k:=by
 have:=gZ BB (l.take k) (fun d hd=>h d (CF hd))
 rwa [A6,Bo hk] at this
structure gA (lu0 lv:List Nat) (k:Nat) (lu lo:List Nat):Prop where
 len:lu.length=lu0.length
 dig:∀ x∈lu,x<BB
 zero:∀ j,k+lv.length<=j->nth lu j=0
 leno:lo.length+lv.length=lu0.length
 digo:∀ x∈lo,x<BB
 eq:Dg.val BB lu0=Dg.val BB lu+Dg.val BB lv*(BB ^ k*Dg.val BB (lo.drop k))
 lt:Dg.val BB lu<Dg.val BB lv*BB ^ k
structure qm (lu lv:List Nat) (i U low top u2 ulow vt v2 vlow P:Nat):Prop where
 all:Dg.val BB lu=U*BB ^ i+low
 low:low<BB ^ i
 lt:U<Dg.val BB lv*BB
 eqU:U=(top*BB+u2)*P+ulow
 ulow:ulow<P
 eqV:Dg.val BB lv=(vt*BB+v2)*P+vlow
 vlow:vlow<P
theorem vf {lu0 lv lu lo:List Nat}{i:Nat} (h:gA lu0 lv (i+1) lu lo) (hv:∀ x∈lv,x<BB) (h2:2<=lv.length) (hi:i+lv.length<lu.length) :
  qm lu lv i (val BB (lu.drop i)) (val BB (lu.take i)) (nth lu (i+lv.length)*BB+nth lu (i+lv.length-1)) (nth lu (i+lv.length-2)) (val BB ((lu.drop i).take (lv.length-2)))
   (nth lv (lv.length-1)) (nth lv (lv.length-2)) (val BB (lv.take (lv.length-2))) (BB ^ (lv.length-2)):=by
 have e:=fP BB lu i;rw[Bo (by omega)] at e;have e':val BB lu=val BB (lu.drop i)*BB ^ i+val BB (lu.take i):=by rw[e,AT];omega
 have e3:=xy (b:=BB) (L:=lu.drop i) h2 (by rw[Ba];omega) (fun j hj=>by rw[fD];exact h.zero _ (by omega));rw[fD,fD,fD,show i+(lv.length-1)=i+lv.length-1 by omega,show i+(lv.length-2)=i+lv.length-2 by omega] at e3;refine⟨e',gj h.dig (by omega),?_,e3,?_,xx h2,gj hv (by omega)⟩
 ·have h1:=h.lt;rw[e',AS] at h1
  have h4:val BB (lu.drop i)*BB ^ i<val BB lv*BB*BB ^ i:=by
   have:val BB lv*(BB ^ i*BB)=val BB lv*BB*BB ^ i:=by grind
   omega
  exact Cc h4
 ·have hd:∀ x∈lu.drop i,x<BB:=fun x hx=>h.dig x (CE hx);exact gj hd (by rw[Ba];omega)
theorem wm (k:Nat):0<BB ^ k:=Bh (by decide)
theorem xz {lu lv:List Nat}{i U low un u1 u2 ulow vt v2 vlow P:Nat} (h:qm lu lv i U low (un*BB+u1) u2 ulow vt v2 vlow P) (hv2:v2<BB) (_hu1:u1<BB):un<=vt:=by
 have hP:0<P:=by have:=h.vlow;omega
 have h1:un*(BB*BB*P)<=U:=by
  rw[h.eqU];have:((un*BB+u1)*BB+u2)*P=un*(BB*BB*P)+(u1*BB+u2)*P:=by grind
  omega
 have h2:val BB lv*BB<(vt+1)*(BB*BB*P):=by
  have e1:val BB lv<(vt+1)*BB*P:=by
   rw[h.eqV];have e3:(v2+1)*P<=BB*P:=AJ _ hv2;have e4:(vt+1)*BB*P=vt*BB*P+BB*P:=by grind
   have e5:(vt*BB+v2)*P=vt*BB*P+v2*P:=by grind
   have e6:(v2+1)*P=v2*P+P:=by grind
   have:=h.vlow;omega
  have:(vt+1)*(BB*BB*P)=(vt+1)*BB*P*BB:=by grind
  rw[this];exact B9 e1 (by decide)
 have h3:=h.lt;have h4:un*(BB*BB*P)<(vt+1)*(BB*BB*P):=by omega
 have:=Cc h4;omega
structure nW (U V top vt q r:Nat):Prop where
 eq:q*vt+r=top
 hi:U<(q+1)*V
structure kj (U V q:Nat):Prop where
 small:q<BB
 lo:(q-1)*V<=U
 hi:U<(q+1)*V
theorem oP {lu lv:List Nat}{i U low top u2 ulow vt v2 vlow P:Nat} (h:qm lu lv i U low top u2 ulow vt v2 vlow P) (hvt:1<=vt) (hu2:u2<BB) :
  nW U (val BB lv) top vt (top / vt) (top % vt) :=
 ⟨by rw[AT];exact BP ..,Kn.guess_first h.eqU h.ulow hu2 h.eqV hvt⟩
theorem mh {lu lv:List Nat}{i U low top u2 ulow vt v2 vlow P q r:Nat} (h:qm lu lv i U low top u2 ulow vt v2 vlow P) (hg:nW U (val BB lv) top vt q r)
  (hb:BB<=q\/r*BB+u2<q*v2):1<=q/\nW U (val BB lv) top vt (q-1) (r+vt):=by
 have hq:1<=q:=by
  rcases hb with hb | hb
  ·have:1<=BB:=by decide
   omega
  ·cases q with
   | zero=>simp at hb
   | succ q=>omega
 have h1:=Kn.guess_back h.eqU h.ulow h.eqV h.lt hg.eq hb;refine⟨hq,?_,?_⟩
 ·rw[<-hg.eq];obtain⟨p,rfl⟩:∃ p,q=p+1:=⟨q-1,by omega⟩;rw[BH,Bf];omega
 ·rw[show q-1+1=q by omega];exact h1
theorem jA {lu lv:List Nat}{i U low un u1 u2 ulow vt v2 vlow P q r:Nat} (h:qm lu lv i U low (un*BB+u1) u2 ulow vt v2 vlow P) (hg:nW U (val BB lv) (un*BB+u1) vt q r)
  (hvt:1<=vt) (hv2:v2<BB) (hu1:u1<BB) (hb:(q<BB/\q*v2<=r*BB+u2)\/BB<=r):kj U (val BB lv) q:=by
 have hq:q<BB/\q*v2<=r*BB+u2:=by
  rcases hb with hb | hb
  ·exact hb
  ·have hun:=xz h hv2 hu1
   have hq:q<BB:=by
    rcases BK q BB with hq | hq
    ·exact hq
    ·exfalso
     have h1:=hg.eq;have h2:BB*vt<=q*vt:=AJ _ hq;have h3:un*BB<=vt*BB:=AJ _ hun;rw[AT BB vt] at h2;omega
   refine⟨hq,?_⟩;have h1:q*v2<=BB*BB:=Be (by omega) (by omega);have h2:BB*BB<=r*BB:=AJ _ hb;omega
 exact⟨hq.1,Kn.guess_low h.eqU h.eqV h.vlow hg.eq hq.1 hvt hq.2,hg.hi⟩
structure Sub (lu0 lv:List Nat) (i q k bw:Nat) (lu:List Nat):Prop where
 len:lu.length=lu0.length
 dig:∀ x∈lu,x<BB
 bor:bw<=BB
 val:Dg.val BB lu+q*Dg.val BB (lv.take k)*BB ^ i=Dg.val BB lu0+bw*BB ^ (i+k)
 same:∀ j,i+k<=j->nth lu j=nth lu0 j
theorem ue (lu0 lv:List Nat) (i q:Nat) (h:∀ x∈lu0,x<BB):Sub lu0 lv i q 0 0 lu0:=⟨rfl,h,AI _,by simp,fun _ _=>rfl⟩
theorem sE {bw q y:Nat} (hb:bw<=BB) (hq:q<BB) (hy:y<BB):bw+q*y<=999999999000000001:=by
 have:q*y<=999999999*999999999:=Be (by simp only[BB] at hq;omega) (by simp only[BB] at hy;omega);simp only[BB] at *;omega
theorem xf {lu0 lv lu:List Nat}{i q k bw c d:Nat} (h:Sub lu0 lv i q k bw lu) (hk:k<lv.length) (hik:i+k<lu0.length) (hq:q<BB) (hv:∀ x∈lv,x<BB)
  (hd:d<BB) (hc:c<=1) (he:d+(bw+q*nth lv k) % BB=nth lu (i+k)+c*BB) :
  Sub lu0 lv i q (k+1) ((bw+q*nth lv k) / BB+c) (lu.set (i+k) d):=by
 have hlen:i+k<lu.length:=by rw[h.len];exact hik
 have hS:=sE h.bor hq (cf hv hk);have hpos:0<BB:=by decide
 refine⟨by simp[h.len],cA h.dig hd,?_,?_,?_⟩
 ·have:(bw+q*nth lv k) / BB<BB:=by
   rw[Ca hpos];simp only[BB];omega
  omega
 ·have e1:=gh (b:=BB) (d:=d) hlen;have e2:=h.val;have e3:=bS (b:=BB) hk;have e4:=BP (bw+q*nth lv k) BB;rw[e3];generalize (bw+q*nth lv k) / BB=p at *
  generalize (bw+q*nth lv k) % BB=r at *
  generalize nth lu (i+k)=o at *
  generalize nth lv k=y at *
  have e5:BB ^ (i+(k+1))=BB*BB ^ (i+k):=by rw[<-Cb,AS,AT]
  have e6:BB ^ (i+k)=BB ^ i*BB ^ k:=BC ..;rw[e5];have e7:(BB*p+r)*BB ^ (i+k)=(bw+q*y)*BB ^ (i+k):=by rw[e4]
  have e8:(d+r)*BB ^ (i+k)=(o+c*BB)*BB ^ (i+k):=by rw[he]
  have e9:q*(val BB (lv.take k)+y*BB ^ k)*BB ^ i=q*val BB (lv.take k)*BB ^ i+q*y*BB ^ (i+k):=by rw[e6];grind
  rw[e9];have f1:(BB*p+r)*BB ^ (i+k)=p*(BB*BB ^ (i+k))+r*BB ^ (i+k):=by grind
  have f2:(bw+q*y)*BB ^ (i+k)=bw*BB ^ (i+k)+q*y*BB ^ (i+k):=by grind
  have f3:(d+r)*BB ^ (i+k)=d*BB ^ (i+k)+r*BB ^ (i+k):=by grind
  have f4:(o+c*BB)*BB ^ (i+k)=o*BB ^ (i+k)+c*(BB*BB ^ (i+k)):=by grind
  have f5:(p+c)*(BB*BB ^ (i+k))=p*(BB*BB ^ (i+k))+c*(BB*BB ^ (i+k)):=by grind
  omega
 ·intro j hj;rw[bX (by omega)];exact h.same j (by omega)
structure Add (lu0 lv:List Nat) (i k c:Nat) (lu:List Nat):Prop where
 len:lu.length=lu0.length
 dig:∀ x∈lu,x<BB
 car:c<=1
 val:Dg.val BB lu+c*BB ^ (i+k)=Dg.val BB lu0+Dg.val BB (lv.take k)*BB ^ i
 same:∀ j,i+k<=j->nth lu j=nth lu0 j
theorem sT (lu0 lv:List Nat) (i:Nat) (h:∀ x∈lu0,x<BB):Add lu0 lv i 0 0 lu0:=⟨rfl,h,AI _,by simp,fun _ _=>rfl⟩
theorem uJ {lu0 lv lu:List Nat}{i k c:Nat} (h:Add lu0 lv i k c lu) (hk:k<lv.length) (hik:i+k<lu0.length) (hv:∀ x∈lv,x<BB) :
  Add lu0 lv i (k+1) ((c+(nth lu (i+k)+nth lv k)) / BB) (lu.set (i+k) ((c+(nth lu (i+k)+nth lv k)) % BB)):=by
 have hlen:i+k<lu.length:=by rw[h.len];exact hik
 have hu:=cf h.dig hlen;have hy:=cf hv hk;have hc:=h.car;have hpos:0<BB:=by decide
 refine⟨by simp[h.len],cA h.dig (BN _ hpos),?_,?_,?_⟩
 ·have:(c+(nth lu (i+k)+nth lv k)) / BB<2:=by rw[Ca hpos];omega
  omega
 ·have e1:=gh (b:=BB) (d:=(c+(nth lu (i+k)+nth lv k)) % BB) hlen;have e2:=h.val;have e3:=bS (b:=BB) hk;have e4:=BP (c+(nth lu (i+k)+nth lv k)) BB;rw[e3];generalize (c+(nth lu (i+k)+nth lv k)) / BB=p at *
  generalize (c+(nth lu (i+k)+nth lv k)) % BB=r at *
  generalize nth lu (i+k)=o at *
  generalize nth lv k=y at *
  have e5:BB ^ (i+(k+1))=BB*BB ^ (i+k):=by rw[<-Cb,AS,AT]
  have e6:BB ^ (i+k)=BB ^ i*BB ^ k:=BC ..;rw[e5];have e7:(BB*p+r)*BB ^ (i+k)=(c+(o+y))*BB ^ (i+k):=by rw[e4]
  have e9:(val BB (lv.take k)+y*BB ^ k)*BB ^ i=val BB (lv.take k)*BB ^ i+y*BB ^ (i+k):=by rw[e6];grind
  rw[e9];have f1:(BB*p+r)*BB ^ (i+k)=p*(BB*BB ^ (i+k))+r*BB ^ (i+k):=by grind
  have f2:(c+(o+y))*BB ^ (i+k)=c*BB ^ (i+k)+o*BB ^ (i+k)+y*BB ^ (i+k):=by grind
  omega
 ·intro j hj;rw[bX (by omega)];exact h.same j (by omega)
theorem eo {l:List Nat}{k d:Nat} (h:k<l.length):nth (l.set k d) k=d:=by simp[nth,h]
theorem pW {l:List Nat}{k d:Nat}:(l.set k d).take k=l.take k:=by
 apply List.ext_getElem?
 intro j;simp only[C7]
 split
 ·rw[List.getElem?_set_ne (by omega)]
 ·rfl
theorem lG {b:Nat}{l:List Nat}{p:Nat} (hp:p<l.length) (hz:∀ j,p+1<=j->nth l j=0):val b l=val b (l.take p)+nth l p*b ^ p:=by
 have e:=fP b l (p+1);rw[j8 (l:=l.drop (p+1)) (fun j=>by rw[fD];exact hz _ (by omega)),Nat.mul_zero,Bb,bS hp] at e;exact e
theorem y8 {lv:List Nat} (hv:∀ x∈lv,x<BB) (i:Nat):val BB lv*BB ^ i<=BB ^ (i+lv.length):=by
 have:=gZ BB lv hv;have h2:val BB lv*BB ^ i<=BB ^ lv.length*BB ^ i:=AJ _ (by omega);rw[BC,AT (BB ^ i)];exact h2
theorem sf {lo:List Nat}{i q:Nat} (h:i<lo.length):val BB ((lo.set i q).drop i)=q+BB*val BB (lo.drop (i+1)):=by
 rw[iB h,cY]
theorem ve {lu0 lv lu lo lu1:List Nat}{i q bw U low top u2 ulow vt v2 vlow P:Nat} (h:gA lu0 lv (i+1) lu lo) (hw:qm lu lv i U low top u2 ulow vt v2 vlow P)
  (hv:∀ x∈lv,x<BB) (hi:i+lv.length<lu0.length) (hg:kj U (val BB lv) q) (hs:Sub lu lv i q lv.length bw lu1) (ht:bw<=nth lu1 (i+lv.length)) :
  gA lu0 lv i (lu1.set (i+lv.length) (nth lu1 (i+lv.length)-bw)) (lo.set i q):=by
 have hlen1:i+lv.length<lu1.length:=by rw[hs.len,h.len];exact hi
 have hz1:∀ j,i+lv.length+1<=j->nth lu1 j=0:=fun j hj=>by rw[hs.same j (by omega)];exact h.zero j (by omega)
 have e1:=lG (b:=BB) hlen1 hz1;have e2:=hs.val;rw[AK (AA _),e1,hw.all] at e2;have R:=Kn.round_fits hw.low e2 hg.hi ht
 have e3:val BB (lu1.set (i+lv.length) (nth lu1 (i+lv.length)-bw))=val BB (lu1.take (i+lv.length))+(nth lu1 (i+lv.length)-bw)*BB ^ (i+lv.length):=by
  have:=gh (b:=BB) (d:=nth lu1 (i+lv.length)-bw) hlen1;rw[e1] at this;omega
 have hz:nth lu1 (i+lv.length)-bw=0:=by
  have h1:=R.2;have h2:=y8 hv i;have h3:(nth lu1 (i+lv.length)-bw)*BB ^ (i+lv.length)<1*BB ^ (i+lv.length):=by omega
  have:=Cc h3;omega
 have hlo:i<lo.length:=by have:=h.leno;omega
 refine⟨by simp[hs.len,h.len],cA hs.dig (by rw[hz];decide),?_,by simp;exact h.leno,cA h.digo hg.small,?_,?_⟩
 ·intro j hj;by_cases hj2:j=i+lv.length
  ·subst hj2;rw[eo hlen1];exact hz
  ·rw[bX hj2];exact hz1 j (by omega)
 ·rw[h.eq,hw.all,e3,sf hlo,<-R.1,AS];grind
 ·rw[e3];exact R.2
theorem qu9 {lu0 lv lu lo lu1 lu3:List Nat}{i q bw c U low top u2 ulow vt v2 vlow P:Nat} (h:gA lu0 lv (i+1) lu lo) (hw:qm lu lv i U low top u2 ulow vt v2 vlow P)
  (hv:∀ x∈lv,x<BB) (hi:i+lv.length<lu0.length) (hg:kj U (val BB lv) q) (hs:Sub lu lv i q lv.length bw lu1) (ht:nth lu1 (i+lv.length)<bw)
  (ha:Add (lu1.set (i+lv.length) (nth lu1 (i+lv.length)+BB-bw)) lv i lv.length c lu3) :
  1<=q/\gA lu0 lv i (lu3.set (i+lv.length) ((nth lu3 (i+lv.length)+c) % BB)) (lo.set i (q-1)):=by
 have hlen1:i+lv.length<lu1.length:=by rw[hs.len,h.len];exact hi
 have hlen3:i+lv.length<lu3.length:=by rw[ha.len,BO];exact hlen1
 have hz1:∀ j,i+lv.length+1<=j->nth lu1 j=0:=fun j hj=>by rw[hs.same j (by omega)];exact h.zero j (by omega)
 have hz3:∀ j,i+lv.length+1<=j->nth lu3 j=0:=fun j hj=>by
  rw[ha.same j (by omega),bX (by omega)];exact hz1 j hj
 have hn3:nth lu3 (i+lv.length)=nth lu1 (i+lv.length)+BB-bw:=by rw[ha.same _ (AA _),eo hlen1]
 have e1:=lG (b:=BB) hlen1 hz1;have e2:=hs.val;rw[AK (AA _),e1,hw.all] at e2;have e3:=lG (b:=BB) hlen3 hz3;have e4:=gh (b:=BB) (d:=nth lu1 (i+lv.length)+BB-bw) hlen1;have e5:=ha.val;rw[AK (AA _),e3,hn3] at e5;have hW:val BB (lu1.take (i+lv.length))<BB ^ (i+lv.length):=gj hs.dig (by omega);have hW3:val BB (lu3.take (i+lv.length))<BB ^ (i+lv.length):=gj ha.dig (by omega)
 have hadd:val BB (lu3.take (i+lv.length))+c*BB ^ (i+lv.length)=val BB (lu1.take (i+lv.length))+val BB lv*BB ^ i:=by
  rw[e1] at e4;omega
 have R:=Kn.round_back (b:=BB) hW hW3 (y8 hv i) hs.bor e2 hg.lo ht hadd;have hm:(nth lu3 (i+lv.length)+c) % BB=0:=by rw[hn3,R.2.2.2,Nat.mod_self]
 have e6:val BB (lu3.set (i+lv.length) ((nth lu3 (i+lv.length)+c) % BB))=val BB (lu3.take (i+lv.length)):=by
  have:=gh (b:=BB) (d:=(nth lu3 (i+lv.length)+c) % BB) hlen3;rw[e3,hm] at this;rw[hm];omega
 have hlo:i<lo.length:=by have:=h.leno;omega
 have hq:=hg.small;refine⟨R.1,by simp[ha.len,hs.len,h.len],cA ha.dig (by rw[hm];decide),?_,by simp;exact h.leno,cA h.digo (by omega),?_,?_⟩
 ·intro j hj;by_cases hj2:j=i+lv.length
  ·subst hj2;rw[eo hlen3];exact hm
  ·rw[bX hj2];exact hz3 j (by omega)
 ·rw[h.eq,hw.all,e6,sf hlo,<-R.2.1,AS];grind
 ·rw[e6];exact R.2.2.1
open Go.RowKit Dg
theorem IsU.box (w:World) (z:Int) (d:Nat) (hz:z=d):IsU (w.alloc (.cells #[.int .u64 z] 134)) (.slice (some ⟨w.heap.size,0,none⟩) 1 1) [d]:=by
 subst hz;refine⟨some ⟨w.heap.size,0,none⟩,1,rfl,by simp,by simp[maxLen],fun _=>⟨w.heap.size,0,rfl,by simp,fun j hj=>?_⟩⟩;have:j=0:=by simp at hj;exact hj
 subst this;exact dK w d 0 _ rfl
theorem IsU.drewN {w:World}{v:Value}{l:List Nat} (h:IsU w v l) (n:Nat):IsU (w.drewN n) v l:=h
theorem tI (z:Int) (n:Nat) (w:World) (hz:z=n) (hn:n<18446744073709551616) :
  Calls Tryz.prog 102 #[.int .u64 z] w fun e w'=>∃ v,e=.returned v/\dr w' w.heap.size v (ag BB n)/\Below w.heap.size w w':=by
 subst hz;exact gN n w hn
theorem bd (n:Nat):CB (ag BB n):=jc aw n
theorem tL {m:List Nat} (hm:CB m) (h1:m.length=1):0<nth m 0/\nth m 0<1000000000/\val BB m=nth m 0:=by
 match m,h1 with
 | [d],_ =>
  have h2:=hm.2 (by simp)
  have h3:=hm.1 d (by simp)
  simp[nth] at *
  exact⟨by omega,h3⟩
theorem iA {l m:List Nat} (hl:CB l) (hm:CB m) (h:val BB m<=val BB l):m.length<=l.length:=by
 rcases BK l.length m.length with hh | hh
 ·have:=cQ aw hl hm hh;omega
 ·exact hh
/-- a is less than b -/
theorem tP (va vb:Value) (l m:List Nat) (w:World) (ha:IsU w va l) (hb:IsU w vb m) (hl:CB l) (hm:CB m) (hlt:val BB l<val BB m) :
  Calls Tryz.prog 114 #[va,vb] w fun e w'=>∃ vq vr,e=.returned (.tuple #[vq,vr])/\IsU w' vq (ag BB (val BB l / val BB m))/\IsU w' vr (ag BB (val BB l % val BB m))/\Below w.heap.size w w':=by
 have hc:eH (val BB l) (val BB m)<0:=by simp[eH,hlt]
 have H:=At hlt;clear hlt;go_enter Tryz.func114,Tryz.ntmps114;go_wp2_with (go_at_call 138;refine (e_ _ _ l m _ ha hb hl hm).mono ?_;rintro e w' ⟨rfl,n,rfl⟩)
 go_ret2
 refine⟨_,_,rfl,?_,?_,below_drewN (Dv _ _) _⟩
 ·rw[BI H.out,bn];exact⟨none,0,rfl,by simp,by simp[maxLen],fun h=>by simp at h⟩
 ·rw[Cj H.out,oF aw hl];exact ha
/-- b has one digit -/
theorem vX (va vb:Value) (l m:List Nat) (w:World) (ha:IsU w va l) (hb:IsU w vb m) (hl:CB l) (hm:CB m) (hll:l.length<1000000) (h1:m.length=1) (hge:val BB m<=val BB l) :
  Calls Tryz.prog 114 #[va,vb] w fun e w'=>∃ vq vr,e=.returned (.tuple #[vq,vr])/\IsU w' vq (ag BB (val BB l / val BB m))/\IsU w' vr (ag BB (val BB l % val BB m))/\Below w.heap.size w w':=by
 have hc:¬ eH (val BB l) (val BB m)<0:=by simp only[eH];split<;>(try split)<;>omega
 have hb':=hb;obtain⟨p,cap,rfl,hlc,hcm,hcell⟩:=hb';obtain⟨b,o,rfl,hbw,hcl⟩:=hcell (by omega);have hc0:w.cell? ⟨b,o,none⟩=some (.int .u64 (nth m 0)):=hcl 0 (by omega);have h1':((m.length:Int) == 1)=true:=by simp[h1]
 have hd:=tL hm h1;have hd0:=hd.1;have hd1:=hd.2.1;have HD:=At hd.2.2;clear hd hcl hcell hge;have H1:=At h1;clear h1;have hpos:(0:Int)<m.length:=by have:=H1.out;omega
 have hmod:=BN (val BB l) hd0;go_enter Tryz.func114,Tryz.ntmps114;go_wp2_with (first | (go_at_call 138;refine (e_ _ _ l m _ ha hb hl hm).mono ?_;rintro e w' ⟨rfl,n,rfl⟩) | (go_at_call 143;refine (mM _ l (nth m 0) _ (IsU.drewN ha _) hl.1 hll hd0 (by omega)).mono ?_;rintro e w1 ⟨g,cap1,rfl,hg,hr,hb1⟩) | (go_at_call 102;refine (tI _ (val BB l % nth m 0) _ (by go_num) (by omega)).mono ?_;rintro e w2 ⟨v2,rfl,ho2,hb2⟩))
 go_ret2
 refine⟨_,_,rfl,?_,?_,?_⟩
 ·rw[HD.out];exact hr.isU.below hb2
 ·rw[HD.out];exact dr.isU ho2
 ·exact (below_drewN (Dv _ _) _).trans (Below.trans hb1 (hb2.mono hb1.size))
theorem IsU.drew {w:World}{v:Value}{l:List Nat} (h:IsU w v l):IsU w.drew v l:=h
theorem bu.other {w:World}{g cap:Nat}{l:List Nat} (h:bu w g cap l) {a:Addr} (ha:g≠a.block) (u:Value):bu (w.setCell a u) g cap l :=
 ownsRow_setCell_other h (by simp[Value.ownBlock];exact ha) u
theorem bu.kept {w w':World}{g cap:Nat}{l:List Nat} (h:bu w g cap l) (hk:w'.heap[g]?=w.heap[g]?):bu w' g cap l:=by
 obtain⟨h1,h2⟩:=h;refine⟨h1,?_⟩;rcases h2 with h2 | ⟨g',cap',cur,e,hg,hh,r⟩
 ·exact Or.inl h2
 ·have:g'=g:=by simp at e;exact e.1.symm
  subst this;exact Or.inr ⟨g',cap',cur,e,hg,by rw[hk];exact hh,r⟩
structure Mem (w0 wr:World) (gs gu gv go s cu cv co:Nat) (lu lv lo:List Nat):Prop where
 o1:w0.heap.size<=gs
 o2:gs<gu
 o3:gu<gv
 o4:gv<go
 sc:wr.cell? ⟨gs,0,none⟩=some (.int .u64 s)
 ru:bu wr gu cu lu
 rv:bu wr gv cv lv
 ro:bu wr go co lo
 bl:Below w0.heap.size w0 wr
theorem Mem.setU {w0 wr:World}{gs gu gv go s cu cv co:Nat}{lu lv lo:List Nat} (h:Mem w0 wr gs gu gv go s cu cv co lu lv lo) (j d:Nat) (z:Int) (hz:z=d) :
  Mem w0 (wr.setCell ⟨gu,j,none⟩ (.int .u64 z)) gs gu gv go s cu cv co (lu.set j d) lv lo:=by
 have:=h.o1;have:=h.o2;have:=h.o3;have:=h.o4;refine⟨h.o1,h.o2,h.o3,h.o4,?_,h.ru.set j d z hz,h.rv.other (by show gv≠gu;omega) _,h.ro.other (by show go≠gu;omega) _,h.bl.setCell (p:=⟨gu,j,none⟩) (by show w0.heap.size<=gu;omega) _⟩;rw[World.cell?_setCell_other _ _ _ _ (by simp<;>omega)];exact h.sc
theorem Mem.setO {w0 wr:World}{gs gu gv go s cu cv co:Nat}{lu lv lo:List Nat} (h:Mem w0 wr gs gu gv go s cu cv co lu lv lo) (j d:Nat) (z:Int) (hz:z=d) :
  Mem w0 (wr.setCell ⟨go,j,none⟩ (.int .u64 z)) gs gu gv go s cu cv co lu lv (lo.set j d):=by
 have:=h.o1;have:=h.o2;have:=h.o3;have:=h.o4;refine⟨h.o1,h.o2,h.o3,h.o4,?_,h.ru.other (by show gu≠go;omega) _,h.rv.other (by show gv≠go;omega) _,h.ro.set j d z hz,h.bl.setCell (p:=⟨go,j,none⟩) (by show w0.heap.size<=go;omega) _⟩;rw[World.cell?_setCell_other _ _ _ _ (by simp<;>omega)];exact h.sc
theorem Mem.drewN {w0 wr:World}{gs gu gv go s cu cv co:Nat}{lu lv lo:List Nat} (h:Mem w0 wr gs gu gv go s cu cv co lu lv lo) (n:Nat) :
  Mem w0 (wr.drewN n) gs gu gv go s cu cv co lu lv lo:=⟨h.o1,h.o2,h.o3,h.o4,h.sc,h.ru,h.rv,h.ro,below_drewN h.bl n⟩
theorem iS {w:World}{ops:Array Oper}{rest:List Oper}{o:Oper}{a:Act}{Q:Exit->Act->World->Prop} (T:TypeId)
  (hT:Tryz.prog.underlying T=some (.slice 134)) (hgd:o.guard=none) (s x:Operand)
  (ho:o.op=.call { callee:=.builtin .append,args:=#[s,x],argTypes:=#[T,T] })
  (g N cap:Nat) (l:List Nat) (z:Int) (d:Nat) (hz:z=d) (hs:a.eval s=.slice (some ⟨g,0,none⟩) N cap) (hN:N=l.length) (hown:bu w g cap l)
  (hx:a.eval x=.slice (some ⟨w.heap.size,0,none⟩) 1 1) (hlen:l.length<cap)
  (h:∀ w',bu w' g cap (l++[d])->(∀ B w0,Below B w0 w->B<=g->Below B w0 w')->(∀ b o,b<w.heap.size->b≠g->w'.heap[b]?=w.heap[b]?/\w'.cell? ⟨b,o,none⟩=w.cell? ⟨b,o,none⟩)->w.heap.size<=w'.heap.size ->
   wpList Tryz.prog ops Q rest (a.put o.dst (.slice (some ⟨g,0,none⟩) (N+1) cap)) w') :
  wpList Tryz.prog ops Q (o :: rest) a (w.alloc (.cells #[.int .u64 z] 134)):=by
 subst hz hN;obtain⟨i0,hi,hz0,hz1,hz2⟩:=info_parts Tryz.info134;refine wpList_append_fits _ hgd s x T ho g 134 i0 1 hT hi hz1 g l.length cap (d8 l) hs (World.ownsRow.alloc hown _) ⟨w.heap.size,0,none⟩ 1 1 [.int .u64 d] hx rfl ?_ ?_ (by omega) ?_
 ·exact dK w d
 ·intro u hu;simp at hu;subst hu;rfl
 ·intro w' hown' hg;have hsz:=hg.size;simp at hsz;refine h w' ?_ ?_ ?_ (by omega)
  ·unfold bu;have:d8 (l++[d])=d8 l++[.int .u64 d]:=by rw[j6];rfl
   rw[this,AO];exact hown'
  ·intro B w0 hb hB;have:=hown.lt;exact (hb.alloc (by omega) _).grown hg (by simp;omega) (fun k hk=>by cases hk;exact hB)
  ·intro b o hb hbg;have h1:=hg.block b (by simp;omega) (by simp;exact hbg);have h2:=Below.heap_alloc w (.cells #[.int .u64 (d:Int)] 134) b hb;have h3:w'.heap[b]?=w.heap[b]?:=h1.trans h2;exact⟨h3,World.cell?_of_block h3⟩
theorem lU {m:List Nat}{s:Nat} (hm:CB m) (hne:m≠[]) (hs:1<=s) (hs2:s*(nth m (m.length-1)+1)<=BB):(ag BB (val BB m*s)).length=m.length:=by
 have hpos:0<m.length:=A3.2 hne
 have h1:val BB m<(nth m (m.length-1)+1)*BB ^ (m.length-1):=by
  have e:val BB m=val BB (m.take (m.length-1+1)):=by rw[AK (by omega)]
  rw[bS (by omega)] at e;have:=gj hm.1 (k:=m.length-1) (by omega);rw[Bf,e];omega
 have h2:val BB m*s<BB ^ m.length:=by
  have h3:val BB m*s<(nth m (m.length-1)+1)*BB ^ (m.length-1)*s:=B9 h1 hs;have h4:s*(nth m (m.length-1)+1)*BB ^ (m.length-1)<=BB*BB ^ (m.length-1):=AJ _ hs2;have e:(nth m (m.length-1)+1)*BB ^ (m.length-1)*s=s*(nth m (m.length-1)+1)*BB ^ (m.length-1):=by grind
  have e2:BB ^ m.length=BB*BB ^ (m.length-1):=by
   obtain⟨p,hp⟩:∃ p,m.length=p+1:=⟨m.length-1,by omega⟩;rw[hp,BH,AS,AT]
  omega
 have h5:=bh aw h2
 have h6:BB ^ (m.length-1)<=val BB m*s:=by
  have:=eu hm hne;have h7:val BB m*1<=val BB m*s:=AQ _ hs;omega
 have h8:=bK aw (val BB m*s);have h9:BB ^ (m.length-1)<BB ^ (ag BB (val BB m*s)).length:=by omega
 have:=(Nat.pow_lt_pow_iff_right (show 1<BB by decide)).1 h9;omega
theorem wS {l:List Nat}{s:Nat} (hl:CB l) (hs:s<BB):(ag BB (val BB l*s)).length<=l.length+1:=by
 have h1:=gZ BB l hl.1;refine bh aw ?_;rw[AS];have:(val BB l+1)*s<=BB ^ l.length*s:=AJ _ h1;rw[Bf] at this;have h2:BB ^ l.length*(s+1)<=BB ^ l.length*BB:=AQ _ hs;rw[CO] at h2;have h3:=wm l.length;omega
def kF (n:Nat) (lu:List Nat):Prop:=val BB lu=n/\∀ x∈lu,x<BB
theorem nH (n:Nat):kF n (ag BB n):=⟨aV aw n,(jc aw n).1⟩
theorem pB {n:Nat}{lu:List Nat} (h:kF n lu):kF n (lu++[0]):=by
 refine⟨by rw[fO,Nat.mul_zero,Bb];exact h.1,fun x hx=>?_⟩;rcases B_.1 hx with hx | hx
 ·exact h.2 x hx
 ·simp at hx;subst hx;decide
theorem tf {l m lu:List Nat}{s:Nat} (hl:CB l) (hm:CB m) (hne:m≠[]) (hs:1<=s) (hge:val BB m<=val BB l)
  (hv:(ag BB (val BB m*s)).length=m.length) (hu:kF (val BB l*s) lu) (hlen:lu.length=l.length+1) :
  gA lu (ag BB (val BB m*s)) (l.length+1-m.length) lu (List.replicate (l.length+1-m.length) 0):=by
 have hml:=iA hl hm hge;refine⟨rfl,hu.2,?_,?_,?_,?_,?_⟩
 ·intro j hj;rw[hv] at hj;simp[nth,Bc (show lu.length<=j by omega)]
 ·rw[Cw,hv,hlen];omega
 ·intro x hx;rw[Ch hx];decide
 ·rw[Bt (by simp)];simp
 ·rw[hu.1,aV aw];have h1:=gZ BB l hl.1;have h2:=eu hm hne;have hpos:0<m.length:=A3.2 hne;have e:BB ^ l.length=BB ^ (m.length-1)*BB ^ (l.length+1-m.length):=by rw[<-BC];congr 1;omega
  have h3:BB ^ (m.length-1)*BB ^ (l.length+1-m.length)<=val BB m*BB ^ (l.length+1-m.length):=AJ _ h2;have h4:val BB l*s<val BB m*BB ^ (l.length+1-m.length)*s:=B9 (by omega) hs;have e2:val BB m*s*BB ^ (l.length+1-m.length)=val BB m*BB ^ (l.length+1-m.length)*s:=by grind
  omega
theorem xW {a b s:Nat}{lu0 lv lu lo:List Nat} (h:gA lu0 lv 0 lu lo) (hu:val BB lu0=a*s) (hv:val BB lv=b*s) (hs:1<=s) :
  val BB lo=a / b/\val BB lu=(a % b)*s:=by
 have e:=h.eq;have hlt:=h.lt;simp only[Dl,BV,AF,Bu] at e hlt;rw[hu,hv] at e;rw[hv] at hlt
 have hb:0<b:=by
  cases b with
  | zero=>simp at hlt
  | succ b=>omega
 have hdvd:val BB lu=(a-b*val BB lo)*s:=by
  rw[Nat.sub_mul];have:b*s*val BB lo=b*val BB lo*s:=by grind
  omega
 rw[hdvd] at hlt;have h1:=Cc hlt
 have h2:b*val BB lo<=a:=by
  have h3:b*val BB lo*s<=a*s:=by
   have:b*s*val BB lo=b*val BB lo*s:=by grind
   omega
  exact Nat.le_of_mul_le_mul_right h3 hs
 have h4:a / b=val BB lo:=by
  have:a=(a-b*val BB lo)+b*val BB lo:=by omega
  rw[this,C2 _ _ hb,BI h1,Bp]
 have h5:a % b=a-b*val BB lo:=by
  have:=BP a b;rw[h4] at this;omega
 rw[h4,h5];exact⟨rfl,hdvd⟩
end Go.Proofs.YtgakllaobooabaaGreatDoor
