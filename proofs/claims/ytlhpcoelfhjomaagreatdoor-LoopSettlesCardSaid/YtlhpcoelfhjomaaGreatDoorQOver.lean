/- L -/
import Derived.Deep.DeepCutAuto
import Derived.Deep.CutBlock
import Derived.Deep.CutRange
import Derived.StillTailTactics
import Derived.Deep.DeepFit
import Derived.Deep.RegionWith
import Derived.RegionTactic
import Derived.Test.YtlhpcoelfhjomaaGreatDoorQPlain
import Derived.Test.YtlhpcoelfhjomaaGreatDoorQNat
import Derived.Test.YtlhpcoelfhjomaaGreatDoorQB
set_option linter.all false
set_option maxRecDepth 100000
set_option maxHeartbeats 8000000
namespace Go.Proofs.YtlhpcoelfhjomaaGreatDoor
open Dg
theorem jh (l:List Nat) (i j:Nat):nth (l.drop i) j=nth l (i+j):=by simp[nth]
theorem oD {b:Nat}{l:List Nat} (h:∀ j,nth l j=0):val b l=0:=by
 induction l with
 | nil=>rfl
 | cons d l ih =>
  have h0:=h 0;have h1:=ih (fun j=>by have:=h (j+1);simpa[nth] using this);simp[nth] at h0;simp[h0,h1]
theorem ES {b:Nat}{L:List Nat}{n:Nat} (h2:2<=n) (hn:n<L.length) (hz:∀ j,n+1<=j->nth L j=0) :
  val b L=((nth L n*b+nth L (n-1))*b+nth L (n-2))*b ^ (n-2)+val b (L.take (n-2)):=by
 have e:=f_ b L (n+1);rw[oD (l:=L.drop (n+1)) (fun j=>by rw[jh];exact hz _ (by omega)),Nat.mul_zero,I7] at e;obtain⟨p,rfl⟩:∃ p,n=p+2:=⟨n-2,by omega⟩;rw[cL hn,cL (by omega),cL (by omega)] at e;rw[e,IN,IN,show p+2-1=p+1 by omega,show p+2-2=p by omega];grind
theorem ER {b:Nat}{L:List Nat} (h2:2<=L.length) :
  val b L=(nth L (L.length-1)*b+nth L (L.length-2))*b ^ (L.length-2)+val b (L.take (L.length-2)):=by
 obtain⟨p,hp⟩:∃ p,L.length=p+2:=⟨L.length-2,by omega⟩;have e:val b L=val b (L.take (p+1+1)):=by rw[IE (by omega)]
 rw[cL (by omega),cL (by omega)] at e;rw[e,hp,IN,show p+2-1=p+1 by omega,show p+2-2=p by omega];grind
theorem jP {l:List Nat}{k:Nat} (h:∀ x∈l,x<BB) (hk:k<=l.length):val BB (l.take k)<BB ^ k:=by
 have:=f9 BB (l.take k) (fun d hd=>h d (J4 hd))
 rwa [IY,Jp hk] at this
structure j5 (lu0 lv:List Nat) (k:Nat) (lu lo:List Nat):Prop where
 len:lu.length=lu0.length
 dig:∀ x∈lu,x<BB
 zero:∀ j,k+lv.length<=j->nth lu j=0
 leno:lo.length+lv.length=lu0.length
 digo:∀ x∈lo,x<BB
 eq:Dg.val BB lu0=Dg.val BB lu+Dg.val BB lv*(BB ^ k*Dg.val BB (lo.drop k))
 lt:Dg.val BB lu<Dg.val BB lv*BB ^ k
structure xG (lu lv:List Nat) (i U low top u2 ulow vt v2 vlow P:Nat):Prop where
 all:Dg.val BB lu=U*BB ^ i+low
 low:low<BB ^ i
 lt:U<Dg.val BB lv*BB
 eqU:U=(top*BB+u2)*P+ulow
 ulow:ulow<P
 eqV:Dg.val BB lv=(vt*BB+v2)*P+vlow
 vlow:vlow<P
theorem C4 {lu0 lv lu lo:List Nat}{i:Nat} (h:j5 lu0 lv (i+1) lu lo) (hv:∀ x∈lv,x<BB) (h2:2<=lv.length) (hi:i+lv.length<lu.length) :
  xG lu lv i (val BB (lu.drop i)) (val BB (lu.take i)) (nth lu (i+lv.length)*BB+nth lu (i+lv.length-1)) (nth lu (i+lv.length-2)) (val BB ((lu.drop i).take (lv.length-2)))
   (nth lv (lv.length-1)) (nth lv (lv.length-2)) (val BB (lv.take (lv.length-2))) (BB ^ (lv.length-2)):=by
 have e:=f_ BB lu i;rw[Jp (by omega)] at e;have e':val BB lu=val BB (lu.drop i)*BB ^ i+val BB (lu.take i):=by rw[e,IM];omega
 have e3:=ES (b:=BB) (L:=lu.drop i) h2 (by rw[IP];omega) (fun j hj=>by rw[jh];exact h.zero _ (by omega));rw[jh,jh,jh,show i+(lv.length-1)=i+lv.length-1 by omega,show i+(lv.length-2)=i+lv.length-2 by omega] at e3;refine⟨e',jP h.dig (by omega),?_,e3,?_,ER h2,jP hv (by omega)⟩
 ·have h1:=h.lt;rw[e',IN] at h1
  have h4:val BB (lu.drop i)*BB ^ i<val BB lv*BB*BB ^ i:=by
   have:val BB lv*(BB ^ i*BB)=val BB lv*BB*BB ^ i:=by grind
   omega
  exact JZ h4
 ·have hd:∀ x∈lu.drop i,x<BB:=fun x hx=>h.dig x (JB hx);exact jP hd (by rw[IP];omega)
theorem D2 (k:Nat):0<BB ^ k:=I9 (by decide)
theorem ET {lu lv:List Nat}{i U low un u1 u2 ulow vt v2 vlow P:Nat} (h:xG lu lv i U low (un*BB+u1) u2 ulow vt v2 vlow P) (hv2:v2<BB) (_hu1:u1<BB):un<=vt:=by
 have hP:0<P:=by have:=h.vlow;omega
 have h1:un*(BB*BB*P)<=U:=by
  rw[h.eqU];have:((un*BB+u1)*BB+u2)*P=un*(BB*BB*P)+(u1*BB+u2)*P:=by grind
  omega
 have h2:val BB lv*BB<(vt+1)*(BB*BB*P):=by
  have e1:val BB lv<(vt+1)*BB*P:=by
   rw[h.eqV];have e3:(v2+1)*P<=BB*P:=IJ _ hv2;have e4:(vt+1)*BB*P=vt*BB*P+BB*P:=by grind
   have e5:(vt*BB+v2)*P=vt*BB*P+v2*P:=by grind
   have e6:(v2+1)*P=v2*P+P:=by grind
   have:=h.vlow;omega
  have:(vt+1)*(BB*BB*P)=(vt+1)*BB*P*BB:=by grind
  rw[this];exact Ka e1 (by decide)
 have h3:=h.lt;have h4:un*(BB*BB*P)<(vt+1)*(BB*BB*P):=by omega
 have:=JZ h4;omega
structure uI (U V top vt q r:Nat):Prop where
 eq:q*vt+r=top
 hi:U<(q+1)*V
structure oK (U V q:Nat):Prop where
 small:q<BB
 lo:(q-1)*V<=U
 hi:U<(q+1)*V
theorem vJ {lu lv:List Nat}{i U low top u2 ulow vt v2 vlow P:Nat} (h:xG lu lv i U low top u2 ulow vt v2 vlow P) (hvt:1<=vt) (hu2:u2<BB) :
  uI U (val BB lv) top vt (top / vt) (top % vt) :=
 ⟨by rw[IM];exact Jh ..,Kn.guess_first h.eqU h.ulow hu2 h.eqV hvt⟩
theorem sn {lu lv:List Nat}{i U low top u2 ulow vt v2 vlow P q r:Nat} (h:xG lu lv i U low top u2 ulow vt v2 vlow P) (hg:uI U (val BB lv) top vt q r)
  (hb:BB<=q\/r*BB+u2<q*v2):1<=q/\uI U (val BB lv) top vt (q-1) (r+vt):=by
 have hq:1<=q:=by
  rcases hb with hb | hb
  ·have:1<=BB:=by decide
   omega
  ·cases q with
   | zero=>simp at hb
   | succ q=>omega
 have h1:=Kn.guess_back h.eqU h.ulow h.eqV h.lt hg.eq hb;refine⟨hq,?_,?_⟩
 ·rw[<-hg.eq];obtain⟨p,rfl⟩:∃ p,q=p+1:=⟨q-1,by omega⟩;rw[JC,Jg];omega
 ·rw[show q-1+1=q by omega];exact h1
theorem nn {lu lv:List Nat}{i U low un u1 u2 ulow vt v2 vlow P q r:Nat} (h:xG lu lv i U low (un*BB+u1) u2 ulow vt v2 vlow P) (hg:uI U (val BB lv) (un*BB+u1) vt q r)
  (hvt:1<=vt) (hv2:v2<BB) (hu1:u1<BB) (hb:(q<BB/\q*v2<=r*BB+u2)\/BB<=r):oK U (val BB lv) q:=by
 have hq:q<BB/\q*v2<=r*BB+u2:=by
  rcases hb with hb | hb
  ·exact hb
  ·have hun:=ET h hv2 hu1
   have hq:q<BB:=by
    rcases JD q BB with hq | hq
    ·exact hq
    ·exfalso
     have h1:=hg.eq;have h2:BB*vt<=q*vt:=IJ _ hq;have h3:un*BB<=vt*BB:=IJ _ hun;rw[IM BB vt] at h2;omega
   refine⟨hq,?_⟩;have h1:q*v2<=BB*BB:=Je (by omega) (by omega);have h2:BB*BB<=r*BB:=IJ _ hb;omega
 exact⟨hq.1,Kn.guess_low h.eqU h.eqV h.vlow hg.eq hq.1 hvt hq.2,hg.hi⟩
structure Sub (lu0 lv:List Nat) (i q k bw:Nat) (lu:List Nat):Prop where
 len:lu.length=lu0.length
 dig:∀ x∈lu,x<BB
 bor:bw<=BB
 val:Dg.val BB lu+q*Dg.val BB (lv.take k)*BB ^ i=Dg.val BB lu0+bw*BB ^ (i+k)
 same:∀ j,i+k<=j->nth lu j=nth lu0 j
theorem BY (lu0 lv:List Nat) (i q:Nat) (h:∀ x∈lu0,x<BB):Sub lu0 lv i q 0 0 lu0:=⟨rfl,h,IF _,by simp,fun _ _=>rfl⟩
theorem Aj {bw q y:Nat} (hb:bw<=BB) (hq:q<BB) (hy:y<BB):bw+q*y<=999999999000000001:=by
 have:q*y<=999999999*999999999:=Je (by simp only[BB] at hq;omega) (by simp only[BB] at hy;omega);simp only[BB] at *;omega
theorem ED {lu0 lv lu:List Nat}{i q k bw c d:Nat} (h:Sub lu0 lv i q k bw lu) (hk:k<lv.length) (hik:i+k<lu0.length) (hq:q<BB) (hv:∀ x∈lv,x<BB)
  (hd:d<BB) (hc:c<=1) (he:d+(bw+q*nth lv k) % BB=nth lu (i+k)+c*BB) :
  Sub lu0 lv i q (k+1) ((bw+q*nth lv k) / BB+c) (lu.set (i+k) d):=by
 have hlen:i+k<lu.length:=by rw[h.len];exact hik
 have hS:=Aj h.bor hq (cY hv hk);have hpos:0<BB:=by decide
 refine⟨by simp[h.len],db h.dig hd,?_,?_,?_⟩
 ·have:(bw+q*nth lv k) / BB<BB:=by
   rw[JR hpos];simp only[BB];omega
  omega
 ·have e1:=gX (b:=BB) (d:=d) hlen;have e2:=h.val;have e3:=cL (b:=BB) hk;have e4:=Jh (bw+q*nth lv k) BB;rw[e3];generalize (bw+q*nth lv k) / BB=p at *
  generalize (bw+q*nth lv k) % BB=r at *
  generalize nth lu (i+k)=o at *
  generalize nth lv k=y at *
  have e5:BB ^ (i+(k+1))=BB*BB ^ (i+k):=by rw[<-J7,IN,IM]
  have e6:BB ^ (i+k)=BB ^ i*BB ^ k:=JX ..;rw[e5];have e7:(BB*p+r)*BB ^ (i+k)=(bw+q*y)*BB ^ (i+k):=by rw[e4]
  have e8:(d+r)*BB ^ (i+k)=(o+c*BB)*BB ^ (i+k):=by rw[he]
  have e9:q*(val BB (lv.take k)+y*BB ^ k)*BB ^ i=q*val BB (lv.take k)*BB ^ i+q*y*BB ^ (i+k):=by rw[e6];grind
  rw[e9];have f1:(BB*p+r)*BB ^ (i+k)=p*(BB*BB ^ (i+k))+r*BB ^ (i+k):=by grind
  have f2:(bw+q*y)*BB ^ (i+k)=bw*BB ^ (i+k)+q*y*BB ^ (i+k):=by grind
  have f3:(d+r)*BB ^ (i+k)=d*BB ^ (i+k)+r*BB ^ (i+k):=by grind
  have f4:(o+c*BB)*BB ^ (i+k)=o*BB ^ (i+k)+c*(BB*BB ^ (i+k)):=by grind
  have f5:(p+c)*(BB*BB ^ (i+k))=p*(BB*BB ^ (i+k))+c*(BB*BB ^ (i+k)):=by grind
  omega
 ·intro j hj;rw[b_ (by omega)];exact h.same j (by omega)
structure Add (lu0 lv:List Nat) (i k c:Nat) (lu:List Nat):Prop where
 len:lu.length=lu0.length
 dig:∀ x∈lu,x<BB
 car:c<=1
 val:Dg.val BB lu+c*BB ^ (i+k)=Dg.val BB lu0+Dg.val BB (lv.take k)*BB ^ i
 same:∀ j,i+k<=j->nth lu j=nth lu0 j
theorem AI (lu0 lv:List Nat) (i:Nat) (h:∀ x∈lu0,x<BB):Add lu0 lv i 0 0 lu0:=⟨rfl,h,IF _,by simp,fun _ _=>rfl⟩
theorem Cs {lu0 lv lu:List Nat}{i k c:Nat} (h:Add lu0 lv i k c lu) (hk:k<lv.length) (hik:i+k<lu0.length) (hv:∀ x∈lv,x<BB) :
  Add lu0 lv i (k+1) ((c+(nth lu (i+k)+nth lv k)) / BB) (lu.set (i+k) ((c+(nth lu (i+k)+nth lv k)) % BB)):=by
 have hlen:i+k<lu.length:=by rw[h.len];exact hik
 have hu:=cY h.dig hlen;have hy:=cY hv hk;have hc:=h.car;have hpos:0<BB:=by decide
 refine⟨by simp[h.len],db h.dig (Jw _ hpos),?_,?_,?_⟩
 ·have:(c+(nth lu (i+k)+nth lv k)) / BB<2:=by rw[JR hpos];omega
  omega
 ·have e1:=gX (b:=BB) (d:=(c+(nth lu (i+k)+nth lv k)) % BB) hlen;have e2:=h.val;have e3:=cL (b:=BB) hk;have e4:=Jh (c+(nth lu (i+k)+nth lv k)) BB;rw[e3];generalize (c+(nth lu (i+k)+nth lv k)) / BB=p at *
  generalize (c+(nth lu (i+k)+nth lv k)) % BB=r at *
  generalize nth lu (i+k)=o at *
  generalize nth lv k=y at *
  have e5:BB ^ (i+(k+1))=BB*BB ^ (i+k):=by rw[<-J7,IN,IM]
  have e6:BB ^ (i+k)=BB ^ i*BB ^ k:=JX ..;rw[e5];have e7:(BB*p+r)*BB ^ (i+k)=(c+(o+y))*BB ^ (i+k):=by rw[e4]
  have e9:(val BB (lv.take k)+y*BB ^ k)*BB ^ i=val BB (lv.take k)*BB ^ i+y*BB ^ (i+k):=by rw[e6];grind
  rw[e9];have f1:(BB*p+r)*BB ^ (i+k)=p*(BB*BB ^ (i+k))+r*BB ^ (i+k):=by grind
  have f2:(c+(o+y))*BB ^ (i+k)=c*BB ^ (i+k)+o*BB ^ (i+k)+y*BB ^ (i+k):=by grind
  omega
 ·intro j hj;rw[b_ (by omega)];exact h.same j (by omega)
theorem gV {l:List Nat}{k d:Nat} (h:k<l.length):nth (l.set k d) k=d:=by simp[nth,h]
theorem xi {l:List Nat}{k d:Nat}:(l.set k d).take k=l.take k:=by
 apply List.ext_getElem?
 intro j;simp only[KP]
 split
 ·rw[List.getElem?_set_ne (by omega)]
 ·rfl
theorem ry {b:Nat}{l:List Nat}{p:Nat} (hp:p<l.length) (hz:∀ j,p+1<=j->nth l j=0):val b l=val b (l.take p)+nth l p*b ^ p:=by
 have e:=f_ b l (p+1);rw[oD (l:=l.drop (p+1)) (fun j=>by rw[jh];exact hz _ (by omega)),Nat.mul_zero,I7,cL hp] at e;exact e
theorem Gt {lv:List Nat} (hv:∀ x∈lv,x<BB) (i:Nat):val BB lv*BB ^ i<=BB ^ (i+lv.length):=by
 have:=f9 BB lv hv;have h2:val BB lv*BB ^ i<=BB ^ lv.length*BB ^ i:=IJ _ (by omega);rw[JX,IM (BB ^ i)];exact h2
theorem zU {lo:List Nat}{i q:Nat} (h:i<lo.length):val BB ((lo.set i q).drop i)=q+BB*val BB (lo.drop (i+1)):=by
 rw[ly h,eH]
theorem C2 {lu0 lv lu lo lu1:List Nat}{i q bw U low top u2 ulow vt v2 vlow P:Nat} (h:j5 lu0 lv (i+1) lu lo) (hw:xG lu lv i U low top u2 ulow vt v2 vlow P)
  (hv:∀ x∈lv,x<BB) (hi:i+lv.length<lu0.length) (hg:oK U (val BB lv) q) (hs:Sub lu lv i q lv.length bw lu1) (ht:bw<=nth lu1 (i+lv.length)) :
  j5 lu0 lv i (lu1.set (i+lv.length) (nth lu1 (i+lv.length)-bw)) (lo.set i q):=by
 have hlen1:i+lv.length<lu1.length:=by rw[hs.len,h.len];exact hi
 have hz1:∀ j,i+lv.length+1<=j->nth lu1 j=0:=fun j hj=>by rw[hs.same j (by omega)];exact h.zero j (by omega)
 have e1:=ry (b:=BB) hlen1 hz1;have e2:=hs.val;rw[IE (Iw _),e1,hw.all] at e2;have R:=Kn.round_fits hw.low e2 hg.hi ht
 have e3:val BB (lu1.set (i+lv.length) (nth lu1 (i+lv.length)-bw))=val BB (lu1.take (i+lv.length))+(nth lu1 (i+lv.length)-bw)*BB ^ (i+lv.length):=by
  have:=gX (b:=BB) (d:=nth lu1 (i+lv.length)-bw) hlen1;rw[e1] at this;omega
 have hz:nth lu1 (i+lv.length)-bw=0:=by
  have h1:=R.2;have h2:=Gt hv i;have h3:(nth lu1 (i+lv.length)-bw)*BB ^ (i+lv.length)<1*BB ^ (i+lv.length):=by omega
  have:=JZ h3;omega
 have hlo:i<lo.length:=by have:=h.leno;omega
 refine⟨by simp[hs.len,h.len],db hs.dig (by rw[hz];decide),?_,by simp;exact h.leno,db h.digo hg.small,?_,?_⟩
 ·intro j hj;by_cases hj2:j=i+lv.length
  ·subst hj2;rw[gV hlen1];exact hz
  ·rw[b_ hj2];exact hz1 j (by omega)
 ·rw[h.eq,hw.all,e3,zU hlo,<-R.1,IN];grind
 ·rw[e3];exact R.2
theorem CY {lu0 lv lu lo lu1 lu3:List Nat}{i q bw c U low top u2 ulow vt v2 vlow P:Nat} (h:j5 lu0 lv (i+1) lu lo) (hw:xG lu lv i U low top u2 ulow vt v2 vlow P)
  (hv:∀ x∈lv,x<BB) (hi:i+lv.length<lu0.length) (hg:oK U (val BB lv) q) (hs:Sub lu lv i q lv.length bw lu1) (ht:nth lu1 (i+lv.length)<bw)
  (ha:Add (lu1.set (i+lv.length) (nth lu1 (i+lv.length)+BB-bw)) lv i lv.length c lu3) :
  1<=q/\j5 lu0 lv i (lu3.set (i+lv.length) ((nth lu3 (i+lv.length)+c) % BB)) (lo.set i (q-1)):=by
 have hlen1:i+lv.length<lu1.length:=by rw[hs.len,h.len];exact hi
 have hlen3:i+lv.length<lu3.length:=by rw[ha.len,JK];exact hlen1
 have hz1:∀ j,i+lv.length+1<=j->nth lu1 j=0:=fun j hj=>by rw[hs.same j (by omega)];exact h.zero j (by omega)
 have hz3:∀ j,i+lv.length+1<=j->nth lu3 j=0:=fun j hj=>by
  rw[ha.same j (by omega),b_ (by omega)];exact hz1 j hj
 have hn3:nth lu3 (i+lv.length)=nth lu1 (i+lv.length)+BB-bw:=by rw[ha.same _ (Iw _),gV hlen1]
 have e1:=ry (b:=BB) hlen1 hz1;have e2:=hs.val;rw[IE (Iw _),e1,hw.all] at e2;have e3:=ry (b:=BB) hlen3 hz3;have e4:=gX (b:=BB) (d:=nth lu1 (i+lv.length)+BB-bw) hlen1;have e5:=ha.val;rw[IE (Iw _),e3,hn3] at e5;have hW:val BB (lu1.take (i+lv.length))<BB ^ (i+lv.length):=jP hs.dig (by omega);have hW3:val BB (lu3.take (i+lv.length))<BB ^ (i+lv.length):=jP ha.dig (by omega)
 have hadd:val BB (lu3.take (i+lv.length))+c*BB ^ (i+lv.length)=val BB (lu1.take (i+lv.length))+val BB lv*BB ^ i:=by
  rw[e1] at e4;omega
 have R:=Kn.round_back (b:=BB) hW hW3 (Gt hv i) hs.bor e2 hg.lo ht hadd;have hm:(nth lu3 (i+lv.length)+c) % BB=0:=by rw[hn3,R.2.2.2,Nat.mod_self]
 have e6:val BB (lu3.set (i+lv.length) ((nth lu3 (i+lv.length)+c) % BB))=val BB (lu3.take (i+lv.length)):=by
  have:=gX (b:=BB) (d:=(nth lu3 (i+lv.length)+c) % BB) hlen3;rw[e3,hm] at this;rw[hm];omega
 have hlo:i<lo.length:=by have:=h.leno;omega
 have hq:=hg.small;refine⟨R.1,by simp[ha.len,hs.len,h.len],db ha.dig (by rw[hm];decide),?_,by simp;exact h.leno,db h.digo (by omega),?_,?_⟩
 ·intro j hj;by_cases hj2:j=i+lv.length
  ·subst hj2;rw[gV hlen3];exact hm
  ·rw[b_ hj2];exact hz3 j (by omega)
 ·rw[h.eq,hw.all,e6,zU hlo,<-R.2.1,IN];grind
 ·rw[e6];exact R.2.2.1
open Go.RowKit Dg
theorem IsU.box (w:World) (z:Int) (d:Nat) (hz:z=d):IsU (w.alloc (.cells #[.int .u64 z] 136)) (.slice (some ⟨w.heap.size,0,none⟩) 1 1) [d]:=by
 subst hz;refine⟨some ⟨w.heap.size,0,none⟩,1,rfl,by simp,by simp[maxLen],fun _=>⟨w.heap.size,0,rfl,by simp,fun j hj=>?_⟩⟩;have:j=0:=by simp at hj;exact hj
 subst this;exact gi w d 0 _ rfl
theorem IsU.drewN {w:World}{v:Value}{l:List Nat} (h:IsU w v l) (n:Nat):IsU (w.drewN n) v l:=h
theorem Bn (z:Int) (n:Nat) (w:World) (hz:z=n) (hn:n<18446744073709551616) :
  Calls Tryz.prog 104 #[.int .u64 z] w fun e w'=>∃ v,e=.returned v/\fv w' w.heap.size v (aq BB n)/\Below w.heap.size w w':=by
 subst hz;exact kw n w hn
theorem cK (n:Nat):CB (aq BB n):=kj aT n
theorem Bp {m:List Nat} (hm:CB m) (h1:m.length=1):0<nth m 0/\nth m 0<1000000000/\val BB m=nth m 0:=by
 match m,h1 with
 | [d],_ =>
  have h2:=hm.2 (by simp)
  have h3:=hm.1 d (by simp)
  simp[nth] at *
  exact⟨by omega,h3⟩
theorem lr {l m:List Nat} (hl:CB l) (hm:CB m) (h:val BB m<=val BB l):m.length<=l.length:=by
 rcases JD l.length m.length with hh | hh
 ·have:=cQ aT hl hm hh;omega
 ·exact hh
/-- a is less than b -/
theorem Bt (va vb:Value) (l m:List Nat) (w:World) (ha:IsU w va l) (hb:IsU w vb m) (hl:CB l) (hm:CB m) (hlt:val BB l<val BB m) :
  Calls Tryz.prog 109 #[va,vb] w fun e w'=>∃ vq vr,e=.returned (.tuple #[vq,vr])/\IsU w' vq (aq BB (val BB l / val BB m))/\IsU w' vr (aq BB (val BB l % val BB m))/\Below w.heap.size w w':=by
 have hc:dC (val BB l) (val BB m)<0:=by simp[dC,hlt]
 have H:=Ip hlt;clear hlt;go_enter Tryz.func109,Tryz.ntmps109;go_wp2_with (go_at_call 158;refine (iQ _ _ l m _ ha hb hl hm).mono ?_;rintro e w' ⟨rfl,n,rfl⟩)
 go_ret2
 refine⟨_,_,rfl,?_,?_,below_drewN (LN _ _) _⟩
 ·rw[JM H.out,cz];exact⟨none,0,rfl,by simp,by simp[maxLen],fun h=>by simp at h⟩
 ·rw[J9 H.out,kl aT hl];exact ha
/-- b has one digit -/
theorem DS (va vb:Value) (l m:List Nat) (w:World) (ha:IsU w va l) (hb:IsU w vb m) (hl:CB l) (hm:CB m) (hll:l.length<1000000) (h1:m.length=1) (hge:val BB m<=val BB l) :
  Calls Tryz.prog 109 #[va,vb] w fun e w'=>∃ vq vr,e=.returned (.tuple #[vq,vr])/\IsU w' vq (aq BB (val BB l / val BB m))/\IsU w' vr (aq BB (val BB l % val BB m))/\Below w.heap.size w w':=by
 have hc:¬ dC (val BB l) (val BB m)<0:=by simp only[dC];split<;>(try split)<;>omega
 have hb':=hb;obtain⟨p,cap,rfl,hlc,hcm,hcell⟩:=hb';obtain⟨b,o,rfl,hbw,hcl⟩:=hcell (by omega);have hc0:w.cell? ⟨b,o,none⟩=some (.int .u64 (nth m 0)):=hcl 0 (by omega);have h1':((m.length:Int) == 1)=true:=by simp[h1]
 have hd:=Bp hm h1;have hd0:=hd.1;have hd1:=hd.2.1;have HD:=Ip hd.2.2;clear hd hcl hcell hge;have H1:=Ip h1;clear h1;have hpos:(0:Int)<m.length:=by have:=H1.out;omega
 have hmod:=Jw (val BB l) hd0;go_enter Tryz.func109,Tryz.ntmps109;go_wp2_with (first | (go_at_call 158;refine (iQ _ _ l m _ ha hb hl hm).mono ?_;rintro e w' ⟨rfl,n,rfl⟩) | (go_at_call 159;refine (sV _ l (nth m 0) _ (IsU.drewN ha _) hl.1 hll hd0 (by omega)).mono ?_;rintro e w1 ⟨g,cap1,rfl,hg,hr,hb1⟩) | (go_at_call 104;refine (Bn _ (val BB l % nth m 0) _ (by go_num) (by omega)).mono ?_;rintro e w2 ⟨v2,rfl,ho2,hb2⟩))
 go_ret2
 refine⟨_,_,rfl,?_,?_,?_⟩
 ·rw[HD.out];exact hr.isU.below hb2
 ·rw[HD.out];exact fv.isU ho2
 ·exact (below_drewN (LN _ _) _).trans (Below.trans hb1 (hb2.mono hb1.size))
theorem IsU.drew {w:World}{v:Value}{l:List Nat} (h:IsU w v l):IsU w.drew v l:=h
theorem di.other {w:World}{g cap:Nat}{l:List Nat} (h:di w g cap l) {a:Addr} (ha:g≠a.block) (u:Value):di (w.setCell a u) g cap l :=
 ownsRow_setCell_other h (by simp[Value.ownBlock];exact ha) u
theorem di.kept {w w':World}{g cap:Nat}{l:List Nat} (h:di w g cap l) (hk:w'.heap[g]?=w.heap[g]?):di w' g cap l:=by
 obtain⟨h1,h2⟩:=h;refine⟨h1,?_⟩;rcases h2 with h2 | ⟨g',cap',cur,e,hg,hh,r⟩
 ·exact Or.inl h2
 ·have:g'=g:=by simp at e;exact e.1.symm
  subst this;exact Or.inr ⟨g',cap',cur,e,hg,by rw[hk];exact hh,r⟩
structure Mem (w0 wr:World) (gs gu gv go s cu cv co:Nat) (lu lv lo:List Nat):Prop where
 o1:w0.heap.size<=gs
 o2:gs<gu
 o3:gu<gv
 o4:gv<go
 sc:wr.cell? ⟨gs,0,none⟩=some (.int .u64 s)
 ru:di wr gu cu lu
 rv:di wr gv cv lv
 ro:di wr go co lo
 bl:Below w0.heap.size w0 wr
theorem Mem.setU {w0 wr:World}{gs gu gv go s cu cv co:Nat}{lu lv lo:List Nat} (h:Mem w0 wr gs gu gv go s cu cv co lu lv lo) (j d:Nat) (z:Int) (hz:z=d) :
  Mem w0 (wr.setCell ⟨gu,j,none⟩ (.int .u64 z)) gs gu gv go s cu cv co (lu.set j d) lv lo:=by
 have:=h.o1;have:=h.o2;have:=h.o3;have:=h.o4;refine⟨h.o1,h.o2,h.o3,h.o4,?_,h.ru.set j d z hz,h.rv.other (by show gv≠gu;omega) _,h.ro.other (by show go≠gu;omega) _,h.bl.setCell (p:=⟨gu,j,none⟩) (by show w0.heap.size<=gu;omega) _⟩;rw[World.cell?_setCell_other _ _ _ _ (by simp<;>omega)];exact h.sc
theorem Mem.setO {w0 wr:World}{gs gu gv go s cu cv co:Nat}{lu lv lo:List Nat} (h:Mem w0 wr gs gu gv go s cu cv co lu lv lo) (j d:Nat) (z:Int) (hz:z=d) :
  Mem w0 (wr.setCell ⟨go,j,none⟩ (.int .u64 z)) gs gu gv go s cu cv co lu lv (lo.set j d):=by
 have:=h.o1;have:=h.o2;have:=h.o3;have:=h.o4;refine⟨h.o1,h.o2,h.o3,h.o4,?_,h.ru.other (by show gu≠go;omega) _,h.rv.other (by show gv≠go;omega) _,h.ro.set j d z hz,h.bl.setCell (p:=⟨go,j,none⟩) (by show w0.heap.size<=go;omega) _⟩;rw[World.cell?_setCell_other _ _ _ _ (by simp<;>omega)];exact h.sc
theorem Mem.drewN {w0 wr:World}{gs gu gv go s cu cv co:Nat}{lu lv lo:List Nat} (h:Mem w0 wr gs gu gv go s cu cv co lu lv lo) (n:Nat) :
  Mem w0 (wr.drewN n) gs gu gv go s cu cv co lu lv lo:=⟨h.o1,h.o2,h.o3,h.o4,h.sc,h.ru,h.rv,h.ro,below_drewN h.bl n⟩
theorem lV {w:World}{ops:Array Oper}{rest:List Oper}{o:Oper}{a:Act}{Q:Exit->Act->World->Prop} (T:TypeId)
  (hT:Tryz.prog.underlying T=some (.slice 136)) (hgd:o.guard=none) (s x:Operand)
  (ho:o.op=.call { callee:=.builtin .append,args:=#[s,x],argTypes:=#[T,T] })
  (g N cap:Nat) (l:List Nat) (z:Int) (d:Nat) (hz:z=d) (hs:a.eval s=.slice (some ⟨g,0,none⟩) N cap) (hN:N=l.length) (hown:di w g cap l)
  (hx:a.eval x=.slice (some ⟨w.heap.size,0,none⟩) 1 1) (hlen:l.length<cap)
  (h:∀ w',di w' g cap (l++[d])->(∀ B w0,Below B w0 w->B<=g->Below B w0 w')->(∀ b o,b<w.heap.size->b≠g->w'.heap[b]?=w.heap[b]?/\w'.cell? ⟨b,o,none⟩=w.cell? ⟨b,o,none⟩)->w.heap.size<=w'.heap.size ->
   wpList Tryz.prog ops Q rest (a.put o.dst (.slice (some ⟨g,0,none⟩) (N+1) cap)) w') :
  wpList Tryz.prog ops Q (o :: rest) a (w.alloc (.cells #[.int .u64 z] 136)):=by
 subst hz hN;obtain⟨i0,hi,hz0,hz1,hz2⟩:=info_parts Tryz.info136;refine wpList_append_fits _ hgd s x T ho g 136 i0 1 hT hi hz1 g l.length cap (gO l) hs (World.ownsRow.alloc hown _) ⟨w.heap.size,0,none⟩ 1 1 [.int .u64 d] hx rfl ?_ ?_ (by omega) ?_
 ·exact gi w d
 ·intro u hu;simp at hu;subst hu;rfl
 ·intro w' hown' hg;have hsz:=hg.size;simp at hsz;refine h w' ?_ ?_ ?_ (by omega)
  ·unfold di;have:gO (l++[d])=gO l++[.int .u64 d]:=by rw[oB];rfl
   rw[this,IG];exact hown'
  ·intro B w0 hb hB;have:=hown.lt;exact (hb.alloc (by omega) _).grown hg (by simp;omega) (fun k hk=>by cases hk;exact hB)
  ·intro b o hb hbg;have h1:=hg.block b (by simp;omega) (by simp;exact hbg);have h2:=Below.heap_alloc w (.cells #[.int .u64 (d:Int)] 136) b hb;have h3:w'.heap[b]?=w.heap[b]?:=h1.trans h2;exact⟨h3,World.cell?_of_block h3⟩
theorem rO {m:List Nat}{s:Nat} (hm:CB m) (hne:m≠[]) (hs:1<=s) (hs2:s*(nth m (m.length-1)+1)<=BB):(aq BB (val BB m*s)).length=m.length:=by
 have hpos:0<m.length:=IU.2 hne
 have h1:val BB m<(nth m (m.length-1)+1)*BB ^ (m.length-1):=by
  have e:val BB m=val BB (m.take (m.length-1+1)):=by rw[IE (by omega)]
  rw[cL (by omega)] at e;have:=jP hm.1 (k:=m.length-1) (by omega);rw[Jg,e];omega
 have h2:val BB m*s<BB ^ m.length:=by
  have h3:val BB m*s<(nth m (m.length-1)+1)*BB ^ (m.length-1)*s:=Ka h1 hs;have h4:s*(nth m (m.length-1)+1)*BB ^ (m.length-1)<=BB*BB ^ (m.length-1):=IJ _ hs2;have e:(nth m (m.length-1)+1)*BB ^ (m.length-1)*s=s*(nth m (m.length-1)+1)*BB ^ (m.length-1):=by grind
  have e2:BB ^ m.length=BB*BB ^ (m.length-1):=by
   obtain⟨p,hp⟩:∃ p,m.length=p+1:=⟨m.length-1,by omega⟩;rw[hp,JC,IN,IM]
  omega
 have h5:=aZ aT h2
 have h6:BB ^ (m.length-1)<=val BB m*s:=by
  have:=ff hm hne;have h7:val BB m*1<=val BB m*s:=IV _ hs;omega
 have h8:=bV aT (val BB m*s);have h9:BB ^ (m.length-1)<BB ^ (aq BB (val BB m*s)).length:=by omega
 have:=(Nat.pow_lt_pow_iff_right (show 1<BB by decide)).1 h9;omega
theorem Et {l:List Nat}{s:Nat} (hl:CB l) (hs:s<BB):(aq BB (val BB l*s)).length<=l.length+1:=by
 have h1:=f9 BB l hl.1;refine aZ aT ?_;rw[IN];have:(val BB l+1)*s<=BB ^ l.length*s:=IJ _ h1;rw[Jg] at this;have h2:BB ^ l.length*(s+1)<=BB ^ l.length*BB:=IV _ hs;rw[K8] at h2;have h3:=D2 l.length;omega
def o_ (n:Nat) (lu:List Nat):Prop:=val BB lu=n/\∀ x∈lu,x<BB
theorem uh (n:Nat):o_ n (aq BB n):=⟨aA aT n,(kj aT n).1⟩
theorem wB {n:Nat}{lu:List Nat} (h:o_ n lu):o_ n (lu++[0]):=by
 refine⟨by rw[eI,Nat.mul_zero,I7];exact h.1,fun x hx=>?_⟩;rcases Jo.1 hx with hx | hx
 ·exact h.2 x hx
 ·simp at hx;subst hx;decide
theorem AZ {l m lu:List Nat}{s:Nat} (hl:CB l) (hm:CB m) (hne:m≠[]) (hs:1<=s) (hge:val BB m<=val BB l)
  (hv:(aq BB (val BB m*s)).length=m.length) (hu:o_ (val BB l*s) lu) (hlen:lu.length=l.length+1) :
  j5 lu (aq BB (val BB m*s)) (l.length+1-m.length) lu (List.replicate (l.length+1-m.length) 0):=by
 have hml:=lr hl hm hge;refine⟨rfl,hu.2,?_,?_,?_,?_,?_⟩
 ·intro j hj;rw[hv] at hj;simp[nth,JF (show lu.length<=j by omega)]
 ·rw[Ke,hv,hlen];omega
 ·intro x hx;rw[JS hx];decide
 ·rw[Jt (by simp)];simp
 ·rw[hu.1,aA aT];have h1:=f9 BB l hl.1;have h2:=ff hm hne;have hpos:0<m.length:=IU.2 hne;have e:BB ^ l.length=BB ^ (m.length-1)*BB ^ (l.length+1-m.length):=by rw[<-JX];congr 1;omega
  have h3:BB ^ (m.length-1)*BB ^ (l.length+1-m.length)<=val BB m*BB ^ (l.length+1-m.length):=IJ _ h2;have h4:val BB l*s<val BB m*BB ^ (l.length+1-m.length)*s:=Ka (by omega) hs;have e2:val BB m*s*BB ^ (l.length+1-m.length)=val BB m*BB ^ (l.length+1-m.length)*s:=by grind
  omega
theorem Fk {a b s:Nat}{lu0 lv lu lo:List Nat} (h:j5 lu0 lv 0 lu lo) (hu:val BB lu0=a*s) (hv:val BB lv=b*s) (hs:1<=s) :
  val BB lo=a / b/\val BB lu=(a % b)*s:=by
 have e:=h.eq;have hlt:=h.lt;simp only[Nat.pow_zero,JV,IA,JO] at e hlt;rw[hu,hv] at e;rw[hv] at hlt
 have hb:0<b:=by
  cases b with
  | zero=>simp at hlt
  | succ b=>omega
 have hdvd:val BB lu=(a-b*val BB lo)*s:=by
  rw[Nat.sub_mul];have:b*s*val BB lo=b*val BB lo*s:=by grind
  omega
 rw[hdvd] at hlt;have h1:=JZ hlt
 have h2:b*val BB lo<=a:=by
  have h3:b*val BB lo*s<=a*s:=by
   have:b*s*val BB lo=b*val BB lo*s:=by grind
   omega
  exact Nat.le_of_mul_le_mul_right h3 hs
 have h4:a / b=val BB lo:=by
  have:a=(a-b*val BB lo)+b*val BB lo:=by omega
  rw[this,Lk _ _ hb,JM h1,Jk]
 have h5:a % b=a-b*val BB lo:=by
  have:=Jh a b;rw[h4] at this;omega
 rw[h4,h5];exact⟨rfl,hdvd⟩
theorem wQ {m:List Nat} (hm:CB m) (hne:m≠[]):1<=1000000000 / (nth m (m.length-1)+1)/\1000000000 / (nth m (m.length-1)+1)<BB /\
  1000000000 / (nth m (m.length-1)+1)*(nth m (m.length-1)+1)<=BB/\nth m (m.length-1)<1000000000:=by
 have hpos:0<m.length:=IU.2 hne;have h1:=nlt hm.1 (j:=m.length-1) (by omega)
 have h2:nth m (m.length-1)≠0:=by
  have:=hm.2 hne;rw[eF m _ (by omega)]
  rwa [KU] at this
 refine⟨?_,?_,?_,h1⟩
 ·rw[Nat.le_div_iff_mul_le (by omega)];omega
 ·simp only[BB];rw[JR (by omega)];omega
 ·exact Nat.div_mul_le_self _ _
theorem ti (va vb:Value) (l:List Nat) (s:Nat) (w:World) (ha:IsU w va l) (hb:IsU w vb [s]) (hl:∀ x∈l,x<BB) (hs:s<BB) (hll:l.length<1000000) :
  Calls Tryz.prog 160 #[va,vb] w fun e w'=>∃ g,e=.returned (.slice (some ⟨g,0,none⟩) (aq BB (val BB l*s)).length (l.length+1)) /\
   w.heap.size<=g/\di w' g (l.length+1) (aq BB (val BB l*s))/\Below w.heap.size w w':=by
 have h:=th va vb l [s] w ha hb hl (by intro x hx;simp at hx;subst hx;exact hs) hll (by simp);refine h.mono ?_;rintro e w' ⟨g,cap,rfl,hg,rfl,hr,hbl⟩;have e1:val BB [s]=s:=by simp
 rw[e1] at hr |-;exact⟨g,rfl,hg,hr,hbl⟩
theorem CZ (a b c:Nat):((a:Int)*1000000000+(b:Int)) / (c:Int)=((a*BB+b) / c:Nat):=by simp[BB]
theorem Bl (a b c:Nat):((a:Int)*1000000000+(b:Int)) % (c:Int)=((a*BB+b) % c:Nat):=by simp[BB]
theorem AY {a b c:Nat} (ha:a<1000000000) (hb:b<1000000000):(a*BB+b) / c<=1000000000000000000:=by
 have:=J5 (a*BB+b) c;simp only[BB] at *
 omega
theorem Bu (va vb:Value) (l m:List Nat) (w:World) (ha:IsU w va l) (hb:IsU w vb m) (hl:CB l) (hm:CB m) (hll:l.length<100000) (hlm:m.length<100000) (h2:2<=m.length) (hge:val BB m<=val BB l) :
  Calls Tryz.prog 109 #[va,vb] w fun e w'=>∃ vq vr,e=.returned (.tuple #[vq,vr])/\IsU w' vq (aq BB (val BB l / val BB m))/\IsU w' vr (aq BB (val BB l % val BB m))/\Below w.heap.size w w':=by
 have hc:¬ dC (val BB l) (val BB m)<0:=by simp only[dC];split<;>(try split)<;>omega
 have hml:=lr hl hm hge;have HGE:=Ip hge;clear hge;have hne:m≠[]:=by intro e;subst e;simp at h2
 obtain⟨hs1,hs2,hs3,ht⟩:=wQ hm hne;have ha':=ha;have hb':=hb;obtain⟨p,cap,rfl,hlc,hcm,hcell⟩:=hb;obtain⟨pa,capa,rfl,hlca,hcma,hcella⟩:=ha;clear hcella;unfold maxLen at hcm hcma;obtain⟨b,o,rfl,hbw,hcl⟩:=hcell (by omega);have hc0:=hcl (m.length-1) (by omega);have h1':((m.length:Int) == 1)=false:=by simp;omega
 clear hcl hcell;obtain⟨s,hs⟩:∃ s,s=1000000000 / (nth m (m.length-1)+1):=⟨_,rfl⟩;rw[<-hs] at hs1 hs2 hs3;have hsi:(1000000000:Int) / ((nth m (m.length-1):Int)+1)=s:=by rw[hs];simp
 have HS:=Ip hs;have HS3:=Ip hs3;clear hs hs3;have hs2':s<1000000000:=hs2;clear hs2;go_enter Tryz.func109,Tryz.ntmps109;go_wp2_with (first | (go_at_call 158;refine (iQ _ _ l m _ ha' hb' hl hm).mono ?_;rintro e w' ⟨rfl,n,rfl⟩) | fail)
 have hb1:Below w.heap.size w ((w.drewN n).alloc (.cells #[.int .u64 s] 136)):=(below_drewN (LN _ _) n).alloc (Iw _) _;have hbx:=IsU.box (w.drewN n) s s rfl;have hsc:((w.drewN n).alloc (.cells #[.int .u64 s] 136)).cell? ⟨w.heap.size,0,none⟩=some (.int .u64 s):=gi (w.drewN n) s 0 _ rfl;have hsz1:((w.drewN n).alloc (.cells #[.int .u64 s] 136)).heap.size=w.heap.size+1:=by simp
 have HB1:=Ip hb1;have HBX:=Ip hbx;have HSC:=Ip hsc;have HSZ1:=Ip hsz1;have HA1:=Ip (ha'.below hb1);have HBB1:=Ip (hb'.below hb1);clear hb1 hbx hsc hsz1 hc0;generalize (w.drewN n).alloc (.cells #[.int .u64 s] 136)=w1 at HB1 HBX HSC HSZ1 HA1 HBB1 |-;refine (ti _ _ l s w1 HA1.out HBX.out hl.1 hs2' (by omega)).mono ?_;rintro e wu ⟨gu,rfl,hgu,hru,hbu⟩;have HBU:=Ip hbu;have HRU:=Ip hru;rw[HSZ1.out] at hgu;clear hbu hru;go_wp2_with fail
 refine (ti _ _ m s wu (HBB1.out.below HBU.out) (HBX.out.below HBU.out) hm.1 hs2' (by omega)).mono ?_;rintro e wv ⟨gv,rfl,hgv,hrv,hbv⟩;have hgv':gu<gv:=by have:=HRU.out.lt;omega
 have HV:=Ip (rO hm hne hs1 HS3.out);rw[HV.out];have hlu:=Et hl (s:=s) hs2';have HRV:=Ip hrv;have HBV:=Ip hbv;have HRU2:=Ip (HRU.out.below hbv);have HBL:=Ip (HB1.out.trans ((HBU.out.mono HB1.out.size).trans (hbv.mono (IB HB1.out.size HBU.out.size))))
 have HSC2:Hid (wv.cell? ⟨w.heap.size,0,none⟩=some (.int .u64 s)):=by
  unfold Hid;rw[hbv.cell (p:=⟨w.heap.size,0,none⟩) (by show w.heap.size<_;have:=HBU.out.size;have:=HSZ1.out;omega),HBU.out.cell (p:=⟨w.heap.size,0,none⟩) (by show w.heap.size<_;have:=HSZ1.out;omega)];exact HSC.out
 clear hrv hbv hgv HBU HRU HB1 HBX HSC HSZ1 HA1 HBB1;go_wp2
 go_loopw [9] (fun s9 wr=>∃ lu:List Nat,lu.length<=l.length+1/\s9=.slice (some ⟨gu,0,none⟩) lu.length (l.length+1)/\Hid (o_ (val BB l*s) lu)/\Hid (di wr gu (l.length+1) lu)/\Hid (di wr gv (m.length+1) (aq BB (val BB m*s))) /\
   Hid (wr.cell? ⟨w.heap.size,0,none⟩=some (.int .u64 s))/\Below w.heap.size w wr) (fun s9 _=>match s9 with | .slice _ n _=>l.length+1-n | _=>0)
 case atStart=>exact⟨_,hlu,rfl,uh _,HRU2,HRV,HSC2,HBL.out⟩
 case round =>
  obtain⟨lu,hlul,rfl,hpad,hru,hrv,hsc,hbl⟩:=hrel;clear HSC2 HBV HRV HRU2 HBL hlu;have hgvs:=hrv.out.lt;have hbls:=hbl.size;by_cases h0:lu.length<=l.length
  ·go_wp2_with (at_builtin;refine lV 87 Tryz.underlying87 rfl (.tmp 67) (.tmp 68) rfl gu _ _ lu 0 0 rfl rfl rfl hru.out rfl (by omega) ?_)
   intro w' hr1 hb1 hk1 hs1';have hb2:=hb1 _ _ hbl (by omega);have hr2:di w' gv (m.length+1) (aq BB (val BB m*s)):=hrv.out.kept (hk1 gv 0 hgvs (by omega)).1;have hsc2:w'.cell? ⟨w.heap.size,0,none⟩=some (.int .u64 s):=by rw[(hk1 _ _ (by omega) (by omega)).2];exact hsc.out
   clear hb1 hk1;have HR1:=Ip hr1;have HR2:=Ip hr2;have HS2:=Ip hsc2;clear hr1 hr2 hsc2;go_wp2;go_roundw;case rel=>exact⟨lu++[0],by simp;omega,by simp,wB hpad.out,HR1,HR2,HS2,hb2⟩
   case measure=>simp;omega
  ·have hlen:lu.length=l.length+1:=by omega
   go_wp2_with (at_make;refine gx 87 Tryz.underlying87 rfl (.tmp 73) (.tmp 73) rfl _ _ (l.length+1-m.length) rfl rfl (by omega) (by omega) (by omega) ?_)
   intro w0 hro hb0 hs0;have hg:Below wr.heap.size wr w0:=hb0 _ _ (LN _ _) (Iw _)
   have hmem:Hid (Mem w w0 w.heap.size gu gv wr.heap.size s (l.length+1) (m.length+1) (l.length+1-m.length) lu (aq BB (val BB m*s)) (List.replicate (l.length+1-m.length) 0)):=by
    have hslt:w.heap.size<wr.heap.size:=by omega
    exact⟨Iw _,by omega,hgv',hgvs,(hg.cell (p:=⟨w.heap.size,0,none⟩) hslt).trans hsc.out,hru.out.below hg,hrv.out.below hg,hro,hb0 _ _ hbl hbls⟩
   have hdiv:=Ip (AZ hl hm hne hs1 HGE.out HV.out hpad.out hlen);have HLEN:=Ip hlen;have hval:=Ip hpad.out.1;clear hro hb0 hs0 hg hru hrv hsc hpad hbl hbls;obtain⟨lv,hlv⟩:∃ lv,lv=aq BB (val BB m*s):=⟨_,rfl⟩;rw[<-hlv] at hmem hdiv HV;have hcv:Hid (CB lv/\val BB lv=val BB m*s):=by unfold Hid;rw[hlv];exact⟨cK _,aA aT _⟩
   clear hlv;obtain⟨go,hgo⟩:∃ go,go=wr.heap.size:=⟨_,rfl⟩;rw[<-hgo] at hmem |-;clear hgo;have hv1:=hcv.out.1.1;have hvlen:=Ip HV.out;clear HS HS3 HV hsi hgv' hgu h0 hlul;go_wp2;go_loopw [13] (fun s13 wr=>∃ (k:Nat) (lu1 lo:List Nat),k<=l.length+1-m.length/\s13=.int .i64 ((k:Int)-1)/\Hid (j5 lu lv k lu1 lo)/\Hid (Mem w wr w.heap.size gu gv go s (l.length+1) (m.length+1) (l.length+1-m.length) lu1 lv lo)) (fun s13 _=>(intOf s13+1).toNat)
   case atStart=>exact⟨l.length+1-m.length,lu,_,Iw _,by go_num,hdiv,hmem⟩
   case round =>
    obtain⟨k,lu1,lo,hk,rfl,hrel1,hm1⟩:=hrel;clear hdiv hmem;by_cases h0:k=0
    ·subst h0;have h00:((0:Nat):Int)-1=-1:=rfl;rw[h00];clear h00;have hde:=Ip (Fk hrel1.out hval.out hcv.out.2 hs1);have hsc:=hm1.out.sc;have hmd:=fun (n:Nat)=>hm1.out.drewN n;have hle:=Ip hm1.out.ru.isU;have hll1:=hrel1.out.len;rw[hll1,HLEN.out] at hle;have hsh:=Ip (hm1.out.ru.lean.isU);have hlo1:=hrel1.out.leno;rw[hvlen.out,HLEN.out] at hlo1;have hole:=Ip hm1.out.ro.isU;rw[show lo.length=l.length+1-m.length by omega] at hole;have hlel:=bO lu1;rw[hll1,HLEN.out] at hlel;have hdig:=(vU hrel1.out.dig).1;have HMD:=Ip hmd;have hvs:Hid (val BB (Dg.lean lu1) / s=val BB l % val BB m):=by unfold Hid;rw[rj,hde.out.2,Nat.mul_div_cancel _ hs1]
     clear hmd hll1 hlo1;go_wp2_with fail
     go_region_with (first | (go_at_call 161;refine (jg _ _ _ lu1 _ (by exact hle.out)).mono ?_;rintro e w' ⟨rfl,rfl⟩) | (go_at_call 159;refine (sV _ (Dg.lean lu1) s _ (by exact hsh.out) hdig (by omega) hs1 (by omega)).mono ?_;rintro e w1 ⟨g,cap1,rfl,hg,hr,hb1⟩))
     all_goals
      go_wp2_with fail
      have hole2:=IsU.below (IsU.drew hole.out) hb1;refine (jg _ _ _ lo _ hole2).mono ?_;rintro e w2 ⟨rfl,rfl⟩;go_wp2
      go_ret2
      refine⟨_,_,rfl,?_,?_,?_⟩
      ·rw[<-hde.out.1,<-c_ aT hrel1.out.digo];exact IsU.below (IsU.drew hm1.out.ro.lean.isU) hb1
      ·rw[<-hvs.out];exact hr.isU
      ·exact hm1.out.bl.drew.trans (hb1.mono hm1.out.bl.size)
    ·obtain⟨i,rfl⟩:∃ i,k=i+1:=⟨k-1,by omega⟩;have ei:((i+1:Nat):Int)-1=i:=by omega
     rw[ei];clear ei h0;have hlu1:=Ip hrel1.out.len;have hview:=Ip (C4 hrel1.out hv1 (by rw[hvlen.out];exact h2) (by rw[hvlen.out,hlu1.out,HLEN.out];omega));rw[hvlen.out] at hview;have c0:=hm1.out.ru.cell (j:=i+m.length) (by rw[hlu1.out,HLEN.out];omega);have c1:=hm1.out.ru.cell (j:=i+m.length-1) (by rw[hlu1.out,HLEN.out];omega);have c2:=hm1.out.ru.cell (j:=i+m.length-2) (by rw[hlu1.out,HLEN.out];omega);have d1:=hm1.out.rv.cell (j:=m.length-1) (by rw[hvlen.out];omega);have d2:=hm1.out.rv.cell (j:=m.length-2) (by rw[hvlen.out];omega);have b0:=nlt hrel1.out.dig (j:=i+m.length) (by rw[hlu1.out,HLEN.out];omega);have b1:=nlt hrel1.out.dig (j:=i+m.length-1) (by rw[hlu1.out,HLEN.out];omega);have b2:=nlt hrel1.out.dig (j:=i+m.length-2) (by rw[hlu1.out,HLEN.out];omega);have e1:=nlt hv1 (j:=m.length-1) (by rw[hvlen.out];omega);have e2:=nlt hv1 (j:=m.length-2) (by rw[hvlen.out];omega)
     have hvt:1<=nth lv (m.length-1):=by
      have hne':lv≠[]:=by intro e;have:=hvlen.out;rw[e] at this;simp at this;omega
      have:=hcv.out.1.2 hne';rw[KU] at this;rw[<-hvlen.out,eF lv _ (by rw[hvlen.out];omega)];omega
     go_wp2_with fail
     go_quiet (fail)
     go_wp2_with fail
     go_quiet (fail)
     go_upto_block 4 with fail
     go_cut [15,16] from 113 to 145 (fun s15 s16 wx=>∃ (q r n':Nat),s15=.int .u64 q/\s16=.int .u64 r/\Hid (oK (val BB (lu1.drop i)) (val BB lv) q)/\wx=wr.drewN n')
     case first =>
      go_wp2_with fail
      go_loopg [15,16] ((nth lu1 (i+m.length)*BB+nth lu1 (i+m.length-1)) / nth lv (m.length-1)) (fun g s15 s16 wq=>∃ (r n':Nat),s15=.int .u64 g/\s16=.int .u64 r/\Hid (uI (val BB (lu1.drop i)) (val BB lv) (nth lu1 (i+m.length)*BB+nth lu1 (i+m.length-1)) (nth lv (m.length-1)) g r)/\r<1000000000/\g<=1000000000000000000/\wq=wr.drewN n')
      case atStart=>exact⟨_,_,congrArg (Value.int .u64) (CZ _ _ _),congrArg (Value.int .u64) (Bl _ _ _),vJ hview.out hvt b2,Nat.lt_trans (Jw _ hvt) e1,AY b0 b1,by first | rfl | rw[World.drewN_drewN]⟩
      case round =>
       obtain⟨r,n',rfl,rfl,hG,hr,hq,rfl⟩:=hrel;obtain⟨q,hqe⟩:∃ q,q=gk:=⟨_,rfl⟩;subst hqe;by_cases hbig:1000000000<=q
       ·have hd:decide ((1000000000:Int)<=(q:Int))=true:=by simp;omega
        obtain⟨hq1,hG'⟩:=sn hview.out hG.out (Or.inl hbig);have HG':=Ip hG';clear hG' hbig;rcases (by omega:(1000000000:Int)<=(r:Int)+(nth lv (m.length-1):Int)\/(r:Int)+(nth lv (m.length-1):Int)<1000000000) with hr2 | hr2
        ·go_wp2_with fail
         go_quiet (fail)
         go_wp2;go_meet;exact⟨q-1,r+nth lv (m.length-1),_,by go_num,by go_num,nn hview.out HG'.out hvt e2 b1 (Or.inr (by simp only[BB];omega)),by first | rfl | rw[World.drewN_drewN]⟩
        ·have hr2d:decide ((1000000000:Int)<=(r:Int)+(nth lv (m.length-1):Int))=false:=by simp;omega
         go_wp2_with fail
         go_quiet (fail)
         go_wp2
         go_roundg (q-1)
         case rel=>exact⟨r+nth lv (m.length-1),_,by go_num,by go_num,HG',by omega,by omega,by first | rfl | rw[World.drewN_drewN]⟩
         case measure=>omega
       ·have hqv:q*nth lv (m.length-2)<=999999999*999999999:=Je (by omega) (by omega);have hqv0:0<=(q:Int)*(nth lv (m.length-2):Int):=by omega
        have hd:decide ((1000000000:Int)<=(q:Int))=false:=by simp;omega
        have hqI:(q:Int)<1000000000:=by omega
        by_cases hc2:r*1000000000+nth lu1 (i+m.length-2)<q*nth lv (m.length-2)
        ·have hd2:decide ((r:Int)*1000000000+(nth lu1 (i+m.length-2):Int)<(q:Int)*(nth lv (m.length-2):Int))=true:=by simp;omega
         obtain⟨hq1,hG'⟩:=sn hview.out hG.out (Or.inr hc2);have HG':=Ip hG';clear hG' hc2 hbig;rcases (by omega:(1000000000:Int)<=(r:Int)+(nth lv (m.length-1):Int)\/(r:Int)+(nth lv (m.length-1):Int)<1000000000) with hr2 | hr2
         ·go_wp2_with fail
          go_quiet (fail)
          go_wp2;go_meet;exact⟨q-1,r+nth lv (m.length-1),_,by go_num,by go_num,nn hview.out HG'.out hvt e2 b1 (Or.inr (by simp only[BB];omega)),by first | rfl | rw[World.drewN_drewN]⟩
         ·have hr2d:decide ((1000000000:Int)<=(r:Int)+(nth lv (m.length-1):Int))=false:=by simp;omega
          go_wp2_with fail
          go_quiet (fail)
          go_wp2
          go_roundg (q-1)
          case rel=>exact⟨r+nth lv (m.length-1),_,by go_num,by go_num,HG',by omega,by omega,by first | rfl | rw[World.drewN_drewN]⟩
          case measure=>omega
        ·have hd2:decide ((r:Int)*1000000000+(nth lu1 (i+m.length-2):Int)<(q:Int)*(nth lv (m.length-2):Int))=false:=by simp;omega
         have hbig2:(q:Int)<1000000000:=by omega
         have HC2:=Ip hc2;clear hc2 hbig;go_wp2_with fail
         go_quiet (fail)
         go_wp2;go_meet;have hc2:=HC2.out;exact⟨q,r,_,rfl,rfl,nn hview.out hG.out hvt e2 b1 (Or.inl ⟨by simp only[BB];omega,by simp only[BB];omega⟩),by first | rfl | rw[World.drewN_drewN]⟩
     case rest =>
      obtain⟨q,r,n',rfl,rfl,hG,rfl⟩:=hcut;have hmn:=Ip (hm1.out.drewN n');clear hm1 c0 c1 c2 d1 d2 b0 b1 b2 e1 e2 hvt;have hq1:q<1000000000:=hG.out.small;have hgk:i+m.length<l.length+1:=by omega
      go_wp2;go_loopw [17,148] (fun s17 s148 wq=>∃ (kk bw:Nat) (lu2:List Nat),kk<=m.length/\s17=.int .u64 bw/\s148=.int .i64 kk/\Hid (Sub lu1 lv i q kk bw lu2)/\Hid (Mem w wq w.heap.size gu gv go s (l.length+1) (m.length+1) (l.length+1-m.length) lu2 lv lo)) (fun _ s148 _=>m.length-(intOf s148).toNat)
      case atStart=>exact⟨0,0,lu1,IF _,rfl,rfl,BY lu1 lv i q hrel1.out.dig,hmn⟩
      case round =>
       obtain⟨kk,bw,lu2,hkk,rfl,rfl,hsub,hm2⟩:=hrel;clear hmn;have hl2:=Ip hsub.out.len;have hbw1:bw<=1000000000:=hsub.out.bor;by_cases hk2:kk<m.length
       ·have dv:=hm2.out.rv.cell (j:=kk) (by rw[hvlen.out];exact hk2);have cu:=hm2.out.ru.cell (j:=i+kk) (by rw[hl2.out,hlu1.out,HLEN.out];omega);have fu:=hm2.out.ru.free (i+kk);have hy:=nlt hv1 (j:=kk) (by rw[hvlen.out];exact hk2);have hu:=nlt hsub.out.dig (j:=i+kk) (by rw[hl2.out,hlu1.out,HLEN.out];omega);have hS:=Aj hsub.out.bor hG.out.small (cY hv1 (by rw[hvlen.out];exact hk2));have hS0:0<=(q:Int)*(nth lv kk:Int):=by have:=Int.natCast_nonneg (q*nth lv kk);rw[Kd] at this;exact this
        have hstep:=fun c d hd hc he=>ED (c:=c) (d:=d) hsub.out (by rw[hvlen.out];exact hk2) (by rw[hlu1.out,HLEN.out];omega) hG.out.small hv1 hd hc he;have HST:=Ip hstep;clear hstep;by_cases hlow:(nth lu2 (i+kk):Int)<((bw:Int)+(q:Int)*(nth lv kk:Int)) % 1000000000
        ·go_wp2;go_roundw
         case rel =>
          have hst:=HST.out 1 (nth lu2 (i+kk)+1000000000-(bw+q*nth lv kk) % BB) (by simp only[BB];omega) (Iw _) (by simp only[BB];omega);refine⟨kk+1,_,_,by omega,?_,by go_num,hst,?_⟩
          ·simp only[BB];go_num
          ·have h1:=(hm2.out.setU (i+kk) (nth lu2 (i+kk)+1000000000) _ (by go_num)).setU (i+kk) (nth lu2 (i+kk)+1000000000-(bw+q*nth lv kk) % BB) ((nth lu2 (i+kk):Int)+1000000000-((bw:Int)+(q:Int)*(nth lv kk:Int)) % 1000000000) (by simp only[BB];omega);rw[List.set_set] at h1;exact h1
         case measure=>simp[intOf];omega
        ·go_wp2;go_roundw
         case rel =>
          have hst:=HST.out 0 (nth lu2 (i+kk)-(bw+q*nth lv kk) % BB) (by simp only[BB];omega) (IF _) (by simp only[BB];omega);refine⟨kk+1,_,_,by omega,?_,by go_num,hst,hm2.out.setU (i+kk) _ _ (by simp only[BB];omega)⟩;simp only[BB,I7];go_num
         case measure=>simp[intOf];omega
       ·have hkm:kk=m.length:=by omega
        subst hkm;clear hk2 hkk;have cu:=hm2.out.ru.cell (j:=i+m.length) (by rw[hl2.out,hlu1.out,HLEN.out];omega);have fu:=hm2.out.ru.free (i+m.length);have hlo:=Ip hrel1.out.leno;have co:=hm2.out.ro.cell (j:=i) (by have:=hlo.out;rw[hvlen.out,HLEN.out] at this;omega);have fo:=hm2.out.ro.free i;have hu:=nlt hsub.out.dig (j:=i+m.length) (by rw[hl2.out,hlu1.out,HLEN.out];omega);have hgo:go≠gu:=by have:=hm2.out.o3;have:=hm2.out.o4;omega
        have hlenu:i+m.length<lu2.length:=by rw[hl2.out,hlu1.out,HLEN.out];omega
        by_cases hfit:(bw:Int)<=(nth lu2 (i+m.length):Int)
        ·have hdiv:=C2 hrel1.out hview.out hv1 (by rw[hvlen.out,HLEN.out];omega) hG.out (by rw[hvlen.out];exact hsub.out) (by rw[hvlen.out];omega);rw[hvlen.out] at hdiv;have HD:=Ip hdiv;clear hdiv;go_wp2;go_roundw;case rel=>exact⟨i,_,_,by omega,by go_num,HD,(hm2.out.setU (i+m.length) _ _ (by go_num)).setO i q _ rfl⟩
         case measure=>simp[intOf]
        ·have fu2:((wr.setCell ⟨gu,i+m.length,none⟩ (.int .u64 ((nth lu2 (i+m.length):Int)+1000000000-bw)))).frozen? ⟨go,i,none⟩=false:=by rw[World.frozen?_setCell];exact fo
         have hlt2:nth lu2 (i+m.length)+BB-bw<BB:=by simp only[BB];omega
         have HM3:=Ip (hm2.out.setU (i+m.length) (nth lu2 (i+m.length)+BB-bw) ((nth lu2 (i+m.length):Int)+1000000000-bw) (by simp only[BB];omega));have HA0:=Ip (AI (lu2.set (i+m.length) (nth lu2 (i+m.length)+BB-bw)) lv i (db hsub.out.dig hlt2));clear fo co;go_wp2;go_loopw [21,227] (fun s21 s227 wq=>∃ (kk c:Nat) (lu3:List Nat),kk<=m.length/\s21=.int .u64 c/\s227=.int .i64 kk/\Hid (Add (lu2.set (i+m.length) (nth lu2 (i+m.length)+BB-bw)) lv i kk c lu3)/\Hid (Mem w wq w.heap.size gu gv go s (l.length+1) (m.length+1) (l.length+1-m.length) lu3 lv lo)) (fun _ s227 _=>m.length-(intOf s227).toNat)
         case atStart=>exact⟨0,0,_,IF _,rfl,rfl,HA0,HM3⟩
         case round =>
          obtain⟨kk,c,lu3,hkk,rfl,rfl,hadd,hm3⟩:=hrel;clear HM3 HA0 cu fu fu2;have hl3:Hid (lu3.length=l.length+1):=by unfold Hid;rw[hadd.out.len,JK,hl2.out,hlu1.out,HLEN.out]
          have hc1:c<=1:=hadd.out.car;by_cases hk3:kk<m.length
          ·have dv:=hm3.out.rv.cell (j:=kk) (by rw[hvlen.out];exact hk3);have cu:=hm3.out.ru.cell (j:=i+kk) (by rw[hl3.out];omega);have fu:=hm3.out.ru.free (i+kk);have hy:=nlt hv1 (j:=kk) (by rw[hvlen.out];exact hk3);have hu3:=nlt hadd.out.dig (j:=i+kk) (by rw[hl3.out];omega);go_wp2;go_roundw;case rel=>exact⟨kk+1,_,_,by omega,by go_num,by go_num,Cs hadd.out (by rw[hvlen.out];exact hk3) (by rw[JK];omega) hv1,hm3.out.setU (i+kk) _ _ (by go_num)⟩
           case measure=>simp[intOf];omega
          ·have hkm:kk=m.length:=by omega
           subst hkm;clear hk3 hkk;have cu:=hm3.out.ru.cell (j:=i+m.length) (by rw[hl3.out];omega);have fu:=hm3.out.ru.free (i+m.length);have hlo:=Ip hrel1.out.leno;have co:=hm3.out.ro.cell (j:=i) (by have:=hlo.out;rw[hvlen.out,HLEN.out] at this;omega);have fo:=hm3.out.ro.free i;have hu3:=nlt hadd.out.dig (j:=i+m.length) (by rw[hl3.out];omega);have hdiv:=CY hrel1.out hview.out hv1 (by rw[hvlen.out,HLEN.out];omega) hG.out (by rw[hvlen.out];exact hsub.out) (by rw[hvlen.out];omega) (by rw[hvlen.out];exact hadd.out);rw[hvlen.out] at hdiv;have hq0:=hdiv.1;have HD:=Ip hdiv.2;clear hdiv;go_wp2;go_roundw;case rel=>exact⟨i,_,_,by omega,by go_num,HD,(hm3.out.setU (i+m.length) _ _ (by go_num)).setO i (q-1) _ (by go_num)⟩
           case measure=>simp[intOf]
end Go.Proofs.YtlhpcoelfhjomaaGreatDoor
