/- Lemmas of this claim. -/
import Derived.Deep.DeepCutAuto
import Derived.Deep.CutBlock
import Derived.Deep.CutRange
import Derived.StillTailTactics
import Derived.Deep.DeepFit
import Derived.Deep.RegionWith
import Derived.RegionTactic
import Derived.Test.YtbnkpcfjechfiaaGreatDoorZPlain
import Derived.Test.YtbnkpcfjechfiaaGreatDoorZNat
set_option linter.all false
set_option maxRecDepth 100000
set_option maxHeartbeats 8000000
namespace Go.Proofs.YtbnkpcfjechfiaaGreatDoor
open Dg
theorem iw (l:List Nat) (i j:Nat):nth (l.drop i) j=nth l (i+j):=by simp[nth]
theorem mr {b:Nat}{l:List Nat} (h:∀ j,nth l j=0):val b l=0:=by
 induction l with
 | nil=>rfl
 | cons d l ih =>
  have h0:=h 0
  have h1:=ih (fun j=>by have:=h (j+1);simpa[nth] using this)
  simp[nth] at h0
  simp[h0,h1]
theorem Ch {b:Nat}{L:List Nat}{n:Nat} (h2:2≤n) (hn:n<L.length) (hz:∀ j,n+1≤j→nth L j=0) :
  val b L=((nth L n*b+nth L (n-1))*b+nth L (n-2))*b ^ (n-2)+val b (L.take (n-2)):=by
 have e:=fA b L (n+1)
 rw[mr (l:=L.drop (n+1)) (fun j=>by rw[iw];exact hz _ (by omega)),Nat.mul_zero,FU] at e
 obtain⟨p,rfl⟩:∃ p,n=p+2:=⟨n-2,by omega⟩
 rw[cf hn,cf (by omega),cf (by omega)] at e
 rw[e,FD,FD,show p+2-1=p+1 by omega,show p+2-2=p by omega]
 grind
theorem Cg {b:Nat}{L:List Nat} (h2:2≤L.length) :
  val b L=(nth L (L.length-1)*b+nth L (L.length-2))*b ^ (L.length-2)+val b (L.take (L.length-2)):=by
 obtain⟨p,hp⟩:∃ p,L.length=p+2:=⟨L.length-2,by omega⟩
 have e:val b L=val b (L.take (p+1+1)):=by rw[Fu (by omega)]
 rw[cf (by omega),cf (by omega)] at e
 rw[e,hp,FD,show p+2-1=p+1 by omega,show p+2-2=p by omega]
 grind
theorem iY {l:List Nat}{k:Nat} (h:∀ x∈l,x<BB) (hk:k≤l.length):val BB (l.take k)<BB ^ k:=by
 have:=fz BB (l.take k) (fun d hd=>h d (GZ hd))
 rwa [FN,Gd hk] at this
structure jf (lu0 lv:List Nat) (k:Nat) (lu lo:List Nat):Prop where
 len:lu.length=lu0.length
 dig:∀ x∈lu,x<BB
 zero:∀ j,k+lv.length≤j→nth lu j=0
 leno:lo.length+lv.length=lu0.length
 digo:∀ x∈lo,x<BB
 eq:Dg.val BB lu0=Dg.val BB lu+Dg.val BB lv*(BB ^ k*Dg.val BB (lo.drop k))
 lt:Dg.val BB lu<Dg.val BB lv*BB ^ k
structure uv (lu lv:List Nat) (i U low top u2 ulow vt v2 vlow P:Nat):Prop where
 all:Dg.val BB lu=U*BB ^ i+low
 low:low<BB ^ i
 lt:U<Dg.val BB lv*BB
 eqU:U=(top*BB+u2)*P+ulow
 ulow:ulow<P
 eqV:Dg.val BB lv=(vt*BB+v2)*P+vlow
 vlow:vlow<P
theorem Az {lu0 lv lu lo:List Nat}{i:Nat} (h:jf lu0 lv (i+1) lu lo) (hv:∀ x∈lv,x<BB) (h2:2≤lv.length) (hi:i+lv.length<lu.length) :
  uv lu lv i (val BB (lu.drop i)) (val BB (lu.take i)) (nth lu (i+lv.length)*BB+nth lu (i+lv.length-1)) (nth lu (i+lv.length-2)) (val BB ((lu.drop i).take (lv.length-2)))
   (nth lv (lv.length-1)) (nth lv (lv.length-2)) (val BB (lv.take (lv.length-2))) (BB ^ (lv.length-2)):=by
 have e:=fA BB lu i
 rw[Gd (by omega)] at e
 have e':val BB lu=val BB (lu.drop i)*BB ^ i+val BB (lu.take i):=by rw[e,FE];omega
 have e3:=Ch (b:=BB) (L:=lu.drop i) h2 (by rw[FC];omega) (fun j hj=>by rw[iw];exact h.zero _ (by omega))
 rw[iw,iw,iw,show i+(lv.length-1)=i+lv.length-1 by omega,show i+(lv.length-2)=i+lv.length-2 by omega] at e3
 refine⟨e',iY h.dig (by omega),?_,e3,?_,Cg h2,iY hv (by omega)⟩
 ·have h1:=h.lt
  rw[e',FD] at h1
  have h4:val BB (lu.drop i)*BB ^ i<val BB lv*BB*BB ^ i:=by
   have:val BB lv*(BB ^ i*BB)=val BB lv*BB*BB ^ i:=by grind
   omega
  exact GU h4
 ·have hd:∀ x∈lu.drop i,x<BB:=fun x hx=>h.dig x (Gr hx)
  exact iY hd (by rw[FC];omega)
theorem Bj (k:Nat):0<BB ^ k:=GS (by decide)
theorem Ci {lu lv:List Nat}{i U low un u1 u2 ulow vt v2 vlow P:Nat} (h:uv lu lv i U low (un*BB+u1) u2 ulow vt v2 vlow P) (hv2:v2<BB) (_hu1:u1<BB):un≤vt:=by
 have hP:0<P:=by have:=h.vlow;omega
 have h1:un*(BB*BB*P)≤U:=by
  rw[h.eqU]
  have:((un*BB+u1)*BB+u2)*P=un*(BB*BB*P)+(u1*BB+u2)*P:=by grind
  omega
 have h2:val BB lv*BB<(vt+1)*(BB*BB*P):=by
  have e1:val BB lv<(vt+1)*BB*P:=by
   rw[h.eqV]
   have e3:(v2+1)*P≤BB*P:=Fw _ hv2
   have e4:(vt+1)*BB*P=vt*BB*P+BB*P:=by grind
   have e5:(vt*BB+v2)*P=vt*BB*P+v2*P:=by grind
   have e6:(v2+1)*P=v2*P+P:=by grind
   have:=h.vlow
   omega
  have:(vt+1)*(BB*BB*P)=(vt+1)*BB*P*BB:=by grind
  rw[this]
  exact G7 e1 (by decide)
 have h3:=h.lt
 have h4:un*(BB*BB*P)<(vt+1)*(BB*BB*P):=by omega
 have:=GU h4
 omega
structure rN (U V top vt q r:Nat):Prop where
 eq:q*vt+r=top
 hi:U<(q+1)*V
structure mD (U V q:Nat):Prop where
 small:q<BB
 lo:(q-1)*V≤U
 hi:U<(q+1)*V
theorem sI {lu lv:List Nat}{i U low top u2 ulow vt v2 vlow P:Nat} (h:uv lu lv i U low top u2 ulow vt v2 vlow P) (hvt:1≤vt) (hu2:u2<BB) :
  rN U (val BB lv) top vt (top / vt) (top % vt) :=
 ⟨by rw[FE];exact F9 ..,Kn.guess_first h.eqU h.ulow hu2 h.eqV hvt⟩
theorem pF {lu lv:List Nat}{i U low top u2 ulow vt v2 vlow P q r:Nat} (h:uv lu lv i U low top u2 ulow vt v2 vlow P) (hg:rN U (val BB lv) top vt q r)
  (hb:BB≤q∨r*BB+u2<q*v2):1≤q∧rN U (val BB lv) top vt (q-1) (r+vt):=by
 have hq:1≤q:=by
  rcases hb with hb | hb
  ·have:1≤BB:=by decide
   omega
  ·cases q with
   | zero=>simp at hb
   | succ q=>omega
 have h1:=Kn.guess_back h.eqU h.ulow h.eqV h.lt hg.eq hb
 refine⟨hq,?_,?_⟩
 ·rw[←hg.eq]
  obtain⟨p,rfl⟩:∃ p,q=p+1:=⟨q-1,by omega⟩
  rw[Gs,Gi];omega
 ·rw[show q-1+1=q by omega];exact h1
theorem ly {lu lv:List Nat}{i U low un u1 u2 ulow vt v2 vlow P q r:Nat} (h:uv lu lv i U low (un*BB+u1) u2 ulow vt v2 vlow P) (hg:rN U (val BB lv) (un*BB+u1) vt q r)
  (hvt:1≤vt) (hv2:v2<BB) (hu1:u1<BB) (hb:(q<BB∧q*v2≤r*BB+u2)∨BB≤r):mD U (val BB lv) q:=by
 have hq:q<BB∧q*v2≤r*BB+u2:=by
  rcases hb with hb | hb
  ·exact hb
  ·have hun:=Ci h hv2 hu1
   have hq:q<BB:=by
    rcases Gz q BB with hq | hq
    ·exact hq
    ·exfalso
     have h1:=hg.eq
     have h2:BB*vt≤q*vt:=Fw _ hq
     have h3:un*BB≤vt*BB:=Fw _ hun
     rw[FE BB vt] at h2
     omega
   refine⟨hq,?_⟩
   have h1:q*v2≤BB*BB:=Gj (by omega) (by omega)
   have h2:BB*BB≤r*BB:=Fw _ hb
   omega
 exact⟨hq.1,Kn.guess_low h.eqU h.eqV h.vlow hg.eq hq.1 hvt hq.2,hg.hi⟩
structure Sub (lu0 lv:List Nat) (i q k bw:Nat) (lu:List Nat):Prop where
 len:lu.length=lu0.length
 dig:∀ x∈lu,x<BB
 bor:bw≤BB
 val:Dg.val BB lu+q*Dg.val BB (lv.take k)*BB ^ i=Dg.val BB lu0+bw*BB ^ (i+k)
 same:∀ j,i+k≤j→nth lu j=nth lu0 j
theorem zA (lu0 lv:List Nat) (i q:Nat) (h:∀ x∈lu0,x<BB):Sub lu0 lv i q 0 0 lu0:=⟨rfl,h,Fy _,by simp,fun _ _=>rfl⟩
theorem xD {bw q y:Nat} (hb:bw≤BB) (hq:q<BB) (hy:y<BB):bw+q*y≤999999999000000001:=by
 have:q*y≤999999999*999999999:=Gj (by simp only[BB] at hq;omega) (by simp only[BB] at hy;omega)
 simp only[BB] at *;omega
theorem BX {lu0 lv lu:List Nat}{i q k bw c d:Nat} (h:Sub lu0 lv i q k bw lu) (hk:k<lv.length) (hik:i+k<lu0.length) (hq:q<BB) (hv:∀ x∈lv,x<BB)
  (hd:d<BB) (hc:c≤1) (he:d+(bw+q*nth lv k) % BB=nth lu (i+k)+c*BB) :
  Sub lu0 lv i q (k+1) ((bw+q*nth lv k) / BB+c) (lu.set (i+k) d):=by
 have hlen:i+k<lu.length:=by rw[h.len];exact hik
 have hS:=xD h.bor hq (cE hv hk)
 have hpos:0<BB:=by decide
 refine⟨by simp[h.len],cJ h.dig hd,?_,?_,?_⟩
 ·have:(bw+q*nth lv k) / BB<BB:=by
   rw[GN hpos];simp only[BB];omega
  omega
 ·have e1:=gp (b:=BB) (d:=d) hlen
  have e2:=h.val
  have e3:=cf (b:=BB) hk
  have e4:=F9 (bw+q*nth lv k) BB
  rw[e3]
  generalize (bw+q*nth lv k) / BB=p at *
  generalize (bw+q*nth lv k) % BB=r at *
  generalize nth lu (i+k)=o at *
  generalize nth lv k=y at *
  have e5:BB ^ (i+(k+1))=BB*BB ^ (i+k):=by rw[←G2,FD,FE]
  have e6:BB ^ (i+k)=BB ^ i*BB ^ k:=G4 ..
  rw[e5]
  have e7:(BB*p+r)*BB ^ (i+k)=(bw+q*y)*BB ^ (i+k):=by rw[e4]
  have e8:(d+r)*BB ^ (i+k)=(o+c*BB)*BB ^ (i+k):=by rw[he]
  have e9:q*(val BB (lv.take k)+y*BB ^ k)*BB ^ i=q*val BB (lv.take k)*BB ^ i+q*y*BB ^ (i+k):=by rw[e6];grind
  rw[e9]
  have f1:(BB*p+r)*BB ^ (i+k)=p*(BB*BB ^ (i+k))+r*BB ^ (i+k):=by grind
  have f2:(bw+q*y)*BB ^ (i+k)=bw*BB ^ (i+k)+q*y*BB ^ (i+k):=by grind
  have f3:(d+r)*BB ^ (i+k)=d*BB ^ (i+k)+r*BB ^ (i+k):=by grind
  have f4:(o+c*BB)*BB ^ (i+k)=o*BB ^ (i+k)+c*(BB*BB ^ (i+k)):=by grind
  have f5:(p+c)*(BB*BB ^ (i+k))=p*(BB*BB ^ (i+k))+c*(BB*BB ^ (i+k)):=by grind
  omega
 ·intro j hj
  rw[bL (by omega)]
  exact h.same j (by omega)
structure Add (lu0 lv:List Nat) (i k c:Nat) (lu:List Nat):Prop where
 len:lu.length=lu0.length
 dig:∀ x∈lu,x<BB
 car:c≤1
 val:Dg.val BB lu+c*BB ^ (i+k)=Dg.val BB lu0+Dg.val BB (lv.take k)*BB ^ i
 same:∀ j,i+k≤j→nth lu j=nth lu0 j
theorem xY (lu0 lv:List Nat) (i:Nat) (h:∀ x∈lu0,x<BB):Add lu0 lv i 0 0 lu0:=⟨rfl,h,Fy _,by simp,fun _ _=>rfl⟩
theorem zV {lu0 lv lu:List Nat}{i k c:Nat} (h:Add lu0 lv i k c lu) (hk:k<lv.length) (hik:i+k<lu0.length) (hv:∀ x∈lv,x<BB) :
  Add lu0 lv i (k+1) ((c+(nth lu (i+k)+nth lv k)) / BB) (lu.set (i+k) ((c+(nth lu (i+k)+nth lv k)) % BB)):=by
 have hlen:i+k<lu.length:=by rw[h.len];exact hik
 have hu:=cE h.dig hlen
 have hy:=cE hv hk
 have hc:=h.car
 have hpos:0<BB:=by decide
 refine⟨by simp[h.len],cJ h.dig (Gm _ hpos),?_,?_,?_⟩
 ·have:(c+(nth lu (i+k)+nth lv k)) / BB<2:=by rw[GN hpos];omega
  omega
 ·have e1:=gp (b:=BB) (d:=(c+(nth lu (i+k)+nth lv k)) % BB) hlen
  have e2:=h.val
  have e3:=cf (b:=BB) hk
  have e4:=F9 (c+(nth lu (i+k)+nth lv k)) BB
  rw[e3]
  generalize (c+(nth lu (i+k)+nth lv k)) / BB=p at *
  generalize (c+(nth lu (i+k)+nth lv k)) % BB=r at *
  generalize nth lu (i+k)=o at *
  generalize nth lv k=y at *
  have e5:BB ^ (i+(k+1))=BB*BB ^ (i+k):=by rw[←G2,FD,FE]
  have e6:BB ^ (i+k)=BB ^ i*BB ^ k:=G4 ..
  rw[e5]
  have e7:(BB*p+r)*BB ^ (i+k)=(c+(o+y))*BB ^ (i+k):=by rw[e4]
  have e9:(val BB (lv.take k)+y*BB ^ k)*BB ^ i=val BB (lv.take k)*BB ^ i+y*BB ^ (i+k):=by rw[e6];grind
  rw[e9]
  have f1:(BB*p+r)*BB ^ (i+k)=p*(BB*BB ^ (i+k))+r*BB ^ (i+k):=by grind
  have f2:(c+(o+y))*BB ^ (i+k)=c*BB ^ (i+k)+o*BB ^ (i+k)+y*BB ^ (i+k):=by grind
  omega
 ·intro j hj
  rw[bL (by omega)]
  exact h.same j (by omega)
theorem gj {l:List Nat}{k d:Nat} (h:k<l.length):nth (l.set k d) k=d:=by simp[nth,h]
theorem tX {l:List Nat}{k d:Nat}:(l.set k d).take k=l.take k:=by
 apply List.ext_getElem?
 intro j
 simp only[Ia]
 split
 ·rw[List.getElem?_set_ne (by omega)]
 ·rfl
theorem oP {b:Nat}{l:List Nat}{p:Nat} (hp:p<l.length) (hz:∀ j,p+1≤j→nth l j=0):val b l=val b (l.take p)+nth l p*b ^ p:=by
 have e:=fA b l (p+1)
 rw[mr (l:=l.drop (p+1)) (fun j=>by rw[iw];exact hz _ (by omega)),Nat.mul_zero,FU,cf hp] at e
 exact e
theorem DO {lv:List Nat} (hv:∀ x∈lv,x<BB) (i:Nat):val BB lv*BB ^ i≤BB ^ (i+lv.length):=by
 have:=fz BB lv hv
 have h2:val BB lv*BB ^ i≤BB ^ lv.length*BB ^ i:=Fw _ (by omega)
 rw[G4,FE (BB ^ i)];exact h2
theorem xf {lo:List Nat}{i q:Nat} (h:i<lo.length):val BB ((lo.set i q).drop i)=q+BB*val BB (lo.drop (i+1)):=by
 rw[j9 h,dV]
theorem Ax {lu0 lv lu lo lu1:List Nat}{i q bw U low top u2 ulow vt v2 vlow P:Nat} (h:jf lu0 lv (i+1) lu lo) (hw:uv lu lv i U low top u2 ulow vt v2 vlow P)
  (hv:∀ x∈lv,x<BB) (hi:i+lv.length<lu0.length) (hg:mD U (val BB lv) q) (hs:Sub lu lv i q lv.length bw lu1) (ht:bw≤nth lu1 (i+lv.length)) :
  jf lu0 lv i (lu1.set (i+lv.length) (nth lu1 (i+lv.length)-bw)) (lo.set i q):=by
 have hlen1:i+lv.length<lu1.length:=by rw[hs.len,h.len];exact hi
 have hz1:∀ j,i+lv.length+1≤j→nth lu1 j=0:=fun j hj=>by rw[hs.same j (by omega)];exact h.zero j (by omega)
 have e1:=oP (b:=BB) hlen1 hz1
 have e2:=hs.val
 rw[Fu (Fm _),e1,hw.all] at e2
 have R:=Kn.round_fits hw.low e2 hg.hi ht
 have e3:val BB (lu1.set (i+lv.length) (nth lu1 (i+lv.length)-bw))=val BB (lu1.take (i+lv.length))+(nth lu1 (i+lv.length)-bw)*BB ^ (i+lv.length):=by
  have:=gp (b:=BB) (d:=nth lu1 (i+lv.length)-bw) hlen1
  rw[e1] at this
  omega
 have hz:nth lu1 (i+lv.length)-bw=0:=by
  have h1:=R.2
  have h2:=DO hv i
  have h3:(nth lu1 (i+lv.length)-bw)*BB ^ (i+lv.length)<1*BB ^ (i+lv.length):=by omega
  have:=GU h3
  omega
 have hlo:i<lo.length:=by have:=h.leno;omega
 refine⟨by simp[hs.len,h.len],cJ hs.dig (by rw[hz];decide),?_,by simp;exact h.leno,cJ h.digo hg.small,?_,?_⟩
 ·intro j hj
  by_cases hj2:j=i+lv.length
  ·subst hj2;rw[gj hlen1];exact hz
  ·rw[bL hj2];exact hz1 j (by omega)
 ·rw[h.eq,hw.all,e3,xf hlo,←R.1,FD];grind
 ·rw[e3];exact R.2
theorem Av {lu0 lv lu lo lu1 lu3:List Nat}{i q bw c U low top u2 ulow vt v2 vlow P:Nat} (h:jf lu0 lv (i+1) lu lo) (hw:uv lu lv i U low top u2 ulow vt v2 vlow P)
  (hv:∀ x∈lv,x<BB) (hi:i+lv.length<lu0.length) (hg:mD U (val BB lv) q) (hs:Sub lu lv i q lv.length bw lu1) (ht:nth lu1 (i+lv.length)<bw)
  (ha:Add (lu1.set (i+lv.length) (nth lu1 (i+lv.length)+BB-bw)) lv i lv.length c lu3) :
  1≤q∧jf lu0 lv i (lu3.set (i+lv.length) ((nth lu3 (i+lv.length)+c) % BB)) (lo.set i (q-1)):=by
 have hlen1:i+lv.length<lu1.length:=by rw[hs.len,h.len];exact hi
 have hlen3:i+lv.length<lu3.length:=by rw[ha.len,GL];exact hlen1
 have hz1:∀ j,i+lv.length+1≤j→nth lu1 j=0:=fun j hj=>by rw[hs.same j (by omega)];exact h.zero j (by omega)
 have hz3:∀ j,i+lv.length+1≤j→nth lu3 j=0:=fun j hj=>by
  rw[ha.same j (by omega),bL (by omega)];exact hz1 j hj
 have hn3:nth lu3 (i+lv.length)=nth lu1 (i+lv.length)+BB-bw:=by rw[ha.same _ (Fm _),gj hlen1]
 have e1:=oP (b:=BB) hlen1 hz1
 have e2:=hs.val
 rw[Fu (Fm _),e1,hw.all] at e2
 have e3:=oP (b:=BB) hlen3 hz3
 have e4:=gp (b:=BB) (d:=nth lu1 (i+lv.length)+BB-bw) hlen1
 have e5:=ha.val
 rw[Fu (Fm _),e3,hn3] at e5
 have hW:val BB (lu1.take (i+lv.length))<BB ^ (i+lv.length):=iY hs.dig (by omega)
 have hW3:val BB (lu3.take (i+lv.length))<BB ^ (i+lv.length):=iY ha.dig (by omega)
 have hadd:val BB (lu3.take (i+lv.length))+c*BB ^ (i+lv.length)=val BB (lu1.take (i+lv.length))+val BB lv*BB ^ i:=by
  rw[e1] at e4;omega
 have R:=Kn.round_back (b:=BB) hW hW3 (DO hv i) hs.bor e2 hg.lo ht hadd
 have hm:(nth lu3 (i+lv.length)+c) % BB=0:=by rw[hn3,R.2.2.2,Nat.mod_self]
 have e6:val BB (lu3.set (i+lv.length) ((nth lu3 (i+lv.length)+c) % BB))=val BB (lu3.take (i+lv.length)):=by
  have:=gp (b:=BB) (d:=(nth lu3 (i+lv.length)+c) % BB) hlen3
  rw[e3,hm] at this
  rw[hm]
  omega
 have hlo:i<lo.length:=by have:=h.leno;omega
 have hq:=hg.small
 refine⟨R.1,by simp[ha.len,hs.len,h.len],cJ ha.dig (by rw[hm];decide),?_,by simp;exact h.leno,cJ h.digo (by omega),?_,?_⟩
 ·intro j hj
  by_cases hj2:j=i+lv.length
  ·subst hj2;rw[gj hlen3];exact hm
  ·rw[bL hj2];exact hz3 j (by omega)
 ·rw[h.eq,hw.all,e6,xf hlo,←R.2.1,FD];grind
 ·rw[e6];exact R.2.2.1
open Go.RowKit Dg
theorem IsU.box (w:World) (z:Int) (d:Nat) (hz:z=d):IsU (w.alloc (.cells #[.int .u64 z] 193)) (.slice (some ⟨w.heap.size,0,none⟩) 1 1) [d]:=by
 subst hz
 refine⟨some ⟨w.heap.size,0,none⟩,1,rfl,by simp,by simp[maxLen],fun _=>⟨w.heap.size,0,rfl,by simp,fun j hj=>?_⟩⟩
 have:j=0:=by simp at hj;exact hj
 subst this
 exact fC w d 0 _ rfl
theorem IsU.drewN {w:World}{v:Value}{l:List Nat} (h:IsU w v l) (n:Nat):IsU (w.drewN n) v l:=h
theorem yW (z:Int) (n:Nat) (w:World) (hz:z=n) (hn:n<18446744073709551616) :
  Calls Tryz.prog 190 #[.int .u64 z] w fun e w'=>∃ v,e=.returned v∧eN w' w.heap.size v (aq BB n)∧Below w.heap.size w w':=by
 subst hz;exact jv n w hn
theorem b_ (n:Nat):CB (aq BB n):=jp aP n
theorem yY {m:List Nat} (hm:CB m) (h1:m.length=1):0<nth m 0∧nth m 0<1000000000∧val BB m=nth m 0:=by
 match m,h1 with
 | [d],_ =>
  have h2:=hm.2 (by simp)
  have h3:=hm.1 d (by simp)
  simp[nth] at *
  exact⟨by omega,h3⟩
theorem j7 {l m:List Nat} (hl:CB l) (hm:CB m) (h:val BB m≤val BB l):m.length≤l.length:=by
 rcases Gz l.length m.length with hh | hh
 ·have:=ck aP hl hm hh;omega
 ·exact hh
/-- a is less than b -/
theorem y8 (va vb:Value) (l m:List Nat) (w:World) (ha:IsU w va l) (hb:IsU w vb m) (hl:CB l) (hm:CB m) (hlt:val BB l<val BB m) :
  Calls Tryz.prog 193 #[va,vb] w fun e w'=>∃ vq vr,e=.returned (.tuple #[vq,vr])∧IsU w' vq (aq BB (val BB l / val BB m))∧IsU w' vr (aq BB (val BB l % val BB m))∧Below w.heap.size w w':=by
 have hc:c_ (val BB l) (val BB m)<0:=by simp[c_,hlt]
 have H:=Ff hlt
 clear hlt
 go_enter Tryz.func193,Tryz.ntmps193
 go_wp2_with (go_at_call 233;refine (gX _ _ l m _ ha hb hl hm).mono ?_;rintro e w' ⟨rfl,n,rfl⟩)
 go_ret2
 refine⟨_,_,rfl,?_,?_,below_drewN (Below.refl _ _) _⟩
 ·rw[GF H.out,bU];exact⟨none,0,rfl,by simp,by simp[maxLen],fun h=>by simp at h⟩
 ·rw[G3 H.out,jq aP hl];exact ha
/-- b has one digit -/
theorem Bd (va vb:Value) (l m:List Nat) (w:World) (ha:IsU w va l) (hb:IsU w vb m) (hl:CB l) (hm:CB m) (hll:l.length<1000000) (h1:m.length=1) (hge:val BB m≤val BB l) :
  Calls Tryz.prog 193 #[va,vb] w fun e w'=>∃ vq vr,e=.returned (.tuple #[vq,vr])∧IsU w' vq (aq BB (val BB l / val BB m))∧IsU w' vr (aq BB (val BB l % val BB m))∧Below w.heap.size w w':=by
 have hc:¬ c_ (val BB l) (val BB m)<0:=by simp only[c_];split<;>(try split)<;>omega
 have hb':=hb
 obtain⟨p,cap,rfl,hlc,hcm,hcell⟩:=hb'
 obtain⟨b,o,rfl,hbw,hcl⟩:=hcell (by omega)
 have hc0:w.cell? ⟨b,o,none⟩=some (.int .u64 (nth m 0)):=hcl 0 (by omega)
 have h1':((m.length:Int) == 1)=true:=by simp[h1]
 have hd:=yY hm h1
 have hd0:=hd.1
 have hd1:=hd.2.1
 have HD:=Ff hd.2.2
 clear hd hcl hcell hge
 have H1:=Ff h1
 clear h1
 have hpos:(0:Int)<m.length:=by have:=H1.out;omega
 have hmod:=Gm (val BB l) hd0
 go_enter Tryz.func193,Tryz.ntmps193
 go_wp2_with (first | (go_at_call 233;refine (gX _ _ l m _ ha hb hl hm).mono ?_;rintro e w' ⟨rfl,n,rfl⟩) | (go_at_call 234;refine (qg _ l (nth m 0) _ (IsU.drewN ha _) hl.1 hll hd0 (by omega)).mono ?_;rintro e w1 ⟨g,cap1,rfl,hg,hr,hb1⟩) | (go_at_call 190;refine (yW _ (val BB l % nth m 0) _ (by go_num) (by omega)).mono ?_;rintro e w2 ⟨v2,rfl,ho2,hb2⟩))
 go_ret2
 refine⟨_,_,rfl,?_,?_,?_⟩
 ·rw[HD.out];exact hr.isU.below hb2
 ·rw[HD.out];exact eN.isU ho2
 ·exact (below_drewN (Below.refl _ _) _).trans (Below.trans hb1 (hb2.mono hb1.size))
theorem IsU.drew {w:World}{v:Value}{l:List Nat} (h:IsU w v l):IsU w.drew v l:=h
theorem cP.other {w:World}{g cap:Nat}{l:List Nat} (h:cP w g cap l) {a:Addr} (ha:g≠a.block) (u:Value):cP (w.setCell a u) g cap l :=
 ownsRow_setCell_other h (by simp[Value.ownBlock];exact ha) u
theorem cP.kept {w w':World}{g cap:Nat}{l:List Nat} (h:cP w g cap l) (hk:w'.heap[g]?=w.heap[g]?):cP w' g cap l:=by
 obtain⟨h1,h2⟩:=h
 refine⟨h1,?_⟩
 rcases h2 with h2 | ⟨g',cap',cur,e,hg,hh,r⟩
 ·exact Or.inl h2
 ·have:g'=g:=by simp at e;exact e.1.symm
  subst this
  exact Or.inr ⟨g',cap',cur,e,hg,by rw[hk];exact hh,r⟩
structure Mem (w0 wr:World) (gs gu gv go s cu cv co:Nat) (lu lv lo:List Nat):Prop where
 o1:w0.heap.size≤gs
 o2:gs<gu
 o3:gu<gv
 o4:gv<go
 sc:wr.cell? ⟨gs,0,none⟩=some (.int .u64 s)
 ru:cP wr gu cu lu
 rv:cP wr gv cv lv
 ro:cP wr go co lo
 bl:Below w0.heap.size w0 wr
theorem Mem.setU {w0 wr:World}{gs gu gv go s cu cv co:Nat}{lu lv lo:List Nat} (h:Mem w0 wr gs gu gv go s cu cv co lu lv lo) (j d:Nat) (z:Int) (hz:z=d) :
  Mem w0 (wr.setCell ⟨gu,j,none⟩ (.int .u64 z)) gs gu gv go s cu cv co (lu.set j d) lv lo:=by
 have:=h.o1;have:=h.o2;have:=h.o3;have:=h.o4
 refine⟨h.o1,h.o2,h.o3,h.o4,?_,h.ru.set j d z hz,h.rv.other (by show gv≠gu;omega) _,h.ro.other (by show go≠gu;omega) _,h.bl.setCell (p:=⟨gu,j,none⟩) (by show w0.heap.size≤gu;omega) _⟩
 rw[World.cell?_setCell_other _ _ _ _ (by simp<;>omega)];exact h.sc
theorem Mem.setO {w0 wr:World}{gs gu gv go s cu cv co:Nat}{lu lv lo:List Nat} (h:Mem w0 wr gs gu gv go s cu cv co lu lv lo) (j d:Nat) (z:Int) (hz:z=d) :
  Mem w0 (wr.setCell ⟨go,j,none⟩ (.int .u64 z)) gs gu gv go s cu cv co lu lv (lo.set j d):=by
 have:=h.o1;have:=h.o2;have:=h.o3;have:=h.o4
 refine⟨h.o1,h.o2,h.o3,h.o4,?_,h.ru.other (by show gu≠go;omega) _,h.rv.other (by show gv≠go;omega) _,h.ro.set j d z hz,h.bl.setCell (p:=⟨go,j,none⟩) (by show w0.heap.size≤go;omega) _⟩
 rw[World.cell?_setCell_other _ _ _ _ (by simp<;>omega)];exact h.sc
theorem Mem.drewN {w0 wr:World}{gs gu gv go s cu cv co:Nat}{lu lv lo:List Nat} (h:Mem w0 wr gs gu gv go s cu cv co lu lv lo) (n:Nat) :
  Mem w0 (wr.drewN n) gs gu gv go s cu cv co lu lv lo:=⟨h.o1,h.o2,h.o3,h.o4,h.sc,h.ru,h.rv,h.ro,below_drewN h.bl n⟩
theorem kx {w:World}{ops:Array Oper}{rest:List Oper}{o:Oper}{a:Act}{Q:Exit→Act→World→Prop} (T:TypeId)
  (hT:Tryz.prog.underlying T=some (.slice 193)) (hgd:o.guard=none) (s x:Operand)
  (ho:o.op=.call { callee:=.builtin .append,args:=#[s,x],argTypes:=#[T,T] })
  (g N cap:Nat) (l:List Nat) (z:Int) (d:Nat) (hz:z=d) (hs:a.eval s=.slice (some ⟨g,0,none⟩) N cap) (hN:N=l.length) (hown:cP w g cap l)
  (hx:a.eval x=.slice (some ⟨w.heap.size,0,none⟩) 1 1) (hlen:l.length<cap)
  (h:∀ w',cP w' g cap (l++[d])→(∀ B w0,Below B w0 w→B≤g→Below B w0 w')→(∀ b o,b<w.heap.size→b≠g→w'.heap[b]?=w.heap[b]?∧w'.cell? ⟨b,o,none⟩=w.cell? ⟨b,o,none⟩)→w.heap.size≤w'.heap.size →
   wpList Tryz.prog ops Q rest (a.put o.dst (.slice (some ⟨g,0,none⟩) (N+1) cap)) w') :
  wpList Tryz.prog ops Q (o :: rest) a (w.alloc (.cells #[.int .u64 z] 193)):=by
 subst hz hN
 obtain⟨i0,hi,hz0,hz1,hz2⟩:=info_parts Tryz.info193
 refine wpList_append_fits _ hgd s x T ho g 193 i0 1 hT hi hz1 g l.length cap (fX l) hs (World.ownsRow.alloc hown _) ⟨w.heap.size,0,none⟩ 1 1 [.int .u64 d] hx rfl ?_ ?_ (by omega) ?_
 ·exact fC w d
 ·intro u hu;simp at hu;subst hu;rfl
 ·intro w' hown' hg
  have hsz:=hg.size
  simp at hsz
  refine h w' ?_ ?_ ?_ (by omega)
  ·unfold cP
   have:fX (l++[d])=fX l++[.int .u64 d]:=by rw[mp];rfl
   rw[this,Fv];exact hown'
  ·intro B w0 hb hB
   have:=hown.lt
   exact (hb.alloc (by omega) _).grown hg (by simp;omega) (fun k hk=>by cases hk;exact hB)
  ·intro b o hb hbg
   have h1:=hg.block b (by simp;omega) (by simp;exact hbg)
   have h2:=Below.heap_alloc w (.cells #[.int .u64 (d:Int)] 193) b hb
   have h3:w'.heap[b]?=w.heap[b]?:=h1.trans h2
   exact⟨h3,World.cell?_of_block h3⟩
theorem o_ {m:List Nat}{s:Nat} (hm:CB m) (hne:m≠[]) (hs:1≤s) (hs2:s*(nth m (m.length-1)+1)≤BB):(aq BB (val BB m*s)).length=m.length:=by
 have hpos:0<m.length:=FK.2 hne
 have h1:val BB m<(nth m (m.length-1)+1)*BB ^ (m.length-1):=by
  have e:val BB m=val BB (m.take (m.length-1+1)):=by rw[Fu (by omega)]
  rw[cf (by omega)] at e
  have:=iY hm.1 (k:=m.length-1) (by omega)
  rw[Gi,e];omega
 have h2:val BB m*s<BB ^ m.length:=by
  have h3:val BB m*s<(nth m (m.length-1)+1)*BB ^ (m.length-1)*s:=G7 h1 hs
  have h4:s*(nth m (m.length-1)+1)*BB ^ (m.length-1)≤BB*BB ^ (m.length-1):=Fw _ hs2
  have e:(nth m (m.length-1)+1)*BB ^ (m.length-1)*s=s*(nth m (m.length-1)+1)*BB ^ (m.length-1):=by grind
  have e2:BB ^ m.length=BB*BB ^ (m.length-1):=by
   obtain⟨p,hp⟩:∃ p,m.length=p+1:=⟨m.length-1,by omega⟩
   rw[hp,Gs,FD,FE]
  omega
 have h5:=aT aP h2
 have h6:BB ^ (m.length-1)≤val BB m*s:=by
  have:=eB hm hne
  have h7:val BB m*1≤val BB m*s:=FM _ hs
  omega
 have h8:=bH aP (val BB m*s)
 have h9:BB ^ (m.length-1)<BB ^ (aq BB (val BB m*s)).length:=by omega
 have:=(Nat.pow_lt_pow_iff_right (show 1<BB by decide)).1 h9
 omega
theorem BN {l:List Nat}{s:Nat} (hl:CB l) (hs:s<BB):(aq BB (val BB l*s)).length≤l.length+1:=by
 have h1:=fz BB l hl.1
 refine aT aP ?_
 rw[FD]
 have:(val BB l+1)*s≤BB ^ l.length*s:=Fw _ h1
 rw[Gi] at this
 have h2:BB ^ l.length*(s+1)≤BB ^ l.length*BB:=FM _ hs
 rw[Im] at h2
 have h3:=Bj l.length
 omega
def mX (n:Nat) (lu:List Nat):Prop:=val BB lu=n∧∀ x∈lu,x<BB
theorem rh (n:Nat):mX n (aq BB n):=⟨ay aP n,(jp aP n).1⟩
theorem tg {n:Nat}{lu:List Nat} (h:mX n lu):mX n (lu++[0]):=by
 refine⟨by rw[dW,Nat.mul_zero,FU];exact h.1,fun x hx=>?_⟩
 rcases F8.1 hx with hx | hx
 ·exact h.2 x hx
 ·simp at hx;subst hx;decide
theorem yA {l m lu:List Nat}{s:Nat} (hl:CB l) (hm:CB m) (hne:m≠[]) (hs:1≤s) (hge:val BB m≤val BB l)
  (hv:(aq BB (val BB m*s)).length=m.length) (hu:mX (val BB l*s) lu) (hlen:lu.length=l.length+1) :
  jf lu (aq BB (val BB m*s)) (l.length+1-m.length) lu (List.replicate (l.length+1-m.length) 0):=by
 have hml:=j7 hl hm hge
 refine⟨rfl,hu.2,?_,?_,?_,?_,?_⟩
 ·intro j hj
  rw[hv] at hj
  simp[nth,GM (show lu.length≤j by omega)]
 ·rw[Ha,hv,hlen];omega
 ·intro x hx;rw[GP hx];decide
 ·rw[Gh (by simp)];simp
 ·rw[hu.1,ay aP]
  have h1:=fz BB l hl.1
  have h2:=eB hm hne
  have hpos:0<m.length:=FK.2 hne
  have e:BB ^ l.length=BB ^ (m.length-1)*BB ^ (l.length+1-m.length):=by rw[←G4];congr 1;omega
  have h3:BB ^ (m.length-1)*BB ^ (l.length+1-m.length)≤val BB m*BB ^ (l.length+1-m.length):=Fw _ h2
  have h4:val BB l*s<val BB m*BB ^ (l.length+1-m.length)*s:=G7 (by omega) hs
  have e2:val BB m*s*BB ^ (l.length+1-m.length)=val BB m*BB ^ (l.length+1-m.length)*s:=by grind
  omega
theorem CK {a b s:Nat}{lu0 lv lu lo:List Nat} (h:jf lu0 lv 0 lu lo) (hu:val BB lu0=a*s) (hv:val BB lv=b*s) (hs:1≤s) :
  val BB lo=a / b∧val BB lu=(a % b)*s:=by
 have e:=h.eq
 have hlt:=h.lt
 simp only[Nat.pow_zero,Hk,Fr,GA] at e hlt
 rw[hu,hv] at e
 rw[hv] at hlt
 have hb:0<b:=by
  cases b with
  | zero=>simp at hlt
  | succ b=>omega
 have hdvd:val BB lu=(a-b*val BB lo)*s:=by
  rw[Nat.sub_mul]
  have:b*s*val BB lo=b*val BB lo*s:=by grind
  omega
 rw[hdvd] at hlt
 have h1:=GU hlt
 have h2:b*val BB lo≤a:=by
  have h3:b*val BB lo*s≤a*s:=by
   have:b*s*val BB lo=b*val BB lo*s:=by grind
   omega
  exact Nat.le_of_mul_le_mul_right h3 hs
 have h4:a / b=val BB lo:=by
  have:a=(a-b*val BB lo)+b*val BB lo:=by omega
  rw[this,Iw _ _ hb,GF h1,Gl]
 have h5:a % b=a-b*val BB lo:=by
  have:=F9 a b
  rw[h4] at this;omega
 rw[h4,h5]
 exact⟨rfl,hdvd⟩
end Go.Proofs.YtbnkpcfjechfiaaGreatDoor
