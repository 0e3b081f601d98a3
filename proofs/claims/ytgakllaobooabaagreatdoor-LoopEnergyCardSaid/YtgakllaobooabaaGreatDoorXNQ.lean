/- L -/
import Derived.Test.YtgakllaobooabaaGreatDoorXNRat3
import Derived.Test.YtgakllaobooabaaGreatDoorXNVal6
import Derived.Test.YtgakllaobooabaaGreatDoorXB
set_option linter.all false
set_option maxRecDepth 100000
set_option maxHeartbeats 8000000
namespace Go.Proofs.YtgakllaobooabaaGreatDoor
open Dg
def rt (q:Rat):Rt:=⟨decide (q.num<0),q.num.natAbs,q.den⟩
def sgz (m:Bool) (n:Nat):Int:=if m then -(n:Int) else n
theorem dl (q:Rat):0<(rt q).d:=q.den_pos
theorem lx (q:Rat):sgz (rt q).minus (rt q).n=q.num:=by
 unfold rt sgz;by_cases h:q.num<0
 ·simp[h];omega
 ·simp[h];omega
theorem sC (m:Bool) (n:Nat):(sgz m n).natAbs=n:=by unfold sgz;cases m<;>simp
theorem yy (m:Bool) (n k:Nat) (h:k ∣ n):sgz m n / (k:Int)=sgz m (n / k):=by
 unfold sgz
 cases m
 ·simp
 ·simp only[if_true];rw[Int.neg_ediv_of_dvd (Int.natCast_dvd_natCast.2 h)];simp
theorem yA (m k:Bool) (x y:Nat):sgz (m != k) (x*y)=sgz m x*sgz k y:=by
 cases m<;>cases k<;>simp[sgz,Cm,Int.neg_mul,Int.mul_neg]
theorem j2 (m:Bool) (x y:Nat):sgz m (x*y)=sgz m x*y:=by
 cases m<;>simp[sgz,Cm,Int.neg_mul]
theorem ky (m:Bool) (n d:Nat) (h:0<d):cT m n d=rt (mkRat (sgz m n) d):=by
 have e:d.gcd (sgz m n).natAbs=Nat.gcd n d:=by rw[sC,Nat.gcd_comm]
 unfold cT rt;by_cases hn:n=0
 ·subst hn;have h0:sgz m 0=0:=by cases m<;>rfl
  rw[if_pos rfl,h0,Rat.zero_mkRat];rfl
 ·rw[if_neg hn];have hg:0<Nat.gcd n d:=Ci _ h
  have h1:(mkRat (sgz m n) d).num=sgz m (n / Nat.gcd n d):=by
   rw[Rat.num_mkRat,if_neg (by omega),e,yy _ _ _ (Dh n d)]
  have h2:(mkRat (sgz m n) d).den=d / Nat.gcd n d:=by rw[Rat.den_mkRat,if_neg (by omega),e]
  rw[h1,h2,sC];have h3:0<n / Nat.gcd n d:=Dq (Nat.gcd_le_left _ (by omega)) hg;congr 1;generalize n / Nat.gcd n d=x at h3
  cases m<;>simp[sgz]<;>omega
theorem yx (ma:Bool) (x:Nat) (mb:Bool) (y:Nat):sgz (kH ma x mb y).1 (kH ma x mb y).2=sgz ma x+sgz mb y:=by
 unfold kH
 cases ma<;>cases mb<;>simp only[if_true,if_false,AU,reduceCtorEq]<;>(try split)<;>simp[sgz]<;>omega
theorem fI (a b:Rat):bZ (rt a) (rt b)=rt (a+b):=by
 unfold bZ;rw[ky _ _ _ (AN (dl a) (dl b)),Rat.add_def',yx,j2,j2,lx,lx];rfl
theorem fZ (a b:Rat):bt (rt a) (rt b)=rt (a*b):=by
 unfold bt;rw[ky _ _ _ (AN (dl a) (dl b)),Rat.mul_def',yA,lx,lx];rfl
theorem jl (a:Rat):dy (rt a)=rt (-a):=by
 unfold dy rt;simp only[Rat.neg_num,Rat.neg_den,Int.natAbs_neg];congr 1;rw[Bool.eq_iff_iff];simp only[AV,Bool.not_eq_true',decide_eq_false_iff_not,decide_eq_true_eq];omega
def vH (r:Rt):Rt:=⟨r.minus,r.d,r.n⟩
theorem x8 {a:Rat} (h:a≠0):vH (rt a)=rt a⁻¹:=by
 have h0:a.num≠0:=fun h'=>h (Rat.num_eq_zero.1 h');unfold vH rt;simp only[Rat.num_inv,Rat.den_inv,if_neg h0];have hd:(0:Int)<a.den:=by exact_mod_cast a.den_pos
 rcases Int.lt_or_lt_of_ne h0 with h1 | h1
 ·rw[Int.sign_eq_neg_one_of_neg h1];simp[h1];omega
 ·rw[Int.sign_eq_one_of_pos h1];simp;omega
theorem aP (a:Rat):(rt a).n=0↔a=0:=by unfold rt;simp[Rat.num_eq_zero]
theorem nK (a:Rat):(rt a).minus=true↔a<0:=by
 unfold rt;simp[Rat.lt_iff]
def gy (a b:Rat):Int:=if a=b then 0 else if a<b then -1 else 1
theorem nj (a b:Rat):xR (rt a) (rt b)=gy a b:=by
 unfold xR gy;rw[jl,fI];have e1:(rt (a+-b)).n=0↔a=b:=by rw[aP];constructor<;>intro h<;>grind
 have e2:(rt (a+-b)).minus=true↔a<b:=by rw[nK];constructor<;>intro h<;>grind
 by_cases h1:a=b
 ·rw[if_pos (e1.2 h1),if_pos h1]
 ·rw[if_neg (fun h=>h1 (e1.1 h)),if_neg h1];by_cases h2:a<b
  ·rw[if_pos (e2.2 h2),if_pos h2]
  ·rw[if_neg (fun h=>h2 (e2.1 h)),if_neg h2]
structure Sz (k:Nat) (r:Rt):Prop where
 n:r.n<10 ^ k
 p:0<r.d
 d:r.d<10 ^ k
theorem Sz.mono {k l:Nat}{r:Rt} (h:Sz k r) (hk:k<=l):Sz l r :=
 have:=AW (n:=10) (by decide) hk
 ⟨AD h.n this,h.p,AD h.d this⟩
theorem kQ {n k:Nat} (h:n<10 ^ k) (hk:k<=800000):Few n:=by
 unfold Few;refine AZ (bh (k:=k / 9+1) aw (AD h ?_)) (by omega);have e:BB ^ (k / 9+1)=10 ^ (9*(k / 9+1)):=by rw[BW];rfl
 rw[e];exact AW (by decide) (by omega)
theorem dO {a b k l:Nat} (h:a<10 ^ k) (h':b<10 ^ l):a*b<10 ^ (k+l):=by
 rw[BC];rcases BJ b with rfl | hb
 ·exact AN (Bh (by decide)) (Bh (by decide))
 ·exact AD (B9 h hb) (AQ _ (Cy h'))
theorem wO (m:Bool) (n d:Nat):(cT m n d).n<=n:=by
 unfold cT
 split
 ·exact AI _
 ·exact CI _ _
theorem wM (m:Bool) (n d:Nat) (h:0<d):(cT m n d).d<=d:=by
 unfold cT
 split
 ·exact h
 ·exact CI _ _
theorem Sz.mul {k l:Nat}{r s:Rt} (h:Sz k r) (h':Sz l s):Sz (k+l) (bt r s) :=
 have hp:=AN h.p h'.p
 ⟨AZ (wO _ _ _) (dO h.n h'.n),jr hp,AZ (wM _ _ _ hp) (dO h.d h'.d)⟩
theorem rJ {a b k l:Nat} (h:a<10 ^ (k+l)) (h':b<10 ^ (l+k)):a+b<10 ^ (k+l+1):=by
 rw[CZ l k] at h';have:=AS (n:=10) (m:=k+l);omega
theorem Sz.plus {k l:Nat}{r s:Rt} (h:Sz k r) (h':Sz l s):Sz (k+l+1) (bZ r s):=by
 have hp:=AN h.p h'.p;have h1:=dO h.n h'.d;have h2:=dO h'.n h.d;refine⟨AZ (wO _ _ _) (AZ (rI _ _ _ _) (rJ h1 h2)),jr hp,AZ (wM _ _ _ hp) (AD (dO h.d h'.d) (AW (by decide) (by omega)))⟩
theorem Sz.neg {k:Nat}{r:Rt} (h:Sz k r):Sz k (dy r):=⟨h.n,h.p,h.d⟩
theorem Sz.inv {k:Nat}{r:Rt} (h:Sz k r) (h0:0<r.n):Sz k (vH r):=⟨h.d,h0,h.n⟩
theorem Sz.zero {k:Nat} (h:1<=k):Sz k ⟨false,0,1⟩ :=
 have:10 ^ 1<=10 ^ k:=AW (by decide) h
 ⟨by show 0<10 ^ k;omega,Nat.one_pos,by show 1<10 ^ k;omega⟩
open Go.RowKit Dg
theorem Sz.fewR {k l:Nat}{r s:Rt} (h:Sz k r) (h':Sz l s) (hk:k+l+1<=800000):qj r s :=
 have h1:=dO h.n h'.d;have h2:=dO h'.n h.d
 ⟨h.p,h'.p,kQ h1 (by omega),kQ h2 (by omega),kQ (rJ h1 h2) hk,kQ (dO h.d h'.d) (by omega)⟩
theorem Sz.fewM {k l:Nat}{r s:Rt} (h:Sz k r) (h':Sz l s) (hk:k+l<=800000):ux r s :=
 ⟨h.p,h'.p,kQ (dO h.n h'.n) hk,kQ (dO h.d h'.d) hk⟩
structure SzV (k:Nat) (z:Vl):Prop where
 x:Sz k z.x
 y:Sz k z.y
theorem SzV.mono {k l:Nat}{z:Vl} (h:SzV k z) (hk:k<=l):SzV l z:=⟨h.x.mono hk,h.y.mono hk⟩
theorem SzV.plus {k l:Nat}{u v:Vl} (h:SzV k u) (h':SzV l v):SzV (k+l+1) (lk u v):=⟨h.x.plus h'.x,h.y.plus h'.y⟩
theorem SzV.neg {k:Nat}{u:Vl} (h:SzV k u):SzV k (po u):=⟨h.x.neg,h.y.neg⟩
theorem SzV.conj {k:Nat}{u:Vl} (h:SzV k u):SzV k (l7 u):=⟨h.x,h.y.neg⟩
theorem SzV.plain {k:Nat}{r:Rt} (h:Sz k r) (hk:1<=k):SzV k (f9 r):=⟨h,.zero hk⟩
theorem SzV.times {k l:Nat}{u v:Vl} (h:SzV k u) (h':SzV l v):SzV (2*(k+l)+1) (dG u v):=by
 unfold dG
 split
 ·exact⟨(h.x.mul h'.x).mono (by omega),.zero (by omega)⟩
 ·exact⟨((h.x.mul h'.x).plus (h.y.mul h'.y).neg).mono (by omega),((h.x.mul h'.y).plus (h.y.mul h'.x)).mono (by omega)⟩
theorem SzV.fewV {k l:Nat}{u v:Vl} (h:SzV k u) (h':SzV l v) (hk:2*(k+l)+1<=800000):FewV u v :=
 ⟨h.x.fewM h'.x (by omega),h.y.fewM h'.y (by omega),h.x.fewM h'.y (by omega),h.y.fewM h'.x (by omega),(h.x.mul h'.x).fewR (h.y.mul h'.y).neg (by omega),(h.x.mul h'.y).fewR (h.y.mul h'.x) (by omega)⟩
def jY (u:Vl):Rt:=bZ (bt u.x u.x) (bt u.y u.y)
theorem SzV.norm {k:Nat}{u:Vl} (h:SzV k u):Sz (4*k+1) (jY u):=((h.x.mul h.x).plus (h.y.mul h.y)).mono (by omega)
def vW (u v:Vl):Vl:=dG (dG u (l7 v)) (f9 (vH (jY v)))
structure CQ where
 re:Rat
 im:Rat
deriving DecidableEq
def ct (z:CQ):Vl:=⟨rt z.re,rt z.im⟩
def CQ.real (q:Rat):CQ:=⟨q,0⟩
def CQ.add (a b:CQ):CQ:=⟨a.re+b.re,a.im+b.im⟩
def CQ.neg (a:CQ):CQ:=⟨-a.re,-a.im⟩
def CQ.sub (a b:CQ):CQ:=⟨a.re-b.re,a.im-b.im⟩
def CQ.mul (a b:CQ):CQ:=⟨a.re*b.re-a.im*b.im,a.re*b.im+a.im*b.re⟩
def CQ.norm (a:CQ):Rat:=a.re*a.re+a.im*a.im
def CQ.div (a b:CQ):CQ:=⟨(a.re*b.re+a.im*b.im)*b.norm⁻¹,(a.im*b.re-a.re*b.im)*b.norm⁻¹⟩
def CQ.conj (a:CQ):CQ:=⟨a.re,-a.im⟩
theorem dQ:rt 0=⟨false,0,1⟩:=rfl
theorem bO (q:Rat):f9 (rt q)=ct (CQ.real q):=by unfold f9 ct CQ.real;rw[dQ]
theorem cW (a b:CQ):lk (ct a) (ct b)=ct (a.add b):=by unfold lk ct CQ.add;rw[fI,fI]
theorem si (a:CQ):po (ct a)=ct a.neg:=by unfold po ct CQ.neg;rw[jl,jl]
theorem uX (a:CQ):l7 (ct a)=ct a.conj:=by unfold l7 ct CQ.conj;rw[jl]
theorem ld (a b:CQ):sb (ct a) (ct b)=ct (a.sub b):=by
 unfold sb;rw[si,cW];unfold CQ.add CQ.neg CQ.sub;rw[Rat.sub_eq_add_neg,Rat.sub_eq_add_neg]
theorem a6 (a b:CQ):dG (ct a) (ct b)=ct (a.mul b):=by
 unfold dG
 split
 ·rename_i h
  have h1:a.im=0:=(aP _).1 h.1;have h2:b.im=0:=(aP _).1 h.2
  show f9 (bt (rt a.re) (rt b.re))=_
  rw[fZ,bO];unfold CQ.real CQ.mul;rw[h1,h2];congr 1<;>grind
 ·show (⟨bZ (bt (rt a.re) (rt b.re)) (dy (bt (rt a.im) (rt b.im))),bZ (bt (rt a.re) (rt b.im)) (bt (rt a.im) (rt b.re))⟩:Vl)=_
  rw[fZ,fZ,fZ,fZ,jl,fI,fI];unfold ct CQ.mul;rw[Rat.sub_eq_add_neg]
theorem lg (a:CQ):jY (ct a)=rt a.norm:=by
 show bZ (bt (rt a.re) (rt a.re)) (bt (rt a.im) (rt a.im))=_
 rw[fZ,fZ,fI];rfl
theorem jI {a:CQ} (h:a.norm=0):a=⟨0,0⟩:=by
 obtain⟨x,y⟩:=a;unfold CQ.norm at h;simp only at h
 have h1:0<=x*x:=by
  rcases Rat.le_total (a:=0) (b:=x) with h | h
  ·exact Rat.mul_nonneg h h
  ·have:=Rat.mul_nonneg (a:=-x) (b:=-x) (by grind) (by grind);grind
 have h2:0<=y*y:=by
  rcases Rat.le_total (a:=0) (b:=y) with h | h
  ·exact Rat.mul_nonneg h h
  ·have:=Rat.mul_nonneg (a:=-y) (b:=-y) (by grind) (by grind);grind
 have h3:x*x=0:=by grind
 have h4:y*y=0:=by grind
 rcases Rat.mul_eq_zero.1 h3 with h5 | h5<;>rcases Rat.mul_eq_zero.1 h4 with h6 | h6<;>rw[h5,h6]
theorem gQ {a b:CQ} (h:b≠⟨0,0⟩):vW (ct a) (ct b)=ct (a.div b):=by
 have h0:b.norm≠0:=fun h'=>h (jI h');unfold vW;rw[uX,a6,lg,x8 h0,bO,a6];congr 1;unfold CQ.real CQ.mul CQ.conj CQ.div;congr 1<;>grind
structure IsK (w:World) (v:Value) (z:CQ):Prop where
 v:IsV w v (ct z)
 s:SzV 10000 (ct z)
theorem IsK.below {w w':World}{v:Value}{z:CQ} (h:IsK w v z) (hb:Below w.heap.size w w'):IsK w' v z:=⟨h.v.below hb,h.s⟩
def qg (w:World) (a b c d e f a' b' c' d' e' f':Value):World:=((w.alloc (.cells #[a,b,c,d,e,f] 65)).alloc (.cells #[a',b',c',d',e',f'] 65)).alloc (.cells #[.bool false,.slice none 0 0,.slice none 0 0,.bool false,.slice none 0 0,.slice none 0 0] 65)
theorem qG (w:World) (a b c d e f a' b' c' d' e' f':Value):aW (qg w a b c d e f a' b' c' d' e' f') w.heap.size a b c d e f/\aW (qg w a b c d e f a' b' c' d' e' f') (w.heap.size+1) a' b' c' d' e' f' /\
  bm (qg w a b c d e f a' b' c' d' e' f') (w.heap.size+1+1) (.bool false) (.slice none 0 0) (.slice none 0 0) (.bool false) (.slice none 0 0) (.slice none 0 0)/\Below w.heap.size w (qg w a b c d e f a' b' c' d' e' f'):=by
 unfold qg;have q1:=aW.new w a b c d e f 65;have m1:=ac w (.cells #[a,b,c,d,e,f] 65);have z1:=size_alloc w (.cells #[a,b,c,d,e,f] 65);generalize w.alloc (.cells #[a,b,c,d,e,f] 65)=w1 at *
 have q2:=aW.new w1 a' b' c' d' e' f' 65;have m2:=ac w1 (.cells #[a',b',c',d',e',f'] 65);have z2:=size_alloc w1 (.cells #[a',b',c',d',e',f'] 65);generalize w1.alloc (.cells #[a',b',c',d',e',f'] 65)=w2 at *
 have q3:=bm.new w2 (.bool false) (.slice none 0 0) (.slice none 0 0) (.bool false) (.slice none 0 0) (.slice none 0 0) nofun nofun nofun nofun nofun nofun;have m3:=ac w2 (.cells #[.bool false,.slice none 0 0,.slice none 0 0,.bool false,.slice none 0 0,.slice none 0 0] 65);rw[z2,z1] at q3;rw[z1] at q2;have M12:=m1.trans (m2.mono m1.size);exact⟨(q1.below m2).below m3,q2.below m3,q3,M12.trans (m3.mono M12.size)⟩
def pM (w:World) (k:Nat) (a b c:Value):World:=((w.setCell ⟨k,0,none⟩ a).setCell ⟨k,1,none⟩ b).setCell ⟨k,2,none⟩ c
theorem a_.putR {w:World}{k:Nat}{a b c x1 x2 x3:Value}{r:Rt} (h:a_ w k a b c) (hx:IsR w (.agg #[x1,x2,x3]) r) :
  a_ (pM w k x1 x2 x3) k x1 x2 x3/\IsR (pM w k x1 x2 x3) (.agg #[x1,x2,x3]) r/\∀ B w0,Below B w0 w->B<=k->Below B w0 (pM w k x1 x2 x3):=by
 obtain⟨xn,xd,e1,hx1,hx2,hx3,hx4⟩:=hx;obtain⟨rfl,rfl,rfl⟩:x1=.bool r.minus/\x2=xn/\x3=xd:=by simpa using e1
 have P:=h.put (a':=.bool r.minus) (b':=x2) (c':=x3) nofun (IsU.not_int hx1) (IsU.not_int hx2);refine⟨P.1,⟨_,_,rfl,P.2.1 _ _ hx1,P.2.1 _ _ hx2,hx3,hx4⟩,fun B w0 hb hk=>?_⟩;unfold pM;exact ((hb.setCell (p:=⟨k,0,none⟩) hk _).setCell (p:=⟨k,1,none⟩) hk _).setCell (p:=⟨k,2,none⟩) hk _
theorem vI (va:Value) (r:Rt) (w:World) (ha:IsR w va r) :
  Calls Tryz.prog 111 #[va] w fun e w'=>∃ t,e=.returned t/\IsR w' t (vH r)/\Below w.heap.size w w':=by
 obtain⟨n,d,rfl,hn,hd,hf1,hf2⟩:=ha;obtain⟨pn,cn,rfl,-⟩:=id hn;obtain⟨pd,cd,rfl,-⟩:=id hd;go_enter Tryz.func111,Tryz.ntmps111;go_wp2;have m1:=ac w (.cells #[.bool r.minus,.slice pn (ag BB r.n).length cn,.slice pd (ag BB r.d).length cd] 63);have m2:=ac (w.alloc (.cells #[.bool r.minus,.slice pn (ag BB r.n).length cn,.slice pd (ag BB r.d).length cd] 63)) (.cells #[.bool r.minus,.slice pd (ag BB r.d).length cd,.slice pn (ag BB r.n).length cn] 63);have M:=m1.trans (m2.mono m1.size);refine Du (v:=.agg #[.bool r.minus,.slice pd (ag BB r.d).length cd,.slice pn (ag BB r.n).length cn]) (by simp[results,Tryz.results111,go_sem]) rfl ⟨_,rfl,⟨_,_,rfl,hd.below M,hn.below M,hf2,hf1⟩,M⟩
theorem Ah (va:Value) (u:Vl) (k:Nat) (w:World) (ha:IsV w va u) (hs:SzV k u) (hk:4*k+1<=800000) :
  Calls Tryz.prog 110 #[va] w fun e w'=>∃ t,e=.returned t/\IsR w' t (jY u)/\Below w.heap.size w w':=by
 obtain⟨a,b,c,d,e,f,rfl,hax,hay⟩:=ha;have mx:=hs.x.fewM hs.x (by omega);have my:=hs.y.fewM hs.y (by omega);have mz:=(hs.x.mul hs.x).fewR (hs.y.mul hs.y) (by omega);go_enter Tryz.func110,Tryz.ntmps110;go_upto_region 1 with fail
 have q1:=aW.new w a b c d e f 65;have m1:=ac w (.cells #[a,b,c,d,e,f] 65);have z1:=size_alloc w (.cells #[a,b,c,d,e,f] 65);generalize w.alloc (.cells #[a,b,c,d,e,f] 65)=w1 at *
 have q3:=a_.new w1 (.bool false) (.slice none 0 0) (.slice none 0 0) nofun nofun nofun;have m3:=ac w1 (.cells #[.bool false,.slice none 0 0,.slice none 0 0] 63);generalize w1.alloc (.cells #[.bool false,.slice none 0 0,.slice none 0 0] 63)=w3 at *
 have m4:Below w3.heap.size w3 w3.drew:=(Dv _ _).drew;rw[z1] at q3;refine ai (fun w'=>∃ x:ax (w.heap.size+1) w3.drew,w'=x.w) (fun i=>i == 4||i == 9||i == 10||i == 11) (by kernel_rfl) (by kernel_rfl) ⟨⟨_,Dv _ _⟩,rfl⟩ ?_;generalize w3.drew=wd at *
 have hB0:Below wd.heap.size wd wd:=Dv _ _;have M13:=m1.trans (m3.mono m1.size);have MD:=At (M13.trans (m4.mono M13.size));have B1:=(q1.below m3).below m4;have B3:=At (q3.below m4);have hz:w.heap.size+1<=wd.heap.size:=by have:=B3.out.lt;omega
 have e1:=fun x:ax (w.heap.size+1) wd=>B1.at x.h (by omega);have a0:=fun x=>(e1 x).c0;have a01:=fun x=>(e1 x).c1;have a02:=fun x=>(e1 x).c2;have a03:=fun x=>(e1 x).c3;have a04:=fun x=>(e1 x).c4;have a05:=fun x=>(e1 x).c5;have HAX:=At (hax.below MD.out);have HAY:=At (hay.below MD.out);clear e1 q1 q3 m1 m3 m4 z1 M13 hax hay B1;refine ae 4 0 _ _ _ (by kernel_rfl) ?_;simp only[AC,AG,AB,AF];repeat (go_big_quiet_step (fail))
 refine wpQuiet_nil ?_;refine af rfl rfl (fun K hK=>?_);go_simp;refine (eU _ _ _ _ _ HAX.out HAX.out mx.h0 mx.h1 mx.f1 mx.f2).mono ?_;rintro e w4 ⟨v4,rfl,hv4,hb4⟩;refine hK _ _ ⟨⟨_,hb4.mono hz⟩,rfl⟩ ?_;clear hK K;try simp only[Act.put,Ax,Aw,Av,Au,Ay,Az]
 refine ae 4 5 _ _ _ (by kernel_rfl) ?_;simp only[AC,AG,AB,AF];repeat (go_big_quiet_step (fail))
 refine wpQuiet_nil ?_;refine af rfl rfl (fun K hK=>?_);go_simp;refine (eU _ _ _ _ _ (HAY.out.below hb4) (HAY.out.below hb4) my.h0 my.h1 my.f1 my.f2).mono ?_;rintro e w5 ⟨v5,rfl,hv5,hb5⟩;have hB5:=hb4.trans (hb5.mono hb4.size);refine hK _ _ ⟨⟨_,hB5.mono hz⟩,rfl⟩ ?_;clear hK K;try simp only[Act.put,Ax,Aw,Av,Au,Ay,Az]
 refine af rfl rfl (fun K hK=>?_);go_simp;refine (iE _ _ _ _ _ (hv4.below hb5) hv5 mz.h0 mz.h1 mz.f1 mz.f2 mz.f3 mz.f4).mono ?_;rintro e w6 ⟨v6,rfl,hv6,hb6⟩;have hB6:=hB5.trans (hb6.mono hB5.size);refine hK _ _ ⟨⟨_,hB6.mono hz⟩,rfl⟩ ?_;clear hK K;try simp only[Act.put,Ax,Aw,Av,Au,Ay,Az]
 obtain⟨xm,xp,xl,xc,xq,xk,xd,rfl⟩:=hv6.form;have B8:=B3.out.below hB6;have k0:=B8.c0;have k1:=B8.c1;have k2:=B8.c2;have f0:=B8.fr 0;have f1:=B8.fr 1;have f2:=B8.fr 2;have P:=At (B8.putR hv6);refine af rfl rfl (fun K hK=>?_);go_simp;refine hK undef _ ⟨⟨_,P.out.2.2 _ _ (hB6.mono hz) (AA _)⟩,rfl⟩ ?_;clear hK K;try simp only[Act.put,Ax,Aw,Av,Au,Ay,Az]
 refine av ?_;have M8:=At (P.out.2.2 _ w (MD.out.trans (hB6.mono MD.out.size)) (by omega));go_wp2_with fail
 have q0:=P.out.1.c0;have q1:=P.out.1.c1;have q2:=P.out.1.c2;refine Du (v:=.agg #[.bool xm,.slice xp xl xc,.slice xq xk xd]) (by simp[pM] at q0 q1 q2 |-;simp[results,Tryz.results110,go_sem,q0,q1,q2]) rfl ⟨_,rfl,P.out.2.1,M8.out⟩
theorem nG (va vb:Value) (u v:Vl) (k l:Nat) (w:World) (ha:IsV w va u) (hb:IsV w vb v) (hs:SzV k u) (hs':SzV l v) (h0:0<(jY v).n) (hk:4*(k+l)+8*l+10<=800000) :
  Calls Tryz.prog 78 #[va,vb] w fun e w'=>∃ t,e=.returned t/\IsV w' t (vW u v)/\Below w.heap.size w w':=by
 obtain⟨a,b,c,d,e,f,rfl,hax,hay⟩:=ha;obtain⟨a',b',c',d',e',f',rfl,hbx,hby⟩:=hb;have F1:=hs.fewV hs'.conj (by omega);have F2:=(hs.times hs'.conj).fewV (SzV.plain (hs'.norm.inv h0) (by omega)) (by omega);go_enter Tryz.func78,Tryz.ntmps78;go_upto_region 1 with fail
 have E:=qG w a b c d e f a' b' c' d' e' f';unfold qg at E;generalize ((w.alloc (.cells #[a,b,c,d,e,f] 65)).alloc (.cells #[a',b',c',d',e',f'] 65)).alloc (.cells #[.bool false,.slice none 0 0,.slice none 0 0,.bool false,.slice none 0 0,.slice none 0 0] 65)=w3 at *
 have m4:Below w3.heap.size w3 w3.drew:=(Dv _ _).drew;refine ai (fun w'=>∃ x:ax (w.heap.size+2) w3.drew,w'=x.w) (fun i=>i == 2||i == 3||i == 5||i == 6||i == 7||i == 8||i == 9) (by kernel_rfl) (by kernel_rfl) ⟨⟨_,Dv _ _⟩,rfl⟩ ?_;generalize w3.drew=wd at *
 obtain⟨q1,q2,q3,MD⟩:=E;have MD:=At (MD.trans (m4.mono MD.size));have B1:=q1.below m4;have B2:=q2.below m4;have B3:=At (q3.below m4);have hz:w.heap.size+2<=wd.heap.size:=by have:=B3.out.lt;omega
 have e1:=fun x:ax (w.heap.size+2) wd=>B1.at x.h (by omega);have e2:=fun x:ax (w.heap.size+2) wd=>B2.at x.h (by omega);have a0:=fun x=>(e1 x).c0;have a01:=fun x=>(e1 x).c1;have a02:=fun x=>(e1 x).c2;have a03:=fun x=>(e1 x).c3;have a04:=fun x=>(e1 x).c4;have a05:=fun x=>(e1 x).c5;have b0:=fun x=>(e2 x).c0;have b01:=fun x=>(e2 x).c1;have b02:=fun x=>(e2 x).c2;have b03:=fun x=>(e2 x).c3;have b04:=fun x=>(e2 x).c4;have b05:=fun x=>(e2 x).c5;have HA:=At (show IsV wd (.agg #[a,b,c,d,e,f]) u from⟨_,_,_,_,_,_,rfl,hax.below MD.out,hay.below MD.out⟩);have HB:=At (show IsV wd (.agg #[a',b',c',d',e',f']) v from⟨_,_,_,_,_,_,rfl,hbx.below MD.out,hby.below MD.out⟩);clear e1 e2 q1 q2 q3 m4 B1 B2 hax hay hbx hby;refine ae 2 0 _ _ _ (by kernel_rfl) ?_;simp only[AC,AG,AB,AF];repeat (go_big_quiet_step (fail))
 refine wpQuiet_nil ?_;refine af rfl rfl (fun K hK=>?_);go_simp;refine (zj _ _ _ HB.out).mono ?_;rintro e w4 ⟨v4,rfl,hv4,hb4⟩;refine hK _ _ ⟨⟨_,hb4.mono hz⟩,rfl⟩ ?_;clear hK K;try simp only[Act.put,Ax,Aw,Av,Au,Ay,Az]
 refine af rfl rfl (fun K hK=>?_);go_simp;refine (ff _ _ _ _ _ (HA.out.below hb4) hv4 F1).mono ?_;rintro e w5 ⟨v5,rfl,hv5,hb5⟩;have hB5:=hb4.trans (hb5.mono hb4.size);refine hK _ _ ⟨⟨_,hB5.mono hz⟩,rfl⟩ ?_;clear hK K;try simp only[Act.put,Ax,Aw,Av,Au,Ay,Az]
 refine ae 1 4 _ _ _ (by kernel_rfl) ?_;simp only[AC,AG,AB,AF];repeat (go_big_quiet_step (fail))
 refine wpQuiet_nil ?_;refine af rfl rfl (fun K hK=>?_);go_simp;refine (Ah _ _ l _ (HB.out.below hB5) hs' (by omega)).mono ?_;rintro e w6 ⟨v6,rfl,hv6,hb6⟩;have hB6:=hB5.trans (hb6.mono hB5.size);refine hK _ _ ⟨⟨_,hB6.mono hz⟩,rfl⟩ ?_;clear hK K;try simp only[Act.put,Ax,Aw,Av,Au,Ay,Az]
 refine af rfl rfl (fun K hK=>?_);go_simp;refine (vI _ _ _ hv6).mono ?_;rintro e w7 ⟨v7,rfl,hv7,hb7⟩;have hB7:=hB6.trans (hb7.mono hB6.size);refine hK _ _ ⟨⟨_,hB7.mono hz⟩,rfl⟩ ?_;clear hK K;try simp only[Act.put,Ax,Aw,Av,Au,Ay,Az]
 refine af rfl rfl (fun K hK=>?_);go_simp;refine (de _ _ _ hv7).mono ?_;rintro e w8 ⟨v8,rfl,hv8,hb8⟩;have hB8:=hB7.trans (hb8.mono hB7.size);refine hK _ _ ⟨⟨_,hB8.mono hz⟩,rfl⟩ ?_;clear hK K;try simp only[Act.put,Ax,Aw,Av,Au,Ay,Az]
 refine af rfl rfl (fun K hK=>?_);go_simp;have hv5':=((hv5.below hb6).below hb7).below hb8;refine (ff _ _ _ _ _ hv5' hv8 F2).mono ?_;rintro e w9 ⟨v9,rfl,hv9,hb9⟩;have hB9:=hB8.trans (hb9.mono hB8.size);refine hK _ _ ⟨⟨_,hB9.mono hz⟩,rfl⟩ ?_;clear hK K;try simp only[Act.put,Ax,Aw,Av,Au,Ay,Az]
 obtain⟨x1,x2,x3,y1,y2,y3,rfl,hx,hy⟩:=hv9;obtain⟨xm,xp,xl,xc,xq,xk,xd,hxe⟩:=hx.form;obtain⟨ym,yp,yl,yc,yq,yk,yd,hye⟩:=hy.form;obtain⟨rfl,rfl,rfl⟩:x1=.bool xm/\x2=.slice xp xl xc/\x3=.slice xq xk xd:=by simpa using hxe
 obtain⟨rfl,rfl,rfl⟩:y1=.bool ym/\y2=.slice yp yl yc/\y3=.slice yq yk yd:=by simpa using hye
 have B8:=B3.out.below hB9;have k0:=B8.cell 0;have k1:=B8.cell 1;have k2:=B8.cell 2;have k3:=B8.cell 3;have k4:=B8.cell 4;have k5:=B8.cell 5;have f0:=B8.fr 0;have f1:=B8.fr 1;have f2:=B8.fr 2;have f3:=B8.fr 3;have f4:=B8.fr 4;have f5:=B8.fr 5;have P:=At (B8.putV hx hy);refine af rfl rfl (fun K hK=>?_);go_simp;refine hK undef _ ⟨⟨_,P.out.2.2 _ _ (hB9.mono hz) (by omega)⟩,rfl⟩ ?_;clear hK K;try simp only[Act.put,Ax,Aw,Av,Au,Ay,Az]
 refine av ?_;have M8:=At (P.out.2.2 _ _ (MD.out.trans (hB9.mono MD.out.size)) (by omega));go_wp2_with fail
 have q0:=P.out.1.cell 0;have q1:=P.out.1.cell 1;have q2:=P.out.1.cell 2;have q3:=P.out.1.cell 3;have q4:=P.out.1.cell 4;have q5:=P.out.1.cell 5;refine Du (v:=.agg #[.bool xm,.slice xp xl xc,.slice xq xk xd,.bool ym,.slice yp yl yc,.slice yq yk yd]) (by simp[results,Tryz.results78,go_sem,cP] at q0 q1 q2 q3 q4 q5 |-;simp[results,Tryz.results78,go_sem,q0,q1,q2,q3,q4,q5]) rfl ⟨_,rfl,P.out.2.1,M8.out⟩
end Go.Proofs.YtgakllaobooabaaGreatDoor
