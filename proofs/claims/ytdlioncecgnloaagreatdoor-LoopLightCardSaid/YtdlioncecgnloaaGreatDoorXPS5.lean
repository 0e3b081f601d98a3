/- Lemmas of this claim. -/
import Derived.Test.YtdlioncecgnloaaGreatDoorXPS2
set_option linter.all false
set_option maxRecDepth 100000
set_option maxHeartbeats 8000000
namespace Go.Proofs.YtdlioncecgnloaaGreatDoor
open Go.RowKit Dg Dc
structure eS (l:List ByteArray) (qs:List Rat):Prop where
 e:l=qs.map tq
 ov:∃ D,0<D∧D≤2 ^ 84∧∀ q∈qs,Ov D (2 ^ 96) q
 ok:∀ q∈qs,okQ q
 len:qs.length≤7
theorem rx {l:List ByteArray} (hl:l.length≤7) (h:∀ s∈l,bj s.data.toList=true):∃ qs,eS l qs:=by
 obtain⟨qs,D,e,hD,hDl,hall⟩:=jn l h
 have h7:(4096:Nat) ^ l.length≤4096 ^ 7:=Cy (by decide) hl
 have e7:(4096:Nat) ^ 7=2 ^ 84:=by decide
 refine⟨qs,e,⟨D,hD,by omega,fun q hq=>(hall q hq).1.mono ?_⟩,fun q hq=>(hall q hq).2,by rw[e,Ct] at hl;exact hl⟩
 have:4096*4096 ^ l.length≤4096*4096 ^ 7:=CD _ h7
 rw[e7] at this
 exact Cr this (by decide)
theorem Ai {a b c:Nat} (h:a+b=c):(2:Nat) ^ a*2 ^ b=2 ^ c:=by rw[←h,CY]
theorem Aj {a b:Nat} (h:a+1=b):(2:Nat) ^ b=2 ^ a+2 ^ a:=by rw[←h,Cx,Nat.mul_two]
theorem iF {a b:Nat} (h:a≤b):(2:Nat) ^ a≤2 ^ b:=Cy (by decide) h
theorem Ba {x a b c:Nat} (h:x≤2 ^ a*2 ^ b) (hc:a+b=c):x≤2 ^ c:=by rw[←hc,CY];exact h
theorem dZ {x y a b c:Nat} (h1:x≤2 ^ a) (h2:y≤2 ^ b) (hc:a+b=c):x*y≤2 ^ c:=Ba (CU h1 h2) hc
theorem Aw {D E a b c d:Nat} (hD:D≤2 ^ b) (hE:E≤2 ^ b) (hc:a+b=c) (hd:c+1=d):2 ^ a*E+2 ^ a*D≤2 ^ d:=by
 rw[Aj hd,←hc,CY]
 exact Nat.add_le_add (CD _ hE) (CD _ hD)
theorem By (n:Nat):(2:Nat) ^ (3*n)<10 ^ (n+1):=by
 rw[De]
 have h1:((2:Nat) ^ 3) ^ n≤10 ^ n:=Dh (by decide) n
 have h2:(10:Nat) ^ n<10 ^ (n+1):=Nat.pow_lt_pow_right (by decide) (Nat.lt_succ_self n)
 exact Cu h1 h2
theorem Be {n k m t:Nat} (h:n≤2 ^ k) (hk:k≤3*m) (ht:m+1=t):n<10 ^ t:=by
 subst ht
 exact Cu (Cr h (Cy (by decide) hk)) (By m)
theorem cX {n k:Nat} (h:n≤2 ^ k) (hk:k≤5997):n<10 ^ 2000:=Be (m:=1999) (t:=2000) h (by omega) (by omega)
theorem zv {a b:Rat} (ha:okQ a) (hb:okQ b) (h:tq a=tq b):a=b:=congrArg CQ.re (Ax ha hb h)
theorem gU:∀ {l m:List Rat},(∀ q∈l,okQ q)→(∀ q∈m,okQ q)→l.map tq=m.map tq→l=m
 | [],[],_,_,_=>rfl
 | [],_ :: _,_,_,h=>by cases h
 | _ :: _,[],_,_,h=>by cases h
 | a :: l,b :: m,h1,h2,h=>by
  rw[C3,C3] at h
  rw[zv (h1 a (CF ..)) (h2 b (CF ..)) (List.cons.inj h).1,gU (fun q hq=>h1 q (CE _ hq)) (fun q hq=>h2 q (CE _ hq)) (List.cons.inj h).2]
theorem ie {fa fb ga gb l1 l2:List ByteArray} (h:(aB fa fb ga gb (.ok (l1,l2))).2=0):aB fa fb ga gb (.ok (l1,l2))=((l1,l2),0)∧ar l1 l2=true:=by
 unfold aB at h ⊢
 split at h
 ·cases h
 ·rename_i h1
  rw[if_neg h1]
  split at h
  ·cases h
  ·rename_i h2
   rw[if_neg h2]
   replace h:(if 7<l1.length∨7<l2.length then (([],[]),3) else if ar l1 l2=false then (([],[]),8) else ((l1,l2),0):(List ByteArray×List ByteArray)×Int).2=0:=h
   show (if 7<l1.length∨7<l2.length then (([],[]),3) else if ar l1 l2=false then (([],[]),8) else ((l1,l2),0):(List ByteArray×List ByteArray)×Int)=_∧_
   by_cases h3:7<l1.length∨7<l2.length
   ·rw[if_pos h3] at h;cases h
   ·rw[if_neg h3] at h ⊢
    by_cases h4:ar l1 l2=false
    ·rw[if_pos h4] at h;cases h
    ·rw[if_neg h4];exact⟨rfl,by simpa using h4⟩
theorem fx {a b:List ByteArray} (h:ar a b=true):∃ qa qb,eS a qa∧eS b qb∧0<qa.length∧0<qb.length:=by
 obtain⟨b1,b7,a1,a7,ac,bc,-⟩:=aD h
 obtain⟨qa,ha⟩:=rx a7 ac
 obtain⟨qb,hb⟩:=rx b7 bc
 refine⟨qa,qb,ha,hb,?_,?_⟩
 ·rw[ha.e,Ct] at a1;omega
 ·rw[hb.e,Ct] at b1;omega
def jF:List Rat→List Rat→List Rat
 | [],_=>[]
 | a :: l,[]=>a :: jF l []
 | a :: l,b :: m=>(a+b) :: jF l m
theorem lw:∀ l:List Rat,jF l []=l
 | []=>rfl
 | a :: l=>by rw[jF,lw l]
theorem wL (x y:ByteArray) (l m:List ByteArray):cS (x :: l) (y :: m)=dV x y :: cS l m:=by
 unfold cS
 rw[show (x :: l).length=l.length+1 from rfl,show (y :: m).length=m.length+1 from rfl,List.range_succ_eq_map,C3,List.map_map]
 congr 1
 refine EA fun i _=>?_
 simp only[Function.comp,Nat.succ_eq_add_one,Nat.add_lt_add_iff_right]
 rfl
theorem zj (l:List ByteArray):cS l []=l:=by
 refine List.ext_getElem (by simp[cS]) fun i h1 h2=>?_
 simp only[cS,Dk,ED,C_,Nat.not_lt_zero,if_false]
 exact (cO h2).symm
theorem ts:∀ l m:List Rat,m.length≤l.length→(∀ q∈l,okQ q)→(∀ q∈m,okQ q)→(∀ a∈l,∀ b∈m,okQ (a+b))→cS (l.map tq) (m.map tq)=(jF l m).map tq
 | l,[],_,_,_,_=>by rw[D6,zj,lw]
 | [],_ :: _,h,_,_,_=>by simp at h
 | a :: l,b :: m,h,h1,h2,h3=>by
  rw[C3,C3,wL,jF,C3,lr (h1 a (CF ..)) (h2 b (CF ..)) (h3 a (CF ..) b (CF ..)),
   ts l m (by simpa using h) (fun q hq=>h1 q (CE _ hq)) (fun q hq=>h2 q (CE _ hq)) (fun a ha b hb=>h3 a (CE _ ha) b (CE _ hb))]
theorem se:∀ l m:List Rat,(∀ q∈l,okQ q)→(∀ a∈l,∀ b∈m,okQ (a+b))→∀ q∈jF l m,okQ q
 | [],_,_,_,q,h=>by cases h
 | a :: l,[],h1,_,q,h=>by rw[lw] at h;exact h1 q h
 | a :: l,b :: m,h1,h2,q,h=>by
  rw[jF] at h
  rcases CW.1 h with rfl | h
  ·exact h2 a (CF ..) b (CF ..)
  ·exact se l m (fun q hq=>h1 q (CE _ hq)) (fun a ha b hb=>h2 a (CE _ ha) b (CE _ hb)) q h
theorem yz {a b:Rat}{D E:Nat} (ha:Ov D (2 ^ 198) a) (hb:Ov E (2 ^ 198) b) (hD:0<D) (hE:0<E) (hDl:D≤2 ^ 168) (hEl:E≤2 ^ 168):okQ (a+b):=by
 have h2:=hb.wide D hE hD
 rw[CG E D] at h2
 have h:=(ha.wide E hD hE).add h2
 have b1:D*E≤2 ^ 336:=dZ (x:=D) (y:=E) (a:=168) (b:=168) (c:=336) hDl hEl rfl
 have b2:2 ^ 198*E+2 ^ 198*D≤2 ^ 367:=Aw (D:=D) (E:=E) (a:=198) (b:=168) (c:=366) (d:=367) hDl hEl rfl rfl
 exact h.ok (CJ hD hE) (cX b1 (by decide)) (cX b2 (by decide))
theorem uM {k:Nat} (hk:k≤5997):(2:Nat) ^ k<10 ^ 2000:=cX (Cd _) hk
theorem ug {x a b c:Nat} (h:x≤2 ^ a) (hc:a+b=c):x*2 ^ b≤2 ^ c:=dZ h (Cd _) hc
theorem uh {y a b c:Nat} (h:y≤2 ^ b) (hc:a+b=c):2 ^ a*y≤2 ^ c:=dZ (Cd _) h hc
theorem wB {k n t m:Nat} (h:(k+1)*2 ^ n<10 ^ t):k*2 ^ n<10 ^ t:=Cu (Ck _ (CI k)) h
theorem yv {x a b c:Nat} (h:x≤2 ^ a) (hc:a+b=c) (hk:c≤5997):x*2 ^ b<10 ^ 2000:=cX (ug h hc) hk
theorem zi (k n:Nat):k*2 ^ n+2 ^ n=(k+1)*2 ^ n:=by rw[CS,DC]
theorem qP {x y k:Nat} (h:x≤y):x*2 ^ k≤y*2 ^ k:=Ck _ h
def inQ (a x:List Rat) (t:Nat):Nat→Rat
 | 0=>0
 | k+1=>if k≤t then inQ a x t k+a.getD k 0*x.getD (t-k) 0 else inQ a x t k
def m_ (b y:List Rat) (t:Nat) (n:Rat):Nat→Rat
 | 0=>n
 | k+1=>if 0<k∧k≤t then m_ b y t n k-b.getD k 0*y.getD (t-k) 0 else m_ b y t n k
def aA (a b x:List Rat):Nat→List Rat
 | 0=>[]
 | t+1=>aA a b x t++[m_ b (aA a b x t) t (inQ a x t a.length) b.length]
theorem bv (a b x:List Rat):∀ t,(aA a b x t).length=t
 | 0=>rfl
 | t+1=>by rw[aA,Cq,bv a b x t];rfl
theorem eC {l:List Rat}{k:Nat} (h:k<l.length):l.getD k 0∈l:=by rw[Cm,Co h];exact Cs h
structure AC (l:List ByteArray) (xs:List Rat):Prop where
 e:l=xs.map tq
 ov:∃ D,0<D∧D≤2 ^ 192∧∀ q∈xs,Ov D (2 ^ 204) q
 ok:∀ q∈xs,okQ q
theorem rE {l:List ByteArray} (hl:l.length≤16) (h:∀ s∈l,bj s.data.toList=true):∃ xs,AC l xs:=by
 obtain⟨qs,D,e,hD,hDl,hall⟩:=jn l h
 have h7:(4096:Nat) ^ l.length≤4096 ^ 16:=Cy (by decide) hl
 have e7:(4096:Nat) ^ 16=2 ^ 192:=by decide
 refine⟨qs,e,⟨D,hD,by omega,fun q hq=>(hall q hq).1.mono ?_⟩,fun q hq=>(hall q hq).2⟩
 have:4096*4096 ^ l.length≤4096*4096 ^ 16:=CD _ h7
 rw[e7] at this
 exact Cr this (by decide)
theorem AF {D E:Nat}{a x:List Rat}{t:Nat} (hD:0<D) (hE:0<E) (hDE:D*E<10 ^ 2000) (ha:∀ q∈a,Ov D (2 ^ 96) q∧okQ q) (hx:∀ q∈x,Ov E (2 ^ 204) q∧okQ q) (hal:a.length≤7) (ht:t<x.length) :
  ∀ k,k≤a.length→inT (a.map tq) (x.map tq) t k=tq (inQ a x t k)∧Ov (D*E) (k*2 ^ 300) (inQ a x t k)
 | 0,_=>⟨mO.symm,(Ov.zero _).mono (Cp _)⟩
 | k+1,hk=>by
  obtain⟨h1,h2⟩:=AF hD hE hDE ha hx hal ht k (by omega)
  have hDp:=CJ hD hE
  rw[inT,inQ]
  by_cases hkt:k≤t
  ·rw[if_pos hkt,if_pos hkt]
   have m1:=ha _ (eC (show k<a.length by omega))
   have m2:=hx _ (eC (show t-k<x.length by omega))
   have o2:=m1.1.mul m2.1 hD hE
   have e2:(2:Nat) ^ 96*2 ^ 204=2 ^ 300:=Ai (a:=96) (b:=204) (c:=300) rfl
   rw[e2] at o2
   have o3:=h2.add o2
   have e3:k*2 ^ 300+2 ^ 300=(k+1)*2 ^ 300:=zi k 300
   rw[e3] at o3
   have b3:(k+1)*2 ^ 300<10 ^ 2000:=yv (x:=k+1) (a:=3) (b:=300) (c:=303) (by omega) rfl (by decide)
   have b1:k*2 ^ 300<10 ^ 2000:=wB (k:=k) (n:=300) (t:=2000) (m:=0) b3
   refine⟨?_,o3⟩
   rw[h1,db (by omega),db (by omega),eh m1.2 m2.2 (o2.ok hDp hDE (uM (k:=300) (by decide))),lr (h2.ok hDp hDE b1) (o2.ok hDp hDE (uM (k:=300) (by decide))) (o3.ok hDp hDE b3)]
  ·rw[if_neg hkt,if_neg hkt]
   exact⟨h1,h2.mono (qP (x:=k) (y:=k+1) (k:=300) (CI k))⟩
theorem yD {W E:Nat}{b y:List Rat}{t:Nat}{n:Rat} (hW:0<W) (hE:0<E) (hWl:W≤2 ^ 276) (hEl:E≤2 ^ 84) (ht:t≤16) (hb:∀ q∈b,Ov E (2 ^ 96) q∧okQ q) (hyl:y.length=t) (hbl:b.length≤7)
  (hy:∀ s,s<t→Ov (W*E ^ s) (2 ^ (306+190*s)) (y.getD s 0)) (hn:Ov W (7*2 ^ 300) n) :
  ∀ k,k≤b.length→mn (b.map tq) (y.map tq) t (tq n) k=tq (m_ b y t n k)∧Ov (W*E ^ t) (2 ^ (303+190*t)+k*2 ^ (212+190*t)) (m_ b y t n k)
 | 0,_=>by
  refine⟨rfl,?_⟩
  have hEt:0<E ^ t:=C9 hE
  have h2:7*2 ^ 300≤2 ^ 303:=ug (x:=7) (a:=3) (b:=300) (c:=303) (by decide) rfl
  refine ((hn.mono h2).wide (E ^ t) hW hEt).mono ?_
  have h1:E ^ t≤2 ^ (84*t):=by rw[De];exact Dh hEl t
  have h3:2 ^ 303*E ^ t≤2 ^ (303+84*t):=uh (y:=E ^ t) (a:=303) (b:=84*t) (c:=303+84*t) h1 rfl
  have h4:(2:Nat) ^ (303+84*t)≤2 ^ (303+190*t):=iF (by omega)
  exact Cr h3 (Cr h4 (Ed _ _))
 | k+1,hk=>by
  obtain⟨h1,h2⟩:=yD hW hE hWl hEl ht hb hyl hbl hy hn k (by omega)
  have hEt:0<E ^ t:=C9 hE
  have hDp:=CJ hW hEt
  have hEl2:E ^ t≤2 ^ (84*t):=by rw[De];exact Dh hEl t
  have hDE:W*E ^ t<10 ^ 2000:=by
   exact cX (dZ (x:=W) (y:=E ^ t) (a:=276) (b:=84*t) (c:=276+84*t) hWl hEl2 rfl) (by omega)
  rw[mn,m_]
  have e3:2 ^ (303+190*t)+k*2 ^ (212+190*t)+2 ^ (212+190*t)=2 ^ (303+190*t)+(k+1)*2 ^ (212+190*t):=by rw[CS,DC,DB]
  have b3:2 ^ (303+190*t)+(k+1)*2 ^ (212+190*t)<10 ^ 2000:=by
   have k1:=Ck (2 ^ (212+190*t)) (show k+1≤2 ^ 3 by omega)
   rw[←CY] at k1
   have k2:(2:Nat) ^ (3+(212+190*t))≤2 ^ (303+190*t):=Cy (by decide) (by omega)
   have k3:(2:Nat) ^ (304+190*t)=2 ^ (303+190*t)+2 ^ (303+190*t):=by rw[show 304+190*t=(303+190*t)+1 from by omega,Cx,Nat.mul_two]
   exact cX (k:=304+190*t) (by omega) (by omega)
  by_cases hkt:0<k∧k≤t
  ·rw[if_pos hkt,if_pos hkt]
   have m1:=hb _ (eC (show k<b.length by omega))
   have m2:=hy (t-k) (by omega)
   have hEs:0<E ^ (t-k):=C9 hE
   have o1:=(m1.1.mul m2 hE (CJ hW hEs)).wide (E ^ (k-1)) (CJ hE (CJ hW hEs)) (C9 hE)
   have eD:E*(W*E ^ (t-k))*E ^ (k-1)=W*E ^ t:=by
    have e:E ^ t=E*E ^ (t-k)*E ^ (k-1):=by
     rw[←Nat.pow_succ',←CY];congr 1;omega
    rw[e]
    simp only[Nat.mul_left_comm,CG,DX]
   rw[eD] at o1
   have o2:Ov (W*E ^ t) (2 ^ (212+190*t)) (b.getD k 0*y.getD (t-k) 0):=o1.mono (by
    have h3:E ^ (k-1)≤2 ^ (84*(k-1)):=by rw[De];exact Dh hEl _
    have h4:=CD (2 ^ 96*2 ^ (306+190*(t-k))) h3
    rw[←CY,←CY] at h4
    refine Cr ?_ (Cr h4 (Cy (by decide) (by omega)))
    rw[←CY]
    exact Cd _)
   have o3:=h2.sub o2
   rw[e3] at o3
   have b1:2 ^ (303+190*t)+k*2 ^ (212+190*t)<10 ^ 2000:=Cu (by rw[←e3];exact Ed _ _) b3
   have b2:(2:Nat) ^ (212+190*t)<10 ^ 2000:=cX (Cd _) (by omega)
   have ky:okQ (y.getD (t-k) 0):=by
    have hEs2:E ^ (t-k)≤2 ^ (84*(t-k)):=by rw[De];exact Dh hEl _
    exact m2.ok (CJ hW hEs) (cX (dZ (x:=W) (y:=E ^ (t-k)) (a:=276) (b:=84*(t-k)) (c:=276+84*(t-k)) hWl hEs2 rfl) (by omega)) (cX (Cd _) (by omega))
   refine⟨?_,o3⟩
   rw[h1,db (by omega),db (by omega),eh m1.2 ky (o2.ok hDp hDE b2),j7 (h2.ok hDp hDE b1) (o2.ok hDp hDE b2) (o3.ok hDp hDE b3)]
  ·rw[if_neg hkt,if_neg hkt]
   exact⟨h1,h2.mono (by rw[←e3];exact Ed _ _)⟩
theorem f9 {a b x:List ByteArray}{qa qb xs:List Rat} (ha:eS a qa) (hb:eS b qb) (hx:AC x xs) :
  ∃ W E,0<W∧0<E∧W≤2 ^ 276∧E≤2 ^ 84∧∀ t,t≤16→t≤xs.length→aH a b x t=(aA qa qb xs t).map tq∧∀ s,s<t→Ov (W*E ^ s) (2 ^ (306+190*s)) ((aA qa qb xs t).getD s 0):=by
 obtain⟨Da,hDa,hDal,oa⟩:=ha.ov
 obtain⟨E,hE,hEl,ob⟩:=hb.ov
 obtain⟨Dx,hDx,hDxl,ox⟩:=hx.ov
 have hW:Da*Dx≤2 ^ 276:=dZ (x:=Da) (y:=Dx) (a:=84) (b:=192) (c:=276) hDal hDxl rfl
 have hWp:=CJ hDa hDx
 have hW2:=cX hW (by decide)
 refine⟨Da*Dx,E,hWp,hE,hW,hEl,fun t=>?_⟩
 induction t with
 | zero=>exact fun _ _=>⟨rfl,fun s hs=>by omega⟩
 | succ t ih =>
  intro ht htl
  obtain⟨h1,h2⟩:=ih (by omega) (by omega)
  have hl:=bv qa qb xs t
  obtain⟨i1,i2⟩:=AF (t:=t) hDa hDx hW2 (fun q hq=>⟨oa q hq,ha.ok q hq⟩) (fun q hq=>⟨ox q hq,hx.ok q hq⟩) ha.len (by omega) qa.length (Cd _)
  obtain⟨k1,k2⟩:=yD (t:=t) hWp hE hW hEl (by omega) (fun q hq=>⟨ob q hq,hb.ok q hq⟩) hl hb.len h2 (i2.mono (qP (x:=qa.length) (y:=7) (k:=300) ha.len)) qb.length (Cd _)
  refine⟨?_,fun s hs=>?_⟩
  ·rw[aH,aA,DH,h1]
   congr 1
   unfold lH
   rw[ha.e,hb.e,hx.e,Ct,Ct,i1,k1]
   rfl
  ·rw[aA,Cm]
   by_cases h:s<t
   ·rw[DM (by omega),←Cm]
    exact h2 s h
   ·obtain rfl:s=t:=by omega
    rw[Dt (by omega),hl,DV]
    refine k2.mono ?_
    have e:=Ck (2 ^ (212+190*s)) (show qb.length≤2 ^ 3 by have:=hb.len;omega)
    rw[←CY] at e
    have e2:(2:Nat) ^ (3+(212+190*s))≤2 ^ (303+190*s):=Cy (by decide) (by omega)
    have e3:(2:Nat) ^ (306+190*s)=2 ^ 3*2 ^ (303+190*s):=by rw[←CY];congr 1;omega
    rw[e3]
    omega
def aL (l:List Rat):Nat→Rat:=fun n=>l.getD n 0
theorem tZ (a x:List Rat) (t:Nat):∀ k,k≤a.length→inQ a x t k=opS (a.take k) (aL x) t
 | 0,_=>by rw[Ch];rfl
 | k+1,hk=>by
  have hka:k<a.length:=by omega
  rw[inQ,tZ a x t k (by omega),show a.take (k+1)=a.take k++[a.getD k 0] from by
   rw[Cm,Co hka]
   exact (Cl hka).symm,j2,Cw,CP (by omega)]
  unfold shS
  by_cases h:k≤t
  ·rw[if_pos h,if_pos h];rfl
  ·rw[if_neg h,if_neg h];grind
theorem yC (b y:List Rat) (t:Nat) (n:Rat) (hy:y.length≤t):∀ k,k≤b.length→m_ b y t n k=n-opS (b.take k) (aL y) t
 | 0,_=>by rw[Ch,fw,m_];grind
 | k+1,hk=>by
  have hkb:k<b.length:=by omega
  rw[m_,yC b y t n hy k (by omega),show b.take (k+1)=b.take k++[b.getD k 0] from by
   rw[Cm,Co hkb]
   exact (Cl hkb).symm,j2,Cw,CP (by omega)]
  unfold shS
  by_cases h:0<k∧k≤t
  ·rw[if_pos h,if_pos h.2]
   show _-b.getD k 0*y.getD (t-k) 0=n-(_+b.getD k 0*y.getD (t-k) 0)
   grind
  ·rw[if_neg h]
   by_cases h2:k≤t
   ·obtain rfl:k=0:=by omega
    rw[if_pos h2]
    have e:aL y (t-0)=0:=by
     unfold aL
     rw[Cm,D4 (by omega)];rfl
    rw[e];grind
   ·rw[if_neg h2];grind
theorem jw (a b x:List Rat) {s t:Nat} (hs:s<t):∀ N,t≤N→(aA a b x N).getD s 0=(aA a b x t).getD s 0
 | 0,h=>by omega
 | N+1,h=>by
  by_cases e:t=N+1
  ·rw[e]
  ·rw[aA,Cm,DM (by rw[bv];omega),←Cm,jw a b x hs N (by omega)]
theorem f8 (a b' x:List Rat) (N t:Nat) (ht:t<N):opS (1 :: b') (aL (aA a (1 :: b') x N)) t=opS a (aL x) t:=by
 have e1:(aA a (1 :: b') x N).getD t 0=opS a (aL x) t-opS (1 :: b') (aL (aA a (1 :: b') x t)) t:=by
  rw[jw a (1 :: b') x (show t<t+1 by omega) N (by omega),aA,Cm,Dt (by rw[bv];exact Cd _),bv,DV]
  show m_ _ _ _ _ _=_
  rw[yC _ _ _ _ (by rw[bv];exact Cd _) _ (Cd _),tZ _ _ _ _ (Cd _),Cv,Cv]
 have e2:aL (aA a (1 :: b') x t) t=0:=by
  unfold aL
  rw[Cm,D4 (by rw[bv];exact Cd _)];rfl
 rw[aW] at e1
 rw[aW]
 have e3:shS 1 (opS b' (aL (aA a (1 :: b') x N))) t=shS 1 (opS b' (aL (aA a (1 :: b') x t))) t:=cH t fun m hm=>dS b' m fun k hk=>jw a (1 :: b') x (show k<t by omega) N (by omega)
 rw[e2] at e1
 rw[e3]
 show 1*(aA a (1 :: b') x N).getD t 0+_=_
 rw[e1]
 grind
theorem sQ (x:Nat→Rat):∀ (l m:List Rat) (n:Nat),m.length≤l.length→opS (jF l m) x n=opS l x n+opS m x n
 | [],[],_,_=>by rw[jF,fw];grind
 | [],_ :: _,_,h=>by simp at h
 | a :: l,[],n,_=>by rw[lw,fw];grind
 | a :: l,b :: m,n,h=>by
  rw[jF,aW,aW,aW]
  have e:shS 1 (opS (jF l m) x) n=shS 1 (fun k=>opS l x k+1*opS m x k) n:=cH n fun k _=>by rw[sQ x l m k (by simpa using h)];grind
  rw[e,jy]
  grind
theorem pD {a b:List ByteArray}{qa qb:List Rat} (ha:eS a qa) (hb:eS b qb) (hb0:0<qb.length) :
  ∃ qp:List Rat,∃ D,bU a b=qp.map tq∧0<D∧D≤2 ^ 168∧(∀ q∈qp,Ov D (2 ^ 198) q∧okQ q)∧∀ s n,opS qp s n=opS qa (opS qb s) n:=by
 obtain⟨D,hD,hDl,oa⟩:=ha.ov
 obtain⟨E,hE,hEl,ob⟩:=hb.ov
 have hDE:D*E≤2 ^ 168:=by
  have:=CU hDl hEl
  rw[←CY] at this
  exact this
 have hll:qa.length*qb.length≤7*7:=CU ha.len hb.len
 have hs:(qa.length*qb.length+1)*(2 ^ 96*2 ^ 96)≤2 ^ 198:=by
  have:=Ck (2 ^ 96*2 ^ 96) (show qa.length*qb.length+1≤2 ^ 6 by omega)
  exact Cr this (by decide)
 have hDE2:=cX hDE (by decide)
 obtain⟨h1,h2⟩:=uD hD hE (fun q hq=>⟨oa q hq,ha.ok q hq⟩) (fun q hq=>⟨ob q hq,hb.ok q hq⟩) hb0 hDE2 (cX hs (by decide)) qa.length (Cd _)
 have h3:∀ q∈eE qa qb qa.length,Ov (D*E) (2 ^ 198) q:=fun q hq=>(h2 q hq).mono (Cr (Ck _ (CI _)) hs)
 refine⟨eE qa qb qa.length,D*E,?_,CJ hD hE,hDE,fun q hq=>⟨h3 q hq,(h3 q hq).ok (CJ hD hE) hDE2 (cX (Cd _) (by decide))⟩,fun s n=>?_⟩
 ·unfold bU
  rw[ha.e,hb.e,Ct,h1]
 ·rw[uA s qa qb hb0 _ (Cd _),Cv]
theorem zl {a b:List ByteArray}{qa qb:List Rat}{D E:Nat} (ea:a=qa.map tq) (eb:b=qb.map tq) (hD:0<D) (hE:0<E) (hDl:D≤2 ^ 168) (hEl:E≤2 ^ 168) (oa:∀ q∈qa,Ov D (2 ^ 198) q∧okQ q) (ob:∀ q∈qb,Ov E (2 ^ 198) q∧okQ q) :
  ∃ qs:List Rat,cT a b=qs.map tq∧(∀ q∈qs,okQ q)∧∀ s n,opS qs s n=opS qa s n+opS qb s n:=by
 unfold cT
 rw[ea,eb,Ct,Ct]
 by_cases h:qa.length<qb.length
 ·rw[if_pos h]
  have hok:∀ x∈qb,∀ y∈qa,okQ (x+y):=fun x hx y hy=>yz (ob x hx).1 (oa y hy).1 hE hD hEl hDl
  refine⟨jF qb qa,ts qb qa (by omega) (fun q hq=>(ob q hq).2) (fun q hq=>(oa q hq).2) hok,se qb qa (fun q hq=>(ob q hq).2) hok,fun s n=>?_⟩
  rw[sQ s qb qa n (by omega)]
  grind
 ·rw[if_neg h]
  have hok:∀ x∈qa,∀ y∈qb,okQ (x+y):=fun x hx y hy=>yz (oa x hx).1 (ob y hy).1 hD hE hDl hEl
  exact⟨jF qa qb,ts qa qb (by omega) (fun q hq=>(oa q hq).2) (fun q hq=>(ob q hq).2) hok,se qa qb (fun q hq=>(oa q hq).2) hok,fun s n=>sQ s qa qb n (by omega)⟩
theorem jR {a b:List ByteArray}{qb:List Rat} (h:ar a b=true) (hb:eS b qb):∃ b',qb=1 :: b':=by
 obtain⟨b1,-,-,-,-,bc,hh⟩:=aD h
 have hl:=hb.e
 subst hl
 match qb,hb,b1,hh with
 | q :: b',hb,_,hh =>
  have e:(tq q).data.toList=[49]:=by
   unfold qI at hh
   simpa using hh
  have:tq q=tq 1:=by
   rw[iE]
   exact gF e
  exact⟨b',by rw[zv (hb.ok q (CF ..)) dR this]⟩
theorem mo {W E N s:Nat}{q:Rat} (hW:0<W) (hE:0<E) (hWl:W≤2 ^ 276) (hEl:E≤2 ^ 84) (hs:s<16) (h:Ov (W*E ^ s) (2 ^ (306+190*s)) q):okQ q:=by
 have h1:E ^ s≤2 ^ (84*s):=by rw[De];exact Dh hEl _
 have h2:W*E ^ s≤2 ^ (276+84*s):=dZ (x:=W) (y:=E ^ s) (a:=276) (b:=84*s) (c:=276+84*s) hWl h1 rfl
 exact h.ok (CJ hW (C9 hE)) (cX h2 (by omega)) (cX (Cd _) (by omega))
theorem iX {l:List Rat}{i:Nat} (h:i<l.length):aq (l.map tq) i=tq (aL l i):=db h
theorem pB {fa fb ga gb x:List ByteArray}{N:Nat} (hc1:ar fa fb=true) (hc2:ar ga gb=true) (hs:(bo fa fb ga gb).2=0) (hx:∀ s∈x,bj s.data.toList=true) (hN:N≤16) (hxl:x.length=N) :
  ∀ i,i<N→aM (bE CQ.add) (aq (aH fa fb x N) i) (aq (aH ga gb x N) i)=(aq (aH (bo fa fb ga gb).1.1 (bo fa fb ga gb).1.2 x N) i,0):=by
 obtain⟨xs,vx⟩:=rE (by omega) hx
 have hxs:xs.length=N:=by rw[←hxl,vx.e,Ct]
 obtain⟨qfa,qfb,p1,p2,l1,l2⟩:=fx hc1
 obtain⟨qga,qgb,p3,p4,l3,l4⟩:=fx hc2
 obtain⟨es,cs⟩:=ie hs
 rw[show bo fa fb ga gb=((cT (bU fa gb) (bU ga fb),bU fb gb),0) from es]
 obtain⟨qsa,qsb,p5,p6,-,-⟩:=fx cs
 obtain⟨q1,E1,f1,x1,y1,k1,v1⟩:=pD p1 p4 l4
 obtain⟨q3,E3,f3,x3,y3,k3,v3⟩:=pD p3 p2 l2
 obtain⟨q2,E2,f2,-,-,k2,v2⟩:=pD p2 p4 l4
 obtain⟨q4,f4,k4,v4⟩:=zl f1 f3 x1 x3 y1 y3 k1 k3
 obtain rfl:qsa=q4:=gU p5.ok k4 (by rw[←p5.e,f4])
 obtain rfl:qsb=q2:=gU p6.ok (fun q hq=>(k2 q hq).2) (by rw[←p6.e,f2])
 obtain⟨bf,rfl⟩:=jR hc1 p2
 obtain⟨bg,rfl⟩:=jR hc2 p4
 obtain⟨bs,rfl⟩:=jR cs p6
 obtain⟨W1,G1,a1,a2,a3,a4,o1⟩:=f9 p1 p2 vx
 obtain⟨W2,G2,b1,b2,b3,b4,o2⟩:=f9 p3 p4 vx
 obtain⟨W3,G3,c1,c2,c3,c4,o3⟩:=f9 p5 p6 vx
 obtain⟨t1,u1⟩:=o1 N hN (by omega)
 obtain⟨t2,u2⟩:=o2 N hN (by omega)
 obtain⟨t3,u3⟩:=o3 N hN (by omega)
 have key:∀ n,n<N→aL (aA qsa (1 :: bs) xs N) n=aL (aA qfa (1 :: bf) xs N) n+1*aL (aA qga (1 :: bg) xs N) n:=by
  refine nR (b:=bs) (z:=fun n=>aL (aA qfa (1 :: bf) xs N) n+1*aL (aA qga (1 :: bg) xs N) n) fun n hn=>?_
  rw[f8 _ _ _ _ _ hn,v2]
  have e1:opS (1 :: bf) (opS (1 :: bg) fun n=>aL (aA qfa (1 :: bf) xs N) n+1*aL (aA qga (1 :: bg) xs N) n) n =
    opS (1 :: bf) (fun m=>opS (1 :: bg) (aL (aA qfa (1 :: bf) xs N)) m+1*opS (1 :: bg) (aL (aA qga (1 :: bg) xs N)) m) n:=dS _ n fun m _=>jv _ _ _ _ _
  rw[e1,jv,lC]
  have e2:opS (1 :: bg) (opS (1 :: bf) (aL (aA qfa (1 :: bf) xs N))) n=opS (1 :: bg) (opS qfa (aL xs)) n:=dS _ n fun m hm=>f8 _ _ _ _ _ (by omega)
  have e3:opS (1 :: bf) (opS (1 :: bg) (aL (aA qga (1 :: bg) xs N))) n=opS (1 :: bf) (opS qga (aL xs)) n:=dS _ n fun m hm=>f8 _ _ _ _ _ (by omega)
  rw[e2,e3,v4,v1,v3,lC (aL xs) (1 :: bg) qfa n,lC (aL xs) (1 :: bf) qga n]
  grind
 intro i hi
 rw[t1,t2,t3,iX (by rw[bv];exact hi),iX (by rw[bv];exact hi),iX (by rw[bv];exact hi)]
 have n1:=mo (N:=N) a1 a2 a3 a4 (by omega) (u1 i hi)
 have n2:=mo (N:=N) b1 b2 b3 b4 (by omega) (u2 i hi)
 have n3:=mo (N:=N) c1 c2 c3 c4 (by omega) (u3 i hi)
 have ek:=key i hi
 have ek2:aL (aA qfa (1 :: bf) xs N) i+aL (aA qga (1 :: bg) xs N) i=aL (aA qsa (1 :: bs) xs N) i:=by rw[ek];grind
 unfold aM bE
 rw[show dM (tq (aL (aA qfa (1 :: bf) xs N) i))=_ from b8 n1,show dM (tq (aL (aA qga (1 :: bg) xs N) i))=_ from b8 n2]
 simp only[if_true]
 rw[mD,ek2]
 exact fy n3
theorem ss:bj (⟨#[]⟩:ByteArray).data.toList=false:=by decide +kernel
theorem xL {a b:Rat} (ha:okQ a) (hb:okQ b) (hne:b≠0) (h:bj (aR (tq a) (tq b)).data.toList=true):okQ (a / b)∧aR (tq a) (tq b)=tq (a / b):=by
 have hok:okQ (a / b):=by
  unfold aR aM oR at h
  rw[b8 ha,b8 hb] at h
  have hn:CQ.real b≠⟨0,0⟩:=fun e=>hne (congrArg CQ.re e)
  simp only[if_neg hn,if_true] at h
  rw[rA a b hne] at h
  unfold cA at h
  unfold okQ
  cases hb:dI (CQ.real (a / b))
  ·rfl
  ·rw[hb] at h
   simp only[if_true] at h
   rw[ss] at h
   cases h
 exact⟨hok,iL ha hb hne hok⟩
theorem jO {b:Rat} (hb:okQ b) (hne:b≠0):∀ qs:List Rat,(∀ q∈qs,okQ q)→(∀ s∈(qs.map tq).map (fun a=>aR a (tq b)),bj s.data.toList=true) →
  (qs.map tq).map (fun a=>aR a (tq b))=(qs.map (fun q=>q / b)).map tq∧∀ q∈qs.map (fun q=>q / b),okQ q
 | [],_,_=>⟨rfl,fun q h=>by cases h⟩
 | q :: qs,h1,h2=>by
  obtain⟨e1,e2⟩:=xL (h1 q (CF ..)) hb hne (h2 _ (CF ..))
  obtain⟨e3,e4⟩:=jO hb hne qs (fun r hr=>h1 r (CE _ hr)) (fun s hs=>h2 s (CE _ hs))
  refine⟨?_,fun r hr=>?_⟩
  ·simp only[C3]
   rw[e2,e3]
  ·rcases CW.1 hr with rfl | hr
   ·exact e1
   ·exact e4 r hr
theorem ql {fa fb ga gb:List ByteArray}{r:Except Int (List ByteArray×List ByteArray)} (h:(aB fa fb ga gb r).2≠0):(aB fa fb ga gb r).1=([],[]):=by
 unfold aB at h ⊢
 split
 ·rfl
 ·rename_i h1
  rw[if_neg h1] at h
  split
  ·rfl
  ·rename_i h2
   rw[if_neg h2] at h
   cases r with
   | error n=>rfl
   | ok ab =>
    obtain⟨l1,l2⟩:=ab
    replace h:(if 7<l1.length∨7<l2.length then (([],[]),3) else if ar l1 l2=false then (([],[]),8) else ((l1,l2),0):(List ByteArray×List ByteArray)×Int).2≠0:=h
    show (if 7<l1.length∨7<l2.length then (([],[]),3) else if ar l1 l2=false then (([],[]),8) else ((l1,l2),0):(List ByteArray×List ByteArray)×Int).1=_
    by_cases h3:7<l1.length∨7<l2.length
    ·rw[if_pos h3]
    ·rw[if_neg h3] at h ⊢
     by_cases h4:ar l1 l2=false
     ·rw[if_pos h4]
     ·rw[if_neg h4] at h;exact absurd rfl h
theorem kb {l fa fb:List ByteArray} (h:(aB fa fb fa fb (ci l fa fb)).2=0) :
  ar fa fb=true∧aq (cT fa fb) 0≠⟨#[48]⟩∧aB fa fb fa fb (ci l fa fb)=((l.map (fun a=>aR a (aq (cT fa fb) 0)),(cT fa fb).map (fun a=>aR a (aq (cT fa fb) 0))),0) ∧
   ar (l.map (fun a=>aR a (aq (cT fa fb) 0))) ((cT fa fb).map (fun a=>aR a (aq (cT fa fb) 0)))=true:=by
 by_cases hs:aq (cT fa fb) 0=⟨#[48]⟩
 ·exfalso
  unfold ci at h
  rw[if_pos hs] at h
  unfold aB at h
  split at h
  ·cases h
  ·first | (cases h;done) | (split at h<;>cases h)
 ·have e:ci l fa fb=.ok (l.map (fun a=>aR a (aq (cT fa fb) 0)),(cT fa fb).map (fun a=>aR a (aq (cT fa fb) 0))):=by unfold ci;rw[if_neg hs]
  rw[e] at h ⊢
  obtain⟨h1,h2⟩:=ie h
  refine⟨?_,hs,h1,h2⟩
  unfold aB at h
  by_cases hc:ar fa fb=true
  ·exact hc
  ·rw[if_pos (by simpa using hc)] at h;cases h
end Go.Proofs.YtdlioncecgnloaaGreatDoor
