/- L -/
import Derived.RangeFuncNested
import Derived.RangeFuncBound
import Derived.RangeFuncCalls
import Derived.RangeFuncLeaves
import Derived.Shelf.Abstract
import Derived.Shelf.RegionOpen
import Derived.OwnWalkIn
import Derived.TacticsInMore
import Derived.LoopNIn
import Derived.LoopIn
import Derived.OwnWalk
import Derived.Laws.EntriesVeiled
import Derived.BigQuiet
import Derived.Sort.CutIn
import Derived.Test.YtmakbmhlemhgeaaGreatDoorQMach
import Derived.Test.YtmakbmhlemhgeaaGreatDoorQReg
import Derived.Test.YtmakbmhlemhgeaaGreatDoorQCoef
import Derived.Test.YtmakbmhlemhgeaaGreatDoorQNC7
import Derived.Test.YtmakbmhlemhgeaaGreatDoorQLP5
import Derived.Test.YtmakbmhlemhgeaaGreatDoorQLP13
set_option linter.all false
set_option maxRecDepth 100000
set_option maxHeartbeats 8000000
namespace Go.Proofs.YtmakbmhlemhgeaaGreatDoor
open Go.RowKit Dg Dc
theorem ow:txt ⟨0,0⟩=⟨#[48]⟩:=by decide +kernel
theorem k6:∀ qs:List Rat,(∀ q∈qs,okQ q)->cG (qs.map tq)=some (qs.map CQ.real)
 | [],_=>rfl
 | q :: qs,h=>by
  show (match dc (tq q),cG (qs.map tq) with | some z,some zs=>some (z :: zs) | _,_=>none)=_
  rw[de (h q (sY ..)),k6 qs (fun r hr=>h r (sL _ hr))];rfl
theorem fV {l:List Rat}{j:Nat} (h:j<l.length):aU (l.map tq) j=tq (l.getD j 0):=by
 rw[<-dT (l:=l.map tq) (by simpa using h),sm,rs,ry h];rfl
def shS (j:Nat) (x:Nat->Rat):Nat->Rat:=fun n=>if j<=n then x (n-j) else 0
def opS (qs:List Rat) (x:Nat->Rat):Nat->Rat:=qs.foldr (fun q acc=>fun n=>q*x n+shS 1 acc n) (fun _=>0)
theorem gD (x:Nat->Rat) (n:Nat):opS [] x n=0:=rfl
theorem bh (q:Rat) (qs:List Rat) (x:Nat->Rat) (n:Nat):opS (q :: qs) x n=q*x n+shS 1 (opS qs x) n:=rfl
theorem pE (x:Nat->Rat) (n:Nat):shS 0 x n=x n:=by unfold shS;rw[if_pos (rH _)];rfl
theorem rf (i k:Nat) (x:Nat->Rat) (n:Nat):shS i (shS k x) n=shS (i+k) x n:=by
 unfold shS;by_cases h:i<=n
 ·by_cases h2:k<=n-i
  ·rw[if_pos h,if_pos h2,if_pos (by omega),Nat.sub_sub]
  ·rw[if_pos h,if_neg h2,if_neg (by omega)]
 ·rw[if_neg h,if_neg (by omega)]
theorem nZ (i:Nat) (c:Rat) (x y:Nat->Rat) (n:Nat):shS i (fun m=>x m+c*y m) n=shS i x n+c*shS i y n:=by
 unfold shS;by_cases h:i<=n
 ·rw[if_pos h,if_pos h,if_pos h]
 ·rw[if_neg h,if_neg h,if_neg h];grind
theorem dH {i:Nat}{x y:Nat->Rat} (n:Nat) (h:∀ m,m+i=n->x m=y m):shS i x n=shS i y n:=by
 unfold shS;by_cases hi:i<=n
 ·rw[if_pos hi,if_pos hi];exact h _ (by omega)
 ·rw[if_neg hi,if_neg hi]
theorem i7 (x:Nat->Rat) (c:Rat):∀ (l:List Rat) (n:Nat),opS (l++[c]) x n=opS l x n+c*shS l.length x n
 | [],n=>by
  rw[sZ,bh,gD,r8,pE]
  have e:shS 1 (opS [] x) n=0:=by
   unfold shS
   split<;>rfl
  rw[e];grind
 | q :: l,n=>by
  rw[sl,bh,bh];have e:shS 1 (opS (l++[c]) x) n=shS 1 (fun m=>opS l x m+c*shS l.length x m) n:=dH n fun m _=>i7 x c l m;rw[e,nZ,rf,tM 1,rM];grind
theorem gC {x y:Nat->Rat}:∀ (l:List Rat) (n:Nat),(∀ m,m<=n->x m=y m)->opS l x n=opS l y n
 | [],_,_=>rfl
 | q :: l,n,h=>by
  rw[bh,bh,h n (rp _)];have e:shS 1 (opS l x) n=shS 1 (opS l y) n:=dH n fun m hm=>gC l m (fun k hk=>h k (by omega));rw[e]
theorem nB (c:Rat) (x y:Nat->Rat):∀ (l:List Rat) (n:Nat),opS l (fun m=>x m+c*y m) n=opS l x n+c*opS l y n
 | [],n=>by rw[gD,gD,gD];grind
 | q :: l,n=>by
  rw[bh,bh,bh];have e:shS 1 (opS l fun m=>x m+c*y m) n=shS 1 (fun m=>opS l x m+c*opS l y m) n:=dH n fun m _=>nB c x y l m;rw[e,nZ];grind
theorem mc {b:List Rat}{y z:Nat->Rat}{N:Nat} (h:∀ n,n<N->opS (1 :: b) y n=opS (1 :: b) z n):∀ n,n<N->y n=z n:=by
 intro n
 induction n using Nat.strongRecOn with
 | _ n ih =>
  intro hn;have h1:=h n hn;rw[bh,bh] at h1;have e:shS 1 (opS b y) n=shS 1 (opS b z) n:=dH n fun m hm=>gC b m fun k hk=>ih k (by omega) (by omega);rw[e] at h1;grind
structure mE (l:List ByteArray) (qs:List Rat):Prop where
 e:l=qs.map tq
 ov:∃ D,0<D/\D<=2 ^ 84/\∀ q∈qs,Ov D (2 ^ 96) q
 ok:∀ q∈qs,okQ q
 len:qs.length<=7
theorem pp {a b c:Nat} (h:a+b=c):(2:Nat) ^ a*2 ^ b=2 ^ c:=by rw[<-h,r0]
theorem qK {a b:Nat} (h:a<=b):(2:Nat) ^ a<=2 ^ b:=rI (by decide) h
theorem ql {x a b c:Nat} (h:x<=2 ^ a*2 ^ b) (hc:a+b=c):x<=2 ^ c:=by rw[<-hc,r0];exact h
theorem gw {x y a b c:Nat} (h1:x<=2 ^ a) (h2:y<=2 ^ b) (hc:a+b=c):x*y<=2 ^ c:=ql (sg h1 h2) hc
theorem qL (n:Nat):(2:Nat) ^ (3*n)<10 ^ (n+1):=by
 rw[sE];have h1:((2:Nat) ^ 3) ^ n<=10 ^ n:=sS (by decide) n;have h2:(10:Nat) ^ n<10 ^ (n+1):=Nat.pow_lt_pow_right (by decide) (Nat.lt_succ_self n);exact rP h1 h2
theorem qq {n k m t:Nat} (h:n<=2 ^ k) (hk:k<=3*m) (ht:m+1=t):n<10 ^ t:=by
 subst ht;exact rP (rX h (rI (by decide) hk)) (qL m)
theorem cN {n k:Nat} (h:n<=2 ^ k) (hk:k<=5997):n<10 ^ 2000:=qq (m:=1999) (t:=2000) h (by omega) (by omega)
theorem mq (x y:ByteArray) (l m:List ByteArray):bm (x :: l) (y :: m)=fJ x y :: bm l m:=by
 unfold bm;rw[show (x :: l).length=l.length+1 from rfl,show (y :: m).length=m.length+1 from rfl,List.range_succ_eq_map,sT,List.map_map];congr 1;refine List.map_congr_left fun i _=>?_;simp only[Function.comp,Nat.succ_eq_add_one,Nat.add_lt_add_iff_right];rfl
theorem oe (l:List ByteArray):bm l []=l:=by
 refine List.ext_getElem (by simp[bm]) fun i h1 h2=>?_;simp only[bm,sm,List.getElem_range,r8,Nat.not_lt_zero,if_false];exact (dT h2).symm
theorem lH {k:Nat} (hk:k<=5997):(2:Nat) ^ k<10 ^ 2000:=cN (rp _) hk
theorem lk {x a b c:Nat} (h:x<=2 ^ a) (hc:a+b=c):x*2 ^ b<=2 ^ c:=gw h (rp _) hc
theorem o_ {y a b c:Nat} (h:y<=2 ^ b) (hc:a+b=c):2 ^ a*y<=2 ^ c:=gw (rp _) h hc
theorem mh {k n t m:Nat} (h:(k+1)*2 ^ n<10 ^ t):k*2 ^ n<10 ^ t:=rP (rx _ (rT k)) h
theorem nw {x a b c:Nat} (h:x<=2 ^ a) (hc:a+b=c) (hk:c<=5997):x*2 ^ b<10 ^ 2000:=cN (lk h hc) hk
theorem oc (k n:Nat):k*2 ^ n+2 ^ n=(k+1)*2 ^ n:=by rw[rZ,tW]
theorem jG {x y k:Nat} (h:x<=y):x*2 ^ k<=y*2 ^ k:=rx _ h
def inQ (a x:List Rat) (t:Nat):Nat->Rat
 | 0=>0
 | k+1=>if k<=t then inQ a x t k+a.getD k 0*x.getD (t-k) 0 else inQ a x t k
def eG (b y:List Rat) (t:Nat) (n:Rat):Nat->Rat
 | 0=>n
 | k+1=>if 0<k/\k<=t then eG b y t n k-b.getD k 0*y.getD (t-k) 0 else eG b y t n k
def az (a b x:List Rat):Nat->List Rat
 | 0=>[]
 | t+1=>az a b x t++[eG b (az a b x t) t (inQ a x t a.length) b.length]
theorem a6 (a b x:List Rat):∀ t,(az a b x t).length=t
 | 0=>rfl
 | t+1=>by rw[az,rE,a6 a b x t];rfl
theorem gr {l:List Rat}{k:Nat} (h:k<l.length):l.getD k 0∈l:=by rw[rs,ry h];exact rU h
structure pM (l:List ByteArray) (xs:List Rat):Prop where
 e:l=xs.map tq
 ov:∃ D,0<D/\D<=2 ^ 192/\∀ q∈xs,Ov D (2 ^ 204) q
 ok:∀ q∈xs,okQ q
theorem pQ {D E:Nat}{a x:List Rat}{t:Nat} (hD:0<D) (hE:0<E) (hDE:D*E<10 ^ 2000) (ha:∀ q∈a,Ov D (2 ^ 96) q/\okQ q) (hx:∀ q∈x,Ov E (2 ^ 204) q/\okQ q) (hal:a.length<=7) (ht:t<x.length) :
  ∀ k,k<=a.length->inT (a.map tq) (x.map tq) t k=tq (inQ a x t k)/\Ov (D*E) (k*2 ^ 300) (inQ a x t k)
 | 0,_=>⟨ow.symm,(Ov.zero _).mono (rH _)⟩
 | k+1,hk=>by
  obtain⟨h1,h2⟩:=pQ hD hE hDE ha hx hal ht k (by omega);have hDp:=sa hD hE;rw[inT,inQ];by_cases hkt:k<=t
  ·rw[if_pos hkt,if_pos hkt];have m1:=ha _ (gr (show k<a.length by omega));have m2:=hx _ (gr (show t-k<x.length by omega));have o2:=m1.1.mul m2.1 hD hE;have e2:(2:Nat) ^ 96*2 ^ 204=2 ^ 300:=pp (a:=96) (b:=204) (c:=300) rfl;rw[e2] at o2;have o3:=h2.add o2;have e3:k*2 ^ 300+2 ^ 300=(k+1)*2 ^ 300:=oc k 300;rw[e3] at o3;have b3:(k+1)*2 ^ 300<10 ^ 2000:=nw (x:=k+1) (a:=3) (b:=300) (c:=303) (by omega) rfl (by decide);have b1:k*2 ^ 300<10 ^ 2000:=mh (k:=k) (n:=300) (t:=2000) (m:=0) b3;refine⟨?_,o3⟩;rw[h1,fV (by omega),fV (by omega),lq m1.2 m2.2 (o2.ok hDp hDE (lH (k:=300) (by decide))),oJ (h2.ok hDp hDE b1) (o2.ok hDp hDE (lH (k:=300) (by decide))) (o3.ok hDp hDE b3)]
  ·rw[if_neg hkt,if_neg hkt];exact⟨h1,h2.mono (jG (x:=k) (y:=k+1) (k:=300) (rT k))⟩
theorem nD {W E:Nat}{b y:List Rat}{t:Nat}{n:Rat} (hW:0<W) (hE:0<E) (hWl:W<=2 ^ 276) (hEl:E<=2 ^ 84) (ht:t<=16) (hb:∀ q∈b,Ov E (2 ^ 96) q/\okQ q) (hyl:y.length=t) (hbl:b.length<=7)
  (hy:∀ s,s<t->Ov (W*E ^ s) (2 ^ (306+190*s)) (y.getD s 0)) (hn:Ov W (7*2 ^ 300) n) :
  ∀ k,k<=b.length->gE (b.map tq) (y.map tq) t (tq n) k=tq (eG b y t n k)/\Ov (W*E ^ t) (2 ^ (303+190*t)+k*2 ^ (212+190*t)) (eG b y t n k)
 | 0,_=>by
  refine⟨rfl,?_⟩;have hEt:0<E ^ t:=sf hE;have h2:7*2 ^ 300<=2 ^ 303:=lk (x:=7) (a:=3) (b:=300) (c:=303) (by decide) rfl;refine ((hn.mono h2).wide (E ^ t) hW hEt).mono ?_;have h1:E ^ t<=2 ^ (84*t):=by rw[sE];exact sS hEl t
  have h3:2 ^ 303*E ^ t<=2 ^ (303+84*t):=o_ (y:=E ^ t) (a:=303) (b:=84*t) (c:=303+84*t) h1 rfl;have h4:(2:Nat) ^ (303+84*t)<=2 ^ (303+190*t):=qK (by omega);exact rX h3 (rX h4 (tP _ _))
 | k+1,hk=>by
  obtain⟨h1,h2⟩:=nD hW hE hWl hEl ht hb hyl hbl hy hn k (by omega);have hEt:0<E ^ t:=sf hE;have hDp:=sa hW hEt;have hEl2:E ^ t<=2 ^ (84*t):=by rw[sE];exact sS hEl t
  have hDE:W*E ^ t<10 ^ 2000:=by
   exact cN (gw (x:=W) (y:=E ^ t) (a:=276) (b:=84*t) (c:=276+84*t) hWl hEl2 rfl) (by omega)
  rw[gE,eG];have e3:2 ^ (303+190*t)+k*2 ^ (212+190*t)+2 ^ (212+190*t)=2 ^ (303+190*t)+(k+1)*2 ^ (212+190*t):=by rw[rZ,tW,sV]
  have b3:2 ^ (303+190*t)+(k+1)*2 ^ (212+190*t)<10 ^ 2000:=by
   have k1:=rx (2 ^ (212+190*t)) (show k+1<=2 ^ 3 by omega);rw[<-r0] at k1;have k2:(2:Nat) ^ (3+(212+190*t))<=2 ^ (303+190*t):=rI (by decide) (by omega);have k3:(2:Nat) ^ (304+190*t)=2 ^ (303+190*t)+2 ^ (303+190*t):=by rw[show 304+190*t=(303+190*t)+1 from by omega,rK,Nat.mul_two]
   exact cN (k:=304+190*t) (by omega) (by omega)
  by_cases hkt:0<k/\k<=t
  ·rw[if_pos hkt,if_pos hkt];have m1:=hb _ (gr (show k<b.length by omega));have m2:=hy (t-k) (by omega);have hEs:0<E ^ (t-k):=sf hE;have o1:=(m1.1.mul m2 hE (sa hW hEs)).wide (E ^ (k-1)) (sa hE (sa hW hEs)) (sf hE)
   have eD:E*(W*E ^ (t-k))*E ^ (k-1)=W*E ^ t:=by
    have e:E ^ t=E*E ^ (t-k)*E ^ (k-1):=by
     rw[<-Nat.pow_succ',<-r0];congr 1;omega
    rw[e];simp only[Nat.mul_left_comm,rQ,tJ]
   rw[eD] at o1
   have o2:Ov (W*E ^ t) (2 ^ (212+190*t)) (b.getD k 0*y.getD (t-k) 0):=o1.mono (by
    have h3:E ^ (k-1)<=2 ^ (84*(k-1)):=by rw[sE];exact sS hEl _
    have h4:=rY (2 ^ 96*2 ^ (306+190*(t-k))) h3;rw[<-r0,<-r0] at h4;refine rX ?_ (rX h4 (rI (by decide) (by omega)));rw[<-r0]
    exact rp _)
   have o3:=h2.sub o2;rw[e3] at o3;have b1:2 ^ (303+190*t)+k*2 ^ (212+190*t)<10 ^ 2000:=rP (by rw[<-e3];exact tP _ _) b3;have b2:(2:Nat) ^ (212+190*t)<10 ^ 2000:=cN (rp _) (by omega)
   have ky:okQ (y.getD (t-k) 0):=by
    have hEs2:E ^ (t-k)<=2 ^ (84*(t-k)):=by rw[sE];exact sS hEl _
    exact m2.ok (sa hW hEs) (cN (gw (x:=W) (y:=E ^ (t-k)) (a:=276) (b:=84*(t-k)) (c:=276+84*(t-k)) hWl hEs2 rfl) (by omega)) (cN (rp _) (by omega))
   refine⟨?_,o3⟩;rw[h1,fV (by omega),fV (by omega),lq m1.2 ky (o2.ok hDp hDE b2),pF (h2.ok hDp hDE b1) (o2.ok hDp hDE b2) (o3.ok hDp hDE b3)]
  ·rw[if_neg hkt,if_neg hkt];exact⟨h1,h2.mono (by rw[<-e3];exact tP _ _)⟩
theorem iy {a b x:List ByteArray}{qa qb xs:List Rat} (ha:mE a qa) (hb:mE b qb) (hx:pM x xs) :
  ∃ W E,0<W/\0<E/\W<=2 ^ 276/\E<=2 ^ 84/\∀ t,t<=16->t<=xs.length->aX a b x t=(az qa qb xs t).map tq/\∀ s,s<t->Ov (W*E ^ s) (2 ^ (306+190*s)) ((az qa qb xs t).getD s 0):=by
 obtain⟨Da,hDa,hDal,oa⟩:=ha.ov;obtain⟨E,hE,hEl,ob⟩:=hb.ov;obtain⟨Dx,hDx,hDxl,ox⟩:=hx.ov;have hW:Da*Dx<=2 ^ 276:=gw (x:=Da) (y:=Dx) (a:=84) (b:=192) (c:=276) hDal hDxl rfl;have hWp:=sa hDa hDx;have hW2:=cN hW (by decide);refine⟨Da*Dx,E,hWp,hE,hW,hEl,fun t=>?_⟩
 induction t with
 | zero=>exact fun _ _=>⟨rfl,fun s hs=>by omega⟩
 | succ t ih =>
  intro ht htl;obtain⟨h1,h2⟩:=ih (by omega) (by omega);have hl:=a6 qa qb xs t;obtain⟨i1,i2⟩:=pQ (t:=t) hDa hDx hW2 (fun q hq=>⟨oa q hq,ha.ok q hq⟩) (fun q hq=>⟨ox q hq,hx.ok q hq⟩) ha.len (by omega) qa.length (rp _);obtain⟨k1,k2⟩:=nD (t:=t) hWp hE hW hEl (by omega) (fun q hq=>⟨ob q hq,hb.ok q hq⟩) hl hb.len h2 (i2.mono (jG (x:=qa.length) (y:=7) (k:=300) ha.len)) qb.length (rp _);refine⟨?_,fun s hs=>?_⟩
  ·rw[aX,az,sX,h1];congr 1;unfold fZ;rw[ha.e,hb.e,hx.e,rJ,rJ,i1,k1];rfl
  ·rw[az,rs];by_cases h:s<t
   ·rw[su (by omega),<-rs];exact h2 s h
   ·obtain rfl:s=t:=by omega
    rw[sI (by omega),hl,Nat.sub_self];refine k2.mono ?_;have e:=rx (2 ^ (212+190*s)) (show qb.length<=2 ^ 3 by have:=hb.len;omega);rw[<-r0] at e;have e2:(2:Nat) ^ (3+(212+190*s))<=2 ^ (303+190*s):=rI (by decide) (by omega);have e3:(2:Nat) ^ (306+190*s)=2 ^ 3*2 ^ (303+190*s):=by rw[<-r0];congr 1;omega
    rw[e3];omega
def a7 (l:List Rat):Nat->Rat:=fun n=>l.getD n 0
theorem m_ (a x:List Rat) (t:Nat):∀ k,k<=a.length->inQ a x t k=opS (a.take k) (a7 x) t
 | 0,_=>by rw[rG];rfl
 | k+1,hk=>by
  have hka:k<a.length:=by omega
  rw[inQ,m_ a x t k (by omega),show a.take (k+1)=a.take k++[a.getD k 0] from by
   rw[rs,ry hka]
   exact (rL hka).symm,i7,rV,r9 (by omega)]
  unfold shS;by_cases h:k<=t
  ·rw[if_pos h,if_pos h];rfl
  ·rw[if_neg h,if_neg h];grind
theorem nC (b y:List Rat) (t:Nat) (n:Rat) (hy:y.length<=t):∀ k,k<=b.length->eG b y t n k=n-opS (b.take k) (a7 y) t
 | 0,_=>by rw[rG,gD,eG];grind
 | k+1,hk=>by
  have hkb:k<b.length:=by omega
  rw[eG,nC b y t n hy k (by omega),show b.take (k+1)=b.take k++[b.getD k 0] from by
   rw[rs,ry hkb]
   exact (rL hkb).symm,i7,rV,r9 (by omega)]
  unfold shS;by_cases h:0<k/\k<=t
  ·rw[if_pos h,if_pos h.2]
   show _-b.getD k 0*y.getD (t-k) 0=n-(_+b.getD k 0*y.getD (t-k) 0)
   grind
  ·rw[if_neg h];by_cases h2:k<=t
   ·obtain rfl:k=0:=by omega
    rw[if_pos h2]
    have e:a7 y (t-0)=0:=by
     unfold a7;rw[rs,sb (by omega)];rfl
    rw[e];grind
   ·rw[if_neg h2];grind
theorem ef (a b x:List Rat) {s t:Nat} (hs:s<t):∀ N,t<=N->(az a b x N).getD s 0=(az a b x t).getD s 0
 | 0,h=>by omega
 | N+1,h=>by
  by_cases e:t=N+1
  ·rw[e]
  ·rw[az,rs,su (by rw[a6];omega),<-rs,ef a b x hs N (by omega)]
theorem ix (a b' x:List Rat) (N t:Nat) (ht:t<N):opS (1 :: b') (a7 (az a (1 :: b') x N)) t=opS a (a7 x) t:=by
 have e1:(az a (1 :: b') x N).getD t 0=opS a (a7 x) t-opS (1 :: b') (a7 (az a (1 :: b') x t)) t:=by
  rw[ef a (1 :: b') x (show t<t+1 by omega) N (by omega),az,rs,sI (by rw[a6];exact rp _),a6,Nat.sub_self]
  show eG _ _ _ _ _=_
  rw[nC _ _ _ _ (by rw[a6];exact rp _) _ (rp _),m_ _ _ _ _ (rp _),r_,r_]
 have e2:a7 (az a (1 :: b') x t) t=0:=by
  unfold a7;rw[rs,sb (by rw[a6];exact rp _)];rfl
 rw[bh] at e1;rw[bh];have e3:shS 1 (opS b' (a7 (az a (1 :: b') x N))) t=shS 1 (opS b' (a7 (az a (1 :: b') x t))) t:=dH t fun m hm=>gC b' m fun k hk=>ef a (1 :: b') x (show k<t by omega) N (by omega);rw[e2] at e1;rw[e3]
 show 1*(az a (1 :: b') x N).getD t 0+_=_
 rw[e1];grind
open Go.RowKit Dg
def qQ:List ByteArray:=[⟨#[48]⟩,⟨#[49,47,50]⟩]
def qR:List ByteArray:=[⟨#[49]⟩,⟨#[45,49,47,50]⟩]
def pP:List ByteArray:=[⟨#[45,50]⟩,⟨#[45,49]⟩,⟨#[48]⟩,⟨#[49]⟩,⟨#[50]⟩,⟨#[51]⟩]
structure WinP (w:World) (g:Nat) (p:Option Addr) (c:Nat) (q:Option Addr) (d b o cl:Nat):Prop where
 f0:w.cell? ⟨g,0,none⟩=some (.slice p 2 c)
 f1:w.cell? ⟨g,1,none⟩=some (.slice q 2 d)
 m:w.heap[g+1]?=some (.cells #[.string ⟨#[]⟩,.string ⟨#[]⟩] 75 (0,0))
 F:IsF w (.agg #[.slice p 2 c,.slice q 2 d]) qQ qR
 L:IsS w (.slice (some ⟨b,o,none⟩) 6 cl) pP
 G:Gx w
theorem WinP.cells {w:World}{g:Nat}{p:Option Addr}{c:Nat}{q:Option Addr}{d b o cl:Nat} (h:WinP w g p c q d b o cl):g+1<w.heap.size/\b<w.heap.size/\∀ i,i<6->w.cell? ⟨b,o+i,none⟩=some (.string (aU pP i)):=by
 obtain⟨b',o',e,hlt,hc⟩:=h.L.all (by decide);obtain⟨rfl,rfl⟩:b=b'/\o=o':=by simpa using e
 exact⟨(rD.1 h.m).1,hlt,fun i hi=>hc i hi⟩
theorem lc {B:Nat}{w:World}{u:Value}{l m:List ByteArray} (h:oI B w u l m):∃ p1 c1 p2 c2,u=.agg #[.slice p1 l.length c1,.slice p2 m.length c2]/\IsS w (.slice p1 l.length c1) l/\IsS w (.slice p2 m.length c2) m:=by
 obtain⟨p1,c1,p2,c2,e,h1,h2,-,-⟩:=h.ex;exact⟨p1,c1,p2,c2,e,h1,h2⟩
structure jg (w:World) (g:Nat) (p:Option Addr) (c:Nat) (q:Option Addr) (d:Nat) (la lb:List ByteArray):Prop where
 f0:w.cell? ⟨g,0,none⟩=some (.slice p la.length c)
 f1:w.cell? ⟨g,1,none⟩=some (.slice q lb.length d)
 l0:IsS w (.slice p la.length c) la
 l1:IsS w (.slice q lb.length d) lb
 lt:g<w.heap.size
theorem jg.below {w w':World}{g:Nat}{p:Option Addr}{c:Nat}{q:Option Addr}{d:Nat}{la lb:List ByteArray} (h:jg w g p c q d la lb) (hb:Below w.heap.size w w'):jg w' g p c q d la lb :=
 ⟨ac hb h.lt h.f0,ac hb h.lt h.f1,h.l0.below hb,h.l1.below hb,rA h.lt hb.size⟩
theorem jg.F {w:World}{g:Nat}{p:Option Addr}{c:Nat}{q:Option Addr}{d:Nat}{la lb:List ByteArray} (h:jg w g p c q d la lb):IsF w (.agg #[.slice p la.length c,.slice q lb.length d]) la lb:=⟨⟨p,c,q,d,rfl,h.l0,h.l1⟩⟩
theorem np (v:Value) (a b L1 L2:List ByteArray) (er:Int) (w:World) (h:fp a b=((L1,L2),er)) (hF:IsF w v a b) (hG:Gx w) :
  Calls Tryz.prog 7 #[v] w fun e w'=>∃ p1 c1 p2 c2,e=.returned (.tuple #[.agg #[.slice p1 L1.length c1,.slice p2 L2.length c2],.int .i64 er])/\IsS w' (.slice p1 L1.length c1) L1/\IsS w' (.slice p2 L2.length c2) L2/\Below w.heap.size w w':=by
 refine (qN v a b w hF hG).mono ?_;rintro e w' ⟨u,rfl,hu,hb⟩;rw[h] at hu |-;obtain⟨p1,c1,p2,c2,rfl,g1,g2⟩:=lc hu;exact⟨p1,c1,p2,c2,rfl,g1,g2,hb⟩
theorem mP (v:Value) (a b L1 L2:List ByteArray) (er:Int) (w:World) (h:cY a b=((L1,L2),er)) (hF:IsF w v a b) (hG:Gx w) :
  Calls Tryz.prog 8 #[v] w fun e w'=>∃ p1 c1 p2 c2,e=.returned (.tuple #[.agg #[.slice p1 L1.length c1,.slice p2 L2.length c2],.int .i64 er])/\IsS w' (.slice p1 L1.length c1) L1/\IsS w' (.slice p2 L2.length c2) L2/\Below w.heap.size w w':=by
 refine (oG v a b w hF hG).mono ?_;rintro e w' ⟨u,rfl,hu,hb⟩;rw[h] at hu |-;obtain⟨p1,c1,p2,c2,rfl,g1,g2⟩:=lc hu;exact⟨p1,c1,p2,c2,rfl,g1,g2,hb⟩
end Go.Proofs.YtmakbmhlemhgeaaGreatDoor
