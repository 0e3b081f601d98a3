/- L -/
import Derived.Test.YtmakbmhlemhgeaaGreatDoorQMach
import Derived.Test.YtmakbmhlemhgeaaGreatDoorQNat
import Derived.Test.YtmakbmhlemhgeaaGreatDoorQGet
import Derived.Test.YtmakbmhlemhgeaaGreatDoorQNRat3
import Derived.Test.YtmakbmhlemhgeaaGreatDoorQNVal6
import Derived.Test.YtmakbmhlemhgeaaGreatDoorQCoef
set_option linter.all false
set_option maxRecDepth 100000
set_option maxHeartbeats 8000000
namespace Go.Proofs.YtmakbmhlemhgeaaGreatDoor
open Go.RowKit Dg
theorem Sz.fewR {k l:Nat}{r s:Rt} (h:Sz k r) (h':Sz l s) (hk:k+l+1<=800000):kr r s :=
 have h1:=bR h.n h'.d;have h2:=bR h'.n h.d
 ⟨h.p,h'.p,gn h1 (by omega),gn h2 (by omega),gn (kZ h1 h2) hk,gn (bR h.d h'.d) (by omega)⟩
theorem Sz.fewM {k l:Nat}{r s:Rt} (h:Sz k r) (h':Sz l s) (hk:k+l<=800000):mC r s :=
 ⟨h.p,h'.p,gn (bR h.n h'.n) hk,gn (bR h.d h'.d) hk⟩
structure SzV (k:Nat) (z:Vl):Prop where
 x:Sz k z.x
 y:Sz k z.y
theorem SzV.mono {k l:Nat}{z:Vl} (h:SzV k z) (hk:k<=l):SzV l z:=⟨h.x.mono hk,h.y.mono hk⟩
theorem SzV.conj {k:Nat}{u:Vl} (h:SzV k u):SzV k (ic u):=⟨h.x,h.y.neg⟩
theorem SzV.plain {k:Nat}{r:Rt} (h:Sz k r) (hk:1<=k):SzV k (dj r):=⟨h,.zero hk⟩
theorem SzV.times {k l:Nat}{u v:Vl} (h:SzV k u) (h':SzV l v):SzV (2*(k+l)+1) (bN u v):=by
 unfold bN
 split
 ·exact⟨(h.x.mul h'.x).mono (by omega),.zero (by omega)⟩
 ·exact⟨((h.x.mul h'.x).plus (h.y.mul h'.y).neg).mono (by omega),((h.x.mul h'.y).plus (h.y.mul h'.x)).mono (by omega)⟩
theorem SzV.fewV {k l:Nat}{u v:Vl} (h:SzV k u) (h':SzV l v) (hk:2*(k+l)+1<=800000):FewV u v :=
 ⟨h.x.fewM h'.x (by omega),h.y.fewM h'.y (by omega),h.x.fewM h'.y (by omega),h.y.fewM h'.x (by omega),(h.x.mul h'.x).fewR (h.y.mul h'.y).neg (by omega),(h.x.mul h'.y).fewR (h.y.mul h'.x) (by omega)⟩
def iu (u:Vl):Rt:=bj (aH u.x u.x) (aH u.y u.y)
theorem SzV.norm {k:Nat}{u:Vl} (h:SzV k u):Sz (4*k+1) (iu u):=((h.x.mul h.x).plus (h.y.mul h.y)).mono (by omega)
def nE (u v:Vl):Vl:=bN (bN u (ic v)) (dj (nj (iu v)))
structure CQ where
 re:Rat
 im:Rat
deriving DecidableEq
def ct (z:CQ):Vl:=⟨rt z.re,rt z.im⟩
def CQ.real (q:Rat):CQ:=⟨q,0⟩
def CQ.add (a b:CQ):CQ:=⟨a.re+b.re,a.im+b.im⟩
def CQ.neg (a:CQ):CQ:=⟨-a.re,-a.im⟩
def CQ.sub (a b:CQ):CQ:=⟨a.re-b.re,a.im-b.im⟩
def CQ.mul (a b:CQ):CQ:=⟨a.re*b.re-a.im*b.im,a.re*b.im+a.im*b.re⟩
def CQ.norm (a:CQ):Rat:=a.re*a.re+a.im*a.im
def CQ.div (a b:CQ):CQ:=⟨(a.re*b.re+a.im*b.im)*b.norm⁻¹,(a.im*b.re-a.re*b.im)*b.norm⁻¹⟩
def CQ.conj (a:CQ):CQ:=⟨a.re,-a.im⟩
theorem fY:rt 0=⟨false,0,1⟩:=rfl
theorem fd (q:Rat):dj (rt q)=ct (CQ.real q):=by unfold dj ct CQ.real;rw[fY]
theorem j0 (a b:CQ):iB (ct a) (ct b)=ct (a.add b):=by unfold iB ct CQ.add;rw[dG,dG]
theorem pi (a:CQ):kI (ct a)=ct a.neg:=by unfold kI ct CQ.neg;rw[fU,fU]
theorem mT (a:CQ):ic (ct a)=ct a.conj:=by unfold ic ct CQ.conj;rw[fU]
theorem nr (a b:CQ):ll (ct a) (ct b)=ct (a.sub b):=by
 unfold ll;rw[pi,j0];unfold CQ.add CQ.neg CQ.sub;rw[Rat.sub_eq_add_neg,Rat.sub_eq_add_neg]
theorem fk (a b:CQ):bN (ct a) (ct b)=ct (a.mul b):=by
 unfold bN
 split
 ·rename_i h
  have h1:a.im=0:=(br _).1 h.1;have h2:b.im=0:=(br _).1 h.2
  show dj (aH (rt a.re) (rt b.re))=_
  rw[dh,fd];unfold CQ.real CQ.mul;rw[h1,h2];congr 1<;>grind
 ·show (⟨bj (aH (rt a.re) (rt b.re)) (cw (aH (rt a.im) (rt b.im))),bj (aH (rt a.re) (rt b.im)) (aH (rt a.im) (rt b.re))⟩:Vl)=_
  rw[dh,dh,dh,dh,fU,dG,dG];unfold ct CQ.mul;rw[Rat.sub_eq_add_neg]
theorem jT (a:CQ):iu (ct a)=rt a.norm:=by
 show bj (aH (rt a.re) (rt a.re)) (aH (rt a.im) (rt a.im))=_
 rw[dh,dh,dG];rfl
theorem iv {a:CQ} (h:a.norm=0):a=⟨0,0⟩:=by
 obtain⟨x,y⟩:=a;unfold CQ.norm at h;simp only at h
 have h1:0<=x*x:=by
  rcases Rat.le_total (a:=0) (b:=x) with h | h
  ·exact Rat.mul_nonneg h h
  ·have:=Rat.mul_nonneg (a:=-x) (b:=-x) (by grind) (by grind);grind
 have h2:0<=y*y:=by
  rcases Rat.le_total (a:=0) (b:=y) with h | h
  ·exact Rat.mul_nonneg h h
  ·have:=Rat.mul_nonneg (a:=-y) (b:=-y) (by grind) (by grind);grind
 have h3:x*x=0:=by grind
 have h4:y*y=0:=by grind
 rcases Rat.mul_eq_zero.1 h3 with h5 | h5<;>rcases Rat.mul_eq_zero.1 h4 with h6 | h6<;>rw[h5,h6]
theorem nF {a b:CQ} (h:b≠⟨0,0⟩):nE (ct a) (ct b)=ct (a.div b):=by
 have h0:b.norm≠0:=fun h'=>h (iv h');unfold nE;rw[mT,fk,jT,o0 h0,fd,fk];congr 1;unfold CQ.real CQ.mul CQ.conj CQ.div;congr 1<;>grind
structure IsK (w:World) (v:Value) (z:CQ):Prop where
 v:IsV w v (ct z)
 s:SzV 10000 (ct z)
theorem IsK.below {w w':World}{v:Value}{z:CQ} (h:IsK w v z) (hb:Below w.heap.size w w'):IsK w' v z:=⟨h.v.below hb,h.s⟩
open Go.RowKit
def i64s (l:List Nat):List Value:=l.map fun (d:Nat)=>Value.int .i64 (d:Int)
def pX (w:World) (g cap:Nat) (l:List Nat):Prop:=w.ownsRow g 3 1 (.slice (some ⟨g,0,none⟩) l.length cap) l.length (i64s l)
theorem pX.drewN {w:World}{g cap:Nat}{l:List Nat} (h:pX w g cap l) (n:Nat):pX (w.drewN n) g cap l:=h
def RR:Nat:=10000
open Dg
theorem val_cons (d:Nat) (l:List Nat):val RR (d :: l)=d+RR*val RR l:=rfl
open Dg Dc
/-! ### reading -/
/-- how many digits a text begins with, m at most -/
def gX:List UInt8->Nat->Nat
 | [],_=>0
 | _ :: _,0=>0
 | c :: s,m+1=>if aL c then gX s m+1 else 0
def fL (s:List UInt8):Nat×List UInt8:=(aC (s.take (gX s 2001)),s.drop (gX s 2001))
def nM (s:List UInt8):Rt×List UInt8 :=
 if gX s 2001=0 then (⟨false,1,1⟩,s)
 else if (fL s).2.head?=some 47/\(fL ((fL s).2.drop 1)).1≠0 then (bv false (fL s).1 (fL ((fL s).2.drop 1)).1,(fL ((fL s).2.drop 1)).2)
 else (⟨false,(fL s).1,1⟩,(fL s).2)
def rc:Rt:=⟨false,0,1⟩
structure jf (r:Rt):Prop where
 pos:0<r.d
 gcd:Nat.gcd r.n r.d=1
 sign:r.minus=true->r.n≠0
theorem jl {mi:Bool}{n d:Nat} (h:0<d):jf (bv mi n d):=by
 unfold bv
 split
 ·exact⟨by decide,by decide,fun h=>by cases h⟩
 ·rename_i hn
  have hg:0<Nat.gcd n d:=sP _ h;refine⟨tV (tO _ h) hg,?_,fun _=>?_⟩
  ·rw[Nat.gcd_div (tN ..) (Nat.gcd_dvd_right ..),Nat.div_self hg]
  have:0<n / Nat.gcd n d:=tV (Nat.le_of_dvd (by omega) (tN ..)) hg
  show n / Nat.gcd n d≠0
  omega
theorem cI {s:List UInt8}{r:Rt} (h:aY s=some r):jf r:=by
 unfold aY at h
 split at h
 ·cases h
 ·split at h
  ·split at h
   ·cases h
   ·split at h
    ·cases h
    ·rename_i h0;injection h with h;subst h;exact jl (by omega)
  ·injection h with h;subst h;exact jl (by decide)
theorem fX {r:Rt} (h:jf r):bv r.minus r.n r.d=r:=by
 obtain⟨m,n,d⟩:=r;have h1:=h.pos;have h2:=h.gcd;have h3:=h.sign;simp only at h1 h2 h3 |-;unfold bv;rw[h2,tU,tU]
 split
 ·rename_i h0
  subst h0;rw[Nat.gcd_zero_left] at h2
  cases m
  ·rw[h2]
  ·exact absurd rfl (h3 rfl)
 ·rfl
/-! ### texts of digits -/
theorem mU (n:Nat):∃ c r,dec n=c :: r/\aL c=true:=by
 cases h:dec n with
 | nil=>exact absurd h (c_ n)
 | cons c r =>
  have:=dO n;rw[h,List.all_cons,rS] at this;exact⟨c,r,rfl,this.1⟩
theorem kD {c:UInt8} (h:aL c=true):c≠43/\c≠45/\c≠47/\c≠105:=by
 unfold aL at h;simp only[rS,decide_eq_true_eq] at h;refine⟨?_,?_,?_,?_⟩<;>(intro e;subst e;revert h;decide)
theorem jq:∀ (l t:List UInt8) (m:Nat),l.all aL=true->l.length<=m->(∀ c,t.head?=some c->aL c=false)->gX (l++t) m=l.length
 | [],[],m,_,_,_=>by simp[gX]
 | [],c :: t,0,_,_,_=>by simp[gX]
 | [],c :: t,m+1,_,_,h=>by
  have:=h c rfl;simp[gX,this]
 | c :: l,t,0,_,h,_=>by simp at h
 | c :: l,t,m+1,ha,hl,h=>by
  rw[List.all_cons,rS] at ha;rw[sl,gX,if_pos ha.1,jq l t m ha.2 (by simpa using hl) h];rfl
theorem gM {n:Nat}{t:List UInt8} (hl:(dec n).length<=2001) (h:∀ c,t.head?=some c->aL c=false):fL (dec n++t)=(n,t)/\gX (dec n++t) 2001=(dec n).length:=by
 have e:=jq (dec n) t 2001 (dO n) hl h;refine⟨?_,e⟩;unfold fL;rw[e,List.take_left',List.drop_left',gm]<;>rfl
def gV (r:Rt):List UInt8:=dec r.n++(if 1<r.d then 47 :: dec r.d else [])
theorem fe (r:Rt):aR r=(if r.minus then [45] else [])++gV r:=by unfold aR gV;rw[sK]
theorem gh {r:Rt} (h:bV r=false):(dec r.n).length<=2000/\(dec r.d).length<=2000:=by
 unfold bV at h;simp only[tD,decide_eq_false_iff_not] at h;omega
theorem mG (r:Rt):∃ c t,gV r=c :: t/\aL c=true:=by
 obtain⟨c,t,h1,h2⟩:=mU r.n;exact⟨c,t++_,by unfold gV;rw[h1];rfl,h2⟩
theorem qM {r:Rt} (h:jf r) (hb:bV r=false):nM (gV r)=(⟨false,r.n,r.d⟩,[]):=by
 obtain⟨h1,h2⟩:=gh hb;have hp:=cp r.n;have hpos:=h.pos;unfold gV
 split
 ·rename_i hd
  obtain⟨e1,e2⟩:=gM (n:=r.n) (t:=47 :: dec r.d) (by omega) (fun c hc=>by simp at hc;subst hc;decide);obtain⟨e3,_⟩:=gM (n:=r.d) (t:=[]) (by omega) (fun c hc=>by cases hc);rw[sW] at e3;unfold nM;rw[e2,if_neg (by omega),e1];simp only[List.head?_cons,List.drop_one,List.tail_cons];rw[e3,if_pos ⟨by simp,by show r.d≠0;omega⟩];have:=fX (r:=⟨false,r.n,r.d⟩) ⟨h.pos,h.gcd,fun h=>by cases h⟩;rw[this]
 ·rename_i hd
  obtain⟨e1,e2⟩:=gM (n:=r.n) (t:=[]) (by omega) (fun c hc=>by cases hc);rw[show r.d=1 by omega];unfold nM;rw[e2,if_neg (by omega),e1];rfl
theorem ej {z:Vl} (h:z.y.n=0):bX z=aR z.x:=by unfold bX;rw[if_pos h]
/-! ### the program's reading of such a text -/
theorem gZ {l:List UInt8}{c d:UInt8} (h:c≠d):Lib.hasSuffix (l++[c]) [d]=false:=by
 unfold Lib.hasSuffix;rw[sC];intro he;rw[List.isSuffixOf_iff_suffix] at he;obtain⟨t,ht⟩:=he;have:=List.append_inj_right' ht rfl;simp at this;exact h this.symm
theorem jv (n:Nat):∃ l c,dec n=l++[c]/\aL c=true:=by
 have hne:=c_ n;have:=tH hne;exact⟨_,_,this.symm,rO.1 (dO n) _ (List.getLast_mem hne)⟩
theorem mr (r:Rt):∃ l c,aR r=l++[c]/\aL c=true:=by
 rw[fe];unfold gV;by_cases hd:1<r.d
 all_goals first | rw[if_pos hd] | rw[if_neg hd]
 ·obtain⟨l,c,h1,h2⟩:=jv r.d;exact⟨(if r.minus then [45] else [])++(dec r.n++47 :: l),c,by rw[h1];simp only[sK,sl],h2⟩
 ·obtain⟨l,c,h1,h2⟩:=jv r.n;exact⟨(if r.minus then [45] else [])++l,c,by rw[h1];simp only[sK,sW],h2⟩
theorem kL (r:Rt):cO (aR r)=(aR r,[48]):=by
 obtain⟨l,c,h1,h2⟩:=mr r;have:Lib.hasSuffix (aR r) [105]=false:=by rw[h1];exact gZ (kD h2).2.2.2
 unfold cO;rw[this];rfl
theorem gJ (c d:UInt8) (l:List UInt8):Lib.hasPrefix (c :: l) [d]=decide (c=d):=by
 unfold Lib.hasPrefix;rw[Bool.eq_iff_iff,tI];simp[List.cons_prefix_cons,eq_comm]
theorem mv (r:Rt):Lib.trimPrefix (aR r) [45]=gV r/\Lib.hasPrefix (aR r) [45]=r.minus:=by
 rw[fe];obtain⟨c,t,e1,e2⟩:=mG r;unfold Lib.trimPrefix
 cases r.minus
 ·simp only[so,if_false,sZ];rw[e1,gJ,decide_eq_false (kD e2).2.1];exact⟨rfl,rfl⟩
 ·simp only[if_true,sl,sZ];rw[gJ,decide_eq_true rfl];exact⟨rfl,rfl⟩
theorem iY {s:List UInt8}{d:UInt8}{i:Nat}:Lib.occAt s [d] i=true↔s[i]?=some d:=by
 unfold Lib.occAt;rw[tI];constructor
 ·rintro⟨t,ht⟩;have:(s.drop i)[0]?=some d:=by rw[<-ht];rfl
  rw[List.getElem?_drop] at this;simpa using this
 ·intro h;obtain⟨hi,e⟩:=tl.1 h;exact⟨s.drop (i+1),by rw[ss hi,e];rfl⟩
theorem kF {s:List UInt8}{d:UInt8} (h:d∉s):Lib.index s [d]=-1:=by
 refine Lib.index_none (fun j _=>?_);rw[sC];intro he;exact h (List.mem_of_getElem? (iY.1 he))
theorem l3 {l t:List UInt8}{d:UInt8} (h:d∉l):Lib.index (l++d :: t) [d]=l.length:=by
 refine Lib.index_first (by simp) (iY.2 (by simp)) (fun j hj=>?_);rw[sC];intro he;have:=iY.1 he;rw[su hj] at this;exact h (List.mem_of_getElem? this)
theorem jS {l:List UInt8} (h:l.all aL=true):(47:UInt8)∉l:=fun hm=>(kD (rO.1 h _ hm)).2.2.1 rfl
theorem dD (n:Nat):aK (dec n)=some n:=by
 unfold aK;rw[if_pos ⟨c_ n,dO n⟩,gm]
theorem jY {r:Rt} (h:jf r):aY (aR r)=some r:=by
 obtain⟨e1,e2⟩:=mv r;have hpos:=h.pos;unfold aY;rw[e1,e2];unfold gV Lib.cut;by_cases hd:1<r.d
 all_goals first | rw[if_pos hd] | rw[if_neg hd]
 ·rw[l3 (jS (dO r.n)),if_pos (by omega)];simp only[Int.toNat_natCast];rw[List.take_left' rfl,dD];simp only[if_true];have:(dec r.n++47 :: dec r.d).drop ((dec r.n).length+([47]:List UInt8).length)=dec r.d:=by simp[List.drop_append]
  rw[this,dD];simp only;rw[if_neg (by omega),fX h]
 ·rw[sW,kF (jS (dO r.n)),if_neg (by omega)];simp only;rw[dD];simp only[so,if_false];have hd1:r.d=1:=by omega
  have:=fX h;rw[hd1] at this;rw[this]
theorem oo {r:Rt} (hb:bV r=false):(aR r).length<=4002:=by
 obtain⟨h1,h2⟩:=gh hb;rw[fe];unfold gV;rw[rE,rE]
 split<;>split<;>simp<;>omega
theorem m8 {r:Rt} (h:jf r) (hb:bV r=false):dw (aR r)=some ⟨r,rc⟩:=by
 have hl:=oo hb;unfold dw;rw[if_neg (by omega),kL,jY h];simp only;rw[jZ];simp only;rw[if_pos ⟨ej rfl,hb,iC⟩];rfl
open Go.RowKit Dg Dc
def toQ (r:Rt):Rat:=mkRat (sgz r.minus r.n) r.d
theorem nW {r:Rt} (h:jf r):rt (toQ r)=r:=by unfold toQ;rw[<-fW _ _ _ h.pos,fX h]
theorem qI (q:Rat):toQ (rt q)=q:=by
 unfold toQ;rw[gN];exact Rat.mkRat_self q
theorem oN (q:Rat):jf (rt q):=⟨q.den_pos,q.reduced,fun h=>by
 unfold rt at h |-;simp only[decide_eq_true_eq] at h |-
 omega⟩
def eO (z:CQ):Bool:=bV (rt z.re)||bV (rt z.im)
def txt (z:CQ):ByteArray:=⟨(bX (ct z)).toArray⟩
def dc (s:ByteArray):Option CQ:=(dw s.data.toList).map fun z=>⟨toQ z.x,toQ z.y⟩
def dx (z:CQ):ByteArray×Int:=if eO z=true then (⟨#[]⟩,11) else (txt z,0)
theorem mL {s:ByteArray}{l:List UInt8} (h:s.data.toList=l):s=⟨l.toArray⟩:=by
 obtain⟨⟨d⟩⟩:=s;simp only at h;rw[h]
theorem mJ {r:Rt} (hb:bV r=false) (hp:0<r.d):Sz 2000 r:=by
 obtain⟨h1,h2⟩:=gh hb;refine⟨?_,hp,?_⟩
 ·exact Nat.lt_of_not_le fun h=>by have:=dY h;omega
 ·exact Nat.lt_of_not_le fun h=>by have:=dY h;omega
theorem fS {s:ByteArray}{z:Vl} (h:dw s.data.toList=some z):∃ q,z=ct q/\dc s=some q/\SzV 2000 (ct q)/\eO q=false/\txt q=s:=by
 have h':=h;unfold dw at h
 split at h
 ·cases h
 ·split at h
  ·rename_i p q hp hq
   split at h
   ·rename_i hc
    injection h with h
    subst h;have e1:=nW (cI hp);have e2:=nW (cI hq);have e:(⟨p,q⟩:Vl)=ct ⟨toQ p,toQ q⟩:=by unfold ct;rw[e1,e2]
    refine⟨⟨toQ p,toQ q⟩,e,by unfold dc;rw[h'];rfl,?_,?_,?_⟩
    ·rw[<-e];exact⟨mJ hc.2.1 (cI hp).pos,mJ hc.2.2 (cI hq).pos⟩
    ·unfold eO;simp only;rw[e1,e2,hc.2.1,hc.2.2];rfl
    ·unfold txt;rw[<-e,hc.1]
   ·cases h
  ·cases h
theorem eV {s:ByteArray} (h:dw s.data.toList=none):dc s=none:=by unfold dc;rw[h];rfl
theorem lZ {q:Rat} (h:eO (CQ.real q)=false):dc (txt (CQ.real q))=some (CQ.real q):=by
 have h1:bV (rt q)=false:=by unfold eO CQ.real at h;simp only[tD] at h;exact h.1
 have e:bX (ct (CQ.real q))=aR (rt q):=ej (z:=ct (CQ.real q)) (by show (rt 0).n=0;rw[fY]);unfold dc txt;simp only[List.toList_toArray];rw[e,m8 (oN q) h1];simp only[tT,qI];congr 1
def aO (φ:CQ->CQ->CQ×Int) (s t:ByteArray):ByteArray×Int :=
 match dc s,dc t with
 | some a,some b=>if (φ a b).2=0 then dx (φ a b).1 else (⟨#[]⟩,(φ a b).2)
 | _,_=>(⟨#[]⟩,10)
def ce (f:CQ->CQ->CQ) (a b:CQ):CQ×Int:=(f a b,0)
def jx (a b:CQ):CQ×Int:=if b=⟨0,0⟩ then (⟨0,0⟩,12) else (a.div b,0)
def fJ (s t:ByteArray):ByteArray:=(aO (ce CQ.add) s t).1
def mo (s t:ByteArray):ByteArray:=(aO (ce CQ.sub) s t).1
def jM (s t:ByteArray):ByteArray:=(aO (ce CQ.mul) s t).1
def eS (s t:ByteArray):ByteArray:=(aO jx s t).1
end Go.Proofs.YtmakbmhlemhgeaaGreatDoor
