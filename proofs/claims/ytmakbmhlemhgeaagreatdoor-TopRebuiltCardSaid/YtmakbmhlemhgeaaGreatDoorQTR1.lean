/- L -/
import Derived.Test.YtmakbmhlemhgeaaGreatDoorQPS2
set_option linter.all false
set_option maxRecDepth 100000
set_option maxHeartbeats 8000000
namespace Go.Proofs.YtmakbmhlemhgeaaGreatDoor
open Go.RowKit Dg Dc
def itz (z:Int):ByteArray:=tq (z:Rat)
def cz (l:List Int):List Rat:=l.map fun z:Int=>(z:Rat)
theorem ld (l:List Int):l.map itz=(cz l).map tq:=by unfold cz;rw[List.map_map];rfl
theorem iT (l:List Int):(cz l).length=l.length:=by simp[cz]
theorem dB (l:List Int) (i:Nat):(cz l).getD i 0=((l.getD i 0:Int):Rat):=by
 unfold cz;rw[rs,rs,sD]
 cases l[i]?<;>rfl
theorem kJ (z:Int):Ov 1 z.natAbs (z:Rat):=⟨z,by rw[show ((1:Nat):Rat)=1 from rfl];grind,rp _⟩
theorem i6 {z:Int} (h:z.natAbs<=2 ^ 64):okQ (z:Rat):=((kJ z).mono h).ok (by decide) (cN (k:=1) (by decide) (by decide)) (cN (rp _) (by decide))
theorem jr {z:Int} (h:z.natAbs<=100):bn (itz z).data.toList=true:=by
 have h1:((List.range 201).all fun k=>bn (itz ((k:Int)-100)).data.toList)=true:=by decide +kernel
 have h2:=rO.1 h1 (z+100).toNat (sr.2 (by omega))
 rwa [show (((z+100).toNat:Int)-100)=z by omega] at h2
theorem eF:itz 1=⟨#[49]⟩:=by decide +kernel
theorem oK:fJ (itz 0) ⟨#[49]⟩=⟨#[49]⟩:=by decide +kernel
def bI (taps:List Int):List ByteArray:=(0 :: taps).map itz
def aM (taps:List Int):List ByteArray:=(1 :: taps).map itz
theorem et {l:List Int} (h:∀ n∈l,n.natAbs<=100):∀ s∈l.map itz,bn s.data.toList=true:=fun s hs=>by
 obtain⟨n,hn,rfl⟩:=si.1 hs;exact jr (h n hn)
theorem dQ {l:List Int} (h:∀ n∈l,n.natAbs<=100) (h1:1<=l.length) (h7:l.length<=7):bD (l.map itz)=true:=by
 unfold bD;rw[rJ,decide_eq_true h1,decide_eq_true h7,rO.2 (et h)];rfl
theorem a_ {c:Int}{l:List Int} (hc:c.natAbs<=100) (h:∀ n∈l,n.natAbs<=3):∀ n∈c :: l,n.natAbs<=100:=fun n hn=>by
 rcases sU.1 hn with rfl | hn
 ·exact hc
 ·have:=h n hn;omega
theorem nA:bn (⟨#[49]⟩:ByteArray).data.toList=true:=by rw[<-eF];exact jr (by decide)
theorem e_:bD [⟨#[49]⟩]=true:=by decide +kernel
theorem pI (taps:List Int):dV (bI taps) [⟨#[49]⟩]=aM taps:=by
 unfold dV;rw[if_neg (by simp[bI])];unfold bI aM;rw[sT,sT,mq,oe,oK,eF]
theorem le {l:List ByteArray} (h:∀ s∈l,bn s.data.toList=true):l.map (fun a=>eS a ⟨#[49]⟩)=l:=by
 conv=>rhs;rw[<-List.map_id l]
 exact List.map_congr_left fun s hs=>mW (h s hs)
theorem ib {taps:List Int} (h:∀ n∈taps,n.natAbs<=3) (l:List ByteArray) (hl:∀ s∈l,bn s.data.toList=true) :
  bJ l (bI taps) [⟨#[49]⟩]=.ok (l,aM taps):=by
 unfold bJ;rw[pI,show aU (aM taps) 0=⟨#[49]⟩ from eF,if_neg (by decide),le hl,le (show ∀ s∈aM taps,bn s.data.toList=true from et (l:=1 :: taps) (a_ (by decide) h))]
theorem jn {taps:List Int} (h:∀ n∈taps,n.natAbs<=3) (h6:taps.length<=6):ax (bI taps) [⟨#[49]⟩]=true:=by
 unfold ax bI;rw[dQ (a_ (by decide) h) (by simp) (by simp;omega),e_];decide
theorem eQ {l:List ByteArray}{taps:List Int} (hl:bD l=true) (h:∀ n∈taps,n.natAbs<=3) (h6:taps.length<=6):ax l (aM taps)=true:=by
 unfold ax aM;rw[hl,dQ (a_ (by decide) h) (by simp) (by simp;omega),sT,eF];rfl
theorem jL {l:List ByteArray}{taps:List Int} (hl:bD l=true) (hl7:l.length<=7) (h:∀ n∈taps,n.natAbs<=3) (h6:taps.length<=6) :
  aB (bI taps) [⟨#[49]⟩] (bI taps) [⟨#[49]⟩] (.ok (l,aM taps))=((l,aM taps),0):=by
 unfold aB;rw[if_neg (by rw[jn h h6];decide),if_neg (by rw[jn h h6];decide)]
 show (if 7<l.length\/7<(aM taps).length then (([],[]),3) else if ax l (aM taps)=false then (([],[]),8) else ((l,aM taps),0):(List ByteArray×List ByteArray)×Int)=_
 rw[if_neg (by unfold aM;simp;omega),if_neg (by rw[eQ hl h h6];decide)]
theorem nq {taps:List Int} (h:∀ n∈taps,n.natAbs<=3) (h6:taps.length<=6):fp (bI taps) [⟨#[49]⟩]=(([⟨#[49]⟩],aM taps),0):=by
 unfold fp;rw[ib h _ (fun s hs=>by rw[tu.1 hs];exact nA),jL e_ (by decide) h h6]
theorem kw {taps:List Int} (h:∀ n∈taps,n.natAbs<=3) (h6:taps.length<=6):cY (bI taps) [⟨#[49]⟩]=((bI taps,aM taps),0):=by
 unfold cY;rw[ib h (bI taps) (et (l:=0 :: taps) (a_ (by decide) h)),jL (l:=bI taps) (dQ (a_ (by decide) h) (by simp) (by simp;omega)) (by unfold bI;simp;omega) h h6]
def inZ (a x:List Int) (t:Nat):Nat->Int
 | 0=>0
 | k+1=>if k<=t then inZ a x t k+a.getD k 0*x.getD (t-k) 0 else inZ a x t k
theorem li (a x:List Int) (t:Nat):∀ k,inQ (cz a) (cz x) t k=((inZ a x t k:Int):Rat)
 | 0=>rfl
 | k+1=>by
  rw[inQ,inZ,li a x t k,dB,dB]
  split
  ·rw[Rat.intCast_add,Rat.intCast_mul]
  ·rfl
theorem ly (b y:List Int) (t:Nat) (z:Int) (hz:z.natAbs<=100) (hb:∀ k,(b.getD k 0).natAbs<=3) (hy:∀ s,s<t->(y.getD s 0).natAbs<=100*4 ^ s) :
  ∀ k,∃ v:Int,eG (cz b) (cz y) t (z:Rat) (k+1)=(v:Rat)/\v.natAbs+100*4 ^ (t-k)<=100+100*4 ^ t
 | 0=>⟨z,by rw[eG,if_neg (by omega),eG],by rw[Nat.sub_zero];omega⟩
 | k+1=>by
  obtain⟨v,h1,h2⟩:=ly b y t z hz hb hy k;rw[eG,h1];by_cases h:0<k+1/\k+1<=t
  ·rw[if_pos h,dB,dB,<-Rat.intCast_mul,<-Rat.intCast_sub];refine⟨_,rfl,?_⟩;have h3:=sg (hb (k+1)) (hy (t-(k+1)) (by omega));rw[<-tf] at h3;have h4:=Int.natAbs_sub_le v (b.getD (k+1) 0*y.getD (t-(k+1)) 0);have e:4 ^ (t-k)=4 ^ (t-(k+1))*4:=by rw[<-rK];congr 1;omega
   rw[e] at h2;generalize 4 ^ (t-(k+1))=P at *
   omega
  ·rw[if_neg h];refine⟨v,rfl,?_⟩;have e:t-(k+1)=t-k:=by omega
   rw[e];exact h2
theorem df {P:Int->Prop}{l:List Int} (h0:P 0) (h:∀ n∈l,P n) (k:Nat):P (l.getD k 0):=by
 rw[rs];by_cases hk:k<l.length
 ·rw[ry hk];exact h _ (rU hk)
 ·rw[sb (by omega)];exact h0
theorem oR (l:List Int) (v:Int):cz (l++[v])=cz l++[(v:Rat)]:=by unfold cz;rw[sX];rfl
theorem l2 {l:List Int}{v:Int}{s:Nat}:(l++[v]).getD s 0=if s<l.length then l.getD s 0 else if s=l.length then v else 0:=by
 rw[rs,rs]
 split
 ·rename_i h;rw[su h]
 ·rename_i h
  rw[sI (by omega)]
  split
  ·rename_i h2;subst h2;simp
  ·rename_i h2
   rw[sb (by simp;omega)];rfl
theorem jI {taps x:List Int} (ht:∀ n∈taps,n.natAbs<=3) (hx:∀ n∈x,n.natAbs<=100) :
  ∀ N,∃ W:List Int,az [1] (cz (1 :: taps)) (cz x) N=cz W/\W.length=N/\∀ s,s<N->(W.getD s 0).natAbs<=100*4 ^ s
 | 0=>⟨[],rfl,rfl,fun s h=>by omega⟩
 | N+1=>by
  obtain⟨W,h1,h2,h3⟩:=jI ht hx N
  have hi:inQ [1] (cz x) N ([1]:List Rat).length=((x.getD N 0:Int):Rat):=by
   show (if 0<=N then (0:Rat)+1*(cz x).getD (N-0) 0 else 0)=_
   rw[if_pos (rH _),Nat.sub_zero,dB];grind
  rw[az,h1,hi,iT]
  obtain⟨v,h4,h5⟩:=ly (1 :: taps) W N (x.getD N 0) (df (P:=fun n=>n.natAbs<=100) (by decide) hx N)
   (df (P:=fun n=>n.natAbs<=3) (by decide) (fun n hn=>by rcases sU.1 hn with rfl | hn;exact (by decide);exact ht n hn)) h3 taps.length
  refine⟨W++[v],?_,by simp[h2],fun s hs=>?_⟩
  ·rw[oR,rM,h4]
  ·have hp:1<=4 ^ (N-taps.length):=sf (by decide);rw[l2]
   split
   ·rename_i h;exact h3 s (by omega)
   ·rw[if_pos (by omega)];obtain rfl:s=N:=by omega
    omega
theorem gI {l:List Int} (h:∀ n∈l,n.natAbs<=100) (h7:l.length<=7):mE (l.map itz) (cz l):=by
 have hq:∀ q∈cz l,∃ z:Int,q=z/\z.natAbs<=100:=fun q hq=>by
  obtain⟨z,hz,rfl⟩:=si.1 hq;exact⟨z,rfl,h z hz⟩
 refine⟨ld l,⟨1,by decide,by decide,fun q hm=>?_⟩,fun q hm=>?_,by rw[iT];exact h7⟩
 ·obtain⟨z,rfl,hz⟩:=hq q hm;exact (kJ z).mono (rX hz (by decide))
 ·obtain⟨z,rfl,hz⟩:=hq q hm;exact i6 (rX hz (by decide))
theorem nX {l:List Int} (h:∀ n∈l,n.natAbs<=100):pM (l.map itz) (cz l):=by
 have hq:∀ q∈cz l,∃ z:Int,q=z/\z.natAbs<=100:=fun q hq=>by
  obtain⟨z,hz,rfl⟩:=si.1 hq;exact⟨z,rfl,h z hz⟩
 refine⟨ld l,⟨1,by decide,by decide,fun q hm=>?_⟩,fun q hm=>?_⟩
 ·obtain⟨z,rfl,hz⟩:=hq q hm;exact (kJ z).mono (rX hz (by decide))
 ·obtain⟨z,rfl,hz⟩:=hq q hm;exact i6 (rX hz (by decide))
theorem ph {A:Type} (f:Int->A) (d:A) {l:List A}{m:List Int} (hl:l.length=m.length) (h:∀ i,i<m.length->l.getD i d=f (m.getD i 0)):l=m.map f:=by
 refine List.ext_getElem (by simp[hl]) fun i h1 h2=>?_;have:=h i (by omega);rw[rs,rs,ry h1,ry (by omega)] at this;simpa using this
theorem mM:cz (1 :: [])=[1]:=rfl
theorem j3 {taps x:List Int} (ht:∀ n∈taps,n.natAbs<=3) (h6:taps.length<=6) (hx:∀ n∈x,n.natAbs<=100) (h12:x.length<=12) :
  ∃ W C:List Int,W.length=x.length/\C.length=x.length/\aX [⟨#[49]⟩] (aM taps) (x.map itz) x.length=W.map itz/\aX (bI taps) (aM taps) (x.map itz) x.length=C.map itz /\
   ∀ t,t<x.length->W.getD t 0+C.getD t 0=x.getD t 0/\(W.getD t 0).natAbs<=2 ^ 30/\(C.getD t 0).natAbs<=2 ^ 31/\inZ (1 :: taps) W t (1 :: taps).length=x.getD t 0:=by
 have h1':∀ n∈(1 :: taps:List Int),n.natAbs<=100:=a_ (by decide) ht;have pb:=gI h1' (by simp;omega);have pa:=gI (a_ (c:=0) (by decide) ht) (by simp;omega);have p1:=gI (l:=[1]) (by simp) (by simp);rw[show ([1]:List Int).map itz=[⟨#[49]⟩] by rw[List.map_singleton,eF],mM] at p1;have vx:=nX hx;obtain⟨W,w1,w2,w3⟩:=jI ht hx x.length;obtain⟨_,_,-,-,-,-,o1⟩:=iy p1 pb vx;obtain⟨_,_,-,-,-,-,o2⟩:=iy pa pb vx;have hxl:x.length<=(cz x).length:=by rw[iT];exact rp _
 obtain⟨e1,-⟩:=o1 x.length (by omega) hxl;obtain⟨e2,-⟩:=o2 x.length (by omega) hxl;have hb:cz (1 :: taps)=1 :: cz taps:=rfl;have ha:cz (0 :: taps)=0 :: cz taps:=rfl
 have sw:∀ n,opS [1] (a7 (cz x)) n=a7 (cz x) n:=fun n=>by
  rw[bh];have:shS 1 (opS [] (a7 (cz x))) n=0:=by unfold shS;split<;>rfl
  rw[this];grind
 have hw:∀ n,n<x.length->opS (1 :: cz taps) (a7 (cz W)) n=a7 (cz x) n:=fun n hn=>by
  rw[<-w1,hb,ix _ _ _ _ _ hn,sw]
 have hc:∀ n,n<x.length->opS (1 :: cz taps) (a7 (az (0 :: cz taps) (1 :: cz taps) (cz x) x.length)) n=opS (0 :: cz taps) (a7 (cz x)) n:=fun n hn=>ix _ _ _ _ _ hn
 have key:∀ n,n<x.length->a7 (az (0 :: cz taps) (1 :: cz taps) (cz x) x.length) n=a7 (cz x) n+-1*a7 (cz W) n:=by
  refine mc (b:=cz taps) (z:=fun n=>a7 (cz x) n+-1*a7 (cz W) n) fun n hn=>?_;rw[hc n hn,nB,hw n hn,bh,bh];grind
 refine⟨W,(List.range x.length).map fun t=>x.getD t 0-W.getD t 0,w2,by simp,?_,?_,fun t ht'=>?_⟩
 ·rw[show aM taps=(1 :: taps).map itz from rfl,e1,w1,ld]
 ·rw[show aM taps=(1 :: taps).map itz from rfl,show bI taps=(0 :: taps).map itz from rfl,e2,ld];congr 1;refine ph (fun z:Int=>(z:Rat)) 0 (by rw[a6];simp) fun i hi=>?_;have hi':i<x.length:=by simpa using hi
  have:=key i hi';rw[ha,hb];unfold a7 at this;rw[this,dB,dB];simp only[rs,sD,tj hi',tT,Option.getD_some];rw[Rat.intCast_sub];grind
 ·have ec:((List.range x.length).map fun t=>x.getD t 0-W.getD t 0).getD t 0=x.getD t 0-W.getD t 0:=by
   simp only[rs,sD,tj ht',tT,Option.getD_some]
  rw[ec];have hp:4 ^ t<=4 ^ 11:=rI (by decide) (by omega);have h4:=w3 t ht';have hx0:=df (P:=fun n=>n.natAbs<=100) (by decide) hx t
  have hW:(W.getD t 0).natAbs<=2 ^ 30:=by
   have:(4:Nat) ^ 11=4194304:=by decide
   omega
  refine⟨by omega,hW,by omega,?_⟩;have e5:=m_ (cz (1 :: taps)) (cz W) t _ (rp _);rw[r_,hb,hw t ht',<-hb,iT,li] at e5;unfold a7 at e5;rw[dB] at e5;exact Rat.intCast_inj.1 e5
end Go.Proofs.YtmakbmhlemhgeaaGreatDoor
