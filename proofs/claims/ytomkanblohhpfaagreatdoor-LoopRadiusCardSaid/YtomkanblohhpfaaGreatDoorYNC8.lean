/- Lemmas of this claim. -/
import Derived.Test.YtomkanblohhpfaaGreatDoorYCoef
import Derived.Test.YtomkanblohhpfaaGreatDoorYNC7
import Derived.Test.YtomkanblohhpfaaGreatDoorYLP1
set_option linter.all false
set_option maxRecDepth 100000
set_option maxHeartbeats 8000000
namespace Go.Proofs.YtomkanblohhpfaaGreatDoor
open Go.RowKit Dg
theorem nJ (z:Int):rt (z:Rat)=⟨decide (z<0),z.natAbs,1⟩:=by
 unfold rt
 rw[Rat.num_intCast,Rat.den_intCast]
theorem oe {n:Nat} (h:n<18446744073709551616):Few n:=jp (k:=20) (by omega) (by decide)
theorem fN (z:Int) (w:World) (h1:-9223372036854775808≤z) (h2:z≤9223372036854775807) :
  Calls Tryz.prog 47 #[.int .i64 z] w fun e w'=>∃ v,e=.returned v∧IsR w' v (rt (z:Rat))∧Below w.heap.size w w':=by
 rw[nJ]
 go_enter Tryz.func47,Tryz.ntmps47
 go_upto_region 1 with fail
 have q3:=aU.new w (.bool false) (.slice none 0 0) (.slice none 0 0) (by intro z e;cases e) (by intro z e;cases e) (by intro z e;cases e)
 have m3:=ac w (.cells #[.bool false,.slice none 0 0,.slice none 0 0] 79)
 generalize w.alloc (.cells #[.bool false,.slice none 0 0,.slice none 0 0] 79)=w3 at *
 have B3:=vL q3
 have MD:=vL m3
 clear q3 m3
 by_cases hz:z<0
 ·have hd:decide (z<0)=true:=decide_eq_true hz
  obtain⟨n,rfl⟩:∃ n:Nat,z=-(n:Int)-1:=⟨(-z-1).toNat,by omega⟩
  have e1:(-(n:Int)-1)+1=-(n:Int):=by omega
  go_wp2_with fail
  have hp:=fC (n+1) w3 (by omega)
  try rw[show ((n+1:Nat):Int)=(n:Int)+1 from by omega] at hp
  refine hp.mono ?_
  clear hp
  rintro e w4 ⟨v4,rfl,hv4,hb4⟩
  go_wp2_with fail
  refine (gZ w4).mono ?_
  rintro e w5 ⟨v5,rfl,hv5,hb5⟩
  have hn:=(hv4.isU).below hb5
  have hB5:=hb4.trans (hb5.mono hb4.size)
  obtain⟨pn,cn,rfl,-⟩:=id hn
  obtain⟨pd,cd,rfl,-⟩:=id hv5
  have hR:IsR w5 (.agg #[.bool true,.slice pn _ cn,.slice pd _ cd]) ⟨true,n+1,1⟩:=⟨_,_,rfl,hn,hv5,oe (n:=n+1) (by omega),oe (n:=1) (by decide)⟩
  have B8:=B3.out.below hB5
  have k0:=B8.c0;have k1:=B8.c1;have k2:=B8.c2
  have f0:=B8.fr 0;have f1:=B8.fr 1;have f2:=B8.fr 2
  have P:=vL (B8.putR hR)
  have M8:=vL (P.out.2.2 _ w (MD.out.trans (hB5.mono MD.out.size)) (vS _))
  have HE:=vL (show (⟨true,n+1,1⟩:Rt)=⟨decide ((-(n:Int)-1)<0),((-(n:Int)-1)).natAbs,1⟩ from by congr 1<;>(first | omega | (simp;done) | (simp;omega)))
  clear hR hn hv4 hv5 B8 hb4 hb5 hB5
  go_wp2_with fail
  have q0:=P.out.1.c0;have q1:=P.out.1.c1;have q2:=P.out.1.c2
  refine bodyPost_ret (v:=.agg #[.bool true,.slice pn (ag BB (n+1)).length cn,.slice pd (ag BB 1).length cd]) (by simp[mH] at q0 q1 q2 ⊢;simp[results,Tryz.results47,go_sem,q0,q1,q2]) rfl ⟨_,rfl,by rw[←HE.out];exact P.out.2.1,M8.out⟩
 ·have hd:decide (z<0)=false:=decide_eq_false hz
  obtain⟨n,rfl⟩:∃ n:Nat,z=n:=⟨z.toNat,by omega⟩
  go_wp2_with fail
  have hp:=fC (n) w3 (by omega)
  try rw[show ((n+1:Nat):Int)=(n:Int)+1 from by omega] at hp
  refine hp.mono ?_
  clear hp
  rintro e w4 ⟨v4,rfl,hv4,hb4⟩
  go_wp2_with fail
  refine (gZ w4).mono ?_
  rintro e w5 ⟨v5,rfl,hv5,hb5⟩
  have hn:=(hv4.isU).below hb5
  have hB5:=hb4.trans (hb5.mono hb4.size)
  obtain⟨pn,cn,rfl,-⟩:=id hn
  obtain⟨pd,cd,rfl,-⟩:=id hv5
  have hR:IsR w5 (.agg #[.bool false,.slice pn _ cn,.slice pd _ cd]) ⟨false,n,1⟩:=⟨_,_,rfl,hn,hv5,oe (n:=n) (by omega),oe (n:=1) (by decide)⟩
  have B8:=B3.out.below hB5
  have k0:=B8.c0;have k1:=B8.c1;have k2:=B8.c2
  have f0:=B8.fr 0;have f1:=B8.fr 1;have f2:=B8.fr 2
  have P:=vL (B8.putR hR)
  have M8:=vL (P.out.2.2 _ w (MD.out.trans (hB5.mono MD.out.size)) (vS _))
  have HE:=vL (show (⟨false,n,1⟩:Rt)=⟨decide ((n:Int)<0),((n:Int)).natAbs,1⟩ from by congr 1<;>(first | omega | (simp;done) | (simp;omega)))
  clear hR hn hv4 hv5 B8 hb4 hb5 hB5
  go_wp2_with fail
  have q0:=P.out.1.c0;have q1:=P.out.1.c1;have q2:=P.out.1.c2
  refine bodyPost_ret (v:=.agg #[.bool false,.slice pn (ag BB (n)).length cn,.slice pd (ag BB 1).length cd]) (by simp[mH] at q0 q1 q2 ⊢;simp[results,Tryz.results47,go_sem,q0,q1,q2]) rfl ⟨_,rfl,by rw[←HE.out];exact P.out.2.1,M8.out⟩
theorem tY (z:Int):sgz (decide (z<0) != false) z.natAbs=z:=by
 unfold sgz
 by_cases h:z<0
 ·simp[h];omega
 ·simp[h];omega
theorem uu (z:Int) (d:Nat) (w:World) (h1:-9223372036854775808≤z) (h2:z≤9223372036854775807) (hd:0<d) (hd2:d≤9223372036854775807) (hG:Gw w) :
  Calls Tryz.prog 14 #[.int .i64 z,.int .i64 d] w fun e w'=>e=.returned (.tuple #[.string (bX (CQ.real (mkRat z d))).1,.int .i64 (bX (CQ.real (mkRat z d))).2])∧Below w.heap.size w w':=by
 have hq:cj (decide (z<0) != false) z.natAbs d=rt (mkRat z d):=by rw[ja _ _ _ hd,tY]
 have hdd:((d:Int) == 0)=false:=by simp;omega
 have hr2:rt ((d:Int):Rat)=⟨false,d,1⟩:=by rw[nJ];congr 1<;>simp
 have hr1:=nJ z
 have HQ:=vL hq
 have HR1:=vL hr1
 have HR2:=vL hr2
 have HD:=vL hd
 clear hq hr1 hr2 hd
 go_enter Tryz.func14,Tryz.ntmps14
 go_wp2_with fail
 refine (fN z w h1 h2).mono ?_
 rintro e w1 ⟨v1,rfl,hv1,hb1⟩
 rw[HR1.out] at hv1
 go_wp2_with fail
 refine (fN d w1 (by omega) (by omega)).mono ?_
 rintro e w2 ⟨v2,rfl,hv2,hb2⟩
 rw[HR2.out] at hv2
 have hv1:=hv1.below hb2
 have hB2:=hb1.trans (hb2.mono hb1.size)
 obtain⟨xm,xp,xl,xc,xq,xk,xd,rfl⟩:=hv1.form
 obtain⟨ym,yp,yl,yc,yq,yk,yd,rfl⟩:=hv2.form
 clear hb1 hb2
 go_upto_region 4 with fail
 have q1:=aU.new w2 (.bool xm) (.slice xp xl xc) (.slice xq xk xd) (by intro z e;cases e) (by intro z e;cases e) (by intro z e;cases e)
 have m1:=ac w2 (.cells #[.bool xm,.slice xp xl xc,.slice xq xk xd] 79)
 have z1:=size_alloc w2 (.cells #[.bool xm,.slice xp xl xc,.slice xq xk xd] 79)
 generalize w2.alloc (.cells #[.bool xm,.slice xp xl xc,.slice xq xk xd] 79)=w3 at *
 have q2:=aU.new w3 (.bool ym) (.slice yp yl yc) (.slice yq yk yd) (by intro z e;cases e) (by intro z e;cases e) (by intro z e;cases e)
 have m2:=ac w3 (.cells #[.bool ym,.slice yp yl yc,.slice yq yk yd] 79)
 generalize w3.alloc (.cells #[.bool ym,.slice yp yl yc,.slice yq yk yd] 79)=w4 at *
 rw[z1] at q2
 have q1:=q1.below m2
 have hb4:=m1.trans (m2.mono m1.size)
 have hB4:=hB2.trans (hb4.mono hB2.size)
 obtain⟨xn',xd',hxe,hxn,hxd,f1,f2⟩:=hv1.below hb4
 obtain⟨yn',yd',hye,hyn,hyd,g1,g2⟩:=hv2.below hb4
 simp only at hxn hxd hyn hyd f1 f2 g1 g2
 obtain⟨rfl,rfl,rfl⟩:xm=decide (z<0)∧(.slice xp xl xc)=xn'∧(.slice xq xk xd)=xd':=by simpa using hxe
 obtain⟨rfl,rfl,rfl⟩:ym=false∧(.slice yp yl yc)=yn'∧(.slice yq yk yd)=yd':=by simpa using hye
 have HRED:=vL (dq (decide (z<0) != false) _ _ _ _ w4 hxn hyn f1 g1 HD.out)
 rw[HQ.out] at HRED
 have hG4:=hG.below hB4
 have a0:=q1.c0;have a1:=q1.c1;have a2:=q1.c2
 have b0:=q2.c0;have b1:=q2.c1;have b2:=q2.c2
 clear q1 q2 m1 m2 z1 hb4 hB2 hv1 hv2 hxe hye hxn hxd hyn hyd f1 f2 g1 g2
 have hbn:(decide (z<0) != false)=decide (z<0):=by simp
 rw[hbn] at HRED
 go_wp2_with fail
 refine HRED.out.mono ?_
 rintro e w5 ⟨v5,rfl,hv5,hb5⟩
 go_wp2_with fail
 refine (cR _ _ _ hv5).mono ?_
 rintro e w6 ⟨v6,rfl,hv6,hb6⟩
 rw[bO] at hv6
 have hB6:=hb5.trans (hb6.mono hb5.size)
 go_wp2_with fail
 refine (se _ _ w6 hv6 (hG4.below hB6)).mono ?_
 rintro e w7 ⟨rfl,hb7⟩
 have hB7:=hB6.trans (hb7.mono hB6.size)
 go_wp2
 refine bodyPost_ret (v:=.tuple #[.string (bX (CQ.real (mkRat z d))).1,.int .i64 (bX (CQ.real (mkRat z d))).2]) (by simp[results,Tryz.results14,go_sem]) rfl ⟨rfl,hB4.trans (hB7.mono hB4.size)⟩
theorem hZ (v:Value) (l:List ByteArray) (w:World) (hl:IsS w v l) (hpos:0<l.length) (hlen:l.length<1000000) (hG:Gw w) :
  Calls Tryz.prog 41 #[v] w fun e w'=>e=.returned (.bool (aP l).isSome)∧Below w.heap.size w w':=by
 have HP:=vL (sb v l w hl hpos hlen hG)
 obtain⟨p,c,rfl,-⟩:=hl.form
 go_enter Tryz.func41,Tryz.ntmps41
 go_wp2_with fail
 refine HP.out.mono ?_
 rintro e w1 ⟨v1,ok,rfl,hcase,hb1⟩
 rcases hcase with ⟨pf,hq,rfl,hp,-⟩ | ⟨hq,rfl,rfl⟩
 ·have HQ:=vL hq
  obtain⟨p1,c1,rfl,-⟩:=hp.form
  clear hq hp
  go_wp2
  go_ret
  exact⟨by rw[HQ.out];rfl,hb1⟩
 ·have HQ:=vL hq
  clear hq
  go_wp2
  go_ret
  exact⟨by rw[HQ.out];rfl,hb1⟩
structure IsF (w:World) (v:Value) (a b:List ByteArray):Prop where
 ex:∃ p c q d,v=.agg #[.slice p a.length c,.slice q b.length d]∧IsS w (.slice p a.length c) a∧IsS w (.slice q b.length d) b
theorem IsF.below {w w':World}{v:Value}{a b:List ByteArray} (h:IsF w v a b) (hb:Below w.heap.size w w'):IsF w' v a b:=by
 obtain⟨p,c,q,d,e,h1,h2⟩:=h.ex
 exact⟨p,c,q,d,e,h1.below hb,h2.below hb⟩
theorem IsS.words {w:World}{p:Option Addr}{n c:Nat}{l:List ByteArray} (h:IsS w (.slice p n c) l):dr w p l:=by
 refine⟨fun hl=>?_⟩
 obtain⟨b,o,rfl,hlt,-⟩:=h.get hl
 refine⟨b,o,rfl,hlt,fun i hi=>?_⟩
 obtain⟨b',o',e,-,hc⟩:=h.get hi
 obtain⟨rfl,rfl⟩:b=b'∧o=o':=by simpa using e
 exact hc
def am (a b:List ByteArray):Int:=if ar a b=true then 0 else 30
theorem cL (v:Value) (a b:List ByteArray) (w:World) (h:IsF w v a b) (hG:Gx w) :
  Calls Tryz.prog 37 #[v] w fun e w'=>e=.returned (.int .i64 (am a b))∧Below w.heap.size w w':=by
 obtain⟨p,c,q,d,rfl,h1,h2⟩:=h.ex
 refine (uK p q c d a b w h1.words h2.words hG).mono ?_
 rintro e w' ⟨n,rfl,hn,hb⟩
 refine⟨?_,hb⟩
 rcases hn with ⟨rfl,hc⟩ | ⟨rfl,hc⟩
 ·unfold am;rw[hc.out];rfl
 ·unfold am;rw[hc.out];rfl
theorem aL {a b:List ByteArray} (h:ar a b=true):1≤b.length∧b.length≤7∧1≤a.length∧a.length≤7∧(∀ s∈a,bH s.data.toList=true)∧(∀ s∈b,bH s.data.toList=true)∧ow b=some [49]:=by
 unfold ar dW at h
 simp only[ws,decide_eq_true_eq,wG] at h
 exact⟨h.1.2.1.1,h.1.2.1.2,h.1.1.1.1,h.1.1.1.2,h.1.1.2,h.1.2.2,h.2⟩
theorem aq (w:World) (x y:Value):(w.alloc (.cells #[x,y] 24)).cell? ⟨w.heap.size,0,none⟩=some x∧(w.alloc (.cells #[x,y] 24)).cell? ⟨w.heap.size,1,none⟩=some y :=
 ⟨ap w _ _ 0 _ rfl,ap w _ _ 1 _ rfl⟩
def ix (r:ByteArray):Nat→ByteArray
 | 0=>⟨#[49]⟩
 | i+1=>bZ (ix r i) r
def bL (out:List ByteArray) (r:ByteArray):List ByteArray:=(List.range out.length).map fun i=>bE (au out i) (ix r i)
theorem ly (out:List ByteArray) (r:ByteArray) {i:Nat} (h:i<out.length):(bL out r).take (i+1)=(bL out r).take i++[bE (au out i) (ix r i)]:=by
 have hl:i<(bL out r).length:=by simp[bL,h]
 rw[show (bL out r).take (i+1)=(bL out r).take i++[(bL out r)[i]] from (wg hl).symm]
 simp[bL]
def bR (out:List ByteArray) (r:ByteArray):Bool:=(aP (bL out r)).isSome
theorem oV (v:Value) (l:List ByteArray) (r:ByteArray) (w:World) (hl:IsS w v l) (hpos:0<l.length) (hlen:l.length<1000000) (hG:Gw w) :
  Calls Tryz.prog 42 #[v,.string r] w fun e w'=>e=.returned (.bool (bR l r))∧Below w.heap.size w w':=by
 obtain⟨p,c,rfl,-⟩:=id hl.form
 have HL:=vL hl
 have HG:=vL hG
 clear hl hG
 go_enter Tryz.func42,Tryz.ntmps42
 go_wp2
 go_loopw [5,6,11] (fun s5 s6 s11 wr=>∃ i:Nat,s5=.string (ix r i)∧s11=.int .i64 i∧i≤l.length∧bB wr w.heap.size s6 ((bL l r).take i)∧Below w.heap.size w wr) (fun _ _ s11 _=>l.length-(intOf s11).toNat)
 case atStart=>exact⟨0,rfl,rfl,wj _,bB.nil _ _,Below.refl _ _⟩
 case round =>
  obtain⟨i,rfl,rfl,hin,hown,hbr⟩:=hrel
  by_cases hi:i<l.length
  ·obtain⟨b,o,rfl,hbl,hcell⟩:=(HL.out.below hbr).get hi
   rw[fY] at hcell
   have HT:=vL (ly l r hi)
   go_wp2_with fail
   refine (dE _ _ wr (HG.out.below hbr)).mono ?_
   rintro e w1 ⟨rfl,hb1⟩
   have hB1:=hbr.trans (hb1.mono hbr.size)
   have hw1:=hown.below hb1
   have hbs:=hB1.size
   have hzl:((bL l r).take i).length<1000000000:=by simp;omega
   clear hb1 hbr hown hcell
   go_wp2_with (at_builtin;refine aI 22 Tryz.underlying22 rfl (.tmp 15) (.tmp 19) rfl w.heap.size _ _ _ rfl hw1 rfl hzl hbs ?_)
   intro v' w2 hw2 hb2
   have hB2:=hb2 _ _ hB1 (vS _)
   rw[←HT.out] at hw2
   clear hw1 hb2 hB1
   go_wp2_with fail
   refine (de _ _ w2 (HG.out.below hB2)).mono ?_
   rintro e w3 ⟨rfl,hb3⟩
   have hB3:=hB2.trans (hb3.mono hB2.size)
   have hw3:=hw2.below hb3
   clear hb3 hB2 hw2
   go_wp2
   go_roundw
   case rel=>exact⟨i+1,rfl,by go_num,by omega,hw3,hB3⟩
   case measure=>(first | (simp[intOf];done) | (simp[intOf];omega))
  ·have hin':i=l.length:=by omega
   subst hin'
   have hlw:(bL l r).length=l.length:=by simp[bL]
   rw[←hlw,wA] at hown
   have hs:=hown.isS
   have HS:=vL (hZ _ _ wr hs (by omega) (by omega) (HG.out.below hbr))
   obtain⟨q,d,rfl,-⟩:=hs.form
   clear hown hs hi hlw
   go_wp2_with fail
   refine HS.out.mono ?_
   rintro e w1 ⟨rfl,hb1⟩
   go_wp2
   go_ret
   exact⟨rfl,hbr.trans (hb1.mono hbr.size)⟩
end Go.Proofs.YtomkanblohhpfaaGreatDoor
