/- L -/
import Derived.Deep.Slices
import Derived.OpenShut
import Derived.Test.YtmakbmhlemhgeaaGreatDoorWCoef
import Derived.Test.YtmakbmhlemhgeaaGreatDoorWNC7
import Derived.Test.YtmakbmhlemhgeaaGreatDoorWB
set_option linter.all false
set_option maxRecDepth 100000
set_option maxHeartbeats 8000000
namespace Go.Proofs.YtmakbmhlemhgeaaGreatDoor
open Go.RowKit Dg
theorem rZ (z:Int):rt (z:Rat)=⟨decide (z<0),z.natAbs,1⟩:=by
 unfold rt;rw[Rat.num_intCast,Rat.den_intCast]
theorem xt {n:Nat} (h:n<18446744073709551616):Few n:=nU (k:=20) (by omega) (by decide)
theorem kp (z:Int) (w:World) (h1:-9223372036854775808<=z) (h2:z<=9223372036854775807) :
  Calls Tryz.prog 60 #[.int .i64 z] w fun e w'=>∃ v,e=.returned v/\IsR w' v (rt (z:Rat))/\Below w.heap.size w w':=by
 rw[rZ];go_enter Tryz.func60,Tryz.ntmps60;go_upto_region 1 with fail
 have q3:=cI.new w (.bool false) (.slice none 0 0) (.slice none 0 0) nofun nofun nofun;have m3:=au w (.cells #[.bool false,.slice none 0 0,.slice none 0 0] 106);generalize w.alloc (.cells #[.bool false,.slice none 0 0,.slice none 0 0] 106)=w3 at *
 have B3:=GF q3;have MD:=GF m3;clear q3 m3;by_cases hz:z<0
 ·have hd:decide (z<0)=true:=decide_eq_true hz;obtain⟨n,rfl⟩:∃ n:Nat,z=-(n:Int)-1:=⟨(-z-1).toNat,by omega⟩;have e1:(-(n:Int)-1)+1=-(n:Int):=by omega
  go_wp2_with fail
  have hp:=j7 (n+1) w3 (by omega);try rw[show ((n+1:Nat):Int)=(n:Int)+1 from by omega] at hp
  refine hp.mono ?_;clear hp;rintro e w4 ⟨v4,rfl,hv4,hb4⟩;go_wp2_with fail
  refine (lI w4).mono ?_;rintro e w5 ⟨v5,rfl,hv5,hb5⟩;have hn:=(hv4.isU).below hb5;have hB5:=hb4.trans (hb5.mono hb4.size);obtain⟨pn,cn,rfl,-⟩:=id hn;obtain⟨pd,cd,rfl,-⟩:=id hv5;have hR:IsR w5 (.agg #[.bool true,.slice pn _ cn,.slice pd _ cd]) ⟨true,n+1,1⟩:=⟨_,_,rfl,hn,hv5,xt (n:=n+1) (by omega),xt (n:=1) (by decide)⟩;have B8:=B3.out.below hB5;have k0:=B8.c0;have k1:=B8.c1;have k2:=B8.c2;have f0:=B8.fr 0;have f1:=B8.fr 1;have f2:=B8.fr 2;have P:=GF (B8.putR hR);have M8:=GF (P.out.2.2 _ w (MD.out.trans (hB5.mono MD.out.size)) (GM _));have HE:=GF (show (⟨true,n+1,1⟩:Rt)=⟨decide ((-(n:Int)-1)<0),((-(n:Int)-1)).natAbs,1⟩ from by congr 1<;>(first | omega | (simp;done) | (simp;omega)));clear hR hn hv4 hv5 B8 hb4 hb5 hB5;go_wp2_with fail
  have q0:=P.out.1.c0;have q1:=P.out.1.c1;have q2:=P.out.1.c2;refine Kh (v:=.agg #[.bool true,.slice pn (av BB (n+1)).length cn,.slice pd (av BB 1).length cd]) (by simp[uA] at q0 q1 q2 |-;simp[results,Tryz.results60,go_sem,q0,q1,q2]) rfl ⟨_,rfl,by rw[<-HE.out];exact P.out.2.1,M8.out⟩
 ·have hd:decide (z<0)=false:=decide_eq_false hz;obtain⟨n,rfl⟩:∃ n:Nat,z=n:=⟨z.toNat,by omega⟩;go_wp2_with fail
  have hp:=j7 (n) w3 (by omega);try rw[show ((n+1:Nat):Int)=(n:Int)+1 from by omega] at hp
  refine hp.mono ?_;clear hp;rintro e w4 ⟨v4,rfl,hv4,hb4⟩;go_wp2_with fail
  refine (lI w4).mono ?_;rintro e w5 ⟨v5,rfl,hv5,hb5⟩;have hn:=(hv4.isU).below hb5;have hB5:=hb4.trans (hb5.mono hb4.size);obtain⟨pn,cn,rfl,-⟩:=id hn;obtain⟨pd,cd,rfl,-⟩:=id hv5;have hR:IsR w5 (.agg #[.bool false,.slice pn _ cn,.slice pd _ cd]) ⟨false,n,1⟩:=⟨_,_,rfl,hn,hv5,xt (n:=n) (by omega),xt (n:=1) (by decide)⟩;have B8:=B3.out.below hB5;have k0:=B8.c0;have k1:=B8.c1;have k2:=B8.c2;have f0:=B8.fr 0;have f1:=B8.fr 1;have f2:=B8.fr 2;have P:=GF (B8.putR hR);have M8:=GF (P.out.2.2 _ w (MD.out.trans (hB5.mono MD.out.size)) (GM _));have HE:=GF (show (⟨false,n,1⟩:Rt)=⟨decide ((n:Int)<0),((n:Int)).natAbs,1⟩ from by congr 1<;>(first | omega | (simp;done) | (simp;omega)));clear hR hn hv4 hv5 B8 hb4 hb5 hB5;go_wp2_with fail
  have q0:=P.out.1.c0;have q1:=P.out.1.c1;have q2:=P.out.1.c2;refine Kh (v:=.agg #[.bool false,.slice pn (av BB (n)).length cn,.slice pd (av BB 1).length cd]) (by simp[uA] at q0 q1 q2 |-;simp[results,Tryz.results60,go_sem,q0,q1,q2]) rfl ⟨_,rfl,by rw[<-HE.out];exact P.out.2.1,M8.out⟩
theorem Et (z:Int):sgz (decide (z<0) != false) z.natAbs=z:=by
 unfold sgz;by_cases h:z<0
 ·simp[h];omega
 ·simp[h];omega
theorem Gv (z:Int) (d:Nat) (w:World) (h1:-9223372036854775808<=z) (h2:z<=9223372036854775807) (hd:0<d) (hd2:d<=9223372036854775807) (hG:Gw w) :
  Calls Tryz.prog 20 #[.int .i64 z,.int .i64 d] w fun e w'=>e=.returned (.tuple #[.string (dY (CQ.real (mkRat z d))).1,.int .i64 (dY (CQ.real (mkRat z d))).2])/\Below w.heap.size w w':=by
 have hq:dF (decide (z<0) != false) z.natAbs d=rt (mkRat z d):=by rw[lO _ _ _ hd,Et]
 have hdd:((d:Int) == 0)=false:=by simp;omega
 have hr2:rt ((d:Int):Rat)=⟨false,d,1⟩:=by rw[rZ];congr 1<;>simp
 have hr1:=rZ z;have HQ:=GF hq;have HR1:=GF hr1;have HR2:=GF hr2;have HD:=GF hd;clear hq hr1 hr2 hd;go_enter Tryz.func20,Tryz.ntmps20;go_wp2_with fail
 refine (kp z w h1 h2).mono ?_;rintro e w1 ⟨v1,rfl,hv1,hb1⟩;rw[HR1.out] at hv1;go_wp2_with fail
 refine (kp d w1 (by omega) (by omega)).mono ?_;rintro e w2 ⟨v2,rfl,hv2,hb2⟩;rw[HR2.out] at hv2;have hv1:=hv1.below hb2;have hB2:=hb1.trans (hb2.mono hb1.size);obtain⟨xm,xp,xl,xc,xq,xk,xd,rfl⟩:=hv1.form;obtain⟨ym,yp,yl,yc,yq,yk,yd,rfl⟩:=hv2.form;clear hb1 hb2;go_upto_region 4 with fail
 have q1:=cI.new w2 (.bool xm) (.slice xp xl xc) (.slice xq xk xd) nofun nofun nofun;have m1:=au w2 (.cells #[.bool xm,.slice xp xl xc,.slice xq xk xd] 106);have z1:=size_alloc w2 (.cells #[.bool xm,.slice xp xl xc,.slice xq xk xd] 106);generalize w2.alloc (.cells #[.bool xm,.slice xp xl xc,.slice xq xk xd] 106)=w3 at *
 have q2:=cI.new w3 (.bool ym) (.slice yp yl yc) (.slice yq yk yd) nofun nofun nofun;have m2:=au w3 (.cells #[.bool ym,.slice yp yl yc,.slice yq yk yd] 106);generalize w3.alloc (.cells #[.bool ym,.slice yp yl yc,.slice yq yk yd] 106)=w4 at *
 rw[z1] at q2;have q1:=q1.below m2;have hb4:=m1.trans (m2.mono m1.size);have hB4:=hB2.trans (hb4.mono hB2.size);obtain⟨xn',xd',hxe,hxn,hxd,f1,f2⟩:=hv1.below hb4;obtain⟨yn',yd',hye,hyn,hyd,g1,g2⟩:=hv2.below hb4;simp only at hxn hxd hyn hyd f1 f2 g1 g2;obtain⟨rfl,rfl,rfl⟩:xm=decide (z<0)/\(.slice xp xl xc)=xn'/\(.slice xq xk xd)=xd':=by simpa using hxe
 obtain⟨rfl,rfl,rfl⟩:ym=false/\(.slice yp yl yc)=yn'/\(.slice yq yk yd)=yd':=by simpa using hye
 have HRED:=GF (fX (decide (z<0) != false) _ _ _ _ w4 hxn hyn f1 g1 HD.out);rw[HQ.out] at HRED;have hG4:=hG.below hB4;have a0:=q1.c0;have a1:=q1.c1;have a2:=q1.c2;have b0:=q2.c0;have b1:=q2.c1;have b2:=q2.c2;clear q1 q2 m1 m2 z1 hb4 hB2 hv1 hv2 hxe hye hxn hxd hyn hyd f1 f2 g1 g2;have hbn:(decide (z<0) != false)=decide (z<0):=by simp
 rw[hbn] at HRED;go_wp2_with fail
 refine HRED.out.mono ?_;rintro e w5 ⟨v5,rfl,hv5,hb5⟩;go_wp2_with fail
 refine (ft _ _ _ hv5).mono ?_;rintro e w6 ⟨v6,rfl,hv6,hb6⟩;rw[dP] at hv6;have hB6:=hb5.trans (hb6.mono hb5.size);go_wp2_with fail
 refine (Cl _ _ w6 hv6 (hG4.below hB6)).mono ?_;rintro e w7 ⟨rfl,hb7⟩;have hB7:=hB6.trans (hb7.mono hB6.size);go_wp2;refine Kh (v:=.tuple #[.string (dY (CQ.real (mkRat z d))).1,.int .i64 (dY (CQ.real (mkRat z d))).2]) (by simp[results,Tryz.results20,go_sem]) rfl ⟨rfl,hB4.trans (hB7.mono hB4.size)⟩
theorem ny (v:Value) (l:List ByteArray) (w:World) (hl:IsS w v l) (hpos:0<l.length) (hlen:l.length<1000000) (hG:Gw w) :
  Calls Tryz.prog 81 #[v] w fun e w'=>e=.returned (.bool (da l).isSome)/\Below w.heap.size w w':=by
 have HP:=GF (Ck v l w hl hpos hlen hG);obtain⟨p,c,rfl,-⟩:=hl.form;go_enter Tryz.func81,Tryz.ntmps81;go_wp2_with fail
 refine HP.out.mono ?_;rintro e w1 ⟨v1,ok,rfl,hcase,hb1⟩;rcases hcase with ⟨pf,hq,rfl,hp,-⟩ | ⟨hq,rfl,rfl⟩
 ·have HQ:=GF hq;obtain⟨p1,c1,rfl,-⟩:=hp.form;clear hq hp;go_wp2;go_ret;exact⟨by rw[HQ.out];rfl,hb1⟩
 ·have HQ:=GF hq;clear hq;go_wp2;go_ret;exact⟨by rw[HQ.out];rfl,hb1⟩
structure IsF (w:World) (v:Value) (a b:List ByteArray):Prop where
 ex:∃ p c q d,v=.agg #[.slice p a.length c,.slice q b.length d]/\IsS w (.slice p a.length c) a/\IsS w (.slice q b.length d) b
theorem IsF.below {w w':World}{v:Value}{a b:List ByteArray} (h:IsF w v a b) (hb:Below w.heap.size w w'):IsF w' v a b:=by
 obtain⟨p,c,q,d,e,h1,h2⟩:=h.ex;exact⟨p,c,q,d,e,h1.below hb,h2.below hb⟩
theorem IsS.words {w:World}{p:Option Addr}{n c:Nat}{l:List ByteArray} (h:IsS w (.slice p n c) l):fY w p l:=by
 refine⟨fun hl=>?_⟩;obtain⟨b,o,rfl,hlt,-⟩:=h.get hl;refine⟨b,o,rfl,hlt,fun i hi=>?_⟩;obtain⟨b',o',e,-,hc⟩:=h.get hi;obtain⟨rfl,rfl⟩:b=b'/\o=o':=by simpa using e
 exact hc
def aG (a b:List ByteArray):Int:=if aI a b=true then 0 else 30
theorem fD (v:Value) (a b:List ByteArray) (w:World) (h:IsF w v a b) (hG:Gx w) :
  Calls Tryz.prog 24 #[v] w fun e w'=>e=.returned (.int .i64 (aG a b))/\Below w.heap.size w w':=by
 obtain⟨p,c,q,d,rfl,h1,h2⟩:=h.ex;refine (Fd p q c d a b w h1.words h2.words hG).mono ?_;rintro e w' ⟨n,rfl,hn,hb⟩;refine⟨?_,hb⟩;rcases hn with ⟨rfl,hc⟩ | ⟨rfl,hc⟩
 ·unfold aG;rw[hc.out];rfl
 ·unfold aG;rw[hc.out];rfl
theorem bv {a b:List ByteArray} (h:aI a b=true):1<=b.length/\b.length<=7/\1<=a.length/\a.length<=7/\(∀ s∈a,ce s.data.toList=true)/\(∀ s∈b,ce s.data.toList=true)/\nZ b=some [49]:=by
 unfold aI gi at h;simp only[G9,decide_eq_true_eq,Hl] at h;exact⟨h.1.2.1.1,h.1.2.1.2,h.1.1.1.1,h.1.1.1.2,h.1.1.2,h.1.2.2,h.2⟩
theorem aU (w:World) (x y:Value):(w.alloc (.cells #[x,y] 34)).cell? ⟨w.heap.size,0,none⟩=some x/\(w.alloc (.cells #[x,y] 34)).cell? ⟨w.heap.size,1,none⟩=some y :=
 ⟨aR w _ _ 0 _ rfl,aR w _ _ 1 _ rfl⟩
def mp (r:ByteArray):Nat->ByteArray
 | 0=>⟨#[49]⟩
 | i+1=>ek (mp r i) r
def dK (out:List ByteArray) (r:ByteArray):List ByteArray:=(List.range out.length).map fun i=>cX (aT out i) (mp r i)
theorem ss (out:List ByteArray) (r:ByteArray) {i:Nat} (h:i<out.length):(dK out r).take (i+1)=(dK out r).take i++[cX (aT out i) (mp r i)]:=by
 have hl:i<(dK out r).length:=by simp[dK,h]
 rw[show (dK out r).take (i+1)=(dK out r).take i++[(dK out r)[i]] from (GZ hl).symm];simp[dK]
def fy (out:List ByteArray) (r:ByteArray):Bool:=(da (dK out r)).isSome
theorem ED (v:Value) (l:List ByteArray) (r:ByteArray) (w:World) (hl:IsS w v l) (hpos:0<l.length) (hlen:l.length<1000000) (hG:Gw w) :
  Calls Tryz.prog 82 #[v,.string r] w fun e w'=>e=.returned (.bool (fy l r))/\Below w.heap.size w w':=by
 obtain⟨p,c,rfl,-⟩:=id hl.form;have HL:=GF hl;have HG:=GF hG;clear hl hG;go_enter Tryz.func82,Tryz.ntmps82;go_wp2;go_loopw [5,6,11] (fun s5 s6 s11 wr=>∃ i:Nat,s5=.string (mp r i)/\s11=.int .i64 i/\i<=l.length/\cR wr w.heap.size s6 ((dK l r).take i)/\Below w.heap.size w wr) (fun _ _ s11 _=>l.length-(intOf s11).toNat)
 case atStart=>exact⟨0,rfl,rfl,GY _,cR.nil _ _,Ki _ _⟩
 case round =>
  obtain⟨i,rfl,rfl,hin,hown,hbr⟩:=hrel;by_cases hi:i<l.length
  ·obtain⟨b,o,rfl,hbl,hcell⟩:=(HL.out.below hbr).get hi;rw[fQ] at hcell;have HT:=GF (ss l r hi);go_wp2_with fail
   refine (gx _ _ wr (HG.out.below hbr)).mono ?_;rintro e w1 ⟨rfl,hb1⟩;have hB1:=hbr.trans (hb1.mono hbr.size);have hw1:=hown.below hb1;have hbs:=hB1.size;have hzl:((dK l r).take i).length<1000000000:=by simp;omega
   clear hb1 hbr hown hcell;go_wp2_with (at_builtin;refine bH 29 Tryz.underlying29 rfl (.tmp 15) (.tmp 19) rfl w.heap.size _ _ _ rfl hw1 rfl hzl hbs ?_)
   intro v' w2 hw2 hb2;have hB2:=hb2 _ _ hB1 (GM _);rw[<-HT.out] at hw2;clear hw1 hb2 hB1;go_wp2_with fail
   refine (fP _ _ w2 (HG.out.below hB2)).mono ?_;rintro e w3 ⟨rfl,hb3⟩;have hB3:=hB2.trans (hb3.mono hB2.size);have hw3:=hw2.below hb3;clear hb3 hB2 hw2;go_wp2;go_roundw;case rel=>exact⟨i+1,rfl,by go_num,by omega,hw3,hB3⟩
   case measure=>simp[intOf]<;>omega
  ·have hin':i=l.length:=by omega
   subst hin';have hlw:(dK l r).length=l.length:=by simp[dK]
   rw[<-hlw,He] at hown;have hs:=hown.isS;have HS:=GF (ny _ _ wr hs (by omega) (by omega) (HG.out.below hbr));obtain⟨q,d,rfl,-⟩:=hs.form;clear hown hs hi hlw;go_wp2_with fail
   refine HS.out.mono ?_;rintro e w1 ⟨rfl,hb1⟩;go_wp2;go_ret;exact⟨rfl,hbr.trans (hb1.mono hbr.size)⟩
open Go.RowKit Dc Dg
open Go.ChangeShapes Go.WideShapes
theorem laidAll:laidOutB Tryz.prog=true:=by kernel_rfl
theorem und3:Tryz.prog.underlying 3=some (.int .i64):=by kernel_rfl
theorem Dh:Tryz.prog.underlying 32=some .string:=by kernel_rfl
theorem nA:Tryz.prog.underlying 29=some (.slice 32):=by kernel_rfl
theorem CK {w:World}{b:Nat}{o:Obj} (h:w.heap[b]?=some o):b<w.heap.size:=(GT.1 h).1
theorem xI {α:Type}:∀ (n:Nat) (p:Nat->α->Prop),(∀ i,i<n->∃ x,p i x)->∃ l:List α,l.length=n/\∀ i (h:i<l.length),p i l[i]
 | 0,_,_=>⟨[],rfl,fun i h=>by simp at h⟩
 | n+1,p,h=>by
  obtain⟨l,hl,hp⟩:=xI n p (fun i hi=>h i (by omega));obtain⟨x,hx⟩:=h n (by omega);refine⟨l++[x],by simp[hl],fun i hi=>?_⟩;by_cases hin:i<l.length
  ·rw[Hi hin];exact hp i hin
  ·have hie:i=n:=by simp at hi;omega
   subst hie;rw[Hg (by omega)];simp only[hl,IX,GH];exact hx
section
variable {H : Type} {enc : TypeId × Value -> H} {w : World} {sp : Nat -> Bool} {held : Bool}
def nD (t:TypeId) (d:DataW H):Prop:=∀ n∈d.weights Tryz.prog t,n<=140737488351232
theorem ko {e:TypeId}:∀ {l:List (DataW H)}{d:DataW H},d∈l->∀ n∈d.weights Tryz.prog e,n∈DataW.weightsAll Tryz.prog e l
 | [],_,h,_,_=>by cases h
 | x :: l,d,h,n,hn=>by
  unfold DataW.weightsAll;rcases Ir.1 h with rfl | h
  ·exact List.mem_append_left _ hn
  ·exact List.mem_append_right _ (ko h n hn)
theorem CZ {t e:TypeId}{k fuel:Nat}{cs:List Value}{x:DataW H×List MemPlace} (ht:Tryz.prog.underlying t=some (.slice e)) (hk:Tryz.prog.cellsOf e=k) (hk0:0<k) (hby:1<=Tryz.prog.bytesOf e) (h:DataW.trod enc Tryz.prog w 0 sp held fuel t cs=some x) (hf:nD t x.1) :
  ∃ (p:Option Addr) (len cap:Nat),cs=[.slice p len cap]/\len<=cap/\cap<=maxLen/\len<=140737488351232/\(0<len->∃ b o,p=some ⟨b,o,none⟩/\b<w.heap.size/\∀ i,i<len->∃ (ecs:List Value) (n:Nat) (y:DataW H×List MemPlace),ecs.length=k/\(∀ j,j<k->w.cell? ⟨b,o+i*k+j,none⟩=ecs[j]?)/\DataW.trod enc Tryz.prog w 0 sp held n e ecs=some y/\nD e y.1):=by
 rcases Go.Deep.open_slice ht h with ⟨rfl,_⟩ | ⟨a,len,cap,m,n,D,Pl,rfl,_,hl,hm,hmm,hxe,hx⟩
 ·exact⟨none,0,0,rfl,GM _,GY _,GY _,fun h=>absurd h (Nat.lt_irrefl 0)⟩
 ·have hlm:len<=m:=by rw[hmm];split<;>omega
  have hfe:∀ i,i<len->nD e (D i):=fun i hi n hn=>hf n (by
   rw[hxe]
   show n∈DataW.weights Tryz.prog t (.slice _ _)
   unfold DataW.weights;rw[ht]
   exact In _ (List.mem_append_left _ (ko (JM.2 ⟨i,IS.2 hi,rfl⟩) n hn)))
  have hlr:len<=140737488351232:=by
   have h1:=hf ((((List.range len).map D).length+((List.range (m-len)).map fun j=>D (len+j)).length)*Tryz.prog.bytesOf e) (by
    rw[hxe]
    show _∈DataW.weights Tryz.prog t (.slice _ _)
    unfold DataW.weights;rw[ht]
    exact Hy ..)
   simp only[Hj,List.length_range] at h1;have h2:len*1<=(len+(m-len))*Tryz.prog.bytesOf e:=Hm (by omega) hby;omega
  refine⟨some a,len,cap,rfl,hl,hm,hlr,fun h0=>?_⟩;rw[hk] at hx
  have cellAt:∀ i,i<len->∃ (ecs:List Value),ecs.length=k/\(∀ j,j<k->w.cell? ((a.add (i*k)).add j)=ecs[j]?)/\∃ y,DataW.trod enc Tryz.prog w 0 sp held n e ecs=some y/\nD e y.1:=fun i hi=>by
   obtain⟨ecs,h1,h2⟩:=hx i (by omega);obtain⟨_,hlen,hc⟩:=World.cells?_some h1;exact⟨ecs,hlen,fun j hj=>hc j hj,_,h2,hfe i hi⟩
  obtain⟨ecs,hlen,hc,_⟩:=cellAt 0 h0;have h00:=hc 0 hk0;rw[Iu] at h00
  have hsp:a.spot=none/\a.block<w.heap.size:=by
   have e0:(a.add 0).add 0=a:=by simp[Addr.add]
   rw[e0,G4 (by omega)] at h00;unfold World.cell? at h00
   split at h00
   ·rename_i c _ _ hb
    split at h00
    ·cases h00
    ·rename_i hs
     exact⟨by simpa using hs,CK hb⟩
   ·cases h00
  obtain⟨hs,hb⟩:=hsp;obtain⟨b,o,s⟩:=a;simp only at hs hb;subst hs;refine⟨b,o,rfl,hb,fun i hi=>?_⟩;obtain⟨ecs,hlen,hc,y,hy⟩:=cellAt i hi;refine⟨ecs,n,y,hlen,fun j hj=>?_,hy⟩
  have ea:((⟨b,o,none⟩:Addr).add (i*k)).add j=⟨b,o+i*k+j,none⟩:=by
   rw[Go.Deep.add_add];unfold Addr.add
   split
   ·rename_i hz
    rw[IH,hz,Hq]
   ·rw[IH]
  rw[<-hc j hj,ea]
theorem Ae {t:TypeId}{fuel:Nat}{cs:List Value}{x:DataW H×List MemPlace} (ht:Tryz.prog.underlying t=some .string) (h:DataW.trod enc Tryz.prog w 0 sp held fuel t cs=some x) (hf:nD t x.1):∃ s:ByteArray,cs=[.string s]/\s.size<=140737488351232:=by
 obtain⟨s,e,hx,hs⟩:=DataW.trod_string ht h;refine⟨s,e,?_⟩;have:=hf s.data.toList.length (by rw[hx];unfold DataW.weights;exact Hy ..);simpa using this
theorem tr {t:TypeId}{fs:Array Field}{fuel:Nat}{cs:List Value}{x:DataW H×List MemPlace} (ht:Tryz.prog.underlying t=some (.struct fs)) (h:DataW.trod enc Tryz.prog w 0 sp held fuel t cs=some x) (hw:nD t x.1) {i:Nat}{f:Field} (hf:fs[i]?=some f) :
  ∃ n y,DataW.trod enc Tryz.prog w 0 sp held n f.type ((cs.drop f.offset).take (Tryz.prog.cellsOf f.type))=some y/\nD f.type y.1:=by
 obtain⟨xs,n,_,hxe,_,hl,hx⟩:=DataW.trod_struct ht h;have h1:=hx i f hf;have hi:i<xs.length:=by rw[hl];exact (GT.1 hf).1
 rw[G4 hi] at h1;refine⟨n,_,h1,fun m hm=>hw m ?_⟩;rw[hxe]
 show m∈DataW.weights Tryz.prog t (.agg _)
 unfold DataW.weights;rw[ht];exact DataW.weights_mem_each (j:=i) (by simp only[Jy,IK,hf,JU]) (by simp only[Jy,G4 hi,JU]) m hm
theorem EI {cs:List Value}{o k:Nat}{v:Value} (h:(cs.drop o).take k=[v]):cs[o]?=some v:=by
 have h1:=congrArg (·[0]?) h;simp only[Js,IL,Jv,Hq] at h1
 split at h1
 ·exact h1
 ·cases h1
theorem Ac {r:Reach}{base:Nat}{t e:TypeId}{v:Value}{p:Option Addr}{l c:Nat} (ht:Tryz.prog.underlying t=some (.slice e)) (h:Value.okWide Tryz.prog w r base t v) (hv:v.cells.toList=[.slice p l c]):v=.slice p l c:=by
 cases v
 case agg xs =>
  unfold Value.okWide at h;rw[ht] at h;simp only[Cell.okWide,ht,Cell.ok] at h
 all_goals (simp[Value.cells] at hv)
 case slice a b d =>
  obtain⟨rfl,rfl,rfl⟩:=hv;rfl
theorem lf {t:TypeId}{fuel:Nat}{cs:List Value}{x:DataW H×List MemPlace} (ht:Tryz.prog.underlying t=some (.slice 32)) (h:DataW.trod enc Tryz.prog w 0 sp held fuel t cs=some x) (hf:nD t x.1) :
  ∃ (p:Option Addr) (cap:Nat) (l:List ByteArray),cs=[.slice p l.length cap]/\IsS w (.slice p l.length cap) l:=by
 obtain⟨p,len,cap,rfl,hl,hm,hr,hx⟩:=CZ ht (by kernel_rfl:Tryz.prog.cellsOf 32=1) (by decide) (of_decide_eq_true (by kernel_rfl)) h hf;by_cases h0:0<len
 ·obtain⟨b,o,rfl,hb,hx⟩:=hx h0
  obtain⟨l,rfl,hp⟩:=xI len (fun i (s:ByteArray)=>w.cell? ⟨b,o+i,none⟩=some (.string s)) (fun i hi=>by
   obtain⟨ecs,n,y,h1,h2,h3,h4⟩:=hx i hi;obtain⟨s,rfl,-⟩:=Ae Dh h3 h4
   exact⟨s,by have:=h2 0 (by omega);rw[Ix,Hq] at this;exact this⟩)
  refine⟨_,cap,l,rfl,⟨_,cap,by rw[Hj],by rw[Hj];exact hl,hm,fun _=>⟨b,o,rfl,hb,fun i hi j u hu=>?_⟩⟩⟩;have hi':i<l.length:=by simpa using hi
  rw[Ie] at hu
  have hj:j=0:=by
   rcases j with _ | j
   ·rfl
   ·simp[cellsOf] at hu
  subst hj;have hu':Value.string l[i]=u:=by simpa[cellsOf] using hu
  rw[<-hu',Ix,Hq];exact hp i hi'
 ·obtain rfl:len=0:=by omega
  exact⟨p,cap,[],rfl,⟨p,cap,rfl,GY _,hm,fun h=>absurd h (Nat.lt_irrefl 0)⟩⟩
theorem D8 {r:Reach}{base:Nat}{v:Value}{d:DataW H}{pl:List MemPlace} (h:DataW.Trod enc Tryz.prog w 0 sp held 29 v d pl) (hf:nD 29 d) (hok:Value.okWide Tryz.prog w r base 29 v):∃ l:List ByteArray,IsS w v l:=by
 obtain⟨fuel,h⟩:=h;obtain⟨p,cap,l,e0,hl⟩:=lf nA h hf;have hv:v=.slice p l.length cap:=Ac nA hok e0;exact⟨l,hv ▸ hl⟩
theorem zi {v:Value}{d:DataW H}{pl:List MemPlace} (h:DataW.Trod enc Tryz.prog w 0 sp held 34 v d pl) (hf:nD 34 d) (hv:∃ cs,v=.agg cs):∃ a b,IsF w v a b:=by
 obtain⟨fuel,h⟩:=h
 obtain⟨n0,y0,f0,gf0⟩:=tr Tryz.underlying34 h hf (i:=0) rfl
 obtain⟨n1,y1,f1,gf1⟩:=tr Tryz.underlying34 h hf (i:=1) rfl
 obtain⟨xs,_,_,_,hcl,_,_⟩:=DataW.trod_struct Tryz.underlying34 h
 have hc1:Tryz.prog.cellsOf 34=2:=by kernel_rfl
 obtain⟨p1,c1,al,e1,hq1⟩:=lf nA f0 gf0
 obtain⟨p2,c2,fl,e2,hq2⟩:=lf nA f1 gf1
 have g1:=EI e1
 have g2:=EI e2
 obtain⟨cs,rfl⟩:=hv
 rw[hc1] at hcl
 have hcs:(Value.agg cs).cells.toList=[.slice p1 al.length c1,.slice p2 fl.length c2]:=by
  revert hcl g1 g2
  generalize (Value.agg cs).cells.toList=l
  intro hcl g1 g2
  match l,hcl,g1,g2 with
  | [a,b],_,g1,g2 =>
   have ha:a=.slice p1 al.length c1:=by
    have h1:[a,b][0]?=some (Value.slice p1 al.length c1):=g1
    simpa using h1
   have hb:b=.slice p2 fl.length c2:=by
    have h1:[a,b][1]?=some (Value.slice p2 fl.length c2):=g2
    simpa using h1
   rw[ha,hb]
 refine⟨al,fl,⟨p1,c1,p2,c2,?_,hq1,hq2⟩⟩
 have:cs.toList=[.slice p1 al.length c1,.slice p2 fl.length c2]:=hcs
 rw[show cs=#[.slice p1 al.length c1,.slice p2 fl.length c2] from Array.toList_inj.1 this]
end
open Go.RowKit Dg
def E7 (a b:List ByteArray) (w:World) (e:Ending) (w':World):Prop :=
 ∃ v err,e=.returned (.tuple #[v,.int .i64 err])/\((∃ pf,aI a b=true/\da b=some pf/\err=0/\IsS w' v pf/\pf.length=b.length-1)\/(aI a b=true/\da b=none/\err=31/\v=.slice none 0 0)\/(aI a b=false/\err=30/\v=.slice none 0 0))/\Below w.heap.size w w'
theorem Ax (v:Value) (a b:List ByteArray) (w:World) (hF:IsF w v a b) (hG:Gx w) :
  Calls Tryz.prog 31 #[v] w (E7 a b w):=by
 obtain⟨p,c,q,d,rfl,hfa,hfb⟩:=id hF.ex;go_enter Tryz.func31,Tryz.ntmps31;go_upto_region 1 with fail
 have cc:=aU w (.slice p a.length c) (.slice q b.length d);have m1:=au w (.cells #[.slice p a.length c,.slice q b.length d] 34);have zz:=size_alloc w (.cells #[.slice p a.length c,.slice q b.length d] 34);generalize w.alloc (.cells #[.slice p a.length c,.slice q b.length d] 34)=w1 at *
 have HCK:=GF (fD _ a b w1 (hF.below m1) (hG.below m1));have HA:=GF (hfa.below m1);have HB:=GF (hfb.below m1);have HG:=GF (hG.below m1);have c0:=cc.1;have c1:=cc.2;have hlt:w.heap.size<w1.heap.size:=by omega
 have M1:=GF m1;clear hfa hfb cc zz m1 hF hG;by_cases hck:aI a b=true
 ·have hce:aG a b=0:=by unfold aG;rw[if_pos hck]
  rw[hce] at HCK;obtain⟨ob1,ob7,oa1,oa7,oac,obc,ohd⟩:=bv hck;clear hce;go_wp2_with fail
  refine HCK.out.mono ?_;rintro e w2 ⟨rfl,hb2⟩;have d0:=aj hb2 hlt c0;have d1:=aj hb2 hlt c1;have HA2:=GF (HA.out.below hb2);have HB2:=GF (HB.out.below hb2);have HG2:=GF (HG.out.below hb2);have M2:=GF (M1.out.trans (hb2.mono M1.out.size));have hlt2:w.heap.size<w2.heap.size:=GN hlt hb2.size;clear c0 c1 HA HB HG HCK M1 hb2 hlt;have HS:=GF (Ck _ b w2 HB2.out ob1 (by omega) HG2.out.g);have HC:=GF hck;clear hck oac obc ohd ob1 ob7 oa1 oa7;go_wp2_with fail
  refine HS.out.mono ?_;rintro e w3 ⟨v3,ok,rfl,hcase,hb3⟩;rcases hcase with ⟨pf,hq,rfl,hp,hpl⟩ | ⟨hq,rfl,rfl⟩
  ·have HQ:=GF hq;have HPL:=GF hpl;obtain⟨p1,c1',rfl,-⟩:=id hp.form;clear hq hpl;go_wp2;refine Kh (v:=.tuple #[.slice p1 pf.length c1',.int .i64 0]) (by simp[results,Tryz.results31,go_sem]) rfl ⟨_,_,rfl,Or.inl ⟨pf,HC.out,HQ.out,rfl,hp,HPL.out⟩,M2.out.trans (hb3.mono M2.out.size)⟩
  ·have HQ:=GF hq;clear hq;go_wp2;refine Kh (v:=.tuple #[.slice none 0 0,.int .i64 31]) (by simp[results,Tryz.results31,go_sem]) rfl ⟨_,_,rfl,Or.inr (Or.inl ⟨HC.out,HQ.out,rfl,rfl⟩),M2.out.trans (hb3.mono M2.out.size)⟩
 ·have HC:=GF (show aI a b=false by simpa using hck);have hce:aG a b=30:=by unfold aG;rw[if_neg hck]
  rw[hce] at HCK;clear hce;go_wp2_with fail
  refine HCK.out.mono ?_;rintro e w2 ⟨rfl,hb2⟩;go_wp2;refine Kh (v:=.tuple #[.slice none 0 0,.int .i64 30]) (by simp[results,Tryz.results31,go_sem]) rfl ⟨_,_,rfl,Or.inr (Or.inr ⟨HC.out,rfl,rfl⟩),M1.out.trans (hb2.mono M1.out.size)⟩
end Go.Proofs.YtmakbmhlemhgeaaGreatDoor
