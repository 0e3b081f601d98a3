/- L -/
import Derived.Laws.Cover3
import Derived.Deep.Slices
import Derived.OpenShut
import Derived.Test.YtmakbmhlemhgeaaGreatDoorQCoef
import Derived.Test.YtmakbmhlemhgeaaGreatDoorQNC5
import Derived.Test.YtmakbmhlemhgeaaGreatDoorQB
set_option linter.all false
set_option maxRecDepth 100000
set_option maxHeartbeats 8000000
namespace Go.Proofs.YtmakbmhlemhgeaaGreatDoor
open Go.RowKit Dg
def eg (l:List ByteArray):Except Int (List Rat) :=
 match cG l with
 | none=>.error 10
 | some zs=>match ff zs with
  | none=>.error 13
  | some qs=>.ok qs
def lO (l:List ByteArray) (w:World) (e:Ending) (w':World):Prop :=
 ∃ v err,e=.returned (.tuple #[v,.int .i64 err])/\((∃ qs,eg l=.ok qs/\err=0/\IsL w' v qs)\/(eg l=.error err/\err≠0/\v=.slice none 0 0))/\Below w.heap.size w w'
theorem qD (v:Value) (l:List ByteArray) (w:World) (hl:IsS w v l) (hlen:l.length<1000000000) (hG:Gw w) :
  Calls Tryz.prog 71 #[v] w (lO l w):=by
 obtain⟨p,c,rfl,-⟩:=id hl.form;have HA:=ri (pZ _ l w hl hlen hG);go_enter Tryz.func71,Tryz.ntmps71;go_wp2_with fail
 refine HA.out.mono ?_;rintro e w1 ⟨v1,ok,rfl,hcase,hb1⟩;rcases hcase with ⟨zs,hz,rfl,hp⟩ | ⟨hz,rfl,rfl⟩
 ·obtain⟨p1,c1,rfl,-⟩:=id hp.form;have hzl:zs.length<1000000000:=by rw[gg hz];exact hlen
  have HB:=ri (oL _ zs w1 hp hzl);have HZ:=ri hz;clear hz hp;go_wp2_with fail
  refine HB.out.mono ?_;rintro e w2 ⟨v2,ok,rfl,hcase,hb2⟩;rcases hcase with ⟨qs,hq,rfl,hp⟩ | ⟨hq,rfl,rfl⟩
  ·obtain⟨p2,c2,rfl,-⟩:=id hp.form;have HQ:=ri hq;clear hq;go_wp2;refine t8 (v:=.tuple #[.slice p2 qs.length c2,.int .i64 0]) (by simp[results,Tryz.results71,go_sem]) rfl ⟨_,_,rfl,Or.inl ⟨qs,by unfold eg;rw[HZ.out];simp only;rw[HQ.out],rfl,hp⟩,hb1.trans (hb2.mono hb1.size)⟩
  ·have HQ:=ri hq;clear hq;go_wp2;refine t8 (v:=.tuple #[.slice none 0 0,.int .i64 13]) (by simp[results,Tryz.results71,go_sem]) rfl ⟨_,_,rfl,Or.inr ⟨by unfold eg;rw[HZ.out];simp only;rw[HQ.out],by decide,rfl⟩,hb1.trans (hb2.mono hb1.size)⟩
 ·have HZ:=ri hz;clear hz;go_wp2;refine t8 (v:=.tuple #[.slice none 0 0,.int .i64 10]) (by simp[results,Tryz.results71,go_sem]) rfl ⟨_,_,rfl,Or.inr ⟨by unfold eg;rw[HZ.out],by decide,rfl⟩,hb1⟩
theorem ac {w w':World}{B b:Nat} (h:Below B w w') (hb:b<B) {o:Nat}{v:Value} (hc:w.cell? ⟨b,o,none⟩=some v):w'.cell? ⟨b,o,none⟩=some v:=(h.cell (p:=⟨b,o,none⟩) hb).trans hc
theorem IsS.other {w:World}{v:Value}{l:List ByteArray} (h:IsS w v l) {g:Nat} (hne:v.ownBlock≠some g) (j:Nat) (u:Value):IsS (w.setCell ⟨g,j,none⟩ u) v l:=by
 obtain⟨p,cap,rfl,h1,h2,h3⟩:=h;refine⟨p,cap,rfl,h1,h2,fun hl=>?_⟩;obtain⟨b,o,rfl,hlt,hc⟩:=h3 hl;have hne':b≠g:=fun e=>hne (by rw[e];rfl);refine⟨b,o,rfl,by simpa[World.setCell] using hlt,fun i hi j' u' hu=>?_⟩;rw[World.cell?_setCell_other _ _ _ _ (by intro e3;exact hne' (congrArg Addr.block e3).symm)];exact hc i hi j' u' hu
def aU (l:List ByteArray) (i:Nat):ByteArray:=l.getD i ⟨#[]⟩
theorem dT {l:List ByteArray}{i:Nat} (h:i<l.length):l[i]=aU l i:=by simp[aU,h]
theorem jb (z:Int):rt (z:Rat)=⟨decide (z<0),z.natAbs,1⟩:=by
 unfold rt;rw[Rat.num_intCast,Rat.den_intCast]
theorem lf {n:Nat} (h:n<18446744073709551616):Few n:=gn (k:=20) (by omega) (by decide)
theorem oE (z:Int) (w:World) (h1:-9223372036854775808<=z) (h2:z<=9223372036854775807) :
  Calls Tryz.prog 60 #[.int .i64 z] w fun e w'=>∃ v,e=.returned v/\IsR w' v (rt (z:Rat))/\Below w.heap.size w w':=by
 rw[jb];go_enter Tryz.func60,Tryz.ntmps60;go_upto_region 1 with fail
 have q3:=aG.new w (.bool false) (.slice none 0 0) (.slice none 0 0) nofun nofun nofun;have m3:=ae w (.cells #[.bool false,.slice none 0 0,.slice none 0 0] 106);generalize w.alloc (.cells #[.bool false,.slice none 0 0,.slice none 0 0] 106)=w3 at *
 have B3:=ri q3;have MD:=ri m3;clear q3 m3;by_cases hz:z<0
 ·have hd:decide (z<0)=true:=decide_eq_true hz;obtain⟨n,rfl⟩:∃ n:Nat,z=-(n:Int)-1:=⟨(-z-1).toNat,by omega⟩;have e1:(-(n:Int)-1)+1=-(n:Int):=by omega
  go_wp2_with fail
  have hp:=dE (n+1) w3 (by omega);try rw[show ((n+1:Nat):Int)=(n:Int)+1 from by omega] at hp
  refine hp.mono ?_;clear hp;rintro e w4 ⟨v4,rfl,hv4,hb4⟩;go_wp2_with fail
  refine (eE w4).mono ?_;rintro e w5 ⟨v5,rfl,hv5,hb5⟩;have hn:=(hv4.isU).below hb5;have hB5:=hb4.trans (hb5.mono hb4.size);obtain⟨pn,cn,rfl,-⟩:=id hn;obtain⟨pd,cd,rfl,-⟩:=id hv5;have hR:IsR w5 (.agg #[.bool true,.slice pn _ cn,.slice pd _ cd]) ⟨true,n+1,1⟩:=⟨_,_,rfl,hn,hv5,lf (n:=n+1) (by omega),lf (n:=1) (by decide)⟩;have B8:=B3.out.below hB5;have k0:=B8.c0;have k1:=B8.c1;have k2:=B8.c2;have f0:=B8.fr 0;have f1:=B8.fr 1;have f2:=B8.fr 2;have P:=ri (B8.putR hR);have M8:=ri (P.out.2.2 _ w (MD.out.trans (hB5.mono MD.out.size)) (rp _));have HE:=ri (show (⟨true,n+1,1⟩:Rt)=⟨decide ((-(n:Int)-1)<0),((-(n:Int)-1)).natAbs,1⟩ from by congr 1<;>(first | omega | (simp;done) | (simp;omega)));clear hR hn hv4 hv5 B8 hb4 hb5 hB5;go_wp2_with fail
  have q0:=P.out.1.c0;have q1:=P.out.1.c1;have q2:=P.out.1.c2;refine t8 (v:=.agg #[.bool true,.slice pn (aa BB (n+1)).length cn,.slice pd (aa BB 1).length cd]) (by simp[j6] at q0 q1 q2 |-;simp[results,Tryz.results60,go_sem,q0,q1,q2]) rfl ⟨_,rfl,by rw[<-HE.out];exact P.out.2.1,M8.out⟩
 ·have hd:decide (z<0)=false:=decide_eq_false hz;obtain⟨n,rfl⟩:∃ n:Nat,z=n:=⟨z.toNat,by omega⟩;go_wp2_with fail
  have hp:=dE (n) w3 (by omega);try rw[show ((n+1:Nat):Int)=(n:Int)+1 from by omega] at hp
  refine hp.mono ?_;clear hp;rintro e w4 ⟨v4,rfl,hv4,hb4⟩;go_wp2_with fail
  refine (eE w4).mono ?_;rintro e w5 ⟨v5,rfl,hv5,hb5⟩;have hn:=(hv4.isU).below hb5;have hB5:=hb4.trans (hb5.mono hb4.size);obtain⟨pn,cn,rfl,-⟩:=id hn;obtain⟨pd,cd,rfl,-⟩:=id hv5;have hR:IsR w5 (.agg #[.bool false,.slice pn _ cn,.slice pd _ cd]) ⟨false,n,1⟩:=⟨_,_,rfl,hn,hv5,lf (n:=n) (by omega),lf (n:=1) (by decide)⟩;have B8:=B3.out.below hB5;have k0:=B8.c0;have k1:=B8.c1;have k2:=B8.c2;have f0:=B8.fr 0;have f1:=B8.fr 1;have f2:=B8.fr 2;have P:=ri (B8.putR hR);have M8:=ri (P.out.2.2 _ w (MD.out.trans (hB5.mono MD.out.size)) (rp _));have HE:=ri (show (⟨false,n,1⟩:Rt)=⟨decide ((n:Int)<0),((n:Int)).natAbs,1⟩ from by congr 1<;>(first | omega | (simp;done) | (simp;omega)));clear hR hn hv4 hv5 B8 hb4 hb5 hB5;go_wp2_with fail
  have q0:=P.out.1.c0;have q1:=P.out.1.c1;have q2:=P.out.1.c2;refine t8 (v:=.agg #[.bool false,.slice pn (aa BB (n)).length cn,.slice pd (aa BB 1).length cd]) (by simp[j6] at q0 q1 q2 |-;simp[results,Tryz.results60,go_sem,q0,q1,q2]) rfl ⟨_,rfl,by rw[<-HE.out];exact P.out.2.1,M8.out⟩
theorem pC (z:Int):sgz (decide (z<0) != false) z.natAbs=z:=by
 unfold sgz;by_cases h:z<0
 ·simp[h];omega
 ·simp[h];omega
theorem qZ (z:Int) (d:Nat) (w:World) (h1:-9223372036854775808<=z) (h2:z<=9223372036854775807) (hd:0<d) (hd2:d<=9223372036854775807) (hG:Gw w) :
  Calls Tryz.prog 20 #[.int .i64 z,.int .i64 d] w fun e w'=>e=.returned (.tuple #[.string (dx (CQ.real (mkRat z d))).1,.int .i64 (dx (CQ.real (mkRat z d))).2])/\Below w.heap.size w w':=by
 have hq:bv (decide (z<0) != false) z.natAbs d=rt (mkRat z d):=by rw[fW _ _ _ hd,pC]
 have hdd:((d:Int) == 0)=false:=by simp;omega
 have hr2:rt ((d:Int):Rat)=⟨false,d,1⟩:=by rw[jb];congr 1<;>simp
 have hr1:=jb z;have HQ:=ri hq;have HR1:=ri hr1;have HR2:=ri hr2;have HD:=ri hd;clear hq hr1 hr2 hd;go_enter Tryz.func20,Tryz.ntmps20;go_wp2_with fail
 refine (oE z w h1 h2).mono ?_;rintro e w1 ⟨v1,rfl,hv1,hb1⟩;rw[HR1.out] at hv1;go_wp2_with fail
 refine (oE d w1 (by omega) (by omega)).mono ?_;rintro e w2 ⟨v2,rfl,hv2,hb2⟩;rw[HR2.out] at hv2;have hv1:=hv1.below hb2;have hB2:=hb1.trans (hb2.mono hb1.size);obtain⟨xm,xp,xl,xc,xq,xk,xd,rfl⟩:=hv1.form;obtain⟨ym,yp,yl,yc,yq,yk,yd,rfl⟩:=hv2.form;clear hb1 hb2;go_upto_region 4 with fail
 have q1:=aG.new w2 (.bool xm) (.slice xp xl xc) (.slice xq xk xd) nofun nofun nofun;have m1:=ae w2 (.cells #[.bool xm,.slice xp xl xc,.slice xq xk xd] 106);have z1:=af w2 (.cells #[.bool xm,.slice xp xl xc,.slice xq xk xd] 106);generalize w2.alloc (.cells #[.bool xm,.slice xp xl xc,.slice xq xk xd] 106)=w3 at *
 have q2:=aG.new w3 (.bool ym) (.slice yp yl yc) (.slice yq yk yd) nofun nofun nofun;have m2:=ae w3 (.cells #[.bool ym,.slice yp yl yc,.slice yq yk yd] 106);generalize w3.alloc (.cells #[.bool ym,.slice yp yl yc,.slice yq yk yd] 106)=w4 at *
 rw[z1] at q2;have q1:=q1.below m2;have hb4:=m1.trans (m2.mono m1.size);have hB4:=hB2.trans (hb4.mono hB2.size);obtain⟨xn',xd',hxe,hxn,hxd,f1,f2⟩:=hv1.below hb4;obtain⟨yn',yd',hye,hyn,hyd,g1,g2⟩:=hv2.below hb4;simp only at hxn hxd hyn hyd f1 f2 g1 g2;obtain⟨rfl,rfl,rfl⟩:xm=decide (z<0)/\(.slice xp xl xc)=xn'/\(.slice xq xk xd)=xd':=by simpa using hxe
 obtain⟨rfl,rfl,rfl⟩:ym=false/\(.slice yp yl yc)=yn'/\(.slice yq yk yd)=yd':=by simpa using hye
 have HRED:=ri (bW (decide (z<0) != false) _ _ _ _ w4 hxn hyn f1 g1 HD.out);rw[HQ.out] at HRED;have hG4:=hG.below hB4;have a0:=q1.c0;have a1:=q1.c1;have a2:=q1.c2;have b0:=q2.c0;have b1:=q2.c1;have b2:=q2.c2;clear q1 q2 m1 m2 z1 hb4 hB2 hv1 hv2 hxe hye hxn hxd hyn hyd f1 f2 g1 g2;have hbn:(decide (z<0) != false)=decide (z<0):=by simp
 rw[hbn] at HRED;go_wp2_with fail
 refine HRED.out.mono ?_;rintro e w5 ⟨v5,rfl,hv5,hb5⟩;go_wp2_with fail
 refine (i_ _ _ _ hv5).mono ?_;rintro e w6 ⟨v6,rfl,hv6,hb6⟩;rw[fd] at hv6;have hB6:=hb5.trans (hb6.mono hb5.size);go_wp2_with fail
 refine (putN _ _ w6 hv6 (hG4.below hB6)).mono ?_;rintro e w7 ⟨rfl,hb7⟩;have hB7:=hB6.trans (hb7.mono hB6.size);go_wp2;refine t8 (v:=.tuple #[.string (dx (CQ.real (mkRat z d))).1,.int .i64 (dx (CQ.real (mkRat z d))).2]) (by simp[results,Tryz.results20,go_sem]) rfl ⟨rfl,hB4.trans (hB7.mono hB4.size)⟩
structure IsF (w:World) (v:Value) (a b:List ByteArray):Prop where
 ex:∃ p c q d,v=.agg #[.slice p a.length c,.slice q b.length d]/\IsS w (.slice p a.length c) a/\IsS w (.slice q b.length d) b
theorem IsF.below {w w':World}{v:Value}{a b:List ByteArray} (h:IsF w v a b) (hb:Below w.heap.size w w'):IsF w' v a b:=by
 obtain⟨p,c,q,d,e,h1,h2⟩:=h.ex;exact⟨p,c,q,d,e,h1.below hb,h2.below hb⟩
theorem IsS.words {w:World}{p:Option Addr}{n c:Nat}{l:List ByteArray} (h:IsS w (.slice p n c) l):bY w p l:=by
 refine⟨fun hl=>?_⟩;obtain⟨b,o,rfl,hlt,-⟩:=h.get hl;refine⟨b,o,rfl,hlt,fun i hi=>?_⟩;obtain⟨b',o',e,-,hc⟩:=h.get hi;obtain⟨rfl,rfl⟩:b=b'/\o=o':=by simpa using e
 exact hc
def a8 (a b:List ByteArray):Int:=if ax a b=true then 0 else 30
theorem iS (v:Value) (a b:List ByteArray) (w:World) (h:IsF w v a b) (hG:Gx w) :
  Calls Tryz.prog 24 #[v] w fun e w'=>e=.returned (.int .i64 (a8 a b))/\Below w.heap.size w w':=by
 obtain⟨p,c,q,d,rfl,h1,h2⟩:=h.ex;refine (p_ p q c d a b w h1.words h2.words hG).mono ?_;rintro e w' ⟨n,rfl,hn,hb⟩;refine⟨?_,hb⟩;rcases hn with ⟨rfl,hc⟩ | ⟨rfl,hc⟩
 ·unfold a8;rw[hc.out];rfl
 ·unfold a8;rw[hc.out];rfl
theorem eb {a b:List ByteArray} (h:ax a b=true):1<=b.length/\b.length<=7/\1<=a.length/\a.length<=7/\(∀ s∈a,bn s.data.toList=true)/\(∀ s∈b,bn s.data.toList=true)/\lg b=some [49]:=by
 unfold ax bD at h;simp only[rS,decide_eq_true_eq,rO] at h;exact⟨h.1.2.1.1,h.1.2.1.2,h.1.1.1.1,h.1.1.1.2,h.1.1.2,h.1.2.2,h.2⟩
theorem bc (w:World) (x y:Value):(w.alloc (.cells #[x,y] 34)).cell? ⟨w.heap.size,0,none⟩=some x/\(w.alloc (.cells #[x,y] 34)).cell? ⟨w.heap.size,1,none⟩=some y :=
 ⟨ah w _ _ 0 _ rfl,ah w _ _ 1 _ rfl⟩
open Go.RowKit Dc Dg
open Go.ChangeShapes Go.WideShapes
theorem laidAll:laidOutB Tryz.prog=true:=by kernel_rfl
theorem und3:Tryz.prog.underlying 3=some (.int .i64):=by kernel_rfl
theorem nV {w:World}{b:Nat}{o:Obj} (h:w.heap[b]?=some o):b<w.heap.size:=(rD.1 h).1
theorem lm {α:Type}:∀ (n:Nat) (p:Nat->α->Prop),(∀ i,i<n->∃ x,p i x)->∃ l:List α,l.length=n/\∀ i (h:i<l.length),p i l[i]
 | 0,_,_=>⟨[],rfl,fun i h=>by simp at h⟩
 | n+1,p,h=>by
  obtain⟨l,hl,hp⟩:=lm n p (fun i hi=>h i (by omega));obtain⟨x,hx⟩:=h n (by omega);refine⟨l++[x],by simp[hl],fun i hi=>?_⟩;by_cases hin:i<l.length
  ·rw[sy hin];exact hp i hin
  ·have hie:i=n:=by simp at hi;omega
   subst hie;rw[sv (by omega)];simp only[hl,Nat.sub_self,rk];exact hx
section
variable {H : Type} {enc : TypeId × Value -> H} {w : World} {sp : Nat -> Bool} {held : Bool}
def ks (t:TypeId) (d:DataW H):Prop:=∀ n∈d.weights Tryz.prog t,n<=140737488351232
theorem dJ {e:TypeId}:∀ {l:List (DataW H)}{d:DataW H},d∈l->∀ n∈d.weights Tryz.prog e,n∈DataW.weightsAll Tryz.prog e l
 | [],_,h,_,_=>by cases h
 | x :: l,d,h,n,hn=>by
  unfold DataW.weightsAll;rcases sU.1 h with rfl | h
  ·exact List.mem_append_left _ hn
  ·exact List.mem_append_right _ (dJ h n hn)
theorem n9 {t e:TypeId}{k fuel:Nat}{cs:List Value}{x:DataW H×List MemPlace} (ht:Tryz.prog.underlying t=some (.slice e)) (hk:Tryz.prog.cellsOf e=k) (hk0:0<k) (hby:1<=Tryz.prog.bytesOf e) (h:DataW.trod enc Tryz.prog w 0 sp held fuel t cs=some x) (hf:ks t x.1) :
  ∃ (p:Option Addr) (len cap:Nat),cs=[.slice p len cap]/\len<=cap/\cap<=maxLen/\len<=140737488351232/\(0<len->∃ b o,p=some ⟨b,o,none⟩/\b<w.heap.size/\∀ i,i<len->∃ (ecs:List Value) (n:Nat) (y:DataW H×List MemPlace),ecs.length=k/\(∀ j,j<k->w.cell? ⟨b,o+i*k+j,none⟩=ecs[j]?)/\DataW.trod enc Tryz.prog w 0 sp held n e ecs=some y/\ks e y.1):=by
 rcases Go.Deep.open_slice ht h with ⟨rfl,_⟩ | ⟨a,len,cap,m,n,D,Pl,rfl,_,hl,hm,hmm,hxe,hx⟩
 ·exact⟨none,0,0,rfl,rp _,rH _,rH _,fun h=>absurd h (Nat.lt_irrefl 0)⟩
 ·have hlm:len<=m:=by rw[hmm];split<;>omega
  have hfe:∀ i,i<len->ks e (D i):=fun i hi n hn=>hf n (by
   rw[hxe]
   show n∈DataW.weights Tryz.prog t (.slice _ _)
   unfold DataW.weights;rw[ht]
   exact sL _ (List.mem_append_left _ (dJ (si.2 ⟨i,sr.2 hi,rfl⟩) n hn)))
  have hlr:len<=140737488351232:=by
   have h1:=hf ((((List.range len).map D).length+((List.range (m-len)).map fun j=>D (len+j)).length)*Tryz.prog.bytesOf e) (by
    rw[hxe]
    show _∈DataW.weights Tryz.prog t (.slice _ _)
    unfold DataW.weights;rw[ht]
    exact sY ..)
   simp only[rJ,List.length_range] at h1;have h2:len*1<=(len+(m-len))*Tryz.prog.bytesOf e:=sg (by omega) hby;omega
  refine⟨some a,len,cap,rfl,hl,hm,hlr,fun h0=>?_⟩;rw[hk] at hx
  have cellAt:∀ i,i<len->∃ (ecs:List Value),ecs.length=k/\(∀ j,j<k->w.cell? ((a.add (i*k)).add j)=ecs[j]?)/\∃ y,DataW.trod enc Tryz.prog w 0 sp held n e ecs=some y/\ks e y.1:=fun i hi=>by
   obtain⟨ecs,h1,h2⟩:=hx i (by omega);obtain⟨_,hlen,hc⟩:=World.cells?_some h1;exact⟨ecs,hlen,fun j hj=>hc j hj,_,h2,hfe i hi⟩
  obtain⟨ecs,hlen,hc,_⟩:=cellAt 0 h0;have h00:=hc 0 hk0;rw[th] at h00
  have hsp:a.spot=none/\a.block<w.heap.size:=by
   have e0:(a.add 0).add 0=a:=by simp[Addr.add]
   rw[e0,ry (by omega)] at h00;unfold World.cell? at h00
   split at h00
   ·rename_i c _ _ hb
    split at h00
    ·cases h00
    ·rename_i hs
     exact⟨by simpa using hs,nV hb⟩
   ·cases h00
  obtain⟨hs,hb⟩:=hsp;obtain⟨b,o,s⟩:=a;simp only at hs hb;subst hs;refine⟨b,o,rfl,hb,fun i hi=>?_⟩;obtain⟨ecs,hlen,hc,y,hy⟩:=cellAt i hi;refine⟨ecs,n,y,hlen,fun j hj=>?_,hy⟩
  have ea:((⟨b,o,none⟩:Addr).add (i*k)).add j=⟨b,o+i*k+j,none⟩:=by
   rw[Go.Deep.add_add];unfold Addr.add
   split
   ·rename_i hz
    rw[sV,hz,r7]
   ·rw[sV]
  rw[<-hc j hj,ea]
theorem qk {t:TypeId}{k:IntKind}{fuel:Nat}{cs:List Value}{x:DataW H×List MemPlace} (ht:Tryz.prog.underlying t=some (.int k)) (h:DataW.trod enc Tryz.prog w 0 sp held fuel t cs=some x):∃ z:Int,cs=[.int k z]:=by
 obtain⟨z,e,_⟩:=DataW.trod_int ht h;exact⟨z,e⟩
theorem mn {r:Reach}{base:Nat}{t e:TypeId}{v:Value}{p:Option Addr}{l c:Nat} (ht:Tryz.prog.underlying t=some (.slice e)) (h:Value.okWide Tryz.prog w r base t v) (hv:v.cells.toList=[.slice p l c]):v=.slice p l c:=by
 cases v
 case agg xs =>
  unfold Value.okWide at h;rw[ht] at h;simp only[Cell.okWide,ht,Cell.ok] at h
 all_goals (simp[Value.cells] at hv)
 case slice a b d =>
  obtain⟨rfl,rfl,rfl⟩:=hv;rfl
end
open Go.RowKit Dg Dc
def tq (q:Rat):ByteArray:=txt (CQ.real q)
def okQ (q:Rat):Prop:=eO (CQ.real q)=false
theorem iZ (q:Rat):okQ q↔bV (rt q)=false:=by
 unfold okQ eO CQ.real;have h0:bV (rt 0)=false:=by rw[fY];exact iC
 rw[h0,Bool.or_false]
theorem nz {q:Rat} (h1:q.num.natAbs<10 ^ 2000) (h2:q.den<10 ^ 2000):okQ q:=by
 rw[iZ];unfold bV rt;have h3:=aT (k:=2000) (by decide) h1;have h4:=aT (k:=2000) (by decide) h2;simp only[tD,decide_eq_false_iff_not];omega
theorem de {q:Rat} (h:okQ q):dc (tq q)=some (CQ.real q):=lZ h
theorem gK {q:Rat} (h:okQ q):dx (CQ.real q)=(tq q,0):=by unfold dx;rw[if_neg (by rw[show eO (CQ.real q)=false from h];decide)];rfl
theorem nO (a b:Rat):(CQ.real a).add (CQ.real b)=CQ.real (a+b):=by show (⟨a+b,0+0⟩:CQ)=⟨a+b,0⟩;rw[Rat.add_zero]
theorem nR (a b:Rat):(CQ.real a).sub (CQ.real b)=CQ.real (a-b):=by show (⟨a-b,0-0⟩:CQ)=⟨a-b,0⟩;rw[show (0:Rat)-0=0 by grind]
theorem nQ (a b:Rat):(CQ.real a).mul (CQ.real b)=CQ.real (a*b):=by unfold CQ.real CQ.mul;congr 1<;>grind
theorem nP (a b:Rat) (h:b≠0):(CQ.real a).div (CQ.real b)=CQ.real (a / b):=by unfold CQ.real CQ.div CQ.norm;congr 1<;>grind
theorem oJ {a b:Rat} (ha:okQ a) (hb:okQ b) (h:okQ (a+b)):fJ (tq a) (tq b)=tq (a+b):=by
 unfold fJ aO ce;rw[de ha,de hb];simp only[if_true];rw[nO,gK h]
theorem pF {a b:Rat} (ha:okQ a) (hb:okQ b) (h:okQ (a-b)):mo (tq a) (tq b)=tq (a-b):=by
 unfold mo aO ce;rw[de ha,de hb];simp only[if_true];rw[nR,gK h]
theorem lq {a b:Rat} (ha:okQ a) (hb:okQ b) (h:okQ (a*b)):jM (tq a) (tq b)=tq (a*b):=by
 unfold jM aO ce;rw[de ha,de hb];simp only[if_true];rw[nQ,gK h]
theorem oT {a b:Rat} (ha:okQ a) (hb:okQ b) (hne:b≠0) (h:okQ (a / b)):eS (tq a) (tq b)=tq (a / b):=by
 unfold eS aO jx;rw[de ha,de hb];have hn:CQ.real b≠⟨0,0⟩:=fun e=>hne (congrArg CQ.re e);simp only[if_neg hn,if_true];rw[nP a b hne,gK h]
theorem qJ:tq 1=⟨#[49]⟩:=by
 unfold tq txt
 have e:bX (ct (CQ.real 1))=[49]:=by
  rw[ej (z:=ct (CQ.real 1)) (by show (rt 0).n=0;rw[fY])]
  show aR ⟨false,1,1⟩=_
  unfold aR;rw[cr (show 1<10 by decide)];rfl
 rw[e]
theorem qB (k:Nat) (h:k≠0):1<10 ^ k:=Nat.one_lt_pow h (by decide)
theorem lF:(1:Nat)<10 ^ 2000:=qB 2000 (by decide)
theorem pm:okQ 1:=nz lF lF
theorem pr {s:ByteArray} (h:fz s.data.toList=true):∃ q,s=tq q/\okQ q:=by
 unfold fz at h
 cases hg:dw s.data.toList with
 | none=>rw[hg] at h;cases h
 | some z =>
  rw[hg] at h;obtain⟨q,rfl,-,-,h3,h4⟩:=fS hg;have him:q.im=0:=(br _).1 (of_decide_eq_true h);have e:q=CQ.real q.re:=by cases q;simp only at him;subst him;rfl
  rw[e] at h3 h4;exact⟨q.re,h4.symm,h3⟩
theorem oQ {s:ByteArray} (h:bn s.data.toList=true):∃ q,s=tq q/\okQ q:=by
 unfold bn at h;simp only[rS] at h;exact pr h.1
theorem mW {s:ByteArray} (h:bn s.data.toList=true):eS s ⟨#[49]⟩=s:=by
 obtain⟨q,rfl,hq⟩:=oQ h;have e:q / 1=q:=by grind
 rw[<-qJ,oT hq pm (by decide) (by rw[e];exact hq),e]
end Go.Proofs.YtmakbmhlemhgeaaGreatDoor
