/- Lemmas of this claim. -/
import Derived.Test.YtlkniohhalnjjaaGreatDoorKArm
import Derived.Test.YtlkniohhalnjjaaGreatDoorKSta3
set_option linter.all false
set_option maxRecDepth 100000
set_option maxHeartbeats 8000000
namespace Go.Proofs.YtlkniohhalnjjaaGreatDoor
open Go.RowKit Dc Dg
theorem fj {gs:List Gd}{g k:Nat} (hk:k<(ac gs g).length):aP gs g k=(ac gs g)[k]:=by
 unfold aP
 rw[uu hk]
theorem dM.rungs {gs:List Gd}{p:Option Addr}{c:Nat}{w:World} (h:dM w p c gs) {g:Nat} (hg:g<gs.length):∃ bg og q cq,p=some ⟨bg,og,none⟩∧bg<w.heap.size∧w.cell? ⟨bg,og+g*2+1,none⟩=some (.slice q (ac gs g).length cq)∧bP w q (ac gs g):=by
 obtain⟨bg,og,e,hb,hc⟩:=h.G.at_ (by omega)
 obtain⟨q,cq,h1,h2,h3⟩:=hc g hg
 have hra:ac gs g=gs[g].rungs:=by unfold ac;rw[uu hg]
 exact⟨bg,og,q,cq,e,hb,by rw[hra];exact h2,by rw[hra];exact h3⟩
def eJ (M:ar) (x:St):Bool:=(List.range M.n).all fun g=>decide (M.next g (x.a g).toNat<0)
theorem qu {M:ar}{x:St}{g:Nat} (hg:g<M.n) (h:¬ M.next g (x.a g).toNat<0):eJ M x=false:=by
 unfold eJ
 rw[vF]
 exact⟨g,uL.2 hg,by simpa using h⟩
theorem oN {M:ar}{x:St} (h:∀ g,g<M.n→M.next g (x.a g).toNat<0):eJ M x=true:=by
 unfold eJ
 rw[uM]
 exact fun g hg=>decide_eq_true (h g (uL.1 hg))
theorem cK.new (w:World) (x:St):cK (w.alloc (.cells #[.int .i64 x.a0,.int .i64 x.a1,.int .i64 x.a2] 69)) w.heap.size x:=⟨by simp,af w _ _ 0 _ rfl,af w _ _ 1 _ rfl,af w _ _ 2 _ rfl⟩
theorem cK.a {w:World}{k g:Nat}{x:St} (h:cK w k x) (hg:g<3):w.cell? ⟨k,g,none⟩=some (.int .i64 (x.a g)):=by
 rcases lt3 hg with rfl | rfl | rfl
 ·exact h.h0
 ·exact h.h1
 ·exact h.h2
theorem qw (gs:List Gd) (p:Option Addr) (c:Nat) (vn vb:Value) (mb N s:Nat) (f:Nat×Nat→Option Value) (w:World) (m:Nat) (x:St) (hP:bZ w m gs p c vn vb mb N s f) (hS:aS gs=true) (hx:(ad gs).At x) :
  Calls Tryz.prog 26 #[.pointer (some ⟨m,0,none⟩),.agg #[.int .i64 x.a0,.int .i64 x.a1,.int .i64 x.a2]] w (fun e w'=>e=.returned (.bool (eJ (ad gs) x))∧Below w.heap.size w w'):=by
 obtain⟨hn1,hn3⟩:=bf hS
 have hb1:Below w.heap.size w (w.alloc (.cells #[.int .i64 x.a0,.int .i64 x.a1,.int .i64 x.a2] 69)):=(Below.refl _ _).alloc (uo _) _
 have k1:=cK.new w x
 go_enter Tryz.func26,Tryz.ntmps26
 go_upto_region 1 with fail
 generalize w.alloc (.cells #[.int .i64 x.a0,.int .i64 x.a1,.int .i64 x.a2] 69)=w1 at *
 have HP:=uk (hP.below hb1)
 have m0:=HP.out.m0
 go_wp2_with fail
 clear m0
 have HK:=uk k1
 clear k1 hP
 go_loopw [12] (fun s12 wr=>∃ i:Nat,s12=.int .i64 i∧i≤gs.length∧Below w1.heap.size w1 wr∧Hid (∀ j,j<i→(ad gs).next j (x.a j).toNat<0)) (fun s12 _=>gs.length-(intOf s12).toNat)
 case atStart=>exact⟨0,rfl,by omega,Below.refl _ _,fun j hj=>by omega⟩
 case round =>
  obtain⟨i,rfl,hi,hbr,hnx⟩:=hrel
  by_cases hil:i<gs.length
  ·have hi3:i<3:=by omega
   have hi3I:(i:Int)<3:=by omega
   have hilI:(i:Int)<(gs.length:Int):=by omega
   have ha:=hx.a i hil
   have hrr:(ad gs).rungs i=(ac gs i).length:=rfl
   obtain⟨k,hk⟩:∃ k:Nat,x.a i=(k:Int):=⟨(x.a i).toNat,by omega⟩
   obtain⟨bg,og,cg,bn,on,cn,bb,ob,cb,bu,ou,cu,bv,ov,cv,br,orr,cr,hN⟩:=gR HP.out hil (show k<(ac gs i).length by omega)
   have NB:=hN.below hbr
   have n0:=NB.n0;have n1:=NB.n1;have n2:=NB.n2
   have c0:=(HK.out.below hbr).a hi3
   rw[hk] at c0
   have hkI:(k:Int)<((ac gs i).length:Int):=by omega
   obtain⟨nx,hnx2⟩:∃ nx,Hid ((ad gs).next i k=nx):=⟨_,rfl⟩
   rw[hnx2.out] at n2
   have HKK:=uk (show (x.a i).toNat=k by rw[hk,uP])
   clear NB hN ha hrr hk
   by_cases h:0≤nx
   ·have hd:decide ((0:Int)≤nx)=true:=by simp;omega
    have H:=uk h
    clear h
    go_wp2_with fail
    go_quiet (fail)
    go_wp2_with fail
    go_ret
    exact⟨by rw[qu (show i<(ad gs).n from hil) (by rw[HKK.out,hnx2.out];have:=H.out;omega)];rfl,below_drewN (hb1.trans (hbr.mono hb1.size)) _⟩
   ·have hd:decide ((0:Int)≤nx)=false:=by simp;omega
    have H:=uk h
    clear h
    go_wp2_with fail
    go_quiet (fail)
    go_wp2_with fail
    go_roundw
    case rel =>
     refine⟨i+1,by go_num,by omega,below_drewN hbr _,fun j hj=>?_⟩
     by_cases hji:j=i
     ·subst hji;rw[HKK.out,hnx2.out];have:=H.out;omega
     ·exact hnx.out j (by omega)
    case measure=>simp[intOf];omega
  ·obtain rfl:i=gs.length:=by omega
   clear hil
   go_wp2_with fail
   go_ret
   exact⟨by rw[oN (fun g hg=>hnx.out g hg)];rfl,hb1.trans (hbr.mono hb1.size)⟩
def mF (gs:List Gd) (al fl:List Int) (w:World) (e:Ending) (w':World):Prop :=
 Below w.heap.size w w'∧((∃ n,n≠0∧mD gs al fl n∧e=.returned (.tuple #[.bool false,.int .i64 n]))∨(∃ y,aS gs=true∧cA gs al fl y∧e=.returned (.tuple #[.bool (eJ (ad gs) y),.int .i64 0])))
theorem m7 (gs:List Gd) (p:Option Addr) (c:Nat) (w:World) (v:Value) (al fl:List Int) (hP:dM w p c gs) (hQ:eT w v al fl) :
  Calls Tryz.prog 15 #[.agg #[.slice p gs.length c],v] w (mF gs al fl w):=by
 obtain⟨u1,u2,rfl,hI1,hI2⟩:=hQ.at_
 obtain⟨p1,c1,rfl,-⟩:=hI1.at_
 obtain⟨p2,c2,rfl,-⟩:=hI2.at_
 have hb1:Below w.heap.size w ((w.alloc (.cells #[.slice p gs.length c] 28)).alloc (.cells #[.slice p1 al.length c1,.slice p2 fl.length c2] 36)):=((Below.refl _ _).alloc (uo _) _).alloc (by simp) _
 have s0:((w.alloc (.cells #[.slice p gs.length c] 28)).alloc (.cells #[.slice p1 al.length c1,.slice p2 fl.length c2] 36)).heap[w.heap.size]?=some (.cells #[.slice p gs.length c] 28 (0,0)):=(heap_alloc_old _ _ (by simp)).trans (heap_alloc_new _ _)
 have s1:((w.alloc (.cells #[.slice p gs.length c] 28)).alloc (.cells #[.slice p1 al.length c1,.slice p2 fl.length c2] 36)).heap[w.heap.size+1]?=some (.cells #[.slice p1 al.length c1,.slice p2 fl.length c2] 36 (0,0)):=by
  have:=heap_alloc_new (w.alloc (.cells #[.slice p gs.length c] 28)) (.cells #[.slice p1 al.length c1,.slice p2 fl.length c2] 36)
  simpa using this
 have P1:=hP.below hb1
 have Q1:=hQ.below hb1
 have x0:=aa s0 0
 have x1:=aa s1 0
 have x2:=aa s1 1
 go_enter Tryz.func15,Tryz.ntmps15
 go_upto_region 1 with fail
 generalize (w.alloc (.cells #[.slice p gs.length c] 28)).alloc (.cells #[.slice p1 al.length c1,.slice p2 fl.length c2] 36)=w1 at *
 refine wp_region_lit ?_
 refine wpList_plain rfl (fun K hK=>?_)
 go_simp
 refine hK _ _ ?_
 clear hK K
 try simp only[Act.put,ut,uq,ur,uj,um,ul]
 refine wpList_plain rfl (fun K hK=>?_)
 go_simp
 refine hK _ _ ?_
 clear hK K
 try simp only[Act.put,ut,uq,ur,uj,um,ul]
 refine wpList_plain rfl (fun K hK=>?_)
 go_simp
 refine (mM gs p c w1 (.agg #[.slice p1 al.length c1,.slice p2 fl.length c2]) al fl P1 Q1).mono ?_
 intro e w2 hq
 obtain⟨pm,y,n,rfl,hq,hb2⟩:=hq.one
 refine hK _ _ ?_
 clear hK K
 try simp only[Act.put,ut,uq,ur,uj,um,ul]
 clear s0 s1 x0 x1 x2 P1 Q1
 have HB2:=hb1.trans (hb2.mono hb1.size)
 clear hb2 hb1
 refine wpList_plain rfl (fun K hK=>?_)
 go_simp
 refine hK _ _ ?_
 clear hK K
 try simp only[Act.put,ut,uq,ur,uj,um,ul]
 refine wpList_plain rfl (fun K hK=>?_)
 go_simp
 refine hK _ _ ?_
 clear hK K
 try simp only[Act.put,ut,uq,ur,uj,um,ul]
 refine wpList_plain rfl (fun K hK=>?_)
 go_simp
 refine hK _ _ ?_
 clear hK K
 try simp only[Act.put,ut,uq,ur,uj,um,ul]
 refine wpList_plain rfl (fun K hK=>?_)
 go_simp
 refine hK _ _ ?_
 clear hK K
 try simp only[Act.put,ut,uq,ur,uj,um,ul]
 have z0:StP (w2.alloc (.cells #[.int .i64 0,.int .i64 0,.int .i64 0,.int .i64 0,.int .i64 0,.int .i64 0] 71)) w2.heap.size St.zero:=StP.new w2 St.zero
 have hB5:Below w2.heap.size w2 (w2.alloc (.cells #[.int .i64 0,.int .i64 0,.int .i64 0,.int .i64 0,.int .i64 0,.int .i64 0] 71)):=(Below.refl _ _).alloc (uo _) _
 refine wpList_plain rfl (fun K hK=>?_)
 go_simp
 refine hK _ _ ?_
 clear hK K
 try simp only[Act.put,ut,uq,ur,uj,um,ul]
 generalize w2.alloc (.cells #[.int .i64 0,.int .i64 0,.int .i64 0,.int .i64 0,.int .i64 0,.int .i64 0] 71)=w5 at z0 hB5 ⊢
 refine wpList_plain rfl (fun K hK=>?_)
 go_simp
 refine hK _ _ ?_
 clear hK K
 try simp only[Act.put,ut,uq,ur,uj,um,ul]
 have q0:=z0.cell 0;have q1:=z0.cell 1;have q2:=z0.cell 2;have q3:=z0.cell 3;have q4:=z0.cell 4;have q5:=z0.cell 5
 have f0:=z0.fr 0;have f1:=z0.fr 1;have f2:=z0.fr 2;have f3:=z0.fr 3;have f4:=z0.fr 4;have f5:=z0.fr 5
 refine wpList_plain rfl (fun K hK=>?_)
 go_simp
 refine hK _ _ ?_
 clear hK K q0 q1 q2 q3 q4 q5 f0 f1 f2 f3 f4 f5
 try simp only[Act.put,ut,uq,ur,uj,um,ul]
 change wpList _ _ _ _ _ (aJ w5 w2.heap.size y)
 have hB6:=hB5.trans (aO (w:=w5) (b:=w2.heap.size) (z:=y) (uo _))
 have SP:=z0.put y
 generalize aJ w5 w2.heap.size y=w6 at hB6 SP ⊢
 have HB6:=HB2.trans (hB6.mono HB2.size)
 rcases hq with ⟨hn0,hbe⟩ | ⟨rfl,hS,hok,m,vn,vb,mb,N,s,f,rfl,hM⟩
 ·have hd:(n != 0)=true:=by simp[hn0]
  have hEnd:Hid (mF gs al fl w (.returned (.tuple #[.bool false,.int .i64 n])) w6):=⟨HB6,Or.inl ⟨n,hn0,hbe,rfl⟩⟩
  clear hn0 hbe SP z0
  go_wp2_with fail
  go_ret2
  exact hEnd.out
 ·have M6:=hM.below hB6
  have HEnd:Hid (∀ W,Below w6.heap.size w6 W→mF gs al fl w (.returned (.tuple #[.bool (eJ (ad gs) y),.int .i64 0])) W):=fun W hW=>⟨HB6.trans (hW.mono HB6.size),Or.inr ⟨y,hS,hok,rfl⟩⟩
  have c0:=SP.cell 0;have c1:=SP.cell 1;have c2:=SP.cell 2;have c3:=SP.cell 3;have c4:=SP.cell 4;have c5:=SP.cell 5
  clear SP z0 hM hB6 hB5
  go_wp2_with fail
  refine (qw gs p c vn vb mb N s f w6 m y M6 hS hok.at_).mono ?_
  rintro e w7 ⟨rfl,hb7⟩
  go_wp2_with fail
  go_ret2
  exact HEnd.out _ hb7
def pH (v:Ev):Bool:=decide (v.k=0)
theorem winN (v:Ev) (w:World):Calls Tryz.prog 23 (gL v) w (fun e w'=>e=.returned (.bool (pH v))∧Below w.heap.size w w'):=by
 unfold gL
 have e0:=af w #[.int .i64 v.g,.int .i64 v.k] 31 0 _ rfl
 have e1:=af w #[.int .i64 v.g,.int .i64 v.k] 31 1 _ rfl
 have hb:Below w.heap.size w (w.alloc (.cells #[.int .i64 v.g,.int .i64 v.k] 31)):=(Below.refl _ _).alloc (uo _) _
 go_enter Tryz.func23,Tryz.ntmps23
 go_upto_region 1 with fail
 generalize w.alloc (.cells #[.int .i64 v.g,.int .i64 v.k] 31)=w1 at *
 go_wp2_with fail
 go_ret
 refine⟨?_,hb⟩
 unfold pH
 by_cases h:v.k=0<;>simp[h]<;>rfl
theorem sk (gs:List Gd) (p:Option Addr) (c:Nat) (vn vb:Value) (mb N s:Nat) (f:Nat×Nat→Option Value) (w:World) (m k:Nat) (y:St) (hP:bZ w m gs p c vn vb mb N s f) (hS:aS gs=true) (hy:(ad gs).At y) (hk:w.cell? ⟨k,0,none⟩=some (.pointer (some ⟨m,0,none⟩))) :
  Calls Tryz.prog 25 #[.agg #[.int .i64 y.a0,.int .i64 y.a1,.int .i64 y.a2,.int .i64 y.f0,.int .i64 y.f1,.int .i64 y.f2],.pointer (some ⟨k,0,none⟩)] w (fun e w'=>e=.returned (.bool (eJ (ad gs) y))∧Below w.heap.size w w'):=by
 have hb:Below w.heap.size w (w.alloc (.cells #[.int .i64 y.a0,.int .i64 y.a1,.int .i64 y.a2,.int .i64 y.f0,.int .i64 y.f1,.int .i64 y.f2] 71)):=(Below.refl _ _).alloc (uo _) _
 have hkl:k<w.heap.size:=block_lt_of_cell hk
 have S1:=StP.new w y
 have k1:=(hb.cell (p:=⟨k,0,none⟩) hkl).trans hk
 have M1:=hP.below hb
 go_enter Tryz.func25,Tryz.ntmps25
 go_upto_region 1 with fail
 generalize w.alloc (.cells #[.int .i64 y.a0,.int .i64 y.a1,.int .i64 y.a2,.int .i64 y.f0,.int .i64 y.f1,.int .i64 y.f2] 71)=w1 at *
 have c0:=S1.cell 0;have c1:=S1.cell 1;have c2:=S1.cell 2;have c3:=S1.cell 3;have c4:=S1.cell 4;have c5:=S1.cell 5
 go_wp2_with fail
 refine (qw gs p c vn vb mb N s f w1 m y M1 hS hy).mono ?_
 rintro e w7 ⟨rfl,hb7⟩
 go_wp2_with fail
 go_ret
 exact⟨rfl,hb.trans (hb7.mono hb.size)⟩
end Go.Proofs.YtlkniohhalnjjaaGreatDoor
