/- Lemmas of this claim. -/
import Derived.Test.YtlkniohhalnjjaaGreatDoorKName
import Derived.Test.YtlkniohhalnjjaaGreatDoorKReg
set_option linter.all false
set_option maxRecDepth 100000
set_option maxHeartbeats 8000000
namespace Go.Proofs.YtlkniohhalnjjaaGreatDoor
open Go.RowKit Dc Dg
def bR (gs:List Gd) (g:Nat) (l:List Nd) (j:Nat):Bool :=
 match l[j]? with
 | none=>true
 | some n=>dl gs g n&&match j with
  | 0=>true
  | i+1=>match l[i]? with
   | some m=>!decide (n.guard≤m.guard)
   | none=>true
def gr (gs:List Gd) (g:Nat) (l:List Nd):Bool:=(List.range l.length).all (bR gs g l)
def bX (l:List Cl) (j:Nat):Bool :=
 match l[j]? with
 | none=>true
 | some n=>(decide (0≤n.loop)&&decide (n.loop≤7))&&cI n.gain.data.toList&&match j with
  | 0=>true
  | i+1=>match l[i]? with
   | some m=>!decide (n.loop≤m.loop)
   | none=>true
def jo (l:List Cl):Bool:=(List.range l.length).all (bX l)
def eN (l:List Rg) (k:Nat) (r:Rg):Bool :=
 cF r.name.data.toList&&decide (aD l r.name.data.toList=k)&&(decide (1≤r.tries)&&decide (r.tries≤4))&&(decide (1≤r.minutes)&&decide (r.minutes≤60))
def aY (l:List Rg) (k:Nat) (r:Rg):Bool :=
 !(!decide (r.next.data.toList=[])&&decide (aD l r.next.data.toList<0)||decide (aD l r.back.data.toList<0)||decide ((k:Int)≤aD l r.back.data.toList)&&decide (0<k)||decide (k=0)&&(!decide (aD l r.back.data.toList=0)||decide (0<r.needs.length)))
def bd (gs:List Gd) (i k:Nat) (l:List Rg) (r:Rg):Bool:=eN l k r&&aY l k r&&gr gs i r.needs&&jo r.loops
def dH (gs:List Gd) (i k:Nat):Bool:=match (ac gs i)[k]? with | some r=>bd gs i k (ac gs i) r | none=>false
def dT (v:Bool) (w:World) (e:Ending) (w':World):Prop:=∃ b:Bool,e=.returned (.bool b)∧Hid (v=b)∧Below w.heap.size w w'
theorem ip {l:List Rg}{k:Nat}{r:Rg} (h:¬ r.next.data.toList=[]) (h2:aD l r.next.data.toList<0):aY l k r=false:=by
 unfold aY;simp[h,h2]
theorem fH {l:List Rg}{k:Nat}{r:Rg} (h:aD l r.back.data.toList<0):aY l k r=false:=by
 unfold aY;simp[h]
theorem om {l:List Rg}{k:Nat}{r:Rg} (h:(k:Int)≤aD l r.back.data.toList) (h2:0<k):aY l k r=false:=by
 unfold aY;simp[h,h2]
theorem fK {l:List Rg}{k:Nat}{r:Rg} (hk:k=0) (h:¬ aD l r.back.data.toList=0∨0<r.needs.length):aY l k r=false:=by
 unfold aY
 rcases h with h | h<;>simp[hk,h]
theorem fJ {l:List Rg}{k:Nat}{r:Rg} (hn:r.next.data.toList=[]∨0≤aD l r.next.data.toList) (h0:0≤aD l r.back.data.toList) (h:k=0∧aD l r.back.data.toList=0∧r.needs.length=0∨0<k∧aD l r.back.data.toList<k):aY l k r=true:=by
 unfold aY
 have hA:(!decide (r.next.data.toList=[])&&decide (aD l r.next.data.toList<0))=false:=by
  rcases hn with h | h
  ·simp[h]
  ·rw[decide_eq_false (by omega:¬ aD l r.next.data.toList<0),wJ]
 rw[hA,decide_eq_false (by omega:¬ aD l r.back.data.toList<0)]
 rcases h with ⟨h1,h2,h3⟩ | ⟨h1,h2⟩
 ·rw[h2,h3,h1];rfl
 ·rw[decide_eq_false (by omega:¬ (k:Int)≤aD l r.back.data.toList),decide_eq_false (by omega:¬ k=0)];rfl
theorem dG {gs:List Gd}{g:Nat}{l:List Nd}{j:Nat} (hj:j<l.length) (h:bR gs g l j=false):gr gs g l=false:=by
 unfold gr
 rw[vF]
 exact⟨j,uL.2 hj,by rw[h];exact uC⟩
theorem cp {l:List Cl}{j:Nat} (hj:j<l.length) (h:bX l j=false):jo l=false:=by
 unfold jo
 rw[vF]
 exact⟨j,uL.2 hj,by rw[h];exact uC⟩
theorem bE {f:Nat→Bool}{j:Nat} (h:(List.range j).all f=true) (h2:f j=true):(List.range (j+1)).all f=true:=by
 rw[vI,vO,h,Bool.true_and]
 simp[h2]
theorem fe {gs:List Gd}{g:Nat}{l:List Nd}{n:Nd} (h:l[0]?=some n):bR gs g l 0=dl gs g n:=by
 unfold bR;rw[h];simp
theorem cZ {gs:List Gd}{g:Nat}{l:List Nd}{j:Nat}{m n:Nd} (h:l[j+1]?=some n) (h2:l[j]?=some m):bR gs g l (j+1)=(dl gs g n&&!decide (n.guard≤m.guard)):=by
 unfold bR;rw[h];simp only;rw[h2]
theorem jp {gs:List Gd}{g:Nat}{l:List Nd}{j:Nat}{n:Nd} (h:l[j]?=some n) (h2:dl gs g n=false):bR gs g l j=false:=by
 unfold bR;rw[h];simp only;rw[h2];rfl
theorem iz {l:List Cl}{n:Cl} (h:l[0]?=some n):bX l 0=((decide (0≤n.loop)&&decide (n.loop≤7))&&cI n.gain.data.toList):=by
 unfold bX;rw[h];simp
theorem dE {l:List Cl}{j:Nat}{m n:Cl} (h:l[j+1]?=some n) (h2:l[j]?=some m):bX l (j+1)=((decide (0≤n.loop)&&decide (n.loop≤7))&&cI n.gain.data.toList&&!decide (n.loop≤m.loop)):=by
 unfold bX;rw[h];simp only;rw[h2]
theorem er {l:List Cl}{j:Nat}{n:Cl} (h:l[j]?=some n) (h2:((decide (0≤n.loop)&&decide (n.loop≤7))&&cI n.gain.data.toList)=false):bX l j=false:=by
 unfold bX;rw[h];simp only;rw[h2];rfl
structure RSt (w0 w:World) (k:Nat) (gs:List Gd) (p:Option Addr) (c:Nat) (g:Gd) (q:Option Addr) (cq:Nat) (r:Rg) (q1:Option Addr) (c1:Nat) (q2:Option Addr) (c2:Nat):Prop where
 s0:w.cell? ⟨k,0,none⟩=some (.slice p gs.length c)
 g0:w.cell? ⟨k+1,0,none⟩=some (.string g.name)
 g1:w.cell? ⟨k+1,1,none⟩=some (.slice q g.rungs.length cq)
 r0:w.cell? ⟨k+1+1,0,none⟩=some (.string r.name)
 r1:w.cell? ⟨k+1+1,1,none⟩=some (.string r.next)
 r2:w.cell? ⟨k+1+1,2,none⟩=some (.string r.back)
 r3:w.cell? ⟨k+1+1,3,none⟩=some (.int .i64 r.tries)
 r4:w.cell? ⟨k+1+1,4,none⟩=some (.int .i64 r.minutes)
 r5:w.cell? ⟨k+1+1,5,none⟩=some (.slice q1 r.needs.length c1)
 r6:w.cell? ⟨k+1+1,6,none⟩=some (.slice q2 r.loops.length c2)
 lt:k+1+1<w.heap.size
 G:aQ w p gs
 R:bP w q g.rungs
 N:ee w q1 r.needs
 L:gc w q2 r.loops
 gx:Gx w
 bl:Below w0.heap.size w0 w
theorem RSt.below {w0 w w':World}{k:Nat}{gs:List Gd}{p:Option Addr}{c:Nat}{g:Gd}{q:Option Addr}{cq:Nat}{r:Rg}{q1:Option Addr}{c1:Nat}{q2:Option Addr}{c2:Nat}
  (h:RSt w0 w k gs p c g q cq r q1 c1 q2 c2) (hb:Below w.heap.size w w'):RSt w0 w' k gs p c g q cq r q1 c1 q2 c2:=by
 have hlt:=h.lt
 have a:∀ o,w'.cell? ⟨k,o,none⟩=w.cell? ⟨k,o,none⟩:=fun o=>hb.cell (p:=⟨k,o,none⟩) (by show k<_;omega)
 have b:∀ o,w'.cell? ⟨k+1,o,none⟩=w.cell? ⟨k+1,o,none⟩:=fun o=>hb.cell (p:=⟨k+1,o,none⟩) (by show k+1<_;omega)
 have d:∀ o,w'.cell? ⟨k+1+1,o,none⟩=w.cell? ⟨k+1+1,o,none⟩:=fun o=>hb.cell (p:=⟨k+1+1,o,none⟩) (by show k+1+1<_;omega)
 exact⟨(a _).trans h.s0,(b _).trans h.g0,(b _).trans h.g1,(d _).trans h.r0,(d _).trans h.r1,(d _).trans h.r2,(d _).trans h.r3,(d _).trans h.r4,(d _).trans h.r5,(d _).trans h.r6,uv h.lt hb.size,h.G.below hb,h.R.below hb,h.N.below hb,h.L.below hb,h.gx.below hb,h.bl.trans (hb.mono h.bl.size)⟩
theorem RSt.new (w:World) (gs:List Gd) (p:Option Addr) (c:Nat) (g:Gd) (q:Option Addr) (cq:Nat) (r:Rg) (q1:Option Addr) (c1:Nat) (q2:Option Addr) (c2:Nat)
  (hG:aQ w p gs) (hR:bP w q g.rungs) (hN:ee w q1 r.needs) (hL:gc w q2 r.loops) (hX:Gx w) :
  RSt w (((w.alloc (.cells #[.slice p gs.length c] 28)).alloc (.cells #[.string g.name,.slice q g.rungs.length cq] 61)).alloc (.cells #[.string r.name,.string r.next,.string r.back,.int .i64 r.tries,.int .i64 r.minutes,.slice q1 r.needs.length c1,.slice q2 r.loops.length c2] 58)) w.heap.size gs p c g q cq r q1 c1 q2 c2:=by
 have hb1:Below w.heap.size w (w.alloc (.cells #[.slice p gs.length c] 28)):=(Below.refl _ _).alloc (uo _) _
 have a0:=af w #[.slice p gs.length c] 28 0 _ rfl
 have hz1:(w.alloc (.cells #[.slice p gs.length c] 28)).heap.size=w.heap.size+1:=by simp
 generalize w.alloc (.cells #[.slice p gs.length c] 28)=w1 at *
 have hb2:Below w1.heap.size w1 (w1.alloc (.cells #[.string g.name,.slice q g.rungs.length cq] 61)):=(Below.refl _ _).alloc (uo _) _
 have b0:=af w1 #[.string g.name,.slice q g.rungs.length cq] 61 0 _ rfl
 have b1:=af w1 #[.string g.name,.slice q g.rungs.length cq] 61 1 _ rfl
 have hz2:(w1.alloc (.cells #[.string g.name,.slice q g.rungs.length cq] 61)).heap.size=w1.heap.size+1:=by simp
 generalize w1.alloc (.cells #[.string g.name,.slice q g.rungs.length cq] 61)=w2 at *
 have hb3:Below w2.heap.size w2 (w2.alloc (.cells #[.string r.name,.string r.next,.string r.back,.int .i64 r.tries,.int .i64 r.minutes,.slice q1 r.needs.length c1,.slice q2 r.loops.length c2] 58)):=(Below.refl _ _).alloc (uo _) _
 have hC:=fun j v h=>af w2 #[.string r.name,.string r.next,.string r.back,.int .i64 r.tries,.int .i64 r.minutes,.slice q1 r.needs.length c1,.slice q2 r.loops.length c2] 58 j v h
 have hz3:(w2.alloc (.cells #[.string r.name,.string r.next,.string r.back,.int .i64 r.tries,.int .i64 r.minutes,.slice q1 r.needs.length c1,.slice q2 r.loops.length c2] 58)).heap.size=w2.heap.size+1:=by simp
 generalize w2.alloc (.cells #[.string r.name,.string r.next,.string r.back,.int .i64 r.tries,.int .i64 r.minutes,.slice q1 r.needs.length c1,.slice q2 r.loops.length c2] 58)=w3 at *
 rw[hz1] at b0 b1
 rw[hz2,hz1] at hC
 have hb:=hb1.trans ((hb2.trans (hb3.mono hb2.size)).mono hb1.size)
 refine⟨?_,?_,?_,hC 0 _ rfl,hC 1 _ rfl,hC 2 _ rfl,hC 3 _ rfl,hC 4 _ rfl,hC 5 _ rfl,hC 6 _ rfl,by omega,hG.below hb,hR.below hb,hN.below hb,hL.below hb,hX.below hb,hb⟩
 ·exact ((hb3.cell (p:=⟨w.heap.size,0,none⟩) (by show w.heap.size<_;omega)).trans (hb2.cell (p:=⟨w.heap.size,0,none⟩) (by show w.heap.size<_;omega))).trans a0
 ·exact (hb3.cell (p:=⟨w.heap.size+1,0,none⟩) (by show w.heap.size+1<_;omega)).trans b0
 ·exact (hb3.cell (p:=⟨w.heap.size+1,1,none⟩) (by show w.heap.size+1<_;omega)).trans b1
structure or (r:Rg):Prop where
 n:r.name.size≤9223372036854775806
 needs:r.needs.length≤1000000000000000
 loops:r.loops.length≤1000000000000000
 names:∀ x∈r.needs,x.rungs.length≤1000000000000000
theorem sF (gs:List Gd) (p:Option Addr) (c:Nat) (i k:Nat) (w:World)
  (hG:aQ w p gs) (hX:Gx w) (hi:i<gs.length) (hk:k<(ac gs i).length) (hfew:gs.length≤1000) (hrs:∀ j,j≤i→(ac gs j).length<1000000) (hfit:∀ r∈ac gs i,or r) :
  Calls Tryz.prog 38 #[.agg #[.slice p gs.length c],.int .i64 i,.int .i64 k] w (dT (dH gs i k) w):=by
 obtain⟨bg,og,rfl,hbg,hcg⟩:=hG.at_ (by omega)
 obtain⟨q,cq,e0,e1,hR⟩:=hcg i hi
 obtain⟨g,hge⟩:∃ g,g=gs[i]:=⟨_,rfl⟩
 rw[←hge] at e0 e1 hR
 have hra:ac gs i=g.rungs:=by unfold ac;rw[uu hi,hge]
 rw[hra] at hk hfit
 have hrs0:dH gs i k=match g.rungs[k]? with | some r=>bd gs i k g.rungs r | none=>false:=by unfold dH;rw[hra]
 obtain⟨b,o,rfl,hbw,hcs⟩:=hR.at_ (by omega)
 obtain⟨q1,c1,q2,c2,hr⟩:=hcs k hk
 rw[uu hk] at hrs0
 obtain⟨r,hre⟩:∃ r,r=g.rungs[k]:=⟨_,rfl⟩
 rw[←hre] at hr hrs0
 rw[show dH gs i k=bd gs i k g.rungs r from hrs0]
 clear hrs0
 have hgl:g.rungs.length<1000000:=by rw[←hra];exact hrs i (uo _)
 have HRS:=uk hrs
 have HRA:=uk hra
 have HRE:=uk hre
 have HGE:=uk hge
 clear hrs hra hre hge hcg hcs
 have d0:=hr.d0;have d1:=hr.d1;have d2:=hr.d2;have d3:=hr.d3;have d4:=hr.d4;have d5:=hr.d5;have d6:=hr.d6
 have S0:=RSt.new w gs (some ⟨bg,og,none⟩) c g (some ⟨b,o,none⟩) cq r q1 c1 q2 c2 hG hR hr.n hr.l hX
 have hfr:or r:=hfit r (by rw[HRE.out];exact uH hk)
 have HFR:=uk hfr
 have hnm:=hfr.n
 clear hr hfit hfr hG hR hX
 go_enter Tryz.func38,Tryz.ntmps38
 go_wp2_with fail
 generalize ((w.alloc (.cells #[.slice (some ⟨bg,og,none⟩) gs.length c] 28)).alloc (.cells #[.string g.name,.slice (some ⟨b,o,none⟩) g.rungs.length cq] 61)).alloc (.cells #[.string r.name,.string r.next,.string r.back,.int .i64 r.tries,.int .i64 r.minutes,.slice q1 r.needs.length c1,.slice q2 r.loops.length c2] 58)=w0 at S0 ⊢
 clear e0 e1 d0 d1 d2 d3 d4 d5 d6
 refine (sV r.name w0 hnm).mono ?_
 rintro e w1 ⟨bn,rfl,hbn,rfl⟩
 cases bn
 ·have HBN:=uk hbn.out
  clear hbn
  go_wp2
  go_ret
  exact⟨false,rfl,by unfold Hid bd eN;rw[HBN.out];rfl,S0.bl⟩
 ·have HBN:=uk hbn.out
  clear hbn
  have g0:=S0.g0;have g1:=S0.g1;have r0:=S0.r0
  go_wp2_with fail
  refine (fY g.name _ cq g.rungs r.name _ S0.R hgl).mono ?_
  rintro e w2 ⟨z1,rfl,hz1,hb2⟩
  have S1:=S0.below hb2
  clear S0 hb2 g0 g1 r0
  by_cases hzk:z1=(k:Int)
  ·have hd:(z1 == (k:Int))=true:=by simp[hzk]
   have hd2:(z1 != (k:Int))=false:=by simp[hzk]
   have HZ:=uk hzk
   clear hzk
   have r3:=S1.r3
   go_wp2_with fail
   refine (bK _ _ _ _).mono ?_
   rintro e w3 ⟨bt,rfl,hbt,rfl⟩
   cases bt
   ·have HBT:=uk hbt.out
    clear hbt
    go_wp2
    go_ret
    exact⟨false,rfl,by unfold Hid bd eN;rw[HBT.out];simp,S1.bl⟩
   ·have HBT:=uk hbt.out
    clear hbt r3
    have r4:=S1.r4
    go_wp2_with fail
    refine (bK _ _ _ _).mono ?_
    rintro e w3 ⟨bm,rfl,hbm,rfl⟩
    cases bm
    ·have HBM:=uk hbm.out
     clear hbm
     go_wp2
     go_ret
     exact⟨false,rfl,by unfold Hid bd eN;rw[HBM.out];simp,S1.bl⟩
    ·have HSELF:Hid (eN g.rungs k r=true):=by
      unfold Hid eN;rw[HBN.out,HBT.out,hbm.out,hz1.out,decide_eq_true HZ.out];rfl
     clear hbm HBT HBN hz1 HZ r4
     have g0:=S1.g0;have g1:=S1.g1;have r2:=S1.r2
     go_wp2_with fail
     refine (fY g.name _ cq g.rungs r.back _ S1.R hgl).mono ?_
     rintro e w4 ⟨zb,rfl,hzb,hb4⟩
     have S2:=S1.below hb4
     have hzbr:=cw g.rungs r.back.data.toList
     rw[hzb.out] at hzbr
     clear S1 hb4 g0 g1 r2
     rcases vC k with rfl | hk0
     ·by_cases hz0:zb=0
      ·subst hz0
       go_upto_region 6 with fail
       go_cut [88] from 52 to 88 (fun s88 wx=>∃ bw:Bool,s88=.bool bw∧Hid (aY g.rungs 0 r=!bw)∧Hid (bw=false→r.next.data.toList=[]∨0≤aD g.rungs r.next.data.toList)∧RSt w wx w.heap.size gs (some ⟨bg,og,none⟩) c g (some ⟨b,o,none⟩) cq r q1 c1 q2 c2)
       case first =>
        by_cases hn:r.next.toList=[]
        ·have y1:(r.next.toList == [])=true:=by simp[hn]
         have y2:(r.next.toList != [])=false:=by simp[hn]
         have HN0:=uk hn
         clear hn
         have r1:=S2.r1
         have HNX:=uk (show r.next.data.toList=[]∨0≤aD g.rungs r.next.data.toList from Or.inl (by rw[←aj];exact HN0.out))
         have r5:=S2.r5
         rcases (by omega:(0<r.needs.length)∨(r.needs.length=0)) with h | h
         ·have hF:decide ((0:Int)<((r.needs.length:Nat):Int))=true:=decide_eq_true (by omega)
          have hF2:decide (0<r.needs.length)=true:=decide_eq_true (by omega)
          have HW:=uk (show aY g.rungs 0 r=false from fK rfl (Or.inr h))
          clear h
          go_wp2
          go_meet
          exact⟨true,rfl,HW.out,fun _=>HNX.out,S2⟩
         ·have hF:decide ((0:Int)<((r.needs.length:Nat):Int))=false:=decide_eq_false (by omega)
          have hF2:decide (0<r.needs.length)=false:=decide_eq_false (by omega)
          have HW:=uk (show aY g.rungs 0 r=true from fJ HNX.out (by rw[hzb.out];exact Int.le_refl _) (Or.inl ⟨rfl,hzb.out,h⟩))
          clear h
          go_wp2
          go_meet
          exact⟨false,rfl,HW.out,fun _=>HNX.out,S2⟩
        ·have y1:(r.next.toList == [])=false:=by simpa using hn
         have y2:(r.next.toList != [])=true:=by simpa using hn
         have HN0:=uk hn
         clear hn
         have r1:=S2.r1;have g0:=S2.g0;have g1:=S2.g1
         go_wp2_with fail
         refine (fY g.name _ cq g.rungs r.next _ S2.R hgl).mono ?_
         rintro e w5 ⟨zn,rfl,hzn,hb5⟩
         have S5:=S2.below hb5
         clear S2 hb5 r1 g0 g1
         by_cases hzn0:zn<0
         ·have x1:decide (zn<0)=true:=by simp;omega
          have HW:=uk (show aY g.rungs 0 r=false from ip (by rw[←aj];exact HN0.out) (by rw[hzn.out];exact hzn0))
          clear hzn0
          go_wp2
          go_meet
          exact⟨true,rfl,HW.out,(fun h=>by cases h),S5⟩
         ·have x1:decide (zn<0)=false:=by simp;omega
          have HZN:=uk hzn0
          clear hzn0
          have HNX:=uk (show r.next.data.toList=[]∨0≤aD g.rungs r.next.data.toList from Or.inr (by rw[hzn.out];exact Int.not_lt.1 HZN.out))
          have r5:=S5.r5
          rcases (by omega:(0<r.needs.length)∨(r.needs.length=0)) with h | h
          ·have hF:decide ((0:Int)<((r.needs.length:Nat):Int))=true:=decide_eq_true (by omega)
           have hF2:decide (0<r.needs.length)=true:=decide_eq_true (by omega)
           have HW:=uk (show aY g.rungs 0 r=false from fK rfl (Or.inr h))
           clear h
           go_wp2
           go_meet
           exact⟨true,rfl,HW.out,fun _=>HNX.out,S5⟩
          ·have hF:decide ((0:Int)<((r.needs.length:Nat):Int))=false:=decide_eq_false (by omega)
           have hF2:decide (0<r.needs.length)=false:=decide_eq_false (by omega)
           have HW:=uk (show aY g.rungs 0 r=true from fJ HNX.out (by rw[hzb.out];exact Int.le_refl _) (Or.inl ⟨rfl,hzb.out,h⟩))
           clear h
           go_wp2
           go_meet
           exact⟨false,rfl,HW.out,fun _=>HNX.out,S5⟩
       case rest =>
        obtain⟨bw,rfl,hbw,hnx,S3⟩:=hcut
        clear S2
        cases bw
        ·have HW:=uk hbw.out
         have HNX:=uk (hnx.out rfl)
         clear hbw hnx
         have r5:=S3.r5
         have hnl:((r.needs.length:Nat):Int)≤1000000000000000:=by have:=HFR.out.needs;omega
         go_wp2_with fail
         go_loopw [92] (fun s92 wx=>∃ j:Nat,s92=.int .i64 j∧j≤r.needs.length∧RSt w wx w.heap.size gs (some ⟨bg,og,none⟩) c g (some ⟨b,o,none⟩) cq r q1 c1 q2 c2∧Hid ((List.range j).all (bR gs i r.needs)=true)) (fun s92 _=>r.needs.length-(intOf s92).toNat)
         case atStart=>exact⟨0,rfl,by omega,S3,rfl⟩
         case round =>
          clear S3 r5
          obtain⟨j,rfl,hj,S3,hx⟩:=hrel
          by_cases hjl:j<r.needs.length
          ·obtain⟨nb,no,rfl,hnb,hnc⟩:=S3.N.at_ (by omega)
           obtain⟨qn,cn,m0,m1,hWn⟩:=hnc j hjl
           obtain⟨nd,hnd⟩:∃ nd,nd=r.needs[j]:=⟨_,rfl⟩
           rw[←hnd] at m0 m1 hWn
           have HND:=uk (show r.needs[j]?=some nd by rw[uu hjl,hnd])
           have hnn:nd.rungs.length≤1000000000000000:=HFR.out.names nd (by rw[hnd];exact uH hjl)
           have HNC:=uk hnc
           clear hnd hnc
           have hbA:Below wr.heap.size wr (wr.alloc (.cells #[.int .i64 nd.guard,.slice qn nd.rungs.length cn] 75)):=(Below.refl _ _).alloc (uo _) _
           have t0:=af wr #[.int .i64 nd.guard,.slice qn nd.rungs.length cn] 75 0 _ rfl
           have t1:=af wr #[.int .i64 nd.guard,.slice qn nd.rungs.length cn] 75 1 _ rfl
           have S4:=S3.below hbA
           have HW4:=uk (hWn.below hbA)
           have hta:wr.heap.size<(wr.alloc (.cells #[.int .i64 nd.guard,.slice qn nd.rungs.length cn] 75)).heap.size:=by simp
           have HPV:=uk (fun j' (hj':j'<r.needs.length)=>(hbA.cell (p:=⟨nb,no+j'*2,none⟩) hnb).trans (Exists.elim (HNC.out j' hj') (fun _ h=>Exists.elim h (fun _ h=>h.1))))
           have hnbA:nb<(wr.alloc (.cells #[.int .i64 nd.guard,.slice qn nd.rungs.length cn] 75)).heap.size:=uv hnb hbA.size
           clear HNC hWn hbA S3
           go_wp2_with fail
           generalize wr.alloc (.cells #[.int .i64 nd.guard,.slice qn nd.rungs.length cn] 75)=wa at S4 HW4 t0 t1 hta HPV hnbA ⊢
           have s0:=S4.s0
           cases hns:dl gs i nd
           ·have HNS:=uk (dG (gs:=gs) (g:=i) hjl (jp HND.out hns))
            have HNS0:=uk hns
            clear hns m0 m1
            have y0:=am (by have:=S4.lt;show w.heap.size<_;omega) S4.s0
            have y1:=am hta t0
            have y2:=am hta t1
            have HN:=uk (show aM wa 55 #[.agg #[.slice (some ⟨bg,og,none⟩) gs.length c],.int .i64 i,.agg #[.int .i64 nd.guard,.slice qn nd.rungs.length cn]] ((.bool false)) from fun x=>ay.calls ((iA gs _ c i nd.guard qn cn nd.rungs x.w (S4.G.below x.h) (HW4.out.below x.h) (uK hi) hfew (fun y hy=>HRS.out y (uK hy)) hnn).mono (fun e w' h=>Exists.elim h (fun bb h=>⟨by rw[h.1,←h.2.1.out,HNS0.out],h.2.2⟩))))
            clear s0 t0 t1
            refine ai (by kernel_rfl) (by kernel_rfl) ?_
            repeat (go_big_quiet_step ((go_at_call 55;exact HN.out _)))
            refine wpQuiet_nil ?_
            rintro _ ⟨⟨w2,hbN⟩,rfl⟩
            clear HN y0 y1 y2
            have S6:=S4.below hbN
            clear hbN S4
            go_wp2
            go_ret
            exact⟨false,rfl,by unfold Hid bd;rw[HNS.out];simp,S6.bl⟩
           ·have HNS0:=uk hns
            clear hns m0 m1
            rcases vC j with rfl | hj0
            ·have HAT:=uk (show bR gs i r.needs 0=true by rw[fe HND.out];exact HNS0.out)
             have y0:=am (by have:=S4.lt;show w.heap.size<_;omega) S4.s0
             have y1:=am hta t0
             have y2:=am hta t1
             have HN:=uk (show aM wa 55 #[.agg #[.slice (some ⟨bg,og,none⟩) gs.length c],.int .i64 i,.agg #[.int .i64 nd.guard,.slice qn nd.rungs.length cn]] ((.bool true)) from fun x=>ay.calls ((iA gs _ c i nd.guard qn cn nd.rungs x.w (S4.G.below x.h) (HW4.out.below x.h) (uK hi) hfew (fun y hy=>HRS.out y (uK hy)) hnn).mono (fun e w' h=>Exists.elim h (fun bb h=>⟨by rw[h.1,←h.2.1.out,HNS0.out],h.2.2⟩))))
             clear s0 t0 t1
             refine ai (by kernel_rfl) (by kernel_rfl) ?_
             repeat (go_big_quiet_step ((go_at_call 55;exact HN.out _)))
             refine wpQuiet_nil ?_
             rintro _ ⟨⟨w2,hbN⟩,rfl⟩
             clear HN y0 y1 y2
             have S6:=S4.below hbN
             clear hbN S4
             go_wp2
             go_roundw
             case rel=>exact⟨1,by go_num,by omega,S6,bE hx.out HAT.out⟩
             case measure=>simp[intOf];omega
            ·obtain⟨j,rfl⟩:∃ j',j=j'+1:=⟨j-1,by omega⟩
             clear hj0
             obtain⟨pd,hpd⟩:∃ pd,pd=r.needs[j]:=⟨_,rfl⟩
             have hpv:=HPV.out j (by omega)
             rw[←hpd] at hpv
             have HPD:=uk (show r.needs[j]?=some pd by rw[uu (by omega),hpd])
             clear hpd
             by_cases hle:nd.guard≤pd.guard
             ·have hge:decide (nd.guard≤pd.guard)=true:=decide_eq_true hle
              have HNS:=uk (dG (gs:=gs) (g:=i) hjl (show bR gs i r.needs (j+1)=false by rw[cZ HND.out HPD.out,hge];simp))
              clear hle
              have y0:=am (by have:=S4.lt;show w.heap.size<_;omega) S4.s0
              have y1:=am hta t0
              have y2:=am hta t1
              have y3:=am S4.lt S4.r5
              have y4:=am hnbA hpv
              have HN:=uk (show aM wa 55 #[.agg #[.slice (some ⟨bg,og,none⟩) gs.length c],.int .i64 i,.agg #[.int .i64 nd.guard,.slice qn nd.rungs.length cn]] ((.bool true)) from fun x=>ay.calls ((iA gs _ c i nd.guard qn cn nd.rungs x.w (S4.G.below x.h) (HW4.out.below x.h) (uK hi) hfew (fun y hy=>HRS.out y (uK hy)) hnn).mono (fun e w' h=>Exists.elim h (fun bb h=>⟨by rw[h.1,←h.2.1.out,HNS0.out],h.2.2⟩))))
              clear s0 t0 t1 hpv
              refine ai (by kernel_rfl) (by kernel_rfl) ?_
              repeat (go_big_quiet_step ((go_at_call 55;exact HN.out _)))
              refine wpQuiet_nil ?_
              rintro _ ⟨⟨w2,hbN⟩,rfl⟩
              clear HN y0 y1 y2 y3 y4
              have S6:=S4.below hbN
              clear hbN S4
              go_wp2
              go_ret
              exact⟨false,rfl,by unfold Hid bd;rw[HNS.out];simp,S6.bl⟩
             ·have hge:decide (nd.guard≤pd.guard)=false:=decide_eq_false hle
              have HAT:=uk (show bR gs i r.needs (j+1)=true by rw[cZ HND.out HPD.out,hge,HNS0.out];rfl)
              clear hle
              have y0:=am (by have:=S4.lt;show w.heap.size<_;omega) S4.s0
              have y1:=am hta t0
              have y2:=am hta t1
              have y3:=am S4.lt S4.r5
              have y4:=am hnbA hpv
              have HN:=uk (show aM wa 55 #[.agg #[.slice (some ⟨bg,og,none⟩) gs.length c],.int .i64 i,.agg #[.int .i64 nd.guard,.slice qn nd.rungs.length cn]] ((.bool true)) from fun x=>ay.calls ((iA gs _ c i nd.guard qn cn nd.rungs x.w (S4.G.below x.h) (HW4.out.below x.h) (uK hi) hfew (fun y hy=>HRS.out y (uK hy)) hnn).mono (fun e w' h=>Exists.elim h (fun bb h=>⟨by rw[h.1,←h.2.1.out,HNS0.out],h.2.2⟩))))
              clear s0 t0 t1 hpv
              refine ai (by kernel_rfl) (by kernel_rfl) ?_
              repeat (go_big_quiet_step ((go_at_call 55;exact HN.out _)))
              refine wpQuiet_nil ?_
              rintro _ ⟨⟨w2,hbN⟩,rfl⟩
              clear HN y0 y1 y2 y3 y4
              have S6:=S4.below hbN
              clear hbN S4
              go_wp2
              go_roundw
              case rel=>exact⟨j+1+1,by go_num,by omega,S6,bE hx.out HAT.out⟩
              case measure=>simp[intOf];omega
          ·have hje:j=r.needs.length:=by omega
           subst hje
           clear hjl hj
           have HNS:=uk (show gr gs i r.needs=true from hx.out)
           clear hx
           have r6:=S3.r6
           have hll:((r.loops.length:Nat):Int)≤1000000000000000:=by have:=HFR.out.loops;omega
           go_wp2_with fail
           go_loopw [122] (fun s122 wx=>∃ j:Nat,s122=.int .i64 j∧j≤r.loops.length∧RSt w wx w.heap.size gs (some ⟨bg,og,none⟩) c g (some ⟨b,o,none⟩) cq r q1 c1 q2 c2∧Hid ((List.range j).all (bX r.loops)=true)) (fun s122 _=>r.loops.length-(intOf s122).toNat)
           case atStart=>exact⟨0,rfl,by omega,S3,rfl⟩
           case round =>
            clear S3 r6
            obtain⟨j,rfl,hj,S3,hx⟩:=hrel
            by_cases hjl:j<r.loops.length
            ·obtain⟨lb,lo,rfl,hlb,hlc⟩:=S3.L.at_ (by omega)
             obtain⟨m0,m1⟩:=hlc j hjl
             obtain⟨cl,hcl⟩:∃ cl,cl=r.loops[j]:=⟨_,rfl⟩
             rw[←hcl] at m0 m1
             have HND:=uk (show r.loops[j]?=some cl by rw[uu hjl,hcl])
             have HLC:=uk hlc
             clear hcl hlc
             have hbA:Below wr.heap.size wr (wr.alloc (.cells #[.int .i64 cl.loop,.string cl.gain] 101)):=(Below.refl _ _).alloc (uo _) _
             have t0:=af wr #[.int .i64 cl.loop,.string cl.gain] 101 0 _ rfl
             have t1:=af wr #[.int .i64 cl.loop,.string cl.gain] 101 1 _ rfl
             have S4:=S3.below hbA
             have hta:wr.heap.size<(wr.alloc (.cells #[.int .i64 cl.loop,.string cl.gain] 101)).heap.size:=by simp
             have HPV:=uk (fun j' (hj':j'<r.loops.length)=>(hbA.cell (p:=⟨lb,lo+j'*2,none⟩) hlb).trans (HLC.out j' hj').1)
             have hlbA:lb<(wr.alloc (.cells #[.int .i64 cl.loop,.string cl.gain] 101)).heap.size:=uv hlb hbA.size
             clear HLC hbA S3
             go_wp2_with fail
             generalize wr.alloc (.cells #[.int .i64 cl.loop,.string cl.gain] 101)=wa at S4 t0 t1 hta HPV hlbA ⊢
             cases hv1:(decide (0≤cl.loop)&&decide (cl.loop≤7))
             ·have HLS:=uk (cp hjl (er HND.out (by rw[hv1];rfl)))
              have HV1:=uk hv1
              clear hv1 m0 m1
              have y1:=am hta t0
              have y2:=am hta t1
              have HM:=uk (show aM wa 27 #[.int .i64 cl.loop,.int .i64 0,.int .i64 7] ((.bool false)) from fun x=>(bK _ _ _ x.w).mono (fun e w' h=>Exists.elim h (fun bb h=>⟨by rw[h.1,←h.2.1.out,HV1.out],x,h.2.2.symm⟩)))
              clear t0 t1
              refine ai (by kernel_rfl) (by kernel_rfl) ?_
              repeat (go_big_quiet_step (((go_at_call 27;exact HM.out _))))
              refine wpQuiet_nil ?_
              rintro _ ⟨⟨w2,hbN⟩,rfl⟩
              clear HM y1 y2
              have S6:=S4.below hbN
              clear hbN S4
              go_wp2
              go_ret
              exact⟨false,rfl,by unfold Hid bd;rw[HLS.out];simp,S6.bl⟩
             ·cases hv2:cI cl.gain.data.toList
              ·have HLS:=uk (cp hjl (er HND.out (by rw[hv1,hv2];rfl)))
               have HV1:=uk hv1
               have HV2:=uk hv2
               clear hv1 hv2 m0 m1
               have y1:=am hta t0
               have y2:=am hta t1
               have HM:=uk (show aM wa 27 #[.int .i64 cl.loop,.int .i64 0,.int .i64 7] ((.bool true)) from fun x=>(bK _ _ _ x.w).mono (fun e w' h=>Exists.elim h (fun bb h=>⟨by rw[h.1,←h.2.1.out,HV1.out],x,h.2.2.symm⟩)))
               have HN:=uk (show aM wa 56 #[.string cl.gain] ((.bool false)) from fun x=>ay.calls ((iw cl.gain x.w (S4.gx.below x.h)).mono (fun e w' h=>Exists.elim h (fun bb h=>⟨by rw[h.1,←h.2.1.out,HV2.out],h.2.2⟩))))
               clear t0 t1
               refine ai (by kernel_rfl) (by kernel_rfl) ?_
               repeat (go_big_quiet_step ((first | (go_at_call 27;exact HM.out _) | (go_at_call 56;exact HN.out _))))
               refine wpQuiet_nil ?_
               rintro _ ⟨⟨w2,hbN⟩,rfl⟩
               clear HM y1 y2 HN
               have S6:=S4.below hbN
               clear hbN S4
               go_wp2
               go_ret
               exact⟨false,rfl,by unfold Hid bd;rw[HLS.out];simp,S6.bl⟩
              ·have HV1:=uk hv1
               have HV2:=uk hv2
               clear hv1 hv2 m0 m1
               rcases vC j with rfl | hj0
               ·have HAT:=uk (show bX r.loops 0=true by rw[iz HND.out,HV1.out,HV2.out];rfl)
                have y1:=am hta t0
                have y2:=am hta t1
                have HM:=uk (show aM wa 27 #[.int .i64 cl.loop,.int .i64 0,.int .i64 7] ((.bool true)) from fun x=>(bK _ _ _ x.w).mono (fun e w' h=>Exists.elim h (fun bb h=>⟨by rw[h.1,←h.2.1.out,HV1.out],x,h.2.2.symm⟩)))
                have HN:=uk (show aM wa 56 #[.string cl.gain] ((.bool true)) from fun x=>ay.calls ((iw cl.gain x.w (S4.gx.below x.h)).mono (fun e w' h=>Exists.elim h (fun bb h=>⟨by rw[h.1,←h.2.1.out,HV2.out],h.2.2⟩))))
                clear t0 t1
                refine ai (by kernel_rfl) (by kernel_rfl) ?_
                repeat (go_big_quiet_step ((first | (go_at_call 27;exact HM.out _) | (go_at_call 56;exact HN.out _))))
                refine wpQuiet_nil ?_
                rintro _ ⟨⟨w2,hbN⟩,rfl⟩
                clear HM y1 y2 HN
                have S6:=S4.below hbN
                clear hbN S4
                go_wp2
                go_roundw
                case rel=>exact⟨1,by go_num,by omega,S6,bE hx.out HAT.out⟩
                case measure=>simp[intOf];omega
               ·obtain⟨j,rfl⟩:∃ j',j=j'+1:=⟨j-1,by omega⟩
                clear hj0
                obtain⟨pd,hpd⟩:∃ pd,pd=r.loops[j]:=⟨_,rfl⟩
                have hpv:=HPV.out j (by omega)
                rw[←hpd] at hpv
                have HPD:=uk (show r.loops[j]?=some pd by rw[uu (by omega),hpd])
                clear hpd
                by_cases hle:cl.loop≤pd.loop
                ·have hge:decide (cl.loop≤pd.loop)=true:=decide_eq_true hle
                 have HLS:=uk (cp hjl (show bX r.loops (j+1)=false by rw[dE HND.out HPD.out,hge];simp))
                 clear hle
                 have y1:=am hta t0
                 have y2:=am hta t1
                 have y3:=am S4.lt S4.r6
                 have y4:=am hlbA hpv
                 have HM:=uk (show aM wa 27 #[.int .i64 cl.loop,.int .i64 0,.int .i64 7] ((.bool true)) from fun x=>(bK _ _ _ x.w).mono (fun e w' h=>Exists.elim h (fun bb h=>⟨by rw[h.1,←h.2.1.out,HV1.out],x,h.2.2.symm⟩)))
                 have HN:=uk (show aM wa 56 #[.string cl.gain] ((.bool true)) from fun x=>ay.calls ((iw cl.gain x.w (S4.gx.below x.h)).mono (fun e w' h=>Exists.elim h (fun bb h=>⟨by rw[h.1,←h.2.1.out,HV2.out],h.2.2⟩))))
                 clear t0 t1 hpv
                 refine ai (by kernel_rfl) (by kernel_rfl) ?_
                 repeat (go_big_quiet_step ((first | (go_at_call 27;exact HM.out _) | (go_at_call 56;exact HN.out _))))
                 refine wpQuiet_nil ?_
                 rintro _ ⟨⟨w2,hbN⟩,rfl⟩
                 clear HM y1 y2 HN y3 y4
                 have S6:=S4.below hbN
                 clear hbN S4
                 go_wp2
                 go_ret
                 exact⟨false,rfl,by unfold Hid bd;rw[HLS.out];simp,S6.bl⟩
                ·have hge:decide (cl.loop≤pd.loop)=false:=decide_eq_false hle
                 have HAT:=uk (show bX r.loops (j+1)=true by rw[dE HND.out HPD.out,hge,HV1.out,HV2.out];rfl)
                 clear hle
                 have y1:=am hta t0
                 have y2:=am hta t1
                 have y3:=am S4.lt S4.r6
                 have y4:=am hlbA hpv
                 have HM:=uk (show aM wa 27 #[.int .i64 cl.loop,.int .i64 0,.int .i64 7] ((.bool true)) from fun x=>(bK _ _ _ x.w).mono (fun e w' h=>Exists.elim h (fun bb h=>⟨by rw[h.1,←h.2.1.out,HV1.out],x,h.2.2.symm⟩)))
                 have HN:=uk (show aM wa 56 #[.string cl.gain] ((.bool true)) from fun x=>ay.calls ((iw cl.gain x.w (S4.gx.below x.h)).mono (fun e w' h=>Exists.elim h (fun bb h=>⟨by rw[h.1,←h.2.1.out,HV2.out],h.2.2⟩))))
                 clear t0 t1 hpv
                 refine ai (by kernel_rfl) (by kernel_rfl) ?_
                 repeat (go_big_quiet_step ((first | (go_at_call 27;exact HM.out _) | (go_at_call 56;exact HN.out _))))
                 refine wpQuiet_nil ?_
                 rintro _ ⟨⟨w2,hbN⟩,rfl⟩
                 clear HM y1 y2 HN y3 y4
                 have S6:=S4.below hbN
                 clear hbN S4
                 go_wp2
                 go_roundw
                 case rel=>exact⟨j+1+1,by go_num,by omega,S6,bE hx.out HAT.out⟩
                 case measure=>simp[intOf];omega
            ·have hje:j=r.loops.length:=by omega
             subst hje
             clear hjl hj
             have HLS:=uk (show jo r.loops=true from hx.out)
             clear hx
             go_wp2
             go_ret
             exact⟨true,rfl,by unfold Hid bd;rw[HSELF.out,HW.out,HNS.out,HLS.out];rfl,S3.bl⟩
        ·have HW:=uk hbw.out
         clear hbw
         go_wp2
         go_ret
         exact⟨false,rfl,by unfold Hid bd;rw[HW.out];simp,S3.bl⟩
      ·have HZ0:=uk hz0
       by_cases hn:r.next.toList=[]
       ·have y1:(r.next.toList == [])=true:=by simp[hn]
        have y2:(r.next.toList != [])=false:=by simp[hn]
        have HN0:=uk hn
        clear hn
        have r1:=S2.r1
        have HNX:=uk (show r.next.data.toList=[]∨0≤aD g.rungs r.next.data.toList from Or.inl (by rw[←aj];exact HN0.out))
        have r5:=S2.r5
        rcases (by omega:(zb<0)∨(0<zb)) with h | h
        ·have hA:decide (zb<0)=true:=by simp;omega
         have HW:=uk (show aY g.rungs 0 r=false from fH (by rw[hzb.out];exact h))
         clear h
         go_wp2
         go_ret
         exact⟨false,rfl,by unfold Hid bd;rw[HW.out];simp,S2.bl⟩
        ·have hA:decide (zb<0)=false:=by simp;omega
         have hB:decide ((0:Int)≤zb)=true:=by simp;omega
         have hE:(zb == 0)=false:=by simp;omega
         have hE2:(zb != 0)=true:=by simp;omega
         have HW:=uk (show aY g.rungs 0 r=false from fK rfl (Or.inl (by rw[hzb.out];exact HZ0.out)))
         clear h
         go_wp2
         go_ret
         exact⟨false,rfl,by unfold Hid bd;rw[HW.out];simp,S2.bl⟩
       ·have y1:(r.next.toList == [])=false:=by simpa using hn
        have y2:(r.next.toList != [])=true:=by simpa using hn
        have HN0:=uk hn
        clear hn
        have r1:=S2.r1;have g0:=S2.g0;have g1:=S2.g1
        go_wp2_with fail
        refine (fY g.name _ cq g.rungs r.next _ S2.R hgl).mono ?_
        rintro e w5 ⟨zn,rfl,hzn,hb5⟩
        have S5:=S2.below hb5
        clear S2 hb5 r1 g0 g1
        by_cases hzn0:zn<0
        ·have x1:decide (zn<0)=true:=by simp;omega
         have HW:=uk (show aY g.rungs 0 r=false from ip (by rw[←aj];exact HN0.out) (by rw[hzn.out];exact hzn0))
         clear hzn0
         go_wp2
         go_ret
         exact⟨false,rfl,by unfold Hid bd;rw[HW.out];simp,S5.bl⟩
        ·have x1:decide (zn<0)=false:=by simp;omega
         have HZN:=uk hzn0
         clear hzn0
         have HNX:=uk (show r.next.data.toList=[]∨0≤aD g.rungs r.next.data.toList from Or.inr (by rw[hzn.out];exact Int.not_lt.1 HZN.out))
         have r5:=S5.r5
         rcases (by omega:(zb<0)∨(0<zb)) with h | h
         ·have hA:decide (zb<0)=true:=by simp;omega
          have HW:=uk (show aY g.rungs 0 r=false from fH (by rw[hzb.out];exact h))
          clear h
          go_wp2
          go_ret
          exact⟨false,rfl,by unfold Hid bd;rw[HW.out];simp,S5.bl⟩
         ·have hA:decide (zb<0)=false:=by simp;omega
          have hB:decide ((0:Int)≤zb)=true:=by simp;omega
          have hE:(zb == 0)=false:=by simp;omega
          have hE2:(zb != 0)=true:=by simp;omega
          have HW:=uk (show aY g.rungs 0 r=false from fK rfl (Or.inl (by rw[hzb.out];exact HZ0.out)))
          clear h
          go_wp2
          go_ret
          exact⟨false,rfl,by unfold Hid bd;rw[HW.out];simp,S5.bl⟩
     ·skip
      go_upto_region 6 with fail
      go_cut [88] from 52 to 88 (fun s88 wx=>∃ bw:Bool,s88=.bool bw∧Hid (aY g.rungs k r=!bw)∧Hid (bw=false→r.next.data.toList=[]∨0≤aD g.rungs r.next.data.toList)∧RSt w wx w.heap.size gs (some ⟨bg,og,none⟩) c g (some ⟨b,o,none⟩) cq r q1 c1 q2 c2)
      case first =>
       by_cases hn:r.next.toList=[]
       ·have y1:(r.next.toList == [])=true:=by simp[hn]
        have y2:(r.next.toList != [])=false:=by simp[hn]
        have HN0:=uk hn
        clear hn
        have r1:=S2.r1
        have HNX:=uk (show r.next.data.toList=[]∨0≤aD g.rungs r.next.data.toList from Or.inl (by rw[←aj];exact HN0.out))
        have r5:=S2.r5
        rcases (by omega:(zb<0)∨(0≤zb∧(k:Int)≤zb)∨(0≤zb∧zb<(k:Int))) with h | h | h
        ·have hA:decide (zb<0)=true:=by simp;omega
         have HW:=uk (show aY g.rungs k r=false from fH (by rw[hzb.out];exact h))
         clear h
         go_wp2
         go_meet
         exact⟨true,rfl,HW.out,fun _=>HNX.out,S2⟩
        ·have hA:decide (zb<0)=false:=by simp;omega
         have hB:decide ((k:Int)≤zb)=true:=by simp;omega
         have hC:decide ((0:Int)<(k:Int))=true:=by simp;omega
         have hD:((k:Int) == 0)=false:=by simp;omega
         have HW:=uk (show aY g.rungs k r=false from om (by rw[hzb.out];exact h.2) hk0)
         clear h
         go_wp2
         go_meet
         exact⟨true,rfl,HW.out,fun _=>HNX.out,S2⟩
        ·have hA:decide (zb<0)=false:=by simp;omega
         have hB:decide ((k:Int)≤zb)=false:=by simp;omega
         have hC:decide ((0:Int)<(k:Int))=true:=by simp;omega
         have hD:((k:Int) == 0)=false:=by simp;omega
         have HW:=uk (show aY g.rungs k r=true from fJ HNX.out (by rw[hzb.out];exact h.1) (Or.inr ⟨hk0,by rw[hzb.out];exact h.2⟩))
         clear h
         go_wp2
         go_meet
         exact⟨false,rfl,HW.out,fun _=>HNX.out,S2⟩
       ·have y1:(r.next.toList == [])=false:=by simpa using hn
        have y2:(r.next.toList != [])=true:=by simpa using hn
        have HN0:=uk hn
        clear hn
        have r1:=S2.r1;have g0:=S2.g0;have g1:=S2.g1
        go_wp2_with fail
        refine (fY g.name _ cq g.rungs r.next _ S2.R hgl).mono ?_
        rintro e w5 ⟨zn,rfl,hzn,hb5⟩
        have S5:=S2.below hb5
        clear S2 hb5 r1 g0 g1
        by_cases hzn0:zn<0
        ·have x1:decide (zn<0)=true:=by simp;omega
         have HW:=uk (show aY g.rungs k r=false from ip (by rw[←aj];exact HN0.out) (by rw[hzn.out];exact hzn0))
         clear hzn0
         go_wp2
         go_meet
         exact⟨true,rfl,HW.out,(fun h=>by cases h),S5⟩
        ·have x1:decide (zn<0)=false:=by simp;omega
         have HZN:=uk hzn0
         clear hzn0
         have HNX:=uk (show r.next.data.toList=[]∨0≤aD g.rungs r.next.data.toList from Or.inr (by rw[hzn.out];exact Int.not_lt.1 HZN.out))
         have r5:=S5.r5
         rcases (by omega:(zb<0)∨(0≤zb∧(k:Int)≤zb)∨(0≤zb∧zb<(k:Int))) with h | h | h
         ·have hA:decide (zb<0)=true:=by simp;omega
          have HW:=uk (show aY g.rungs k r=false from fH (by rw[hzb.out];exact h))
          clear h
          go_wp2
          go_meet
          exact⟨true,rfl,HW.out,fun _=>HNX.out,S5⟩
         ·have hA:decide (zb<0)=false:=by simp;omega
          have hB:decide ((k:Int)≤zb)=true:=by simp;omega
          have hC:decide ((0:Int)<(k:Int))=true:=by simp;omega
          have hD:((k:Int) == 0)=false:=by simp;omega
          have HW:=uk (show aY g.rungs k r=false from om (by rw[hzb.out];exact h.2) hk0)
          clear h
          go_wp2
          go_meet
          exact⟨true,rfl,HW.out,fun _=>HNX.out,S5⟩
         ·have hA:decide (zb<0)=false:=by simp;omega
          have hB:decide ((k:Int)≤zb)=false:=by simp;omega
          have hC:decide ((0:Int)<(k:Int))=true:=by simp;omega
          have hD:((k:Int) == 0)=false:=by simp;omega
          have HW:=uk (show aY g.rungs k r=true from fJ HNX.out (by rw[hzb.out];exact h.1) (Or.inr ⟨hk0,by rw[hzb.out];exact h.2⟩))
          clear h
          go_wp2
          go_meet
          exact⟨false,rfl,HW.out,fun _=>HNX.out,S5⟩
      case rest =>
       obtain⟨bw,rfl,hbw,hnx,S3⟩:=hcut
       clear S2
       cases bw
       ·have HW:=uk hbw.out
        have HNX:=uk (hnx.out rfl)
        clear hbw hnx
        have r5:=S3.r5
        have hnl:((r.needs.length:Nat):Int)≤1000000000000000:=by have:=HFR.out.needs;omega
        go_wp2_with fail
        go_loopw [92] (fun s92 wx=>∃ j:Nat,s92=.int .i64 j∧j≤r.needs.length∧RSt w wx w.heap.size gs (some ⟨bg,og,none⟩) c g (some ⟨b,o,none⟩) cq r q1 c1 q2 c2∧Hid ((List.range j).all (bR gs i r.needs)=true)) (fun s92 _=>r.needs.length-(intOf s92).toNat)
        case atStart=>exact⟨0,rfl,by omega,S3,rfl⟩
        case round =>
         clear S3 r5
         obtain⟨j,rfl,hj,S3,hx⟩:=hrel
         by_cases hjl:j<r.needs.length
         ·obtain⟨nb,no,rfl,hnb,hnc⟩:=S3.N.at_ (by omega)
          obtain⟨qn,cn,m0,m1,hWn⟩:=hnc j hjl
          obtain⟨nd,hnd⟩:∃ nd,nd=r.needs[j]:=⟨_,rfl⟩
          rw[←hnd] at m0 m1 hWn
          have HND:=uk (show r.needs[j]?=some nd by rw[uu hjl,hnd])
          have hnn:nd.rungs.length≤1000000000000000:=HFR.out.names nd (by rw[hnd];exact uH hjl)
          have HNC:=uk hnc
          clear hnd hnc
          have hbA:Below wr.heap.size wr (wr.alloc (.cells #[.int .i64 nd.guard,.slice qn nd.rungs.length cn] 75)):=(Below.refl _ _).alloc (uo _) _
          have t0:=af wr #[.int .i64 nd.guard,.slice qn nd.rungs.length cn] 75 0 _ rfl
          have t1:=af wr #[.int .i64 nd.guard,.slice qn nd.rungs.length cn] 75 1 _ rfl
          have S4:=S3.below hbA
          have HW4:=uk (hWn.below hbA)
          have hta:wr.heap.size<(wr.alloc (.cells #[.int .i64 nd.guard,.slice qn nd.rungs.length cn] 75)).heap.size:=by simp
          have HPV:=uk (fun j' (hj':j'<r.needs.length)=>(hbA.cell (p:=⟨nb,no+j'*2,none⟩) hnb).trans (Exists.elim (HNC.out j' hj') (fun _ h=>Exists.elim h (fun _ h=>h.1))))
          have hnbA:nb<(wr.alloc (.cells #[.int .i64 nd.guard,.slice qn nd.rungs.length cn] 75)).heap.size:=uv hnb hbA.size
          clear HNC hWn hbA S3
          go_wp2_with fail
          generalize wr.alloc (.cells #[.int .i64 nd.guard,.slice qn nd.rungs.length cn] 75)=wa at S4 HW4 t0 t1 hta HPV hnbA ⊢
          have s0:=S4.s0
          cases hns:dl gs i nd
          ·have HNS:=uk (dG (gs:=gs) (g:=i) hjl (jp HND.out hns))
           have HNS0:=uk hns
           clear hns m0 m1
           have y0:=am (by have:=S4.lt;show w.heap.size<_;omega) S4.s0
           have y1:=am hta t0
           have y2:=am hta t1
           have HN:=uk (show aM wa 55 #[.agg #[.slice (some ⟨bg,og,none⟩) gs.length c],.int .i64 i,.agg #[.int .i64 nd.guard,.slice qn nd.rungs.length cn]] ((.bool false)) from fun x=>ay.calls ((iA gs _ c i nd.guard qn cn nd.rungs x.w (S4.G.below x.h) (HW4.out.below x.h) (uK hi) hfew (fun y hy=>HRS.out y (uK hy)) hnn).mono (fun e w' h=>Exists.elim h (fun bb h=>⟨by rw[h.1,←h.2.1.out,HNS0.out],h.2.2⟩))))
           clear s0 t0 t1
           refine ai (by kernel_rfl) (by kernel_rfl) ?_
           repeat (go_big_quiet_step ((go_at_call 55;exact HN.out _)))
           refine wpQuiet_nil ?_
           rintro _ ⟨⟨w2,hbN⟩,rfl⟩
           clear HN y0 y1 y2
           have S6:=S4.below hbN
           clear hbN S4
           go_wp2
           go_ret
           exact⟨false,rfl,by unfold Hid bd;rw[HNS.out];simp,S6.bl⟩
          ·have HNS0:=uk hns
           clear hns m0 m1
           rcases vC j with rfl | hj0
           ·have HAT:=uk (show bR gs i r.needs 0=true by rw[fe HND.out];exact HNS0.out)
            have y0:=am (by have:=S4.lt;show w.heap.size<_;omega) S4.s0
            have y1:=am hta t0
            have y2:=am hta t1
            have HN:=uk (show aM wa 55 #[.agg #[.slice (some ⟨bg,og,none⟩) gs.length c],.int .i64 i,.agg #[.int .i64 nd.guard,.slice qn nd.rungs.length cn]] ((.bool true)) from fun x=>ay.calls ((iA gs _ c i nd.guard qn cn nd.rungs x.w (S4.G.below x.h) (HW4.out.below x.h) (uK hi) hfew (fun y hy=>HRS.out y (uK hy)) hnn).mono (fun e w' h=>Exists.elim h (fun bb h=>⟨by rw[h.1,←h.2.1.out,HNS0.out],h.2.2⟩))))
            clear s0 t0 t1
            refine ai (by kernel_rfl) (by kernel_rfl) ?_
            repeat (go_big_quiet_step ((go_at_call 55;exact HN.out _)))
            refine wpQuiet_nil ?_
            rintro _ ⟨⟨w2,hbN⟩,rfl⟩
            clear HN y0 y1 y2
            have S6:=S4.below hbN
            clear hbN S4
            go_wp2
            go_roundw
            case rel=>exact⟨1,by go_num,by omega,S6,bE hx.out HAT.out⟩
            case measure=>simp[intOf];omega
           ·obtain⟨j,rfl⟩:∃ j',j=j'+1:=⟨j-1,by omega⟩
            clear hj0
            obtain⟨pd,hpd⟩:∃ pd,pd=r.needs[j]:=⟨_,rfl⟩
            have hpv:=HPV.out j (by omega)
            rw[←hpd] at hpv
            have HPD:=uk (show r.needs[j]?=some pd by rw[uu (by omega),hpd])
            clear hpd
            by_cases hle:nd.guard≤pd.guard
            ·have hge:decide (nd.guard≤pd.guard)=true:=decide_eq_true hle
             have HNS:=uk (dG (gs:=gs) (g:=i) hjl (show bR gs i r.needs (j+1)=false by rw[cZ HND.out HPD.out,hge];simp))
             clear hle
             have y0:=am (by have:=S4.lt;show w.heap.size<_;omega) S4.s0
             have y1:=am hta t0
             have y2:=am hta t1
             have y3:=am S4.lt S4.r5
             have y4:=am hnbA hpv
             have HN:=uk (show aM wa 55 #[.agg #[.slice (some ⟨bg,og,none⟩) gs.length c],.int .i64 i,.agg #[.int .i64 nd.guard,.slice qn nd.rungs.length cn]] ((.bool true)) from fun x=>ay.calls ((iA gs _ c i nd.guard qn cn nd.rungs x.w (S4.G.below x.h) (HW4.out.below x.h) (uK hi) hfew (fun y hy=>HRS.out y (uK hy)) hnn).mono (fun e w' h=>Exists.elim h (fun bb h=>⟨by rw[h.1,←h.2.1.out,HNS0.out],h.2.2⟩))))
             clear s0 t0 t1 hpv
             refine ai (by kernel_rfl) (by kernel_rfl) ?_
             repeat (go_big_quiet_step ((go_at_call 55;exact HN.out _)))
             refine wpQuiet_nil ?_
             rintro _ ⟨⟨w2,hbN⟩,rfl⟩
             clear HN y0 y1 y2 y3 y4
             have S6:=S4.below hbN
             clear hbN S4
             go_wp2
             go_ret
             exact⟨false,rfl,by unfold Hid bd;rw[HNS.out];simp,S6.bl⟩
            ·have hge:decide (nd.guard≤pd.guard)=false:=decide_eq_false hle
             have HAT:=uk (show bR gs i r.needs (j+1)=true by rw[cZ HND.out HPD.out,hge,HNS0.out];rfl)
             clear hle
             have y0:=am (by have:=S4.lt;show w.heap.size<_;omega) S4.s0
             have y1:=am hta t0
             have y2:=am hta t1
             have y3:=am S4.lt S4.r5
             have y4:=am hnbA hpv
             have HN:=uk (show aM wa 55 #[.agg #[.slice (some ⟨bg,og,none⟩) gs.length c],.int .i64 i,.agg #[.int .i64 nd.guard,.slice qn nd.rungs.length cn]] ((.bool true)) from fun x=>ay.calls ((iA gs _ c i nd.guard qn cn nd.rungs x.w (S4.G.below x.h) (HW4.out.below x.h) (uK hi) hfew (fun y hy=>HRS.out y (uK hy)) hnn).mono (fun e w' h=>Exists.elim h (fun bb h=>⟨by rw[h.1,←h.2.1.out,HNS0.out],h.2.2⟩))))
             clear s0 t0 t1 hpv
             refine ai (by kernel_rfl) (by kernel_rfl) ?_
             repeat (go_big_quiet_step ((go_at_call 55;exact HN.out _)))
             refine wpQuiet_nil ?_
             rintro _ ⟨⟨w2,hbN⟩,rfl⟩
             clear HN y0 y1 y2 y3 y4
             have S6:=S4.below hbN
             clear hbN S4
             go_wp2
             go_roundw
             case rel=>exact⟨j+1+1,by go_num,by omega,S6,bE hx.out HAT.out⟩
             case measure=>simp[intOf];omega
         ·have hje:j=r.needs.length:=by omega
          subst hje
          clear hjl hj
          have HNS:=uk (show gr gs i r.needs=true from hx.out)
          clear hx
          have r6:=S3.r6
          have hll:((r.loops.length:Nat):Int)≤1000000000000000:=by have:=HFR.out.loops;omega
          go_wp2_with fail
          go_loopw [122] (fun s122 wx=>∃ j:Nat,s122=.int .i64 j∧j≤r.loops.length∧RSt w wx w.heap.size gs (some ⟨bg,og,none⟩) c g (some ⟨b,o,none⟩) cq r q1 c1 q2 c2∧Hid ((List.range j).all (bX r.loops)=true)) (fun s122 _=>r.loops.length-(intOf s122).toNat)
          case atStart=>exact⟨0,rfl,by omega,S3,rfl⟩
          case round =>
           clear S3 r6
           obtain⟨j,rfl,hj,S3,hx⟩:=hrel
           by_cases hjl:j<r.loops.length
           ·obtain⟨lb,lo,rfl,hlb,hlc⟩:=S3.L.at_ (by omega)
            obtain⟨m0,m1⟩:=hlc j hjl
            obtain⟨cl,hcl⟩:∃ cl,cl=r.loops[j]:=⟨_,rfl⟩
            rw[←hcl] at m0 m1
            have HND:=uk (show r.loops[j]?=some cl by rw[uu hjl,hcl])
            have HLC:=uk hlc
            clear hcl hlc
            have hbA:Below wr.heap.size wr (wr.alloc (.cells #[.int .i64 cl.loop,.string cl.gain] 101)):=(Below.refl _ _).alloc (uo _) _
            have t0:=af wr #[.int .i64 cl.loop,.string cl.gain] 101 0 _ rfl
            have t1:=af wr #[.int .i64 cl.loop,.string cl.gain] 101 1 _ rfl
            have S4:=S3.below hbA
            have hta:wr.heap.size<(wr.alloc (.cells #[.int .i64 cl.loop,.string cl.gain] 101)).heap.size:=by simp
            have HPV:=uk (fun j' (hj':j'<r.loops.length)=>(hbA.cell (p:=⟨lb,lo+j'*2,none⟩) hlb).trans (HLC.out j' hj').1)
            have hlbA:lb<(wr.alloc (.cells #[.int .i64 cl.loop,.string cl.gain] 101)).heap.size:=uv hlb hbA.size
            clear HLC hbA S3
            go_wp2_with fail
            generalize wr.alloc (.cells #[.int .i64 cl.loop,.string cl.gain] 101)=wa at S4 t0 t1 hta HPV hlbA ⊢
            cases hv1:(decide (0≤cl.loop)&&decide (cl.loop≤7))
            ·have HLS:=uk (cp hjl (er HND.out (by rw[hv1];rfl)))
             have HV1:=uk hv1
             clear hv1 m0 m1
             have y1:=am hta t0
             have y2:=am hta t1
             have HM:=uk (show aM wa 27 #[.int .i64 cl.loop,.int .i64 0,.int .i64 7] ((.bool false)) from fun x=>(bK _ _ _ x.w).mono (fun e w' h=>Exists.elim h (fun bb h=>⟨by rw[h.1,←h.2.1.out,HV1.out],x,h.2.2.symm⟩)))
             clear t0 t1
             refine ai (by kernel_rfl) (by kernel_rfl) ?_
             repeat (go_big_quiet_step (((go_at_call 27;exact HM.out _))))
             refine wpQuiet_nil ?_
             rintro _ ⟨⟨w2,hbN⟩,rfl⟩
             clear HM y1 y2
             have S6:=S4.below hbN
             clear hbN S4
             go_wp2
             go_ret
             exact⟨false,rfl,by unfold Hid bd;rw[HLS.out];simp,S6.bl⟩
            ·cases hv2:cI cl.gain.data.toList
             ·have HLS:=uk (cp hjl (er HND.out (by rw[hv1,hv2];rfl)))
              have HV1:=uk hv1
              have HV2:=uk hv2
              clear hv1 hv2 m0 m1
              have y1:=am hta t0
              have y2:=am hta t1
              have HM:=uk (show aM wa 27 #[.int .i64 cl.loop,.int .i64 0,.int .i64 7] ((.bool true)) from fun x=>(bK _ _ _ x.w).mono (fun e w' h=>Exists.elim h (fun bb h=>⟨by rw[h.1,←h.2.1.out,HV1.out],x,h.2.2.symm⟩)))
              have HN:=uk (show aM wa 56 #[.string cl.gain] ((.bool false)) from fun x=>ay.calls ((iw cl.gain x.w (S4.gx.below x.h)).mono (fun e w' h=>Exists.elim h (fun bb h=>⟨by rw[h.1,←h.2.1.out,HV2.out],h.2.2⟩))))
              clear t0 t1
              refine ai (by kernel_rfl) (by kernel_rfl) ?_
              repeat (go_big_quiet_step ((first | (go_at_call 27;exact HM.out _) | (go_at_call 56;exact HN.out _))))
              refine wpQuiet_nil ?_
              rintro _ ⟨⟨w2,hbN⟩,rfl⟩
              clear HM y1 y2 HN
              have S6:=S4.below hbN
              clear hbN S4
              go_wp2
              go_ret
              exact⟨false,rfl,by unfold Hid bd;rw[HLS.out];simp,S6.bl⟩
             ·have HV1:=uk hv1
              have HV2:=uk hv2
              clear hv1 hv2 m0 m1
              rcases vC j with rfl | hj0
              ·have HAT:=uk (show bX r.loops 0=true by rw[iz HND.out,HV1.out,HV2.out];rfl)
               have y1:=am hta t0
               have y2:=am hta t1
               have HM:=uk (show aM wa 27 #[.int .i64 cl.loop,.int .i64 0,.int .i64 7] ((.bool true)) from fun x=>(bK _ _ _ x.w).mono (fun e w' h=>Exists.elim h (fun bb h=>⟨by rw[h.1,←h.2.1.out,HV1.out],x,h.2.2.symm⟩)))
               have HN:=uk (show aM wa 56 #[.string cl.gain] ((.bool true)) from fun x=>ay.calls ((iw cl.gain x.w (S4.gx.below x.h)).mono (fun e w' h=>Exists.elim h (fun bb h=>⟨by rw[h.1,←h.2.1.out,HV2.out],h.2.2⟩))))
               clear t0 t1
               refine ai (by kernel_rfl) (by kernel_rfl) ?_
               repeat (go_big_quiet_step ((first | (go_at_call 27;exact HM.out _) | (go_at_call 56;exact HN.out _))))
               refine wpQuiet_nil ?_
               rintro _ ⟨⟨w2,hbN⟩,rfl⟩
               clear HM y1 y2 HN
               have S6:=S4.below hbN
               clear hbN S4
               go_wp2
               go_roundw
               case rel=>exact⟨1,by go_num,by omega,S6,bE hx.out HAT.out⟩
               case measure=>simp[intOf];omega
              ·obtain⟨j,rfl⟩:∃ j',j=j'+1:=⟨j-1,by omega⟩
               clear hj0
               obtain⟨pd,hpd⟩:∃ pd,pd=r.loops[j]:=⟨_,rfl⟩
               have hpv:=HPV.out j (by omega)
               rw[←hpd] at hpv
               have HPD:=uk (show r.loops[j]?=some pd by rw[uu (by omega),hpd])
               clear hpd
               by_cases hle:cl.loop≤pd.loop
               ·have hge:decide (cl.loop≤pd.loop)=true:=decide_eq_true hle
                have HLS:=uk (cp hjl (show bX r.loops (j+1)=false by rw[dE HND.out HPD.out,hge];simp))
                clear hle
                have y1:=am hta t0
                have y2:=am hta t1
                have y3:=am S4.lt S4.r6
                have y4:=am hlbA hpv
                have HM:=uk (show aM wa 27 #[.int .i64 cl.loop,.int .i64 0,.int .i64 7] ((.bool true)) from fun x=>(bK _ _ _ x.w).mono (fun e w' h=>Exists.elim h (fun bb h=>⟨by rw[h.1,←h.2.1.out,HV1.out],x,h.2.2.symm⟩)))
                have HN:=uk (show aM wa 56 #[.string cl.gain] ((.bool true)) from fun x=>ay.calls ((iw cl.gain x.w (S4.gx.below x.h)).mono (fun e w' h=>Exists.elim h (fun bb h=>⟨by rw[h.1,←h.2.1.out,HV2.out],h.2.2⟩))))
                clear t0 t1 hpv
                refine ai (by kernel_rfl) (by kernel_rfl) ?_
                repeat (go_big_quiet_step ((first | (go_at_call 27;exact HM.out _) | (go_at_call 56;exact HN.out _))))
                refine wpQuiet_nil ?_
                rintro _ ⟨⟨w2,hbN⟩,rfl⟩
                clear HM y1 y2 HN y3 y4
                have S6:=S4.below hbN
                clear hbN S4
                go_wp2
                go_ret
                exact⟨false,rfl,by unfold Hid bd;rw[HLS.out];simp,S6.bl⟩
               ·have hge:decide (cl.loop≤pd.loop)=false:=decide_eq_false hle
                have HAT:=uk (show bX r.loops (j+1)=true by rw[dE HND.out HPD.out,hge,HV1.out,HV2.out];rfl)
                clear hle
                have y1:=am hta t0
                have y2:=am hta t1
                have y3:=am S4.lt S4.r6
                have y4:=am hlbA hpv
                have HM:=uk (show aM wa 27 #[.int .i64 cl.loop,.int .i64 0,.int .i64 7] ((.bool true)) from fun x=>(bK _ _ _ x.w).mono (fun e w' h=>Exists.elim h (fun bb h=>⟨by rw[h.1,←h.2.1.out,HV1.out],x,h.2.2.symm⟩)))
                have HN:=uk (show aM wa 56 #[.string cl.gain] ((.bool true)) from fun x=>ay.calls ((iw cl.gain x.w (S4.gx.below x.h)).mono (fun e w' h=>Exists.elim h (fun bb h=>⟨by rw[h.1,←h.2.1.out,HV2.out],h.2.2⟩))))
                clear t0 t1 hpv
                refine ai (by kernel_rfl) (by kernel_rfl) ?_
                repeat (go_big_quiet_step ((first | (go_at_call 27;exact HM.out _) | (go_at_call 56;exact HN.out _))))
                refine wpQuiet_nil ?_
                rintro _ ⟨⟨w2,hbN⟩,rfl⟩
                clear HM y1 y2 HN y3 y4
                have S6:=S4.below hbN
                clear hbN S4
                go_wp2
                go_roundw
                case rel=>exact⟨j+1+1,by go_num,by omega,S6,bE hx.out HAT.out⟩
                case measure=>simp[intOf];omega
           ·have hje:j=r.loops.length:=by omega
            subst hje
            clear hjl hj
            have HLS:=uk (show jo r.loops=true from hx.out)
            clear hx
            go_wp2
            go_ret
            exact⟨true,rfl,by unfold Hid bd;rw[HSELF.out,HW.out,HNS.out,HLS.out];rfl,S3.bl⟩
       ·have HW:=uk hbw.out
        clear hbw
        go_wp2
        go_ret
        exact⟨false,rfl,by unfold Hid bd;rw[HW.out];simp,S3.bl⟩
  ·have hd:(z1 == (k:Int))=false:=by simp[hzk]
   have hd2:(z1 != (k:Int))=true:=by simp[hzk]
   have HZ:=uk hzk
   clear hzk
   go_wp2
   go_ret
   exact⟨false,rfl,by unfold Hid bd eN;rw[HBN.out,hz1.out,decide_eq_false HZ.out];rfl,S1.bl⟩
end Go.Proofs.YtlkniohhalnjjaaGreatDoor
