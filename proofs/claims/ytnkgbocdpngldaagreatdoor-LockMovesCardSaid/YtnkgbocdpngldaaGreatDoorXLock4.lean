/- Lemmas of this claim. -/
import Derived.Test.YtnkgbocdpngldaaGreatDoorXMach
import Derived.Test.YtnkgbocdpngldaaGreatDoorXName
set_option linter.all false
set_option maxRecDepth 100000
set_option maxHeartbeats 8000000
namespace Go.Proofs.YtnkgbocdpngldaaGreatDoor
open Go.RowKit Dc Dg
def de (gs:List Gd) (g:Nat) (l:List Nd) (j:Nat):Bool :=
 match l[j]? with
 | none=>true
 | some n=>dZ gs g n&&match j with
  | 0=>true
  | i+1=>match l[i]? with
   | some m=>!decide (n.guard≤m.guard)
   | none=>true
def ez (gs:List Gd) (g:Nat) (l:List Nd):Bool:=(List.range l.length).all (de gs g l)
def dm (l:List Cl) (j:Nat):Bool :=
 match l[j]? with
 | none=>true
 | some n=>(decide (0≤n.loop)&&decide (n.loop≤7))&&dz n.gain.data.toList&&match j with
  | 0=>true
  | i+1=>match l[i]? with
   | some m=>!decide (n.loop≤m.loop)
   | none=>true
def eJ (l:List Cl):Bool:=(List.range l.length).all (dm l)
def cS (l:List Rg) (k:Nat) (r:Rg):Bool :=
 bF r.name.data.toList&&decide (aE l r.name.data.toList=k)&&(decide (1≤r.tries)&&decide (r.tries≤4))&&(decide (1≤r.minutes)&&decide (r.minutes≤60))
def bV (l:List Rg) (k:Nat) (r:Rg):Bool :=
 !(!decide (r.next.data.toList=[])&&decide (aE l r.next.data.toList<0)||decide (aE l r.back.data.toList<0)||decide ((k:Int)≤aE l r.back.data.toList)&&decide (0<k)||decide (k=0)&&(!decide (aE l r.back.data.toList=0)||decide (0<r.needs.length)))
def bN (gs:List Gd) (i k:Nat) (l:List Rg) (r:Rg):Bool:=cS l k r&&bV l k r&&ez gs i r.needs&&eJ r.loops
def eT (gs:List Gd) (i k:Nat):Bool:=match (ag gs i)[k]? with | some r=>bN gs i k (ag gs i) r | none=>false
def gl (v:Bool) (w:World) (e:Ending) (w':World):Prop:=∃ b:Bool,e=.returned (.bool b)∧Hid (v=b)∧Below w.heap.size w w'
theorem lP {l:List Rg}{k:Nat}{r:Rg} (h:¬ r.next.data.toList=[]) (h2:aE l r.next.data.toList<0):bV l k r=false:=by
 unfold bV;simp[h,h2]
theorem jI {l:List Rg}{k:Nat}{r:Rg} (h:aE l r.back.data.toList<0):bV l k r=false:=by
 unfold bV;simp[h]
theorem vo {l:List Rg}{k:Nat}{r:Rg} (h:(k:Int)≤aE l r.back.data.toList) (h2:0<k):bV l k r=false:=by
 unfold bV;simp[h,h2]
theorem jK {l:List Rg}{k:Nat}{r:Rg} (hk:k=0) (h:¬ aE l r.back.data.toList=0∨0<r.needs.length):bV l k r=false:=by
 unfold bV
 rcases h with h | h<;>simp[hk,h]
theorem jJ {l:List Rg}{k:Nat}{r:Rg} (hn:r.next.data.toList=[]∨0≤aE l r.next.data.toList) (h0:0≤aE l r.back.data.toList) (h:k=0∧aE l r.back.data.toList=0∧r.needs.length=0∨0<k∧aE l r.back.data.toList<k):bV l k r=true:=by
 unfold bV
 have hA:(!decide (r.next.data.toList=[])&&decide (aE l r.next.data.toList<0))=false:=by
  rcases hn with h | h
  ·simp[h]
  ·rw[decide_eq_false (by omega:¬ aE l r.next.data.toList<0),Ex]
 rw[hA,decide_eq_false (by omega:¬ aE l r.back.data.toList<0)]
 rcases h with ⟨h1,h2,h3⟩ | ⟨h1,h2⟩
 ·rw[h2,h3,h1];rfl
 ·rw[decide_eq_false (by omega:¬ (k:Int)≤aE l r.back.data.toList),decide_eq_false (by omega:¬ k=0)];rfl
theorem dj {gs:List Gd}{g:Nat}{l:List Nd}{j:Nat} (hj:j<l.length) (h:de gs g l j=false):ez gs g l=false:=by
 unfold ez
 rw[Ee]
 exact⟨j,Dv.2 hj,by rw[h];exact Dl⟩
theorem cD {l:List Cl}{j:Nat} (hj:j<l.length) (h:dm l j=false):eJ l=false:=by
 unfold eJ
 rw[Ee]
 exact⟨j,Dv.2 hj,by rw[h];exact Dl⟩
theorem bG {f:Nat→Bool}{j:Nat} (h:(List.range j).all f=true) (h2:f j=true):(List.range (j+1)).all f=true:=by
 rw[Ew,Es,h,Bool.true_and]
 simp[h2]
theorem fV {gs:List Gd}{g:Nat}{l:List Nd}{n:Nd} (h:l[0]?=some n):de gs g l 0=dZ gs g n:=by
 unfold de;rw[h];simp
theorem dB {gs:List Gd}{g:Nat}{l:List Nd}{j:Nat}{m n:Nd} (h:l[j+1]?=some n) (h2:l[j]?=some m):de gs g l (j+1)=(dZ gs g n&&!decide (n.guard≤m.guard)):=by
 unfold de;rw[h];simp only;rw[h2]
theorem fK {gs:List Gd}{g:Nat}{l:List Nd}{j:Nat}{n:Nd} (h:l[j]?=some n) (h2:dZ gs g n=false):de gs g l j=false:=by
 unfold de;rw[h];simp only;rw[h2];rfl
theorem fT {l:List Cl}{n:Cl} (h:l[0]?=some n):dm l 0=((decide (0≤n.loop)&&decide (n.loop≤7))&&dz n.gain.data.toList):=by
 unfold dm;rw[h];simp
theorem dA {l:List Cl}{j:Nat}{m n:Cl} (h:l[j+1]?=some n) (h2:l[j]?=some m):dm l (j+1)=((decide (0≤n.loop)&&decide (n.loop≤7))&&dz n.gain.data.toList&&!decide (n.loop≤m.loop)):=by
 unfold dm;rw[h];simp only;rw[h2]
theorem dV {l:List Cl}{j:Nat}{n:Cl} (h:l[j]?=some n) (h2:((decide (0≤n.loop)&&decide (n.loop≤7))&&dz n.gain.data.toList)=false):dm l j=false:=by
 unfold dm;rw[h];simp only;rw[h2];rfl
structure RSt (w0 w:World) (k:Nat) (gs:List Gd) (p:Option Addr) (c:Nat) (g:Gd) (q:Option Addr) (cq:Nat) (r:Rg) (q1:Option Addr) (c1:Nat) (q2:Option Addr) (c2:Nat):Prop where
 s0:w.cell? ⟨k,0,none⟩=some (.slice p gs.length c)
 g0:w.cell? ⟨k+1,0,none⟩=some (.string g.name)
 g1:w.cell? ⟨k+1,1,none⟩=some (.slice q g.rungs.length cq)
 r0:w.cell? ⟨k+1+1,0,none⟩=some (.string r.name)
 r1:w.cell? ⟨k+1+1,1,none⟩=some (.string r.next)
 r2:w.cell? ⟨k+1+1,2,none⟩=some (.string r.back)
 r3:w.cell? ⟨k+1+1,3,none⟩=some (.int .i64 r.tries)
 r4:w.cell? ⟨k+1+1,4,none⟩=some (.int .i64 r.minutes)
 r5:w.cell? ⟨k+1+1,5,none⟩=some (.slice q1 r.needs.length c1)
 r6:w.cell? ⟨k+1+1,6,none⟩=some (.slice q2 r.loops.length c2)
 lt:k+1+1<w.heap.size
 G:bE w p gs
 R:cT w q g.rungs
 N:fb w q1 r.needs
 L:e_ w q2 r.loops
 gx:Gx w
 bl:Below w0.heap.size w0 w
theorem RSt.below {w0 w w':World}{k:Nat}{gs:List Gd}{p:Option Addr}{c:Nat}{g:Gd}{q:Option Addr}{cq:Nat}{r:Rg}{q1:Option Addr}{c1:Nat}{q2:Option Addr}{c2:Nat}
  (h:RSt w0 w k gs p c g q cq r q1 c1 q2 c2) (hb:Below w.heap.size w w'):RSt w0 w' k gs p c g q cq r q1 c1 q2 c2:=by
 have hlt:=h.lt
 have a:∀ o,w'.cell? ⟨k,o,none⟩=w.cell? ⟨k,o,none⟩:=fun o=>hb.cell (p:=⟨k,o,none⟩) (by show k<_;omega)
 have b:∀ o,w'.cell? ⟨k+1,o,none⟩=w.cell? ⟨k+1,o,none⟩:=fun o=>hb.cell (p:=⟨k+1,o,none⟩) (by show k+1<_;omega)
 have d:∀ o,w'.cell? ⟨k+1+1,o,none⟩=w.cell? ⟨k+1+1,o,none⟩:=fun o=>hb.cell (p:=⟨k+1+1,o,none⟩) (by show k+1+1<_;omega)
 exact⟨(a _).trans h.s0,(b _).trans h.g0,(b _).trans h.g1,(d _).trans h.r0,(d _).trans h.r1,(d _).trans h.r2,(d _).trans h.r3,(d _).trans h.r4,(d _).trans h.r5,(d _).trans h.r6,C8 h.lt hb.size,h.G.below hb,h.R.below hb,h.N.below hb,h.L.below hb,h.gx.below hb,h.bl.trans (hb.mono h.bl.size)⟩
theorem RSt.new (w:World) (gs:List Gd) (p:Option Addr) (c:Nat) (g:Gd) (q:Option Addr) (cq:Nat) (r:Rg) (q1:Option Addr) (c1:Nat) (q2:Option Addr) (c2:Nat)
  (hG:bE w p gs) (hR:cT w q g.rungs) (hN:fb w q1 r.needs) (hL:e_ w q2 r.loops) (hX:Gx w) :
  RSt w (((w.alloc (.cells #[.slice p gs.length c] 24)).alloc (.cells #[.string g.name,.slice q g.rungs.length cq] 62)).alloc (.cells #[.string r.name,.string r.next,.string r.back,.int .i64 r.tries,.int .i64 r.minutes,.slice q1 r.needs.length c1,.slice q2 r.loops.length c2] 59)) w.heap.size gs p c g q cq r q1 c1 q2 c2:=by
 have hb1:Below w.heap.size w (w.alloc (.cells #[.slice p gs.length c] 24)):=(Below.refl _ _).alloc (C6 _) _
 have a0:=an w #[.slice p gs.length c] 24 0 _ rfl
 have hz1:(w.alloc (.cells #[.slice p gs.length c] 24)).heap.size=w.heap.size+1:=by simp
 generalize w.alloc (.cells #[.slice p gs.length c] 24)=w1 at *
 have hb2:Below w1.heap.size w1 (w1.alloc (.cells #[.string g.name,.slice q g.rungs.length cq] 62)):=(Below.refl _ _).alloc (C6 _) _
 have b0:=an w1 #[.string g.name,.slice q g.rungs.length cq] 62 0 _ rfl
 have b1:=an w1 #[.string g.name,.slice q g.rungs.length cq] 62 1 _ rfl
 have hz2:(w1.alloc (.cells #[.string g.name,.slice q g.rungs.length cq] 62)).heap.size=w1.heap.size+1:=by simp
 generalize w1.alloc (.cells #[.string g.name,.slice q g.rungs.length cq] 62)=w2 at *
 have hb3:Below w2.heap.size w2 (w2.alloc (.cells #[.string r.name,.string r.next,.string r.back,.int .i64 r.tries,.int .i64 r.minutes,.slice q1 r.needs.length c1,.slice q2 r.loops.length c2] 59)):=(Below.refl _ _).alloc (C6 _) _
 have hC:=fun j v h=>an w2 #[.string r.name,.string r.next,.string r.back,.int .i64 r.tries,.int .i64 r.minutes,.slice q1 r.needs.length c1,.slice q2 r.loops.length c2] 59 j v h
 have hz3:(w2.alloc (.cells #[.string r.name,.string r.next,.string r.back,.int .i64 r.tries,.int .i64 r.minutes,.slice q1 r.needs.length c1,.slice q2 r.loops.length c2] 59)).heap.size=w2.heap.size+1:=by simp
 generalize w2.alloc (.cells #[.string r.name,.string r.next,.string r.back,.int .i64 r.tries,.int .i64 r.minutes,.slice q1 r.needs.length c1,.slice q2 r.loops.length c2] 59)=w3 at *
 rw[hz1] at b0 b1
 rw[hz2,hz1] at hC
 have hb:=hb1.trans ((hb2.trans (hb3.mono hb2.size)).mono hb1.size)
 refine⟨?_,?_,?_,hC 0 _ rfl,hC 1 _ rfl,hC 2 _ rfl,hC 3 _ rfl,hC 4 _ rfl,hC 5 _ rfl,hC 6 _ rfl,by omega,hG.below hb,hR.below hb,hN.below hb,hL.below hb,hX.below hb,hb⟩
 ·exact ((hb3.cell (p:=⟨w.heap.size,0,none⟩) (by show w.heap.size<_;omega)).trans (hb2.cell (p:=⟨w.heap.size,0,none⟩) (by show w.heap.size<_;omega))).trans a0
 ·exact (hb3.cell (p:=⟨w.heap.size+1,0,none⟩) (by show w.heap.size+1<_;omega)).trans b0
 ·exact (hb3.cell (p:=⟨w.heap.size+1,1,none⟩) (by show w.heap.size+1<_;omega)).trans b1
structure mK (r:Rg):Prop where
 n:r.name.size≤9223372036854775806
 needs:r.needs.length≤1000000000000000
 loops:r.loops.length≤1000000000000000
 names:∀ x∈r.needs,x.rungs.length≤1000000000000000
theorem Bf (gs:List Gd) (p:Option Addr) (c:Nat) (i k:Nat) (w:World)
  (hG:bE w p gs) (hX:Gx w) (hi:i<gs.length) (hk:k<(ag gs i).length) (hfew:gs.length≤1000) (hrs:∀ j,j≤i→(ag gs j).length<1000000) (hfit:∀ r∈ag gs i,mK r) :
  Calls Tryz.prog 71 #[.agg #[.slice p gs.length c],.int .i64 i,.int .i64 k] w (gl (eT gs i k) w):=by
 obtain⟨bg,og,rfl,hbg,hcg⟩:=hG.at_ (by omega)
 obtain⟨q,cq,e0,e1,hR⟩:=hcg i hi
 obtain⟨g,hge⟩:∃ g,g=gs[i]:=⟨_,rfl⟩
 rw[←hge] at e0 e1 hR
 have hra:ag gs i=g.rungs:=by unfold ag;rw[C7 hi,hge]
 rw[hra] at hk hfit
 have hrs0:eT gs i k=match g.rungs[k]? with | some r=>bN gs i k g.rungs r | none=>false:=by unfold eT;rw[hra]
 obtain⟨b,o,rfl,hbw,hcs⟩:=hR.at_ (by omega)
 obtain⟨q1,c1,q2,c2,hr⟩:=hcs k hk
 rw[C7 hk] at hrs0
 obtain⟨r,hre⟩:∃ r,r=g.rungs[k]:=⟨_,rfl⟩
 rw[←hre] at hr hrs0
 rw[show eT gs i k=bN gs i k g.rungs r from hrs0]
 clear hrs0
 have hgl:g.rungs.length<1000000:=by rw[←hra];exact hrs i (C6 _)
 have HRS:=C5 hrs
 have HRA:=C5 hra
 have HRE:=C5 hre
 have HGE:=C5 hge
 clear hrs hra hre hge hcg hcs
 have d0:=hr.d0;have d1:=hr.d1;have d2:=hr.d2;have d3:=hr.d3;have d4:=hr.d4;have d5:=hr.d5;have d6:=hr.d6
 have S0:=RSt.new w gs (some ⟨bg,og,none⟩) c g (some ⟨b,o,none⟩) cq r q1 c1 q2 c2 hG hR hr.n hr.l hX
 have hfr:mK r:=hfit r (by rw[HRE.out];exact Dt hk)
 have HFR:=C5 hfr
 have hnm:=hfr.n
 clear hr hfit hfr hG hR hX
 go_enter Tryz.func71,Tryz.ntmps71
 go_wp2_with fail
 generalize ((w.alloc (.cells #[.slice (some ⟨bg,og,none⟩) gs.length c] 24)).alloc (.cells #[.string g.name,.slice (some ⟨b,o,none⟩) g.rungs.length cq] 62)).alloc (.cells #[.string r.name,.string r.next,.string r.back,.int .i64 r.tries,.int .i64 r.minutes,.slice q1 r.needs.length c1,.slice q2 r.loops.length c2] 59)=w0 at S0 ⊢
 clear e0 e1 d0 d1 d2 d3 d4 d5 d6
 refine (BA r.name w0 hnm).mono ?_
 rintro e w1 ⟨bn,rfl,hbn,rfl⟩
 cases bn
 ·have HBN:=C5 hbn.out
  clear hbn
  go_wp2
  go_ret
  exact⟨false,rfl,by unfold Hid bN cS;rw[HBN.out];rfl,S0.bl⟩
 ·have HBN:=C5 hbn.out
  clear hbn
  have g0:=S0.g0;have g1:=S0.g1;have r0:=S0.r0
  go_wp2_with fail
  refine (jZ g.name _ cq g.rungs r.name _ S0.R hgl).mono ?_
  rintro e w2 ⟨z1,rfl,hz1,hb2⟩
  have S1:=S0.below hb2
  clear S0 hb2 g0 g1 r0
  by_cases hzk:z1=(k:Int)
  ·have hd:(z1 == (k:Int))=true:=by simp[hzk]
   have hd2:(z1 != (k:Int))=false:=by simp[hzk]
   have HZ:=C5 hzk
   clear hzk
   have r3:=S1.r3
   go_wp2_with fail
   refine (dq _ _ _ _).mono ?_
   rintro e w3 ⟨bt,rfl,hbt,rfl⟩
   cases bt
   ·have HBT:=C5 hbt.out
    clear hbt
    go_wp2
    go_ret
    exact⟨false,rfl,by unfold Hid bN cS;rw[HBT.out];simp,S1.bl⟩
   ·have HBT:=C5 hbt.out
    clear hbt r3
    have r4:=S1.r4
    go_wp2_with fail
    refine (dq _ _ _ _).mono ?_
    rintro e w3 ⟨bm,rfl,hbm,rfl⟩
    cases bm
    ·have HBM:=C5 hbm.out
     clear hbm
     go_wp2
     go_ret
     exact⟨false,rfl,by unfold Hid bN cS;rw[HBM.out];simp,S1.bl⟩
    ·have HSELF:Hid (cS g.rungs k r=true):=by
      unfold Hid cS;rw[HBN.out,HBT.out,hbm.out,hz1.out,decide_eq_true HZ.out];rfl
     clear hbm HBT HBN hz1 HZ r4
     have g0:=S1.g0;have g1:=S1.g1;have r2:=S1.r2
     go_wp2_with fail
     refine (jZ g.name _ cq g.rungs r.back _ S1.R hgl).mono ?_
     rintro e w4 ⟨zb,rfl,hzb,hb4⟩
     have S2:=S1.below hb4
     have hzbr:=bH g.rungs r.back.data.toList
     rw[hzb.out] at hzbr
     clear S1 hb4 g0 g1 r2
     rcases DQ k with rfl | hk0
     ·by_cases hz0:zb=0
      ·subst hz0
       go_upto_region 6 with fail
       go_cut [88] from 52 to 88 (fun s88 wx=>∃ bw:Bool,s88=.bool bw∧Hid (bV g.rungs 0 r=!bw)∧Hid (bw=false→r.next.data.toList=[]∨0≤aE g.rungs r.next.data.toList)∧RSt w wx w.heap.size gs (some ⟨bg,og,none⟩) c g (some ⟨b,o,none⟩) cq r q1 c1 q2 c2)
       case first =>
        by_cases hn:r.next.toList=[]
        ·have y1:(r.next.toList == [])=true:=by simp[hn]
         have y2:(r.next.toList != [])=false:=by simp[hn]
         have HN0:=C5 hn
         clear hn
         have r1:=S2.r1
         have HNX:=C5 (show r.next.data.toList=[]∨0≤aE g.rungs r.next.data.toList from Or.inl (by rw[←aj];exact HN0.out))
         have r5:=S2.r5
         rcases (by omega:(0<r.needs.length)∨(r.needs.length=0)) with h | h
         ·have hF:decide ((0:Int)<((r.needs.length:Nat):Int))=true:=decide_eq_true (by omega)
          have hF2:decide (0<r.needs.length)=true:=decide_eq_true (by omega)
          have HW:=C5 (show bV g.rungs 0 r=false from jK rfl (Or.inr h))
          clear h
          go_wp2
          go_meet
          exact⟨true,rfl,HW.out,fun _=>HNX.out,S2⟩
         ·have hF:decide ((0:Int)<((r.needs.length:Nat):Int))=false:=decide_eq_false (by omega)
          have hF2:decide (0<r.needs.length)=false:=decide_eq_false (by omega)
          have HW:=C5 (show bV g.rungs 0 r=true from jJ HNX.out (by rw[hzb.out];exact FR _) (Or.inl ⟨rfl,hzb.out,h⟩))
          clear h
          go_wp2
          go_meet
          exact⟨false,rfl,HW.out,fun _=>HNX.out,S2⟩
        ·have y1:(r.next.toList == [])=false:=by simpa using hn
         have y2:(r.next.toList != [])=true:=by simpa using hn
         have HN0:=C5 hn
         clear hn
         have r1:=S2.r1;have g0:=S2.g0;have g1:=S2.g1
         go_wp2_with fail
         refine (jZ g.name _ cq g.rungs r.next _ S2.R hgl).mono ?_
         rintro e w5 ⟨zn,rfl,hzn,hb5⟩
         have S5:=S2.below hb5
         clear S2 hb5 r1 g0 g1
         by_cases hzn0:zn<0
         ·have x1:decide (zn<0)=true:=by simp;omega
          have HW:=C5 (show bV g.rungs 0 r=false from lP (by rw[←aj];exact HN0.out) (by rw[hzn.out];exact hzn0))
          clear hzn0
          go_wp2
          go_meet
          exact⟨true,rfl,HW.out,(fun h=>by cases h),S5⟩
         ·have x1:decide (zn<0)=false:=by simp;omega
          have HZN:=C5 hzn0
          clear hzn0
          have HNX:=C5 (show r.next.data.toList=[]∨0≤aE g.rungs r.next.data.toList from Or.inr (by rw[hzn.out];exact Int.not_lt.1 HZN.out))
          have r5:=S5.r5
          rcases (by omega:(0<r.needs.length)∨(r.needs.length=0)) with h | h
          ·have hF:decide ((0:Int)<((r.needs.length:Nat):Int))=true:=decide_eq_true (by omega)
           have hF2:decide (0<r.needs.length)=true:=decide_eq_true (by omega)
           have HW:=C5 (show bV g.rungs 0 r=false from jK rfl (Or.inr h))
           clear h
           go_wp2
           go_meet
           exact⟨true,rfl,HW.out,fun _=>HNX.out,S5⟩
          ·have hF:decide ((0:Int)<((r.needs.length:Nat):Int))=false:=decide_eq_false (by omega)
           have hF2:decide (0<r.needs.length)=false:=decide_eq_false (by omega)
           have HW:=C5 (show bV g.rungs 0 r=true from jJ HNX.out (by rw[hzb.out];exact FR _) (Or.inl ⟨rfl,hzb.out,h⟩))
           clear h
           go_wp2
           go_meet
           exact⟨false,rfl,HW.out,fun _=>HNX.out,S5⟩
       case rest =>
        obtain⟨bw,rfl,hbw,hnx,S3⟩:=hcut
        clear S2
        cases bw
        ·have HW:=C5 hbw.out
         have HNX:=C5 (hnx.out rfl)
         clear hbw hnx
         have r5:=S3.r5
         have hnl:((r.needs.length:Nat):Int)≤1000000000000000:=by have:=HFR.out.needs;omega
         go_wp2_with fail
         go_loopw [92] (fun s92 wx=>∃ j:Nat,s92=.int .i64 j∧j≤r.needs.length∧RSt w wx w.heap.size gs (some ⟨bg,og,none⟩) c g (some ⟨b,o,none⟩) cq r q1 c1 q2 c2∧Hid ((List.range j).all (de gs i r.needs)=true)) (fun s92 _=>r.needs.length-(intOf s92).toNat)
         case atStart=>exact⟨0,rfl,by omega,S3,rfl⟩
         case round =>
          clear S3 r5
          obtain⟨j,rfl,hj,S3,hx⟩:=hrel
          by_cases hjl:j<r.needs.length
          ·obtain⟨nb,no,rfl,hnb,hnc⟩:=S3.N.at_ (by omega)
           obtain⟨qn,cn,m0,m1,hWn⟩:=hnc j hjl
           obtain⟨nd,hnd⟩:∃ nd,nd=r.needs[j]:=⟨_,rfl⟩
           rw[←hnd] at m0 m1 hWn
           have HND:=C5 (show r.needs[j]?=some nd by rw[C7 hjl,hnd])
           have hnn:nd.rungs.length≤1000000000000000:=HFR.out.names nd (by rw[hnd];exact Dt hjl)
           have HNC:=C5 hnc
           clear hnd hnc
           have hbA:Below wr.heap.size wr (wr.alloc (.cells #[.int .i64 nd.guard,.slice qn nd.rungs.length cn] 65)):=(Below.refl _ _).alloc (C6 _) _
           have t0:=an wr #[.int .i64 nd.guard,.slice qn nd.rungs.length cn] 65 0 _ rfl
           have t1:=an wr #[.int .i64 nd.guard,.slice qn nd.rungs.length cn] 65 1 _ rfl
           have S4:=S3.below hbA
           have HW4:=C5 (hWn.below hbA)
           have hta:wr.heap.size<(wr.alloc (.cells #[.int .i64 nd.guard,.slice qn nd.rungs.length cn] 65)).heap.size:=by simp
           have HPV:=C5 (fun j' (hj':j'<r.needs.length)=>(hbA.cell (p:=⟨nb,no+j'*2,none⟩) hnb).trans (Exists.elim (HNC.out j' hj') (fun _ h=>Exists.elim h (fun _ h=>h.1))))
           have hnbA:nb<(wr.alloc (.cells #[.int .i64 nd.guard,.slice qn nd.rungs.length cn] 65)).heap.size:=C8 hnb hbA.size
           clear HNC hWn hbA S3
           go_wp2_with fail
           generalize wr.alloc (.cells #[.int .i64 nd.guard,.slice qn nd.rungs.length cn] 65)=wa at S4 HW4 t0 t1 hta HPV hnbA ⊢
           have s0:=S4.s0
           cases hns:dZ gs i nd
           ·have HNS:=C5 (dj (gs:=gs) (g:=i) hjl (fK HND.out hns))
            have HNS0:=C5 hns
            clear hns m0 m1
            have y0:=ay (by have:=S4.lt;show w.heap.size<_;omega) S4.s0
            have y1:=ay hta t0
            have y2:=ay hta t1
            have HN:=C5 (show aQ wa 91 #[.agg #[.slice (some ⟨bg,og,none⟩) gs.length c],.int .i64 i,.agg #[.int .i64 nd.guard,.slice qn nd.rungs.length cn]] ((.bool false)) from fun x=>ax.calls ((l8 gs _ c i nd.guard qn cn nd.rungs x.w (S4.G.below x.h) (HW4.out.below x.h) (Dw hi) hfew (fun y hy=>HRS.out y (Dw hy)) hnn).mono (fun e w' h=>Exists.elim h (fun bb h=>⟨by rw[h.1,←h.2.1.out,HNS0.out],h.2.2⟩))))
            clear s0 t0 t1
            refine ai (by kernel_rfl) (by kernel_rfl) ?_
            repeat (go_big_quiet_step ((go_at_call 91;exact HN.out _)))
            refine wpQuiet_nil ?_
            rintro _ ⟨⟨w2,hbN⟩,rfl⟩
            clear HN y0 y1 y2
            have S6:=S4.below hbN
            clear hbN S4
            go_wp2
            go_ret
            exact⟨false,rfl,by unfold Hid bN;rw[HNS.out];simp,S6.bl⟩
           ·have HNS0:=C5 hns
            clear hns m0 m1
            rcases DQ j with rfl | hj0
            ·have HAT:=C5 (show de gs i r.needs 0=true by rw[fV HND.out];exact HNS0.out)
             have y0:=ay (by have:=S4.lt;show w.heap.size<_;omega) S4.s0
             have y1:=ay hta t0
             have y2:=ay hta t1
             have HN:=C5 (show aQ wa 91 #[.agg #[.slice (some ⟨bg,og,none⟩) gs.length c],.int .i64 i,.agg #[.int .i64 nd.guard,.slice qn nd.rungs.length cn]] ((.bool true)) from fun x=>ax.calls ((l8 gs _ c i nd.guard qn cn nd.rungs x.w (S4.G.below x.h) (HW4.out.below x.h) (Dw hi) hfew (fun y hy=>HRS.out y (Dw hy)) hnn).mono (fun e w' h=>Exists.elim h (fun bb h=>⟨by rw[h.1,←h.2.1.out,HNS0.out],h.2.2⟩))))
             clear s0 t0 t1
             refine ai (by kernel_rfl) (by kernel_rfl) ?_
             repeat (go_big_quiet_step ((go_at_call 91;exact HN.out _)))
             refine wpQuiet_nil ?_
             rintro _ ⟨⟨w2,hbN⟩,rfl⟩
             clear HN y0 y1 y2
             have S6:=S4.below hbN
             clear hbN S4
             go_wp2
             go_roundw
             case rel=>exact⟨1,by go_num,by omega,S6,bG hx.out HAT.out⟩
             case measure=>simp[intOf];omega
            ·obtain⟨j,rfl⟩:∃ j',j=j'+1:=⟨j-1,by omega⟩
             clear hj0
             obtain⟨pd,hpd⟩:∃ pd,pd=r.needs[j]:=⟨_,rfl⟩
             have hpv:=HPV.out j (by omega)
             rw[←hpd] at hpv
             have HPD:=C5 (show r.needs[j]?=some pd by rw[C7 (by omega),hpd])
             clear hpd
             by_cases hle:nd.guard≤pd.guard
             ·have hge:decide (nd.guard≤pd.guard)=true:=decide_eq_true hle
              have HNS:=C5 (dj (gs:=gs) (g:=i) hjl (show de gs i r.needs (j+1)=false by rw[dB HND.out HPD.out,hge];simp))
              clear hle
              have y0:=ay (by have:=S4.lt;show w.heap.size<_;omega) S4.s0
              have y1:=ay hta t0
              have y2:=ay hta t1
              have y3:=ay S4.lt S4.r5
              have y4:=ay hnbA hpv
              have HN:=C5 (show aQ wa 91 #[.agg #[.slice (some ⟨bg,og,none⟩) gs.length c],.int .i64 i,.agg #[.int .i64 nd.guard,.slice qn nd.rungs.length cn]] ((.bool true)) from fun x=>ax.calls ((l8 gs _ c i nd.guard qn cn nd.rungs x.w (S4.G.below x.h) (HW4.out.below x.h) (Dw hi) hfew (fun y hy=>HRS.out y (Dw hy)) hnn).mono (fun e w' h=>Exists.elim h (fun bb h=>⟨by rw[h.1,←h.2.1.out,HNS0.out],h.2.2⟩))))
              clear s0 t0 t1 hpv
              refine ai (by kernel_rfl) (by kernel_rfl) ?_
              repeat (go_big_quiet_step ((go_at_call 91;exact HN.out _)))
              refine wpQuiet_nil ?_
              rintro _ ⟨⟨w2,hbN⟩,rfl⟩
              clear HN y0 y1 y2 y3 y4
              have S6:=S4.below hbN
              clear hbN S4
              go_wp2
              go_ret
              exact⟨false,rfl,by unfold Hid bN;rw[HNS.out];simp,S6.bl⟩
             ·have hge:decide (nd.guard≤pd.guard)=false:=decide_eq_false hle
              have HAT:=C5 (show de gs i r.needs (j+1)=true by rw[dB HND.out HPD.out,hge,HNS0.out];rfl)
              clear hle
              have y0:=ay (by have:=S4.lt;show w.heap.size<_;omega) S4.s0
              have y1:=ay hta t0
              have y2:=ay hta t1
              have y3:=ay S4.lt S4.r5
              have y4:=ay hnbA hpv
              have HN:=C5 (show aQ wa 91 #[.agg #[.slice (some ⟨bg,og,none⟩) gs.length c],.int .i64 i,.agg #[.int .i64 nd.guard,.slice qn nd.rungs.length cn]] ((.bool true)) from fun x=>ax.calls ((l8 gs _ c i nd.guard qn cn nd.rungs x.w (S4.G.below x.h) (HW4.out.below x.h) (Dw hi) hfew (fun y hy=>HRS.out y (Dw hy)) hnn).mono (fun e w' h=>Exists.elim h (fun bb h=>⟨by rw[h.1,←h.2.1.out,HNS0.out],h.2.2⟩))))
              clear s0 t0 t1 hpv
              refine ai (by kernel_rfl) (by kernel_rfl) ?_
              repeat (go_big_quiet_step ((go_at_call 91;exact HN.out _)))
              refine wpQuiet_nil ?_
              rintro _ ⟨⟨w2,hbN⟩,rfl⟩
              clear HN y0 y1 y2 y3 y4
              have S6:=S4.below hbN
              clear hbN S4
              go_wp2
              go_roundw
              case rel=>exact⟨j+1+1,by go_num,by omega,S6,bG hx.out HAT.out⟩
              case measure=>simp[intOf];omega
          ·have hje:j=r.needs.length:=by omega
           subst hje
           clear hjl hj
           have HNS:=C5 (show ez gs i r.needs=true from hx.out)
           clear hx
           have r6:=S3.r6
           have hll:((r.loops.length:Nat):Int)≤1000000000000000:=by have:=HFR.out.loops;omega
           go_wp2_with fail
           go_loopw [122] (fun s122 wx=>∃ j:Nat,s122=.int .i64 j∧j≤r.loops.length∧RSt w wx w.heap.size gs (some ⟨bg,og,none⟩) c g (some ⟨b,o,none⟩) cq r q1 c1 q2 c2∧Hid ((List.range j).all (dm r.loops)=true)) (fun s122 _=>r.loops.length-(intOf s122).toNat)
           case atStart=>exact⟨0,rfl,by omega,S3,rfl⟩
           case round =>
            clear S3 r6
            obtain⟨j,rfl,hj,S3,hx⟩:=hrel
            by_cases hjl:j<r.loops.length
            ·obtain⟨lb,lo,rfl,hlb,hlc⟩:=S3.L.at_ (by omega)
             obtain⟨m0,m1⟩:=hlc j hjl
             obtain⟨cl,hcl⟩:∃ cl,cl=r.loops[j]:=⟨_,rfl⟩
             rw[←hcl] at m0 m1
             have HND:=C5 (show r.loops[j]?=some cl by rw[C7 hjl,hcl])
             have HLC:=C5 hlc
             clear hcl hlc
             have hbA:Below wr.heap.size wr (wr.alloc (.cells #[.int .i64 cl.loop,.string cl.gain] 136)):=(Below.refl _ _).alloc (C6 _) _
             have t0:=an wr #[.int .i64 cl.loop,.string cl.gain] 136 0 _ rfl
             have t1:=an wr #[.int .i64 cl.loop,.string cl.gain] 136 1 _ rfl
             have S4:=S3.below hbA
             have hta:wr.heap.size<(wr.alloc (.cells #[.int .i64 cl.loop,.string cl.gain] 136)).heap.size:=by simp
             have HPV:=C5 (fun j' (hj':j'<r.loops.length)=>(hbA.cell (p:=⟨lb,lo+j'*2,none⟩) hlb).trans (HLC.out j' hj').1)
             have hlbA:lb<(wr.alloc (.cells #[.int .i64 cl.loop,.string cl.gain] 136)).heap.size:=C8 hlb hbA.size
             clear HLC hbA S3
             go_wp2_with fail
             generalize wr.alloc (.cells #[.int .i64 cl.loop,.string cl.gain] 136)=wa at S4 t0 t1 hta HPV hlbA ⊢
             cases hv1:(decide (0≤cl.loop)&&decide (cl.loop≤7))
             ·have HLS:=C5 (cD hjl (dV HND.out (by rw[hv1];rfl)))
              have HV1:=C5 hv1
              clear hv1 m0 m1
              have y1:=ay hta t0
              have y2:=ay hta t1
              have HM:=C5 (show aQ wa 49 #[.int .i64 cl.loop,.int .i64 0,.int .i64 7] ((.bool false)) from fun x=>(dq _ _ _ x.w).mono (fun e w' h=>Exists.elim h (fun bb h=>⟨by rw[h.1,←h.2.1.out,HV1.out],x,h.2.2.symm⟩)))
              clear t0 t1
              refine ai (by kernel_rfl) (by kernel_rfl) ?_
              repeat (go_big_quiet_step (((go_at_call 49;exact HM.out _))))
              refine wpQuiet_nil ?_
              rintro _ ⟨⟨w2,hbN⟩,rfl⟩
              clear HM y1 y2
              have S6:=S4.below hbN
              clear hbN S4
              go_wp2
              go_ret
              exact⟨false,rfl,by unfold Hid bN;rw[HLS.out];simp,S6.bl⟩
             ·cases hv2:dz cl.gain.data.toList
              ·have HLS:=C5 (cD hjl (dV HND.out (by rw[hv1,hv2];rfl)))
               have HV1:=C5 hv1
               have HV2:=C5 hv2
               clear hv1 hv2 m0 m1
               have y1:=ay hta t0
               have y2:=ay hta t1
               have HM:=C5 (show aQ wa 49 #[.int .i64 cl.loop,.int .i64 0,.int .i64 7] ((.bool true)) from fun x=>(dq _ _ _ x.w).mono (fun e w' h=>Exists.elim h (fun bb h=>⟨by rw[h.1,←h.2.1.out,HV1.out],x,h.2.2.symm⟩)))
               have HN:=C5 (show aQ wa 92 #[.string cl.gain] ((.bool false)) from fun x=>ax.calls ((lT cl.gain x.w (S4.gx.below x.h)).mono (fun e w' h=>Exists.elim h (fun bb h=>⟨by rw[h.1,←h.2.1.out,HV2.out],h.2.2⟩))))
               clear t0 t1
               refine ai (by kernel_rfl) (by kernel_rfl) ?_
               repeat (go_big_quiet_step ((first | (go_at_call 49;exact HM.out _) | (go_at_call 92;exact HN.out _))))
               refine wpQuiet_nil ?_
               rintro _ ⟨⟨w2,hbN⟩,rfl⟩
               clear HM y1 y2 HN
               have S6:=S4.below hbN
               clear hbN S4
               go_wp2
               go_ret
               exact⟨false,rfl,by unfold Hid bN;rw[HLS.out];simp,S6.bl⟩
              ·have HV1:=C5 hv1
               have HV2:=C5 hv2
               clear hv1 hv2 m0 m1
               rcases DQ j with rfl | hj0
               ·have HAT:=C5 (show dm r.loops 0=true by rw[fT HND.out,HV1.out,HV2.out];rfl)
                have y1:=ay hta t0
                have y2:=ay hta t1
                have HM:=C5 (show aQ wa 49 #[.int .i64 cl.loop,.int .i64 0,.int .i64 7] ((.bool true)) from fun x=>(dq _ _ _ x.w).mono (fun e w' h=>Exists.elim h (fun bb h=>⟨by rw[h.1,←h.2.1.out,HV1.out],x,h.2.2.symm⟩)))
                have HN:=C5 (show aQ wa 92 #[.string cl.gain] ((.bool true)) from fun x=>ax.calls ((lT cl.gain x.w (S4.gx.below x.h)).mono (fun e w' h=>Exists.elim h (fun bb h=>⟨by rw[h.1,←h.2.1.out,HV2.out],h.2.2⟩))))
                clear t0 t1
                refine ai (by kernel_rfl) (by kernel_rfl) ?_
                repeat (go_big_quiet_step ((first | (go_at_call 49;exact HM.out _) | (go_at_call 92;exact HN.out _))))
                refine wpQuiet_nil ?_
                rintro _ ⟨⟨w2,hbN⟩,rfl⟩
                clear HM y1 y2 HN
                have S6:=S4.below hbN
                clear hbN S4
                go_wp2
                go_roundw
                case rel=>exact⟨1,by go_num,by omega,S6,bG hx.out HAT.out⟩
                case measure=>simp[intOf];omega
               ·obtain⟨j,rfl⟩:∃ j',j=j'+1:=⟨j-1,by omega⟩
                clear hj0
                obtain⟨pd,hpd⟩:∃ pd,pd=r.loops[j]:=⟨_,rfl⟩
                have hpv:=HPV.out j (by omega)
                rw[←hpd] at hpv
                have HPD:=C5 (show r.loops[j]?=some pd by rw[C7 (by omega),hpd])
                clear hpd
                by_cases hle:cl.loop≤pd.loop
                ·have hge:decide (cl.loop≤pd.loop)=true:=decide_eq_true hle
                 have HLS:=C5 (cD hjl (show dm r.loops (j+1)=false by rw[dA HND.out HPD.out,hge];simp))
                 clear hle
                 have y1:=ay hta t0
                 have y2:=ay hta t1
                 have y3:=ay S4.lt S4.r6
                 have y4:=ay hlbA hpv
                 have HM:=C5 (show aQ wa 49 #[.int .i64 cl.loop,.int .i64 0,.int .i64 7] ((.bool true)) from fun x=>(dq _ _ _ x.w).mono (fun e w' h=>Exists.elim h (fun bb h=>⟨by rw[h.1,←h.2.1.out,HV1.out],x,h.2.2.symm⟩)))
                 have HN:=C5 (show aQ wa 92 #[.string cl.gain] ((.bool true)) from fun x=>ax.calls ((lT cl.gain x.w (S4.gx.below x.h)).mono (fun e w' h=>Exists.elim h (fun bb h=>⟨by rw[h.1,←h.2.1.out,HV2.out],h.2.2⟩))))
                 clear t0 t1 hpv
                 refine ai (by kernel_rfl) (by kernel_rfl) ?_
                 repeat (go_big_quiet_step ((first | (go_at_call 49;exact HM.out _) | (go_at_call 92;exact HN.out _))))
                 refine wpQuiet_nil ?_
                 rintro _ ⟨⟨w2,hbN⟩,rfl⟩
                 clear HM y1 y2 HN y3 y4
                 have S6:=S4.below hbN
                 clear hbN S4
                 go_wp2
                 go_ret
                 exact⟨false,rfl,by unfold Hid bN;rw[HLS.out];simp,S6.bl⟩
                ·have hge:decide (cl.loop≤pd.loop)=false:=decide_eq_false hle
                 have HAT:=C5 (show dm r.loops (j+1)=true by rw[dA HND.out HPD.out,hge,HV1.out,HV2.out];rfl)
                 clear hle
                 have y1:=ay hta t0
                 have y2:=ay hta t1
                 have y3:=ay S4.lt S4.r6
                 have y4:=ay hlbA hpv
                 have HM:=C5 (show aQ wa 49 #[.int .i64 cl.loop,.int .i64 0,.int .i64 7] ((.bool true)) from fun x=>(dq _ _ _ x.w).mono (fun e w' h=>Exists.elim h (fun bb h=>⟨by rw[h.1,←h.2.1.out,HV1.out],x,h.2.2.symm⟩)))
                 have HN:=C5 (show aQ wa 92 #[.string cl.gain] ((.bool true)) from fun x=>ax.calls ((lT cl.gain x.w (S4.gx.below x.h)).mono (fun e w' h=>Exists.elim h (fun bb h=>⟨by rw[h.1,←h.2.1.out,HV2.out],h.2.2⟩))))
                 clear t0 t1 hpv
                 refine ai (by kernel_rfl) (by kernel_rfl) ?_
                 repeat (go_big_quiet_step ((first | (go_at_call 49;exact HM.out _) | (go_at_call 92;exact HN.out _))))
                 refine wpQuiet_nil ?_
                 rintro _ ⟨⟨w2,hbN⟩,rfl⟩
                 clear HM y1 y2 HN y3 y4
                 have S6:=S4.below hbN
                 clear hbN S4
                 go_wp2
                 go_roundw
                 case rel=>exact⟨j+1+1,by go_num,by omega,S6,bG hx.out HAT.out⟩
                 case measure=>simp[intOf];omega
            ·have hje:j=r.loops.length:=by omega
             subst hje
             clear hjl hj
             have HLS:=C5 (show eJ r.loops=true from hx.out)
             clear hx
             go_wp2
             go_ret
             exact⟨true,rfl,by unfold Hid bN;rw[HSELF.out,HW.out,HNS.out,HLS.out];rfl,S3.bl⟩
        ·have HW:=C5 hbw.out
         clear hbw
         go_wp2
         go_ret
         exact⟨false,rfl,by unfold Hid bN;rw[HW.out];simp,S3.bl⟩
      ·have HZ0:=C5 hz0
       by_cases hn:r.next.toList=[]
       ·have y1:(r.next.toList == [])=true:=by simp[hn]
        have y2:(r.next.toList != [])=false:=by simp[hn]
        have HN0:=C5 hn
        clear hn
        have r1:=S2.r1
        have HNX:=C5 (show r.next.data.toList=[]∨0≤aE g.rungs r.next.data.toList from Or.inl (by rw[←aj];exact HN0.out))
        have r5:=S2.r5
        rcases (by omega:(zb<0)∨(0<zb)) with h | h
        ·have hA:decide (zb<0)=true:=by simp;omega
         have HW:=C5 (show bV g.rungs 0 r=false from jI (by rw[hzb.out];exact h))
         clear h
         go_wp2
         go_ret
         exact⟨false,rfl,by unfold Hid bN;rw[HW.out];simp,S2.bl⟩
        ·have hA:decide (zb<0)=false:=by simp;omega
         have hB:decide ((0:Int)≤zb)=true:=by simp;omega
         have hE:(zb == 0)=false:=by simp;omega
         have hE2:(zb != 0)=true:=by simp;omega
         have HW:=C5 (show bV g.rungs 0 r=false from jK rfl (Or.inl (by rw[hzb.out];exact HZ0.out)))
         clear h
         go_wp2
         go_ret
         exact⟨false,rfl,by unfold Hid bN;rw[HW.out];simp,S2.bl⟩
       ·have y1:(r.next.toList == [])=false:=by simpa using hn
        have y2:(r.next.toList != [])=true:=by simpa using hn
        have HN0:=C5 hn
        clear hn
        have r1:=S2.r1;have g0:=S2.g0;have g1:=S2.g1
        go_wp2_with fail
        refine (jZ g.name _ cq g.rungs r.next _ S2.R hgl).mono ?_
        rintro e w5 ⟨zn,rfl,hzn,hb5⟩
        have S5:=S2.below hb5
        clear S2 hb5 r1 g0 g1
        by_cases hzn0:zn<0
        ·have x1:decide (zn<0)=true:=by simp;omega
         have HW:=C5 (show bV g.rungs 0 r=false from lP (by rw[←aj];exact HN0.out) (by rw[hzn.out];exact hzn0))
         clear hzn0
         go_wp2
         go_ret
         exact⟨false,rfl,by unfold Hid bN;rw[HW.out];simp,S5.bl⟩
        ·have x1:decide (zn<0)=false:=by simp;omega
         have HZN:=C5 hzn0
         clear hzn0
         have HNX:=C5 (show r.next.data.toList=[]∨0≤aE g.rungs r.next.data.toList from Or.inr (by rw[hzn.out];exact Int.not_lt.1 HZN.out))
         have r5:=S5.r5
         rcases (by omega:(zb<0)∨(0<zb)) with h | h
         ·have hA:decide (zb<0)=true:=by simp;omega
          have HW:=C5 (show bV g.rungs 0 r=false from jI (by rw[hzb.out];exact h))
          clear h
          go_wp2
          go_ret
          exact⟨false,rfl,by unfold Hid bN;rw[HW.out];simp,S5.bl⟩
         ·have hA:decide (zb<0)=false:=by simp;omega
          have hB:decide ((0:Int)≤zb)=true:=by simp;omega
          have hE:(zb == 0)=false:=by simp;omega
          have hE2:(zb != 0)=true:=by simp;omega
          have HW:=C5 (show bV g.rungs 0 r=false from jK rfl (Or.inl (by rw[hzb.out];exact HZ0.out)))
          clear h
          go_wp2
          go_ret
          exact⟨false,rfl,by unfold Hid bN;rw[HW.out];simp,S5.bl⟩
     ·skip
      go_upto_region 6 with fail
      go_cut [88] from 52 to 88 (fun s88 wx=>∃ bw:Bool,s88=.bool bw∧Hid (bV g.rungs k r=!bw)∧Hid (bw=false→r.next.data.toList=[]∨0≤aE g.rungs r.next.data.toList)∧RSt w wx w.heap.size gs (some ⟨bg,og,none⟩) c g (some ⟨b,o,none⟩) cq r q1 c1 q2 c2)
      case first =>
       by_cases hn:r.next.toList=[]
       ·have y1:(r.next.toList == [])=true:=by simp[hn]
        have y2:(r.next.toList != [])=false:=by simp[hn]
        have HN0:=C5 hn
        clear hn
        have r1:=S2.r1
        have HNX:=C5 (show r.next.data.toList=[]∨0≤aE g.rungs r.next.data.toList from Or.inl (by rw[←aj];exact HN0.out))
        have r5:=S2.r5
        rcases (by omega:(zb<0)∨(0≤zb∧(k:Int)≤zb)∨(0≤zb∧zb<(k:Int))) with h | h | h
        ·have hA:decide (zb<0)=true:=by simp;omega
         have HW:=C5 (show bV g.rungs k r=false from jI (by rw[hzb.out];exact h))
         clear h
         go_wp2
         go_meet
         exact⟨true,rfl,HW.out,fun _=>HNX.out,S2⟩
        ·have hA:decide (zb<0)=false:=by simp;omega
         have hB:decide ((k:Int)≤zb)=true:=by simp;omega
         have hC:decide ((0:Int)<(k:Int))=true:=by simp;omega
         have hD:((k:Int) == 0)=false:=by simp;omega
         have HW:=C5 (show bV g.rungs k r=false from vo (by rw[hzb.out];exact h.2) hk0)
         clear h
         go_wp2
         go_meet
         exact⟨true,rfl,HW.out,fun _=>HNX.out,S2⟩
        ·have hA:decide (zb<0)=false:=by simp;omega
         have hB:decide ((k:Int)≤zb)=false:=by simp;omega
         have hC:decide ((0:Int)<(k:Int))=true:=by simp;omega
         have hD:((k:Int) == 0)=false:=by simp;omega
         have HW:=C5 (show bV g.rungs k r=true from jJ HNX.out (by rw[hzb.out];exact h.1) (Or.inr ⟨hk0,by rw[hzb.out];exact h.2⟩))
         clear h
         go_wp2
         go_meet
         exact⟨false,rfl,HW.out,fun _=>HNX.out,S2⟩
       ·have y1:(r.next.toList == [])=false:=by simpa using hn
        have y2:(r.next.toList != [])=true:=by simpa using hn
        have HN0:=C5 hn
        clear hn
        have r1:=S2.r1;have g0:=S2.g0;have g1:=S2.g1
        go_wp2_with fail
        refine (jZ g.name _ cq g.rungs r.next _ S2.R hgl).mono ?_
        rintro e w5 ⟨zn,rfl,hzn,hb5⟩
        have S5:=S2.below hb5
        clear S2 hb5 r1 g0 g1
        by_cases hzn0:zn<0
        ·have x1:decide (zn<0)=true:=by simp;omega
         have HW:=C5 (show bV g.rungs k r=false from lP (by rw[←aj];exact HN0.out) (by rw[hzn.out];exact hzn0))
         clear hzn0
         go_wp2
         go_meet
         exact⟨true,rfl,HW.out,(fun h=>by cases h),S5⟩
        ·have x1:decide (zn<0)=false:=by simp;omega
         have HZN:=C5 hzn0
         clear hzn0
         have HNX:=C5 (show r.next.data.toList=[]∨0≤aE g.rungs r.next.data.toList from Or.inr (by rw[hzn.out];exact Int.not_lt.1 HZN.out))
         have r5:=S5.r5
         rcases (by omega:(zb<0)∨(0≤zb∧(k:Int)≤zb)∨(0≤zb∧zb<(k:Int))) with h | h | h
         ·have hA:decide (zb<0)=true:=by simp;omega
          have HW:=C5 (show bV g.rungs k r=false from jI (by rw[hzb.out];exact h))
          clear h
          go_wp2
          go_meet
          exact⟨true,rfl,HW.out,fun _=>HNX.out,S5⟩
         ·have hA:decide (zb<0)=false:=by simp;omega
          have hB:decide ((k:Int)≤zb)=true:=by simp;omega
          have hC:decide ((0:Int)<(k:Int))=true:=by simp;omega
          have hD:((k:Int) == 0)=false:=by simp;omega
          have HW:=C5 (show bV g.rungs k r=false from vo (by rw[hzb.out];exact h.2) hk0)
          clear h
          go_wp2
          go_meet
          exact⟨true,rfl,HW.out,fun _=>HNX.out,S5⟩
         ·have hA:decide (zb<0)=false:=by simp;omega
          have hB:decide ((k:Int)≤zb)=false:=by simp;omega
          have hC:decide ((0:Int)<(k:Int))=true:=by simp;omega
          have hD:((k:Int) == 0)=false:=by simp;omega
          have HW:=C5 (show bV g.rungs k r=true from jJ HNX.out (by rw[hzb.out];exact h.1) (Or.inr ⟨hk0,by rw[hzb.out];exact h.2⟩))
          clear h
          go_wp2
          go_meet
          exact⟨false,rfl,HW.out,fun _=>HNX.out,S5⟩
      case rest =>
       obtain⟨bw,rfl,hbw,hnx,S3⟩:=hcut
       clear S2
       cases bw
       ·have HW:=C5 hbw.out
        have HNX:=C5 (hnx.out rfl)
        clear hbw hnx
        have r5:=S3.r5
        have hnl:((r.needs.length:Nat):Int)≤1000000000000000:=by have:=HFR.out.needs;omega
        go_wp2_with fail
        go_loopw [92] (fun s92 wx=>∃ j:Nat,s92=.int .i64 j∧j≤r.needs.length∧RSt w wx w.heap.size gs (some ⟨bg,og,none⟩) c g (some ⟨b,o,none⟩) cq r q1 c1 q2 c2∧Hid ((List.range j).all (de gs i r.needs)=true)) (fun s92 _=>r.needs.length-(intOf s92).toNat)
        case atStart=>exact⟨0,rfl,by omega,S3,rfl⟩
        case round =>
         clear S3 r5
         obtain⟨j,rfl,hj,S3,hx⟩:=hrel
         by_cases hjl:j<r.needs.length
         ·obtain⟨nb,no,rfl,hnb,hnc⟩:=S3.N.at_ (by omega)
          obtain⟨qn,cn,m0,m1,hWn⟩:=hnc j hjl
          obtain⟨nd,hnd⟩:∃ nd,nd=r.needs[j]:=⟨_,rfl⟩
          rw[←hnd] at m0 m1 hWn
          have HND:=C5 (show r.needs[j]?=some nd by rw[C7 hjl,hnd])
          have hnn:nd.rungs.length≤1000000000000000:=HFR.out.names nd (by rw[hnd];exact Dt hjl)
          have HNC:=C5 hnc
          clear hnd hnc
          have hbA:Below wr.heap.size wr (wr.alloc (.cells #[.int .i64 nd.guard,.slice qn nd.rungs.length cn] 65)):=(Below.refl _ _).alloc (C6 _) _
          have t0:=an wr #[.int .i64 nd.guard,.slice qn nd.rungs.length cn] 65 0 _ rfl
          have t1:=an wr #[.int .i64 nd.guard,.slice qn nd.rungs.length cn] 65 1 _ rfl
          have S4:=S3.below hbA
          have HW4:=C5 (hWn.below hbA)
          have hta:wr.heap.size<(wr.alloc (.cells #[.int .i64 nd.guard,.slice qn nd.rungs.length cn] 65)).heap.size:=by simp
          have HPV:=C5 (fun j' (hj':j'<r.needs.length)=>(hbA.cell (p:=⟨nb,no+j'*2,none⟩) hnb).trans (Exists.elim (HNC.out j' hj') (fun _ h=>Exists.elim h (fun _ h=>h.1))))
          have hnbA:nb<(wr.alloc (.cells #[.int .i64 nd.guard,.slice qn nd.rungs.length cn] 65)).heap.size:=C8 hnb hbA.size
          clear HNC hWn hbA S3
          go_wp2_with fail
          generalize wr.alloc (.cells #[.int .i64 nd.guard,.slice qn nd.rungs.length cn] 65)=wa at S4 HW4 t0 t1 hta HPV hnbA ⊢
          have s0:=S4.s0
          cases hns:dZ gs i nd
          ·have HNS:=C5 (dj (gs:=gs) (g:=i) hjl (fK HND.out hns))
           have HNS0:=C5 hns
           clear hns m0 m1
           have y0:=ay (by have:=S4.lt;show w.heap.size<_;omega) S4.s0
           have y1:=ay hta t0
           have y2:=ay hta t1
           have HN:=C5 (show aQ wa 91 #[.agg #[.slice (some ⟨bg,og,none⟩) gs.length c],.int .i64 i,.agg #[.int .i64 nd.guard,.slice qn nd.rungs.length cn]] ((.bool false)) from fun x=>ax.calls ((l8 gs _ c i nd.guard qn cn nd.rungs x.w (S4.G.below x.h) (HW4.out.below x.h) (Dw hi) hfew (fun y hy=>HRS.out y (Dw hy)) hnn).mono (fun e w' h=>Exists.elim h (fun bb h=>⟨by rw[h.1,←h.2.1.out,HNS0.out],h.2.2⟩))))
           clear s0 t0 t1
           refine ai (by kernel_rfl) (by kernel_rfl) ?_
           repeat (go_big_quiet_step ((go_at_call 91;exact HN.out _)))
           refine wpQuiet_nil ?_
           rintro _ ⟨⟨w2,hbN⟩,rfl⟩
           clear HN y0 y1 y2
           have S6:=S4.below hbN
           clear hbN S4
           go_wp2
           go_ret
           exact⟨false,rfl,by unfold Hid bN;rw[HNS.out];simp,S6.bl⟩
          ·have HNS0:=C5 hns
           clear hns m0 m1
           rcases DQ j with rfl | hj0
           ·have HAT:=C5 (show de gs i r.needs 0=true by rw[fV HND.out];exact HNS0.out)
            have y0:=ay (by have:=S4.lt;show w.heap.size<_;omega) S4.s0
            have y1:=ay hta t0
            have y2:=ay hta t1
            have HN:=C5 (show aQ wa 91 #[.agg #[.slice (some ⟨bg,og,none⟩) gs.length c],.int .i64 i,.agg #[.int .i64 nd.guard,.slice qn nd.rungs.length cn]] ((.bool true)) from fun x=>ax.calls ((l8 gs _ c i nd.guard qn cn nd.rungs x.w (S4.G.below x.h) (HW4.out.below x.h) (Dw hi) hfew (fun y hy=>HRS.out y (Dw hy)) hnn).mono (fun e w' h=>Exists.elim h (fun bb h=>⟨by rw[h.1,←h.2.1.out,HNS0.out],h.2.2⟩))))
            clear s0 t0 t1
            refine ai (by kernel_rfl) (by kernel_rfl) ?_
            repeat (go_big_quiet_step ((go_at_call 91;exact HN.out _)))
            refine wpQuiet_nil ?_
            rintro _ ⟨⟨w2,hbN⟩,rfl⟩
            clear HN y0 y1 y2
            have S6:=S4.below hbN
            clear hbN S4
            go_wp2
            go_roundw
            case rel=>exact⟨1,by go_num,by omega,S6,bG hx.out HAT.out⟩
            case measure=>simp[intOf];omega
           ·obtain⟨j,rfl⟩:∃ j',j=j'+1:=⟨j-1,by omega⟩
            clear hj0
            obtain⟨pd,hpd⟩:∃ pd,pd=r.needs[j]:=⟨_,rfl⟩
            have hpv:=HPV.out j (by omega)
            rw[←hpd] at hpv
            have HPD:=C5 (show r.needs[j]?=some pd by rw[C7 (by omega),hpd])
            clear hpd
            by_cases hle:nd.guard≤pd.guard
            ·have hge:decide (nd.guard≤pd.guard)=true:=decide_eq_true hle
             have HNS:=C5 (dj (gs:=gs) (g:=i) hjl (show de gs i r.needs (j+1)=false by rw[dB HND.out HPD.out,hge];simp))
             clear hle
             have y0:=ay (by have:=S4.lt;show w.heap.size<_;omega) S4.s0
             have y1:=ay hta t0
             have y2:=ay hta t1
             have y3:=ay S4.lt S4.r5
             have y4:=ay hnbA hpv
             have HN:=C5 (show aQ wa 91 #[.agg #[.slice (some ⟨bg,og,none⟩) gs.length c],.int .i64 i,.agg #[.int .i64 nd.guard,.slice qn nd.rungs.length cn]] ((.bool true)) from fun x=>ax.calls ((l8 gs _ c i nd.guard qn cn nd.rungs x.w (S4.G.below x.h) (HW4.out.below x.h) (Dw hi) hfew (fun y hy=>HRS.out y (Dw hy)) hnn).mono (fun e w' h=>Exists.elim h (fun bb h=>⟨by rw[h.1,←h.2.1.out,HNS0.out],h.2.2⟩))))
             clear s0 t0 t1 hpv
             refine ai (by kernel_rfl) (by kernel_rfl) ?_
             repeat (go_big_quiet_step ((go_at_call 91;exact HN.out _)))
             refine wpQuiet_nil ?_
             rintro _ ⟨⟨w2,hbN⟩,rfl⟩
             clear HN y0 y1 y2 y3 y4
             have S6:=S4.below hbN
             clear hbN S4
             go_wp2
             go_ret
             exact⟨false,rfl,by unfold Hid bN;rw[HNS.out];simp,S6.bl⟩
            ·have hge:decide (nd.guard≤pd.guard)=false:=decide_eq_false hle
             have HAT:=C5 (show de gs i r.needs (j+1)=true by rw[dB HND.out HPD.out,hge,HNS0.out];rfl)
             clear hle
             have y0:=ay (by have:=S4.lt;show w.heap.size<_;omega) S4.s0
             have y1:=ay hta t0
             have y2:=ay hta t1
             have y3:=ay S4.lt S4.r5
             have y4:=ay hnbA hpv
             have HN:=C5 (show aQ wa 91 #[.agg #[.slice (some ⟨bg,og,none⟩) gs.length c],.int .i64 i,.agg #[.int .i64 nd.guard,.slice qn nd.rungs.length cn]] ((.bool true)) from fun x=>ax.calls ((l8 gs _ c i nd.guard qn cn nd.rungs x.w (S4.G.below x.h) (HW4.out.below x.h) (Dw hi) hfew (fun y hy=>HRS.out y (Dw hy)) hnn).mono (fun e w' h=>Exists.elim h (fun bb h=>⟨by rw[h.1,←h.2.1.out,HNS0.out],h.2.2⟩))))
             clear s0 t0 t1 hpv
             refine ai (by kernel_rfl) (by kernel_rfl) ?_
             repeat (go_big_quiet_step ((go_at_call 91;exact HN.out _)))
             refine wpQuiet_nil ?_
             rintro _ ⟨⟨w2,hbN⟩,rfl⟩
             clear HN y0 y1 y2 y3 y4
             have S6:=S4.below hbN
             clear hbN S4
             go_wp2
             go_roundw
             case rel=>exact⟨j+1+1,by go_num,by omega,S6,bG hx.out HAT.out⟩
             case measure=>simp[intOf];omega
         ·have hje:j=r.needs.length:=by omega
          subst hje
          clear hjl hj
          have HNS:=C5 (show ez gs i r.needs=true from hx.out)
          clear hx
          have r6:=S3.r6
          have hll:((r.loops.length:Nat):Int)≤1000000000000000:=by have:=HFR.out.loops;omega
          go_wp2_with fail
          go_loopw [122] (fun s122 wx=>∃ j:Nat,s122=.int .i64 j∧j≤r.loops.length∧RSt w wx w.heap.size gs (some ⟨bg,og,none⟩) c g (some ⟨b,o,none⟩) cq r q1 c1 q2 c2∧Hid ((List.range j).all (dm r.loops)=true)) (fun s122 _=>r.loops.length-(intOf s122).toNat)
          case atStart=>exact⟨0,rfl,by omega,S3,rfl⟩
          case round =>
           clear S3 r6
           obtain⟨j,rfl,hj,S3,hx⟩:=hrel
           by_cases hjl:j<r.loops.length
           ·obtain⟨lb,lo,rfl,hlb,hlc⟩:=S3.L.at_ (by omega)
            obtain⟨m0,m1⟩:=hlc j hjl
            obtain⟨cl,hcl⟩:∃ cl,cl=r.loops[j]:=⟨_,rfl⟩
            rw[←hcl] at m0 m1
            have HND:=C5 (show r.loops[j]?=some cl by rw[C7 hjl,hcl])
            have HLC:=C5 hlc
            clear hcl hlc
            have hbA:Below wr.heap.size wr (wr.alloc (.cells #[.int .i64 cl.loop,.string cl.gain] 136)):=(Below.refl _ _).alloc (C6 _) _
            have t0:=an wr #[.int .i64 cl.loop,.string cl.gain] 136 0 _ rfl
            have t1:=an wr #[.int .i64 cl.loop,.string cl.gain] 136 1 _ rfl
            have S4:=S3.below hbA
            have hta:wr.heap.size<(wr.alloc (.cells #[.int .i64 cl.loop,.string cl.gain] 136)).heap.size:=by simp
            have HPV:=C5 (fun j' (hj':j'<r.loops.length)=>(hbA.cell (p:=⟨lb,lo+j'*2,none⟩) hlb).trans (HLC.out j' hj').1)
            have hlbA:lb<(wr.alloc (.cells #[.int .i64 cl.loop,.string cl.gain] 136)).heap.size:=C8 hlb hbA.size
            clear HLC hbA S3
            go_wp2_with fail
            generalize wr.alloc (.cells #[.int .i64 cl.loop,.string cl.gain] 136)=wa at S4 t0 t1 hta HPV hlbA ⊢
            cases hv1:(decide (0≤cl.loop)&&decide (cl.loop≤7))
            ·have HLS:=C5 (cD hjl (dV HND.out (by rw[hv1];rfl)))
             have HV1:=C5 hv1
             clear hv1 m0 m1
             have y1:=ay hta t0
             have y2:=ay hta t1
             have HM:=C5 (show aQ wa 49 #[.int .i64 cl.loop,.int .i64 0,.int .i64 7] ((.bool false)) from fun x=>(dq _ _ _ x.w).mono (fun e w' h=>Exists.elim h (fun bb h=>⟨by rw[h.1,←h.2.1.out,HV1.out],x,h.2.2.symm⟩)))
             clear t0 t1
             refine ai (by kernel_rfl) (by kernel_rfl) ?_
             repeat (go_big_quiet_step (((go_at_call 49;exact HM.out _))))
             refine wpQuiet_nil ?_
             rintro _ ⟨⟨w2,hbN⟩,rfl⟩
             clear HM y1 y2
             have S6:=S4.below hbN
             clear hbN S4
             go_wp2
             go_ret
             exact⟨false,rfl,by unfold Hid bN;rw[HLS.out];simp,S6.bl⟩
            ·cases hv2:dz cl.gain.data.toList
             ·have HLS:=C5 (cD hjl (dV HND.out (by rw[hv1,hv2];rfl)))
              have HV1:=C5 hv1
              have HV2:=C5 hv2
              clear hv1 hv2 m0 m1
              have y1:=ay hta t0
              have y2:=ay hta t1
              have HM:=C5 (show aQ wa 49 #[.int .i64 cl.loop,.int .i64 0,.int .i64 7] ((.bool true)) from fun x=>(dq _ _ _ x.w).mono (fun e w' h=>Exists.elim h (fun bb h=>⟨by rw[h.1,←h.2.1.out,HV1.out],x,h.2.2.symm⟩)))
              have HN:=C5 (show aQ wa 92 #[.string cl.gain] ((.bool false)) from fun x=>ax.calls ((lT cl.gain x.w (S4.gx.below x.h)).mono (fun e w' h=>Exists.elim h (fun bb h=>⟨by rw[h.1,←h.2.1.out,HV2.out],h.2.2⟩))))
              clear t0 t1
              refine ai (by kernel_rfl) (by kernel_rfl) ?_
              repeat (go_big_quiet_step ((first | (go_at_call 49;exact HM.out _) | (go_at_call 92;exact HN.out _))))
              refine wpQuiet_nil ?_
              rintro _ ⟨⟨w2,hbN⟩,rfl⟩
              clear HM y1 y2 HN
              have S6:=S4.below hbN
              clear hbN S4
              go_wp2
              go_ret
              exact⟨false,rfl,by unfold Hid bN;rw[HLS.out];simp,S6.bl⟩
             ·have HV1:=C5 hv1
              have HV2:=C5 hv2
              clear hv1 hv2 m0 m1
              rcases DQ j with rfl | hj0
              ·have HAT:=C5 (show dm r.loops 0=true by rw[fT HND.out,HV1.out,HV2.out];rfl)
               have y1:=ay hta t0
               have y2:=ay hta t1
               have HM:=C5 (show aQ wa 49 #[.int .i64 cl.loop,.int .i64 0,.int .i64 7] ((.bool true)) from fun x=>(dq _ _ _ x.w).mono (fun e w' h=>Exists.elim h (fun bb h=>⟨by rw[h.1,←h.2.1.out,HV1.out],x,h.2.2.symm⟩)))
               have HN:=C5 (show aQ wa 92 #[.string cl.gain] ((.bool true)) from fun x=>ax.calls ((lT cl.gain x.w (S4.gx.below x.h)).mono (fun e w' h=>Exists.elim h (fun bb h=>⟨by rw[h.1,←h.2.1.out,HV2.out],h.2.2⟩))))
               clear t0 t1
               refine ai (by kernel_rfl) (by kernel_rfl) ?_
               repeat (go_big_quiet_step ((first | (go_at_call 49;exact HM.out _) | (go_at_call 92;exact HN.out _))))
               refine wpQuiet_nil ?_
               rintro _ ⟨⟨w2,hbN⟩,rfl⟩
               clear HM y1 y2 HN
               have S6:=S4.below hbN
               clear hbN S4
               go_wp2
               go_roundw
               case rel=>exact⟨1,by go_num,by omega,S6,bG hx.out HAT.out⟩
               case measure=>simp[intOf];omega
              ·obtain⟨j,rfl⟩:∃ j',j=j'+1:=⟨j-1,by omega⟩
               clear hj0
               obtain⟨pd,hpd⟩:∃ pd,pd=r.loops[j]:=⟨_,rfl⟩
               have hpv:=HPV.out j (by omega)
               rw[←hpd] at hpv
               have HPD:=C5 (show r.loops[j]?=some pd by rw[C7 (by omega),hpd])
               clear hpd
               by_cases hle:cl.loop≤pd.loop
               ·have hge:decide (cl.loop≤pd.loop)=true:=decide_eq_true hle
                have HLS:=C5 (cD hjl (show dm r.loops (j+1)=false by rw[dA HND.out HPD.out,hge];simp))
                clear hle
                have y1:=ay hta t0
                have y2:=ay hta t1
                have y3:=ay S4.lt S4.r6
                have y4:=ay hlbA hpv
                have HM:=C5 (show aQ wa 49 #[.int .i64 cl.loop,.int .i64 0,.int .i64 7] ((.bool true)) from fun x=>(dq _ _ _ x.w).mono (fun e w' h=>Exists.elim h (fun bb h=>⟨by rw[h.1,←h.2.1.out,HV1.out],x,h.2.2.symm⟩)))
                have HN:=C5 (show aQ wa 92 #[.string cl.gain] ((.bool true)) from fun x=>ax.calls ((lT cl.gain x.w (S4.gx.below x.h)).mono (fun e w' h=>Exists.elim h (fun bb h=>⟨by rw[h.1,←h.2.1.out,HV2.out],h.2.2⟩))))
                clear t0 t1 hpv
                refine ai (by kernel_rfl) (by kernel_rfl) ?_
                repeat (go_big_quiet_step ((first | (go_at_call 49;exact HM.out _) | (go_at_call 92;exact HN.out _))))
                refine wpQuiet_nil ?_
                rintro _ ⟨⟨w2,hbN⟩,rfl⟩
                clear HM y1 y2 HN y3 y4
                have S6:=S4.below hbN
                clear hbN S4
                go_wp2
                go_ret
                exact⟨false,rfl,by unfold Hid bN;rw[HLS.out];simp,S6.bl⟩
               ·have hge:decide (cl.loop≤pd.loop)=false:=decide_eq_false hle
                have HAT:=C5 (show dm r.loops (j+1)=true by rw[dA HND.out HPD.out,hge,HV1.out,HV2.out];rfl)
                clear hle
                have y1:=ay hta t0
                have y2:=ay hta t1
                have y3:=ay S4.lt S4.r6
                have y4:=ay hlbA hpv
                have HM:=C5 (show aQ wa 49 #[.int .i64 cl.loop,.int .i64 0,.int .i64 7] ((.bool true)) from fun x=>(dq _ _ _ x.w).mono (fun e w' h=>Exists.elim h (fun bb h=>⟨by rw[h.1,←h.2.1.out,HV1.out],x,h.2.2.symm⟩)))
                have HN:=C5 (show aQ wa 92 #[.string cl.gain] ((.bool true)) from fun x=>ax.calls ((lT cl.gain x.w (S4.gx.below x.h)).mono (fun e w' h=>Exists.elim h (fun bb h=>⟨by rw[h.1,←h.2.1.out,HV2.out],h.2.2⟩))))
                clear t0 t1 hpv
                refine ai (by kernel_rfl) (by kernel_rfl) ?_
                repeat (go_big_quiet_step ((first | (go_at_call 49;exact HM.out _) | (go_at_call 92;exact HN.out _))))
                refine wpQuiet_nil ?_
                rintro _ ⟨⟨w2,hbN⟩,rfl⟩
                clear HM y1 y2 HN y3 y4
                have S6:=S4.below hbN
                clear hbN S4
                go_wp2
                go_roundw
                case rel=>exact⟨j+1+1,by go_num,by omega,S6,bG hx.out HAT.out⟩
                case measure=>simp[intOf];omega
           ·have hje:j=r.loops.length:=by omega
            subst hje
            clear hjl hj
            have HLS:=C5 (show eJ r.loops=true from hx.out)
            clear hx
            go_wp2
            go_ret
            exact⟨true,rfl,by unfold Hid bN;rw[HSELF.out,HW.out,HNS.out,HLS.out];rfl,S3.bl⟩
       ·have HW:=C5 hbw.out
        clear hbw
        go_wp2
        go_ret
        exact⟨false,rfl,by unfold Hid bN;rw[HW.out];simp,S3.bl⟩
  ·have hd:(z1 == (k:Int))=false:=by simp[hzk]
   have hd2:(z1 != (k:Int))=true:=by simp[hzk]
   have HZ:=C5 hzk
   clear hzk
   go_wp2
   go_ret
   exact⟨false,rfl,by unfold Hid bN cS;rw[HBN.out,hz1.out,decide_eq_false HZ.out];rfl,S1.bl⟩
end Go.Proofs.YtnkgbocdpngldaaGreatDoor
