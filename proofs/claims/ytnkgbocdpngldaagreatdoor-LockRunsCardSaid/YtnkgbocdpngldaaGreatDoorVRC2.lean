/-
  Texts of this claim: RC2, RC3, Lru1.
-/
import Derived.Test.YtnkgbocdpngldaaGreatDoorVRun
import Derived.Test.YtnkgbocdpngldaaGreatDoorVRC1
import Derived.Test.YtnkgbocdpngldaaGreatDoorVA
set_option linter.unusedVariables false
set_option linter.unusedSimpArgs false
set_option maxRecDepth 100000
set_option maxHeartbeats 8000000

namespace Go.Proofs.YtnkgbocdpngldaaGreatDoor
open Go.RowKit Dc Dg
def fM (n:Nat) (w:World) (v:Value) (ss:List St):Prop:=∃ p c,v=.slice p ss.length c∧ss.length≤c∧(0<ss.length→∃ b o,p=some ⟨b,o,none⟩∧b<w.heap.size ∧
 ∀ i (h:i<ss.length),∃ u1 u2,w.cell? ⟨b,o+i*2,none⟩=some u1∧w.cell? ⟨b,o+i*2+1,none⟩=some u2∧aZ w u1 (atL n ss[i])∧aZ w u2 (aO n ss[i]))
theorem fM.below {n:Nat} {w w':World} {v:Value} {ss:List St} (h:fM n w v ss) (hb:Below w.heap.size w w'):fM n w' v ss:=by
 obtain ⟨p,c,e,hcap,hc⟩:=h
 refine ⟨p,c,e,hcap,fun hl=>?_⟩
 obtain ⟨b,o,e2,hlt,hi⟩:=hc hl
 refine ⟨b,o,e2,Cc hlt hb.size,fun i h2=>?_⟩
 obtain ⟨u1,u2,h3,h4,h5,h6⟩:=hi i h2
 exact ⟨u1,u2,(hb.cell (p:=⟨b,_,none⟩) hlt).trans h3,(hb.cell (p:=⟨b,_,none⟩) hlt).trans h4,h5.below hb,h6.below hb⟩
theorem fM.nil (n:Nat) (w:World):fM n w (.slice none 0 0) []:=⟨_,_,rfl,Ca _,fun h=>by simp at h⟩
theorem bM.v {B n:Nat} {w:World} {v:Value} {L:List (St×Value×Value)} {ss:List St} (h:bM B n w v L) (hm:L.map (·.1)=ss):fM n w v ss:=by
 subst hm
 obtain ⟨p,c,e⟩:=h.slice
 have hcap:L.length≤c:=by
  rcases h.row.2 with ⟨e1,hn⟩ | ⟨g,cap,cur,e1,hb,hg,h3⟩
  ·omega
  ·rw [e] at e1
   cases e1
   exact h3.1
 refine ⟨p,c,by simpa using e,by simpa using hcap,fun hl=>?_⟩
 obtain ⟨g,cap,e1,hgl,_,_,_,_⟩:=h.get (i:=0) (by simpa using hl)
 rw [e] at e1
 cases e1
 refine ⟨g,0,rfl,hgl,fun i hi=>?_⟩
 obtain ⟨g2,cap2,e1,_,s1,s2,i1,i2⟩:=h.get (i:=i) (by simpa using hi)
 rw [e] at e1
 cases e1
 exact ⟨_,_,s1,s2,by simpa using i1.q,by simpa using i2.q⟩
theorem qA:Tryz.prog.elem 36=41:=by kernel_rfl
theorem yV (w:World):(sizeOf 41).run Tryz.prog w=.ok 2 w:=by kernel_rfl
theorem tr {n:Nat} {w:World} {v:Value} {x:St} {ss:List St} (h:fM n w v (x :: ss)):∃ v',(Instr.slice 36 v (some (.int .i64 1)) none none).run Tryz.prog w=.ok v' w∧fM n w v' ss:=by
 obtain ⟨p,cap,rfl,hcp,hc⟩:=h
 simp only [Cn] at hcp
 obtain ⟨b,o,rfl,hb,hi⟩:=hc (by simp)
 have hr:=run_slice_l (P:=Tryz.prog) (w:=w) 36 (some ⟨b,o,none⟩) (ss.length+1) cap (by rw [qA];exact pQ) .i64 1 (by omega) (by omega)
 rw [qA,yV] at hr
 simp only [Result.andThen,sliced] at hr
 refine ⟨_,hr,?_⟩
 rw [show (1:Int).toNat=1 from rfl,show ss.length+1-1=ss.length from by omega]
 by_cases hcap:cap=1
 ·have hz:ss.length=0:=by omega
  exact ⟨_,_,rfl,by omega,fun h=>by omega⟩
 ·rw [if_neg hcap]
  refine ⟨_,_,rfl,by omega,fun _=>⟨b,o+2,by simp [Addr.add],hb,fun i h2=>?_⟩⟩
  obtain ⟨u1,u2,h3,h4,h5,h6⟩:=hi (i+1) (by simp;omega)
  refine ⟨u1,u2,?_,?_,by simpa using h5,by simpa using h6⟩
  ·rw [←h3,show o+2+i*2=o+(i+1)*2 from by omega]
  ·rw [←h4,show o+2+i*2=o+(i+1)*2 from by omega]
def Bu (w:World) (gs:List Gd) (l:List Ev) (e:Ending) (w':World):Prop :=
 Below w.heap.size w w'∧∃ v,e=.returned (.tuple #[v,.int .i64 (bD gs l)])∧fM gs.length w' v (cG gs l)
theorem Ba (gs:List Gd) (p:Option Addr) (c:Nat) (pe:Option Addr) (ne ce:Nat) (l:List Ev) (w:World) (hP:fk w p c gs) (hE:jx w (.slice pe ne ce) l) (hne:ne=l.length) (hlen:(l.length:Int)≤9223372036854775807) :
  Calls Tryz.prog 18 #[.agg #[.slice p gs.length c],.slice pe ne ce] w (Bu w gs l):=by
 have HNL:=B8 hne
 clear hne
 have hl:=bc w (.cells #[.slice p gs.length c] 24)
 have P1:=hP.below hl.below
 have E1:=hE.below hl.below
 clear hP hE
 go_enter Tryz.func18,Tryz.ntmps18
 go_upto_region 1 with fail
 generalize w.alloc (.cells #[.slice p gs.length c] 24)=w1 at *
 have x0:=aa hl.s0 0
 go_wp2_with fail
 refine (ui gs p c pe ne ce l w1 P1 E1 HNL.out hlen).mono ?_
 rintro e w2 ⟨hb2,hQ⟩
 have HB2:=hl.below.trans (hb2.mono hl.below.size)
 clear hl P1 E1 x0
 rcases hQ with ⟨hn,rfl⟩ | ⟨hpe,v,L,rfl,hst,hLm⟩
 ·obtain ⟨n,hnn⟩:∃ n,n=bD gs l:=⟨_,rfl⟩
  rw [←hnn] at hn ⊢
  have hd:(n != 0)=true:=by simp [hn]
  have HN:=B8 hnn
  have HNE:=B8 hn
  clear hnn hn
  go_wp2_with fail
  go_ret2
  refine ⟨HB2,_,by rw [←HN.out];rfl,?_⟩
  unfold cG
  rw [←HN.out,if_neg HNE.out]
  exact fM.nil _ _
 ·obtain ⟨qs,hqs,hqt,hql⟩:=lG (ai gs) St.zero l
  rw [hqs] at hLm
  have hrs:cG gs l=qs:=by unfold cG;rw [if_pos hpe,hqt]
  obtain ⟨qt,hsl,hqq⟩:=tr (hst.v hLm)
  have HRS:=B8 hrs
  have HPE:=B8 hpe
  have HQ:=B8 hqq
  have hsv:=hst.v hLm
  obtain ⟨pv,cv,ev,_,_⟩:=hsv
  obtain ⟨nq,hnq⟩:∃ nq,nq=(St.zero :: qs).length:=⟨_,rfl⟩
  rw [←hnq] at ev
  subst ev
  obtain ⟨pt,ct,et,_,_⟩:=hqq
  obtain ⟨nt,hnt⟩:∃ nt,nt=qs.length:=⟨_,rfl⟩
  rw [←hnt] at et
  subst et
  clear hrs hpe hst hLm hqs hqt hql hnq hnt
  go_wp2_with fail
  go_ret2
  refine ⟨HB2,_,by rw [HPE.out];rfl,?_⟩
  rw [HRS.out]
  exact HQ.out
def oG (gs:List Gd) (l:List Ev):Int:=if bD gs l=0 then fO (ai gs) St.zero l else 0
def AB (w:World) (gs:List Gd) (l:List Ev) (e:Ending) (w':World):Prop :=
 Below w.heap.size w w'∧e=.returned (.tuple #[.int .i64 (oG gs l),.int .i64 (bD gs l)])
theorem tf (gs:List Gd) (p:Option Addr) (c:Nat) (pe:Option Addr) (ne ce:Nat) (l:List Ev) (w:World) (hP:fk w p c gs) (hE:jx w (.slice pe ne ce) l) (hne:ne=l.length) (hlen:(l.length:Int)≤9223372036854775807) :
  Calls Tryz.prog 21 #[.agg #[.slice p gs.length c],.slice pe ne ce] w (AB w gs l):=by
 have HNL:=B8 hne
 clear hne
 have hl:=bc w (.cells #[.slice p gs.length c] 24)
 have P1:=hP.below hl.below
 have E1:=hE.below hl.below
 clear hP hE
 go_enter Tryz.func21,Tryz.ntmps21
 go_upto_region 1 with fail
 generalize w.alloc (.cells #[.slice p gs.length c] 24)=w1 at *
 have x0:=aa hl.s0 0
 go_wp2_with fail
 refine (ui gs p c pe ne ce l w1 P1 E1 HNL.out hlen).mono ?_
 rintro e w2 ⟨hb2,hQ⟩
 have HB2:=hl.below.trans (hb2.mono hl.below.size)
 clear hl P1 E1 x0
 rcases hQ with ⟨hn,rfl⟩ | ⟨hpe,v,L,rfl,hst,hLm⟩
 ·obtain ⟨n,hnn⟩:∃ n,n=bD gs l:=⟨_,rfl⟩
  rw [←hnn] at hn ⊢
  have HN:=B8 hnn
  have HNE:=B8 hn
  clear hnn hn
  go_wp2_with fail
  go_ret2
  refine ⟨HB2,?_⟩
  unfold oG
  rw [←HN.out,if_neg HNE.out];rfl
 ·have HPE:=B8 hpe
  clear hpe hst hLm
  go_wp2_with fail
  go_ret2
  refine ⟨HB2,?_⟩
  unfold oG
  rw [HPE.out,if_pos rfl];rfl
theorem rt (u1 u2 v1 v2:Value) (a1 a2 b1 b2:List Int) (w:World) (h1:aZ w u1 a1) (h2:aZ w u2 a2) (h3:aZ w v1 b1) (h4:aZ w v2 b2) (l1:a1.length≤1000000) (l2:a2.length≤1000000) (l3:b1.length≤1000000) (l4:b2.length≤1000000) :
  Calls Tryz.prog 19 #[.agg #[u1,u2],.agg #[v1,v2]] w fun e w'=>e=.returned (.bool (decide (a1=b1)&&decide (a2=b2)))∧Below w.heap.size w w':=by
 have hl:=iD w (.cells #[u1,u2] 41) (.cells #[v1,v2] 41)
 have i1:=h1.below hl.below;have i2:=h2.below hl.below;have i3:=h3.below hl.below;have i4:=h4.below hl.below
 obtain ⟨q1,c1,e1,_⟩:=h1.at_
 obtain ⟨q2,c2,e2,_⟩:=h2.at_
 obtain ⟨q3,c3,e3,_⟩:=h3.at_
 obtain ⟨q4,c4,e4,_⟩:=h4.at_
 generalize hn1:a1.length=n1 at e1
 generalize hn2:a2.length=n2 at e2
 generalize hn3:b1.length=n3 at e3
 generalize hn4:b2.length=n4 at e4
 clear hn1 hn2 hn3 hn4
 subst e1 e2 e3 e4
 clear h1 h2 h3 h4
 go_enter Tryz.func19,Tryz.ntmps19
 go_upto_region 1 with fail
 generalize (w.alloc (.cells #[.slice q1 n1 c1,.slice q2 n2 c2] 41)).alloc (.cells #[.slice q3 n3 c3,.slice q4 n4 c4] 41)=w1 at *
 have x0:=aa hl.s0 0;have x1:=aa hl.s0 1;have x2:=aa hl.s1 0;have x3:=aa hl.s1 1
 go_wp2_with fail
 refine (jj _ _ a1 b1 w1 i1 i3 l1 l3).mono ?_
 rintro e w2 ⟨rfl,hb2⟩
 have HB2:=hl.below.trans (hb2.mono hl.below.size)
 have r0:=(hb2.block _ (ac hl.s0)).trans hl.s0
 have r1:=(hb2.block _ (ac hl.s1)).trans hl.s1
 have j2:=i2.below hb2;have j4:=i4.below hb2
 clear x0 x1 x2 x3 i1 i2 i3 i4 hb2 hl
 have x1:=aa r0 1;have x3:=aa r1 1
 obtain ⟨b,hb⟩:∃ b,b=decide (a1=b1):=⟨_,rfl⟩
 rw [←hb]
 have HBB:=B8 hb
 clear hb
 clear r0 r1
 cases b
 ·go_wp2_with fail
  go_ret
  exact ⟨by rw [←HBB.out];rfl,HB2⟩
 ·go_wp2_with fail
  refine (jj _ _ a2 b2 w2 j2 j4 l2 l4).mono ?_
  rintro e w3 ⟨rfl,hb3⟩
  have HB3:=HB2.trans (hb3.mono HB2.size)
  clear j2 j4 hb3 x1 x3
  go_wp2_with fail
  go_ret
  exact ⟨by rw [←HBB.out];rfl,HB3⟩
end Go.Proofs.YtnkgbocdpngldaaGreatDoor

namespace Go.Proofs.YtnkgbocdpngldaaGreatDoor
open Go.RowKit Dc Dg
theorem AN {w:World} {b o:Nat} {z:St} {g:Nat} (hg:g<3) (h0:w.cell? ⟨b,o,none⟩=some (.int .i64 z.a0)) (h1:w.cell? ⟨b,o+1,none⟩=some (.int .i64 z.a1)) (h2:w.cell? ⟨b,o+2,none⟩=some (.int .i64 z.a2)):w.cell? ⟨b,o+g,none⟩=some (.int .i64 (z.a g)):=by
 match g,hg with
 | 0,_=>exact h0
 | 1,_=>exact h1
 | 2,_=>exact h2
theorem sT {gs:List Gd} {p:Option Addr} {w:World} (hG:a8 w p gs) {g k:Nat} (hg:g<gs.length) (hk:k<(ag gs g).length) :
  ∃ bg og b o cq nr,p=some ⟨bg,og,none⟩∧bg<w.heap.size∧b<w.heap.size∧k<nr∧w.cell? ⟨bg,og+g*2+1,none⟩=some (.slice (some ⟨b,o,none⟩) nr cq)∧w.cell? ⟨b,o+k*7+4,none⟩=some (.int .i64 (aM gs g k).minutes):=by
 obtain ⟨bg,og,rfl,hbg,hcg⟩:=hG.at_ (by omega)
 obtain ⟨q,cq,e0,e1,hR⟩:=hcg g hg
 have hra:ag gs g=gs[g].rungs:=by unfold ag;rw [Cb hg]
 rw [←hra] at e1 hR
 obtain ⟨b,o,rfl,hb,hcs⟩:=hR.at_ (by omega)
 obtain ⟨q1,c1,q2,c2,hr⟩:=hcs _ hk
 rw [←ky hk] at hr
 exact ⟨bg,og,b,o,cq,_,rfl,hbg,hb,hk,e1,hr.d4⟩
theorem yb (gs:List Gd) (p:Option Addr) (c:Nat) (pe:Option Addr) (ne ce:Nat) (l:List Ev) (w:World) (hP:fk w p c gs) (hE:jx w (.slice pe ne ce) l) (hne:ne=l.length) (hlen:(l.length:Int)≤9223372036854775807) :
  Calls Tryz.prog 20 #[.agg #[.slice p gs.length c],.slice pe ne ce] w (AB w gs l):=by
 have HNL:=B8 hne
 clear hne
 have hl:=bc w (.cells #[.slice p gs.length c] 24)
 have P1:=hP.below hl.below
 have E1:=hE.below hl.below
 have HP:=B8 hP
 have HE:=B8 hE
 clear hP hE
 go_enter Tryz.func20,Tryz.ntmps20
 go_upto_region 1 with fail
 generalize w.alloc (.cells #[.slice p gs.length c] 24)=w1 at *
 have x0:=aa hl.s0 0
 go_wp2_with fail
 refine (ug gs p c _ l w1 P1 E1 hlen).mono ?_
 rintro e w2 ⟨hb2,hQ⟩
 have r0:=(hb2.block _ (ac hl.s0)).trans hl.s0
 have HB2:=hl.below.trans (hb2.mono hl.below.size)
 clear hl P1 E1 x0
 rcases hQ with ⟨hn,rfl⟩ | ⟨hpe,mB,vn,vb,mb,Nm,sm,f,qv,rfl,_,hq⟩
 ·obtain ⟨n,hnn⟩:∃ n,n=bD gs l:=⟨_,rfl⟩
  rw [←hnn] at hn ⊢
  have hd:(n != 0)=true:=by simp [hn]
  have HN:=B8 hnn
  have HNE:=B8 hn
  clear hnn hn
  go_wp2_with fail
  go_ret2
  refine ⟨HB2,?_⟩
  unfold oG
  rw [←HN.out,if_neg HNE.out];rfl
 ·obtain ⟨hsy,hl2,hok⟩:bf gs=true∧l.length≤256∧fv gs l=true:=by
   unfold bD at hpe
   split at hpe
   ·rename_i h1
    split at hpe
    ·cases hpe
    ·split at hpe
     ·rename_i h2 h3;exact ⟨h1,by omega,h3⟩
     ·cases hpe
   ·cases hpe
  have GD:=B8 (bh hsy)
  obtain ⟨hn1,hn3⟩:=cQ hsy
  have HPE:=B8 hpe
  have HOK:=B8 hok
  have HSQ:=B8 hq
  have hne2:ne≤256:=by have:=HNL.out;omega
  have B0:Below w2.heap.size w2 w2:=Below.refl _ _
  obtain ⟨aq,cq,eq⟩:=hq.len
  obtain ⟨nq,hnq⟩:∃ nq,nq=(bj (ai gs) St.zero l).length:=⟨_,rfl⟩
  rw [←hnq] at eq
  have HNQ:Hid (nq=l.length+1):=by unfold Hid;rw [hnq,cS]
  have HNQ2:nq=ne+1:=by rw [HNQ.out,HNL.out]
  subst eq
  clear hpe hok hsy hl2 hq hnq
  have HNQ3:=B8 HNQ2
  clear HNQ2
  go_wp2_with fail
  go_loopw [9,24] (fun s9 s24 wx=>∃ (i:Nat) (sm:Int),s24=.int .i64 i∧s9=.int .i64 sm∧i≤ne∧0≤sm∧sm≤60*i∧Hid (sm=fO (ai gs) St.zero (l.take i))∧Below w2.heap.size w2 wx) (fun _ s24 _=>ne-(intOf s24).toNat)
  case atStart=>exact ⟨0,0,rfl,rfl,by omega,by omega,by omega,by rw [DM];rfl,B0⟩
  case round =>
   obtain ⟨i,sm,rfl,rfl,hi,hs0,hs1,HSM,hb⟩:=hrel
   by_cases hil:i<ne
   ·have hil2:i<l.length:=by have:=HNL.out;omega
    obtain ⟨be,oe,rfl,hbe,q0,q1⟩:=HE.out.getE hil2
    obtain ⟨t,ht⟩:∃ t:Ev,t=l[i]:=⟨_,rfl⟩
    rw [←ht] at q0 q1
    have HTK:Hid (l.take (i+1)=l.take i++[t]):=by unfold Hid;rw [CG,Cb hil2,ht];rfl
    obtain ⟨e1,e2,e3,e4⟩:=fA.1 (show dA (ai gs) t=true by rw [ht];exact Cr.1 HOK.out _ (Cs hil2))
    have e2:t.g<gs.length:=e2
    obtain ⟨g,hg⟩:∃ g:Nat,t.g=(g:Int):=⟨t.g.toNat,by omega⟩
    have HBW:=HB2.trans (hb.mono HB2.size)
    have q0:=(HBW.cell (p:=⟨be,_,none⟩) hbe).trans q0
    have q1:=(HBW.cell (p:=⟨be,_,none⟩) hbe).trans q1
    rw [hg] at q0 e2
    have hgl:g<gs.length:=by omega
    obtain ⟨z,hz⟩:∃ z,z=jY (ai gs) St.zero (l.take i):=⟨_,rfl⟩
    have hza:(ai gs).At z:=by rw [hz];exact pN GD.out _ _ (aD.At.zero GD.out) (fun v hv=>Cr.1 HOK.out v (DL hv))
    have hq:i<(bj (ai gs) St.zero l).length:=by rw [cS];omega
    have hzi:(bj (ai gs) St.zero l)[i]=z:=by
     have:=j5 (ai gs) l St.zero i (by omega)
     rw [Cb hq] at this
     rw [hz];exact Option.some.inj this
    obtain ⟨gq,oq,cq2,eqq,hgq,s0,s1,s2,s3,s4,s5⟩:=HSQ.out.get hq
    rw [hzi] at s0 s1 s2
    simp only [Value.slice.injEq] at eqq
    obtain ⟨rfl,hnn,rfl⟩:=eqq
    clear hnn s3 s4 s5
    have hs:=AN (g:=g) (by omega) s0 s1 s2
    obtain ⟨k,hk⟩:∃ k:Nat,z.a g=(k:Int):=⟨(z.a g).toNat,by have:=(hza.a g hgl).1;omega⟩
    have hkl:k<(ag gs g).length:=by have:=hza.a g hgl;have h2:(ai gs).rungs g=(ag gs g).length:=rfl;omega
    obtain ⟨bg,og,b,o,cr,nr,rfl,hbg,hbb,hkr,m1,m2⟩:=sT HP.out.G hgl hkl
    have hmn:=GD.out.mins g k hgl (by exact hkl)
    have HMN:Hid ((ai gs).mins t.g.toNat (z.a t.g.toNat).toNat=(aM gs g k).minutes):=by unfold Hid;rw [hg];show (ai gs).mins g (z.a g).toNat=_;rw [hk];rfl
    have hmn2:1≤(aM gs g k).minutes∧(aM gs g k).minutes≤60:=hmn
    obtain ⟨m,hm⟩:∃ m,m=(aM gs g k).minutes:=⟨_,rfl⟩
    rw [←hm] at m2 HMN hmn2
    rw [hk] at hs
    have hs:=(hb.cell (p:=⟨gq,_,none⟩) hgq).trans hs
    have m1:=(HBW.cell (p:=⟨bg,_,none⟩) hbg).trans m1
    have m2:=(HBW.cell (p:=⟨b,_,none⟩) hbb).trans m2
    have r0:=(hb.cell (p:=⟨w.heap.size,_,none⟩) (ac r0)).trans (aa r0 0)
    have HZ:=B8 hz
    have hrl:=Cc (ac (by assumption:w2.heap[w.heap.size]?=_)) hb.size
    have hgq2:=Cc hgq hb.size
    have hbe2:=Cc hbe HBW.size
    have hbg2:=Cc hbg HBW.size
    have hbb2:=Cc hbb HBW.size
    clear hz hza hq hzi s0 s1 s2 hmn hm ht e1 e3 e4 hg hk hkl
    have l5:=bc wr (.cells #[.int .i64 g,.int .i64 t.k] 53)
    have hiI:(i:Int)<(ne:Int):=by omega
    go_upto_region 8 with fail
    have x0:=(l5.below.cell (p:=⟨w.heap.size,0,none⟩) hrl).trans r0
    have x1:=(l5.below.cell (p:=⟨bg,_,none⟩) hbg2).trans m1
    have x2:=(l5.below.cell (p:=⟨b,_,none⟩) hbb2).trans m2
    have x3:=(l5.below.cell (p:=⟨gq,_,none⟩) hgq2).trans hs
    have x4:=aa l5.s0 0
    have HB6:=hb.trans (l5.below.mono hb.size)
    clear q0 q1 r0 m1 m2 hs l5 HBW hb
    generalize wr.alloc (.cells #[.int .i64 g,.int .i64 t.k] 53)=wa at *
    generalize wr.heap.size=ba at *
    have hgI:(g:Int)<(gs.length:Int):=by omega
    have hg3:(g:Int)<3:=by omega
    have hkI:(k:Int)<(nr:Int):=by omega
    have hiq:(i:Int)<(nq:Int):=by have:=HNQ3.out;omega
    have hws:IntKind.i64.wrap (sm+m)=sm+m:=IntWalk.i64_in _ (by omega)
    have HBD:=B8 (show 0≤sm+m∧sm+m≤60*(i+1:Nat) from ⟨by omega,by omega⟩)
    go_quiet (fail)
    clear hws hgI hg3 hkI hiq x0 x1 x2 x3 x4
    go_wp2_with fail
    go_roundw
    case rel=>exact ⟨i+1,sm+m,by first | rfl | go_num,rfl,by omega,HBD.out.1,HBD.out.2,by unfold Hid;rw [HTK.out,kT,←HZ.out,HMN.out,←HSM.out],below_drewN HB6 _⟩
    case measure=>simp [intOf];omega
   ·obtain rfl:i=ne:=by omega
    have HTK:Hid (l.take i=l):=by unfold Hid;rw [HNL.out,CH]
    rw [HTK.out] at HSM
    clear hil hi
    go_wp2
    go_ret2
    refine ⟨HB2.trans (hb.mono HB2.size),?_⟩
    unfold oG
    rw [HPE.out,if_pos rfl,←HSM.out];rfl
end Go.Proofs.YtnkgbocdpngldaaGreatDoor

namespace Go.Proofs.YtnkgbocdpngldaaGreatDoor
open Go.RowKit Dc Dg
def Bv (w:World) (e:Ending) (w':World):Prop:=e=.returned (.bool true)∧Below w.heap.size w w'
theorem rx {u1 u2 v1 v2:Value} {n:Nat} {x:St} {w:World} (h1:aZ w u1 (atL n x)) (h2:aZ w u2 (aO n x)) (h3:aZ w v1 (atL n x)) (h4:aZ w v2 (aO n x)) :
  Calls Tryz.prog 19 #[.agg #[u1,u2],.agg #[v1,v2]] w fun e w'=>e=.returned (.bool true)∧Below w.heap.size w w':=by
 have l1:(atL n x).length≤1000000:=by unfold atL;simp;omega
 have l2:(aO n x).length≤1000000:=by unfold aO;simp;omega
 refine (rt u1 u2 v1 v2 _ _ _ _ w h1 h2 h3 h4 l1 l2 l1 l2).mono ?_
 rintro e w' ⟨rfl,hb⟩
 exact ⟨by simp,hb⟩
theorem nZ (gs:List Gd) (l:List Ev):(cG gs l).length≤256:=by
 unfold cG
 by_cases h:bD gs l=0
 ·rw [if_pos h,Ez,cS]
  unfold bD at h
  split at h
  ·split at h
   ·cases h
   ·omega
  ·cases h
 ·rw [if_neg h]
  exact Cw _
theorem vp (gs:List Gd) (p:Option Addr) (c:Nat) (pe:Option Addr) (ne ce:Nat) (l:List Ev) (w:World) (hP:fk w p c gs) (hE:jx w (.slice pe ne ce) l) (hne:ne=l.length) (hlen:(l.length:Int)≤9223372036854775807) :
  Calls Tryz.prog 5 #[.agg #[.slice p gs.length c],.slice pe ne ce] w (Bv w):=by
 have HNL:=B8 hne
 clear hne
 have hl:=bc w (.cells #[.slice p gs.length c] 24)
 have P1:=hP.below hl.below
 have E1:=hE.below hl.below
 clear hP hE
 go_enter Tryz.func5,Tryz.ntmps5
 go_upto_region 1 with fail
 generalize w.alloc (.cells #[.slice p gs.length c] 24)=w1 at *
 have x0:=aa hl.s0 0
 go_wp2_with fail
 refine (runN gs p c _ l w1 P1 E1 hlen).mono ?_
 rintro e w2 ⟨hb2,v2,L2,rfl,hR2,hm2⟩
 have V2:=hR2.v hm2
 have P2:=P1.below hb2
 have E2:=E1.below hb2
 have r0:=(hb2.block _ (ac hl.s0)).trans hl.s0
 have HB2:=hl.below.trans (hb2.mono hl.below.size)
 clear hl P1 E1 x0 hR2 hm2 L2 hb2
 have x0:=aa r0 0
 obtain ⟨en,hen⟩:∃ en:Int,en=bD gs l:=⟨_,rfl⟩
 rw [←hen]
 have HEN:=B8 hen
 clear hen
 go_wp2_with fail
 refine (Ba gs p c pe ne ce l w2 P2 E2 HNL.out hlen).mono ?_
 rintro e w3 ⟨hb3,v3,rfl,V3⟩
 rw [←HEN.out]
 have V2:=V2.below hb3
 have P3:=P2.below hb3
 have E3:=E2.below hb3
 have q0:=(hb3.block _ (ac r0)).trans r0
 have HB3:=HB2.trans (hb3.mono HB2.size)
 clear P2 E2 hb3 r0 x0 HB2
 obtain ⟨p2,c2,rfl,_,C2⟩:=V2
 obtain ⟨p3,c3,rfl,_,C3⟩:=V3
 obtain ⟨ss,hss⟩:∃ ss,ss=cG gs l:=⟨_,rfl⟩
 rw [←hss] at C2 C3
 rw [←hss]
 have hnl:ss.length≤256:=by rw [hss];exact nZ gs l
 clear hss
 obtain ⟨n,hn⟩:∃ n,n=ss.length:=⟨_,rfl⟩
 rw [←hn] at hnl ⊢
 have HN:=B8 hn
 have HC2:=B8 C2
 have HC3:=B8 C3
 clear hn C2 C3
 have hd1:((n:Int) != (n:Int))=false:=by simp
 have hd2:(en != en)=false:=by simp
 have B0:Below w3.heap.size w3 w3:=Below.refl _ _
 go_wp2_with fail
 go_loopw [9] (fun s9 wx=>∃ i:Nat,s9=.int .i64 i∧i≤n∧Below w3.heap.size w3 wx) (fun s9 _=>n-(intOf s9).toNat)
 case atStart=>exact ⟨0,rfl,by omega,B0⟩
 case round =>
  obtain ⟨i,rfl,hi,hb⟩:=hrel
  by_cases hin:i<n
  ·have hil:i<ss.length:=by rw [←HN.out];exact hin
   obtain ⟨b2,o2,rfl,h2,hc2⟩:=HC2.out (by omega)
   obtain ⟨b3,o3,rfl,h3,hc3⟩:=HC3.out (by omega)
   obtain ⟨u1,u2,k1,k2,i1,i2⟩:=hc2 i hil
   obtain ⟨t1,t2,k3,k4,i3,i4⟩:=hc3 i hil
   clear hc2 hc3
   have i1:=i1.below hb;have i2:=i2.below hb;have i3:=i3.below hb;have i4:=i4.below hb
   have h2:=Cc h2 hb.size
   have h3:=Cc h3 hb.size
   have k1:=(hb.cell (p:=⟨b2,_,none⟩) (by assumption)).trans k1
   have k2:=(hb.cell (p:=⟨b2,_,none⟩) (by assumption)).trans k2
   have k3:=(hb.cell (p:=⟨b3,_,none⟩) (by assumption)).trans k3
   have k4:=(hb.cell (p:=⟨b3,_,none⟩) (by assumption)).trans k4
   have y1:∀ x:ah wr,x.w.cell? ⟨b2,o2+i*2,none⟩=some u1:=fun x=>(x.cell (p:=⟨b2,_,none⟩) h2).trans k1
   have y2:∀ x:ah wr,x.w.cell? ⟨b2,o2+i*2+1,none⟩=some u2:=fun x=>(x.cell (p:=⟨b2,_,none⟩) h2).trans k2
   have y3:∀ x:ah wr,x.w.cell? ⟨b3,o3+i*2,none⟩=some t1:=fun x=>(x.cell (p:=⟨b3,_,none⟩) h3).trans k3
   have y4:∀ x:ah wr,x.w.cell? ⟨b3,o3+i*2+1,none⟩=some t2:=fun x=>(x.cell (p:=⟨b3,_,none⟩) h3).trans k4
   have HI:Hid (∀ x:ah wr,Calls Tryz.prog 19 #[.agg #[u1,u2],.agg #[t1,t2]] x.w fun e w''=>e=.returned (.bool true)∧∃ z:ah wr,w''=z.w):=fun x=>ah.calls (rx (i1.below x.h) (i2.below x.h) (i3.below x.h) (i4.below x.h))
   have hnI:(i:Int)<(n:Int):=by omega
   clear k1 k2 k3 k4 i1 i2 i3 i4
   go_wp2_with fail
   refine aj (by kernel_rfl) (by kernel_rfl) ?_
   repeat (go_big_quiet_step ((go_at_call 19;with_reducible exact HI.out _)))
   refine wpQuiet_nil ?_
   rintro w6 ⟨⟨_,hbN⟩,rfl⟩
   have hb6:=hb.trans (hbN.mono hb.size)
   clear HI y1 y2 y3 y4 hb hbN
   go_wp2_with fail
   exact ⟨⟨i+1,by first | rfl | go_num,by omega,hb6⟩,by simp [intOf];omega⟩
  ·obtain rfl:i=n:=by omega
   clear hi hin
   have P4:=P3.below hb
   have E4:=E3.below hb
   have r0:=(hb.block _ (ac q0)).trans q0
   have HB4:=HB3.trans (hb.mono HB3.size)
   clear B0 hb P3 E3 q0 HB3
   have x0:=aa r0 0
   go_wp2_with fail
   refine (yb gs p c pe ne ce l _ P4 E4 HNL.out hlen).mono ?_
   rintro e w5 ⟨hb5,rfl⟩
   have P5:=P4.below hb5
   have E5:=E4.below hb5
   have q0:=(hb5.block _ (ac r0)).trans r0
   have HB5:=HB4.trans (hb5.mono HB4.size)
   clear P4 E4 r0 x0 HB4 hb5
   have x0:=aa q0 0
   obtain ⟨mn,hmn⟩:∃ mn,mn=oG gs l:=⟨_,rfl⟩
   rw [←hmn,←HEN.out]
   have HMN:=B8 hmn
   clear hmn
   go_wp2_with fail
   refine (tf gs p c pe ne ce l _ P5 E5 HNL.out hlen).mono ?_
   rintro e w6 ⟨hb6,rfl⟩
   rw [←HEN.out,←HMN.out]
   have X6:=(P5.below hb6).X
   have HB6:=HB5.trans (hb6.mono HB5.size)
   clear P5 E5 q0 x0 HB5 hb6
   have hd3:(mn == mn)=true:=by simp
   have hd4:(en == en)=true:=by simp
   go_wp2_with fail
   refine (Bg w6 X6).mono ?_
   rintro e w7 ⟨rfl,hb7⟩
   go_wp2
   go_ret
   exact ⟨rfl,HB6.trans (hb7.mono HB6.size)⟩
end Go.Proofs.YtnkgbocdpngldaaGreatDoor
