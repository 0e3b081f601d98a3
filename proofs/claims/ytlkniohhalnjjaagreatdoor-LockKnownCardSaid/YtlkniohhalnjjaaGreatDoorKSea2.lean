/- Lemmas of this claim. -/
import Derived.Test.YtlkniohhalnjjaaGreatDoorKSea1
set_option linter.all false
set_option maxRecDepth 100000
set_option maxHeartbeats 8000000
namespace Go.Proofs.YtlkniohhalnjjaaGreatDoor
open Go.RowKit Go.Shelf Dc Dg
attribute [local go_sem] Oper.semAt_some
theorem kM (gs:List Gd) (p:Option Addr) (c:Nat) (vn vb:Value) (mb Nm sm:Nat) (f:Nat×Nat→Option Value) (w:World) (m:Nat) (x:St)
  (hP:bZ w m gs p c vn vb mb Nm sm f) (hF:oo gs) (hS:aS gs=true) (hx:(ad gs).At x)
  (ga gf:Nat) (la lf:Array Value) (al:Ev→Bool) (fd:St→Bool)
  (ea:∀ args w,(callFunc ga args).run Tryz.prog w=.ok (.enter ga args) w) (eg:∀ args w,(callFunc gf args).run Tryz.prog w=.ok (.enter gf args) w)
  (hal:∀ w',Below w.heap.size w w'→∀ v:Ev,cx (ad gs) v=true→Calls Tryz.prog ga (gL v++la) w' (fun e w''=>e=.returned (.bool (al v))∧Below w'.heap.size w' w''))
  (hfd:∀ w',Below w.heap.size w w'→∀ y:St,(ad gs).At y→Calls Tryz.prog gf (#[.agg #[.int .i64 y.a0,.int .i64 y.a1,.int .i64 y.a2,.int .i64 y.f0,.int .i64 y.f1,.int .i64 y.f2]]++lf) w' (fun e w''=>e=.returned (.bool (fd y))∧Below w'.heap.size w' w'')) :
  Calls Tryz.prog 24 #[.pointer (some ⟨m,0,none⟩),.agg #[.int .i64 x.a0,.int .i64 x.a1,.int .i64 x.a2,.int .i64 x.f0,.int .i64 x.f1,.int .i64 x.f2],.func (.func ga) #[] la,.func (.func gf) #[] lf] w (fs w (a6 (ad gs) x al fd)):=by
 have G:=aI hS
 have HAL:=uk hal
 have HFD:=uk hfd
 clear hal hfd
 have hmm:=@run_makeMap Tryz.prog
 have hxs:=hx.small G
 obtain⟨W3,hW3⟩:∃ W3,W3=((w.alloc (.cells #[.pointer (some ⟨m,0,none⟩)] 64)).alloc (.cells #[.int .i64 x.a0,.int .i64 x.a1,.int .i64 x.a2,.int .i64 x.f0,.int .i64 x.f1,.int .i64 x.f2] 71)).alloc (.cells #[.func (.func ga) #[] la] 79):=⟨_,rfl⟩
 have hz3:W3.heap.size=w.heap.size+1+1+1:=by rw[hW3];simp
 have hbW3:Below w.heap.size w W3:=by rw[hW3];exact (((Below.refl _ w).alloc (uo _) _).alloc (by simp) _).alloc (by simp;omega) _
 have k4:W3.heap[w.heap.size]?=some (.cells #[.pointer (some ⟨m,0,none⟩)] 64 (0,0)):=by
  rw[hW3];exact (heap_alloc_old _ _ (by simp;omega)).trans ((heap_alloc_old _ _ (by simp)).trans (heap_alloc_new _ _))
 have k6:W3.heap[w.heap.size+1+1]?=some (.cells #[.func (.func ga) #[] la] 79 (0,0)):=by
  have:=heap_alloc_new ((w.alloc (.cells #[.pointer (some ⟨m,0,none⟩)] 64)).alloc (.cells #[.int .i64 x.a0,.int .i64 x.a1,.int .i64 x.a2,.int .i64 x.f0,.int .i64 x.f1,.int .i64 x.f2] 71)) (.cells #[.func (.func ga) #[] la] 79)
  rw[show ((w.alloc (.cells #[.pointer (some ⟨m,0,none⟩)] 64)).alloc (.cells #[.int .i64 x.a0,.int .i64 x.a1,.int .i64 x.a2,.int .i64 x.f0,.int .i64 x.f1,.int .i64 x.f2] 71)).heap.size=w.heap.size+1+1 by simp] at this
  rw[hW3];exact this
 have k5:StP W3 (w.heap.size+1) x:=by
  have:=StP.new (w.alloc (.cells #[.pointer (some ⟨m,0,none⟩)] 64)) x
  rw[show (w.alloc (.cells #[.pointer (some ⟨m,0,none⟩)] 64)).heap.size=w.heap.size+1 by simp] at this
  rw[hW3];exact this.below ((Below.refl _ _).alloc (uo _) _)
 obtain⟨w1,hrun,hT1,hg1⟩:=(bj.made W3 Tryz.prog 71 St.val St.Small).store qm jA (by unfold maxLen;omega) hxs (av.val ⟨St.zero,⟨0,0⟩,true⟩)
 rw[ry] at hT1
 rw[hz3] at hrun hT1 hg1
 have hz4:(W3.alloc (.map #[] 0)).heap.size=w.heap.size+1+1+1+1:=by simp[hz3]
 have g4:=(hg1.block w.heap.size (by rw[hz4];omega) (by simp;omega)).trans ((heap_alloc_old _ (.map #[] 0) (by omega)).trans k4)
 have g6:=(hg1.block (w.heap.size+1+1) (by rw[hz4];omega) (by simp)).trans ((heap_alloc_old _ (.map #[] 0) (by omega)).trans k6)
 have g5:StP w1 (w.heap.size+1) x:=by
  unfold StP
  rw[hg1.block _ (by omega) (by simp)]
  exact k5.below ((Below.refl _ _).alloc (uo _) _)
 have hbw1:Below w.heap.size w w1:=(hbW3.alloc (by omega) _).grown hg1 (by omega) (by intro k hk;simp at hk;omega)
 have hrun2:=hrun
 rw[hW3] at hrun2
 simp only[St.val,av.val,fD,St.zero] at hrun2
 have q5:w1.cell? ⟨w.heap.size+1,0,none⟩=some (.int .i64 x.a0):=g5.cell 0
 have q50:w1.cell? ⟨w.heap.size+1,1,none⟩=some (.int .i64 x.a1):=g5.cell 1
 have q51:w1.cell? ⟨w.heap.size+1,2,none⟩=some (.int .i64 x.a2):=g5.cell 2
 have q52:w1.cell? ⟨w.heap.size+1,3,none⟩=some (.int .i64 x.f0):=g5.cell 3
 have q53:w1.cell? ⟨w.heap.size+1,4,none⟩=some (.int .i64 x.f1):=g5.cell 4
 have q54:w1.cell? ⟨w.heap.size+1,5,none⟩=some (.int .i64 x.f2):=g5.cell 5
 have hw1:w.heap.size+1<w1.heap.size:=g5.lt
 refine (callsIn_wide (n:=9)).1 ?_
 refine callsIn_of_wp_marks Tryz.func24 rfl trivial ?_
 rw[wpIn_wide]
 simp only[Tryz.ntmps24,List.size_toArray,uG,vu,Nat.reduceAdd,Nat.reduceSub,Array.replicate_succ,Array.replicate_zero,List.push_toArray,List.append_toArray,v_,vT]
 go_wp2_with fail
 have hz:((w1.alloc (.cells #[.map (some (w.heap.size+1+1+1))] 81)).alloc (.cells #[.int .i64 x.a0,.int .i64 x.a1,.int .i64 x.a2,.int .i64 x.f0,.int .i64 x.f1,.int .i64 x.f2] 71)).heap.size=w1.heap.size+1+1:=by simp
 have L0:SeaL (ad gs) al fd x w (((w1.alloc (.cells #[.map (some (w.heap.size+1+1+1))] 81)).alloc (.cells #[.int .i64 x.a0,.int .i64 x.a1,.int .i64 x.a2,.int .i64 x.f0,.int .i64 x.f1,.int .i64 x.f2] 71)).alloc (.cells #[.slice (some ⟨w1.heap.size+1,0,none⟩) 1 1] 65)) m (.func (.func ga) #[] la) w.heap.size (w.heap.size+1+1) w1.heap.size (w.heap.size+1+1+1) [] (w1.heap.size+1+1) (.slice (some ⟨w1.heap.size+1,0,none⟩) 1 1) (kO x):=by
  have hbV:=((hbw1.alloc (by omega) (.cells #[.map (some (w.heap.size+1+1+1))] 81)).alloc (by simp;omega) (.cells #[.int .i64 x.a0,.int .i64 x.a1,.int .i64 x.a2,.int .i64 x.f0,.int .i64 x.f1,.int .i64 x.f2] 71)).alloc (by simp;omega) (.cells #[.slice (some ⟨w1.heap.size+1,0,none⟩) 1 1] 65)
  have hbW:=(((Below.refl w1.heap.size w1).alloc (uo _) (.cells #[.map (some (w.heap.size+1+1+1))] 81)).alloc (by simp) (.cells #[.int .i64 x.a0,.int .i64 x.a1,.int .i64 x.a2,.int .i64 x.f0,.int .i64 x.f1,.int .i64 x.f2] 71)).alloc (by simp;omega) (.cells #[.slice (some ⟨w1.heap.size+1,0,none⟩) 1 1] 65)
  refine⟨⟨hbV,?_,?_,?_,⟨1,_,hT1.same (hbW.block _ hT1.lt),by simp[kO]⟩,by omega⟩,?_,by omega,?_,j_ hx,di.nil _ _,⟨65537,by simp,rfl⟩⟩
  ·exact (hbW.block _ (ag g4)).trans g4
  ·exact (hbW.block _ (ag g6)).trans g6
  ·exact (heap_alloc_old _ _ (by simp;omega)).trans ((heap_alloc_old _ _ (by simp)).trans (heap_alloc_new _ _))
  ·rw[←hz];exact heap_alloc_new _ _
  ·have hs:=StP.new (w1.alloc (.cells #[.map (some (w.heap.size+1+1+1))] 81)) x
   rw[show (w1.alloc (.cells #[.map (some (w.heap.size+1+1+1))] 81)).heap.size=w1.heap.size+1 by simp] at hs
   exact bG.start (hs.below ((Below.refl _ _).alloc (uo _) _)) (by omega)
 refine wp_loop (fun a wr=>∃ (ds:List Deferred) (b13:Nat) (qv:Value) (R:List (St×av)),a.defers=ds∧tc a w m x ga gf la lf w1.heap.size b13∧SeaL (ad gs) al fd x w wr m (.func (.func ga) #[] la) w.heap.size (w.heap.size+1+1) w1.heap.size (w.heap.size+1+1+1) ds b13 qv R) (fun a _=>32769-a.defers.length) ⟨_,_,_,_,rfl,⟨rfl,rfl,rfl,rfl,rfl,rfl,rfl,rfl,rfl,rfl,rfl,rfl,rfl,rfl⟩,L0⟩ ?_
 rintro a wr ⟨ds,b13,qv,R,hds,HF,L⟩
 obtain⟨us,ha⟩:=HF.open
 rw[hds] at ha
 subst ha
 clear L0 hz hrun hrun2 hT1 hg1 hz4 q5 q50 q51 q52 q53 q54 g4 g6 g5 hbw1 hmm k4 k5 k6 hz3 hbW3 hW3 hds HF
 generalize w1.heap.size=b11 at L hw1 ⊢
 obtain⟨mt,hmt⟩:∃ mt,mt=w.heap.size+1+1+1:=⟨_,rfl⟩
 rw[←hmt] at L ⊢
 have HMT:=uk hmt
 clear hmt
 obtain⟨b6,hb6⟩:∃ b6,b6=w.heap.size+1+1:=⟨_,rfl⟩
 rw[←hb6] at L ⊢
 have HB6:=uk hb6
 clear hb6
 have LD:=L.D
 have LI:=L.I
 have LK:=L.K
 have k11:=LK.c11
 have hRl:=dr G LI
 cases hq:(au R).drop ds.length with
 | nil =>
  obtain⟨ao,cap,rfl⟩:=L.Q.len
  have q13:wr.cell? ⟨b13,0,none⟩=some (.slice ao 0 cap):=by have:=aa L.c13 0;rw[hq] at this;exact this
  obtain⟨fuel,hfu,hbf⟩:=L.B
  rw[hq] at hbf
  clear L
  have hF11:∀ z:ay wr,z.w.cell? ⟨b11,0,none⟩=some (.map (some mt)):=fun z=>(z.cell (block_lt_of_cell k11)).trans k11
  go_wp2_with fail
  refine ai (by kernel_rfl) (by kernel_rfl) ?_
  repeat (go_big_quiet_step (fail))
  refine wpQuiet_nil ?_
  rintro wz ⟨zb,hwz⟩
  have hbN:=zb.h
  rw[←hwz] at hbN
  clear hwz zb hF11
  go_wp2_with fail
  obtain⟨N,s,hT,hN⟩:=(LK.same hbN).tab
  have hres:a6 (ad gs) x al fd=(none,R):=by
   rw[←hbf];cases fuel<;>rfl
  refine kq (v8:=.slice none 0 0) (v9:=.map (some mt)) (v10:=.bool false) (LD.keep (fun D hB hd=>?_)) rfl rfl rfl ⟨(LK.same hbN).below,.slice none 0 0,mt,N,s,?_,?_,?_,LK.lt⟩
  ·rw[hbN.block _ (uw.1 hd).1];exact hd
  ·rw[hres];rfl
  ·rw[hres];exact hT
  ·rw[hres];exact World.ownsRow_nil _ _ _ _
 | cons now Q =>
  have hil:ds.length<R.length:=by
   rcases vf ds.length (au R).length with h | h
   ·simpa[au] using h
   ·rw[uT h] at hq;cases hq
  have hRi:∃ s,R[ds.length]?=some (now,s):=by
   have hk:ds.length<(au R).length:=by simpa[au] using hil
   rw[uR hk] at hq
   have h1:=(List.cons.inj hq).1
   refine⟨R[ds.length].2,?_⟩
   rw[uu hil,←h1]
   simp[au]
  obtain⟨snow,hsnow⟩:=hRi
  have hnat:(ad gs).At now:=LI.at_ now (ve.2 ⟨_,vV hsnow,rfl⟩)
  have LQ:=L.Q
  rw[hq] at LQ
  obtain⟨g,off,cap,rfl,q0,q1,q2,q3,q4,q5⟩:=LQ.head
  have q13:wr.cell? ⟨b13,0,none⟩=some (.slice (some ⟨g,off,none⟩) (Q.length+1) cap):=aa L.c13 0
  obtain⟨nq,hnq⟩:∃ nq,nq=Q.length+1:=⟨_,rfl⟩
  rw[←hnq] at q13
  have hnpos:(0:Int)<((nq:Nat):Int):=by omega
  have HNQ:=uk hnq
  obtain⟨fuel,hfu,hbf⟩:=L.B
  rw[hq] at hbf
  have HL:=uk L
  have HRL:=uk hRl
  have HIL:=uk hil
  have HSN:=uk hsnow
  have HFU:=uk (And.intro hfu hbf)
  clear hnq L hfu hbf hRl hil hsnow
  obtain⟨wa,hwa⟩:∃ wa,wa=wr.alloc (.cells #[.int .i64 now.a0,.int .i64 now.a1,.int .i64 now.a2,.int .i64 now.f0,.int .i64 now.f1,.int .i64 now.f2] 71):=⟨_,rfl⟩
  have hba:Below wr.heap.size wr wa:=by rw[hwa];exact (Below.refl _ _).alloc (uo _) _
  have HC:=HFD.out wa (LK.same hba).below now hnat
  rw[hwa] at HC
  go_wp2_with fail
  refine HC.mono ?_
  rintro e wb ⟨rfl,hbb⟩
  rw[←hwa] at hbb
  have hbwb:Below wr.heap.size wr wb:=hba.trans (hbb.mono hba.size)
  have P14:StP wb wr.heap.size now:=by
   have:=StP.new wr now
   rw[←hwa] at this
   exact this.below hbb
  have KB:=LK.same hbwb
  have kb11:=KB.c11
  clear HC hwa hba hbb wa
  have r0:wb.cell? ⟨wr.heap.size,0,none⟩=some (.int .i64 now.a0):=P14.cell 0
  have r1:wb.cell? ⟨wr.heap.size,1,none⟩=some (.int .i64 now.a1):=P14.cell 1
  have r2:wb.cell? ⟨wr.heap.size,2,none⟩=some (.int .i64 now.a2):=P14.cell 2
  have r3:wb.cell? ⟨wr.heap.size,3,none⟩=some (.int .i64 now.f0):=P14.cell 3
  have r4:wb.cell? ⟨wr.heap.size,4,none⟩=some (.int .i64 now.f1):=P14.cell 4
  have r5:wb.cell? ⟨wr.heap.size,5,none⟩=some (.int .i64 now.f2):=P14.cell 5
  cases hfn:fd now
  ·have kb4:=KB.c4
   go_wp2_with fail
   have hPb:=hP.below KB.below
   have h3:=(bf hS).2
   obtain⟨bW,hbW⟩:∃ bW,bW=wb.heap.size:=⟨_,rfl⟩
   have hBB:w.heap.size≤bW:=by rw[hbW];exact KB.below.size
   have SR0:k_ (ad gs) al fd x w wb m (.func (.func ga) #[] la) w.heap.size b6 b11 mt ds b13 wr.heap.size now R Q (.slice (some ⟨g,off,none⟩) (Q.length+1) cap) []:=by
    refine⟨KB,?_,?_,?_,LD.keep (fun D hB hd=>?_),P14,⟨LI,⟨_,HSN.out⟩,fun v hv=>absurd hv (ux)⟩,hq.symm⟩
    ·rw[hbwb.block _ (uw.1 HL.out.c13).1];exact HL.out.c13
    ·have:=LQ.below hbwb;exact this
    ·obtain⟨gq,cur,e1,_,e2⟩:=LQ.block (by simp)
     rw[e1];intro e;cases e;have:=ag e2;omega
    ·rw[hbwb.block _ (uw.1 hd).1];exact hd
   rw[←wpIn_wide (n:=9)]
   refine iT (gf:=46) (bnd:=#[.pointer (some ⟨m,0,none⟩)]) (lb:=#[]) (encs:=gL) (xs:=evs (ad gs).n) rfl (by omega) rfl trivial ?eg (kF Fence.wide 8 trivial rfl (by omega) gs p c m wb hPb.m0 hPb.lt h3) (fun _=>rfl)
    (eh (ad gs) al fd x w m (.func (.func ga) #[] la) w.heap.size b6 b11 mt ds b13 wr.heap.size now R Q) (eh.abide (by rw[←hbW];exact hBB)) ⟨R,Q,_,rfl,SR0⟩
    (fun j a W=>∃ b15 v,tb a w.heap.size b6 b11 b13 wr.heap.size b15∧(evs (ad gs).n)[j]?=some v∧EvP W b15 v∧eh (ad gs) al fd x w m (.func (.func ga) #[] la) w.heap.size b6 b11 mt ds b13 wr.heap.size now R Q j W) ?hI1 ?hassign ?hbody ?hdone
   case eg=>exact cO Tryz.func46 (by kernel_rfl) (by decide)
   case hI1 =>
    rintro⟨j,a⟩ W ⟨b15,v,hB,hv,hE,hJ⟩
    have hA:=eh.abide (B:=wb.heap.size) (by rw[←hbW];exact hBB) j W hJ
    refine⟨fun o=>⟨b15,v,hB,hv,(aZ.alloc (uo _) o).same _ _ hE (by intro r e;cases e),hA.1 o⟩,fun l o o' hl ho=>⟨b15,v,hB,hv,(aZ.turn hl ho).same _ _ hE (by intro r e;cases e),hA.2 l o o' hl ho⟩⟩
   case hassign =>
    intro l j hj W hJ
    unfold gL
    rw[sN]
    simp only[uj,um,ul]
    gi_wp2
    exact⟨⟨by simp,fun k o _ hk _=>by rw[Below.heap_alloc _ _ _ (uw.1 hk).1];exact hk⟩,W.heap.size,_,⟨rfl,rfl,rfl,rfl,rfl,rfl,rfl,rfl⟩,uu hj,heap_alloc_new _ _,(eh.abide (B:=wb.heap.size) (by rw[←hbW];exact hBB) j W hJ).1 _⟩
   case hbody =>
    rintro l j hj a1 W ⟨b15,v,hB,hv,hE,R1,Q1,qv1,hfold,S⟩
    obtain⟨us1,rfl⟩:=hB.open
    have hok:cx (ad gs) v=true:=gp.1 (vV hv)
    obtain⟨vg,vk⟩:=v
    obtain⟨g1,g2,g3,g4⟩:=dZ.1 hok
    simp only at g1 g2 g3 g4
    obtain⟨gn,rfl⟩:∃ gn:Nat,vg=gn:=⟨vg.toNat,by omega⟩
    have HMV:=uk (n6 gs p c vn vb mb Nm sm f W m now gn vk (hP.below S.K.below) hF hS hnat (by exact_mod_cast g2) g3 g4)
    have c4:=S.K.c4
    have c6:=S.K.c6
    have c11:=S.K.c11
    have d0:W.cell? ⟨wr.heap.size,0,none⟩=some (.int .i64 now.a0):=S.P.cell 0
    have d1:W.cell? ⟨wr.heap.size,1,none⟩=some (.int .i64 now.a1):=S.P.cell 1
    have d2:W.cell? ⟨wr.heap.size,2,none⟩=some (.int .i64 now.a2):=S.P.cell 2
    have d3:W.cell? ⟨wr.heap.size,3,none⟩=some (.int .i64 now.f0):=S.P.cell 3
    have d4:W.cell? ⟨wr.heap.size,4,none⟩=some (.int .i64 now.f1):=S.P.cell 4
    have d5:W.cell? ⟨wr.heap.size,5,none⟩=some (.int .i64 now.f2):=S.P.cell 5
    have e0:W.cell? ⟨b15,0,none⟩=some (.int .i64 gn):=aa hE 0
    have e1:W.cell? ⟨b15,1,none⟩=some (.int .i64 vk):=aa hE 1
    have HX:=uk (And.intro hfold (And.intro hv (And.intro hok (And.intro g1 g2))))
    have HK3:=uk (And.intro g3 g4)
    clear hfold hv hok g1 g2 g3 g4 r0 r1 r2 r3 r4 r5 q0 q1 q2 q3 q4 q5 q13 kb11 kb4 k11 hnpos hq hj
    gi_wp2_with fail
    refine⟨trivial,(CallsIn.inRound l (callsIn_wide.2 HMV.out)).mono ?_⟩
    rintro e W2 ⟨y,rfl,HY,hb2⟩
    have hysm:y.Small:=by
     rw[←HY.out];exact (kJ G hnat HX.out.2.2.1).small G
    have S2:=S.beside (aZ.of_below hb2 (uo _)) S.K.below.size
    have E2:EvP W2 b15 ⟨gn,vk⟩:=(aZ.of_below hb2 (uo _)).same _ _ hE (by intro r e;cases e)
    obtain⟨W3,hW3⟩:∃ W3,W3=W2.alloc (.cells #[.int .i64 y.a0,.int .i64 y.a1,.int .i64 y.a2,.int .i64 y.f0,.int .i64 y.f1,.int .i64 y.f2] 71):=⟨_,rfl⟩
    have hb23:Below W2.heap.size W2 W3:=by rw[hW3];exact (Below.refl _ _).alloc (uo _) _
    have S3:=S2.beside (aZ.of_below hb23 (uo _)) S2.K.below.size
    have E3:EvP W3 b15 ⟨gn,vk⟩:=(aZ.of_below hb23 (uo _)).same _ _ E2 (by intro r e;cases e)
    have P16:StP W3 W2.heap.size y:=by rw[hW3];exact StP.new W2 y
    obtain⟨N1,s1,hT1,hN1⟩:=S3.K.tab
    have hlk:=hT1.look_ok qm jA (mA _) hysm
    rw[hW3] at hlk
    have c11:=S2.K.c11
    have l11:b11<W2.heap.size:=block_lt_of_cell c11
    have c6:=S2.K.c6
    have l6:b6<W2.heap.size:=block_lt_of_cell c6
    have e0:W2.cell? ⟨b15,0,none⟩=some (.int .i64 gn):=aa E2 0
    have e1:W2.cell? ⟨b15,1,none⟩=some (.int .i64 vk):=aa E2 1
    have l15:b15<W2.heap.size:=block_lt_of_cell e0
    cases hgt:Tab.get R1 y with
    | some st =>
     have htf:gA R1 y=some st.val:=by unfold gA;rw[hgt];rfl
     rw[htf] at hlk
     simp only[Option.getD_some,wm,av.val,fD,St.val] at hlk
     gi_wp2_with fail
     refine⟨fun _ h=>(by cases h),?_⟩
     gi_wp2_with fail
     have hbX:Below W.heap.size W ((W2.alloc (.cells #[.int .i64 y.a0,.int .i64 y.a1,.int .i64 y.a2,.int .i64 y.f0,.int .i64 y.f1,.int .i64 y.f2] 71)).alloc (.cells #[Value.int .i64 st.src.a0,Value.int .i64 st.src.a1,Value.int .i64 st.src.a2,Value.int .i64 st.src.f0,Value.int .i64 st.src.f1,Value.int .i64 st.src.f2,Value.int .i64 st.ev.g,Value.int .i64 st.ev.k,.bool st.first] 121)):=(hb2.alloc hb2.size _).alloc (by have:=hb2.size;simp;omega) _
     exact⟨dx hbX,eh.skip G HX.out.1 S HX.out.2.1 HX.out.2.2.1 (by rw[HY.out,hgt];rfl) hbX⟩
    | none =>
     have htf:gA R1 y=none:=by unfold gA;rw[hgt];rfl
     rw[htf] at hlk
     simp only[Option.getD_none,wl,St.val] at hlk
     gi_wp2_with fail
     have hb4:Below W3.heap.size W3 (W3.alloc (.cells #[.int .i64 0,.int .i64 0,.int .i64 0,.int .i64 0,.int .i64 0,.int .i64 0,.int .i64 0,.int .i64 0,.bool false] 121)):=(Below.refl _ _).alloc (uo _) _
     have S4:=S3.beside (aZ.of_below hb4 (uo _)) S3.K.below.size
     have P16':=P16.below hb4
     have E4:=(aZ.of_below hb4 (uo _)).same _ _ E3 (by intro r e;cases e)
     have HA:=HAL.out _ S4.K.below ⟨gn,vk⟩ HX.out.2.2.1
     rw[hW3] at HA
     refine⟨trivial,(CallsIn.inRound l (callsIn_wide.2 HA)).mono ?_⟩
     rintro e W5 ⟨rfl,hb5⟩
     rw[←hW3] at hb5
     have S5:=S4.beside (aZ.of_below hb5 (uo _)) S4.K.below.size
     have P5:=P16'.below hb5
     have E5:EvP W5 b15 ⟨gn,vk⟩:=(aZ.of_below hb5 (uo _)).same _ _ E4 (by intro r e;cases e)
     have hbX:Below W.heap.size W W5:=hb2.trans ((hb23.trans ((hb4.trans (hb5.mono hb4.size)).mono hb23.size)).mono hb2.size)
     clear hlk l11 l6 l15 c11 c6 e0 e1 HA S4 P16' E4 hT1 S3 E3 P16 hb4 hb5 S2 E2 hb23 hb2 hW3 c4 d0 d1 d2 d3 d4 d5
     cases hal:al ⟨gn,vk⟩ with
     | false =>
      gi_wp2_with fail
      exact⟨dx hbX,eh.skip G HX.out.1 S HX.out.2.1 HX.out.2.2.1 (by rw[HY.out,hgt,hal];rfl) hbX⟩
     | true =>
      obtain⟨N5,s5,hT5,hN5⟩:=S5.K.tab
      have hRb:=dr G S5.I.inv
      obtain⟨W6,hrun6,hT6,g6⟩:=hT5.store qm jA (by unfold maxLen;omega) hysm (av.val ⟨now,⟨gn,vk⟩,false⟩)
      rw[mn (dX.1 hgt)] at hT6
      have n13:=hT5.ne S5.c13 (by intro es c e;cases e)
      have k13:=(g6.block b13 (ag S5.c13) n13).trans S5.c13
      have P6:StP W6 W2.heap.size y:=(g6.block _ P5.lt (hT5.ne P5 (by intro es c e;cases e))).trans P5
      obtain⟨gq,cq,eq1,_,eq2⟩:=S5.hq.block (by simp)
      have hq6:bG w.heap.size W6 qv1 (now :: Q1):=S5.hq.same (fun k hk _=>by
       rw[eq1] at hk;cases hk
       exact g6.block _ (ag eq2) (hT5.ne eq2 (by intro es c e;cases e)))
      have hq7:=hq6.below ((Below.refl _ _).alloc (uo _) (.cells #[.int .i64 y.a0,.int .i64 y.a1,.int .i64 y.a2,.int .i64 y.f0,.int .i64 y.f1,.int .i64 y.f2] 71))
      have hlen:(now :: Q1).length≤1000000:=by
       rw[S5.E,uN]
       have:(au R1).length=R1.length:=by simp[au]
       omega
      obtain⟨qv',W8,hrun8,hQ8,g8,hw8⟩:=ik (W6.alloc (.cells #[.int .i64 y.a0,.int .i64 y.a1,.int .i64 y.a2,.int .i64 y.f0,.int .i64 y.f1,.int .i64 y.f2] 71)) 65 hq7 (by have:=S5.K.below.size;have:=g6.size;simp;omega) hlen (StP.new W6 y)
      obtain⟨ao8,cap8,e8⟩:=hQ8.len
      obtain⟨n8,hn8⟩:∃ n8,n8=((now :: Q1)++[y]).length:=⟨_,rfl⟩
      rw[←hn8] at e8
      clear hn8
      subst e8
      obtain⟨hJ',c8',hK8⟩:=eh.enter G HX.out.1 S5 HX.out.2.1 HX.out.2.2.1 HY.out hgt hal HL.out.h13 hT6 (by omega) g6 g8 hQ8 hw8
      have c8:W8.cell? ⟨b13,0,none⟩=some qv1:=aa c8' 0
      have f8:=frozen_of_row W8 b13 0 _ _ c8'
      have k13':W6.cell? ⟨b13,0,none⟩=some qv1:=aa k13 0
      have y0:W6.cell? ⟨W2.heap.size,0,none⟩=some (.int .i64 y.a0):=P6.cell 0
      have y1:W6.cell? ⟨W2.heap.size,1,none⟩=some (.int .i64 y.a1):=P6.cell 1
      have y2:W6.cell? ⟨W2.heap.size,2,none⟩=some (.int .i64 y.a2):=P6.cell 2
      have y3:W6.cell? ⟨W2.heap.size,3,none⟩=some (.int .i64 y.f0):=P6.cell 3
      have y4:W6.cell? ⟨W2.heap.size,4,none⟩=some (.int .i64 y.f1):=P6.cell 4
      have y5:W6.cell? ⟨W2.heap.size,5,none⟩=some (.int .i64 y.f2):=P6.cell 5
      have z0:W5.cell? ⟨W2.heap.size,0,none⟩=some (.int .i64 y.a0):=P5.cell 0
      have z1:W5.cell? ⟨W2.heap.size,1,none⟩=some (.int .i64 y.a1):=P5.cell 1
      have z2:W5.cell? ⟨W2.heap.size,2,none⟩=some (.int .i64 y.a2):=P5.cell 2
      have z3:W5.cell? ⟨W2.heap.size,3,none⟩=some (.int .i64 y.f0):=P5.cell 3
      have z4:W5.cell? ⟨W2.heap.size,4,none⟩=some (.int .i64 y.f1):=P5.cell 4
      have z5:W5.cell? ⟨W2.heap.size,5,none⟩=some (.int .i64 y.f2):=P5.cell 5
      have d0:W5.cell? ⟨wr.heap.size,0,none⟩=some (.int .i64 now.a0):=S5.P.cell 0
      have d1:W5.cell? ⟨wr.heap.size,1,none⟩=some (.int .i64 now.a1):=S5.P.cell 1
      have d2:W5.cell? ⟨wr.heap.size,2,none⟩=some (.int .i64 now.a2):=S5.P.cell 2
      have d3:W5.cell? ⟨wr.heap.size,3,none⟩=some (.int .i64 now.f0):=S5.P.cell 3
      have d4:W5.cell? ⟨wr.heap.size,4,none⟩=some (.int .i64 now.f1):=S5.P.cell 4
      have d5:W5.cell? ⟨wr.heap.size,5,none⟩=some (.int .i64 now.f2):=S5.P.cell 5
      have e0:W5.cell? ⟨b15,0,none⟩=some (.int .i64 gn):=aa E5 0
      have e1:W5.cell? ⟨b15,1,none⟩=some (.int .i64 vk):=aa E5 1
      have c11:=S5.K.c11
      simp only[St.val,av.val,fD] at hrun6
      have HF:=uk (show KeepsFrom wb.heap.size W (W8.setCell ⟨b13,0,none⟩ (.slice ao8 n8 cap8))∧eh (ad gs) al fd x w m (.func (.func ga) #[] la) w.heap.size b6 b11 mt ds b13 wr.heap.size now R Q (j+1) (W8.setCell ⟨b13,0,none⟩ (.slice ao8 n8 cap8)) from⟨(dx hbX).trans (hK8 _ (by obtain⟨_,_,ht,_⟩:=KB.tab;exact ht.lt)),hJ'⟩)
      clear hJ' hK8 c8' hQ8 hw8 g8 hlen hq7 hq6 eq1 eq2 P6 k13 n13 g6 hT6 hRb hT5 hN5 S5 P5 E5 hbX S
      gi_wp2_with (gi_at_builtin;refine fP rfl _ _ _ rfl rfl rfl hrun8 ?_)
      exact HF.out
   case hdone =>
    rintro D W hD ⟨R1,Q1,qv1,hfold,S⟩ hW
    rw[uX] at hfold S
    obtain⟨ao1,cap1,e1⟩:=S.hq.len
    obtain⟨n1,hn1⟩:∃ n1,n1=(now :: Q1).length:=⟨_,rfl⟩
    rw[←hn1] at e1
    subst e1
    have hgrow:je (ad gs) al now (R,Q)=(R1,Q1):=hfold
    have c13:W.cell? ⟨b13,0,none⟩=some (.slice ao1 n1 cap1):=aa S.c13 0
    have hbA:Below W.heap.size W (W.alloc (.cells #[.slice ao1 n1 cap1] 65)):=(Below.refl _ _).alloc (uo _) _
    obtain⟨qv2,hsl,hq2,hsub⟩:=(S.hq.below hbA).tail
    obtain⟨ao2,cap2,e2⟩:=hq2.len
    obtain⟨n2,hn2⟩:∃ n2,n2=Q1.length:=⟨_,rfl⟩
    rw[←hn2] at e2
    subst e2
    have HN:=uk (And.intro hn1 hn2)
    have HG:=uk hgrow
    clear hfold hn1 hn2 hgrow q0 q1 q2 q3 q4 q5 q13 r0 r1 r2 r3 r4 r5 kb11 kb4 k11 hnpos
    go_wp2_with fail
    have hbC:Below W.heap.size W (W.alloc (.cells #[.slice ao2 n2 cap2] 65)):=(Below.refl _ _).alloc (uo _) _
    have hg2:=lH G LI hq.symm hfn
    rw[HG.out] at hg2
    obtain⟨hI1,hE1⟩:=hg2
    have hHL:=HL.out
    have hRl:=dr G hI1
    have hqk:bG w.heap.size (W.alloc (.cells #[.slice ao2 n2 cap2] 65)) (.slice ao2 n2 cap2) Q1:=hq2.same (fun k hk hkl=>by
     obtain⟨gq,cq,eq1,_,eq2⟩:=S.hq.block (by simp)
     have:=hsub k hk
     rw[eq1] at this
     cases this
     exact (heap_alloc_old _ _ (ag eq2)).trans (heap_alloc_old _ _ (ag eq2)).symm)
    refine⟨⟨eu D :: ds,W.heap.size,_,R1,rfl,⟨rfl,rfl,rfl,rfl,rfl,rfl,rfl,?_,rfl,rfl,rfl,rfl,rfl,rfl⟩,⟨S.K.same hbC,heap_alloc_new _ _,S.K.below.size,?_,?_,?_,?_⟩⟩,?_⟩
    ·exact congrArg (fun b=>Value.pointer (some ⟨b,0,none⟩)) HB6.out
    ·show bG w.heap.size _ _ ((au R1).drop (ds.length+1))
     rw[←hE1];exact hqk
    ·exact hI1
    ·refine di.cons (S.D.keep (fun E _ hd=>(heap_alloc_old _ _ (ag hd)).trans hd)) (fun E hE=>?_) (uB KB.below.size hD) ((heap_alloc_old _ _ (ag hW)).trans hW)
     have h1:=LD.lt hE
     have h2:=hbwb.size
     omega
    ·obtain⟨hf1,hf2⟩:=HFU.out
     have:=HRL.out
     have:=HIL.out
     cases fuel with
     | zero=>omega
     | succ k =>
      refine⟨k,by simp only[uG];omega,?_⟩
      rw[←hf2,bfs,if_neg (by rw[hfn];exact uC),HG.out]
      show bfs _ _ _ _ _ ((au R1).drop (ds.length+1))=_
      rw[←hE1]
    ·have:=HRL.out
     have:=HIL.out
     simp only[uG]
     omega
  ·go_wp2_with fail
   have hS:(fun wy:World=>wy.cell? ⟨b11,0,none⟩=some (.map (some mt))∧wy.cell? ⟨wr.heap.size,0,none⟩=some (.int .i64 now.a0)∧wy.cell? ⟨wr.heap.size,1,none⟩=some (.int .i64 now.a1)∧wy.cell? ⟨wr.heap.size,2,none⟩=some (.int .i64 now.a2)∧wy.cell? ⟨wr.heap.size,3,none⟩=some (.int .i64 now.f0)∧wy.cell? ⟨wr.heap.size,4,none⟩=some (.int .i64 now.f1)∧wy.cell? ⟨wr.heap.size,5,none⟩=some (.int .i64 now.f2)) wb.drew:=⟨kb11,r0,r1,r2,r3,r4,r5⟩
   refine wp_mono (ax (Q:=eL _) (fun wy:World=>wy.cell? ⟨b11,0,none⟩=some (.map (some mt))∧wy.cell? ⟨wr.heap.size,0,none⟩=some (.int .i64 now.a0)∧wy.cell? ⟨wr.heap.size,1,none⟩=some (.int .i64 now.a1)∧wy.cell? ⟨wr.heap.size,2,none⟩=some (.int .i64 now.a2)∧wy.cell? ⟨wr.heap.size,3,none⟩=some (.int .i64 now.f0)∧wy.cell? ⟨wr.heap.size,4,none⟩=some (.int .i64 now.f1)∧wy.cell? ⟨wr.heap.size,5,none⟩=some (.int .i64 now.f2)) (fun _=>false) (by kernel_rfl) ?_) (fun _ _ _ h=>fi h)
   refine ae (i:=0) (v:=?vv0) rfl (by kernel_rfl) (fun _ _ _ h=>h) rfl ?hy0 ?rest0
   case hy0=>(intro wy;go_simp;try with_reducible rfl)
   try simp only[Act.put,uj,um,ul]
   refine ak (i:=1) (v:=?vv1) rfl (by kernel_rfl) (fun _ _ _ h=>h) rfl hS ?hy1 ?rest1
   case hy1=>(intro wy hy;(try dsimp only at hy);go_simp;try with_reducible rfl)
   try simp only[Act.put,uj,um,ul]
   refine ak (i:=3) (v:=?vv2) rfl (by kernel_rfl) (fun _ _ _ h=>h) rfl hS ?hy2 ?rest2
   case hy2=>(intro wy hy;(try dsimp only at hy);go_simp;try with_reducible rfl)
   try simp only[Act.put,uj,um,ul]
   refine an (i:=2) rfl (by kernel_rfl) rfl (fun K hK=>?_)
   go_simp
   obtain⟨N,s,hT,hN⟩:=KB.tab
   refine (ub (ad gs) G al fd x R ds.length LI ds.length now snow HSN.out wb.drew b11 mt N s kb11 (block_lt_of_cell kb11) hT).mono ?_
   rintro e wc ⟨vv,rfl,hE,hbc⟩
   refine hK _ _ (fun _ h=>⟨(hbc.cell (block_lt_of_cell kb11)).trans h.1,(hbc.cell (block_lt_of_cell r0)).trans h.2.1,(hbc.cell (block_lt_of_cell r1)).trans h.2.2.1,(hbc.cell (block_lt_of_cell r2)).trans h.2.2.2.1,(hbc.cell (block_lt_of_cell r3)).trans h.2.2.2.2.1,(hbc.cell (block_lt_of_cell r4)).trans h.2.2.2.2.2.1,(hbc.cell (block_lt_of_cell r5)).trans h.2.2.2.2.2.2⟩) ?_
   clear hK K hS
   try simp only[Act.put,uj,um,ul]
   refine ae (i:=4) (v:=?vv4) rfl (by kernel_rfl) (fun _ _ _ h=>h) rfl ?hy4 ?rest4
   case hy4=>(intro wy;go_simp;try with_reducible rfl)
   try simp only[Act.put,uj,um,ul]
   refine ae (i:=5) (v:=?vv5) rfl (by kernel_rfl) (fun _ _ _ h=>h) rfl ?hy5 ?rest5
   case hy5=>(intro wy;go_simp;try with_reducible rfl)
   try simp only[Act.put,uj,um,ul]
   refine ae (i:=6) (v:=?vv6) rfl (by kernel_rfl) (fun _ _ _ h=>h) rfl ?hy6 ?rest6
   case hy6=>(intro wy;go_simp;try with_reducible rfl)
   try simp only[Act.put,uj,um,ul]
   try simp only[Act.put,ut,uq,ur,uj,um,ul]
   refine aW (by kernel_rfl) ?_ _
   simp only[eL]
   go_wp2_with fail
   have hbW:Below wr.heap.size wr wc:=hbwb.trans ((show Below wb.heap.size wb wc from⟨hbc.os,hbc.tape,hbc.output,hbc.size,hbc.block⟩).mono hbwb.size)
   obtain⟨N',s',hT',hN'⟩:=(LK.same hbW).tab
   have hres:a6 (ad gs) x al fd=(some now,R):=by
    obtain⟨hfu,hbf⟩:=HFU.out
    have:=HRL.out
    have:=HIL.out
    rw[←hbf]
    cases fuel with
    | zero=>omega
    | succ k=>rw[bfs,if_pos hfn]
   refine kq (v8:=vv) (v9:=.map (some mt)) (v10:=.bool true) (LD.keep (fun D hB hd=>?_)) rfl rfl rfl ⟨(LK.same hbW).below,vv,mt,N',s',?_,?_,?_,LK.lt⟩
   ·rw[hbW.block _ (uw.1 hd).1];exact hd
   ·rw[hres];rfl
   ·rw[hres];exact hT'
   ·rw[hres];exact d8 hE (uB LK.below.size hbwb.size)
end Go.Proofs.YtlkniohhalnjjaaGreatDoor
