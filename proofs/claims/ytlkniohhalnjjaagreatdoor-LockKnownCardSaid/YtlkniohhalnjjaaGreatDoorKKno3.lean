/- Lemmas of this claim. -/
import Derived.Test.YtlkniohhalnjjaaGreatDoorKKno2
set_option linter.all false
set_option maxRecDepth 100000
set_option maxHeartbeats 8000000
namespace Go.Proofs.YtlkniohhalnjjaaGreatDoor
open Go.RowKit Dc Dg
theorem jw {w:World}{b b':Nat}{cs cs':Array Value}{t t':TypeId} (h:w.heap[b]?=some (.cells cs t (0,0))) (h':w.heap[b']?=some (.cells cs' t' (0,0))) (hs:cs.size≠cs'.size):b≠b':=by
 rintro rfl
 rw[h] at h'
 simp only[Option.some.injEq,Obj.cells.injEq] at h'
 exact hs (by rw[h'.1])
theorem oA:∀ g k,g<aV.length→k<(ac aV g).length→(aP aV g k).loops=[]:=by
 have h:∀ g,g<2→∀ k,k<8→(aP aV g k).loops.length=0:=by decide +kernel
 intro g k hg hk
 have h8:=(bD (aX dC hg)).2
 exact uQ (h g hg k (by omega))
structure KnS (w:World) (g:Nat) (u0 u1 u2 u3 u4:Value):Prop where
 s0:w.cell? ⟨g,0,none⟩=some u0
 s1:w.cell? ⟨g,3,none⟩=some u1
 s2:w.cell? ⟨g,4,none⟩=some u2
 s3:w.cell? ⟨g,5,none⟩=some u3
 s4:w.cell? ⟨g,6,none⟩=some u4
 j0:bL w u0 [1,0]
 j1:bL w u1 [1,0]
 j2:bL w u2 [0,0]
 j3:bL w u3 [0,0]
 j4:bL w u4 [0,0]
 lt:g<w.heap.size
theorem KnS.below {w w':World}{g:Nat}{u0 u1 u2 u3 u4:Value} (h:KnS w g u0 u1 u2 u3 u4) (hb:Below w.heap.size w w'):KnS w' g u0 u1 u2 u3 u4 :=
 ⟨(hb.cell (p:=⟨g,0,none⟩) h.lt).trans h.s0,(hb.cell (p:=⟨g,3,none⟩) h.lt).trans h.s1,(hb.cell (p:=⟨g,4,none⟩) h.lt).trans h.s2,(hb.cell (p:=⟨g,5,none⟩) h.lt).trans h.s3,(hb.cell (p:=⟨g,6,none⟩) h.lt).trans h.s4,h.j0.below hb,h.j1.below hb,h.j2.below hb,h.j3.below hb,h.j4.below hb,uv h.lt hb.size⟩
theorem m8 (w:World) (hX:Gx w):Calls Tryz.prog 3 #[] w (fun e w'=>e=.returned (.bool true)∧Below w.heap.size w w'):=by
 go_enter Tryz.func3,Tryz.ntmps3
 go_wp2_with fail
 refine (gj w hX).mono ?_
 rintro e w1 ⟨p1,c1,rfl,hP1,hb1⟩
 have HX:=uk hX
 have hbA:Below w1.heap.size w1 (w1.alloc (.cells #[.int .i64 0,.int .i64 0,.int .i64 0,.int .i64 1,.int .i64 0,.int .i64 1,.int .i64 1,.int .i64 0] 31)):=(Below.refl _ _).alloc (uo _) _
 have hn:=heap_alloc_new w1 (.cells #[.int .i64 0,.int .i64 0,.int .i64 0,.int .i64 1,.int .i64 0,.int .i64 1,.int .i64 1,.int .i64 0] 31)
 have hE:iN (w1.alloc (.cells #[.int .i64 0,.int .i64 0,.int .i64 0,.int .i64 1,.int .i64 0,.int .i64 1,.int .i64 1,.int .i64 0] 31)) (.slice (some ⟨w1.heap.size,0,none⟩) 4 4) lw:=⟨_,_,rfl,fun _=>⟨_,_,rfl,ag hn,fun i hi=>by
  match i,hi with
  | 0,_=>exact⟨aB hn 0,aB hn 1⟩
  | 1,_=>exact⟨aB hn 2,aB hn 3⟩
  | 2,_=>exact⟨aB hn 4,aB hn 5⟩
  | 3,_=>exact⟨aB hn 6,aB hn 7⟩⟩⟩
 have B2:=hb1.trans (hbA.mono hb1.size)
 have hr:=runN aV p1 c1 _ lw _ (hP1.below hbA) hE (by decide)
 clear hP1 hn hE hbA hb1 hX
 go_wp2_with fail
 refine hr.mono ?_
 rintro e w5 ⟨hb5,v5,L,rfl,hL,hLm⟩
 rw[oS] at hLm
 have B5:=B2.trans (hb5.mono B2.size)
 obtain⟨z,hz⟩:∃ z,z=bI aV lw:=⟨_,rfl⟩
 rw[←hz]
 rw[sv] at hz
 subst hz
 obtain⟨ao,co,rfl⟩:=hL.slice
 obtain⟨nL,hnL⟩:∃ nL,nL=L.length:=⟨_,rfl⟩
 have h4:nL=4:=by rw[hnL];have:=congrArg List.length hLm;simpa using this
 rw[←hnL]
 rw[←hnL] at hL
 have HNL:=uk hnL
 clear hr hb5 B2 hnL
 subst h4
 go_upto_region 2 with fail
 obtain⟨g,cap,u0,_,e1,hgl,s0,_,i0,_⟩:=d9 hL hLm (i:=0) (by decide)
 obtain⟨g1,cap1,_,u1,e2,_,_,s1,_,i1⟩:=d9 hL hLm (i:=1) (by decide)
 obtain⟨g2,cap2,u2,u3,e3,_,s2,s3,i2,i3⟩:=d9 hL hLm (i:=2) (by decide)
 obtain⟨g3,cap3,u4,_,e4,_,s4,_,i4,_⟩:=d9 hL hLm (i:=3) (by decide)
 cases e1
 cases e2
 cases e3
 cases e4
 have K:KnS w5 g u0 u1 u2 u3 u4:=⟨s0,s1,s2,s3,s4,i0.q,i1.q,i2.q,i3.q,i4.q,hgl⟩
 obtain⟨a0,k0,hs0⟩:=i0.slice
 obtain⟨a1,k1,hs1⟩:=i1.slice
 obtain⟨a2,k2,hs2⟩:=i2.slice
 obtain⟨a3,k3,hs3⟩:=i3.slice
 obtain⟨a4,k4,hs4⟩:=i4.slice
 subst hs0 hs1 hs2 hs3 hs4
 clear s0 s1 s2 s3 s4 i0 i1 i2 i3 i4 hL hLm HNL hgl
 have s0:=K.s0;have s1:=K.s1;have s2:=K.s2;have s3:=K.s3;have s4:=K.s4
 go_wp2_with fail
 have hbA:Below w5.heap.size w5 (w5.alloc (.cells #[.int .i64 1,.int .i64 0] 3)):=(Below.refl _ _).alloc (uo _) _
 refine (cQ _ _ [1,0] [1,0] _ (bL.below K.j0 hbA) (dw w5 1 0) (by decide) (by decide)).mono ?_
 rintro e w6 ⟨rfl,hbN⟩
 rw[show decide (([1,0]:List Int)=[1,0])=true from rfl]
 have hbM:Below w5.heap.size w5 w6:=hbA.trans (hbN.mono hbA.size)
 have K:=K.below hbM
 have B6:=B5.trans (hbM.mono B5.size)
 clear hbA hbN hbM s0 s1 s2 s3 s4
 have s0:=K.s0;have s1:=K.s1;have s2:=K.s2;have s3:=K.s3;have s4:=K.s4
 go_wp2_with fail
 have hbA:Below w6.heap.size w6 (w6.alloc (.cells #[.int .i64 1,.int .i64 0] 3)):=(Below.refl _ _).alloc (uo _) _
 refine (cQ _ _ [1,0] [1,0] _ (bL.below K.j1 hbA) (dw w6 1 0) (by decide) (by decide)).mono ?_
 rintro e w7 ⟨rfl,hbN⟩
 rw[show decide (([1,0]:List Int)=[1,0])=true from rfl]
 have hbM:Below w6.heap.size w6 w7:=hbA.trans (hbN.mono hbA.size)
 have K:=K.below hbM
 have B7:=B6.trans (hbM.mono B6.size)
 clear hbA hbN hbM s0 s1 s2 s3 s4
 have s0:=K.s0;have s1:=K.s1;have s2:=K.s2;have s3:=K.s3;have s4:=K.s4
 go_wp2_with fail
 have hbA:Below w7.heap.size w7 (w7.alloc (.cells #[.int .i64 0,.int .i64 0] 3)):=(Below.refl _ _).alloc (uo _) _
 refine (cQ _ _ [0,0] [0,0] _ (bL.below K.j2 hbA) (dw w7 0 0) (by decide) (by decide)).mono ?_
 rintro e w8 ⟨rfl,hbN⟩
 rw[show decide (([0,0]:List Int)=[0,0])=true from rfl]
 have hbM:Below w7.heap.size w7 w8:=hbA.trans (hbN.mono hbA.size)
 have K:=K.below hbM
 have B8:=B7.trans (hbM.mono B7.size)
 clear hbA hbN hbM s0 s1 s2 s3 s4
 have s0:=K.s0;have s1:=K.s1;have s2:=K.s2;have s3:=K.s3;have s4:=K.s4
 go_wp2_with fail
 have hbA:Below w8.heap.size w8 (w8.alloc (.cells #[.int .i64 0,.int .i64 0] 3)):=(Below.refl _ _).alloc (uo _) _
 refine (cQ _ _ [0,0] [0,0] _ (bL.below K.j3 hbA) (dw w8 0 0) (by decide) (by decide)).mono ?_
 rintro e w9 ⟨rfl,hbN⟩
 rw[show decide (([0,0]:List Int)=[0,0])=true from rfl]
 have hbM:Below w8.heap.size w8 w9:=hbA.trans (hbN.mono hbA.size)
 have K:=K.below hbM
 have B9:=B8.trans (hbM.mono B8.size)
 clear hbA hbN hbM s0 s1 s2 s3 s4
 have s0:=K.s0;have s1:=K.s1;have s2:=K.s2;have s3:=K.s3;have s4:=K.s4
 go_wp2_with fail
 have hbA:Below w9.heap.size w9 (w9.alloc (.cells #[.int .i64 0,.int .i64 0] 3)):=(Below.refl _ _).alloc (uo _) _
 refine (cQ _ _ [0,0] [0,0] _ (bL.below K.j4 hbA) (dw w9 0 0) (by decide) (by decide)).mono ?_
 rintro e w10 ⟨rfl,hbN⟩
 rw[show decide (([0,0]:List Int)=[0,0])=true from rfl]
 have hbM:Below w9.heap.size w9 w10:=hbA.trans (hbN.mono hbA.size)
 have K:=K.below hbM
 have BA:=B9.trans (hbM.mono B9.size)
 clear hbA hbN hbM s0 s1 s2 s3 s4
 have s0:=K.s0;have s1:=K.s1;have s2:=K.s2;have s3:=K.s3;have s4:=K.s4
 clear K s0 s1 s2 s3 s4 B5 B6 B7 B8 B9
 go_wp2_with fail
 refine (gj w10 (HX.out.below BA)).mono ?_
 rintro e w11 ⟨p2,c2,rfl,hP2,hb11⟩
 have BB:=BA.trans (hb11.mono BA.size)
 clear hb11 BA
 go_wp2_with fail
 refine (tF aV p2 c2 w11 hP2).mono ?_
 intro e w12 hq
 obtain⟨hb12,⟨hf,_⟩ | ⟨_,u,rfl,u1,u2,rfl,i1,i2⟩⟩:=hq
 ·rw[dC] at hf;cases hf
 have i1:aG w11.heap.size w12 u1 [0,0]:=i1
 have i2:aG w11.heap.size w12 u2 [0,0]:=i2
 obtain⟨a1,k1,hu1⟩:=i1.slice
 obtain⟨a2,k2,hu2⟩:=i2.slice
 have hu1:u1=.slice a1 2 k1:=hu1
 have hu2:u2=.slice a2 2 k2:=hu2
 subst hu1 hu2
 have BC:=BB.trans (hb12.mono BB.size)
 have l13:=iy w12 (.cells #[.slice a1 2 k1,.slice a2 2 k2] 36)
 have BD:=BC.trans (l13.below.mono BC.size)
 have r13:=l13.s0
 have Q13:eT (w12.alloc (.cells #[.slice a1 2 k1,.slice a2 2 k2] 36)) (.agg #[.slice a1 2 k1,.slice a2 2 k2]) [0,0] [0,0]:=⟨_,_,rfl,(i1.below l13.below).q,(i2.below l13.below).q⟩
 clear hb12 BB BC i1 i2 hP2 l13
 go_upto_region 5 with fail
 generalize w12.alloc (.cells #[.slice a1 2 k1,.slice a2 2 k2] 36)=w13 at *
 generalize w12.heap.size=kS at *
 have hS:Below w13.heap.size w13 w13.drew:=below_drewN (Below.refl _ _) 1
 refine ax (fun wy:World=>Below w13.heap.size w13 wy) (fun _=>false) (by kernel_rfl) ?_
 generalize w13.drew=wd at *
 refine ak (i:=1) (v:=?vvA) rfl (by kernel_rfl) (fun _ _ _ h=>h) rfl hS ?hyA ?restA
 case hyA =>
  intro wy hy
  have e0:=aB ((hy.block _ (ag r13)).trans r13) 0
  have e1:=aB ((hy.block _ (ag r13)).trans r13) 1
  clear hy
  go_simp
  try with_reducible rfl
 try simp only[Act.put,ut,uq,ur,uj,um,ul]
 refine an (i:=0) rfl (by kernel_rfl) rfl (fun K hK=>?_)
 go_simp
 refine (gj wd (HX.out.below (BD.trans (hS.mono BD.size)))).mono ?_
 rintro e w14 ⟨p3,c3,rfl,hP3,hb14⟩
 have hS4:=hS.trans (hb14.mono hS.size)
 refine hK _ _ (fun _ _=>hS4) ?_
 clear hK K hb14 hS
 try simp only[Act.put,ut,uq,ur,uj,um,ul]
 refine an (i:=2) rfl (by kernel_rfl) rfl (fun K hK=>?_)
 go_simp
 refine (tk aV p3 c3 w14 (.agg #[.slice a1 2 k1,.slice a2 2 k2]) [0,0] [0,0] hP3 (Q13.below hS4)).mono ?_
 intro e w15 hq
 obtain⟨hb15,⟨n,hn,hB,rfl⟩ | ⟨y,v15,hSy,hk,rfl,hE⟩⟩:=hq
 ·rcases hB with ⟨hf,_⟩ | ⟨_,_,h⟩
  ·rw[dC] at hf;cases hf
  ·exact (h _ qF).elim
 obtain rfl:=hk.uniq (by decide) qF
 rw[qD] at hE ⊢
 simp only at hE ⊢
 have hS5:=hS4.trans (hb15.mono hS4.size)
 have hE:=uk hE.q
 refine hK _ _ (fun _ _=>hS5) ?_
 clear hK K hb15 hS4 hP3 hk hSy
 try simp only[Act.put,ut,uq,ur,uj,um,ul]
 refine ae (i:=3) (v:=?vv1) rfl (by kernel_rfl) (fun _ _ _ h=>h) rfl ?hy1 ?rest1
 case hy1=>(intro wy;go_simp;try with_reducible rfl)
 try simp only[Act.put,ut,uq,ur,uj,um,ul]
 refine ae (i:=4) (v:=?vv2) rfl (by kernel_rfl) (fun _ _ _ h=>h) rfl ?hy2 ?rest2
 case hy2=>(intro wy;go_simp;try with_reducible rfl)
 try simp only[Act.put,ut,uq,ur,uj,um,ul]
 refine ae (i:=5) (v:=?vv3) rfl (by kernel_rfl) (fun _ _ _ h=>h) rfl ?hy3 ?rest3
 case hy3=>(intro wy;go_simp;try with_reducible rfl)
 try simp only[Act.put,ut,uq,ur,uj,um,ul]
 refine an (i:=6) rfl (by kernel_rfl) rfl (fun K hK=>?_)
 go_simp
 refine hK _ _ (fun _ h=>h) ?_
 clear hK K
 refine an (i:=7) rfl (by kernel_rfl) rfl (fun K hK=>?_)
 go_simp
 refine hK _ _ (fun _ h=>h) ?_
 clear hK K
 try simp only[Act.put,ut,uq,ur,uj,um,ul]
 refine aW (by kernel_rfl) ?_ _
 have BE:=BD.trans (hS5.mono BD.size)
 have r15:=(hS5.block _ (ag r13)).trans r13
 have Q15:=Q13.below hS5
 clear hS5 BD r13 Q13
 go_wp2_with fail
 refine (gj w15 (HX.out.below BE)).mono ?_
 rintro e w16 ⟨p4,c4,rfl,hP4,hbn⟩
 have BF:=BE.trans (hbn.mono BE.size)
 have r16:=(hbn.block _ (ag r15)).trans r15
 have Q16:=Q15.below hbn
 have hE:=uk (hE.out.below hbn)
 clear hbn BE r15 Q15
 go_wp2_with fail
 refine (qO aV p4 c4 (0,0) (1,1) w16 hP4).mono ?_
 rintro e w17 ⟨v7,rfl,-,hbn⟩
 obtain⟨z,hz⟩:∃ z,z=(dj aV (0,0) (1,1)).2:=⟨_,rfl⟩
 rw[←hz]
 rw[ss] at hz
 simp only at hz
 subst hz
 have BG:=BF.trans (hbn.mono BF.size)
 have r17:=(hbn.block _ (ag r16)).trans r16
 have Q17:=Q16.below hbn
 have hE:=uk (hE.out.below hbn)
 clear hbn BF r16 Q16 hP4
 go_wp2_with fail
 refine (gj w17 (HX.out.below BG)).mono ?_
 rintro e w18 ⟨p5,c5,rfl,hP5,hbn⟩
 have hb1:=hbn
 go_wp2_with fail
 refine (nI aV p5 c5 0 0 w18 hP5).mono ?_
 rintro e w19 ⟨rfl,hbn⟩
 rw[qH]
 have hb2:=hb1.trans (hbn.mono hb1.size)
 clear hbn hP5 hb1
 have BH:=BG.trans (hb2.mono BG.size)
 go_wp2_with fail
 refine (gj w19 (HX.out.below BH)).mono ?_
 rintro e w20 ⟨p6,c6,rfl,hP6,hbn⟩
 have hb2:=hb2.trans (hbn.mono hb2.size)
 clear hbn
 go_wp2_with fail
 refine (nI aV p6 c6 1 3 w20 hP6).mono ?_
 rintro e w21 ⟨rfl,hbn⟩
 rw[oU]
 have hb2:=hb2.trans (hbn.mono hb2.size)
 have BI:=BG.trans (hb2.mono BG.size)
 clear hbn hP6 BH
 go_wp2_with fail
 refine (gj w21 (HX.out.below BI)).mono ?_
 rintro e w22 ⟨p7,c7,rfl,hP7,hbn⟩
 have hb2:=hb2.trans (hbn.mono hb2.size)
 clear hbn BI
 go_wp2_with fail
 refine (kP w22).mono ?_
 rintro e w23 ⟨c8,rfl,hE8,hbn⟩
 have hb2:=hb2.trans (hbn.mono hb2.size)
 have hP7:=hP7.below hbn
 clear hbn
 go_wp2_with fail
 refine (qQ aV p7 c7 _ 3 c8 cm w23 hP7 hE8.q rfl (by decide)).mono ?_
 rintro e w24 ⟨hbn,rfl⟩
 rw[su,qG]
 have hb2:=hb2.trans (hbn.mono hb2.size)
 have BJ:=BG.trans (hb2.mono BG.size)
 have r24:=(hb2.block _ (ag r17)).trans r17
 have Q24:=Q17.below hb2
 have hE:=uk (hE.out.below hb2)
 clear hbn hP7 hE8 BG r17 Q17 hb2
 go_wp2_with fail
 refine (kP w24).mono ?_
 rintro e w25 ⟨c9,rfl,hE9,hbn⟩
 have hE9:=hE9.q
 have hb2:=hbn
 have hE:=uk (hE.out.below hbn)
 clear hbn
 go_wp2_with fail
 refine (iF v15 _ cm cm w25 hE.out hE9 (by decide) (by decide)).mono ?_
 rintro e w26 ⟨rfl,hbn⟩
 rw[show decide (cm=cm)=true from by simp]
 have hb2:=hb2.trans (hbn.mono hb2.size)
 have BK:=BJ.trans (hb2.mono BJ.size)
 have r26:=(hb2.block _ (ag r24)).trans r24
 have Q26:=Q24.below hb2
 clear hbn hE9 hE BJ r24 Q24 hb2
 go_wp2_with fail
 refine (gj w26 (HX.out.below BK)).mono ?_
 rintro e w27 ⟨p4,c4,rfl,hP4,hbn⟩
 have hb2:=hbn
 clear hbn
 go_wp2_with fail
 refine (qO aV p4 c4 (0,0) (0,1) w27 hP4).mono ?_
 rintro e w28 ⟨v8,rfl,-,hbn⟩
 obtain⟨z,hz⟩:∃ z,z=(dj aV (0,0) (0,1)).2:=⟨_,rfl⟩
 rw[←hz]
 rw[qE] at hz
 simp only at hz
 subst hz
 have hb2:=hb2.trans (hbn.mono hb2.size)
 have BL:=BK.trans (hb2.mono BK.size)
 have r13:=(hb2.block _ (ag r26)).trans r26
 have Q13:=Q26.below hb2
 clear hbn BK r26 Q26 hP4 hb2
 go_wp2_with fail
 have hS:Below w28.heap.size w28 w28.drew:=below_drewN (Below.refl _ _) 1
 refine ax (fun wy:World=>Below w28.heap.size w28 wy) (fun _=>false) (by kernel_rfl) ?_
 generalize w28.drew=wd at *
 refine ak (i:=1) (v:=?vvB) rfl (by kernel_rfl) (fun _ _ _ h=>h) rfl hS ?hyB ?restB
 case hyB =>
  intro wy hy
  have e0:=aB ((hy.block _ (ag r13)).trans r13) 0
  have e1:=aB ((hy.block _ (ag r13)).trans r13) 1
  clear hy
  go_simp
  try with_reducible rfl
 try simp only[Act.put,ut,uq,ur,uj,um,ul]
 refine ae (i:=2) (v:=?vv4) rfl (by kernel_rfl) (fun _ _ _ h=>h) rfl ?hy4 ?rest4
 case hy4=>(intro wy;go_simp;try with_reducible rfl)
 try simp only[Act.put,ut,uq,ur,uj,um,ul]
 refine an (i:=0) rfl (by kernel_rfl) rfl (fun K hK=>?_)
 go_simp
 refine (gj wd (HX.out.below (BL.trans (hS.mono BL.size)))).mono ?_
 rintro e w29 ⟨p3,c3,rfl,hP3,hb14⟩
 have hS4:=hS.trans (hb14.mono hS.size)
 refine hK _ _ (fun _ _=>hS4) ?_
 clear hK K hb14 hS
 try simp only[Act.put,ut,uq,ur,uj,um,ul]
 refine an (i:=3) rfl (by kernel_rfl) rfl (fun K hK=>?_)
 go_simp
 refine (oZ aV p3 c3 w29 (.agg #[.slice a1 2 k1,.slice a2 2 k2]) [0,0] [0,0] ⟨0,3⟩ hP3 (Q13.below hS4)).mono ?_
 intro e w30 hq
 obtain⟨hb15,⟨n,hn,hB,rfl⟩ | ⟨y,hSy,hk,⟨_,rfl⟩ | ⟨ho,_⟩⟩⟩:=hq
 ·rcases hB with ⟨hf,_⟩ | ⟨_,_,h⟩
  ·rw[dC] at hf;cases hf
  ·exact (h _ qF).elim
 rotate_left
 ·rw[ua] at ho;cases ho
 have hS5:=hS4.trans (hb15.mono hS4.size)
 refine hK _ _ (fun _ _=>hS5) ?_
 clear hK K hb15 hS4 hP3 hk hSy
 try simp only[Act.put,ut,uq,ur,uj,um,ul]
 refine ae (i:=4) (v:=?vv5) rfl (by kernel_rfl) (fun _ _ _ h=>h) rfl ?hy5 ?rest5
 case hy5=>(intro wy;go_simp;try with_reducible rfl)
 try simp only[Act.put,ut,uq,ur,uj,um,ul]
 refine ae (i:=5) (v:=?vv6) rfl (by kernel_rfl) (fun _ _ _ h=>h) rfl ?hy6 ?rest6
 case hy6=>(intro wy;go_simp;try with_reducible rfl)
 try simp only[Act.put,ut,uq,ur,uj,um,ul]
 refine ae (i:=6) (v:=?vv7) rfl (by kernel_rfl) (fun _ _ _ h=>h) rfl ?hy7 ?rest7
 case hy7=>(intro wy;go_simp;try with_reducible rfl)
 try simp only[Act.put,ut,uq,ur,uj,um,ul]
 refine an (i:=7) rfl (by kernel_rfl) rfl (fun K hK=>?_)
 go_simp
 refine hK _ _ (fun _ h=>h) ?_
 clear hK K
 try simp only[Act.put,ut,uq,ur,uj,um,ul]
 refine aW (by kernel_rfl) ?_ _
 have BM:=BL.trans (hS5.mono BL.size)
 clear hS5 BL r13 Q13
 go_wp2_with fail
 refine (gj w30 (HX.out.below BM)).mono ?_
 rintro e w31 ⟨p4,c4,rfl,hP4,hbn⟩
 have BN:=BM.trans (hbn.mono BM.size)
 clear hbn BM
 have l1:=sS w31 (.cells #[.int .i64 0,.int .i64 1] 3) (.cells #[.int .i64 0,.int .i64 0] 3)
 have hP4:=hP4.below l1.below
 have QG:eT ((w31.alloc (.cells #[.int .i64 0,.int .i64 1] 3)).alloc (.cells #[.int .i64 0,.int .i64 0] 3)) (.agg #[.slice (some ⟨w31.heap.size,0,none⟩) 2 2,.slice (some ⟨w31.heap.size+1,0,none⟩) 2 2]) [0,1] [0,0]:=⟨_,_,rfl,⟨_,_,rfl,fun _=>⟨_,_,rfl,ag l1.s0,fun i hi=>by
  match i,hi with
  | 0,_=>exact aB l1.s0 0
  | 1,_=>exact aB l1.s0 1⟩⟩,⟨_,_,rfl,fun _=>⟨_,_,rfl,ag l1.s1,fun i hi=>by
  match i,hi with
  | 0,_=>exact aB l1.s1 0
  | 1,_=>exact aB l1.s1 1⟩⟩⟩
 have hbl:=l1.below
 clear l1
 go_wp2_with fail
 refine (m7 aV p4 c4 _ _ [0,1] [0,0] hP4 QG).mono ?_
 intro e w32 hq
 obtain⟨hbn,⟨n,hn,hB,rfl⟩ | ⟨y,_,hk,_⟩⟩:=hq
 rotate_left
 ·exact (tq y hk).elim
 have hn41:n=41:=by
  rcases hB with ⟨hf,_⟩ | ⟨_,h,_⟩
  ·rw[dC] at hf;cases hf
  ·exact h
 subst hn41
 have BO:=(BN.trans (hbl.mono BN.size)).trans (hbn.mono (BN.trans (hbl.mono BN.size)).size)
 clear hbn hbl QG hP4 BN hB hn
 go_wp2_with fail
 refine (gj w32 (HX.out.below BO)).mono ?_
 rintro e w33 ⟨p5,c5,rfl,hP5,hbn⟩
 have BP:=BO.trans (hbn.mono BO.size)
 clear hbn BO
 go_wp2_with fail
 refine (rK aV p5 c5 w33 hP5 dC oA).mono ?_
 rintro e w34 ⟨rfl,hbn⟩
 have BQ:=BP.trans (hbn.mono BP.size)
 clear hbn BP hP5
 go_wp2_with fail
 refine (tP w34).mono ?_
 rintro e w35 ⟨b1,b2,b3,b4,b5,rfl,hA,hlo,hbn⟩
 have BR:=BQ.trans (hbn.mono BQ.size)
 have hlo:=uB BQ.size hlo
 have ls:=iy w35 (.cells #[.slice (some ⟨b5,0,none⟩) 2 2] 28)
 have BS:=BR.trans (ls.below.mono BR.size)
 have hA:=hA.below ls.below
 have rs:=ls.s0
 have hb5:=ag hA.h5
 clear hbn ls BQ BR
 go_upto_region 17 with fail
 generalize w35.alloc (.cells #[.slice (some ⟨b5,0,none⟩) 2 2] 28)=w36 at *
 generalize w35.heap.size=kT at *
 have x0:=aB rs 0
 have x1:=aB hA.h5 1
 have x2:=aB hA.h1 8
 have f8:=frozen_of_row w36 b1 8 _ _ hA.h1
 have hSet:=heap_setCell_same w36 b1 8 _ _ (Value.string ⟨#[100,111,119,110]⟩) hA.h1
 have o2:=(heap_setCell_other w36 ⟨b1,8,none⟩ b2 (.string ⟨#[100,111,119,110]⟩) (jw hA.h2 hA.h1 (by decide))).trans hA.h2
 have o3:=(heap_setCell_other w36 ⟨b1,8,none⟩ b3 (.string ⟨#[100,111,119,110]⟩) (jw hA.h3 hA.h1 (by simp))).trans hA.h3
 have o4:=(heap_setCell_other w36 ⟨b1,8,none⟩ b4 (.string ⟨#[100,111,119,110]⟩) (jw hA.h4 hA.h1 (by simp))).trans hA.h4
 have o5:=(heap_setCell_other w36 ⟨b1,8,none⟩ b5 (.string ⟨#[100,111,119,110]⟩) (jw hA.h5 hA.h1 (by simp))).trans hA.h5
 have oT:=(heap_setCell_other w36 ⟨b1,8,none⟩ kT (.string ⟨#[100,111,119,110]⟩) (jw rs hA.h1 (by simp))).trans rs
 have BT:=BS.setCell (p:=⟨b1,8,none⟩) hlo (.string ⟨#[100,111,119,110]⟩)
 have HP2:Hid (dM (w36.setCell ⟨b1,8,none⟩ (.string ⟨#[100,111,119,110]⟩)) (some ⟨b5,0,none⟩) 2 iv):=⟨tQ _ b1 b2 b3 b4 b5 hSet o2 o3 o4 o5,HX.out.below BT,rV,by decide,by decide⟩
 clear hSet o2 o3 o4 o5 hA rs hb5 BS hlo
 go_upto_region 18 with fail
 clear x0 x1 x2 f8
 generalize w36.setCell ⟨b1,8,none⟩ (.string ⟨#[100,111,119,110]⟩)=w37 at *
 have x0:=aB oT 0
 go_wp2_with fail
 refine (HP2.out.check).mono ?_
 rintro e w38 ⟨rfl,hbn⟩
 rw[sA,if_neg uC]
 have BU:=BT.trans (hbn.mono BT.size)
 clear hbn BT HP2 oT x0
 go_wp2_with fail
 refine (jY [] none 0 w38 ⟨fun h=>absurd h (by decide)⟩ (HX.out.below BU) ⟨fun g hg=>(by cases hg),fun g hg=>(by cases hg),fun g hg=>(by cases hg)⟩ (by decide) (by decide)).mono ?_
 rintro e w39 ⟨rfl,hbn⟩
 rw[sw,if_neg uC]
 have BV:=BU.trans (hbn.mono BU.size)
 clear hbn BU
 go_wp2_with fail
 refine (tH w39 (HX.out.below BV)).mono ?_
 rintro e w40 ⟨rfl,hbn⟩
 go_wp2
 go_ret
 exact⟨rfl,BV.trans (hbn.mono BV.size)⟩
end Go.Proofs.YtlkniohhalnjjaaGreatDoor
