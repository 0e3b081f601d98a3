/- Lemmas of this claim. -/
import Derived.Test.YtnkgbocdpngldaaGreatDoorXRRead
set_option linter.all false
set_option maxRecDepth 100000
set_option maxHeartbeats 8000000
namespace Go.Proofs.YtnkgbocdpngldaaGreatDoor
open Go.RowKit Dg
theorem uU (m:Bool) (n:Nat):decide (-(sgn m n)<0)=(!m&&decide (n≠0))∧(-(sgn m n)).natAbs=n:=by
 unfold sgn
 cases m
 ·refine⟨?_,by simp⟩
  by_cases h:n=0
  ·subst h;rfl
  ·simp[h];omega
 ·simp
theorem nP (n:Nat) (hn:n<1000000000000) (w:World) :
  Calls Tryz.prog 116 #[.int .i64 n] w fun e w'=>∃ v,e=.returned v∧IsQ w' v ⟨false,n,1⟩∧Below w.heap.size w w':=by
 have hl:=bL w (.cells #[.bool false,.slice none 0 0,.bool false,.slice none 0 0] 173)
 go_enter Tryz.func116,Tryz.ntmps116
 go_upto_region 1 with fail
 generalize w.alloc (.cells #[.bool false,.slice none 0 0,.bool false,.slice none 0 0] 173)=w1 at *
 go_wp2_with fail
 refine (iq n hn w1).mono ?_
 rintro e w2 ⟨v2,rfl,hz2,hb2⟩
 obtain⟨p2,N2,c2,rfl,hN2,hNc2,hcm2,hd2⟩:=hz2.nat
 have s0:=(hb2.block _ (ae hl.s0)).trans hl.s0
 have HB2:=hl.below.trans (hb2.mono hl.below.size)
 have HD2:=C5 hd2
 clear hl hb2 hz2 hd2
 go_wp2_with fail
 refine (iq 1 (by omega) w2).mono ?_
 rintro e w3 ⟨v3,rfl,hz3,hb3⟩
 obtain⟨p3,N3,c3,rfl,hN3,hNc3,hcm3,hd3⟩:=hz3.nat
 have u2:=(hb3.block _ (ae s0)).trans s0
 have HB3:=HB2.trans (hb3.mono HB2.size)
 have hP:=cM (u0:=.bool false) (u1:=.slice p2 N2 c2) (u2:=.bool false) (u3:=.slice p3 N3 c3) u2
 have hZ:Hid (IsQ (gc w3 w.heap.size (.bool false) (.slice p2 N2 c2) (.bool false) (.slice p3 N3 c3)) (.agg #[.bool false,.slice p2 N2 c2,.bool false,.slice p3 N3 c3]) ⟨false,n,1⟩) :=
  ⟨_,_,rfl,hP.isI u2 du (HD2.out.below hb3),hP.isI u2 du hd3⟩
 have hB:=HB3.trans (hP.below w.heap.size (by omega))
 have q0:=aa u2 0
 have q1:=aa u2 1
 have q2:=aa u2 2
 have q3:=aa u2 3
 have f0:=frozen_of_row w3 w.heap.size 0 _ _ u2
 have f1:=frozen_of_row w3 w.heap.size 1 _ _ u2
 have f2:=frozen_of_row w3 w.heap.size 2 _ _ u2
 have f3:=frozen_of_row w3 w.heap.size 3 _ _ u2
 clear s0 HB2 hb3 hz3 hd3 HD2
 go_wp2_with fail
 (try simp only[Exit.inBlock,Exit.then])
 change bodyPost _ _ _ _ _ (gc w3 w.heap.size (.bool false) (.slice p2 N2 c2) (.bool false) (.slice p3 N3 c3))
 refine bodyPost_ret (results_cell_row rfl _ _ w.heap.size _ _ (0,0) _ rfl hP.row Tryz.underlying173 rfl (by kernel_rfl)) rfl ?_
 exact⟨_,rfl,hZ.out,hB⟩
theorem zA (v:Value) (r:Rt) (w:World) (hv:IsQ w v r) (hc:r.minus=true→r.n≠0) :
  Calls Tryz.prog 129 #[v] w fun e w'=>∃ v',e=.returned v'∧IsQ w' v' (qE r)∧Below w.heap.size w w':=by
 obtain⟨p,N,c,p',N',c',rfl,hN,hNc,hcm,hN',hNc',hcm',hdn,hdd⟩:=hv.parts
 obtain⟨m,n,d⟩:=r
 simp only at hN hN' hdn hdd hc ⊢
 have hl:=fS w (.cells #[.bool m,.slice p N c,.bool false,.slice p' N' c'] 173) (.cells #[.bool false,.slice none 0 0,.bool false,.slice none 0 0] 173)
 have HDN:=C5 (hdn.below hl.below)
 have HDD:=C5 (hdd.below hl.below)
 have HC:=C5 hc
 clear hv hdn hdd hc
 go_enter Tryz.func129,Tryz.ntmps129
 go_upto_region 1 with fail
 generalize (w.alloc (.cells #[.bool m,.slice p N c,.bool false,.slice p' N' c'] 173)).alloc (.cells #[.bool false,.slice none 0 0,.bool false,.slice none 0 0] 173)=w1 at *
 have hbd:Below w1.heap.size w1 w1.drew:=(Below.refl _ _).drew
 have r0:=(hbd.block _ (ae hl.s0)).trans hl.s0
 have r1:=(hbd.block _ (ae hl.s1)).trans hl.s1
 have HB1:=hl.below.trans (hbd.mono hl.below.size)
 have HN1:=C5 (HDN.out.below hbd)
 have HD1:=C5 (HDD.out.below hbd)
 have hsz:w1.drew.heap.size=w.heap.size+1+1:=hl.size
 clear HDN HDD hl hbd
 have hS:(fun wx:World=>wx.cell? ⟨w.heap.size,0,none⟩=some (.bool m)∧wx.cell? ⟨w.heap.size,1,none⟩=some (.slice p N c)∧wx.cell? ⟨w.heap.size,2,none⟩=some (.bool false)∧wx.cell? ⟨w.heap.size,3,none⟩=some (.slice p' N' c')) w1.drew:=⟨aa r0 0,aa r0 1,aa r0 2,aa r0 3⟩
 refine wp_mono (au (Q:=aL _) (fun wx:World=>wx.cell? ⟨w.heap.size,0,none⟩=some (.bool m)∧wx.cell? ⟨w.heap.size,1,none⟩=some (.slice p N c)∧wx.cell? ⟨w.heap.size,2,none⟩=some (.bool false)∧wx.cell? ⟨w.heap.size,3,none⟩=some (.slice p' N' c')) (fun i=>i == 6) (by kernel_rfl) ?_) (fun _ _ _ h=>aV h)
 generalize w1.drew=w2 at *
 refine af (i:=0) (v:=?vv1) rfl (by kernel_rfl) (fun _ _ _ h=>h) rfl ?hy1 ?rest1
 case hy1=>(intro wy;go_simp;try with_reducible rfl)
 try simp only[Act.put,C4,C2,C3,CY,C1,CZ]
 refine af (i:=3) (v:=?vv2) rfl (by kernel_rfl) (fun _ _ _ h=>h) rfl ?hy2 ?rest2
 case hy2=>(intro wy;go_simp;try with_reducible rfl)
 try simp only[Act.put,C4,C2,C3,CY,C1,CZ]
 refine ak (i:=1) (v:=?vvA) rfl (by kernel_rfl) (fun _ _ _ h=>h) rfl hS ?hyA ?restA
 case hyA =>
  intro wy hy
  obtain⟨q0,q1,q2,q3⟩:=hy
  go_simp
  try with_reducible rfl
 try simp only[Act.put,C4,C2,C3,CY,C1,CZ]
 refine ak (i:=4) (v:=?vvB) rfl (by kernel_rfl) (fun _ _ _ h=>h) rfl hS ?hyB ?restB
 case hyB =>
  intro wy hy
  obtain⟨q0,q1,q2,q3⟩:=hy
  go_simp
  try with_reducible rfl
 try simp only[Act.put,C4,C2,C3,CY,C1,CZ]
 refine am (i:=2) rfl (by kernel_rfl) rfl (fun K hK=>?_)
 go_simp
 refine (lc _ _ w2 (tK HN1.out HC.out)).mono ?_
 rintro e w3 ⟨v3,rfl,hz3,hb3⟩
 obtain⟨p3,N3,c3,rfl,hN3,hNc3,hcm3,hd3⟩:=hz3.parts
 rw[(uU m n).2] at hd3
 have hm3:=C5 (uU m n).1
 generalize decide (-sgn m n<0)=m3 at *
 have hlt:=ae r0
 refine hK _ _ (fun _ hs=>⟨(hb3.cell (p:=⟨_,_,none⟩) hlt).trans hs.1,(hb3.cell (p:=⟨_,_,none⟩) hlt).trans hs.2.1,(hb3.cell (p:=⟨_,_,none⟩) hlt).trans hs.2.2.1,(hb3.cell (p:=⟨_,_,none⟩) hlt).trans hs.2.2.2⟩) ?_
 clear hK K hS
 try simp only[Act.put,C4,C2,C3,CY,C1,CZ]
 have u2:=(hb3.block _ (ae r1)).trans r1
 have HB3:=HB1.trans (hb3.mono HB1.size)
 have hP:=cM (u0:=.bool m3) (u1:=.slice p3 N3 c3) (u2:=.bool false) (u3:=.slice p' N' c') u2
 have hZ:Hid (IsQ (gc w3 (w.heap.size+1) (.bool m3) (.slice p3 N3 c3) (.bool false) (.slice p' N' c')) (.agg #[.bool m3,.slice p3 N3 c3,.bool false,.slice p' N' c']) (qE ⟨m,n,d⟩)) :=
  ⟨_,_,by rw[show (qE ⟨m,n,d⟩).minus=m3 from hm3.out.symm],hP.isI u2 du hd3,hP.isI u2 du (HD1.out.below hb3)⟩
 have hB:=HB3.trans (hP.below w.heap.size (by omega))
 have q0:=aa u2 0
 have q1:=aa u2 1
 have q2:=aa u2 2
 have q3:=aa u2 3
 have f0:=frozen_of_row w3 (w.heap.size+1) 0 _ _ u2
 have f1:=frozen_of_row w3 (w.heap.size+1) 1 _ _ u2
 have f2:=frozen_of_row w3 (w.heap.size+1) 2 _ _ u2
 have f3:=frozen_of_row w3 (w.heap.size+1) 3 _ _ u2
 clear HN1 HD1 hd3 hz3 HB1 r0 r1
 refine af (i:=5) (v:=?vv3) rfl (by kernel_rfl) (fun _ _ _ h=>h) rfl ?hy3 ?rest3
 case hy3=>(intro wy;go_simp;try with_reducible rfl)
 try simp only[Act.put,C4,C2,C3,CY,C1,CZ]
 refine am (i:=6) rfl (by kernel_rfl) rfl (fun K hK=>?_)
 go_simp
 change K _ (gc w3 (w.heap.size+1) (.bool m3) (.slice p3 N3 c3) (.bool false) (.slice p' N' c'))
 refine hK _ _ (fun h=>by cases h) ?_
 clear hK K q0 q1 q2 q3 f0 f1 f2 f3
 try simp only[Act.put,C4,C2,C3,CY,C1,CZ]
 refine aA (by kernel_rfl) ?_ _
 simp only[aL]
 go_wp2_with fail
 (try simp only[Exit.inBlock,Exit.then])
 refine bodyPost_ret (results_cell_row rfl _ _ (w.heap.size+1) _ _ (0,0) _ rfl hP.row Tryz.underlying173 rfl (by kernel_rfl)) rfl ?_
 exact⟨_,rfl,hZ.out,hB⟩
def IsC (w:World) (v:Value) (z:Vl):Prop:=∃ a b c d,v=.agg #[.bool z.x.minus,a,.bool false,b,.bool z.y.minus,c,.bool false,d]∧IsD w a z.x.n∧IsD w b z.x.d∧IsD w c z.y.n∧IsD w d z.y.d
theorem IsC.below {w w':World}{v:Value}{z:Vl} (h:IsC w v z) (hb:Below w.heap.size w w'):IsC w' v z:=by
 obtain⟨a,b,c,d,e,h1,h2,h3,h4⟩:=h
 exact⟨a,b,c,d,e,h1.below hb,h2.below hb,h3.below hb,h4.below hb⟩
theorem zF (v:Value) (r:Rt) (w:World) (hv:IsQ w v r) :
  Calls Tryz.prog 115 #[v] w fun e w'=>∃ v',e=.returned v'∧IsC w' v' ⟨r,eZ⟩∧Below w.heap.size w w':=by
 obtain⟨p,N,c,p',N',c',rfl,hN,hNc,hcm,hN',hNc',hcm',hdn,hdd⟩:=hv.parts
 obtain⟨m,n,d⟩:=r
 simp only at hN hN' hdn hdd ⊢
 have hl:=fS w (.cells #[.bool m,.slice p N c,.bool false,.slice p' N' c'] 173) (.cells #[.bool false,.slice none 0 0,.bool false,.slice none 0 0,.bool false,.slice none 0 0,.bool false,.slice none 0 0] 175)
 have HDN:=C5 (hdn.below hl.below)
 have HDD:=C5 (hdd.below hl.below)
 clear hv hdn hdd
 go_enter Tryz.func115,Tryz.ntmps115
 go_upto_region 1 with fail
 generalize (w.alloc (.cells #[.bool m,.slice p N c,.bool false,.slice p' N' c'] 173)).alloc (.cells #[.bool false,.slice none 0 0,.bool false,.slice none 0 0,.bool false,.slice none 0 0,.bool false,.slice none 0 0] 175)=w1 at *
 have hbd:Below w1.heap.size w1 w1.drew:=(Below.refl _ _).drew
 have r0:=(hbd.block _ (ae hl.s0)).trans hl.s0
 have r1:=(hbd.block _ (ae hl.s1)).trans hl.s1
 have HB1:=hl.below.trans (hbd.mono hl.below.size)
 have HN1:=C5 (HDN.out.below hbd)
 have HD1:=C5 (HDD.out.below hbd)
 have hsz:w1.drew.heap.size=w.heap.size+1+1:=hl.size
 clear HDN HDD hl hbd
 have hS:(fun wx:World=>wx.cell? ⟨w.heap.size,0,none⟩=some (.bool m)∧wx.cell? ⟨w.heap.size,1,none⟩=some (.slice p N c)∧wx.cell? ⟨w.heap.size,2,none⟩=some (.bool false)∧wx.cell? ⟨w.heap.size,3,none⟩=some (.slice p' N' c')) w1.drew:=⟨aa r0 0,aa r0 1,aa r0 2,aa r0 3⟩
 refine wp_mono (au (Q:=aL _) (fun wx:World=>wx.cell? ⟨w.heap.size,0,none⟩=some (.bool m)∧wx.cell? ⟨w.heap.size,1,none⟩=some (.slice p N c)∧wx.cell? ⟨w.heap.size,2,none⟩=some (.bool false)∧wx.cell? ⟨w.heap.size,3,none⟩=some (.slice p' N' c')) (fun i=>i == 3) (by kernel_rfl) ?_) (fun _ _ _ h=>aV h)
 generalize w1.drew=w2 at *
 refine ak (i:=0) (v:=?vvA) rfl (by kernel_rfl) (fun _ _ _ h=>h) rfl hS ?hyA ?restA
 case hyA =>
  intro wy hy
  obtain⟨q0,q1,q2,q3⟩:=hy
  go_simp
  try with_reducible rfl
 try simp only[Act.put,C4,C2,C3,CY,C1,CZ]
 refine am (i:=1) rfl (by kernel_rfl) rfl (fun K hK=>?_)
 go_simp
 refine (nP 0 (by omega) w2).mono ?_
 rintro e w3 ⟨v3,rfl,hz3,hb3⟩
 obtain⟨p3,N3,c3,p4,N4,c4,rfl,hN3,hNc3,hcm3,hN4,hNc4,hcm4,hd3,hd4⟩:=hz3.parts
 have hlt:=ae r0
 refine hK _ _ (fun _ hs=>⟨(hb3.cell (p:=⟨_,_,none⟩) hlt).trans hs.1,(hb3.cell (p:=⟨_,_,none⟩) hlt).trans hs.2.1,(hb3.cell (p:=⟨_,_,none⟩) hlt).trans hs.2.2.1,(hb3.cell (p:=⟨_,_,none⟩) hlt).trans hs.2.2.2⟩) ?_
 clear hK K hS
 try simp only[Act.put,C4,C2,C3,CY,C1,CZ]
 have u2:=(hb3.block _ (ae r1)).trans r1
 have HB3:=HB1.trans (hb3.mono HB1.size)
 have hP:=dH (u0:=.bool m) (u1:=.slice p N c) (u2:=.bool false) (u3:=.slice p' N' c') (u4:=.bool false) (u5:=.slice p3 N3 c3) (u6:=.bool false) (u7:=.slice p4 N4 c4) u2
 have hZ:Hid (IsC (d9 w3 (w.heap.size+1) (.bool m) (.slice p N c) (.bool false) (.slice p' N' c') (.bool false) (.slice p3 N3 c3) (.bool false) (.slice p4 N4 c4)) (.agg #[.bool m,.slice p N c,.bool false,.slice p' N' c',.bool false,.slice p3 N3 c3,.bool false,.slice p4 N4 c4]) ⟨⟨m,n,d⟩,eZ⟩) :=
  ⟨_,_,_,_,rfl,hP.isI u2 eA (HN1.out.below hb3),hP.isI u2 eA (HD1.out.below hb3),hP.isI u2 eA hd3,hP.isI u2 eA hd4⟩
 have hB:=HB3.trans (hP.below w.heap.size (by omega))
 have q0:=aa u2 0
 have q1:=aa u2 1
 have q2:=aa u2 2
 have q3:=aa u2 3
 have q4:=aa u2 4
 have q5:=aa u2 5
 have q6:=aa u2 6
 have q7:=aa u2 7
 have f0:=frozen_of_row w3 (w.heap.size+1) 0 _ _ u2
 have f1:=frozen_of_row w3 (w.heap.size+1) 1 _ _ u2
 have f2:=frozen_of_row w3 (w.heap.size+1) 2 _ _ u2
 have f3:=frozen_of_row w3 (w.heap.size+1) 3 _ _ u2
 have f4:=frozen_of_row w3 (w.heap.size+1) 4 _ _ u2
 have f5:=frozen_of_row w3 (w.heap.size+1) 5 _ _ u2
 have f6:=frozen_of_row w3 (w.heap.size+1) 6 _ _ u2
 have f7:=frozen_of_row w3 (w.heap.size+1) 7 _ _ u2
 clear HN1 HD1 hd3 hd4 hz3 HB1 r0 r1
 refine af (i:=2) (v:=?vv1) rfl (by kernel_rfl) (fun _ _ _ h=>h) rfl ?hy1 ?rest1
 case hy1=>(intro wy;go_simp;try with_reducible rfl)
 try simp only[Act.put,C4,C2,C3,CY,C1,CZ]
 refine am (i:=3) rfl (by kernel_rfl) rfl (fun K hK=>?_)
 go_simp
 change K _ (d9 w3 (w.heap.size+1) (.bool m) (.slice p N c) (.bool false) (.slice p' N' c') (.bool false) (.slice p3 N3 c3) (.bool false) (.slice p4 N4 c4))
 refine hK _ _ (fun h=>by cases h) ?_
 clear hK K q0 q1 q2 q3 f0 f1 f2 f3 q4 q5 q6 q7 f4 f5 f6 f7
 try simp only[Act.put,C4,C2,C3,CY,C1,CZ]
 refine aA (by kernel_rfl) ?_ _
 simp only[aL]
 go_wp2_with fail
 (try simp only[Exit.inBlock,Exit.then])
 refine bodyPost_ret (results_cell_row rfl _ _ (w.heap.size+1) _ _ (0,0) _ rfl hP.row Tryz.underlying175 rfl (by kernel_rfl)) rfl ?_
 exact⟨_,rfl,hZ.out,hB⟩
structure mL (a b:List Nat) (i carry:Nat) (out:List Nat):Prop where
 len:out.length=i
 dig:∀ d∈out,d<RR
 car:carry≤1
 eq:val RR out+carry*RR ^ i=val RR (a.take i)+val RR (b.take i)
theorem tT (a b:List Nat):mL a b 0 0 []:=⟨rfl,by simp,by omega,by simp⟩
theorem wI {a b out:List Nat}{i carry:Nat} (ha:∀ d∈a,d<RR) (hb:∀ d∈b,d<RR) (h:mL a b i carry out) :
  mL a b (i+1) ((carry+nth a i+nth b i) / RR) (out++[(carry+nth a i+nth b i) % RR]):=by
 have h1:=bP (j:=i) ha
 have h2:=bP (j:=i) hb
 have h3:=h.car
 have he:=h.eq
 refine⟨by simp[h.len],?_,?_,?_⟩
 ·intro d hd
  rcases DA.1 hd with hd | hd
  ·exact h.dig d hd
  ·rw[D9.1 hd];exact Eg _ (by decide)
 ·rw[fP] at *;omega
 ·rw[eE,h.len,fA,fA]
  have e4:=DT (carry+nth a i+nth b i) RR
  generalize (carry+nth a i+nth b i) / RR=q at *
  generalize (carry+nth a i+nth b i) % RR=r at *
  have hp:RR ^ (i+1)=RR*RR ^ i:=by rw[Dp,Dx]
  rw[hp]
  have:(RR*q+r)*RR ^ i=(carry+nth a i+nth b i)*RR ^ i:=by rw[e4]
  grind
theorem ze {a b out:List Nat}{i:Nat} (h:mL a b i 0 out) (h1:a.length≤i) (h2:b.length≤i):val RR out=val RR a+val RR b:=by
 have he:=h.eq
 rw[Db h1,Db h2] at he
 omega
def SumD (w:World) (v:Value) (n:Nat):Prop:=∃ o,IsI w v o∧(∀ d∈o,d<RR)∧val RR o=n
theorem zc (va vb:Value) (l m:List Nat) (w:World) (ha:IsI w va l) (hb:IsI w vb m) (hl:∀ d∈l,d<RR) (hm:∀ d∈m,d<RR) (hfl:l.length<1000000) (hfm:m.length<1000000) :
  Calls Tryz.prog 148 #[va,vb] w fun e w'=>∃ v,e=.returned v∧SumD w' v (val RR l+val RR m)∧Below w.heap.size w w':=by
 obtain⟨p,cap,rfl,hlc,hcm,hcell⟩:=ha
 obtain⟨p',cap',rfl,hlc',hcm',hcell'⟩:=hb
 unfold maxLen at hcm hcm'
 go_enter Tryz.func148,Tryz.ntmps148
 go_wp2
 go_loopw [5,6,7] (fun s5 s6 s7 wr=>∃ (i carry:Nat) (out:List Nat),s6=.int .i64 carry∧s7=.int .i64 i∧(i≤max l.length m.length∨(carry=0∧i=max l.length m.length+1))∧Hid (mL l m i carry out)∧Hid (dE wr w.heap.size s5 out)∧Below w.heap.size w wr) (fun _ _ s7 _=>max l.length m.length+1-(intOf s7).toNat)
 case atStart=>exact⟨0,0,[],rfl,rfl,Or.inl (Do _),tT l m,World.ownsRow_nil _ _ _ _,Below.refl _ _⟩
 case round =>
  obtain⟨i,carry,out,rfl,rfl,hi,hst,hown,hbw⟩:=hrel
  have hsz:=hbw.size
  have hx:=bP (j:=i) hl
  have hy:=bP (j:=i) hm
  have hcar:=hst.out.car
  have hol:=hst.out.len
  have hstep:=C5 (wI hl hm hst.out)
  rw[fP] at hx hy hstep
  obtain⟨x,hxe⟩:∃ x,x=nth l i:=⟨_,rfl⟩
  obtain⟨y,hye⟩:∃ y,y=nth m i:=⟨_,rfl⟩
  rw[←hxe] at hx hstep
  rw[←hye] at hy hstep
  by_cases hil:i<l.length
  ·obtain⟨b,o,rfl,hbb,hc⟩:=hcell (by omega)
   have hc1:=(hbw.cell (p:=⟨b,o+i,none⟩) hbb).trans (hc i hil)
   rw[←hxe] at hc1
   have hilI:decide ((i:Int)<(l.length:Int))=true:=by simp;omega
   by_cases him:i<m.length
   ·obtain⟨b',o',rfl,hbb',hc'⟩:=hcell' (by omega)
    have hc1':=(hbw.cell (p:=⟨b',o'+i,none⟩) hbb').trans (hc' i him)
    rw[←hye] at hc1'
    clear hc hcell hc' hcell' hst hxe hye
    have himI:decide ((i:Int)<(m.length:Int))=true:=by simp;omega
    have hr:((carry:Int)+x+y).tmod 10000=(((carry+x+y) % 10000:Nat):Int):=by rw[Ed (by omega)];omega
    have hq:((carry:Int)+x+y).tdiv 10000=(((carry+x+y) / 10000:Nat):Int):=by rw[DV (by omega)];omega
    go_wp2_with (at_builtin;refine bd 39 Tryz.underlying39 rfl (.tmp 44) (.tmp 47) rfl w.heap.size _ out _ _ hr rfl hown.out rfl (by omega) hsz ?_)
    intro v' w1 hown' hb'
    have hb1:=hb' _ _ hbw (C6 _)
    clear hown hbw hb'
    have HO:=C5 hown'
    clear hown'
    go_wp2
    go_roundw
    case rel=>exact⟨i+1,_,_,by first | rfl | (rw[hq]),by go_num,by omega,hstep,HO,hb1⟩
    case measure=>simp[intOf];omega
   ·have hy0:y=0:=by rw[hye];exact eY (by omega)
    subst hy0
    clear hc hcell hcell' hst hxe hye
    have himI:decide ((i:Int)<(m.length:Int))=false:=by simp;omega
    have hr:((carry:Int)+x).tmod 10000=(((carry+x+0) % 10000:Nat):Int):=by rw[Ed (by omega)];omega
    have hq:((carry:Int)+x).tdiv 10000=(((carry+x+0) / 10000:Nat):Int):=by rw[DV (by omega)];omega
    go_wp2_with (at_builtin;refine bd 39 Tryz.underlying39 rfl (.tmp 44) (.tmp 47) rfl w.heap.size _ out _ _ hr rfl hown.out rfl (by omega) hsz ?_)
    intro v' w1 hown' hb'
    have hb1:=hb' _ _ hbw (C6 _)
    clear hown hbw hb'
    have HO:=C5 hown'
    clear hown'
    go_wp2
    go_roundw
    case rel=>exact⟨i+1,_,_,by first | rfl | (rw[hq]),by go_num,by omega,hstep,HO,hb1⟩
    case measure=>simp[intOf];omega
  ·have hx0:x=0:=by rw[hxe];exact eY (by omega)
   subst hx0
   have hilI:decide ((i:Int)<(l.length:Int))=false:=by simp;omega
   by_cases him:i<m.length
   ·obtain⟨b',o',rfl,hbb',hc'⟩:=hcell' (by omega)
    have hc1':=(hbw.cell (p:=⟨b',o'+i,none⟩) hbb').trans (hc' i him)
    rw[←hye] at hc1'
    clear hcell hc' hcell' hst hxe hye
    have himI:decide ((i:Int)<(m.length:Int))=true:=by simp;omega
    have hr:((carry:Int)+y).tmod 10000=(((carry+0+y) % 10000:Nat):Int):=by rw[Ed (by omega)];omega
    have hq:((carry:Int)+y).tdiv 10000=(((carry+0+y) / 10000:Nat):Int):=by rw[DV (by omega)];omega
    go_wp2_with (at_builtin;refine bd 39 Tryz.underlying39 rfl (.tmp 44) (.tmp 47) rfl w.heap.size _ out _ _ hr rfl hown.out rfl (by omega) hsz ?_)
    intro v' w1 hown' hb'
    have hb1:=hb' _ _ hbw (C6 _)
    clear hown hbw hb'
    have HO:=C5 hown'
    clear hown'
    go_wp2
    go_roundw
    case rel=>exact⟨i+1,_,_,by first | rfl | (rw[hq]),by go_num,by omega,hstep,HO,hb1⟩
    case measure=>simp[intOf];omega
   ·have hy0:y=0:=by rw[hye];exact eY (by omega)
    subst hy0
    have himI:decide ((i:Int)<(m.length:Int))=false:=by simp;omega
    by_cases hc0:0<carry
    ·have hcI:decide ((0:Int)<(carry:Int))=true:=by simp;omega
     clear hcell hcell' hst hxe hye
     have hr:((carry:Int)).tmod 10000=(((carry+0+0) % 10000:Nat):Int):=by rw[Ed (by omega)];omega
     have hq:((carry:Int)).tdiv 10000=(((carry+0+0) / 10000:Nat):Int):=by rw[DV (by omega)];omega
     go_wp2_with (at_builtin;refine bd 39 Tryz.underlying39 rfl (.tmp 44) (.tmp 47) rfl w.heap.size _ out _ _ hr rfl hown.out rfl (by omega) hsz ?_)
     intro v' w1 hown' hb'
     have hb1:=hb' _ _ hbw (C6 _)
     clear hown hbw hb'
     have HO:=C5 hown'
     clear hown'
     go_wp2
     go_roundw
     case rel=>exact⟨i+1,_,_,by first | rfl | (rw[hq]),by go_num,by omega,hstep,HO,hb1⟩
     case measure=>simp[intOf];omega
    ·obtain rfl:carry=0:=by omega
     have hend:=C5 (ze hst.out (by omega) (by omega))
     have hdg:=C5 hst.out.dig
     have hoi:=C5 (dE.isU hown.out)
     clear hcell hcell' hst hxe hye hown
     go_wp2
     go_ret
     exact⟨_,rfl,⟨_,hoi.out,hdg.out,hend.out⟩,hbw⟩
theorem xK (m:Bool) (a b:Nat):sgn m (a+b)=sgn m a+sgn m b:=by unfold sgn;cases m<;>simp;omega
theorem zT {m:Bool}{x:Int} (h:m=decide (x<0)):sgn m x.natAbs=x:=by subst h;exact nV x
structure oy (w:World) (g:Nat) (ma:Bool) (p:Option Addr) (N c:Nat) (mb:Bool) (p':Option Addr) (N' c':Nat):Prop where
 s0:w.heap[g]?=some (.cells #[.bool ma,.slice p N c] 171 (0,0))
 s1:w.heap[g+1]?=some (.cells #[.bool mb,.slice p' N' c'] 171 (0,0))
 s2:w.heap[g+1+1]?=some (.cells #[.bool false,.slice none 0 0] 171 (0,0))
theorem oy.below {w w':World}{g:Nat}{ma:Bool}{p:Option Addr}{N c:Nat}{mb:Bool}{p':Option Addr}{N' c':Nat} (h:oy w g ma p N c mb p' N' c') (hb:Below w.heap.size w w'):oy w' g ma p N c mb p' N' c' :=
 ⟨(hb.block _ (ae h.s0)).trans h.s0,(hb.block _ (ae h.s1)).trans h.s1,(hb.block _ (ae h.s2)).trans h.s2⟩
end Go.Proofs.YtnkgbocdpngldaaGreatDoor
