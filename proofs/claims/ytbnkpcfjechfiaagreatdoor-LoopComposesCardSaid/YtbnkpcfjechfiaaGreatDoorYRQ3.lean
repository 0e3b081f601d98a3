/- Lemmas of this claim. -/
import Derived.Test.YtbnkpcfjechfiaaGreatDoorYGet
import Derived.Test.YtbnkpcfjechfiaaGreatDoorYReg
import Derived.Test.YtbnkpcfjechfiaaGreatDoorYCoef
set_option linter.all false
set_option maxRecDepth 100000
set_option maxHeartbeats 8000000
namespace Go.Proofs.YtbnkpcfjechfiaaGreatDoor
open Go.RowKit Dg
theorem wU (m:Bool) (n:Nat):decide (-(sgn m n)<0)=(!m&&decide (n≠0))∧(-(sgn m n)).natAbs=n:=by
 unfold sgn
 cases m
 ·refine⟨?_,by simp⟩;by_cases h:n=0
  ·subst h;rfl
  ·simp[h];omega
 ·simp
theorem lk (n:Nat) (hn:n<1000000000000) (w:World) :
  Calls Tryz.prog 109 #[.int .i64 n] w fun e w'=>∃ v,e=.returned v∧dr w' v ⟨false,n,1⟩∧Below w.heap.size w w':=by
 have hl:=aY w (.cells #[.bool false,.slice none 0 0,.bool false,.slice none 0 0] 78);go_enter Tryz.func109,Tryz.ntmps109;go_upto_region 1 with fail
 generalize w.alloc (.cells #[.bool false,.slice none 0 0,.bool false,.slice none 0 0] 78)=w1 at *
 go_wp2_with fail
 refine (iW n hn w1).mono ?_;rintro e w2 ⟨v2,rfl,hz2,hb2⟩;obtain⟨p2,N2,c2,rfl,hN2,hNc2,hcm2,hd2⟩:=hz2.nat;have s0:=(hb2.block _ (ai hl.s0)).trans hl.s0;have HB2:=hl.below.trans (hb2.mono hl.below.size);have HD2:=Fi hd2;clear hl hb2 hz2 hd2;go_wp2_with fail
 refine (iW 1 (by omega) w2).mono ?_;rintro e w3 ⟨v3,rfl,hz3,hb3⟩;obtain⟨p3,N3,c3,rfl,hN3,hNc3,hcm3,hd3⟩:=hz3.nat;have u2:=(hb3.block _ (ai s0)).trans s0;have HB3:=HB2.trans (hb3.mono HB2.size);have hP:=bg (u0:=.bool false) (u1:=.slice p2 N2 c2) (u2:=.bool false) (u3:=.slice p3 N3 c3) u2
 have hZ:Hid (dr (d9 w3 w.heap.size (.bool false) (.slice p2 N2 c2) (.bool false) (.slice p3 N3 c3)) (.agg #[.bool false,.slice p2 N2 c2,.bool false,.slice p3 N3 c3]) ⟨false,n,1⟩) :=
  ⟨_,_,rfl,hP.isI u2 bL (HD2.out.below hb3),hP.isI u2 bL hd3⟩
 have hB:=HB3.trans (hP.below w.heap.size (by omega));have q0:=af u2 0;have q1:=af u2 1;have q2:=af u2 2;have q3:=af u2 3;have f0:=frozen_of_row w3 w.heap.size 0 _ _ u2;have f1:=frozen_of_row w3 w.heap.size 1 _ _ u2;have f2:=frozen_of_row w3 w.heap.size 2 _ _ u2;have f3:=frozen_of_row w3 w.heap.size 3 _ _ u2;clear s0 HB2 hb3 hz3 hd3 HD2;go_wp2_with fail
 (try simp only[Exit.inBlock,Exit.then])
 change bodyPost _ _ _ _ _ (d9 w3 w.heap.size (.bool false) (.slice p2 N2 c2) (.bool false) (.slice p3 N3 c3));refine bodyPost_ret (results_cell_row rfl _ _ w.heap.size _ _ (0,0) _ rfl hP.row Tryz.underlying78 rfl (by kernel_rfl)) rfl ?_;exact⟨_,rfl,hZ.out,hB⟩
theorem Bv (v:Value) (r:Rt) (w:World) (hv:dr w v r) (hc:r.minus=true→r.n≠0) :
  Calls Tryz.prog 122 #[v] w fun e w'=>∃ v',e=.returned v'∧dr w' v' (rI r)∧Below w.heap.size w w':=by
 obtain⟨p,N,c,p',N',c',rfl,hN,hNc,hcm,hN',hNc',hcm',hdn,hdd⟩:=hv.parts;obtain⟨m,n,d⟩:=r;simp only at hN hN' hdn hdd hc ⊢;have hl:=ti w (.cells #[.bool m,.slice p N c,.bool false,.slice p' N' c'] 78) (.cells #[.bool false,.slice none 0 0,.bool false,.slice none 0 0] 78);have HDN:=Fi (hdn.below hl.below);have HDD:=Fi (hdd.below hl.below);have HC:=Fi hc;clear hv hdn hdd hc;go_enter Tryz.func122,Tryz.ntmps122;go_upto_region 1 with fail
 generalize (w.alloc (.cells #[.bool m,.slice p N c,.bool false,.slice p' N' c'] 78)).alloc (.cells #[.bool false,.slice none 0 0,.bool false,.slice none 0 0] 78)=w1 at *
 have hbd:Below w1.heap.size w1 w1.drew:=(Below.refl _ _).drew;have r0:=(hbd.block _ (ai hl.s0)).trans hl.s0;have r1:=(hbd.block _ (ai hl.s1)).trans hl.s1;have HB1:=hl.below.trans (hbd.mono hl.below.size);have HN1:=Fi (HDN.out.below hbd);have HD1:=Fi (HDD.out.below hbd);have hsz:w1.drew.heap.size=w.heap.size+1+1:=hl.size;clear HDN HDD hl hbd;have hS:(fun wx:World=>wx.cell? ⟨w.heap.size,0,none⟩=some (.bool m)∧wx.cell? ⟨w.heap.size,1,none⟩=some (.slice p N c)∧wx.cell? ⟨w.heap.size,2,none⟩=some (.bool false)∧wx.cell? ⟨w.heap.size,3,none⟩=some (.slice p' N' c')) w1.drew:=⟨af r0 0,af r0 1,af r0 2,af r0 3⟩;refine wp_mono (ay (Q:=aP _) (fun wx:World=>wx.cell? ⟨w.heap.size,0,none⟩=some (.bool m)∧wx.cell? ⟨w.heap.size,1,none⟩=some (.slice p N c)∧wx.cell? ⟨w.heap.size,2,none⟩=some (.bool false)∧wx.cell? ⟨w.heap.size,3,none⟩=some (.slice p' N' c')) (fun i=>i == 6) (by kernel_rfl) ?_) (fun _ _ _ h=>aV h);generalize w1.drew=w2 at *
 refine aj (i:=0) (v:=?vv1) rfl (by kernel_rfl) (fun _ _ _ h=>h) rfl ?hy1 ?rest1;case hy1=>(intro wy;go_simp;try with_reducible rfl)
 try simp only[Act.put,Fm,Fl,Fk,Fj,Fo,Fp]
 refine aj (i:=3) (v:=?vv2) rfl (by kernel_rfl) (fun _ _ _ h=>h) rfl ?hy2 ?rest2;case hy2=>(intro wy;go_simp;try with_reducible rfl)
 try simp only[Act.put,Fm,Fl,Fk,Fj,Fo,Fp]
 refine az (i:=1) (v:=?vvA) rfl (by kernel_rfl) (fun _ _ _ h=>h) rfl hS ?hyA ?restA
 case hyA =>
  intro wy hy;obtain⟨q0,q1,q2,q3⟩:=hy;go_simp;try with_reducible rfl
 try simp only[Act.put,Fm,Fl,Fk,Fj,Fo,Fp]
 refine az (i:=4) (v:=?vvB) rfl (by kernel_rfl) (fun _ _ _ h=>h) rfl hS ?hyB ?restB
 case hyB =>
  intro wy hy;obtain⟨q0,q1,q2,q3⟩:=hy;go_simp;try with_reducible rfl
 try simp only[Act.put,Fm,Fl,Fk,Fj,Fo,Fp]
 refine au (i:=2) rfl (by kernel_rfl) rfl (fun K hK=>?_);go_simp;refine (iF _ _ w2 (uT HN1.out HC.out)).mono ?_;rintro e w3 ⟨v3,rfl,hz3,hb3⟩;obtain⟨p3,N3,c3,rfl,hN3,hNc3,hcm3,hd3⟩:=hz3.parts;rw[(wU m n).2] at hd3;have hm3:=Fi (wU m n).1;generalize decide (-sgn m n<0)=m3 at *
 have hlt:=ai r0;refine hK _ _ (fun _ hs=>⟨(hb3.cell (p:=⟨_,_,none⟩) hlt).trans hs.1,(hb3.cell (p:=⟨_,_,none⟩) hlt).trans hs.2.1,(hb3.cell (p:=⟨_,_,none⟩) hlt).trans hs.2.2.1,(hb3.cell (p:=⟨_,_,none⟩) hlt).trans hs.2.2.2⟩) ?_;clear hK K hS;try simp only[Act.put,Fm,Fl,Fk,Fj,Fo,Fp]
 have u2:=(hb3.block _ (ai r1)).trans r1;have HB3:=HB1.trans (hb3.mono HB1.size);have hP:=bg (u0:=.bool m3) (u1:=.slice p3 N3 c3) (u2:=.bool false) (u3:=.slice p' N' c') u2
 have hZ:Hid (dr (d9 w3 (w.heap.size+1) (.bool m3) (.slice p3 N3 c3) (.bool false) (.slice p' N' c')) (.agg #[.bool m3,.slice p3 N3 c3,.bool false,.slice p' N' c']) (rI ⟨m,n,d⟩)) :=
  ⟨_,_,by rw[show (rI ⟨m,n,d⟩).minus=m3 from hm3.out.symm],hP.isI u2 bL hd3,hP.isI u2 bL (HD1.out.below hb3)⟩
 have hB:=HB3.trans (hP.below w.heap.size (by omega));have q0:=af u2 0;have q1:=af u2 1;have q2:=af u2 2;have q3:=af u2 3;have f0:=frozen_of_row w3 (w.heap.size+1) 0 _ _ u2;have f1:=frozen_of_row w3 (w.heap.size+1) 1 _ _ u2;have f2:=frozen_of_row w3 (w.heap.size+1) 2 _ _ u2;have f3:=frozen_of_row w3 (w.heap.size+1) 3 _ _ u2;clear HN1 HD1 hd3 hz3 HB1 r0 r1;refine aj (i:=5) (v:=?vv3) rfl (by kernel_rfl) (fun _ _ _ h=>h) rfl ?hy3 ?rest3;case hy3=>(intro wy;go_simp;try with_reducible rfl)
 try simp only[Act.put,Fm,Fl,Fk,Fj,Fo,Fp]
 refine au (i:=6) rfl (by kernel_rfl) rfl (fun K hK=>?_);go_simp;change K _ (d9 w3 (w.heap.size+1) (.bool m3) (.slice p3 N3 c3) (.bool false) (.slice p' N' c'));refine hK _ _ (fun h=>by cases h) ?_;clear hK K q0 q1 q2 q3 f0 f1 f2 f3;try simp only[Act.put,Fm,Fl,Fk,Fj,Fo,Fp]
 refine aI (by kernel_rfl) ?_ _;simp only[aP];go_wp2_with fail
 (try simp only[Exit.inBlock,Exit.then])
 refine bodyPost_ret (results_cell_row rfl _ _ (w.heap.size+1) _ _ (0,0) _ rfl hP.row Tryz.underlying78 rfl (by kernel_rfl)) rfl ?_;exact⟨_,rfl,hZ.out,hB⟩
def IsC (w:World) (v:Value) (z:Vl):Prop:=∃ a b c d,v=.agg #[.bool z.x.minus,a,.bool false,b,.bool z.y.minus,c,.bool false,d]∧IsD w a z.x.n∧IsD w b z.x.d∧IsD w c z.y.n∧IsD w d z.y.d
theorem IsC.below {w w':World}{v:Value}{z:Vl} (h:IsC w v z) (hb:Below w.heap.size w w'):IsC w' v z:=by
 obtain⟨a,b,c,d,e,h1,h2,h3,h4⟩:=h;exact⟨a,b,c,d,e,h1.below hb,h2.below hb,h3.below hb,h4.below hb⟩
theorem tL (v:Value) (r:Rt) (w:World) (hv:dr w v r) :
  Calls Tryz.prog 118 #[v] w fun e w'=>∃ v',e=.returned v'∧IsC w' v' ⟨r,eX⟩∧Below w.heap.size w w':=by
 obtain⟨p,N,c,p',N',c',rfl,hN,hNc,hcm,hN',hNc',hcm',hdn,hdd⟩:=hv.parts;obtain⟨m,n,d⟩:=r;simp only at hN hN' hdn hdd ⊢;have hl:=ti w (.cells #[.bool m,.slice p N c,.bool false,.slice p' N' c'] 78) (.cells #[.bool false,.slice none 0 0,.bool false,.slice none 0 0,.bool false,.slice none 0 0,.bool false,.slice none 0 0] 83);have HDN:=Fi (hdn.below hl.below);have HDD:=Fi (hdd.below hl.below);clear hv hdn hdd;go_enter Tryz.func118,Tryz.ntmps118;go_upto_region 1 with fail
 generalize (w.alloc (.cells #[.bool m,.slice p N c,.bool false,.slice p' N' c'] 78)).alloc (.cells #[.bool false,.slice none 0 0,.bool false,.slice none 0 0,.bool false,.slice none 0 0,.bool false,.slice none 0 0] 83)=w1 at *
 have hbd:Below w1.heap.size w1 w1.drew:=(Below.refl _ _).drew;have r0:=(hbd.block _ (ai hl.s0)).trans hl.s0;have r1:=(hbd.block _ (ai hl.s1)).trans hl.s1;have HB1:=hl.below.trans (hbd.mono hl.below.size);have HN1:=Fi (HDN.out.below hbd);have HD1:=Fi (HDD.out.below hbd);have hsz:w1.drew.heap.size=w.heap.size+1+1:=hl.size;clear HDN HDD hl hbd;have hS:(fun wx:World=>wx.cell? ⟨w.heap.size,0,none⟩=some (.bool m)∧wx.cell? ⟨w.heap.size,1,none⟩=some (.slice p N c)∧wx.cell? ⟨w.heap.size,2,none⟩=some (.bool false)∧wx.cell? ⟨w.heap.size,3,none⟩=some (.slice p' N' c')) w1.drew:=⟨af r0 0,af r0 1,af r0 2,af r0 3⟩;refine wp_mono (ay (Q:=aP _) (fun wx:World=>wx.cell? ⟨w.heap.size,0,none⟩=some (.bool m)∧wx.cell? ⟨w.heap.size,1,none⟩=some (.slice p N c)∧wx.cell? ⟨w.heap.size,2,none⟩=some (.bool false)∧wx.cell? ⟨w.heap.size,3,none⟩=some (.slice p' N' c')) (fun i=>i == 3) (by kernel_rfl) ?_) (fun _ _ _ h=>aV h);generalize w1.drew=w2 at *
 refine az (i:=0) (v:=?vvA) rfl (by kernel_rfl) (fun _ _ _ h=>h) rfl hS ?hyA ?restA
 case hyA =>
  intro wy hy;obtain⟨q0,q1,q2,q3⟩:=hy;go_simp;try with_reducible rfl
 try simp only[Act.put,Fm,Fl,Fk,Fj,Fo,Fp]
 refine au (i:=1) rfl (by kernel_rfl) rfl (fun K hK=>?_);go_simp;refine (lk 0 (by omega) w2).mono ?_;rintro e w3 ⟨v3,rfl,hz3,hb3⟩;obtain⟨p3,N3,c3,p4,N4,c4,rfl,hN3,hNc3,hcm3,hN4,hNc4,hcm4,hd3,hd4⟩:=hz3.parts;have hlt:=ai r0;refine hK _ _ (fun _ hs=>⟨(hb3.cell (p:=⟨_,_,none⟩) hlt).trans hs.1,(hb3.cell (p:=⟨_,_,none⟩) hlt).trans hs.2.1,(hb3.cell (p:=⟨_,_,none⟩) hlt).trans hs.2.2.1,(hb3.cell (p:=⟨_,_,none⟩) hlt).trans hs.2.2.2⟩) ?_;clear hK K hS;try simp only[Act.put,Fm,Fl,Fk,Fj,Fo,Fp]
 have u2:=(hb3.block _ (ai r1)).trans r1;have HB3:=HB1.trans (hb3.mono HB1.size);have hP:=dX (u0:=.bool m) (u1:=.slice p N c) (u2:=.bool false) (u3:=.slice p' N' c') (u4:=.bool false) (u5:=.slice p3 N3 c3) (u6:=.bool false) (u7:=.slice p4 N4 c4) u2
 have hZ:Hid (IsC (eE w3 (w.heap.size+1) (.bool m) (.slice p N c) (.bool false) (.slice p' N' c') (.bool false) (.slice p3 N3 c3) (.bool false) (.slice p4 N4 c4)) (.agg #[.bool m,.slice p N c,.bool false,.slice p' N' c',.bool false,.slice p3 N3 c3,.bool false,.slice p4 N4 c4]) ⟨⟨m,n,d⟩,eX⟩) :=
  ⟨_,_,_,_,rfl,hP.isI u2 eO (HN1.out.below hb3),hP.isI u2 eO (HD1.out.below hb3),hP.isI u2 eO hd3,hP.isI u2 eO hd4⟩
 have hB:=HB3.trans (hP.below w.heap.size (by omega));have q0:=af u2 0;have q1:=af u2 1;have q2:=af u2 2;have q3:=af u2 3;have q4:=af u2 4;have q5:=af u2 5;have q6:=af u2 6;have q7:=af u2 7;have f0:=frozen_of_row w3 (w.heap.size+1) 0 _ _ u2;have f1:=frozen_of_row w3 (w.heap.size+1) 1 _ _ u2;have f2:=frozen_of_row w3 (w.heap.size+1) 2 _ _ u2;have f3:=frozen_of_row w3 (w.heap.size+1) 3 _ _ u2;have f4:=frozen_of_row w3 (w.heap.size+1) 4 _ _ u2;have f5:=frozen_of_row w3 (w.heap.size+1) 5 _ _ u2;have f6:=frozen_of_row w3 (w.heap.size+1) 6 _ _ u2;have f7:=frozen_of_row w3 (w.heap.size+1) 7 _ _ u2;clear HN1 HD1 hd3 hd4 hz3 HB1 r0 r1;refine aj (i:=2) (v:=?vv1) rfl (by kernel_rfl) (fun _ _ _ h=>h) rfl ?hy1 ?rest1;case hy1=>(intro wy;go_simp;try with_reducible rfl)
 try simp only[Act.put,Fm,Fl,Fk,Fj,Fo,Fp]
 refine au (i:=3) rfl (by kernel_rfl) rfl (fun K hK=>?_);go_simp;change K _ (eE w3 (w.heap.size+1) (.bool m) (.slice p N c) (.bool false) (.slice p' N' c') (.bool false) (.slice p3 N3 c3) (.bool false) (.slice p4 N4 c4));refine hK _ _ (fun h=>by cases h) ?_;clear hK K q0 q1 q2 q3 f0 f1 f2 f3 q4 q5 q6 q7 f4 f5 f6 f7;try simp only[Act.put,Fm,Fl,Fk,Fj,Fo,Fp]
 refine aI (by kernel_rfl) ?_ _;simp only[aP];go_wp2_with fail
 (try simp only[Exit.inBlock,Exit.then])
 refine bodyPost_ret (results_cell_row rfl _ _ (w.heap.size+1) _ _ (0,0) _ rfl hP.row Tryz.underlying83 rfl (by kernel_rfl)) rfl ?_;exact⟨_,rfl,hZ.out,hB⟩
structure nn (a b:List Nat) (i carry:Nat) (out:List Nat):Prop where
 len:out.length=i
 dig:∀ d∈out,d<RR
 car:carry≤1
 eq:val RR out+carry*RR ^ i=val RR (a.take i)+val RR (b.take i)
theorem uY (a b:List Nat):nn a b 0 0 []:=⟨rfl,by simp,by omega,by simp⟩
theorem yP {a b out:List Nat}{i carry:Nat} (ha:∀ d∈a,d<RR) (hb:∀ d∈b,d<RR) (h:nn a b i carry out) :
  nn a b (i+1) ((carry+nth a i+nth b i) / RR) (out++[(carry+nth a i+nth b i) % RR]):=by
 have h1:=bY (j:=i) ha;have h2:=bY (j:=i) hb;have h3:=h.car;have he:=h.eq;refine⟨by simp[h.len],?_,?_,?_⟩
 ·intro d hd;rcases Gt.1 hd with hd | hd
  ·exact h.dig d hd
  ·rw[GC.1 hd];exact Gm _ (by decide)
 ·rw[gL] at *;omega
 ·rw[dS,h.len,gj,gj];have e4:=Gk (carry+nth a i+nth b i) RR;generalize (carry+nth a i+nth b i) / RR=q at *
  generalize (carry+nth a i+nth b i) % RR=r at *
  have hp:RR ^ (i+1)=RR*RR ^ i:=by rw[FH,FL]
  rw[hp];have:(RR*q+r)*RR ^ i=(carry+nth a i+nth b i)*RR ^ i:=by rw[e4]
  grind
theorem A6 {a b out:List Nat}{i:Nat} (h:nn a b i 0 out) (h1:a.length≤i) (h2:b.length≤i):val RR out=val RR a+val RR b:=by
 have he:=h.eq;rw[Fx h1,Fx h2] at he;omega
def SumD (w:World) (v:Value) (n:Nat):Prop:=∃ o,IsI w v o∧(∀ d∈o,d<RR)∧val RR o=n
theorem A5 (va vb:Value) (l m:List Nat) (w:World) (ha:IsI w va l) (hb:IsI w vb m) (hl:∀ d∈l,d<RR) (hm:∀ d∈m,d<RR) (hfl:l.length<1000000) (hfm:m.length<1000000) :
  Calls Tryz.prog 210 #[va,vb] w fun e w'=>∃ v,e=.returned v∧SumD w' v (val RR l+val RR m)∧Below w.heap.size w w':=by
 obtain⟨p,cap,rfl,hlc,hcm,hcell⟩:=ha;obtain⟨p',cap',rfl,hlc',hcm',hcell'⟩:=hb;unfold maxLen at hcm hcm';go_enter Tryz.func210,Tryz.ntmps210;go_wp2;go_loopw [5,6,7] (fun s5 s6 s7 wr=>∃ (i carry:Nat) (out:List Nat),s6=.int .i64 carry∧s7=.int .i64 i∧(i≤max l.length m.length∨(carry=0∧i=max l.length m.length+1))∧Hid (nn l m i carry out)∧Hid (dT wr w.heap.size s5 out)∧Below w.heap.size w wr) (fun _ _ s7 _=>max l.length m.length+1-(intOf s7).toNat)
 case atStart=>exact⟨0,0,[],rfl,rfl,Or.inl (Fz _),uY l m,World.ownsRow_nil _ _ _ _,Below.refl _ _⟩
 case round =>
  obtain⟨i,carry,out,rfl,rfl,hi,hst,hown,hbw⟩:=hrel;have hsz:=hbw.size;have hx:=bY (j:=i) hl;have hy:=bY (j:=i) hm;have hcar:=hst.out.car;have hol:=hst.out.len;have hstep:=Fi (yP hl hm hst.out);rw[gL] at hx hy hstep;obtain⟨x,hxe⟩:∃ x,x=nth l i:=⟨_,rfl⟩;obtain⟨y,hye⟩:∃ y,y=nth m i:=⟨_,rfl⟩;rw[←hxe] at hx hstep;rw[←hye] at hy hstep;by_cases hil:i<l.length
  ·obtain⟨b,o,rfl,hbb,hc⟩:=hcell (by omega);have hc1:=(hbw.cell (p:=⟨b,o+i,none⟩) hbb).trans (hc i hil);rw[←hxe] at hc1;have hilI:decide ((i:Int)<(l.length:Int))=true:=by simp;omega
   by_cases him:i<m.length
   ·obtain⟨b',o',rfl,hbb',hc'⟩:=hcell' (by omega);have hc1':=(hbw.cell (p:=⟨b',o'+i,none⟩) hbb').trans (hc' i him);rw[←hye] at hc1';clear hc hcell hc' hcell' hst hxe hye;have himI:decide ((i:Int)<(m.length:Int))=true:=by simp;omega
    have hr:((carry:Int)+x+y).tmod 10000=(((carry+x+y) % 10000:Nat):Int):=by rw[GI (by omega)];omega
    have hq:((carry:Int)+x+y).tdiv 10000=(((carry+x+y) / 10000:Nat):Int):=by rw[Gv (by omega)];omega
    go_wp2_with (at_builtin;refine bk 74 Tryz.underlying74 rfl (.tmp 44) (.tmp 47) rfl w.heap.size _ out _ _ hr rfl hown.out rfl (by omega) hsz ?_)
    intro v' w1 hown' hb';have hb1:=hb' _ _ hbw (Fq _);clear hown hbw hb';have HO:=Fi hown';clear hown';go_wp2;go_roundw;case rel=>exact⟨i+1,_,_,by first | rfl | (rw[hq]),by go_num,by omega,hstep,HO,hb1⟩
    case measure=>simp[intOf];omega
   ·have hy0:y=0:=by rw[hye];exact fB (by omega)
    subst hy0;clear hc hcell hcell' hst hxe hye;have himI:decide ((i:Int)<(m.length:Int))=false:=by simp;omega
    have hr:((carry:Int)+x).tmod 10000=(((carry+x+0) % 10000:Nat):Int):=by rw[GI (by omega)];omega
    have hq:((carry:Int)+x).tdiv 10000=(((carry+x+0) / 10000:Nat):Int):=by rw[Gv (by omega)];omega
    go_wp2_with (at_builtin;refine bk 74 Tryz.underlying74 rfl (.tmp 44) (.tmp 47) rfl w.heap.size _ out _ _ hr rfl hown.out rfl (by omega) hsz ?_)
    intro v' w1 hown' hb';have hb1:=hb' _ _ hbw (Fq _);clear hown hbw hb';have HO:=Fi hown';clear hown';go_wp2;go_roundw;case rel=>exact⟨i+1,_,_,by first | rfl | (rw[hq]),by go_num,by omega,hstep,HO,hb1⟩
    case measure=>simp[intOf];omega
  ·have hx0:x=0:=by rw[hxe];exact fB (by omega)
   subst hx0;have hilI:decide ((i:Int)<(l.length:Int))=false:=by simp;omega
   by_cases him:i<m.length
   ·obtain⟨b',o',rfl,hbb',hc'⟩:=hcell' (by omega);have hc1':=(hbw.cell (p:=⟨b',o'+i,none⟩) hbb').trans (hc' i him);rw[←hye] at hc1';clear hcell hc' hcell' hst hxe hye;have himI:decide ((i:Int)<(m.length:Int))=true:=by simp;omega
    have hr:((carry:Int)+y).tmod 10000=(((carry+0+y) % 10000:Nat):Int):=by rw[GI (by omega)];omega
    have hq:((carry:Int)+y).tdiv 10000=(((carry+0+y) / 10000:Nat):Int):=by rw[Gv (by omega)];omega
    go_wp2_with (at_builtin;refine bk 74 Tryz.underlying74 rfl (.tmp 44) (.tmp 47) rfl w.heap.size _ out _ _ hr rfl hown.out rfl (by omega) hsz ?_)
    intro v' w1 hown' hb';have hb1:=hb' _ _ hbw (Fq _);clear hown hbw hb';have HO:=Fi hown';clear hown';go_wp2;go_roundw;case rel=>exact⟨i+1,_,_,by first | rfl | (rw[hq]),by go_num,by omega,hstep,HO,hb1⟩
    case measure=>simp[intOf];omega
   ·have hy0:y=0:=by rw[hye];exact fB (by omega)
    subst hy0;have himI:decide ((i:Int)<(m.length:Int))=false:=by simp;omega
    by_cases hc0:0<carry
    ·have hcI:decide ((0:Int)<(carry:Int))=true:=by simp;omega
     clear hcell hcell' hst hxe hye;have hr:((carry:Int)).tmod 10000=(((carry+0+0) % 10000:Nat):Int):=by rw[GI (by omega)];omega
     have hq:((carry:Int)).tdiv 10000=(((carry+0+0) / 10000:Nat):Int):=by rw[Gv (by omega)];omega
     go_wp2_with (at_builtin;refine bk 74 Tryz.underlying74 rfl (.tmp 44) (.tmp 47) rfl w.heap.size _ out _ _ hr rfl hown.out rfl (by omega) hsz ?_)
     intro v' w1 hown' hb';have hb1:=hb' _ _ hbw (Fq _);clear hown hbw hb';have HO:=Fi hown';clear hown';go_wp2;go_roundw;case rel=>exact⟨i+1,_,_,by first | rfl | (rw[hq]),by go_num,by omega,hstep,HO,hb1⟩
     case measure=>simp[intOf];omega
    ·obtain rfl:carry=0:=by omega
     have hend:=Fi (A6 hst.out (by omega) (by omega));have hdg:=Fi hst.out.dig;have hoi:=Fi (dT.isU hown.out);clear hcell hcell' hst hxe hye hown;go_wp2;go_ret;exact⟨_,rfl,⟨_,hoi.out,hdg.out,hend.out⟩,hbw⟩
theorem zV (m:Bool) (a b:Nat):sgn m (a+b)=sgn m a+sgn m b:=by unfold sgn;cases m<;>simp;omega
theorem BS {m:Bool}{x:Int} (h:m=decide (x<0)):sgn m x.natAbs=x:=by subst h;exact oI x
structure o6 (w:World) (g:Nat) (ma:Bool) (p:Option Addr) (N c:Nat) (mb:Bool) (p':Option Addr) (N' c':Nat):Prop where
 s0:w.heap[g]?=some (.cells #[.bool ma,.slice p N c] 76 (0,0))
 s1:w.heap[g+1]?=some (.cells #[.bool mb,.slice p' N' c'] 76 (0,0))
 s2:w.heap[g+1+1]?=some (.cells #[.bool false,.slice none 0 0] 76 (0,0))
theorem o6.below {w w':World}{g:Nat}{ma:Bool}{p:Option Addr}{N c:Nat}{mb:Bool}{p':Option Addr}{N' c':Nat} (h:o6 w g ma p N c mb p' N' c') (hb:Below w.heap.size w w'):o6 w' g ma p N c mb p' N' c' :=
 ⟨(hb.block _ (ai h.s0)).trans h.s0,(hb.block _ (ai h.s1)).trans h.s1,(hb.block _ (ai h.s2)).trans h.s2⟩
open Go.RowKit Dg Dc
theorem EZ {t:ByteArray}{l:List UInt8} (h:t.data.toList=l):t=⟨l.toArray⟩:=by rw[←h]
theorem C2 {w:World}{p:Option Addr}{N c d:Nat} (h:IsD w (.slice p N c) d) (hd:0<d):(N=1∧nth (ar RR d) 0=1)↔d=1:=by
 rw[rg h]
 have hv:=aA aH d
 constructor
 ·rintro⟨h1,h2⟩
  generalize ar RR d=l at *
  match l,h1 with
  | [a],_=>simp[nth] at h2;subst h2;rw[←hv];rfl
 ·intro h
  subst h
  have:ar RR 1=[1]:=by
   have:=cH aH (l:=[1]) (by intro d hd;rw[GC.1 hd];decide)
   rw[show val RR [1]=1 from rfl] at this
   rw[←this];decide
  rw[this];exact⟨rfl,rfl⟩
theorem l7 (m:Bool) (p:Option Addr) (N c n:Nat) (w:World) (hv:IsD w (.slice p N c) n) (hf:bh n) :
  Calls Tryz.prog 220 #[.agg #[.bool m,.slice p N c]] w fun e w'=>e=.returned (.string ⟨((if m then [45] else [])++dec n).toArray⟩)∧Below w.heap.size w w':=by
 have hl:=aY w (.cells #[.bool m,.slice p N c] 76);have HD:=Fi (hv.below hl.below);have x0:=af hl.s0 0;have x1:=af hl.s0 1;have HB:=hl.below;clear hv hl;go_enter Tryz.func220,Tryz.ntmps220;go_upto_region 1 with fail
 generalize w.alloc (.cells #[.bool m,.slice p N c] 76)=w1 at *
 cases m
 all_goals
  go_wp2_with fail
  refine (uN _ n w1 HD.out hf).mono ?_;rintro e w2 ⟨t,rfl,ht,hts,rfl⟩;go_wp2_with fail
  go_ret;refine⟨?_,HB⟩;have ht':=EZ ht.out;subst ht'
  first | rfl | (congr 2;simp) | (show Ending.returned _=Ending.returned _;congr 2;simp)
theorem k9 (m:Bool) (p:Option Addr) (N c n:Nat) (w:World) (hv:IsD w (.slice p N c) n) (hf:bh n) :
  Calls Tryz.prog 176 #[.agg #[.bool m,.slice p N c]] w fun e w'=>e=.returned (.bool (decide (2000<(dec n).length)))∧Below w.heap.size w w':=by
 have hl:=aY w (.cells #[.bool m,.slice p N c] 76);have HD:=Fi (hv.below hl.below);have x1:=af hl.s0 1;have HB:=hl.below;clear hv hl;go_enter Tryz.func176,Tryz.ntmps176;go_upto_region 1 with fail
 generalize w.alloc (.cells #[.bool m,.slice p N c] 76)=w1 at *
 go_wp2_with fail
 refine (A2 _ n w1 HD.out hf).mono ?_;rintro e w2 ⟨rfl,rfl⟩;have hd:decide ((2000:Int)<((dec n).length:Nat))=decide (2000<(dec n).length):=by rw[decide_eq_decide];omega
 have HDD:=Fi hd;clear hd;go_wp2_with fail
 go_ret;refine⟨?_,HB⟩;rw[←HDD.out];rfl
theorem lT (v:Value) (r:Rt) (w:World) (hv:dr w v r) :
  Calls Tryz.prog 174 #[v] w fun e w'=>e=.returned (.bool (decide (r.n=0)))∧Below w.heap.size w w':=by
 obtain⟨p,N,c,p',N',c',rfl,hN,hNc,hcm,hN',hNc',hcm',hdn,hdd⟩:=hv.parts;have hl:=aY w (.cells #[.bool r.minus,.slice p N c,.bool false,.slice p' N' c'] 78);have x1:=af hl.s0 1;have HB:=hl.below
 have hz:Hid (((N:Int) == 0)=decide (r.n=0)):=by
  have:=eL hdn;unfold Hid;rw[Hf];simp;omega
 clear hl hv;generalize r.minus=m at *
 go_enter Tryz.func174,Tryz.ntmps174;go_wp2_with fail
 go_ret;refine⟨?_,HB⟩;rw[←hz.out];rfl
theorem th {w:World}{p:Option Addr}{N c n j:Nat} (h:IsD w (.slice p N c) n) (hj:j<N):∃ b o,p=some ⟨b,o,none⟩∧b<w.heap.size∧w.cell? ⟨b,o+j,none⟩=some (.int .i64 (nth (ar RR n) j)):=by
 have hl:=rg h;obtain⟨p',c',e,h1,h2,h3⟩:=h;obtain⟨rfl,_,rfl⟩:p'=p∧N=(ar RR n).length∧c'=c:=by simp at e;exact⟨e.1.symm,e.2.1,e.2.2.symm⟩
 obtain⟨b,o,e2,hb,hc⟩:=h3 (by omega);exact⟨b,o,e2,hb,hc j (by omega)⟩
theorem qS {n:Nat} (h:bh n):(dec n).length≤400004:=by
 have h1:=bG aH n;rw[vv] at h1;unfold bh at h;have h2:=bC (k:=4*(ar RR n).length+1) (by omega) (Ft h1 (FI (by omega) (by omega)));omega
theorem qv {m:Bool}{n:Nat} (h:bh n):(⟨((if m then [45] else [])++dec n).toArray⟩:ByteArray).size≤400005:=by
 have:=qS h;have h2:=eS (t:=(⟨((if m then [45] else [])++dec n).toArray⟩:ByteArray)) (l:=(if m then [45] else [])++dec n) (by simp);rw[h2]
 cases m<;>simp<;>omega
theorem it (v:Value) (r:Rt) (w:World) (hv:dr w v r) (hd0:0<r.d) (hfn:bh r.n) (hfd:bh r.d) :
  Calls Tryz.prog 175 #[v] w fun e w'=>e=.returned (.string ⟨(aL r).toArray⟩)∧Below w.heap.size w w':=by
 obtain⟨p,N,c,p',N',c',rfl,hN,hNc,hcm,hN',hNc',hcm',hdn,hdd⟩:=hv.parts;obtain⟨m,n,d⟩:=r;simp only at *
 have hl:=aY w (.cells #[.bool m,.slice p N c,.bool false,.slice p' N' c'] 78);have HDN:=Fi (hdn.below hl.below);have HDD:=Fi (hdd.below hl.below);have x0:=af hl.s0 0;have x1:=af hl.s0 1;have x2:=af hl.s0 2;have x3:=af hl.s0 3;have HB:=hl.below;have HL:=Fi (ai hl.s0);have hone:=C2 hdd hd0;have hst1:=qv (m:=m) hfn;have hst2:=qv (m:=false) hfd;have HT:Hid (aL ⟨m,n,d⟩=(if m then [45] else [])++dec n++(if 1<d then 47 :: dec d else [])):=rfl;have HF:=Fi hfn;have HF':=Fi hfd;clear hv hl hdn hfn hfd;go_enter Tryz.func175,Tryz.ntmps175;go_upto_region 1 with fail
 generalize w.alloc (.cells #[.bool m,.slice p N c,.bool false,.slice p' N' c'] 78)=w1 at *
 obtain⟨t1,ht1⟩:∃ t1:ByteArray,t1=⟨((if m then [45] else [])++dec n).toArray⟩:=⟨_,rfl⟩;rw[←ht1] at hst1;have HT1:=Fi (l7 m p N c n w1 HDN.out HF.out);rw[←ht1] at HT1;by_cases h1:d=1
 ·obtain⟨hN1,hn1⟩:=hone.2 h1;obtain⟨b,o,rfl,hb,hc⟩:=th HDD.out (show 0<N' by omega);rw[F8] at hc;rw[hn1] at hc;have hN1':((N':Int) == 1)=true:=by simp;omega
  have HR:Hid ((⟨(aL ⟨m,n,d⟩).toArray⟩:ByteArray)=t1):=by unfold Hid;rw[HT.out,if_neg (show ¬ 1<d by omega),Gz,ht1]
  clear hone hn1 hst1 hst2 h1 ht1;go_wp2_with fail
  refine HT1.out.mono ?_;rintro e w2 ⟨rfl,hb2⟩;have HEND:=HB.trans (hb2.mono HB.size);go_wp2_with fail
  go_ret;exact⟨by rw[HR.out];rfl,HEND⟩
 ·obtain⟨t2,ht2⟩:∃ t2:ByteArray,t2=⟨((if false then [45] else [])++dec d).toArray⟩:=⟨_,rfl⟩;rw[←ht2] at hst2;have HA:Hid (lC w1 220 #[.agg #[.bool m,.slice p N c]] ((.string t1))):=fun y=>a8.calls (by rw[ht1];exact l7 m p N c n y.w (HDN.out.below y.h) HF.out);have HB2:Hid (lC w1 220 #[.agg #[.bool false,.slice p' N' c']] ((.string t2))):=fun y=>a8.calls (by rw[ht2];exact l7 false p' N' c' d y.w (HDD.out.below y.h) HF'.out);have y0:∀ y:a8 w1,y.w.cell? ⟨w.heap.size,0,none⟩=some (.bool m):=fun y=>(y.cell HL.out).trans x0;have y1:∀ y:a8 w1,y.w.cell? ⟨w.heap.size,1,none⟩=some (.slice p N c):=fun y=>(y.cell HL.out).trans x1;have y2:∀ y:a8 w1,y.w.cell? ⟨w.heap.size,2,none⟩=some (.bool false):=fun y=>(y.cell HL.out).trans x2;have y3:∀ y:a8 w1,y.w.cell? ⟨w.heap.size,3,none⟩=some (.slice p' N' c'):=fun y=>(y.cell HL.out).trans x3
  have HR:Hid ((⟨(aL ⟨m,n,d⟩).toArray⟩:ByteArray)=t1++⟨#[47]⟩++t2):=by
   unfold Hid;rw[HT.out,if_pos (show 1<d by omega),ht1,ht2]
   apply ByteArray.ext
   simp
  clear ht1 ht2;by_cases hN1:N'=1
  ·obtain⟨b,o,rfl,hb,hc⟩:=th HDD.out (show 0<N' by omega);rw[F8] at hc;have hnn:nth (ar RR d) 0≠1:=fun e=>h1 (hone.1 ⟨hN1,e⟩);generalize nth (ar RR d) 0=u at *
   have hu:((u:Int) == 1)=false:=by simp;omega
   have hN1':((N':Int) == 1)=true:=by simp;omega
   have hNp:0<N':=by omega
   have HN1:=Fi hN1;clear hone h1 hnn hN1;go_upto_region 3 with fail
   clear x0 x1 x2 x3;refine cW (by kernel_rfl) (by kernel_rfl) ?_;repeat (go_big_quiet_step ((go_at_call 220;first | with_reducible exact HA.out _ | with_reducible exact HB2.out _)))
   refine wpQuiet_nil ?_;rintro _ ⟨⟨w2,hbN⟩,rfl⟩;have HEND:=HB.trans (hbN.mono HB.size);clear HA HB2 y0 y1 y2 y3;go_wp2_with fail
   go_ret;exact⟨by rw[HR.out];rfl,HEND⟩
  ·have hN1':((N':Int) == 1)=false:=by simp;omega
   clear hone h1;go_upto_region 3 with fail
   clear x0 x1 x2 x3;refine cW (by kernel_rfl) (by kernel_rfl) ?_;repeat (go_big_quiet_step ((go_at_call 220;first | with_reducible exact HA.out _ | with_reducible exact HB2.out _)))
   refine wpQuiet_nil ?_;rintro _ ⟨⟨w2,hbN⟩,rfl⟩;have HEND:=HB.trans (hbN.mono HB.size);clear HA HB2 y0 y1 y2 y3;go_wp2_with fail
   go_ret;exact⟨by rw[HR.out];rfl,HEND⟩
theorem IsC.parts {w:World}{v:Value}{z:Vl} (h:IsC w v z):∃ p0 n0 c0 p1 n1 c1 p2 n2 c2 p3 n3 c3,v=.agg #[.bool z.x.minus,.slice p0 n0 c0,.bool false,.slice p1 n1 c1,.bool z.y.minus,.slice p2 n2 c2,.bool false,.slice p3 n3 c3] ∧
  dr w (.agg #[.bool z.x.minus,.slice p0 n0 c0,.bool false,.slice p1 n1 c1]) z.x∧dr w (.agg #[.bool z.y.minus,.slice p2 n2 c2,.bool false,.slice p3 n3 c3]) z.y:=by
 obtain⟨a,b,c,d,rfl,h1,h2,h3,h4⟩:=h;obtain⟨p0,n0,c0,rfl,_⟩:=h1.parts;obtain⟨p1,n1,c1,rfl,_⟩:=h2.parts;obtain⟨p2,n2,c2,rfl,_⟩:=h3.parts;obtain⟨p3,n3,c3,rfl,_⟩:=h4.parts;exact⟨p0,n0,c0,p1,n1,c1,p2,n2,c2,p3,n3,c3,rfl,⟨_,_,rfl,h1,h2⟩,⟨_,_,rfl,h3,h4⟩⟩
theorem iR {r:Rt} (h1:bh r.n) (h2:bh r.d):(⟨(aL r).toArray⟩:ByteArray).size≤900000:=by
 have a:=qS h1;have b:=qS h2;rw[eS (t:=(⟨(aL r).toArray⟩:ByteArray)) (l:=aL r) (by simp)];unfold aL;simp only[FA]
 split<;>split<;>simp<;>omega
theorem lz (v:Value) (z:Vl) (w:World) (hv:IsC w v z) (hdx:0<z.x.d) (hdy:0<z.y.d) (hfx:bh z.x.n) (hfx':bh z.x.d) (hfy:bh z.y.n) (hfy':bh z.y.d) :
  Calls Tryz.prog 119 #[v] w fun e w'=>e=.returned (.string ⟨(bQ z).toArray⟩)∧Below w.heap.size w w':=by
 obtain⟨p0,n0,c0,p1,n1,c1,p2,n2,c2,p3,n3,c3,rfl,hx,hy⟩:=hv.parts;obtain⟨x,y⟩:=z;simp only at *
 obtain⟨mx,hmx⟩:∃ mx,mx=x.minus:=⟨_,rfl⟩;obtain⟨my,hmy⟩:∃ my,my=y.minus:=⟨_,rfl⟩;rw[←hmx] at hx ⊢;rw[←hmy] at hy ⊢;have HMY:=Fi hmy;have hl:=aY w (.cells #[.bool mx,.slice p0 n0 c0,.bool false,.slice p1 n1 c1,.bool my,.slice p2 n2 c2,.bool false,.slice p3 n3 c3] 83);have HX:=Fi (hx.below hl.below);have HY:=Fi (hy.below hl.below);have r0:=hl.s0;have HB:=hl.below;have HV0:Hid (bQ ⟨x,y⟩=if y.n=0 then aL x else (if x.n=0 then [] else aL x++(if y.minus then [] else [43]))++bH y++[105]):=rfl;clear hv hl hx hy hmx hmy;have q4:=af r0 4;have q5:=af r0 5;have q6:=af r0 6;have q7:=af r0 7;go_enter Tryz.func119,Tryz.ntmps119;go_upto_region 1 with fail
 generalize w.alloc (.cells #[.bool mx,.slice p0 n0 c0,.bool false,.slice p1 n1 c1,.bool my,.slice p2 n2 c2,.bool false,.slice p3 n3 c3] 83)=w1 at *
 go_wp2_with fail
 refine (lT _ y w1 HY.out).mono ?_;rintro e w2 ⟨rfl,hb2⟩;have HX2:=Fi (HX.out.below hb2);have HY2:=Fi (HY.out.below hb2);have r2:=(hb2.block _ (ai r0)).trans r0;have HB2:=HB.trans (hb2.mono HB.size);clear q4 q5 q6 q7 r0 HX HY hb2 HB;have q0:=af r2 0;have q1:=af r2 1;have q2:=af r2 2;have q3:=af r2 3;by_cases hyz:y.n=0
 ·have hyd:decide (y.n=0)=true:=by simp[hyz]
  have HV:Hid (bQ ⟨x,y⟩=aL x):=by unfold Hid;rw[HV0.out,if_pos hyz]
  rw[hyd];clear hyz hyd;go_wp2_with fail
  refine (it _ x w2 HX2.out hdx hfx hfx').mono ?_;rintro e w3 ⟨rfl,hb3⟩;have HEND:=HB2.trans (hb3.mono HB2.size);go_wp2_with fail
  go_ret;exact⟨by rw[HV.out];rfl,HEND⟩
 ·have hyd:decide (y.n=0)=false:=by simp[hyz]
  rw[hyd];clear hyd;go_wp2_with fail
  refine (lT _ x w2 HX2.out).mono ?_;rintro e w3 ⟨rfl,hb3⟩;have HX3:=Fi (HX2.out.below hb3);have HY3:=Fi (HY2.out.below hb3);have r3:=(hb3.block _ (ai r2)).trans r2;have HB3:=HB2.trans (hb3.mono HB2.size);clear q0 q1 q2 q3 r2 HX2 HY2 hb3 HB2;by_cases hxz:x.n=0
  ·have hxd:decide (x.n=0)=true:=by simp[hxz]
   have HV:Hid (bQ ⟨x,y⟩=bH y++[105]):=by unfold Hid;rw[HV0.out,if_neg hyz,if_pos hxz];rfl
   rw[hxd];clear hxz hxd hyz HV0;have q4:=af r3 4;have q5:=af r3 5;have q6:=af r3 6;have q7:=af r3 7;go_wp2_with fail
   have HY4:=HY3;have HB4:=HB3;have r4:=r3;clear HY3 HB3 r3 HX3;refine (it _ y w3 HY4.out hdy hfy hfy').mono ?_;rintro e w5 ⟨rfl,hb5⟩;have HEND:=HB4.trans (hb5.mono HB4.size);obtain⟨ty,hty⟩:∃ ty:ByteArray,ty=⟨(aL y).toArray⟩:=⟨_,rfl⟩;have htl:ty.toList=aL y:=by rw[hty,ax]
   have hsy:ty.size≤900000:=by rw[hty];exact iR hfy hfy'
   rw[←hty];have HTY:=Fi hty;clear hty hb5 r4;by_cases e1:aL y=[49]
   ·have z1:(ty.toList == [49])=true:=by rw[htl,e1];rfl
    have HE:=Fi e1;clear htl e1;go_wp2_with fail
    go_ret;refine⟨?_,HEND⟩;rw[HV.out]
    show Ending.returned (Value.string _)=Ending.returned (Value.string _)
    congr 2
    apply ByteArray.ext
    simp[bH,HE.out,F7]
   ·by_cases e2:aL y=[45,49]
    ·have z1:(ty.toList == [49])=false:=by rw[htl,e2];rfl
     have z2:(ty.toList == [45,49])=true:=by rw[htl,e2];rfl
     have HE:=Fi e2;clear htl e1 e2;go_wp2_with fail
     go_ret;refine⟨?_,HEND⟩;rw[HV.out]
     show Ending.returned (Value.string _)=Ending.returned (Value.string _)
     congr 2
     apply ByteArray.ext
     simp[bH,HE.out,F7]
    ·have z1:(ty.toList == [49])=false:=by rw[htl];simpa using e1
     have z2:(ty.toList == [45,49])=false:=by rw[htl];simpa using e2
     have HE:Hid (bH y=aL y):=by unfold Hid bH;rw[if_neg (by rintro (h | h);exact e1 h;exact e2 h)]
     clear htl e1 e2;go_wp2_with fail
     go_ret;refine⟨?_,HEND⟩;rw[HV.out]
     show Ending.returned (Value.string _)=Ending.returned (Value.string _)
     congr 2
     apply ByteArray.ext
     simp[HE.out,HTY.out,F7]
  ·have hxd:decide (x.n=0)=false:=by simp[hxz]
   rw[hxd];clear hxd;have q0:=af r3 0;have q1:=af r3 1;have q2:=af r3 2;have q3:=af r3 3;go_wp2_with fail
   refine (it _ x w3 HX3.out hdx hfx hfx').mono ?_;rintro e w4 ⟨rfl,hb4⟩;have HY4:=Fi (HY3.out.below hb4);have r4:=(hb4.block _ (ai r3)).trans r3;have HB4:=HB3.trans (hb4.mono HB3.size);clear q0 q1 q2 q3 r3 HX3 HY3 hb4 HB3;obtain⟨tx,htx⟩:∃ tx:ByteArray,tx=⟨(aL x).toArray⟩:=⟨_,rfl⟩;have hsx:tx.size≤900000:=by rw[htx];exact iR hfx hfx'
   rw[←htx];have HTX:=Fi htx;clear htx;have q4:=af r4 4;have q5:=af r4 5;have q6:=af r4 6;have q7:=af r4 7
   cases my
   ·have HV:Hid (bQ ⟨x,y⟩=aL x++[43]++bH y++[105]):=by unfold Hid;rw[HV0.out,if_neg hyz,if_neg hxz,←HMY.out];rfl
    clear hxz hyz HV0;go_wp2_with fail
    refine (it _ y w4 HY4.out hdy hfy hfy').mono ?_;rintro e w5 ⟨rfl,hb5⟩;have HEND:=HB4.trans (hb5.mono HB4.size);obtain⟨ty,hty⟩:∃ ty:ByteArray,ty=⟨(aL y).toArray⟩:=⟨_,rfl⟩;have htl:ty.toList=aL y:=by rw[hty,ax]
    have hsy:ty.size≤900000:=by rw[hty];exact iR hfy hfy'
    rw[←hty];have HTY:=Fi hty;clear hty hb5 r4;by_cases e1:aL y=[49]
    ·have z1:(ty.toList == [49])=true:=by rw[htl,e1];rfl
     have HE:=Fi e1;clear htl e1;go_wp2_with fail
     go_ret;refine⟨?_,HEND⟩;rw[HV.out]
     show Ending.returned (Value.string _)=Ending.returned (Value.string _)
     congr 2
     apply ByteArray.ext
     simp[bH,HE.out,HTX.out]
    ·by_cases e2:aL y=[45,49]
     ·have z1:(ty.toList == [49])=false:=by rw[htl,e2];rfl
      have z2:(ty.toList == [45,49])=true:=by rw[htl,e2];rfl
      have HE:=Fi e2;clear htl e1 e2;go_wp2_with fail
      go_ret;refine⟨?_,HEND⟩;rw[HV.out]
      show Ending.returned (Value.string _)=Ending.returned (Value.string _)
      congr 2
      apply ByteArray.ext
      simp[bH,HE.out,HTX.out]
     ·have z1:(ty.toList == [49])=false:=by rw[htl];simpa using e1
      have z2:(ty.toList == [45,49])=false:=by rw[htl];simpa using e2
      have HE:Hid (bH y=aL y):=by unfold Hid bH;rw[if_neg (by rintro (h | h);exact e1 h;exact e2 h)]
      clear htl e1 e2;go_wp2_with fail
      go_ret;refine⟨?_,HEND⟩;rw[HV.out]
      show Ending.returned (Value.string _)=Ending.returned (Value.string _)
      congr 2
      apply ByteArray.ext
      simp[HE.out,HTY.out,HTX.out]
   ·have HV:Hid (bQ ⟨x,y⟩=aL x++bH y++[105]):=by unfold Hid;rw[HV0.out,if_neg hyz,if_neg hxz,←HMY.out];simp
    clear hxz hyz HV0;go_wp2_with fail
    refine (it _ y w4 HY4.out hdy hfy hfy').mono ?_;rintro e w5 ⟨rfl,hb5⟩;have HEND:=HB4.trans (hb5.mono HB4.size);obtain⟨ty,hty⟩:∃ ty:ByteArray,ty=⟨(aL y).toArray⟩:=⟨_,rfl⟩;have htl:ty.toList=aL y:=by rw[hty,ax]
    have hsy:ty.size≤900000:=by rw[hty];exact iR hfy hfy'
    rw[←hty];have HTY:=Fi hty;clear hty hb5 r4;by_cases e1:aL y=[49]
    ·have z1:(ty.toList == [49])=true:=by rw[htl,e1];rfl
     have HE:=Fi e1;clear htl e1;go_wp2_with fail
     go_ret;refine⟨?_,HEND⟩;rw[HV.out]
     show Ending.returned (Value.string _)=Ending.returned (Value.string _)
     congr 2
     apply ByteArray.ext
     simp[bH,HE.out,HTX.out]
    ·by_cases e2:aL y=[45,49]
     ·have z1:(ty.toList == [49])=false:=by rw[htl,e2];rfl
      have z2:(ty.toList == [45,49])=true:=by rw[htl,e2];rfl
      have HE:=Fi e2;clear htl e1 e2;go_wp2_with fail
      go_ret;refine⟨?_,HEND⟩;rw[HV.out]
      show Ending.returned (Value.string _)=Ending.returned (Value.string _)
      congr 2
      apply ByteArray.ext
      simp[bH,HE.out,HTX.out]
     ·have z1:(ty.toList == [49])=false:=by rw[htl];simpa using e1
      have z2:(ty.toList == [45,49])=false:=by rw[htl];simpa using e2
      have HE:Hid (bH y=aL y):=by unfold Hid bH;rw[if_neg (by rintro (h | h);exact e1 h;exact e2 h)]
      clear htl e1 e2;go_wp2_with fail
      go_ret;refine⟨?_,HEND⟩;rw[HV.out]
      show Ending.returned (Value.string _)=Ending.returned (Value.string _)
      congr 2
      apply ByteArray.ext
      simp[HE.out,HTY.out,HTX.out]
end Go.Proofs.YtbnkpcfjechfiaaGreatDoor
