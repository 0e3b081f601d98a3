/- Lemmas of this claim. -/
import Derived.Test.YtnkgbocdpngldaaGreatDoorXMach
import Derived.Test.YtnkgbocdpngldaaGreatDoorXNev
import Derived.Test.YtnkgbocdpngldaaGreatDoorXSta3
import Derived.Test.YtnkgbocdpngldaaGreatDoorXRA9
import Derived.Test.YtnkgbocdpngldaaGreatDoorXRB1
set_option linter.all false
set_option maxRecDepth 100000
set_option maxHeartbeats 8000000
namespace Go.Proofs.YtnkgbocdpngldaaGreatDoor
open Go.RowKit Dc Dg
theorem tm (gs:List Gd) (p:Option Addr) (c:Nat) (pa:Option Addr) (na ca:Nat) (pf:Option Addr) (nf cf:Nat) (al fl:List Int) (w:World) (hP:d8 w p c gs) (hA:aN w (.slice pa na ca) al) (hF:aN w (.slice pf nf cf) fl) :
  Calls Tryz.prog 41 #[.agg #[.slice p gs.length c],.agg #[.slice pa na ca,.slice pf nf cf]] w (qP gs al fl w):=by
 have S0:=SB.new hP hA hF
 clear hP hA hF
 go_enter Tryz.func41,Tryz.ntmps41
 go_upto_region 1 with fail
 generalize (w.alloc (.cells #[.slice p gs.length c] 24)).alloc (.cells #[.slice pa na ca,.slice pf nf cf] 41)=w1 at *
 have x0:=S0.c0;have x1:=S0.c1;have x2:=S0.c2
 go_wp2_with fail
 refine (dP gs p c pa na ca pf nf cf al fl w1 S0.P S0.ia S0.jf).mono ?_
 rintro e w2 ⟨n,rfl,hn,hb2⟩
 have S2:=S0.below hb2
 clear S0 hb2 x0 x1 x2
 rcases hn with ⟨hn,hbe⟩ | ⟨rfl,hsy,y,hy⟩
 ·have hd:(n != 0)=true:=by simp[hn]
  have HN:=C5 hn
  clear hn
  go_wp2
  go_ret2
  exact⟨S2.bl,Or.inl ⟨n,HN.out,hbe,rfl⟩⟩
 ·obtain⟨hna,hnf⟩:=n7 hsy hy S2.ia S2.jf
  subst hna
  obtain⟨hn1,hn3⟩:=a_ hsy
  have HSy:=C5 hsy
  have HY:=C5 hy
  have hA2:=S2.ia
  rw[hy.a] at hA2
  have HA2:=C5 hA2
  have HCL:=C5 (jm hsy hy.at_)
  have HSZ:=S2.bl.size
  clear hsy hy hA2 hnf
  go_wp2_with fail
  go_loopw [7,8] (fun s7 s8 wx=>∃ (i:Nat) (v:Value),s8=.int .i64 i∧s7=v∧i≤gs.length∧Below w2.heap.size w2 wx∧ClR w2.heap.size wx v (iv gs y i)) (fun _ s8 _=>gs.length-(intOf s8).toNat)
  case atStart=>exact⟨0,_,rfl,rfl,by omega,Below.refl _ _,ClR.nil _ _⟩
  case round =>
   obtain⟨i,v,rfl,rfl,hi,hb,hv⟩:=hrel
   have S3:=S2.below hb
   have x0:=S3.c0;have x1:=S3.c1;have x2:=S3.c2
   by_cases hil:i<gs.length
   ·have hiI:(i:Int)<(gs.length:Int):=by omega
    obtain⟨qa,da,qb,db,_,hLP,HC⟩:=lk (pf:=pf) (nf:=nf) (cf:=cf) (c:=c) S3.P.G (HA2.out.below hb) HSy.out HY.out.at_ hil
    have hkr:(y.a i).toNat<(ag gs i).length:=(kE HSy.out HY.out.at_ hil).2
    have hll:=lE HSy.out hil hkr
    have hcs:=ke gs y i
    obtain⟨r,hr⟩:∃ r,r=aK gs i (y.a i).toNat:=⟨_,rfl⟩
    rw[←hr] at HC hLP hll hcs
    have HCS:=C5 hcs
    have hfd:=fun wx:World=>v_ wx r.name r.next r.back r.tries r.minutes qa r.needs.length da qb r.loops.length db
    have HLN:Hid ((iv gs y i).length+r.loops.length≤1000000):=by have:=HCL.out i (by omega);unfold Hid;omega
    clear hr hkr hll hcs S3
    go_wp2_with fail
    refine (HC _ (Below.refl _ _)).mono ?_
    rintro e w4 ⟨rfl,hb4⟩
    have HV:=C5 (hv.below hb4)
    have HLP:=C5 (hLP.below hb4)
    have hb:=hb.trans (hb4.mono hb.size)
    have HLE:=C5 hb.size
    clear HC x0 x1 x2 hb4 hLP hv
    go_wp2_with (at_builtin;refine wpList_plain rfl (fun K hK=>?_);refine uC _ _ rfl w2.heap.size _ (iv gs y i) rfl HV.out HLE.out qb _ db r.loops rfl rfl HLP.out HLN.out ?_;intro v' w' hv' hg';refine hK _ _ ?_;clear hK K)
    have hb':=hb.grown hg' hb.size (fun k hk=>(av HV.out hk).1)
    exact⟨⟨i+1,v',by first | rfl | go_num,rfl,by omega,hb',by rw[HCS.out];exact hv'⟩,by simp[intOf];omega⟩
   ·obtain rfl:i=gs.length:=by omega
    clear hil hi
    obtain⟨pv,cv,rfl⟩:=hv.slice
    go_wp2
    go_ret2
    exact⟨S3.bl,Or.inr ⟨y,_,HSy.out,HY.out,rfl,fM hv HSZ⟩⟩
theorem AM (gs:List Gd) (p:Option Addr) (c:Nat) (w:World) (v:Value) (al fl:List Int) (hP:d8 w p c gs) (hQ:kz w v al fl) :
  Calls Tryz.prog 40 #[.agg #[.slice p gs.length c],v] w (qP gs al fl w):=by
 obtain⟨u1,u2,rfl,hI1,hI2⟩:=hQ.at_
 obtain⟨p1,c1,rfl,-⟩:=hI1.at_
 obtain⟨p2,c2,rfl,-⟩:=hI2.at_
 have hb1:Below w.heap.size w ((w.alloc (.cells #[.slice p gs.length c] 24)).alloc (.cells #[.slice p1 al.length c1,.slice p2 fl.length c2] 41)):=((Below.refl _ _).alloc (C6 _) _).alloc (by simp) _
 have s0:((w.alloc (.cells #[.slice p gs.length c] 24)).alloc (.cells #[.slice p1 al.length c1,.slice p2 fl.length c2] 41)).heap[w.heap.size]?=some (.cells #[.slice p gs.length c] 24 (0,0)):=(heap_alloc_old _ _ (by simp)).trans (heap_alloc_new _ _)
 have s1:((w.alloc (.cells #[.slice p gs.length c] 24)).alloc (.cells #[.slice p1 al.length c1,.slice p2 fl.length c2] 41)).heap[w.heap.size+1]?=some (.cells #[.slice p1 al.length c1,.slice p2 fl.length c2] 41 (0,0)):=by
  have:=heap_alloc_new (w.alloc (.cells #[.slice p gs.length c] 24)) (.cells #[.slice p1 al.length c1,.slice p2 fl.length c2] 41)
  simpa using this
 have P1:=hP.below hb1
 have Q1:=hQ.below hb1
 have x0:=ac s0 0
 have x1:=ac s1 0
 have x2:=ac s1 1
 go_enter Tryz.func40,Tryz.ntmps40
 go_upto_region 1 with fail
 generalize (w.alloc (.cells #[.slice p gs.length c] 24)).alloc (.cells #[.slice p1 al.length c1,.slice p2 fl.length c2] 41)=w1 at *
 refine wp_region_lit ?_
 refine wpList_plain rfl (fun K hK=>?_)
 go_simp
 refine hK _ _ ?_
 clear hK K
 try simp only[Act.put,C4,C2,C3,CY,C1,CZ]
 refine wpList_plain rfl (fun K hK=>?_)
 go_simp
 refine hK _ _ ?_
 clear hK K
 try simp only[Act.put,C4,C2,C3,CY,C1,CZ]
 refine wpList_plain rfl (fun K hK=>?_)
 go_simp
 refine (pU gs p c w1 (.agg #[.slice p1 al.length c1,.slice p2 fl.length c2]) al fl P1 Q1).mono ?_
 intro e w2 hq
 obtain⟨pm,y,n,rfl,hq,hb2⟩:=hq.one
 refine hK _ _ ?_
 clear hK K
 try simp only[Act.put,C4,C2,C3,CY,C1,CZ]
 clear s0 s1 x0 x1 x2 P1 Q1
 have HB2:=hb1.trans (hb2.mono hb1.size)
 clear hb2 hb1
 refine wpList_plain rfl (fun K hK=>?_)
 go_simp
 refine hK _ _ ?_
 clear hK K
 try simp only[Act.put,C4,C2,C3,CY,C1,CZ]
 refine wpList_plain rfl (fun K hK=>?_)
 go_simp
 refine hK _ _ ?_
 clear hK K
 try simp only[Act.put,C4,C2,C3,CY,C1,CZ]
 refine wpList_plain rfl (fun K hK=>?_)
 go_simp
 refine hK _ _ ?_
 clear hK K
 try simp only[Act.put,C4,C2,C3,CY,C1,CZ]
 refine wpList_plain rfl (fun K hK=>?_)
 go_simp
 refine hK _ _ ?_
 clear hK K
 try simp only[Act.put,C4,C2,C3,CY,C1,CZ]
 have z0:StP (w2.alloc (.cells #[.int .i64 0,.int .i64 0,.int .i64 0,.int .i64 0,.int .i64 0,.int .i64 0] 87)) w2.heap.size St.zero:=StP.new w2 St.zero
 have hB5:Below w2.heap.size w2 (w2.alloc (.cells #[.int .i64 0,.int .i64 0,.int .i64 0,.int .i64 0,.int .i64 0,.int .i64 0] 87)):=(Below.refl _ _).alloc (C6 _) _
 refine wpList_plain rfl (fun K hK=>?_)
 go_simp
 refine hK _ _ ?_
 clear hK K
 try simp only[Act.put,C4,C2,C3,CY,C1,CZ]
 generalize w2.alloc (.cells #[.int .i64 0,.int .i64 0,.int .i64 0,.int .i64 0,.int .i64 0,.int .i64 0] 87)=w5 at z0 hB5 ⊢
 refine wpList_plain rfl (fun K hK=>?_)
 go_simp
 refine hK _ _ ?_
 clear hK K
 try simp only[Act.put,C4,C2,C3,CY,C1,CZ]
 have q0:=z0.cell 0;have q1:=z0.cell 1;have q2:=z0.cell 2;have q3:=z0.cell 3;have q4:=z0.cell 4;have q5:=z0.cell 5
 have f0:=z0.fr 0;have f1:=z0.fr 1;have f2:=z0.fr 2;have f3:=z0.fr 3;have f4:=z0.fr 4;have f5:=z0.fr 5
 refine wpList_plain rfl (fun K hK=>?_)
 go_simp
 refine hK _ _ ?_
 clear hK K q0 q1 q2 q3 q4 q5 f0 f1 f2 f3 f4 f5
 try simp only[Act.put,C4,C2,C3,CY,C1,CZ]
 change wpList _ _ _ _ _ (bh w5 w2.heap.size y)
 have hB6:=hB5.trans (bo (w:=w5) (b:=w2.heap.size) (z:=y) (C6 _))
 have SP:=z0.put y
 generalize bh w5 w2.heap.size y=w6 at hB6 SP ⊢
 have HB6:=HB2.trans (hB6.mono HB2.size)
 rcases hq with ⟨hn0,hbe⟩ | ⟨rfl,hS,hok,m,vn,vb,mb,N,s,f,rfl,hM⟩
 ·have hd:(n != 0)=true:=by simp[hn0]
  have hEnd:Hid (qP gs al fl w (.returned (.tuple #[.slice none 0 0,.int .i64 n])) w6):=⟨HB6,Or.inl ⟨n,hn0,hbe,rfl⟩⟩
  clear hn0 hbe SP z0
  go_wp2_with fail
  go_ret2
  exact hEnd.out
 ·have M6:=hM.below hB6
  obtain⟨hn1,hn3⟩:=a_ hS
  have HS:=C5 hS
  have HOK:=C5 hok
  have HCL:=C5 (jm hS hok.at_)
  have HSZ:=HB6.size
  have m0:=M6.m0
  generalize w2.heap.size=sb at SP ⊢
  clear z0 hM hB6 hB5 hS hok
  go_wp2_with fail
  clear m0
  go_loopw [9,28] (fun s9 s28 wx=>∃ (i:Nat) (v:Value),s28=.int .i64 i∧s9=v∧i≤gs.length∧Below w6.heap.size w6 wx∧ClR w6.heap.size wx v (iv gs y i)) (fun _ s28 _=>gs.length-(intOf s28).toNat)
  case atStart=>exact⟨0,_,rfl,rfl,by omega,Below.refl _ _,ClR.nil _ _⟩
  case round =>
   obtain⟨i,v,rfl,rfl,hi,hb,hv⟩:=hrel
   have SPr:=SP.below hb
   by_cases hil:i<gs.length
   ·have hiI:(i:Int)<(gs.length:Int):=by omega
    have hi3:i<3:=by omega
    have hi3I:(i:Int)<3:=by omega
    obtain⟨bg,og,rfl,hbg,hcg⟩:=M6.G.at_ (by omega)
    obtain⟨q,cq,e0,e1,hR⟩:=hcg i hil
    have e0:=(hb.cell (p:=⟨bg,_,none⟩) hbg).trans e0
    have e1:=(hb.cell (p:=⟨bg,_,none⟩) hbg).trans e1
    have hra:ag gs i=gs[i].rungs:=by unfold ag;rw[C7 hil]
    rw[←hra] at e1 hR
    obtain⟨nm,hnm⟩:∃ nm,nm=gs[i].name:=⟨_,rfl⟩
    rw[←hnm] at e0
    have ha:=HOK.out.at_.a i hil
    have hrr:(ah gs).rungs i=(ag gs i).length:=rfl
    obtain⟨k,hk⟩:∃ k:Nat,y.a i=(k:Int):=⟨(y.a i).toNat,by omega⟩
    have hkl:k<(ag gs i).length:=by omega
    have hkI:(k:Int)<((ag gs i).length:Int):=by omega
    obtain⟨b,o,rfl,hbw,hcs⟩:=hR.at_ (by omega)
    obtain⟨qa,da,qb,db,hr⟩:=hcs k hkl
    have hll:=lE HS.out hil hkl
    have hcs2:=ke gs y i
    rw[hk,Dr] at hcs2
    rw[←kW hkl] at hr
    obtain⟨r,hre⟩:∃ r,r=aK gs i k:=⟨_,rfl⟩
    rw[←hre] at hr hcs2 hll
    have HCS:=C5 hcs2
    have HLN:Hid ((iv gs y i).length+r.loops.length≤1000000):=by have:=HCL.out i (by omega);unfold Hid;omega
    have d6:=(hb.cell (p:=⟨b,_,none⟩) hbw).trans hr.d6
    have hL:=hr.l.below hb
    have st:=SPr.a hi3
    rw[hk] at st
    have hsb:=SP.lt
    have HOW:=C5 (show ∀ j,Value.ownBlock u9=some j→w6.heap.size≤j∧j<wr.heap.size from fun j hj=>⟨(av hv hj).1,(av hv hj).2.1⟩)
    clear hnm hra hcg hR ha hrr hk hcs hcs2 hre hll hr
    have l1:=bL wr (.cells #[.string nm,.slice (some ⟨b,o,none⟩) (ag gs i).length cq] 62)
    have hba:=l1.below
    have g1:=aa l1.s0 1
    have hzw:=hb.size
    clear l1
    go_wp2_with fail
    generalize wr.alloc (.cells #[.string nm,.slice (some ⟨b,o,none⟩) (ag gs i).length cq] 62)=wa at hba g1 ⊢
    have st:=(hba.cell (p:=⟨sb,i,none⟩) SPr.lt).trans st
    have d6:=(hba.cell (p:=⟨b,o+k*7+6,none⟩) (C8 hbw hb.size)).trans d6
    have HV:=C5 (hv.below hba)
    have HLP:=C5 (hL.below hba)
    have hb:=hb.trans (hba.mono hb.size)
    have hbd:Below wa.heap.size wa wa.drew:=below_drewN (Below.refl _ _) 1
    have hgw:wr.heap.size<wa.heap.size:=block_lt_of_cell g1
    have hsw:sb<wa.heap.size:=block_lt_of_cell st
    have hbw2:b<wa.heap.size:=block_lt_of_cell d6
    clear SPr hv hL hba e0 e1
    refine au (fun wy:World=>wy.cell? ⟨wr.heap.size,1,none⟩=some (.slice (some ⟨b,o,none⟩) (ag gs i).length cq)∧wy.cell? ⟨sb,i,none⟩=some (.int .i64 k)∧wy.cell? ⟨b,o+k*7+6,none⟩=some (.slice qb r.loops.length db)) (fun _=>false) (by kernel_rfl) ?_
    have hS:(fun wy:World=>wy.cell? ⟨wr.heap.size,1,none⟩=some (.slice (some ⟨b,o,none⟩) (ag gs i).length cq)∧wy.cell? ⟨sb,i,none⟩=some (.int .i64 k)∧wy.cell? ⟨b,o+k*7+6,none⟩=some (.slice qb r.loops.length db)) wa.drew:=⟨(hbd.cell (p:=⟨wr.heap.size,1,none⟩) hgw).trans g1,(hbd.cell (p:=⟨sb,i,none⟩) hsw).trans st,(hbd.cell (p:=⟨b,o+k*7+6,none⟩) hbw2).trans d6⟩
    have HV:=C5 (HV.out.below hbd)
    have HLP:=C5 (HLP.out.below hbd)
    have hb:=hb.trans (hbd.mono hb.size)
    clear hbd hgw hsw hbw2 g1 st d6
    generalize wa.drew=wd at *
    generalize wr.heap.size=gb at *
    have HLE:=C5 hb.size
    refine af (i:=0) (v:=?vv1) rfl (by kernel_rfl) (fun _ _ _ h=>h) rfl ?hy1 ?rest1
    case hy1=>(intro wy;go_simp;try with_reducible rfl)
    try simp only[Act.put,C4,C2,C3,CY,C1,CZ]
    refine af (i:=1) (v:=?vv2) rfl (by kernel_rfl) (fun _ _ _ h=>h) rfl ?hy2 ?rest2
    case hy2=>(intro wy;go_simp;try with_reducible rfl)
    try simp only[Act.put,C4,C2,C3,CY,C1,CZ]
    refine af (i:=3) (v:=?vv3) rfl (by kernel_rfl) (fun _ _ _ h=>h) rfl ?hy3 ?rest3
    case hy3=>(intro wy;go_simp;try with_reducible rfl)
    try simp only[Act.put,C4,C2,C3,CY,C1,CZ]
    refine af (i:=4) (v:=?vv4) rfl (by kernel_rfl) (fun _ _ _ h=>h) rfl ?hy4 ?rest4
    case hy4=>(intro wy;go_simp;try with_reducible rfl)
    try simp only[Act.put,C4,C2,C3,CY,C1,CZ]
    refine ak (i:=2) (v:=?vv5) rfl (by kernel_rfl) (fun _ _ _ h=>h) rfl hS ?hy5 ?rest5
    case hy5=>(intro wy hy;(try dsimp only at hy);go_simp;try with_reducible rfl)
    try simp only[Act.put,C4,C2,C3,CY,C1,CZ]
    refine af (i:=5) (v:=?vv6) rfl (by kernel_rfl) (fun _ _ _ h=>h) rfl ?hy6 ?rest6
    case hy6=>(intro wy;go_simp;try with_reducible rfl)
    try simp only[Act.put,C4,C2,C3,CY,C1,CZ]
    refine ak (i:=6) (v:=?vv7) rfl (by kernel_rfl) (fun _ _ _ h=>h) rfl hS ?hy7 ?rest7
    case hy7=>(intro wy hy;(try dsimp only at hy);go_simp;try with_reducible rfl)
    try simp only[Act.put,C4,C2,C3,CY,C1,CZ]
    refine af (i:=7) (v:=?vv8) rfl (by kernel_rfl) (fun _ _ _ h=>h) rfl ?hy8 ?rest8
    case hy8=>(intro wy;go_simp;try with_reducible rfl)
    try simp only[Act.put,C4,C2,C3,CY,C1,CZ]
    refine af (i:=8) (v:=?vv9) rfl (by kernel_rfl) (fun _ _ _ h=>h) rfl ?hy9 ?rest9
    case hy9=>(intro wy;go_simp;try with_reducible rfl)
    try simp only[Act.put,C4,C2,C3,CY,C1,CZ]
    refine ak (i:=9) (v:=?vv10) rfl (by kernel_rfl) (fun _ _ _ h=>h) rfl hS ?hy10 ?rest10
    case hy10=>(intro wy hy;(try dsimp only at hy);go_simp;try with_reducible rfl)
    try simp only[Act.put,C4,C2,C3,CY,C1,CZ]
    refine am (i:=10) rfl (by kernel_rfl) rfl (fun K hK=>?_)
    refine uC _ _ rfl w6.heap.size _ (iv gs y i) rfl HV.out HLE.out qb _ db r.loops rfl rfl HLP.out HLN.out ?_
    intro v' w' hv' hg'
    have hb':=hb.grown hg' hb.size (fun k hk=>(av HV.out hk).1)
    refine hK _ _ (fun _ _=>⟨hg'.cell hS.1 (fun e=>by have:=(HOW.out _ e.symm).2;exact absurd this (Ej _)),hg'.cell hS.2.1 (fun e=>by have:=(HOW.out _ e.symm).1;exact absurd hsb (Fw.2 this)),hg'.cell hS.2.2 (fun e=>by have:=(HOW.out _ e.symm).1;exact absurd hbw (Fw.2 this))⟩) ?_
    clear hK K hS
    refine am (i:=11) rfl (by kernel_rfl) rfl (fun K hK=>?_)
    go_simp
    refine hK _ _ (fun _ h=>h) ?_
    clear hK K
    try simp only[Act.put,C4,C2,C3,CY,C1,CZ]
    refine aA (by kernel_rfl) ?_ _
    go_wp2_with fail
    exact⟨⟨i+1,v',by first | rfl | go_num,rfl,by omega,hb',by rw[HCS.out];exact hv'⟩,by simp[intOf];omega⟩
   ·obtain rfl:i=gs.length:=by omega
    clear hil hi
    obtain⟨pv,cv,rfl⟩:=hv.slice
    go_wp2
    go_ret2
    exact⟨HB6.trans (hb.mono HB6.size),Or.inr ⟨y,_,HS.out,HOK.out,rfl,fM hv HSZ⟩⟩
theorem AK (gs:List Gd) (al fl:List Int):∃ N:Int,∀ w e w',BG gs al fl w e w'→e=.returned (.int .i64 N)∧Below w.heap.size w w':=by
 by_cases h:∃ n,n≠0∧iD gs al fl n
 ·obtain⟨N,hN,hB⟩:=h
  refine⟨N,fun w e w' hq=>?_⟩
  obtain⟨n,rfl,h2,hb⟩:=hq
  rcases h2 with ⟨_,h3⟩ | ⟨_,hS,y,hy⟩
  ·rw[h3.uniq hB];exact⟨rfl,hb⟩
  ·exact (hB.ok hS hy).elim
 ·refine⟨0,fun w e w' hq=>?_⟩
  obtain⟨n,rfl,h2,hb⟩:=hq
  rcases h2 with ⟨h3,h4⟩ | ⟨rfl,_⟩
  ·exact (h ⟨n,h3,h4⟩).elim
  ·exact⟨rfl,hb⟩
def oV (gs:List Gd) (L F:List Int) (n:Int):Prop:=(aX gs=false∧n=40∧L=[]∧F=[])∨(aX gs=true∧n=0∧L=atL gs.length St.zero∧F=aG gs.length St.zero)
theorem oV.uniq {gs:List Gd}{L F L2 F2:List Int}{n n2:Int} (h:oV gs L F n) (h2:oV gs L2 F2 n2):L=L2∧F=F2∧n=n2:=by
 rcases h with ⟨a,rfl,rfl,rfl⟩ | ⟨a,rfl,rfl,rfl⟩<;>rcases h2 with ⟨b,rfl,rfl,rfl⟩ | ⟨b,rfl,rfl,rfl⟩
 ·exact⟨rfl,rfl,rfl⟩
 ·rw[a] at b;cases b
 ·rw[a] at b;cases b
 ·exact⟨rfl,rfl,rfl⟩
theorem xS (n:Nat) (x:St):(atL n x).length≤1000000:=by unfold atL;simp;omega
theorem rs (n:Nat) (x:St):(aG n x).length≤1000000:=by unfold aG;simp;omega
theorem oV.len {gs:List Gd}{L F:List Int}{n:Int} (h:oV gs L F n):L.length≤1000000∧F.length≤1000000:=by
 rcases h with ⟨_,_,rfl,rfl⟩ | ⟨_,_,rfl,rfl⟩
 ·exact⟨Do _,Do _⟩
 ·exact⟨xS _ _,rs _ _⟩
theorem pR.read {gs:List Gd}{w w':World}{e:Ending} (h:pR gs w e w') :
  ∃ q1 d1 q2 d2 n L F,e=.returned (.tuple #[.agg #[.slice q1 (List.length L) d1,.slice q2 (List.length F) d2],.int .i64 n])∧aJ w.heap.size w' (.slice q1 (List.length L) d1) L∧aJ w.heap.size w' (.slice q2 (List.length F) d2) F∧oV gs L F n∧Below w.heap.size w w':=by
 obtain⟨hb,⟨hS,rfl⟩ | ⟨hS,u,rfl,u1,u2,rfl,h1,h2⟩⟩:=h
 ·exact⟨none,0,none,0,40,[],[],rfl,aJ.nil _ _,aJ.nil _ _,Or.inl ⟨hS,rfl,rfl,rfl⟩,hb⟩
 ·obtain⟨q1,d1,rfl⟩:=h1.slice
  obtain⟨q2,d2,rfl⟩:=h2.slice
  exact⟨q1,d1,q2,d2,0,_,_,rfl,h1,h2,Or.inr ⟨hS,rfl,rfl,rfl⟩,hb⟩
def oR (gs:List Gd) (al fl:List Int) (v:Ev) (L F:List Int) (n:Int):Prop:=(n≠0∧iD gs al fl n∧L=[]∧F=[])∨∃ y,aX gs=true∧cU gs al fl y∧((dG (ah gs) v=false∧n=42∧L=[]∧F=[])∨(dG (ah gs) v=true∧n=0∧L=atL gs.length (cE (ah gs) y v)∧F=aG gs.length (cE (ah gs) y v)))
theorem oR.uniq {gs:List Gd}{al fl:List Int}{v:Ev}{L F L2 F2:List Int}{n n2:Int} (h:oR gs al fl v L F n) (h2:oR gs al fl v L2 F2 n2):L=L2∧F=F2∧n=n2:=by
 rcases h with ⟨_,hb,rfl,rfl⟩ | ⟨y,hS,hk,h⟩<;>rcases h2 with ⟨_,hb2,rfl,rfl⟩ | ⟨z,hS2,hk2,h2⟩
 ·exact⟨rfl,rfl,hb.uniq hb2⟩
 ·exact (hb.ok hS2 hk2).elim
 ·exact (hb2.ok hS hk).elim
 ·have e:=hk.uniq (a_ hS).2 hk2
  subst e
  rcases h with ⟨a,rfl,rfl,rfl⟩ | ⟨a,rfl,rfl,rfl⟩<;>rcases h2 with ⟨b,rfl,rfl,rfl⟩ | ⟨b,rfl,rfl,rfl⟩
  ·exact⟨rfl,rfl,rfl⟩
  ·rw[a] at b;cases b
  ·rw[a] at b;cases b
  ·exact⟨rfl,rfl,rfl⟩
theorem oR.len {gs:List Gd}{al fl:List Int}{v:Ev}{L F:List Int}{n:Int} (h:oR gs al fl v L F n):L.length≤1000000∧F.length≤1000000:=by
 rcases h with ⟨_,_,rfl,rfl⟩ | ⟨y,_,_,⟨_,_,rfl,rfl⟩ | ⟨_,_,rfl,rfl⟩⟩
 ·exact⟨Do _,Do _⟩
 ·exact⟨Do _,Do _⟩
 ·exact⟨xS _ _,rs _ _⟩
theorem oQ.read {gs:List Gd}{al fl:List Int}{v:Ev}{w w':World}{e:Ending} (h:oQ gs al fl v w e w') :
  ∃ q1 d1 q2 d2 n L F,e=.returned (.tuple #[.agg #[.slice q1 (List.length L) d1,.slice q2 (List.length F) d2],.int .i64 n])∧aJ w.heap.size w' (.slice q1 (List.length L) d1) L∧aJ w.heap.size w' (.slice q2 (List.length F) d2) F∧oR gs al fl v L F n∧Below w.heap.size w w':=by
 obtain⟨hb,⟨n,hn,hB,rfl⟩ | ⟨y,hS,hk,⟨ho,rfl⟩ | ⟨ho,u,rfl,u1,u2,rfl,h1,h2⟩⟩⟩:=h
 ·exact⟨none,0,none,0,n,[],[],rfl,aJ.nil _ _,aJ.nil _ _,Or.inl ⟨hn,hB,rfl,rfl⟩,hb⟩
 ·exact⟨none,0,none,0,42,[],[],rfl,aJ.nil _ _,aJ.nil _ _,Or.inr ⟨y,hS,hk,Or.inl ⟨ho,rfl,rfl,rfl⟩⟩,hb⟩
 ·obtain⟨q1,d1,rfl⟩:=h1.slice
  obtain⟨q2,d2,rfl⟩:=h2.slice
  exact⟨q1,d1,q2,d2,0,_,_,rfl,h1,h2,Or.inr ⟨y,hS,hk,Or.inr ⟨ho,rfl,rfl,rfl⟩⟩,hb⟩
def uw (gs:List Gd) (al fl:List Int) (b:Bool) (n:Int):Prop:=(n≠0∧iD gs al fl n∧b=false)∨∃ y,aX gs=true∧cU gs al fl y∧b=iR (ah gs) y∧n=0
theorem uw.uniq {gs:List Gd}{al fl:List Int}{b b2:Bool}{n n2:Int} (h:uw gs al fl b n) (h2:uw gs al fl b2 n2):b=b2∧n=n2:=by
 rcases h with ⟨_,hb,rfl⟩ | ⟨y,hS,hk,rfl,rfl⟩<;>rcases h2 with ⟨_,hb2,rfl⟩ | ⟨z,hS2,hk2,rfl,rfl⟩
 ·exact⟨rfl,hb.uniq hb2⟩
 ·exact (hb.ok hS2 hk2).elim
 ·exact (hb2.ok hS hk).elim
 ·have e:=hk.uniq (a_ hS).2 hk2
  subst e
  exact⟨rfl,rfl⟩
theorem lh.read {gs:List Gd}{al fl:List Int}{w w':World}{e:Ending} (h:lh gs al fl w e w'):∃ b n,e=.returned (.tuple #[.bool b,.int .i64 n])∧uw gs al fl b n∧Below w.heap.size w w':=by
 obtain⟨hb,⟨n,hn,hB,rfl⟩ | ⟨y,hS,hk,rfl⟩⟩:=h
 ·exact⟨false,n,rfl,Or.inl ⟨hn,hB,rfl⟩,hb⟩
 ·exact⟨_,0,rfl,Or.inr ⟨y,hS,hk,rfl,rfl⟩,hb⟩
def oP (gs:List Gd) (al fl:List Int) (l:List Cl) (n:Int):Prop:=(n≠0∧iD gs al fl n∧l=[])∨∃ y,aX gs=true∧cU gs al fl y∧l=iv gs y gs.length∧n=0
theorem oP.uniq {gs:List Gd}{al fl:List Int}{l l2:List Cl}{n n2:Int} (h:oP gs al fl l n) (h2:oP gs al fl l2 n2):l=l2∧n=n2:=by
 rcases h with ⟨_,hb,rfl⟩ | ⟨y,hS,hk,rfl,rfl⟩<;>rcases h2 with ⟨_,hb2,rfl⟩ | ⟨z,hS2,hk2,rfl,rfl⟩
 ·exact⟨rfl,hb.uniq hb2⟩
 ·exact (hb.ok hS2 hk2).elim
 ·exact (hb2.ok hS hk).elim
 ·have e:=hk.uniq (a_ hS).2 hk2
  subst e
  exact⟨rfl,rfl⟩
theorem oP.len {gs:List Gd}{al fl:List Int}{l:List Cl}{n:Int} (h:oP gs al fl l n):l.length≤1000000:=by
 rcases h with ⟨_,_,rfl⟩ | ⟨y,hS,hk,rfl,rfl⟩
 ·exact Do _
 ·have h1:=jm hS hk.at_ gs.length (C6 _)
  have h2:=(a_ hS).2
  omega
theorem qP.read {gs:List Gd}{al fl:List Int}{w w':World}{e:Ending} (h:qP gs al fl w e w'):∃ v l n,e=.returned (.tuple #[v,.int .i64 n])∧tc w' v l∧oP gs al fl l n∧Below w.heap.size w w':=by
 obtain⟨hb,⟨n,hn,hB,rfl⟩ | ⟨y,v,hS,hk,rfl,hR⟩⟩:=h
 ·exact⟨_,[],n,rfl,(ClR.nil 0 w').qs,Or.inl ⟨hn,hB,rfl⟩,hb⟩
 ·exact⟨v,_,0,rfl,hR.qs,Or.inr ⟨y,hS,hk,rfl,rfl⟩,hb⟩
structure MvE (w0 w:World) (o0 o1 o2:Array Value):Prop where
 s0:w.heap[w0.heap.size]?=some (.cells o0 24 (0,0))
 s1:w.heap[w0.heap.size+1]?=some (.cells o1 41 (0,0))
 s2:w.heap[w0.heap.size+1+1]?=some (.cells o2 53 (0,0))
 bl:Below w0.heap.size w0 w
theorem MvE.below {w0 w w':World}{o0 o1 o2:Array Value} (h:MvE w0 w o0 o1 o2) (hb:Below w.heap.size w w'):MvE w0 w' o0 o1 o2 :=
 ⟨(hb.block _ (ae h.s0)).trans h.s0,(hb.block _ (ae h.s1)).trans h.s1,(hb.block _ (ae h.s2)).trans h.s2,h.bl.trans (hb.mono h.bl.size)⟩
theorem MvE.sz {w0 w:World}{o0 o1 o2:Array Value} (h:MvE w0 w o0 o1 o2):w0.heap.size+3≤w.heap.size:=ae h.s2
theorem MvE.go {w0 w w':World}{o0 o1 o2:Array Value}{row:Option Nat} (h:MvE w0 w o0 o1 o2) (hg:w.grownBy w' row) (hr:∀ k,row=some k→w0.heap.size+3≤k):MvE w0 w' o0 o1 o2 :=
 ⟨(hg.block _ (ae h.s0) (fun e=>by have:=hr _ e.symm;omega)).trans h.s0,(hg.block _ (ae h.s1) (fun e=>by have:=hr _ e.symm;omega)).trans h.s1,(hg.block _ (ae h.s2) (fun e=>by have:=hr _ e.symm;omega)).trans h.s2,h.bl.grown hg h.bl.size (fun k e=>by have:=hr _ e;omega)⟩
theorem pc (w:World) (b:Nat) (u0 u1:Value):w.grownBy (bB w b u0 u1) (some b) :=
 ⟨rfl,rfl,rfl,by simp[bB,World.setCell],fun k _ hk=>by unfold bB;rw[heap_setCell_other _ _ _ _ (fun e=>hk (by rw[e])),heap_setCell_other _ _ _ _ (fun e=>hk (by rw[e]))]⟩
theorem aJ.go {B:Nat}{w w':World}{v:Value}{l:List Int}{row:Option Nat} (h:aJ B w v l) (hg:w.grownBy w' row) (hr:∀ k,row=Option.some k→v.ownBlock≠Option.some k):aJ B w' v l :=
 h.same (fun k hk=>hg.block k (av h hk).2.1 (fun e=>hr k e.symm hk))
theorem ll {w w':World}{b:Nat}{cs:Array Value}{t:TypeId}{row:Option Nat} (h:w.heap[b]?=some (.cells cs t (0,0))) (hg:w.grownBy w' row) (hr:row≠some b):w'.heap[b]?=some (.cells cs t (0,0)) :=
 (hg.block b (ae h) (fun e=>hr e.symm)).trans h
theorem tP (gs:List Gd) (p:Option Addr) (c:Nat) (p1:Option Addr) (c1:Nat) (p2:Option Addr) (c2:Nat) (al fl:List Int) (eg ek:Int) (w:World) (hP:d8 w p c gs) (hZ:Bv w p1 c1 p2 c2 al fl) :
  Calls Tryz.prog 10 #[.agg #[.slice p gs.length c],.agg #[.slice p1 al.length c1,.slice p2 fl.length c2],.agg #[.int .i64 eg,.int .i64 ek]] w (Cz w):=by
 have hl:=pp w (.cells #[.slice p gs.length c] 24) (.cells #[.slice p1 al.length c1,.slice p2 fl.length c2] 41) (.cells #[.int .i64 eg,.int .i64 ek] 53)
 have E1:MvE w _ #[.slice p gs.length c] #[.slice p1 al.length c1,.slice p2 fl.length c2] #[.int .i64 eg,.int .i64 ek]:=⟨hl.s0,hl.s1,hl.s2,hl.below⟩
 have HP:=C5 hP
 have HZ:=C5 hZ
 clear hP hZ hl
 go_enter Tryz.func10,Tryz.ntmps10
 go_upto_region 1 with fail
 generalize ((w.alloc (.cells #[.slice p gs.length c] 24)).alloc (.cells #[.slice p1 al.length c1,.slice p2 fl.length c2] 41)).alloc (.cells #[.int .i64 eg,.int .i64 ek] 53)=w1 at *
 obtain⟨N,hN⟩:=AK gs al fl
 obtain⟨en,hen⟩:∃ en:Int,en=(if aX gs=true then 0 else 40):=⟨_,rfl⟩
 have x0:∀ x:ax w1,x.w.cell? ⟨w.heap.size,0,none⟩=some (.slice p gs.length c):=fun x=>aa (E1.below x.h).s0 0
 have x1:∀ x:ax w1,x.w.cell? ⟨w.heap.size+1,0,none⟩=some (.slice p1 al.length c1):=fun x=>aa (E1.below x.h).s1 0
 have x2:∀ x:ax w1,x.w.cell? ⟨w.heap.size+1,1,none⟩=some (.slice p2 fl.length c2):=fun x=>aa (E1.below x.h).s1 1
 have HA:Hid (aQ w1 31 #[.agg #[.slice p gs.length c]] ((.int .i64 en))):=fun x=>ax.calls (by rw[hen];exact (HP.out.below (E1.below x.h).bl).check)
 have HB:Hid (aQ w1 34 #[.agg #[.slice p gs.length c]] ((.int .i64 en))):=fun x=>ax.calls (by rw[hen];have P:=HP.out.below (E1.below x.h).bl;exact ls gs p c x.w P.G P.X P.F)
 have HC:Hid (aQ w1 29 #[.agg #[.slice p gs.length c],.agg #[.slice p1 al.length c1,.slice p2 fl.length c2]] ((.int .i64 N))):=fun x=>ax.calls ((pX gs p c x.w _ al fl (HP.out.below (E1.below x.h).bl) ⟨_,_,rfl,HZ.out.a.below (E1.below x.h).bl,HZ.out.f.below (E1.below x.h).bl⟩).mono fun e w' h=>hN _ _ _ h)
 have HD:Hid (aQ w1 35 #[.agg #[.slice p gs.length c],.agg #[.slice p1 al.length c1,.slice p2 fl.length c2]] ((.int .i64 N))):=fun x=>ax.calls ((dP gs p c _ _ _ _ _ _ al fl x.w (HP.out.below (E1.below x.h).bl) (HZ.out.a.below (E1.below x.h).bl) (HZ.out.f.below (E1.below x.h).bl)).mono fun e w' h=>hN _ _ _ h)
 have hd1:(en != en)=false:=by simp
 have hd2:(N != N)=false:=by simp
 clear hN hen
 refine ai (by kernel_rfl) (by kernel_rfl) ?_
 repeat (go_big_quiet_step ((first | (go_at_call 31;with_reducible exact HA.out _) | (go_at_call 34;with_reducible exact HB.out _) | (go_at_call 29;with_reducible exact HC.out _) | (go_at_call 35;with_reducible exact HD.out _))))
 refine wpQuiet_nil ?_
 rintro w2 ⟨⟨_,hbN⟩,rfl⟩
 have E2:=E1.below hbN
 clear HA HB HC HD x0 x1 x2 hbN E1 hd1 hd2
 have x0:=aa E2.s0 0
 go_wp2_with fail
 refine (Ci gs p c w2 (HP.out.below E2.bl)).mono ?_
 intro e w3 hq
 obtain⟨a1,ac1,a2,ac2,n3,L3,F3,rfl,hA1,hA2,hR3,hb3⟩:=hq.read
 have E3:=E2.below hb3
 have HR3:=C5 hR3
 clear hq hb3 x0 hR3 E2
 have l4:=bL w3 (.cells #[.slice a1 L3.length ac1,.slice a2 F3.length ac2] 41)
 have E4:=E3.below l4.below
 have HA1:=C5 ((hA1.below l4.below).q)
 have HA2:=C5 ((hA2.below l4.below).q)
 have rA:=l4.s0
 have hkA:=E3.sz
 have x0:=aa E4.s0 0
 clear l4 hA1 hA2 E3
 go_upto_region 4 with fail
 generalize w3.alloc (.cells #[.slice a1 L3.length ac1,.slice a2 F3.length ac2] 41)=w4 at *
 generalize w3.heap.size=kA at *
 go_wp2_with fail
 refine (xp gs p c w4 (HP.out.below E4.bl)).mono ?_
 intro e w5 hq
 obtain⟨b1,bc1,b2,bc2,n5,L5,F5,rfl,hB1,hB2,hR5,hb5⟩:=hq.read
 obtain⟨eL,eF,eN⟩:=HR3.out.uniq hR5
 subst eL eF eN
 have E5:=E4.below hb5
 have rA5:=(hb5.block _ (ae rA)).trans rA
 have HA1:=C5 (HA1.out.below hb5)
 have HA2:=C5 (HA2.out.below hb5)
 have HL3:=C5 HR3.out.len
 clear hq hb5 x0 hR5 E4 rA HR3
 have l6:=bL w5 (.cells #[.slice b1 L3.length bc1,.slice b2 F3.length bc2] 41)
 have E6:=E5.below l6.below
 have HA1:=C5 (HA1.out.below l6.below)
 have HA2:=C5 (HA2.out.below l6.below)
 have HB1:=C5 ((hB1.below l6.below).q)
 have HB2:=C5 ((hB2.below l6.below).q)
 have rA:=(l6.below.block _ (ae rA5)).trans rA5
 have rB:=l6.s0
 have hkB:=E5.sz
 have hAB:kA<w5.heap.size:=ae rA5
 clear l6 hB1 hB2 E5 rA5
 go_upto_region 5 with fail
 generalize w5.alloc (.cells #[.slice b1 L3.length bc1,.slice b2 F3.length bc2] 41)=w6 at *
 generalize w5.heap.size=kB at *
 have y0:=aa rA 0;have y1:=aa rA 1;have z0:=aa rB 0;have z1:=aa rB 1
 have hd1:(n3 != n3)=false:=by simp
 go_wp2_with fail
 refine (mj _ _ _ _ _ _ _ _ w6 HA1.out HA2.out HB1.out HB2.out HL3.out.1 HL3.out.2 HL3.out.1 HL3.out.2).mono ?_
 rintro e w7 ⟨rfl,hb7⟩
 rw[show (decide (L3=L3)&&decide (F3=F3))=true from by simp]
 have E7:=E6.below hb7
 have rA7:=(hb7.block _ (ae rA)).trans rA
 have rB7:=(hb7.block _ (ae rB)).trans rB
 clear HA1 HA2 HB1 HB2 HL3 y0 y1 z0 z1 rA rB E6 hb7
 have x1:=aa E7.s1 0;have x2:=aa E7.s1 1
 go_wp2_with fail
 refine (qC p1 _ c1 p2 _ c2 al fl w7 (HZ.out.a.below E7.bl) (HZ.out.f.below E7.bl) HZ.out.na HZ.out.nf HZ.out.la HZ.out.lf).mono ?_
 rintro e w8 ⟨o1,o2,rfl,hO,hb8⟩
 obtain⟨oa,oc1,rfl⟩:=hO.a.slice
 obtain⟨ob,oc2,rfl⟩:=hO.f.slice
 have E8:=E7.below hb8
 have rA8:=(hb8.block _ (ae rA7)).trans rA7
 have rB8:=(hb8.block _ (ae rB7)).trans rB7
 have hB7:kB<w7.heap.size:=ae rB7
 clear x1 x2 hb8 rA7 rB7 E7
 have l9:=bL w8 (.cells #[.slice oa al.length oc1,.slice ob fl.length oc2] 41)
 have E9:=E8.below l9.below
 have rA:=(l9.below.block _ (ae rA8)).trans rA8
 have rB:=(l9.below.block _ (ae rB8)).trans rB8
 have rO:=l9.s0
 have HO:=C5 (hO.below l9.below)
 have hB8:kB<w8.heap.size:=ae rB8
 have hO8:=E8.sz
 have hO9:w8.heap.size<(w8.alloc (.cells #[.slice oa al.length oc1,.slice ob fl.length oc2] 41)).heap.size:=ae l9.s0
 clear l9 hO rA8 rB8 E8
 go_upto_region 8 with fail
 generalize w8.alloc (.cells #[.slice oa al.length oc1,.slice ob fl.length oc2] 41)=w9 at *
 generalize w8.heap.size=kO at *
 have HOS:=C5 (show ∀ k,(Value.slice oa al.length oc1).ownBlock=some k→k<w9.heap.size from fun k hk=>(av HO.out.a hk).2.1)
 have HOT:=C5 (show ∀ k,(Value.slice ob fl.length oc2).ownBlock=some k→k<w9.heap.size from fun k hk=>(av HO.out.f hk).2.1)
 have x0:=aa E9.s0 0;have x3:=aa E9.s2 0;have x4:=aa E9.s2 1
 have z0:=aa rO 0;have z1:=aa rO 1
 go_wp2_with fail
 refine (wF gs p c w9 (.agg #[.slice oa al.length oc1,.slice ob fl.length oc2]) al fl ⟨eg,ek⟩ (HP.out.below E9.bl) ⟨_,_,rfl,HO.out.a.q,HO.out.f.q⟩).mono ?_
 intro e w10 hq
 obtain⟨a3,ac3,a4,ac4,m3,L4,F4,rfl,hM1,hM2,hRM,hb10⟩:=hq.read
 have EA:=E9.below hb10
 have rA10:=(hb10.block _ (ae rA)).trans rA
 have rB10:=(hb10.block _ (ae rB)).trans rB
 have rO10:=(hb10.block _ (ae rO)).trans rO
 have HO:=C5 (HO.out.below hb10)
 have HRM:=C5 hRM
 clear hq hb10 x0 x3 x4 z0 z1 rA rB rO E9 hRM
 have hg:=pc w10 kA (.slice a3 L4.length ac3) (.slice a4 F4.length ac4)
 have EB:=EA.go hg (fun k e=>by cases e;exact hkA)
 have rA:=(aO (u0:=.slice a3 L4.length ac3) (u1:=.slice a4 F4.length ac4) rA10).row
 have rB:=ll rB10 hg (fun e=>by cases e;omega)
 have rO:=ll rO10 hg (fun e=>by cases e;omega)
 have HOA:=C5 (HO.out.a.go hg (fun k e=>by cases e;exact fun e2=>by have:=(av HO.out.a e2).1;omega))
 have HOF:=C5 (HO.out.f.go hg (fun k e=>by cases e;exact fun e2=>by have:=(av HO.out.f e2).1;omega))
 have hM1:=C5 (hM1.go hg (fun k e=>by cases e;exact fun e2=>by have:=(av hM1 e2).1;omega))
 have hM2:=C5 (hM2.go hg (fun k e=>by cases e;exact fun e2=>by have:=(av hM2 e2).1;omega))
 have y0:=aa rA10 0;have y1:=aa rA10 1
 have f0:=frozen_of_row w10 kA 0 _ _ rA10;have f1:=frozen_of_row w10 kA 1 _ _ rA10
 clear HO EA rB10 rO10 hg
 go_upto_region 9 with fail
 change Code.wp _ _ _ _ (bB w10 kA (.slice a3 L4.length ac3) (.slice a4 F4.length ac4))
 clear y0 y1 f0 f1 rA10
 generalize bB w10 kA (.slice a3 L4.length ac3) (.slice a4 F4.length ac4)=w11 at *
 have x0:=aa EB.s0 0;have x1:=aa EB.s1 0;have x2:=aa EB.s1 1;have x3:=aa EB.s2 0;have x4:=aa EB.s2 1
 go_wp2_with fail
 refine (Bd gs p c p1 _ c1 p2 _ c2 al fl ⟨eg,ek⟩ w11 (HP.out.below EB.bl) (HZ.out.a.below EB.bl) (HZ.out.f.below EB.bl) HZ.out.na HZ.out.nf).mono ?_
 intro e w12 hq
 obtain⟨b3,bc3,b4,bc4,m5,L5,F5,rfl,hN1,hN2,hRN,hb12⟩:=hq.read
 obtain⟨eL,eF,eN⟩:=HRM.out.uniq hRN
 subst eL eF eN
 have HLM:=C5 HRM.out.len
 have hB11:=ae rB
 have EC:=EB.below hb12
 have rA12:=(hb12.block _ (ae rA)).trans rA
 have rB12:=(hb12.block _ (ae rB)).trans rB
 have rO12:=(hb12.block _ (ae rO)).trans rO
 have HOA:=C5 (HOA.out.below hb12)
 have HOF:=C5 (HOF.out.below hb12)
 have hM1:=C5 (hM1.out.below hb12)
 have hM2:=C5 (hM2.out.below hb12)
 clear hq hb12 hRN HRM x0 x1 x2 x3 x4 rA rB rO EB
 have hg:=pc w12 kB (.slice b3 L4.length bc3) (.slice b4 F4.length bc4)
 have ED:=EC.go hg (fun k e=>by cases e;exact hkB)
 have rA:=ll rA12 hg (fun e=>by cases e;omega)
 have rB:=(aO (u0:=.slice b3 L4.length bc3) (u1:=.slice b4 F4.length bc4) rB12).row
 have rO:=ll rO12 hg (fun e=>by cases e;omega)
 have HOA:=C5 (HOA.out.go hg (fun k e=>by cases e;exact fun e2=>by have:=(av HOA.out e2).1;omega))
 have HOF:=C5 (HOF.out.go hg (fun k e=>by cases e;exact fun e2=>by have:=(av HOF.out e2).1;omega))
 have hM1:=C5 (hM1.out.go hg (fun k e=>by cases e;exact fun e2=>by have:=(av hM1.out e2).1;omega))
 have hM2:=C5 (hM2.out.go hg (fun k e=>by cases e;exact fun e2=>by have:=(av hM2.out e2).1;omega))
 have hN1:=C5 (hN1.go hg (fun k e=>by cases e;exact fun e2=>by have:=(av hN1 e2).1;omega))
 have hN2:=C5 (hN2.go hg (fun k e=>by cases e;exact fun e2=>by have:=(av hN2 e2).1;omega))
 have y0:=aa rB12 0;have y1:=aa rB12 1
 have f0:=frozen_of_row w12 kB 0 _ _ rB12;have f1:=frozen_of_row w12 kB 1 _ _ rB12
 clear EC rA12 rO12 hg
 go_upto_region 10 with fail
 change Code.wp _ _ _ _ (bB w12 kB (.slice b3 L4.length bc3) (.slice b4 F4.length bc4))
 clear y0 y1 f0 f1 rB12
 generalize bB w12 kB (.slice b3 L4.length bc3) (.slice b4 F4.length bc4)=w13 at *
 have y0:=aa rA 0;have y1:=aa rA 1;have z0:=aa rB 0;have z1:=aa rB 1
 have hd1:(m3 != m3)=false:=by simp
 go_wp2_with fail
 refine (mj _ _ _ _ _ _ _ _ w13 hM1.out.q hM2.out.q hN1.out.q hN2.out.q HLM.out.1 HLM.out.2 HLM.out.1 HLM.out.2).mono ?_
 rintro e w14 ⟨rfl,hb14⟩
 rw[show (decide (L4=L4)&&decide (F4=F4))=true from by simp]
 have EE:=ED.below hb14
 have rA14:=(hb14.block _ (ae rA)).trans rA
 have rO14:=(hb14.block _ (ae rO)).trans rO
 have HOA:=C5 (HOA.out.below hb14)
 have HOF:=C5 (HOF.out.below hb14)
 have HM:=C5 (hM1.out.below hb14)
 clear hM1 hM2 hN1 hN2 y0 y1 z0 z1 rA rB rO ED hb14
 have hA9:kA<w9.heap.size:=by omega
 have HRT:=C5 (show ∀ k,(Value.slice a3 L4.length ac3).ownBlock=some k→w9.heap.size≤k from fun k hk=>(av HM.out hk).1)
 have hL9:w.heap.size+3≤w9.heap.size:=by omega
 go_wp2_with fail
 go_loopw [12] (fun s12 wx=>∃ i:Nat,s12=.int .i64 i∧i≤L4.length∧w14.grownBy wx (Value.slice a3 L4.length ac3).ownBlock∧∃ l':List Int,l'.length=L4.length∧aJ w9.heap.size wx (.slice a3 L4.length ac3) l') (fun s12 _=>L4.length-(intOf s12).toNat)
 case atStart=>exact⟨0,rfl,by omega,⟨rfl,rfl,rfl,C6 _,fun _ _ _=>rfl⟩,L4,rfl,HM.out⟩
 case round =>
  obtain⟨i,rfl,hi,hg,l',hl',hr⟩:=hrel
  have rA:=ll rA14 hg (fun e=>by have:=HRT.out _ e;omega)
  have y0:=aa rA 0
  by_cases hil:i<L4.length
  ·have hL4:=HLM.out.1
   have hil':i<l'.length:=by omega
   obtain⟨g,cc,hv,hge,hgl⟩:=hr.some (by omega)
   simp only[Value.slice.injEq] at hv
   obtain⟨rfl,-,rfl⟩:=hv
   obtain⟨zo,hzo⟩:∃ z,l'[i]?=some z:=⟨_,C7 hil'⟩
   have c0:=hr.cellAt hzo
   have f0:=hr.frozenAt i
   have hiI:(i:Int)<(L4.length:Int):=by omega
   have HG:=C5 (hg.trans (yD wr ⟨g,i,none⟩ (.int .i64 (-1))))
   have HR:=C5 (hr.stored i (-1))
   have HL:=C5 hl'
   clear hg hr hl' hil' rA hgl hge hzo
   go_wp2_with fail
   exact⟨⟨i+1,by first | rfl | go_num,by omega,HG.out,_,by rw[DX];exact HL.out,HR.out⟩,by simp[intOf];omega⟩
  ·obtain rfl:i=L4.length:=by omega
   have EF:=EE.go hg (fun k e=>by have:=HRT.out k e;omega)
   have rO:=ll rO14 hg (fun e=>by have:=HRT.out _ e;have:=ae rO14;omega)
   have HOA:=C5 (HOA.out.go hg (fun k e e2=>by have:=HRT.out k e;have:=HOS.out k e2;omega))
   have HOF:=C5 (HOF.out.go hg (fun k e e2=>by have:=HRT.out k e;have:=HOT.out k e2;omega))
   clear EE rO14 rA14 rA hg hr hl' hil hi HM
   have x0:=aa EF.s0 0;have z0:=aa rO 0;have z1:=aa rO 1
   go_wp2_with fail
   refine (tO gs p c _ (.agg #[.slice oa al.length oc1,.slice ob fl.length oc2]) al fl (HP.out.below EF.bl) ⟨_,_,rfl,HOA.out.q,HOF.out.q⟩).mono ?_
   intro e w16 hq
   obtain⟨gb,gn,rfl,hRG,hb16⟩:=hq.read
   have EG:=EF.below hb16
   have rO16:=(hb16.block _ (ae rO)).trans rO
   have HOA:=C5 (HOA.out.below hb16)
   have HOF:=C5 (HOF.out.below hb16)
   have HRG:=C5 hRG
   clear hq hRG hb16 x0 z0 z1 rO EF y0
   have x0:=aa EG.s0 0;have x1:=aa EG.s1 0;have x2:=aa EG.s1 1
   go_wp2_with fail
   refine (zH gs p c p1 _ c1 p2 _ c2 al fl w16 (HP.out.below EG.bl) (HZ.out.a.below EG.bl) (HZ.out.f.below EG.bl)).mono ?_
   intro e w17 hq
   obtain⟨gb2,gn2,rfl,hRG2,hb17⟩:=hq.read
   obtain⟨e1,e2⟩:=HRG.out.uniq hRG2
   subst e1 e2
   have EH:=EG.below hb17
   have rO:=(hb17.block _ (ae rO16)).trans rO16
   have HOA:=C5 (HOA.out.below hb17)
   have HOF:=C5 (HOF.out.below hb17)
   clear hq hRG2 hb17 x0 x1 x2 rO16 EG HRG
   have hd1:(gb != gb)=false:=by simp
   have hd2:(gn != gn)=false:=by simp
   have x1:=aa EH.s1 0;have x2:=aa EH.s1 1;have z0:=aa rO 0;have z1:=aa rO 1
   have HLA:Hid (al.length≤140737488351232∧fl.length≤140737488351232):=by have h1:=HZ.out.la;have h2:=HZ.out.lf;exact⟨by omega,by omega⟩
   go_wp2_with fail
   refine (sC _ _ _ _ al fl al fl w17 HOA.out.q HOF.out.q (HZ.out.a.below EH.bl) (HZ.out.f.below EH.bl) HLA.out.1 HLA.out.2 HLA.out.1 HLA.out.2).mono ?_
   rintro e w18 ⟨rfl,hb18⟩
   rw[show (decide (al=al)&&decide (fl=fl))=true from by simp]
   have EI:=EH.below hb18
   clear hb18 x1 x2 z0 z1 rO HOA HOF HLA EH hd1 hd2
   have x0:=aa EI.s0 0;have x1:=aa EI.s1 0;have x2:=aa EI.s1 1
   go_wp2_with fail
   refine (AM gs p c w18 (.agg #[.slice p1 al.length c1,.slice p2 fl.length c2]) al fl (HP.out.below EI.bl) ⟨_,_,rfl,HZ.out.a.below EI.bl,HZ.out.f.below EI.bl⟩).mono ?_
   intro e w19 hq
   obtain⟨v19,l19,n19,rfl,hC19,hR19,hb19⟩:=hq.read
   have EJ:=EI.below hb19
   have HC19:=C5 hC19
   have HR19:=C5 hR19
   clear hq hb19 hC19 hR19 x0 x1 x2 EI
   have x0:=aa EJ.s0 0;have x1:=aa EJ.s1 0;have x2:=aa EJ.s1 1
   go_wp2_with fail
   refine (tm gs p c p1 _ c1 p2 _ c2 al fl w19 (HP.out.below EJ.bl) (HZ.out.a.below EJ.bl) (HZ.out.f.below EJ.bl)).mono ?_
   intro e w20 hq
   obtain⟨v20,l20,n20,rfl,hC20,hR20,hb20⟩:=hq.read
   obtain⟨e1,e2⟩:=HR19.out.uniq hR20
   subst e1 e2
   have EK:=EJ.below hb20
   have HC19:=C5 (HC19.out.below hb20)
   have HC20:=C5 hC20
   have HLC:=C5 HR19.out.len
   clear hq hb20 hC20 hR20 x0 x1 x2 EJ HR19
   have hd1:(n19 == n19)=true:=by simp
   go_wp2_with fail
   refine (oJ v19 v20 l19 w20 HC19.out HC20.out HLC.out).mono ?_
   rintro e w21 ⟨rfl,hb21⟩
   have EL:=EK.below hb21
   have X21:=(HP.out.below EL.bl).X
   clear hb21 EK HC19 HC20 HLC
   go_wp2_with fail
   refine (Ck w21 X21).mono ?_
   rintro e w22 ⟨rfl,hb22⟩
   go_wp2
   go_ret
   exact⟨rfl,EL.bl.trans (hb22.mono EL.bl.size)⟩
end Go.Proofs.YtnkgbocdpngldaaGreatDoor
