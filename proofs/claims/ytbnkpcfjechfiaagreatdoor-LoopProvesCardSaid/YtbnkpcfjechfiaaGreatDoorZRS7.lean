/- Lemmas of this claim. -/
import Derived.Test.YtbnkpcfjechfiaaGreatDoorZReg
import Derived.Test.YtbnkpcfjechfiaaGreatDoorZVec2
import Derived.Test.YtbnkpcfjechfiaaGreatDoorZLP2
import Derived.Test.YtbnkpcfjechfiaaGreatDoorZRQ6
import Derived.Test.YtbnkpcfjechfiaaGreatDoorZPM2
import Derived.Test.YtbnkpcfjechfiaaGreatDoorZPD1
set_option linter.all false
set_option maxRecDepth 100000
set_option maxHeartbeats 8000000
namespace Go.Proofs.YtbnkpcfjechfiaaGreatDoor
open Go.RowKit Dg Dc
theorem uU (s:ByteArray) (w:World) :
  Calls Tryz.prog 131 #[.string s] w fun e w'=>e=.returned (.bool (ka s.data.toList))∧Below w.heap.size w w':=by
 go_enter Tryz.func131,Tryz.ntmps131
 go_wp2_with fail
 refine (qQ s w).mono ?_
 rintro e w2 ⟨v2,rfl,hz2,hb2⟩
 obtain⟨p0,k0,d0,p1,k1,d1,p2,k2,d2,p3,k3,d3,rfl,_,_⟩:=hz2.parts
 generalize (aR s.data.toList).x.minus=m0 at *
 generalize (aR s.data.toList).y.minus=m1 at *
 have HR:Hid (ka s.data.toList=(rOK s.data.toList&&decide ((aR s.data.toList).y.n=0))):=rfl
 generalize rOK s.data.toList=ok at HR ⊢
 have hl2:=bQ w2 (.cells #[.bool m0,.slice p0 k0 d0,.bool false,.slice p1 k1 d1,.bool m1,.slice p2 k2 d2,.bool false,.slice p3 k3 d3] 83)
 have hb3:=hb2.trans (hl2.below.mono hb2.size)
 have HC:=Ff (hz2.below hl2.below)
 have r0:=hl2.s0
 clear hl2 hb2 hz2
 go_upto_region 2 with fail
 generalize w2.alloc (.cells #[.bool m0,.slice p0 k0 d0,.bool false,.slice p1 k1 d1,.bool m1,.slice p2 k2 d2,.bool false,.slice p3 k3 d3] 83)=w3 at *
 cases ok
 ·go_wp2_with fail
  go_ret
  exact⟨by rw[HR.out];rfl,hb3⟩
 ·have q0:=af r0 0
  have q1:=af r0 1
  have q2:=af r0 2
  have q3:=af r0 3
  have q4:=af r0 4
  have q5:=af r0 5
  have q6:=af r0 6
  have q7:=af r0 7
  go_wp2_with fail
  refine (yr _ (aR s.data.toList) w3 HC.out).mono ?_
  rintro e w4 ⟨rfl,hb4⟩
  have HEND:=hb3.trans (hb4.mono hb3.size)
  go_wp2_with fail
  go_ret
  exact⟨by rw[HR.out];rfl,HEND⟩
theorem IsC.two {w:World}{m m':Bool}{p0 p1 p2 p3:Option Addr}{n0 c0 n1 c1 n2 c2 n3 c3:Nat}{z:Vl} (h:IsC w (.agg #[.bool m,.slice p0 n0 c0,.bool false,.slice p1 n1 c1,.bool m',.slice p2 n2 c2,.bool false,.slice p3 n3 c3]) z) :
  dC w (.agg #[.bool m,.slice p0 n0 c0,.bool false,.slice p1 n1 c1]) z.x∧dC w (.agg #[.bool m',.slice p2 n2 c2,.bool false,.slice p3 n3 c3]) z.y:=by
 obtain⟨a,b,c,d,e,h1,h2,h3,h4⟩:=h
 simp only[Value.agg.injEq,Array.mk.injEq,List.cons.injEq,and_true,true_and] at e
 obtain⟨rfl',rfl,rfl,rfl'',rfl,rfl⟩:=e
 exact⟨⟨_,_,by rw[rfl'],h1,h2⟩,⟨_,_,by rw[rfl''],h3,h4⟩⟩
theorem zr (s:ByteArray) (w:World) :
  Calls Tryz.prog 62 #[.string s] w fun e w'=>e=.returned (.bool (rOK s.data.toList&&ec (aR s.data.toList).x&&ec (aR s.data.toList).y))∧Below w.heap.size w w':=by
 have HCX:=Ff (ij s.data.toList).1.sign
 have HCY:=Ff (ij s.data.toList).2.sign
 have HFX:=Ff (ip s.data.toList).1
 have HFY:=Ff (ip s.data.toList).2
 go_enter Tryz.func62,Tryz.ntmps62
 go_wp2_with fail
 refine (qQ s w).mono ?_
 rintro e w2 ⟨v2,rfl,hz2,hb2⟩
 obtain⟨p0,k0,d0,p1,k1,d1,p2,k2,d2,p3,k3,d3,rfl,_,_⟩:=hz2.parts
 generalize (aR s.data.toList).x.minus=m0 at hz2 ⊢
 generalize (aR s.data.toList).y.minus=m1 at hz2 ⊢
 obtain⟨ok,hok⟩:∃ b,b=rOK s.data.toList:=⟨_,rfl⟩
 obtain⟨b0,hb0⟩:∃ b,b=ec (aR s.data.toList).x:=⟨_,rfl⟩
 obtain⟨b1,hb1⟩:∃ b,b=ec (aR s.data.toList).y:=⟨_,rfl⟩
 rw[←hok]
 have HR:Hid ((rOK s.data.toList&&ec (aR s.data.toList).x&&ec (aR s.data.toList).y)=((ok&&b0)&&b1)):=by unfold Hid;rw[hok,hb0,hb1]
 have B0:=Ff hb0
 have B1:=Ff hb1
 clear hok hb0 hb1
 have hl2:=bQ w2 (.cells #[.bool m0,.slice p0 k0 d0,.bool false,.slice p1 k1 d1,.bool m1,.slice p2 k2 d2,.bool false,.slice p3 k3 d3] 83)
 have hb3:=hb2.trans (hl2.below.mono hb2.size)
 have HC:=Ff (hz2.below hl2.below)
 have r0:=hl2.s0
 clear hl2 hb2 hz2
 go_upto_region 2 with fail
 generalize w2.alloc (.cells #[.bool m0,.slice p0 k0 d0,.bool false,.slice p1 k1 d1,.bool m1,.slice p2 k2 d2,.bool false,.slice p3 k3 d3] 83)=w3 at *
 cases ok
 ·go_wp2_with fail
  go_ret
  exact⟨by rw[HR.out];rfl,hb3⟩
 ·have q0:=af r0 0
  have q1:=af r0 1
  have q2:=af r0 2
  have q3:=af r0 3
  go_wp2_with fail
  refine (oB _ (aR s.data.toList).x w3 HC.out.two.1 HCX.out HFX.out.1 HFX.out.2).mono ?_
  rintro e w4 ⟨rfl,hb4⟩
  have HB4:=hb3.trans (hb4.mono hb3.size)
  have r1:=(hb4.block _ (ah r0)).trans r0
  have HC4:=Ff (HC.out.below hb4)
  rw[←B0.out]
  clear q0 q1 q2 q3 HC r0 hb4
  cases b0
  ·go_wp2_with fail
   go_ret
   exact⟨by rw[HR.out];rfl,HB4⟩
  ·have q4:=af r1 4
   have q5:=af r1 5
   have q6:=af r1 6
   have q7:=af r1 7
   go_wp2_with fail
   refine (oB _ (aR s.data.toList).y w4 HC4.out.two.2 HCY.out HFY.out.1 HFY.out.2).mono ?_
   rintro e w5 ⟨rfl,hb5⟩
   have HEND:=HB4.trans (hb5.mono HB4.size)
   rw[←B1.out]
   go_wp2_with fail
   go_ret
   exact⟨by rw[HR.out];rfl,HEND⟩
theorem Ak (s:ByteArray) (w:World) :
  Calls Tryz.prog 73 #[.string s] w fun e w'=>e=.returned (.bool (bX s.data.toList))∧Below w.heap.size w w':=by
 rw[←CF]
 have HR:Hid (Aj s.data.toList=(ka s.data.toList&&(rOK s.data.toList&&ec (aR s.data.toList).x&&ec (aR s.data.toList).y))):=rfl
 go_enter Tryz.func73,Tryz.ntmps73
 go_wp2_with fail
 refine (uU s w).mono ?_
 rintro e w2 ⟨rfl,hb2⟩
 generalize ka s.data.toList=b0 at HR ⊢
 cases b0
 ·go_wp2_with fail
  go_ret
  exact⟨by rw[HR.out];rfl,hb2⟩
 ·go_wp2_with fail
  refine (zr s w2).mono ?_
  rintro e w3 ⟨rfl,hb3⟩
  have HEND:=hb2.trans (hb3.mono hb2.size)
  go_wp2_with fail
  go_ret
  exact⟨by rw[HR.out];rfl,HEND⟩
open Go.RowKit Dg
theorem EA (v:Value) (q:Rat) (w:World) (hv:IsC w v (ct (CQ.real q))) (hq:okQ q) :
  Calls Tryz.prog 69 #[v] w fun e w'=>e=.returned (.tuple #[.string (tq q),.int .i64 0])∧Below w.heap.size w w':=by
 obtain⟨h1,h2⟩:=vi hq
 have F0:=Ff (show bg (ct (CQ.real q)).x.n from cD h1 (by decide))
 have F1:=Ff (show bg (ct (CQ.real q)).x.d from cD h2 (by decide))
 have F2:=Ff (show bg (ct (CQ.real q)).y.n from cD (k:=1) (show (rt (0:Rat)).n<10 ^ 1 by rw[dz];decide) (by decide))
 have F3:=Ff (show bg (ct (CQ.real q)).y.d from cD (k:=1) (show (rt (0:Rat)).d<10 ^ 1 by rw[dz];decide) (by decide))
 have HBG:=Ff (show (cX (ct (CQ.real q)).x||cX (ct (CQ.real q)).y)=false from hq)
 obtain⟨z,hz⟩:∃ z,z=ct (CQ.real q):=⟨_,rfl⟩
 have HT:=Ff (show (⟨(bI z).toArray⟩:ByteArray)=tq q by rw[hz];rfl)
 have hdx:0<z.x.d:=by rw[hz];exact dJ _
 have hdy:0<z.y.d:=by rw[hz];exact dJ _
 rw[←hz] at hv F0 F1 F2 F3 HBG
 clear hz h1 h2
 obtain⟨p0,n0,c0,p1,n1,c1,p2,n2,c2,p3,n3,c3,rfl,_,_⟩:=hv.parts
 have hl:=bQ w (.cells #[.bool z.x.minus,.slice p0 n0 c0,.bool false,.slice p1 n1 c1,.bool z.y.minus,.slice p2 n2 c2,.bool false,.slice p3 n3 c3] 83)
 have HC:=Ff (hv.below hl.below)
 have r0:=hl.s0
 have M1:=Ff hl.below
 have q0:=af r0 0
 have q1:=af r0 1
 have q2:=af r0 2
 have q3:=af r0 3
 have q4:=af r0 4
 have q5:=af r0 5
 have q6:=af r0 6
 have q7:=af r0 7
 clear hl hv
 generalize z.x.minus=mx at *
 generalize z.y.minus=my at *
 go_enter Tryz.func69,Tryz.ntmps69
 go_upto_region 1 with fail
 generalize w.alloc (.cells #[.bool mx,.slice p0 n0 c0,.bool false,.slice p1 n1 c1,.bool my,.slice p2 n2 c2,.bool false,.slice p3 n3 c3] 83)=w1 at *
 go_wp2_with fail
 refine (mE _ z w1 HC.out F0.out F1.out F2.out F3.out).mono ?_
 rintro e w2 ⟨rfl,hb⟩
 rw[HBG.out]
 have r0:=(hb.block _ (ah r0)).trans r0
 have HC:=Ff (HC.out.below hb)
 have M1:=Ff (M1.out.trans (hb.mono M1.out.size))
 clear hb q0 q1 q2 q3 q4 q5 q6 q7
 have q0:=af r0 0
 have q1:=af r0 1
 have q2:=af r0 2
 have q3:=af r0 3
 have q4:=af r0 4
 have q5:=af r0 5
 have q6:=af r0 6
 have q7:=af r0 7
 go_wp2_with fail
 refine (lj _ z w2 HC.out hdx hdy F0.out F1.out F2.out F3.out).mono ?_
 rintro e w3 ⟨rfl,hb⟩
 have M2:=Ff (M1.out.trans (hb.mono M1.out.size))
 rw[HT.out]
 clear hb q0 q1 q2 q3 q4 q5 q6 q7 r0
 go_wp2_with fail
 refine bodyPost_ret (v:=.tuple #[.string (tq q),.int .i64 0]) (by simp[results,Tryz.results69,go_sem]) rfl ⟨rfl,M2.out⟩
theorem De (v:Value) (q:Rat) (w:World) (hv:di w v q) (hq:okQ q) :
  Calls Tryz.prog 96 #[v] w fun e w'=>e=.returned (.string (tq q))∧Below w.heap.size w w':=by
 obtain⟨m,p,N,c,p',N',c',rfl⟩:=hv.forms
 have hl:=bQ w (.cells #[.bool m,.slice p N c,.bool false,.slice p' N' c'] 78)
 have HV:=Ff (hv.below hl.below)
 have r0:=hl.s0
 have M1:=Ff hl.below
 have q0:=af r0 0
 have q1:=af r0 1
 have q2:=af r0 2
 have q3:=af r0 3
 clear hl hv
 go_enter Tryz.func96,Tryz.ntmps96
 go_upto_region 1 with fail
 generalize w.alloc (.cells #[.bool m,.slice p N c,.bool false,.slice p' N' c'] 78)=w1 at *
 go_wp2_with fail
 refine (tC _ (rt q) w1 HV.out).mono ?_
 rintro e w2 ⟨v2,rfl,hv2,hb⟩
 have M2:=Ff (M1.out.trans (hb.mono M1.out.size))
 clear hb q0 q1 q2 q3
 have hv2:IsC w2 v2 (ct (CQ.real q)):=by
  have e:(⟨rt q,⟨false,0,1⟩⟩:Vl)=ct (CQ.real q):=by
   show _=(⟨rt q,rt 0⟩:Vl)
   rw[dz]
  rw[←e];exact hv2
 go_wp2_with fail
 refine (EA v2 q w2 hv2 hq).mono ?_
 rintro e w3 ⟨rfl,hb⟩
 go_wp2_with fail
 refine bodyPost_ret (v:=.string (tq q)) (by simp[results,Tryz.results96,go_sem]) rfl ⟨rfl,M2.out.trans (hb.mono M2.out.size)⟩
theorem C_ {q:Rat} (h:okQ q):aR (tq q).data.toList=ct (CQ.real q):=by
 have e:(tq q).data.toList=aK (rt q):=by
  show bI (ct (CQ.real q))=_
  rw[db (z:=ct (CQ.real q)) (by show (rt 0).n=0;rw[dz])];rfl
 rw[e,kv (kH q) ((kX q).1 h)]
 show (⟨rt q,fh⟩:Vl)=⟨rt q,rt 0⟩
 rw[dz];rfl
theorem Dd (q:Rat) (w:World) (hq:okQ q) :
  Calls Tryz.prog 76 #[.string (tq q)] w fun e w'=>∃ v,e=.returned v∧di w' v q∧Below w.heap.size w w':=by
 have HR:=Ff (C_ hq)
 obtain⟨s,hs⟩:∃ s,s=tq q:=⟨_,rfl⟩
 rw[←hs] at HR ⊢
 clear hs
 have hl:=bQ w (.cells #[.bool false,.slice none 0 0,.bool false,.slice none 0 0] 78)
 have s0:=hl.s0
 have M1:=Ff hl.below
 clear hl
 go_enter Tryz.func76,Tryz.ntmps76
 go_upto_region 1 with fail
 generalize w.alloc (.cells #[.bool false,.slice none 0 0,.bool false,.slice none 0 0] 78)=w1 at *
 go_wp2_with fail
 refine (qQ s w1).mono ?_
 rintro e w2 ⟨v2,rfl,hv2,hb⟩
 rw[HR.out] at hv2
 obtain⟨p0,n0,c0,p1,n1,c1,p2,n2,c2,p3,n3,c3,rfl,_,_⟩:=hv2.parts
 obtain⟨D0,D1,-,-⟩:=hv2.dig
 have HQ:=Ff (show di w2 (.agg #[.bool (ct (CQ.real q)).x.minus,.slice p0 n0 c0,.bool false,.slice p1 n1 c1]) q from⟨_,_,rfl,D0,D1⟩)
 have s0:=(hb.block _ (ah s0)).trans s0
 have M1:=Ff (M1.out.trans (hb.mono M1.out.size))
 generalize (ct (CQ.real q)).x.minus=mx at *
 generalize (ct (CQ.real q)).y.minus=my at *
 clear hv2 D0 D1 hb HR
 go_upto_region 2 with fail
 have hl2:=bQ w2 (.cells #[.bool mx,.slice p0 n0 c0,.bool false,.slice p1 n1 c1,.bool my,.slice p2 n2 c2,.bool false,.slice p3 n3 c3] 83)
 generalize w2.alloc (.cells #[.bool mx,.slice p0 n0 c0,.bool false,.slice p1 n1 c1,.bool my,.slice p2 n2 c2,.bool false,.slice p3 n3 c3] 83)=w3 at *
 have e0:=af hl2.s0 0
 have e1:=af hl2.s0 1
 have e2:=af hl2.s0 2
 have e3:=af hl2.s0 3
 have u2:=(hl2.below.block _ (ah s0)).trans s0
 have hP:=a_ (u0:=.bool mx) (u1:=.slice p0 n0 c0) (u2:=.bool false) (u3:=.slice p1 n1 c1) u2
 have hZ:=Ff (dC.puts (HQ.out.below hl2.below) hP u2 bR)
 have hBF:=Ff ((M1.out.trans (hl2.below.mono M1.out.size)).trans (hP.below w.heap.size (Fm _)))
 have q0:=af u2 0
 have q1:=af u2 1
 have q2:=af u2 2
 have q3:=af u2 3
 have f0:=frozen_of_row w3 w.heap.size 0 _ _ u2
 have f1:=frozen_of_row w3 w.heap.size 1 _ _ u2
 have f2:=frozen_of_row w3 w.heap.size 2 _ _ u2
 have f3:=frozen_of_row w3 w.heap.size 3 _ _ u2
 clear hl2 s0
 go_wp2_with fail
 (try simp only[Exit.inBlock,Exit.then])
 change bodyPost _ _ _ _ _ (ej w3 w.heap.size (.bool mx) (.slice p0 n0 c0) (.bool false) (.slice p1 n1 c1))
 refine bodyPost_ret (results_cell_row rfl _ _ w.heap.size _ _ (0,0) _ rfl hP.row Tryz.underlying78 rfl (by kernel_rfl)) rfl ?_
 exact⟨_,rfl,hZ.out,hBF.out⟩
theorem Af (a b:Rat):decide (f_ a b<0)=decide (a<b):=by
 unfold f_
 by_cases h1:a=b
 ·subst h1
  have:¬ a<a:=by grind
  simp[this]
 ·by_cases h2:a<b
  ·simp[h1,h2]
  ·simp[h1,h2]
theorem u_ (a:Rat):decide (-a<1)=decide (-1<a):=by
 rw[decide_eq_decide]
 constructor<;>intro h<;>grind
theorem li:Sz 1 (rt (1:Rat)):=⟨by decide +kernel,by decide +kernel,by decide +kernel⟩
theorem zh (va:Value) (a:Rat) (k:Nat) (w:World) (ha:di w va a) (hk:Sz k (rt a)) (hkl:k≤100000) :
  Calls Tryz.prog 92 #[va] w fun e w'=>e=.returned (.bool (decide (-1<a)&&decide (a<1)))∧Below w.heap.size w w':=by
 obtain⟨m,p,N,c,p',N',c',rfl⟩:=ha.forms
 have hl:=bQ w (.cells #[.bool m,.slice p N c,.bool false,.slice p' N' c'] 78)
 go_enter Tryz.func92,Tryz.ntmps92
 go_upto_region 1 with fail
 generalize w.alloc (.cells #[.bool m,.slice p N c,.bool false,.slice p' N' c'] 78)=w1 at *
 have hBd:Below w1.heap.size w1 w1.drew:=(Below.refl _ _).drew
 refine wp_mono (ax (Q:=aL _) (fun wx:World=>Below w1.drew.heap.size w1.drew wx) (fun _=>false) (by kernel_rfl) ?_) (fun _ _ _ h=>aU h)
 have s0:=(hBd.block _ (ah hl.s0)).trans hl.s0
 have hlt:=ah s0
 have HA:=Ff (ha.below (hl.below.trans (hBd.mono hl.below.size)))
 have M1:=Ff (hl.below.trans (hBd.mono hl.below.size))
 clear hl hBd ha
 generalize w1.drew=wd at *
 have hS:Below wd.heap.size wd wd:=Below.refl _ _
 have HE:=Ff s0
 clear s0
 refine az (i:=0) (v:=?vv0) rfl (by kernel_rfl) (fun _ _ _ h=>h) rfl hS ?hy0 ?rest0
 case hy0 =>
  intro wy hy
  have e0:=af (((hy).block _ hlt).trans HE.out) 0
  have e1:=af (((hy).block _ hlt).trans HE.out) 1
  have e2:=af (((hy).block _ hlt).trans HE.out) 2
  have e3:=af (((hy).block _ hlt).trans HE.out) 3
  clear hy
  go_simp
  try with_reducible rfl
 try simp only[Act.put,Fj,Fi,Fh,Fg,Fk,Fl]
 refine au (i:=1) rfl (by kernel_rfl) rfl (fun K hK=>?_)
 go_simp
 refine (C9 wd).mono ?_
 rintro e w2 ⟨v2,rfl,hv2,hb2⟩
 obtain⟨y1,y2,y3,y4,y5,y6,y7,rfl⟩:=hv2.forms
 refine hK _ _ (fun _ _=>hb2) ?_
 clear hK K
 try simp only[Act.put,Fj,Fi,Fh,Fg,Fk,Fl]
 refine au (i:=2) rfl (by kernel_rfl) rfl (fun K hK=>?_)
 go_simp
 refine (tv _ _ a 1 k 1 w2 (HA.out.below hb2) hv2 hk li (by omega)).mono ?_
 rintro e w3 ⟨rfl,hb3⟩
 have hB3:=hb2.trans (hb3.mono hb2.size)
 have hcl:=Af a 1
 have hcl2:=Af (-a) 1
 rw[u_] at hcl2
 generalize f_ a 1=z1 at hcl ⊢
 refine hK _ _ (fun _ _=>hB3) ?_
 clear hK K hv2 hb2 hb3
 try simp only[Act.put,Fj,Fi,Fh,Fg,Fk,Fl]
 refine ai (i:=3) (v:=?vv3) rfl (by kernel_rfl) (fun _ _ _ h=>h) rfl ?hy3 ?rest3
 case hy3=>(intro wy;go_simp;try with_reducible rfl)
 try simp only[Act.put,Fj,Fi,Fh,Fg,Fk,Fl]
 refine ai (i:=4) (v:=?vv4) rfl (by kernel_rfl) (fun _ _ _ h=>h) rfl ?hy4 ?rest4
 case hy4=>(intro wy;go_simp;try with_reducible rfl)
 try simp only[Act.put,Fj,Fi,Fh,Fg,Fk,Fl]
 by_cases h1:a<1
 ·rw[decide_eq_true h1]
  clear hcl
  refine bJ (i:=5) (v:=?vv5) rfl (by kernel_rfl) (fun _ _ _ h=>h) (by rfl) hB3 ?hy5 ?rest5
  case hy5 =>
   intro wy hy
   have e0:=af (((hy).block _ hlt).trans HE.out) 0
   have e1:=af (((hy).block _ hlt).trans HE.out) 1
   have e2:=af (((hy).block _ hlt).trans HE.out) 2
   have e3:=af (((hy).block _ hlt).trans HE.out) 3
   clear hy
   go_simp
   try with_reducible rfl
  try simp only[Act.put,Fj,Fi,Fh,Fg,Fk,Fl]
  refine ff (i:=6) rfl (by kernel_rfl) (by rfl) (fun K hK=>?_)
  go_simp
  refine (DL _ a w3 (HA.out.below hB3)).mono ?_
  rintro e w4 ⟨v4,rfl,hv4,hb4⟩
  obtain⟨x1,x2,x3,x4,x5,x6,x7,rfl⟩:=hv4.forms
  have hB4:=hB3.trans (hb4.mono hB3.size)
  refine hK _ _ (fun _ _=>hB4) ?_
  clear hK K
  try simp only[Act.put,Fj,Fi,Fh,Fg,Fk,Fl]
  refine ff (i:=7) rfl (by kernel_rfl) (by rfl) (fun K hK=>?_)
  go_simp
  refine (C9 w4).mono ?_
  rintro e w5 ⟨v5,rfl,hv5,hb5⟩
  obtain⟨z2,z3,z4,z5,z6,z7,z8,rfl⟩:=hv5.forms
  have hB5:=hB4.trans (hb5.mono hB4.size)
  refine hK _ _ (fun _ _=>hB5) ?_
  clear hK K
  try simp only[Act.put,Fj,Fi,Fh,Fg,Fk,Fl]
  have hsb:Sz k (rt (-a)):=by rw[←fE];exact hk.neg
  refine ff (i:=8) rfl (by kernel_rfl) (by rfl) (fun K hK=>?_)
  go_simp
  refine (tv _ _ (-a) 1 k 1 w5 (hv4.below hb5) hv5 hsb li (by omega)).mono ?_
  rintro e w6 ⟨rfl,hb6⟩
  have hB6:=hB5.trans (hb6.mono hB5.size)
  generalize f_ (-a) 1=z9 at hcl2 ⊢
  refine hK _ _ (fun _ _=>hB6) ?_
  clear hK K hv4 hv5 hb4 hb5 hb6 hB3 hB4 hB5 hsb
  try simp only[Act.put,Fj,Fi,Fh,Fg,Fk,Fl]
  refine bJ (i:=9) (v:=?vv9) rfl (by kernel_rfl) (fun _ _ _ h=>h) (by rfl) hB6 ?hy9 ?rest9
  case hy9=>(intro wy hy;clear hy;go_simp;try with_reducible rfl)
  try simp only[Act.put,Fj,Fi,Fh,Fg,Fk,Fl]
  try rw[hcl2]
  refine ai (i:=10) (v:=?vv10) rfl (by kernel_rfl) (fun _ _ _ h=>h) rfl ?hy10 ?rest10
  case hy10=>(intro wy;go_simp;try with_reducible rfl)
  try simp only[Act.put,Fj,Fi,Fh,Fg,Fk,Fl]
  refine ai (i:=11) (v:=?vv11) rfl (by kernel_rfl) (fun _ _ _ h=>h) rfl ?hy11 ?rest11
  case hy11=>(intro wy;go_simp;try with_reducible rfl)
  try simp only[Act.put,Fj,Fi,Fh,Fg,Fk,Fl]
  refine aH (by kernel_rfl) ?_ _
  simp only[aL]
  clear hcl2
  go_wp2
  refine bodyPost_ret (v:=.bool (decide (-1<a))) (by simp[results,Tryz.results92,go_sem]) rfl ⟨by simp[h1],M1.out.trans (hB6.mono M1.out.size)⟩
 ·rw[decide_eq_false h1]
  clear hcl
  refine aV (i:=5) rfl (by kernel_rfl) (fun _ _ _ h=>h) (by rfl) ?_
  try simp only[Act.put,Fj,Fi,Fh,Fg,Fk,Fl]
  refine aV (i:=6) rfl (by kernel_rfl) (fun _ _ _ h=>h) (by rfl) ?_
  try simp only[Act.put,Fj,Fi,Fh,Fg,Fk,Fl]
  refine aV (i:=7) rfl (by kernel_rfl) (fun _ _ _ h=>h) (by rfl) ?_
  try simp only[Act.put,Fj,Fi,Fh,Fg,Fk,Fl]
  refine aV (i:=8) rfl (by kernel_rfl) (fun _ _ _ h=>h) (by rfl) ?_
  try simp only[Act.put,Fj,Fi,Fh,Fg,Fk,Fl]
  refine aV (i:=9) rfl (by kernel_rfl) (fun _ _ _ h=>h) (by rfl) ?_
  try simp only[Act.put,Fj,Fi,Fh,Fg,Fk,Fl]
  refine ai (i:=10) (v:=?vw10) rfl (by kernel_rfl) (fun _ _ _ h=>h) rfl ?hz10 ?rese10
  case hz10=>(intro wy;go_simp;try with_reducible rfl)
  try simp only[Act.put,Fj,Fi,Fh,Fg,Fk,Fl]
  refine ai (i:=11) (v:=?vw11) rfl (by kernel_rfl) (fun _ _ _ h=>h) rfl ?hz11 ?rese11
  case hz11=>(intro wy;go_simp;try with_reducible rfl)
  try simp only[Act.put,Fj,Fi,Fh,Fg,Fk,Fl]
  refine aH (by kernel_rfl) ?_ _
  simp only[aL]
  clear hcl2
  go_wp2
  refine bodyPost_ret (v:=.bool false) (by simp[results,Tryz.results92,go_sem]) rfl ⟨by simp[h1],M1.out.trans (hB3.mono M1.out.size)⟩
theorem xx (v:Value) (qs:List Rat) (w:World) (hl:IsS w v (qs.map tq)) (hq:∀ q∈qs,okQ q) (hlen:qs.length<1000000) :
  Calls Tryz.prog 38 #[v] w fun e w'=>∃ v',e=.returned v'∧d9 w' w.heap.size v' qs∧Below w.heap.size w w':=by
 obtain⟨p,c,rfl,hc1,hc2⟩:=hl.form
 rw[FF] at hc1 hl ⊢
 have HL:=Ff hl
 have HN:=Ff hlen
 clear hl
 go_enter Tryz.func38,Tryz.ntmps38
 go_wp2
 go_loopw [3,4] (fun s3 s4 wr=>∃ (i:Nat),s4=.int .i64 i∧i≤qs.length∧d9 wr w.heap.size s3 (qs.take i)∧Below w.heap.size w wr) (fun _ s4 _=>qs.length-(intOf s4).toNat)
 case atStart=>exact⟨0,rfl,Fy _,d9.nil _ _,Below.refl _ _⟩
 case round =>
  obtain⟨i,rfl,hin,hown,hbr⟩:=hrel
  by_cases hi:i<qs.length
  ·obtain⟨b,o,rfl,hlt,hcell⟩:=IsS.get (HL.out.below hbr) (i:=i) (by simpa using hi)
   rw[GD] at hcell
   have HO:=Ff (hq qs[i] (FJ hi))
   have HT:=Ff (Fz hi).symm
   obtain⟨q,hqe⟩:∃ q,q=qs[i]:=⟨_,rfl⟩
   rw[←hqe] at hcell HO HT
   clear hqe
   generalize htx:tq q=s at hcell
   have HS:=Ff htx
   clear htx
   go_wp2_with fail
   have hCC:=Dd q wr HO.out
   rw[HS.out] at hCC
   refine hCC.mono ?_
   rintro e w2 ⟨v2,rfl,hv2,hb2⟩
   obtain⟨m,a,N,d,a',N',d',rfl⟩:=hv2.forms
   have hB2:=hbr.trans (hb2.mono hbr.size)
   have hw2:=hown.below hb2
   clear hCC hb2 hown hcell hbr
   have m1:=aj w2 (.cells #[.bool m,.slice a N d,.bool false,.slice a' N' d'] 78)
   have hcx:=heap_alloc_new w2 (.cells #[.bool m,.slice a N d,.bool false,.slice a' N' d'] 78)
   have hu3:=hv2.below m1
   have hw3:=hw2.below m1
   have hB3:=hB2.trans (m1.mono hB2.size)
   have hbs:=hB3.size
   have hzl:(qs.take i).length<1000000000:=by have:=HN.out;simp;omega
   clear hv2 hw2 hB2 m1
   go_wp2_with (at_builtin;refine eC 51 Tryz.underlying51 rfl (.tmp 11) (.tmp 17) rfl w.heap.size _ _ m a N d a' N' d' q rfl hw3 _ rfl hcx hu3 hzl hbs ?_)
   intro v' w4 hap
   have hB4:=hap.below hw3 hB3 (Fm _) hbs
   have hw4:=hap.own
   rw[←HT.out] at hw4
   clear hap hw3 hu3 hcx hB3 hbs hzl
   go_wp2
   go_roundw
   case rel=>exact⟨i+1,by go_num,by omega,hw4,hB4⟩
   case measure=>simp[intOf];omega
  ·have hin':i=qs.length:=by omega
   subst hin'
   clear hi
   rw[FO] at hown
   go_wp2
   refine bodyPost_ret (v:=_) (by simp[results,Tryz.results38,go_sem]) rfl ⟨_,rfl,hown,hbr⟩
theorem Db (v:Value) (qs:List Rat) (w:World) (hl:kj w v qs) (hq:∀ q∈qs,okQ q) (hlen:qs.length<1000000) :
  Calls Tryz.prog 41 #[v] w fun e w'=>∃ v',e=.returned v'∧IsS w' v' (qs.map tq)∧Below w.heap.size w w':=by
 obtain⟨p,c,rfl,hc1,hc2⟩:=hl.form
 have HL:=Ff hl
 have HN:=Ff hlen
 clear hl
 go_enter Tryz.func41,Tryz.ntmps41
 go_wp2
 go_loopw [3,4] (fun s3 s4 wr=>∃ (i:Nat),s4=.int .i64 i∧i≤qs.length∧cL wr w.heap.size s3 ((qs.map tq).take i)∧Below w.heap.size w wr) (fun _ s4 _=>qs.length-(intOf s4).toNat)
 case atStart=>exact⟨0,rfl,Fy _,cL.nil _ _,Below.refl _ _⟩
 case round =>
  obtain⟨i,rfl,hin,hown,hbr⟩:=hrel
  by_cases hi:i<qs.length
  ·obtain⟨b,o,rfl,hlt,m,a,N,d,a',N',d',hk,c0,c1,c2,c3⟩:=(HL.out.below hbr).get hi
   have HO:=Ff (hq qs[i] (FJ hi))
   have HT:=Ff (show (qs.map tq).take (i+1)=(qs.map tq).take i++[tq qs[i]] by
    rw[show (qs.map tq).take (i+1)=(qs.map tq).take i++[(qs.map tq)[i]'(by simpa using hi)] from (Fz _).symm,GD])
   obtain⟨q,hqe⟩:∃ q,q=qs[i]:=⟨_,rfl⟩
   rw[←hqe] at hk HO HT
   clear hqe
   go_wp2_with fail
   refine (De _ q wr hk HO.out).mono ?_
   rintro e w2 ⟨rfl,hb2⟩
   have hB2:=hbr.trans (hb2.mono hbr.size)
   have hw2:=hown.below hb2
   have hbs:=hB2.size
   have hzl:((qs.map tq).take i).length<1000000000:=by have:=HN.out;simp;omega
   generalize tq q=s at HT ⊢
   clear hb2 hown hbr hk c0 c1 c2 c3
   go_wp2_with (at_builtin;refine bk 22 Tryz.underlying22 rfl (.tmp 11) (.tmp 17) rfl w.heap.size _ _ s rfl hw2 rfl hzl hbs ?_)
   intro v' w3 hw3 hb3
   have hB3:=hb3 _ _ hB2 (Fm _)
   rw[←HT.out] at hw3
   clear hb3 hB2 hw2 hbs hzl
   go_wp2
   go_roundw
   case rel=>exact⟨i+1,by go_num,by omega,hw3,hB3⟩
   case measure=>simp[intOf];omega
  ·have hin':i=qs.length:=by omega
   subst hin'
   clear hi
   rw[Fu (by simp)] at hown
   have hs:=cL.isS hown
   go_wp2
   refine bodyPost_ret (v:=_) (by simp[results,Tryz.results41,go_sem]) rfl ⟨_,rfl,hs,hbr⟩
theorem tH (v:Value) (x:List ByteArray) (w:World) (hl:IsS w v x) (hlen:x.length<1000000000) :
  Calls Tryz.prog 54 #[v] w fun e w'=>e=.returned (.bool (fp x))∧Below w.heap.size w w':=by
 obtain⟨p,c,rfl,hc1,hc2⟩:=hl.form
 have HL:=Ff hl
 clear hl
 go_enter Tryz.func54,Tryz.ntmps54
 go_wp2
 go_loopw [3] (fun s3 wr=>∃ (i:Nat),s3=.int .i64 i∧i≤x.length∧Below w.heap.size w wr∧Hid (fp (x.take i)=true)) (fun s3 _=>x.length-(intOf s3).toNat)
 case atStart=>exact⟨0,rfl,Fy _,Below.refl _ _,Ff rfl⟩
 case round =>
  obtain⟨i,rfl,hin,hbr,hall⟩:=hrel
  by_cases hi:i<x.length
  ·obtain⟨b,o,rfl,hlt,hcell⟩:=IsS.get (HL.out.below hbr) (i:=i) hi
   rw[eX hi] at hcell
   have hst:=Ff (uF hi)
   have hbd:=Ff (fun h=>yo hi h)
   generalize aD x i=s at hcell hst hbd
   go_wp2_with fail
   refine (Ak s wr).mono ?_
   rintro e w2 ⟨rfl,hb2⟩
   have hB2:=hbr.trans (hb2.mono hbr.size)
   obtain⟨ok,hok⟩:∃ ok,ok=bX s.data.toList:=⟨_,rfl⟩
   rw[←hok] at hst hbd ⊢
   clear hok hb2 hbr hcell
   cases ok with
   | false =>
    have hf:=hbd.out rfl
    have HF:=Ff hf
    clear hf
    go_wp2
    refine bodyPost_ret (v:=.bool false) (by simp[results,Tryz.results54,go_sem]) rfl ⟨by rw[HF.out],hB2⟩
   | true =>
    have hn:fp (x.take (i+1))=true:=by rw[hst.out,hall.out];rfl
    have HN:=Ff hn
    clear hn
    go_wp2
    go_roundw
    case rel=>exact⟨i+1,by go_num,by omega,hB2,HN⟩
    case measure=>first | (simp[intOf];done) | (simp[intOf];omega)
  ·have hin':i=x.length:=by omega
   subst hin'
   clear hi
   have hh:=hall.out
   rw[FO] at hh
   have HH:=Ff hh
   clear hh
   go_wp2
   refine bodyPost_ret (v:=.bool true) (by simp[results,Tryz.results54,go_sem]) rfl ⟨by rw[HH.out],hbr⟩
theorem inRq (n low high:Int) (w:World) :
  Calls Tryz.prog 56 #[.int .i64 n,.int .i64 low,.int .i64 high] w fun e w'=>e=.returned (.bool (decide (low≤n)&&decide (n≤high)))∧w'=w:=by
 by_cases h:low≤n
 ·have hd:decide (low≤n)=true:=by simp;omega
  go_enter Tryz.func56,Tryz.ntmps56
  go_wp2
  go_ret
  exact⟨by simp[hd],rfl⟩
 ·have hd:decide (low≤n)=false:=by simp;omega
  go_enter Tryz.func56,Tryz.ntmps56
  go_wp2
  go_ret
  exact⟨by simp[hd],rfl⟩
theorem rZ (a b:List ByteArray):aB a b=((decide ((1:Int)≤(a.length:Int))&&decide ((a.length:Int)≤7))&&(decide ((1:Int)≤(b.length:Int))&&decide ((b.length:Int)≤7))&&fp a&&fp b&&decide (nF b=some [49])):=by
 unfold aB fZ fp
 rw[show decide ((1:Int)≤(a.length:Int))=decide (1≤a.length) from decide_eq_decide.2 (by omega),show decide ((a.length:Int)≤7)=decide (a.length≤7) from decide_eq_decide.2 (by omega),
  show decide ((1:Int)≤(b.length:Int))=decide (1≤b.length) from decide_eq_decide.2 (by omega),show decide ((b.length:Int)≤7)=decide (b.length≤7) from decide_eq_decide.2 (by omega)]
 generalize decide (1≤a.length)=x1
 generalize decide (a.length≤7)=x2
 generalize decide (1≤b.length)=x3
 generalize decide (b.length≤7)=x4
 generalize a.all _=x5
 generalize b.all _=x6
 generalize decide (nF b=some [49])=x7
 cases x1<;>cases x2<;>cases x3<;>cases x4<;>cases x5<;>cases x6<;>cases x7<;>rfl
theorem tG (v:Value) (a b:List ByteArray) (w:World) (hF:IsF w v a b) :
  Calls Tryz.prog 31 #[v] w fun e w'=>e=.returned (.int .i64 (aA a b))∧Below w.heap.size w w':=by
 obtain⟨p,c,q,d,rfl,hfa,hfb⟩:=id hF.ex
 go_enter Tryz.func31,Tryz.ntmps31
 go_upto_region 1 with fail
 have hl:=bQ w (.cells #[.slice p a.length c,.slice q b.length d] 24)
 have HA:=hfa.below hl.below
 have HB':=hfb.below hl.below
 have HB:=hl.below
 have s0:=hl.s0
 have CHK:=Ff (rZ a b)
 clear hF hfa hfb hl
 generalize w.alloc (.cells #[.slice p a.length c,.slice q b.length d] 24)=w1 at *
 have q0:=af s0 0
 have q1:=af s0 1
 go_wp2_with fail
 refine (inRq a.length 1 7 w1).mono ?_
 rintro e w2 ⟨rfl,rfl⟩
 rename World=>w2
 have HI1:=Ff (show (decide ((1:Int)≤(a.length:Int))&&decide ((a.length:Int)≤7))=true→a.length<1000000000 from fun h=>by simp at h;omega)
 generalize (decide ((1:Int)≤(a.length:Int))&&decide ((a.length:Int)≤7))=i1 at *
 cases i1 with
 | false =>
  have he:aA a b=30:=by unfold aA;rw[CHK.out];simp
  have HE:=Ff he
  clear he
  go_wp2
  refine bodyPost_ret (v:=.int .i64 30) (by simp[results,Tryz.results31,go_sem]) rfl ⟨by rw[HE.out],HB⟩
 | true =>
  go_wp2_with fail
  refine (inRq b.length 1 7 w2).mono ?_
  rintro e w3 ⟨rfl,rfl⟩
  rename World=>w3
  have HI2:=Ff (show (decide ((1:Int)≤(b.length:Int))&&decide ((b.length:Int)≤7))=true→0<b.length∧b.length<1000000000 from fun h=>by simp at h;omega)
  generalize (decide ((1:Int)≤(b.length:Int))&&decide ((b.length:Int)≤7))=i2 at *
  cases i2 with
  | false =>
   have he:aA a b=30:=by unfold aA;rw[CHK.out];simp
   have HE:=Ff he
   clear he
   go_wp2
   refine bodyPost_ret (v:=.int .i64 30) (by simp[results,Tryz.results31,go_sem]) rfl ⟨by rw[HE.out],HB⟩
  | true =>
   obtain⟨hb0,hb7⟩:=HI2.out (by first | trivial | rfl)
   have ha7:=HI1.out (by first | trivial | rfl)
   go_wp2_with fail
   refine (tH _ a w3 HA ha7).mono ?_
   rintro e w4 ⟨rfl,hb4⟩
   replace HB':=HB'.below hb4
   replace HB:=HB.trans (hb4.mono HB.size)
   replace s0:=(hb4.block _ (ah s0)).trans s0
   clear q0 q1 hb4 HA
   have q0:=af s0 0
   have q1:=af s0 1
   generalize fp a=i3 at *
   cases i3 with
   | false =>
    have he:aA a b=30:=by unfold aA;rw[CHK.out];simp
    have HE:=Ff he
    clear he
    go_wp2
    refine bodyPost_ret (v:=.int .i64 30) (by simp[results,Tryz.results31,go_sem]) rfl ⟨by rw[HE.out],HB⟩
   | true =>
    go_wp2_with fail
    refine (tH _ b w4 HB' hb7).mono ?_
    rintro e w5 ⟨rfl,hb5⟩
    replace HB':=HB'.below hb5
    replace HB:=HB.trans (hb5.mono HB.size)
    replace s0:=(hb5.block _ (ah s0)).trans s0
    clear q0 q1 hb5
    have q0:=af s0 0
    have q1:=af s0 1
    generalize fp b=i4 at *
    cases i4 with
    | false =>
     have he:aA a b=30:=by unfold aA;rw[CHK.out];simp
     have HE:=Ff he
     clear he
     go_wp2
     refine bodyPost_ret (v:=.int .i64 30) (by simp[results,Tryz.results31,go_sem]) rfl ⟨by rw[HE.out],HB⟩
    | true =>
     obtain⟨bb,ob,rfl,hlt,hcell⟩:=HB'.get (i:=0) hb0
     have hcell:w5.cell? ⟨bb,ob,none⟩=some (.string b[0]):=by simpa using hcell
     have HH:=Ff (qS hb0)
     generalize b[0]=s at hcell HH
     by_cases hs:s.data.toList=[49]
     ·have hd:(s.toList == [49])=true:=by rw[av,hs];rfl
      have he:aA a b=0:=by unfold aA;rw[CHK.out,HH.out,decide_eq_true hs];rfl
      have HE:=Ff he
      clear he hs
      go_wp2
      refine bodyPost_ret (v:=.int .i64 0) (by simp[results,Tryz.results31,go_sem]) rfl ⟨by rw[HE.out],HB⟩
     ·have hd:(s.toList == [49])=false:=by rw[av];exact beq_eq_false_iff_ne.2 hs
      have he:aA a b=30:=by unfold aA;rw[CHK.out,HH.out,decide_eq_false hs];rfl
      have HE:=Ff he
      clear he hs
      go_wp2
      refine bodyPost_ret (v:=.int .i64 30) (by simp[results,Tryz.results31,go_sem]) rfl ⟨by rw[HE.out],HB⟩
end Go.Proofs.YtbnkpcfjechfiaaGreatDoor
