/- Lemmas of this claim. -/
import Derived.Test.YtbnkpcfjechfiaaGreatDoorQReg
import Derived.Test.YtbnkpcfjechfiaaGreatDoorQRS3
set_option linter.all false
set_option maxRecDepth 100000
set_option maxHeartbeats 8000000
namespace Go.Proofs.YtbnkpcfjechfiaaGreatDoor
open Go.RowKit Dg Dc
theorem IsC.puts {w w':World}{b:Nat}{t t0:TypeId}{us cs:Array Value}{v:Value}{z:Vl} (hv:IsC w v z) (h:jU w w' b t us) (hr:w.heap[b]?=some (.cells cs t0 (0,0))) (hn:∀ (j:Nat) (z:Int),cs[j]?≠some (Value.int .i64 z)):IsC w' v z:=by
 obtain⟨a,b,c,d,e,h1,h2,h3,h4⟩:=hv;exact⟨a,b,c,d,e,h.isI hr hn h1,h.isI hr hn h2,h.isI hr hn h3,h.isI hr hn h4⟩
theorem sw (s:List UInt8):bf (bZ s).1.n∧bf (bZ s).1.d:=by
 have h1:bf 1:=qE (e:=1) (m:=501) rfl (by omega) (by decide);unfold bZ
 split
 ·exact⟨h1,h1⟩
 ·split
  ·unfold di
   split
   ·exact⟨h1.mono (Fk _),h1⟩
   ·exact⟨(kB _).mono (GK _ _),(kB _).mono (GK _ _)⟩
  ·exact⟨kB _,h1⟩
theorem kC (s:List UInt8):bf (bO s).1.n∧bf (bO s).1.d:=by
 unfold bO
 split
 ·exact sw _
 ·split<;>exact sw _
theorem gY (s:List UInt8):(bf (aQ s).x.n∧bf (aQ s).x.d)∧(bf (aQ s).y.n∧bf (aQ s).y.d):=by
 have h1:bf 1:=qE (e:=1) (m:=501) rfl (by omega) (by decide);have h0:bf eS.n∧bf eS.d:=⟨h1.mono (by unfold eS;simp),h1⟩;unfold aQ
 split
 ·exact⟨h0,kC _⟩
 ·split
  ·exact⟨kC _,h0⟩
  ·exact⟨kC _,kC _⟩
theorem Eh {s:List UInt8} (h:(bO s).2=[105]):aQ s=⟨eS,(bO s).1⟩:=by unfold aQ;rw[if_pos h]
theorem Bc {s:List UInt8} (h:(bO s).2=[]):aQ s=⟨(bO s).1,eS⟩:=by unfold aQ;rw[if_neg (by rw[h];exact fun e=>by cases e),if_pos h]
theorem Bd {s:List UInt8} (h:(bO s).2≠[105]) (h2:(bO s).2≠[]):aQ s=⟨(bO s).1,(bO (bO s).2).1⟩:=by unfold aQ;rw[if_neg h,if_neg h2]
theorem qH (s:ByteArray) (w:World) :
  Calls Tryz.prog 63 #[.string s] w fun e w'=>∃ v,e=.returned (.tuple #[v,.bool (rOK s.data.toList)])∧IsC w' v (aQ s.data.toList)∧Below w.heap.size w w':=by
 have hl:=aT w (.cells #[.bool false,.slice none 0 0,.bool false,.slice none 0 0,.bool false,.slice none 0 0,.bool false,.slice none 0 0] 83);have HF0:=E5 (gY s.data.toList).1.1;have HF1:=E5 (gY s.data.toList).1.2;have HF2:=E5 (gY s.data.toList).2.1;have HF3:=E5 (gY s.data.toList).2.2;have HPX:=E5 (gU s.data.toList).1.pos;have HPY:=E5 (gU s.data.toList).2.pos;go_enter Tryz.func63,Tryz.ntmps63;go_upto_region 1 with fail
 generalize w.alloc (.cells #[.bool false,.slice none 0 0,.bool false,.slice none 0 0,.bool false,.slice none 0 0,.bool false,.slice none 0 0] 83)=w1 at *
 go_wp2_with fail
 refine (oh s w1).mono ?_;rintro e w2 ⟨v2,t,rfl,hz2,ht,hb2⟩;obtain⟨x,hx⟩:∃ x,x=(bO s.data.toList).1:=⟨_,rfl⟩;rw[←hx] at hz2;have HX:=E5 hx;clear hx;obtain⟨a0,n0,c0,a1,n1,c1,rfl,hN2,hNc2,hcm2,hN3,hNc3,hcm3,hd2,hd3⟩:=hz2.parts;obtain⟨m0,hm0⟩:∃ m,m=x.minus:=⟨_,rfl⟩;rw[←hm0] at hz2 ⊢;have HM0:=E5 hm0;clear hm0;have hl2:=aT w2 (.cells #[.bool m0,.slice a0 n0 c0,.bool false,.slice a1 n1 c1] 78);have hb3:=hb2.trans (hl2.below.mono hb2.size);have hr2:=(hb3.block _ (ag hl.s0)).trans hl.s0;have HB:=hl.below.trans (hb3.mono hl.below.size);have HQ:=E5 (hz2.below hl2.below);have hr5:=hl2.s0;clear hl hl2 hb2 hb3 hz2 hd2 hd3;have y0:=aa hr5 0;have y1:=aa hr5 1;have y2:=aa hr5 2;have y3:=aa hr5 3;go_upto_region 3 with fail
 generalize w2.alloc (.cells #[.bool m0,.slice a0 n0 c0,.bool false,.slice a1 n1 c1] 78)=w3 at *
 generalize w2.heap.size=g5 at *
 go_wp2_with fail
 refine (tu _ x w3 HQ.out).mono ?_;rintro e w4 ⟨v4,rfl,hz4,hb4⟩;obtain⟨p0,k0,d0,p1,k1,d1,p2,k2,d2,p3,k3,d3,rfl,_,_⟩:=hz4.parts;obtain⟨m1,hm1⟩:∃ m,m=(Vl.mk x eS).y.minus:=⟨_,rfl⟩;rw[←hm1,show (Vl.mk x eS).x.minus=m0 from HM0.out.symm] at hz4 ⊢;clear hm1;have hl4:=aT w4 (.cells #[.bool m0,.slice p0 k0 d0,.bool false,.slice p1 k1 d1,.bool m1,.slice p2 k2 d2,.bool false,.slice p3 k3 d3] 83);have hb5:=hb4.trans (hl4.below.mono hb4.size);have HG4:w.heap.size<w4.heap.size:=Fe (ag hr2) hb4.size;have hs2:=(hb5.block _ (ag hr2)).trans hr2;have hs5:=(hb5.block _ (ag hr5)).trans hr5;have HB5:=HB.trans (hb5.mono HB.size);have HQ5:=E5 (HQ.out.below hb5);have HC:=E5 (hz4.below hl4.below);have hr7:=hl4.s0;clear y0 y1 y2 y3 hl4 hb4 hb5 hz4 hr2 hr5 HB HQ;have hr2:=hs2;have hr5:=hs5;have HB:=HB5;have HQ:=HQ5;clear hs2 hs5 HB5 HQ5;go_upto_region 4 with fail
 generalize w4.alloc (.cells #[.bool m0,.slice p0 k0 d0,.bool false,.slice p1 k1 d1,.bool m1,.slice p2 k2 d2,.bool false,.slice p3 k3 d3] 83)=w5 at *
 have HG7:w.heap.size<w4.heap.size:=HG4;generalize w4.heap.size=g7 at *
 have htl:t.toList=(bO s.data.toList).2:=by rw[ar];exact ht.out
 by_cases h1:(bO s.data.toList).2=[105]
 ·have z1:(t.toList == [105])=true:=by rw[htl,h1];rfl
  have HRD:=E5 (Eh h1);clear htl h1;go_upto_region 5 with fail
  have hbd:Below w5.heap.size w5 w5.drew:=(Below.refl _ _).drew;have e2:=(hbd.block _ (ag hr2)).trans hr2;have e5:=(hbd.block _ (ag hr5)).trans hr5;have e7:=(hbd.block _ (ag hr7)).trans hr7;have HBd:=HB.trans (hbd.mono HB.size);have HQd:=E5 (HQ.out.below hbd);clear hbd hr2 hr5 hr7 HB HC HQ;have hS:(fun wx:World=>wx.heap[g5]?=some (.cells #[.bool m0,.slice a0 n0 c0,.bool false,.slice a1 n1 c1] 78 (0,0))) w5.drew:=e5;refine wp_mono (av (Q:=aN _) (fun wx:World=>wx.heap[g5]?=some (.cells #[.bool m0,.slice a0 n0 c0,.bool false,.slice a1 n1 c1] 78 (0,0))) (fun i=>i == 3) (by kernel_rfl) ?_) (fun _ _ _ h=>aU h);generalize w5.drew=w6 at *
  refine ax (i:=1) (v:=?vvE) rfl (by kernel_rfl) (fun _ _ _ h=>h) rfl hS ?hyE ?restE
  case hyE =>
   intro wy hy;have q0:=aa hy 0;have q1:=aa hy 1;have q2:=aa hy 2;have q3:=aa hy 3;go_simp;try with_reducible rfl
  try simp only[Act.put,E9,E8,E7,E6,Fa,E_]
  refine au (i:=0) rfl (by kernel_rfl) rfl (fun K hK=>?_);go_simp;refine (kT 0 (by omega) w6).mono ?_;rintro e w7 ⟨v7,rfl,hz7,hb7⟩;have hS7:=(hb7.block _ (ag hS)).trans hS;obtain⟨b0,l0,i0,b1,l1,i1,rfl,_,_,_,_,_,_,_,_⟩:=hz7.parts;obtain⟨m2,hm2⟩:∃ m,m=(Rt.mk false 0 1).minus:=⟨_,rfl⟩;rw[←hm2] at hz7 ⊢;have HM2:=E5 hm2;clear hm2;refine hK _ _ (fun _ _=>hS7) ?_;clear hK K;try simp only[Act.put,E9,E8,E7,E6,Fa,E_]
  refine ai (i:=2) (v:=?vv1) rfl (by kernel_rfl) (fun _ _ _ h=>h) rfl ?hy1 ?rest1;case hy1=>(intro wy;go_simp;try with_reducible rfl)
  try simp only[Act.put,E9,E8,E7,E6,Fa,E_]
  have i2:=(hb7.block _ (ag e2)).trans e2;have i7:=(hb7.block _ (ag e7)).trans e7;have HBe:=HBd.trans (hb7.mono HBd.size);have HQe:=E5 (HQd.out.below hb7);have hP:jU w7 (ez w7 g7 (.bool m2) (.slice b0 l0 i0) (.bool false) (.slice b1 l1 i1) (.bool m0) (.slice a0 n0 c0) (.bool false) (.slice a1 n1 c1)) g7 _ #[.bool m2,.slice b0 l0 i0,.bool false,.slice b1 l1 i1,.bool m0,.slice a0 n0 c0,.bool false,.slice a1 n1 c1]:=dV i7;have hQ7:=hz7.puts hP i7 eJ;have hQe:=HQe.out.puts hP i7 eJ;have j2:=(hP.other _ (Nat.ne_of_lt HG7)).trans i2;have hBf:=HBe.trans (hP.below w.heap.size (FC HG7));have q0:=aa i7 0;have q1:=aa i7 1;have q2:=aa i7 2;have q3:=aa i7 3;have q4:=aa i7 4;have q5:=aa i7 5;have q6:=aa i7 6;have q7:=aa i7 7;have f0:=frozen_of_row w7 g7 0 _ _ i7;have f1:=frozen_of_row w7 g7 1 _ _ i7;have f2:=frozen_of_row w7 g7 2 _ _ i7;have f3:=frozen_of_row w7 g7 3 _ _ i7;have f4:=frozen_of_row w7 g7 4 _ _ i7;have f5:=frozen_of_row w7 g7 5 _ _ i7;have f6:=frozen_of_row w7 g7 6 _ _ i7;have f7:=frozen_of_row w7 g7 7 _ _ i7;clear hz7 hb7 HBd HBe HQd HQe hS hS7 e2 e5 e7 i2;refine au (i:=3) rfl (by kernel_rfl) rfl (fun K hK=>?_);go_simp;change K _ (ez w7 g7 (.bool m2) (.slice b0 l0 i0) (.bool false) (.slice b1 l1 i1) (.bool m0) (.slice a0 n0 c0) (.bool false) (.slice a1 n1 c1));refine hK _ _ (fun h=>by cases h) ?_;clear hK K q0 f0 q1 f1 q2 f2 q3 f3 q4 f4 q5 f5 q6 f6 q7 f7 i7;try simp only[Act.put,E9,E8,E7,E6,Fa,E_]
  refine aG (by kernel_rfl) ?_ _;simp only[aN];have hr7:=hP.row;have hr2:=j2;have HB:=hBf
  have HC:Hid (IsC (ez w7 g7 (.bool m2) (.slice b0 l0 i0) (.bool false) (.slice b1 l1 i1) (.bool m0) (.slice a0 n0 c0) (.bool false) (.slice a1 n1 c1)) (.agg #[.bool m2,.slice b0 l0 i0,.bool false,.slice b1 l1 i1,.bool m0,.slice a0 n0 c0,.bool false,.slice a1 n1 c1]) (aQ s.data.toList)):=by
   rw[HRD.out,←HX.out];obtain⟨u0,u1,eu,hu0,hu1⟩:=hQ7;obtain⟨v0,v1,ev,hv0,hv1⟩:=hQe;simp only[Value.agg.injEq,Array.mk.injEq,List.cons.injEq,and_true,true_and] at eu ev;obtain⟨_,rfl,rfl⟩:=eu;obtain⟨_,rfl,rfl⟩:=ev;refine⟨_,_,_,_,?_,hu0,hu1,hv0,hv1⟩;rw[HM2.out,HM0.out];rfl
  clear hP j2 hBf hQ7 hQe;generalize ez w7 g7 (.bool m2) (.slice b0 l0 i0) (.bool false) (.slice b1 l1 i1) (.bool m0) (.slice a0 n0 c0) (.bool false) (.slice a1 n1 c1)=w8 at *
  go_upto_region 9 with fail
  have hbd:Below w8.heap.size w8 w8.drew:=(Below.refl _ _).drew;have s2:=(hbd.block _ (ag hr2)).trans hr2;have s7:=(hbd.block _ (ag hr7)).trans hr7;have HB2:=HB.trans (hbd.mono HB.size);have HC2:=E5 (HC.out.below hbd);have hS:(fun wx:World=>wx.heap[g7]?=some (.cells #[.bool m2,.slice b0 l0 i0,.bool false,.slice b1 l1 i1,.bool m0,.slice a0 n0 c0,.bool false,.slice a1 n1 c1] 83 (0,0))) w8.drew:=s7;refine wp_mono (av (Q:=aN _) (fun wx:World=>wx.heap[g7]?=some (.cells #[.bool m2,.slice b0 l0 i0,.bool false,.slice b1 l1 i1,.bool m0,.slice a0 n0 c0,.bool false,.slice a1 n1 c1] 83 (0,0))) (fun _=>false) (by kernel_rfl) ?_) (fun _ _ _ h=>aU h);clear hbd hr2 hr7 HB HC;generalize w8.drew=w9 at *
  refine ax (i:=0) (v:=?vvAA) rfl (by kernel_rfl) (fun _ _ _ h=>h) rfl hS ?hyAA ?restAA
  case hyAA =>
   intro wy hy;have q0:=aa hy 0;have q1:=aa hy 1;have q2:=aa hy 2;have q3:=aa hy 3;have q4:=aa hy 4;have q5:=aa hy 5;have q6:=aa hy 6;have q7:=aa hy 7;go_simp;try with_reducible rfl
  try simp only[Act.put,E9,E8,E7,E6,Fa,E_]
  refine ax (i:=1) (v:=?vvBA) rfl (by kernel_rfl) (fun _ _ _ h=>h) rfl hS ?hyBA ?restBA
  case hyBA =>
   intro wy hy;have q0:=aa hy 0;have q1:=aa hy 1;have q2:=aa hy 2;have q3:=aa hy 3;have q4:=aa hy 4;have q5:=aa hy 5;have q6:=aa hy 6;have q7:=aa hy 7;go_simp;try with_reducible rfl
  try simp only[Act.put,E9,E8,E7,E6,Fa,E_]
  refine ai (i:=3) (v:=?vv2) rfl (by kernel_rfl) (fun _ _ _ h=>h) rfl ?hy2 ?rest2;case hy2=>(intro wy;go_simp;try with_reducible rfl)
  try simp only[Act.put,E9,E8,E7,E6,Fa,E_]
  refine au (i:=2) rfl (by kernel_rfl) rfl (fun K hK=>?_);go_simp;refine (k9 _ (aQ s.data.toList) w9 HC2.out HPX.out HPY.out HF0.out HF1.out HF2.out HF3.out).mono ?_;rintro e w10 ⟨rfl,hb10⟩;have hS10:=(hb10.block _ (ag hS)).trans hS;refine hK _ _ (fun _ _=>hS10) ?_;clear hK K;try simp only[Act.put,E9,E8,E7,E6,Fa,E_]
  have HC3:=E5 (HC2.out.below hb10);have s3:=(hb10.block _ (ag s2)).trans s2;have HB3:=HB2.trans (hb10.mono HB2.size);clear HC2 s2 HB2 s7 hb10 hS;obtain⟨tx,htx⟩:∃ tx:ByteArray,tx=⟨(bL (aQ s.data.toList)).toArray⟩:=⟨_,rfl⟩;rw[←htx];obtain⟨bt,hbt⟩:∃ bt,bt=decide (bL (aQ s.data.toList)=s.data.toList):=⟨_,rfl⟩
  have hbe:(tx.toList == s.toList)=bt:=by
   rw[hbt,htx,ar,ar];rw[GU];simp
  have HBT:=E5 hbt;clear hbt htx
  cases bt
  ·refine ai (i:=4) (v:=?vv3) rfl (by kernel_rfl) (fun _ _ _ h=>h) rfl ?hy3 ?rest3;case hy3=>(intro wy;go_simp;try with_reducible rfl)
   try simp only[Act.put,E9,E8,E7,E6,Fa,E_]
   refine ai (i:=5) (v:=?vv4) rfl (by kernel_rfl) (fun _ _ _ h=>h) rfl ?hy4 ?rest4;case hy4=>(intro wy;go_simp;try with_reducible rfl)
   try simp only[Act.put,E9,E8,E7,E6,Fa,E_]
   refine a8 (i:=6) rfl (by kernel_rfl) (fun _ _ _ h=>h) (by rfl) ?_;try simp only[Act.put,E9,E8,E7,E6,Fa,E_]
   refine a8 (i:=7) rfl (by kernel_rfl) (fun _ _ _ h=>h) (by rfl) ?_;try simp only[Act.put,E9,E8,E7,E6,Fa,E_]
   refine a8 (i:=8) rfl (by kernel_rfl) (fun _ _ _ h=>h) (by rfl) ?_;try simp only[Act.put,E9,E8,E7,E6,Fa,E_]
   refine ai (i:=9) (v:=?vv5) rfl (by kernel_rfl) (fun _ _ _ h=>h) rfl ?hy5 ?rest5;case hy5=>(intro wy;go_simp;try with_reducible rfl)
   try simp only[Act.put,E9,E8,E7,E6,Fa,E_]
   have hP:jU w10 (ez w10 w.heap.size (.bool m2) (.slice b0 l0 i0) (.bool false) (.slice b1 l1 i1) (.bool m0) (.slice a0 n0 c0) (.bool false) (.slice a1 n1 c1)) w.heap.size _ #[.bool m2,.slice b0 l0 i0,.bool false,.slice b1 l1 i1,.bool m0,.slice a0 n0 c0,.bool false,.slice a1 n1 c1]:=dV s3;have hZ:Hid (IsC (ez w10 w.heap.size (.bool m2) (.slice b0 l0 i0) (.bool false) (.slice b1 l1 i1) (.bool m0) (.slice a0 n0 c0) (.bool false) (.slice a1 n1 c1)) (.agg #[.bool m2,.slice b0 l0 i0,.bool false,.slice b1 l1 i1,.bool m0,.slice a0 n0 c0,.bool false,.slice a1 n1 c1]) (aQ s.data.toList)):=HC3.out.puts hP s3 eJ;have hB:=HB3.trans (hP.below w.heap.size (by omega));have q0:=aa s3 0;have q1:=aa s3 1;have q2:=aa s3 2;have q3:=aa s3 3;have q4:=aa s3 4;have q5:=aa s3 5;have q6:=aa s3 6;have q7:=aa s3 7;have f0:=frozen_of_row w10 w.heap.size 0 _ _ s3;have f1:=frozen_of_row w10 w.heap.size 1 _ _ s3;have f2:=frozen_of_row w10 w.heap.size 2 _ _ s3;have f3:=frozen_of_row w10 w.heap.size 3 _ _ s3;have f4:=frozen_of_row w10 w.heap.size 4 _ _ s3;have f5:=frozen_of_row w10 w.heap.size 5 _ _ s3;have f6:=frozen_of_row w10 w.heap.size 6 _ _ s3;have f7:=frozen_of_row w10 w.heap.size 7 _ _ s3;clear HC3 HB3 hS10;refine au (i:=10) rfl (by kernel_rfl) rfl (fun K hK=>?_);go_simp;change K _ (ez w10 w.heap.size (.bool m2) (.slice b0 l0 i0) (.bool false) (.slice b1 l1 i1) (.bool m0) (.slice a0 n0 c0) (.bool false) (.slice a1 n1 c1));refine hK _ _ (fun _ hs=>(hP.other _ (Hp HG7)).trans hs) ?_
   clear hK K q0 f0 q1 f1 q2 f2 q3 f3 q4 f4 q5 f5 q6 f6 q7 f7;try simp only[Act.put,E9,E8,E7,E6,Fa,E_]
   refine ai (i:=11) (v:=?vv6) rfl (by kernel_rfl) (fun _ _ _ h=>h) rfl ?hy6 ?rest6;case hy6=>(intro wy;go_simp;try with_reducible rfl)
   try simp only[Act.put,E9,E8,E7,E6,Fa,E_]
   try simp only[Act.put,E9,E8,E7,E6,Fa,E_]
   refine aG (by kernel_rfl) ?_ _;simp only[aN];go_wp2_with fail
   (try simp only[Exit.inBlock,Exit.then])
   refine bodyPost_ret (aF rfl _ _ w.heap.size _ _ (0,0) _ rfl hP.row Tryz.underlying83 rfl (by kernel_rfl)) rfl ?_;exact⟨_,by unfold rOK;rw[←HBT.out];rfl,hZ.out,hB⟩
  ·refine ai (i:=4) (v:=?vv7) rfl (by kernel_rfl) (fun _ _ _ h=>h) rfl ?hy7 ?rest7;case hy7=>(intro wy;go_simp;try with_reducible rfl)
   try simp only[Act.put,E9,E8,E7,E6,Fa,E_]
   refine ai (i:=5) (v:=?vv8) rfl (by kernel_rfl) (fun _ _ _ h=>h) rfl ?hy8 ?rest8;case hy8=>(intro wy;go_simp;try with_reducible rfl)
   try simp only[Act.put,E9,E8,E7,E6,Fa,E_]
   refine bY (i:=6) (v:=?vvCA) rfl (by kernel_rfl) (fun _ _ _ h=>h) (by rfl) hS10 ?hyCA ?restCA
   case hyCA =>
    intro wy hy;have q0:=aa hy 0;have q1:=aa hy 1;have q2:=aa hy 2;have q3:=aa hy 3;have q4:=aa hy 4;have q5:=aa hy 5;have q6:=aa hy 6;have q7:=aa hy 7;go_simp;try with_reducible rfl
   try simp only[Act.put,E9,E8,E7,E6,Fa,E_]
   refine iq (i:=7) rfl (by kernel_rfl) (by rfl) (fun K hK=>?_);go_simp;refine (mt _ (aQ s.data.toList) w10 HC3.out HF0.out HF1.out HF2.out HF3.out).mono ?_;rintro e w11 ⟨rfl,hb11⟩;have hS11:=(hb11.block _ (ag hS10)).trans hS10;refine hK _ _ (fun _ _=>hS11) ?_;clear hK K;try simp only[Act.put,E9,E8,E7,E6,Fa,E_]
   have HC4:=E5 (HC3.out.below hb11);have s4:=(hb11.block _ (ag s3)).trans s3;have HB4:=HB3.trans (hb11.mono HB3.size);clear HC3 s3 HB3 hS10 hb11;obtain⟨bb,hbb⟩:∃ bb,bb=(cL (aQ s.data.toList).x||cL (aQ s.data.toList).y):=⟨_,rfl⟩;rw[←hbb];have HBB:=E5 hbb;clear hbb;refine bY (i:=8) (v:=?vvDA) rfl (by kernel_rfl) (fun _ _ _ h=>h) (by rfl) hS11 ?hyDA ?restDA
   case hyDA =>
    intro wy hy;go_simp;try with_reducible rfl
   try simp only[Act.put,E9,E8,E7,E6,Fa,E_]
   refine ai (i:=9) (v:=?vv9) rfl (by kernel_rfl) (fun _ _ _ h=>h) rfl ?hy9 ?rest9;case hy9=>(intro wy;go_simp;try with_reducible rfl)
   try simp only[Act.put,E9,E8,E7,E6,Fa,E_]
   have hP:jU w11 (ez w11 w.heap.size (.bool m2) (.slice b0 l0 i0) (.bool false) (.slice b1 l1 i1) (.bool m0) (.slice a0 n0 c0) (.bool false) (.slice a1 n1 c1)) w.heap.size _ #[.bool m2,.slice b0 l0 i0,.bool false,.slice b1 l1 i1,.bool m0,.slice a0 n0 c0,.bool false,.slice a1 n1 c1]:=dV s4;have hZ:Hid (IsC (ez w11 w.heap.size (.bool m2) (.slice b0 l0 i0) (.bool false) (.slice b1 l1 i1) (.bool m0) (.slice a0 n0 c0) (.bool false) (.slice a1 n1 c1)) (.agg #[.bool m2,.slice b0 l0 i0,.bool false,.slice b1 l1 i1,.bool m0,.slice a0 n0 c0,.bool false,.slice a1 n1 c1]) (aQ s.data.toList)):=HC4.out.puts hP s4 eJ;have hB:=HB4.trans (hP.below w.heap.size (by omega));have q0:=aa s4 0;have q1:=aa s4 1;have q2:=aa s4 2;have q3:=aa s4 3;have q4:=aa s4 4;have q5:=aa s4 5;have q6:=aa s4 6;have q7:=aa s4 7;have f0:=frozen_of_row w11 w.heap.size 0 _ _ s4;have f1:=frozen_of_row w11 w.heap.size 1 _ _ s4;have f2:=frozen_of_row w11 w.heap.size 2 _ _ s4;have f3:=frozen_of_row w11 w.heap.size 3 _ _ s4;have f4:=frozen_of_row w11 w.heap.size 4 _ _ s4;have f5:=frozen_of_row w11 w.heap.size 5 _ _ s4;have f6:=frozen_of_row w11 w.heap.size 6 _ _ s4;have f7:=frozen_of_row w11 w.heap.size 7 _ _ s4;clear HC4 HB4 hS11;refine au (i:=10) rfl (by kernel_rfl) rfl (fun K hK=>?_);go_simp;change K _ (ez w11 w.heap.size (.bool m2) (.slice b0 l0 i0) (.bool false) (.slice b1 l1 i1) (.bool m0) (.slice a0 n0 c0) (.bool false) (.slice a1 n1 c1));refine hK _ _ (fun _ hs=>(hP.other _ (Hp HG7)).trans hs) ?_
   clear hK K q0 f0 q1 f1 q2 f2 q3 f3 q4 f4 q5 f5 q6 f6 q7 f7;try simp only[Act.put,E9,E8,E7,E6,Fa,E_]
   refine ai (i:=11) (v:=?vv10) rfl (by kernel_rfl) (fun _ _ _ h=>h) rfl ?hy10 ?rest10;case hy10=>(intro wy;go_simp;try with_reducible rfl)
   try simp only[Act.put,E9,E8,E7,E6,Fa,E_]
   try simp only[Act.put,E9,E8,E7,E6,Fa,E_]
   refine aG (by kernel_rfl) ?_ _;simp only[aN];go_wp2_with fail
   (try simp only[Exit.inBlock,Exit.then])
   refine bodyPost_ret (aF rfl _ _ w.heap.size _ _ (0,0) _ rfl hP.row Tryz.underlying83 rfl (by kernel_rfl)) rfl ?_;exact⟨_,by unfold rOK;rw[←HBT.out,←HBB.out];rfl,hZ.out,hB⟩
 ·have z1:(t.toList == [105])=false:=by rw[htl];simpa using h1
  by_cases h2:(bO s.data.toList).2=[]
  ·have z2:(t.toList == [])=true:=by rw[htl,h2];rfl
   have HRD:=E5 (Bc h2);rw[←HX.out] at HRD;rw[←HRD.out] at HC;clear htl h1 h2 hr5 HQ;go_upto_region 9 with fail
   have hbd:Below w5.heap.size w5 w5.drew:=(Below.refl _ _).drew;have s2:=(hbd.block _ (ag hr2)).trans hr2;have s7:=(hbd.block _ (ag hr7)).trans hr7;have HB2:=HB.trans (hbd.mono HB.size);have HC2:=E5 (HC.out.below hbd);have hS:(fun wx:World=>wx.heap[g7]?=some (.cells #[.bool m0,.slice p0 k0 d0,.bool false,.slice p1 k1 d1,.bool m1,.slice p2 k2 d2,.bool false,.slice p3 k3 d3] 83 (0,0))) w5.drew:=s7;refine wp_mono (av (Q:=aN _) (fun wx:World=>wx.heap[g7]?=some (.cells #[.bool m0,.slice p0 k0 d0,.bool false,.slice p1 k1 d1,.bool m1,.slice p2 k2 d2,.bool false,.slice p3 k3 d3] 83 (0,0))) (fun _=>false) (by kernel_rfl) ?_) (fun _ _ _ h=>aU h);clear hbd hr2 hr7 HB HC;generalize w5.drew=w9 at *
   refine ax (i:=0) (v:=?vvAC) rfl (by kernel_rfl) (fun _ _ _ h=>h) rfl hS ?hyAC ?restAC
   case hyAC =>
    intro wy hy;have q0:=aa hy 0;have q1:=aa hy 1;have q2:=aa hy 2;have q3:=aa hy 3;have q4:=aa hy 4;have q5:=aa hy 5;have q6:=aa hy 6;have q7:=aa hy 7;go_simp;try with_reducible rfl
   try simp only[Act.put,E9,E8,E7,E6,Fa,E_]
   refine ax (i:=1) (v:=?vvBC) rfl (by kernel_rfl) (fun _ _ _ h=>h) rfl hS ?hyBC ?restBC
   case hyBC =>
    intro wy hy;have q0:=aa hy 0;have q1:=aa hy 1;have q2:=aa hy 2;have q3:=aa hy 3;have q4:=aa hy 4;have q5:=aa hy 5;have q6:=aa hy 6;have q7:=aa hy 7;go_simp;try with_reducible rfl
   try simp only[Act.put,E9,E8,E7,E6,Fa,E_]
   refine ai (i:=3) (v:=?vv11) rfl (by kernel_rfl) (fun _ _ _ h=>h) rfl ?hy11 ?rest11;case hy11=>(intro wy;go_simp;try with_reducible rfl)
   try simp only[Act.put,E9,E8,E7,E6,Fa,E_]
   refine au (i:=2) rfl (by kernel_rfl) rfl (fun K hK=>?_);go_simp;refine (k9 _ (aQ s.data.toList) w9 HC2.out HPX.out HPY.out HF0.out HF1.out HF2.out HF3.out).mono ?_;rintro e w10 ⟨rfl,hb10⟩;have hS10:=(hb10.block _ (ag hS)).trans hS;refine hK _ _ (fun _ _=>hS10) ?_;clear hK K;try simp only[Act.put,E9,E8,E7,E6,Fa,E_]
   have HC3:=E5 (HC2.out.below hb10);have s3:=(hb10.block _ (ag s2)).trans s2;have HB3:=HB2.trans (hb10.mono HB2.size);clear HC2 s2 HB2 s7 hb10 hS;obtain⟨tx,htx⟩:∃ tx:ByteArray,tx=⟨(bL (aQ s.data.toList)).toArray⟩:=⟨_,rfl⟩;rw[←htx];obtain⟨bt,hbt⟩:∃ bt,bt=decide (bL (aQ s.data.toList)=s.data.toList):=⟨_,rfl⟩
   have hbe:(tx.toList == s.toList)=bt:=by
    rw[hbt,htx,ar,ar];rw[GU];simp
   have HBT:=E5 hbt;clear hbt htx
   cases bt
   ·refine ai (i:=4) (v:=?vv12) rfl (by kernel_rfl) (fun _ _ _ h=>h) rfl ?hy12 ?rest12;case hy12=>(intro wy;go_simp;try with_reducible rfl)
    try simp only[Act.put,E9,E8,E7,E6,Fa,E_]
    refine ai (i:=5) (v:=?vv13) rfl (by kernel_rfl) (fun _ _ _ h=>h) rfl ?hy13 ?rest13;case hy13=>(intro wy;go_simp;try with_reducible rfl)
    try simp only[Act.put,E9,E8,E7,E6,Fa,E_]
    refine a8 (i:=6) rfl (by kernel_rfl) (fun _ _ _ h=>h) (by rfl) ?_;try simp only[Act.put,E9,E8,E7,E6,Fa,E_]
    refine a8 (i:=7) rfl (by kernel_rfl) (fun _ _ _ h=>h) (by rfl) ?_;try simp only[Act.put,E9,E8,E7,E6,Fa,E_]
    refine a8 (i:=8) rfl (by kernel_rfl) (fun _ _ _ h=>h) (by rfl) ?_;try simp only[Act.put,E9,E8,E7,E6,Fa,E_]
    refine ai (i:=9) (v:=?vv14) rfl (by kernel_rfl) (fun _ _ _ h=>h) rfl ?hy14 ?rest14;case hy14=>(intro wy;go_simp;try with_reducible rfl)
    try simp only[Act.put,E9,E8,E7,E6,Fa,E_]
    have hP:jU w10 (ez w10 w.heap.size (.bool m0) (.slice p0 k0 d0) (.bool false) (.slice p1 k1 d1) (.bool m1) (.slice p2 k2 d2) (.bool false) (.slice p3 k3 d3)) w.heap.size _ #[.bool m0,.slice p0 k0 d0,.bool false,.slice p1 k1 d1,.bool m1,.slice p2 k2 d2,.bool false,.slice p3 k3 d3]:=dV s3;have hZ:Hid (IsC (ez w10 w.heap.size (.bool m0) (.slice p0 k0 d0) (.bool false) (.slice p1 k1 d1) (.bool m1) (.slice p2 k2 d2) (.bool false) (.slice p3 k3 d3)) (.agg #[.bool m0,.slice p0 k0 d0,.bool false,.slice p1 k1 d1,.bool m1,.slice p2 k2 d2,.bool false,.slice p3 k3 d3]) (aQ s.data.toList)):=HC3.out.puts hP s3 eJ;have hB:=HB3.trans (hP.below w.heap.size (by omega));have q0:=aa s3 0;have q1:=aa s3 1;have q2:=aa s3 2;have q3:=aa s3 3;have q4:=aa s3 4;have q5:=aa s3 5;have q6:=aa s3 6;have q7:=aa s3 7;have f0:=frozen_of_row w10 w.heap.size 0 _ _ s3;have f1:=frozen_of_row w10 w.heap.size 1 _ _ s3;have f2:=frozen_of_row w10 w.heap.size 2 _ _ s3;have f3:=frozen_of_row w10 w.heap.size 3 _ _ s3;have f4:=frozen_of_row w10 w.heap.size 4 _ _ s3;have f5:=frozen_of_row w10 w.heap.size 5 _ _ s3;have f6:=frozen_of_row w10 w.heap.size 6 _ _ s3;have f7:=frozen_of_row w10 w.heap.size 7 _ _ s3;clear HC3 HB3 hS10;refine au (i:=10) rfl (by kernel_rfl) rfl (fun K hK=>?_);go_simp;change K _ (ez w10 w.heap.size (.bool m0) (.slice p0 k0 d0) (.bool false) (.slice p1 k1 d1) (.bool m1) (.slice p2 k2 d2) (.bool false) (.slice p3 k3 d3));refine hK _ _ (fun _ hs=>(hP.other _ (Hp HG7)).trans hs) ?_
    clear hK K q0 f0 q1 f1 q2 f2 q3 f3 q4 f4 q5 f5 q6 f6 q7 f7;try simp only[Act.put,E9,E8,E7,E6,Fa,E_]
    refine ai (i:=11) (v:=?vv15) rfl (by kernel_rfl) (fun _ _ _ h=>h) rfl ?hy15 ?rest15;case hy15=>(intro wy;go_simp;try with_reducible rfl)
    try simp only[Act.put,E9,E8,E7,E6,Fa,E_]
    try simp only[Act.put,E9,E8,E7,E6,Fa,E_]
    refine aG (by kernel_rfl) ?_ _;simp only[aN];go_wp2_with fail
    (try simp only[Exit.inBlock,Exit.then])
    refine bodyPost_ret (aF rfl _ _ w.heap.size _ _ (0,0) _ rfl hP.row Tryz.underlying83 rfl (by kernel_rfl)) rfl ?_;exact⟨_,by unfold rOK;rw[←HBT.out];rfl,hZ.out,hB⟩
   ·refine ai (i:=4) (v:=?vv16) rfl (by kernel_rfl) (fun _ _ _ h=>h) rfl ?hy16 ?rest16;case hy16=>(intro wy;go_simp;try with_reducible rfl)
    try simp only[Act.put,E9,E8,E7,E6,Fa,E_]
    refine ai (i:=5) (v:=?vv17) rfl (by kernel_rfl) (fun _ _ _ h=>h) rfl ?hy17 ?rest17;case hy17=>(intro wy;go_simp;try with_reducible rfl)
    try simp only[Act.put,E9,E8,E7,E6,Fa,E_]
    refine bY (i:=6) (v:=?vvCC) rfl (by kernel_rfl) (fun _ _ _ h=>h) (by rfl) hS10 ?hyCC ?restCC
    case hyCC =>
     intro wy hy;have q0:=aa hy 0;have q1:=aa hy 1;have q2:=aa hy 2;have q3:=aa hy 3;have q4:=aa hy 4;have q5:=aa hy 5;have q6:=aa hy 6;have q7:=aa hy 7;go_simp;try with_reducible rfl
    try simp only[Act.put,E9,E8,E7,E6,Fa,E_]
    refine iq (i:=7) rfl (by kernel_rfl) (by rfl) (fun K hK=>?_);go_simp;refine (mt _ (aQ s.data.toList) w10 HC3.out HF0.out HF1.out HF2.out HF3.out).mono ?_;rintro e w11 ⟨rfl,hb11⟩;have hS11:=(hb11.block _ (ag hS10)).trans hS10;refine hK _ _ (fun _ _=>hS11) ?_;clear hK K;try simp only[Act.put,E9,E8,E7,E6,Fa,E_]
    have HC4:=E5 (HC3.out.below hb11);have s4:=(hb11.block _ (ag s3)).trans s3;have HB4:=HB3.trans (hb11.mono HB3.size);clear HC3 s3 HB3 hS10 hb11;obtain⟨bb,hbb⟩:∃ bb,bb=(cL (aQ s.data.toList).x||cL (aQ s.data.toList).y):=⟨_,rfl⟩;rw[←hbb];have HBB:=E5 hbb;clear hbb;refine bY (i:=8) (v:=?vvDC) rfl (by kernel_rfl) (fun _ _ _ h=>h) (by rfl) hS11 ?hyDC ?restDC
    case hyDC =>
     intro wy hy;go_simp;try with_reducible rfl
    try simp only[Act.put,E9,E8,E7,E6,Fa,E_]
    refine ai (i:=9) (v:=?vv18) rfl (by kernel_rfl) (fun _ _ _ h=>h) rfl ?hy18 ?rest18;case hy18=>(intro wy;go_simp;try with_reducible rfl)
    try simp only[Act.put,E9,E8,E7,E6,Fa,E_]
    have hP:jU w11 (ez w11 w.heap.size (.bool m0) (.slice p0 k0 d0) (.bool false) (.slice p1 k1 d1) (.bool m1) (.slice p2 k2 d2) (.bool false) (.slice p3 k3 d3)) w.heap.size _ #[.bool m0,.slice p0 k0 d0,.bool false,.slice p1 k1 d1,.bool m1,.slice p2 k2 d2,.bool false,.slice p3 k3 d3]:=dV s4;have hZ:Hid (IsC (ez w11 w.heap.size (.bool m0) (.slice p0 k0 d0) (.bool false) (.slice p1 k1 d1) (.bool m1) (.slice p2 k2 d2) (.bool false) (.slice p3 k3 d3)) (.agg #[.bool m0,.slice p0 k0 d0,.bool false,.slice p1 k1 d1,.bool m1,.slice p2 k2 d2,.bool false,.slice p3 k3 d3]) (aQ s.data.toList)):=HC4.out.puts hP s4 eJ;have hB:=HB4.trans (hP.below w.heap.size (by omega));have q0:=aa s4 0;have q1:=aa s4 1;have q2:=aa s4 2;have q3:=aa s4 3;have q4:=aa s4 4;have q5:=aa s4 5;have q6:=aa s4 6;have q7:=aa s4 7;have f0:=frozen_of_row w11 w.heap.size 0 _ _ s4;have f1:=frozen_of_row w11 w.heap.size 1 _ _ s4;have f2:=frozen_of_row w11 w.heap.size 2 _ _ s4;have f3:=frozen_of_row w11 w.heap.size 3 _ _ s4;have f4:=frozen_of_row w11 w.heap.size 4 _ _ s4;have f5:=frozen_of_row w11 w.heap.size 5 _ _ s4;have f6:=frozen_of_row w11 w.heap.size 6 _ _ s4;have f7:=frozen_of_row w11 w.heap.size 7 _ _ s4;clear HC4 HB4 hS11;refine au (i:=10) rfl (by kernel_rfl) rfl (fun K hK=>?_);go_simp;change K _ (ez w11 w.heap.size (.bool m0) (.slice p0 k0 d0) (.bool false) (.slice p1 k1 d1) (.bool m1) (.slice p2 k2 d2) (.bool false) (.slice p3 k3 d3));refine hK _ _ (fun _ hs=>(hP.other _ (Hp HG7)).trans hs) ?_
    clear hK K q0 f0 q1 f1 q2 f2 q3 f3 q4 f4 q5 f5 q6 f6 q7 f7;try simp only[Act.put,E9,E8,E7,E6,Fa,E_]
    refine ai (i:=11) (v:=?vv19) rfl (by kernel_rfl) (fun _ _ _ h=>h) rfl ?hy19 ?rest19;case hy19=>(intro wy;go_simp;try with_reducible rfl)
    try simp only[Act.put,E9,E8,E7,E6,Fa,E_]
    try simp only[Act.put,E9,E8,E7,E6,Fa,E_]
    refine aG (by kernel_rfl) ?_ _;simp only[aN];go_wp2_with fail
    (try simp only[Exit.inBlock,Exit.then])
    refine bodyPost_ret (aF rfl _ _ w.heap.size _ _ (0,0) _ rfl hP.row Tryz.underlying83 rfl (by kernel_rfl)) rfl ?_;exact⟨_,by unfold rOK;rw[←HBT.out,←HBB.out];rfl,hZ.out,hB⟩
  ·have z2:(t.toList == [])=false:=by rw[htl];simpa using h2
   have HRD:=E5 (Bd h1 h2);clear htl h1 h2 HC;go_wp2_with fail
   refine (oh t w5).mono ?_;rintro e w6 ⟨v6,t6,rfl,hz6,ht6,hb6⟩;rw[ht.out] at hz6;obtain⟨y,hy⟩:∃ y,y=(bO (bO s.data.toList).2).1:=⟨_,rfl⟩;rw[←hy] at hz6;have HYY:=E5 hy;clear hy;obtain⟨b0,l0,i0,b1,l1,i1,rfl,_,_,_,_,_,_,_,_⟩:=hz6.parts;obtain⟨m2,hm2⟩:∃ m,m=y.minus:=⟨_,rfl⟩;rw[←hm2] at hz6 ⊢;have HM2:=E5 hm2;clear hm2;have hl6:=aT w6 (.cells #[.bool m2,.slice b0 l0 i0,.bool false,.slice b1 l1 i1] 78);have hb7:=hb6.trans (hl6.below.mono hb6.size);have i2:=(hb7.block _ (ag hr2)).trans hr2;have i5:=(hb7.block _ (ag hr5)).trans hr5;have i7:=(hb7.block _ (ag hr7)).trans hr7;have i8:=hl6.s0;have HBe:=HB.trans (hb7.mono HB.size);have HQe:=E5 (HQ.out.below hb7);have HYe:=E5 (hz6.below hl6.below);clear hl6 hb6 hb7 hz6 hr2 hr5 hr7 HB HQ;go_upto_region 8 with fail
   generalize w6.alloc (.cells #[.bool m2,.slice b0 l0 i0,.bool false,.slice b1 l1 i1] 78)=w7 at *
   generalize w6.heap.size=g8 at *
   have hP:jU w7 (ez w7 g7 (.bool m0) (.slice a0 n0 c0) (.bool false) (.slice a1 n1 c1) (.bool m2) (.slice b0 l0 i0) (.bool false) (.slice b1 l1 i1)) g7 _ #[.bool m0,.slice a0 n0 c0,.bool false,.slice a1 n1 c1,.bool m2,.slice b0 l0 i0,.bool false,.slice b1 l1 i1]:=dV i7;have hQ7:=HQe.out.puts hP i7 eJ;have hQe:=HYe.out.puts hP i7 eJ;have j2:=(hP.other _ (Nat.ne_of_lt HG7)).trans i2;have hBf:=HBe.trans (hP.below w.heap.size (FC HG7))
   have HC:Hid (IsC (ez w7 g7 (.bool m0) (.slice a0 n0 c0) (.bool false) (.slice a1 n1 c1) (.bool m2) (.slice b0 l0 i0) (.bool false) (.slice b1 l1 i1)) (.agg #[.bool m0,.slice a0 n0 c0,.bool false,.slice a1 n1 c1,.bool m2,.slice b0 l0 i0,.bool false,.slice b1 l1 i1]) (aQ s.data.toList)):=by
    rw[HRD.out,←HX.out,←HYY.out];obtain⟨u0,u1,eu,hu0,hu1⟩:=hQ7;obtain⟨v0,v1,ev,hv0,hv1⟩:=hQe;simp only[Value.agg.injEq,Array.mk.injEq,List.cons.injEq,and_true,true_and] at eu ev;obtain⟨_,rfl,rfl⟩:=eu;obtain⟨_,rfl,rfl⟩:=ev;refine⟨_,_,_,_,?_,hu0,hu1,hv0,hv1⟩;rw[HM2.out,HM0.out]
   have hr7:=hP.row;have hr2:=j2;have HB:=hBf;have q0:=aa i7 0;have q1:=aa i7 1;have q2:=aa i7 2;have q3:=aa i7 3;have q4:=aa i7 4;have q5:=aa i7 5;have q6:=aa i7 6;have q7:=aa i7 7;have f0:=frozen_of_row w7 g7 0 _ _ i7;have f1:=frozen_of_row w7 g7 1 _ _ i7;have f2:=frozen_of_row w7 g7 2 _ _ i7;have f3:=frozen_of_row w7 g7 3 _ _ i7;have f4:=frozen_of_row w7 g7 4 _ _ i7;have f5:=frozen_of_row w7 g7 5 _ _ i7;have f6:=frozen_of_row w7 g7 6 _ _ i7;have f7:=frozen_of_row w7 g7 7 _ _ i7;have x0:=aa i5 0;have x1:=aa i5 1;have x2:=aa i5 2;have x3:=aa i5 3;have y0:=aa i8 0;have y1:=aa i8 1;have y2:=aa i8 2;have y3:=aa i8 3;clear hP hQ7 hQe j2 hBf HQe HYe HBe i2;unfold ez at hr7 hr2 HB HC;go_upto_region 9 with fail
   clear q0 f0 q1 f1 q2 f2 q3 f3 q4 f4 q5 f5 q6 f6 q7 f7 x0 x1 x2 x3 y0 y1 y2 y3 i5 i7 i8;generalize ((((((((w7.setCell ⟨g7,0,none⟩ (.bool m0)).setCell ⟨g7,1,none⟩ (.slice a0 n0 c0)).setCell ⟨g7,2,none⟩ (.bool false)).setCell ⟨g7,3,none⟩ (.slice a1 n1 c1)).setCell ⟨g7,4,none⟩ (.bool m2)).setCell ⟨g7,5,none⟩ (.slice b0 l0 i0)).setCell ⟨g7,6,none⟩ (.bool false)).setCell ⟨g7,7,none⟩ (.slice b1 l1 i1))=w8 at *
   have hbd:Below w8.heap.size w8 w8.drew:=(Below.refl _ _).drew;have s2:=(hbd.block _ (ag hr2)).trans hr2;have s7:=(hbd.block _ (ag hr7)).trans hr7;have HB2:=HB.trans (hbd.mono HB.size);have HC2:=E5 (HC.out.below hbd);have hS:(fun wx:World=>wx.heap[g7]?=some (.cells #[.bool m0,.slice a0 n0 c0,.bool false,.slice a1 n1 c1,.bool m2,.slice b0 l0 i0,.bool false,.slice b1 l1 i1] 83 (0,0))) w8.drew:=s7;refine wp_mono (av (Q:=aN _) (fun wx:World=>wx.heap[g7]?=some (.cells #[.bool m0,.slice a0 n0 c0,.bool false,.slice a1 n1 c1,.bool m2,.slice b0 l0 i0,.bool false,.slice b1 l1 i1] 83 (0,0))) (fun _=>false) (by kernel_rfl) ?_) (fun _ _ _ h=>aU h);clear hbd hr2 hr7 HB HC;generalize w8.drew=w9 at *
   refine ax (i:=0) (v:=?vvAB) rfl (by kernel_rfl) (fun _ _ _ h=>h) rfl hS ?hyAB ?restAB
   case hyAB =>
    intro wy hy;have q0:=aa hy 0;have q1:=aa hy 1;have q2:=aa hy 2;have q3:=aa hy 3;have q4:=aa hy 4;have q5:=aa hy 5;have q6:=aa hy 6;have q7:=aa hy 7;go_simp;try with_reducible rfl
   try simp only[Act.put,E9,E8,E7,E6,Fa,E_]
   refine ax (i:=1) (v:=?vvBB) rfl (by kernel_rfl) (fun _ _ _ h=>h) rfl hS ?hyBB ?restBB
   case hyBB =>
    intro wy hy;have q0:=aa hy 0;have q1:=aa hy 1;have q2:=aa hy 2;have q3:=aa hy 3;have q4:=aa hy 4;have q5:=aa hy 5;have q6:=aa hy 6;have q7:=aa hy 7;go_simp;try with_reducible rfl
   try simp only[Act.put,E9,E8,E7,E6,Fa,E_]
   refine ai (i:=3) (v:=?vv20) rfl (by kernel_rfl) (fun _ _ _ h=>h) rfl ?hy20 ?rest20;case hy20=>(intro wy;go_simp;try with_reducible rfl)
   try simp only[Act.put,E9,E8,E7,E6,Fa,E_]
   refine au (i:=2) rfl (by kernel_rfl) rfl (fun K hK=>?_);go_simp;refine (k9 _ (aQ s.data.toList) w9 HC2.out HPX.out HPY.out HF0.out HF1.out HF2.out HF3.out).mono ?_;rintro e w10 ⟨rfl,hb10⟩;have hS10:=(hb10.block _ (ag hS)).trans hS;refine hK _ _ (fun _ _=>hS10) ?_;clear hK K;try simp only[Act.put,E9,E8,E7,E6,Fa,E_]
   have HC3:=E5 (HC2.out.below hb10);have s3:=(hb10.block _ (ag s2)).trans s2;have HB3:=HB2.trans (hb10.mono HB2.size);clear HC2 s2 HB2 s7 hb10 hS;obtain⟨tx,htx⟩:∃ tx:ByteArray,tx=⟨(bL (aQ s.data.toList)).toArray⟩:=⟨_,rfl⟩;rw[←htx];obtain⟨bt,hbt⟩:∃ bt,bt=decide (bL (aQ s.data.toList)=s.data.toList):=⟨_,rfl⟩
   have hbe:(tx.toList == s.toList)=bt:=by
    rw[hbt,htx,ar,ar];rw[GU];simp
   have HBT:=E5 hbt;clear hbt htx
   cases bt
   ·refine ai (i:=4) (v:=?vv21) rfl (by kernel_rfl) (fun _ _ _ h=>h) rfl ?hy21 ?rest21;case hy21=>(intro wy;go_simp;try with_reducible rfl)
    try simp only[Act.put,E9,E8,E7,E6,Fa,E_]
    refine ai (i:=5) (v:=?vv22) rfl (by kernel_rfl) (fun _ _ _ h=>h) rfl ?hy22 ?rest22;case hy22=>(intro wy;go_simp;try with_reducible rfl)
    try simp only[Act.put,E9,E8,E7,E6,Fa,E_]
    refine a8 (i:=6) rfl (by kernel_rfl) (fun _ _ _ h=>h) (by rfl) ?_;try simp only[Act.put,E9,E8,E7,E6,Fa,E_]
    refine a8 (i:=7) rfl (by kernel_rfl) (fun _ _ _ h=>h) (by rfl) ?_;try simp only[Act.put,E9,E8,E7,E6,Fa,E_]
    refine a8 (i:=8) rfl (by kernel_rfl) (fun _ _ _ h=>h) (by rfl) ?_;try simp only[Act.put,E9,E8,E7,E6,Fa,E_]
    refine ai (i:=9) (v:=?vv23) rfl (by kernel_rfl) (fun _ _ _ h=>h) rfl ?hy23 ?rest23;case hy23=>(intro wy;go_simp;try with_reducible rfl)
    try simp only[Act.put,E9,E8,E7,E6,Fa,E_]
    have hP:jU w10 (ez w10 w.heap.size (.bool m0) (.slice a0 n0 c0) (.bool false) (.slice a1 n1 c1) (.bool m2) (.slice b0 l0 i0) (.bool false) (.slice b1 l1 i1)) w.heap.size _ #[.bool m0,.slice a0 n0 c0,.bool false,.slice a1 n1 c1,.bool m2,.slice b0 l0 i0,.bool false,.slice b1 l1 i1]:=dV s3;have hZ:Hid (IsC (ez w10 w.heap.size (.bool m0) (.slice a0 n0 c0) (.bool false) (.slice a1 n1 c1) (.bool m2) (.slice b0 l0 i0) (.bool false) (.slice b1 l1 i1)) (.agg #[.bool m0,.slice a0 n0 c0,.bool false,.slice a1 n1 c1,.bool m2,.slice b0 l0 i0,.bool false,.slice b1 l1 i1]) (aQ s.data.toList)):=HC3.out.puts hP s3 eJ;have hB:=HB3.trans (hP.below w.heap.size (by omega));have q0:=aa s3 0;have q1:=aa s3 1;have q2:=aa s3 2;have q3:=aa s3 3;have q4:=aa s3 4;have q5:=aa s3 5;have q6:=aa s3 6;have q7:=aa s3 7;have f0:=frozen_of_row w10 w.heap.size 0 _ _ s3;have f1:=frozen_of_row w10 w.heap.size 1 _ _ s3;have f2:=frozen_of_row w10 w.heap.size 2 _ _ s3;have f3:=frozen_of_row w10 w.heap.size 3 _ _ s3;have f4:=frozen_of_row w10 w.heap.size 4 _ _ s3;have f5:=frozen_of_row w10 w.heap.size 5 _ _ s3;have f6:=frozen_of_row w10 w.heap.size 6 _ _ s3;have f7:=frozen_of_row w10 w.heap.size 7 _ _ s3;clear HC3 HB3 hS10;refine au (i:=10) rfl (by kernel_rfl) rfl (fun K hK=>?_);go_simp;change K _ (ez w10 w.heap.size (.bool m0) (.slice a0 n0 c0) (.bool false) (.slice a1 n1 c1) (.bool m2) (.slice b0 l0 i0) (.bool false) (.slice b1 l1 i1));refine hK _ _ (fun _ hs=>(hP.other _ (Hp HG7)).trans hs) ?_
    clear hK K q0 f0 q1 f1 q2 f2 q3 f3 q4 f4 q5 f5 q6 f6 q7 f7;try simp only[Act.put,E9,E8,E7,E6,Fa,E_]
    refine ai (i:=11) (v:=?vv24) rfl (by kernel_rfl) (fun _ _ _ h=>h) rfl ?hy24 ?rest24;case hy24=>(intro wy;go_simp;try with_reducible rfl)
    try simp only[Act.put,E9,E8,E7,E6,Fa,E_]
    try simp only[Act.put,E9,E8,E7,E6,Fa,E_]
    refine aG (by kernel_rfl) ?_ _;simp only[aN];go_wp2_with fail
    (try simp only[Exit.inBlock,Exit.then])
    refine bodyPost_ret (aF rfl _ _ w.heap.size _ _ (0,0) _ rfl hP.row Tryz.underlying83 rfl (by kernel_rfl)) rfl ?_;exact⟨_,by unfold rOK;rw[←HBT.out];rfl,hZ.out,hB⟩
   ·refine ai (i:=4) (v:=?vv25) rfl (by kernel_rfl) (fun _ _ _ h=>h) rfl ?hy25 ?rest25;case hy25=>(intro wy;go_simp;try with_reducible rfl)
    try simp only[Act.put,E9,E8,E7,E6,Fa,E_]
    refine ai (i:=5) (v:=?vv26) rfl (by kernel_rfl) (fun _ _ _ h=>h) rfl ?hy26 ?rest26;case hy26=>(intro wy;go_simp;try with_reducible rfl)
    try simp only[Act.put,E9,E8,E7,E6,Fa,E_]
    refine bY (i:=6) (v:=?vvCB) rfl (by kernel_rfl) (fun _ _ _ h=>h) (by rfl) hS10 ?hyCB ?restCB
    case hyCB =>
     intro wy hy;have q0:=aa hy 0;have q1:=aa hy 1;have q2:=aa hy 2;have q3:=aa hy 3;have q4:=aa hy 4;have q5:=aa hy 5;have q6:=aa hy 6;have q7:=aa hy 7;go_simp;try with_reducible rfl
    try simp only[Act.put,E9,E8,E7,E6,Fa,E_]
    refine iq (i:=7) rfl (by kernel_rfl) (by rfl) (fun K hK=>?_);go_simp;refine (mt _ (aQ s.data.toList) w10 HC3.out HF0.out HF1.out HF2.out HF3.out).mono ?_;rintro e w11 ⟨rfl,hb11⟩;have hS11:=(hb11.block _ (ag hS10)).trans hS10;refine hK _ _ (fun _ _=>hS11) ?_;clear hK K;try simp only[Act.put,E9,E8,E7,E6,Fa,E_]
    have HC4:=E5 (HC3.out.below hb11);have s4:=(hb11.block _ (ag s3)).trans s3;have HB4:=HB3.trans (hb11.mono HB3.size);clear HC3 s3 HB3 hS10 hb11;obtain⟨bb,hbb⟩:∃ bb,bb=(cL (aQ s.data.toList).x||cL (aQ s.data.toList).y):=⟨_,rfl⟩;rw[←hbb];have HBB:=E5 hbb;clear hbb;refine bY (i:=8) (v:=?vvDB) rfl (by kernel_rfl) (fun _ _ _ h=>h) (by rfl) hS11 ?hyDB ?restDB
    case hyDB =>
     intro wy hy;go_simp;try with_reducible rfl
    try simp only[Act.put,E9,E8,E7,E6,Fa,E_]
    refine ai (i:=9) (v:=?vv27) rfl (by kernel_rfl) (fun _ _ _ h=>h) rfl ?hy27 ?rest27;case hy27=>(intro wy;go_simp;try with_reducible rfl)
    try simp only[Act.put,E9,E8,E7,E6,Fa,E_]
    have hP:jU w11 (ez w11 w.heap.size (.bool m0) (.slice a0 n0 c0) (.bool false) (.slice a1 n1 c1) (.bool m2) (.slice b0 l0 i0) (.bool false) (.slice b1 l1 i1)) w.heap.size _ #[.bool m0,.slice a0 n0 c0,.bool false,.slice a1 n1 c1,.bool m2,.slice b0 l0 i0,.bool false,.slice b1 l1 i1]:=dV s4;have hZ:Hid (IsC (ez w11 w.heap.size (.bool m0) (.slice a0 n0 c0) (.bool false) (.slice a1 n1 c1) (.bool m2) (.slice b0 l0 i0) (.bool false) (.slice b1 l1 i1)) (.agg #[.bool m0,.slice a0 n0 c0,.bool false,.slice a1 n1 c1,.bool m2,.slice b0 l0 i0,.bool false,.slice b1 l1 i1]) (aQ s.data.toList)):=HC4.out.puts hP s4 eJ;have hB:=HB4.trans (hP.below w.heap.size (by omega));have q0:=aa s4 0;have q1:=aa s4 1;have q2:=aa s4 2;have q3:=aa s4 3;have q4:=aa s4 4;have q5:=aa s4 5;have q6:=aa s4 6;have q7:=aa s4 7;have f0:=frozen_of_row w11 w.heap.size 0 _ _ s4;have f1:=frozen_of_row w11 w.heap.size 1 _ _ s4;have f2:=frozen_of_row w11 w.heap.size 2 _ _ s4;have f3:=frozen_of_row w11 w.heap.size 3 _ _ s4;have f4:=frozen_of_row w11 w.heap.size 4 _ _ s4;have f5:=frozen_of_row w11 w.heap.size 5 _ _ s4;have f6:=frozen_of_row w11 w.heap.size 6 _ _ s4;have f7:=frozen_of_row w11 w.heap.size 7 _ _ s4;clear HC4 HB4 hS11;refine au (i:=10) rfl (by kernel_rfl) rfl (fun K hK=>?_);go_simp;change K _ (ez w11 w.heap.size (.bool m0) (.slice a0 n0 c0) (.bool false) (.slice a1 n1 c1) (.bool m2) (.slice b0 l0 i0) (.bool false) (.slice b1 l1 i1));refine hK _ _ (fun _ hs=>(hP.other _ (Hp HG7)).trans hs) ?_
    clear hK K q0 f0 q1 f1 q2 f2 q3 f3 q4 f4 q5 f5 q6 f6 q7 f7;try simp only[Act.put,E9,E8,E7,E6,Fa,E_]
    refine ai (i:=11) (v:=?vv28) rfl (by kernel_rfl) (fun _ _ _ h=>h) rfl ?hy28 ?rest28;case hy28=>(intro wy;go_simp;try with_reducible rfl)
    try simp only[Act.put,E9,E8,E7,E6,Fa,E_]
    try simp only[Act.put,E9,E8,E7,E6,Fa,E_]
    refine aG (by kernel_rfl) ?_ _;simp only[aN];go_wp2_with fail
    (try simp only[Exit.inBlock,Exit.then])
    refine bodyPost_ret (aF rfl _ _ w.heap.size _ _ (0,0) _ rfl hP.row Tryz.underlying83 rfl (by kernel_rfl)) rfl ?_;exact⟨_,by unfold rOK;rw[←HBT.out,←HBB.out];rfl,hZ.out,hB⟩
end Go.Proofs.YtbnkpcfjechfiaaGreatDoor
