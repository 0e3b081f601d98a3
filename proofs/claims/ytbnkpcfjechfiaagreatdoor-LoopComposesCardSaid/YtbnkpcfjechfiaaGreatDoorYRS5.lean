/- Lemmas of this claim. -/
import Derived.Test.YtbnkpcfjechfiaaGreatDoorYReg
import Derived.Test.YtbnkpcfjechfiaaGreatDoorYRS3
set_option linter.all false
set_option maxRecDepth 100000
set_option maxHeartbeats 8000000
namespace Go.Proofs.YtbnkpcfjechfiaaGreatDoor
open Go.RowKit Dg Dc
theorem IsC.puts {w w':World}{b:Nat}{t t0:TypeId}{us cs:Array Value}{v:Value}{z:Vl} (hv:IsC w v z) (h:j8 w w' b t us) (hr:w.heap[b]?=some (.cells cs t0 (0,0))) (hn:∀ (j:Nat) (z:Int),cs[j]?≠some (Value.int .i64 z)):IsC w' v z:=by
 obtain⟨a,b,c,d,e,h1,h2,h3,h4⟩:=hv;exact⟨a,b,c,d,e,h.isI hr hn h1,h.isI hr hn h2,h.isI hr hn h3,h.isI hr hn h4⟩
theorem sQ (s:List UInt8):bh (cz s).1.n∧bh (cz s).1.d:=by
 have h1:bh 1:=qX (e:=1) (m:=501) rfl (by omega) (by decide);unfold cz
 split
 ·exact⟨h1,h1⟩
 ·split
  ·unfold dh
   split
   ·exact⟨h1.mono (Fz _),h1⟩
   ·exact⟨(kT _).mono (G7 _ _),(kT _).mono (G7 _ _)⟩
  ·exact⟨kT _,h1⟩
theorem kU (s:List UInt8):bh (bV s).1.n∧bh (bV s).1.d:=by
 unfold bV
 split
 ·exact sQ _
 ·split<;>exact sQ _
theorem ic (s:List UInt8):(bh (aR s).x.n∧bh (aR s).x.d)∧(bh (aR s).y.n∧bh (aR s).y.d):=by
 have h1:bh 1:=qX (e:=1) (m:=501) rfl (by omega) (by decide);have h0:bh eX.n∧bh eX.d:=⟨h1.mono (by unfold eX;simp),h1⟩;unfold aR
 split
 ·exact⟨h0,kU _⟩
 ·split
  ·exact⟨kU _,h0⟩
  ·exact⟨kU _,kU _⟩
theorem Ey {s:List UInt8} (h:(bV s).2=[105]):aR s=⟨eX,(bV s).1⟩:=by unfold aR;rw[if_pos h]
theorem By {s:List UInt8} (h:(bV s).2=[]):aR s=⟨(bV s).1,eX⟩:=by unfold aR;rw[if_neg (by rw[h];exact fun e=>by cases e),if_pos h]
theorem Bz {s:List UInt8} (h:(bV s).2≠[105]) (h2:(bV s).2≠[]):aR s=⟨(bV s).1,(bV (bV s).2).1⟩:=by unfold aR;rw[if_neg h,if_neg h2]
theorem q_ (s:ByteArray) (w:World) :
  Calls Tryz.prog 63 #[.string s] w fun e w'=>∃ v,e=.returned (.tuple #[v,.bool (rOK s.data.toList)])∧IsC w' v (aR s.data.toList)∧Below w.heap.size w w':=by
 have hl:=aY w (.cells #[.bool false,.slice none 0 0,.bool false,.slice none 0 0,.bool false,.slice none 0 0,.bool false,.slice none 0 0] 83);have HF0:=Fi (ic s.data.toList).1.1;have HF1:=Fi (ic s.data.toList).1.2;have HF2:=Fi (ic s.data.toList).2.1;have HF3:=Fi (ic s.data.toList).2.2;have HPX:=Fi (hO s.data.toList).1.pos;have HPY:=Fi (hO s.data.toList).2.pos;go_enter Tryz.func63,Tryz.ntmps63;go_upto_region 1 with fail
 generalize w.alloc (.cells #[.bool false,.slice none 0 0,.bool false,.slice none 0 0,.bool false,.slice none 0 0,.bool false,.slice none 0 0] 83)=w1 at *
 go_wp2_with fail
 refine (oM s w1).mono ?_;rintro e w2 ⟨v2,t,rfl,hz2,ht,hb2⟩;obtain⟨x,hx⟩:∃ x,x=(bV s.data.toList).1:=⟨_,rfl⟩;rw[←hx] at hz2;have HX:=Fi hx;clear hx;obtain⟨a0,n0,c0,a1,n1,c1,rfl,hN2,hNc2,hcm2,hN3,hNc3,hcm3,hd2,hd3⟩:=hz2.parts;obtain⟨m0,hm0⟩:∃ m,m=x.minus:=⟨_,rfl⟩;rw[←hm0] at hz2 ⊢;have HM0:=Fi hm0;clear hm0;have hl2:=aY w2 (.cells #[.bool m0,.slice a0 n0 c0,.bool false,.slice a1 n1 c1] 78);have hb3:=hb2.trans (hl2.below.mono hb2.size);have hr2:=(hb3.block _ (ai hl.s0)).trans hl.s0;have HB:=hl.below.trans (hb3.mono hl.below.size);have HQ:=Fi (hz2.below hl2.below);have hr5:=hl2.s0;clear hl hl2 hb2 hb3 hz2 hd2 hd3;have y0:=af hr5 0;have y1:=af hr5 1;have y2:=af hr5 2;have y3:=af hr5 3;go_upto_region 3 with fail
 generalize w2.alloc (.cells #[.bool m0,.slice a0 n0 c0,.bool false,.slice a1 n1 c1] 78)=w3 at *
 generalize w2.heap.size=g5 at *
 go_wp2_with fail
 refine (tL _ x w3 HQ.out).mono ?_;rintro e w4 ⟨v4,rfl,hz4,hb4⟩;obtain⟨p0,k0,d0,p1,k1,d1,p2,k2,d2,p3,k3,d3,rfl,_,_⟩:=hz4.parts;obtain⟨m1,hm1⟩:∃ m,m=(Vl.mk x eX).y.minus:=⟨_,rfl⟩;rw[←hm1,show (Vl.mk x eX).x.minus=m0 from HM0.out.symm] at hz4 ⊢;clear hm1;have hl4:=aY w4 (.cells #[.bool m0,.slice p0 k0 d0,.bool false,.slice p1 k1 d1,.bool m1,.slice p2 k2 d2,.bool false,.slice p3 k3 d3] 83);have hb5:=hb4.trans (hl4.below.mono hb4.size);have HG4:w.heap.size<w4.heap.size:=Ft (ai hr2) hb4.size;have hs2:=(hb5.block _ (ai hr2)).trans hr2;have hs5:=(hb5.block _ (ai hr5)).trans hr5;have HB5:=HB.trans (hb5.mono HB.size);have HQ5:=Fi (HQ.out.below hb5);have HC:=Fi (hz4.below hl4.below);have hr7:=hl4.s0;clear y0 y1 y2 y3 hl4 hb4 hb5 hz4 hr2 hr5 HB HQ;have hr2:=hs2;have hr5:=hs5;have HB:=HB5;have HQ:=HQ5;clear hs2 hs5 HB5 HQ5;go_upto_region 4 with fail
 generalize w4.alloc (.cells #[.bool m0,.slice p0 k0 d0,.bool false,.slice p1 k1 d1,.bool m1,.slice p2 k2 d2,.bool false,.slice p3 k3 d3] 83)=w5 at *
 have HG7:w.heap.size<w4.heap.size:=HG4;generalize w4.heap.size=g7 at *
 have htl:t.toList=(bV s.data.toList).2:=by rw[ax];exact ht.out
 by_cases h1:(bV s.data.toList).2=[105]
 ·have z1:(t.toList == [105])=true:=by rw[htl,h1];rfl
  have HRD:=Fi (Ey h1);clear htl h1;go_upto_region 5 with fail
  have hbd:Below w5.heap.size w5 w5.drew:=(Below.refl _ _).drew;have e2:=(hbd.block _ (ai hr2)).trans hr2;have e5:=(hbd.block _ (ai hr5)).trans hr5;have e7:=(hbd.block _ (ai hr7)).trans hr7;have HBd:=HB.trans (hbd.mono HB.size);have HQd:=Fi (HQ.out.below hbd);clear hbd hr2 hr5 hr7 HB HC HQ;have hS:(fun wx:World=>wx.heap[g5]?=some (.cells #[.bool m0,.slice a0 n0 c0,.bool false,.slice a1 n1 c1] 78 (0,0))) w5.drew:=e5;refine wp_mono (ay (Q:=aP _) (fun wx:World=>wx.heap[g5]?=some (.cells #[.bool m0,.slice a0 n0 c0,.bool false,.slice a1 n1 c1] 78 (0,0))) (fun i=>i == 3) (by kernel_rfl) ?_) (fun _ _ _ h=>aV h);generalize w5.drew=w6 at *
  refine az (i:=1) (v:=?vvE) rfl (by kernel_rfl) (fun _ _ _ h=>h) rfl hS ?hyE ?restE
  case hyE =>
   intro wy hy;have q0:=af hy 0;have q1:=af hy 1;have q2:=af hy 2;have q3:=af hy 3;go_simp;try with_reducible rfl
  try simp only[Act.put,Fm,Fl,Fk,Fj,Fo,Fp]
  refine au (i:=0) rfl (by kernel_rfl) rfl (fun K hK=>?_);go_simp;refine (lk 0 (by omega) w6).mono ?_;rintro e w7 ⟨v7,rfl,hz7,hb7⟩;have hS7:=(hb7.block _ (ai hS)).trans hS;obtain⟨b0,l0,i0,b1,l1,i1,rfl,_,_,_,_,_,_,_,_⟩:=hz7.parts;obtain⟨m2,hm2⟩:∃ m,m=(Rt.mk false 0 1).minus:=⟨_,rfl⟩;rw[←hm2] at hz7 ⊢;have HM2:=Fi hm2;clear hm2;refine hK _ _ (fun _ _=>hS7) ?_;clear hK K;try simp only[Act.put,Fm,Fl,Fk,Fj,Fo,Fp]
  refine aj (i:=2) (v:=?vv1) rfl (by kernel_rfl) (fun _ _ _ h=>h) rfl ?hy1 ?rest1;case hy1=>(intro wy;go_simp;try with_reducible rfl)
  try simp only[Act.put,Fm,Fl,Fk,Fj,Fo,Fp]
  have i2:=(hb7.block _ (ai e2)).trans e2;have i7:=(hb7.block _ (ai e7)).trans e7;have HBe:=HBd.trans (hb7.mono HBd.size);have HQe:=Fi (HQd.out.below hb7);have hP:j8 w7 (eE w7 g7 (.bool m2) (.slice b0 l0 i0) (.bool false) (.slice b1 l1 i1) (.bool m0) (.slice a0 n0 c0) (.bool false) (.slice a1 n1 c1)) g7 _ #[.bool m2,.slice b0 l0 i0,.bool false,.slice b1 l1 i1,.bool m0,.slice a0 n0 c0,.bool false,.slice a1 n1 c1]:=dX i7;have hQ7:=hz7.puts hP i7 eO;have hQe:=HQe.out.puts hP i7 eO;have j2:=(hP.other _ (Nat.ne_of_lt HG7)).trans i2;have hBf:=HBe.trans (hP.below w.heap.size (FT HG7));have q0:=af i7 0;have q1:=af i7 1;have q2:=af i7 2;have q3:=af i7 3;have q4:=af i7 4;have q5:=af i7 5;have q6:=af i7 6;have q7:=af i7 7;have f0:=frozen_of_row w7 g7 0 _ _ i7;have f1:=frozen_of_row w7 g7 1 _ _ i7;have f2:=frozen_of_row w7 g7 2 _ _ i7;have f3:=frozen_of_row w7 g7 3 _ _ i7;have f4:=frozen_of_row w7 g7 4 _ _ i7;have f5:=frozen_of_row w7 g7 5 _ _ i7;have f6:=frozen_of_row w7 g7 6 _ _ i7;have f7:=frozen_of_row w7 g7 7 _ _ i7;clear hz7 hb7 HBd HBe HQd HQe hS hS7 e2 e5 e7 i2;refine au (i:=3) rfl (by kernel_rfl) rfl (fun K hK=>?_);go_simp;change K _ (eE w7 g7 (.bool m2) (.slice b0 l0 i0) (.bool false) (.slice b1 l1 i1) (.bool m0) (.slice a0 n0 c0) (.bool false) (.slice a1 n1 c1));refine hK _ _ (fun h=>by cases h) ?_;clear hK K q0 f0 q1 f1 q2 f2 q3 f3 q4 f4 q5 f5 q6 f6 q7 f7 i7;try simp only[Act.put,Fm,Fl,Fk,Fj,Fo,Fp]
  refine aI (by kernel_rfl) ?_ _;simp only[aP];have hr7:=hP.row;have hr2:=j2;have HB:=hBf
  have HC:Hid (IsC (eE w7 g7 (.bool m2) (.slice b0 l0 i0) (.bool false) (.slice b1 l1 i1) (.bool m0) (.slice a0 n0 c0) (.bool false) (.slice a1 n1 c1)) (.agg #[.bool m2,.slice b0 l0 i0,.bool false,.slice b1 l1 i1,.bool m0,.slice a0 n0 c0,.bool false,.slice a1 n1 c1]) (aR s.data.toList)):=by
   rw[HRD.out,←HX.out];obtain⟨u0,u1,eu,hu0,hu1⟩:=hQ7;obtain⟨v0,v1,ev,hv0,hv1⟩:=hQe;simp only[Value.agg.injEq,Array.mk.injEq,List.cons.injEq,and_true,true_and] at eu ev;obtain⟨_,rfl,rfl⟩:=eu;obtain⟨_,rfl,rfl⟩:=ev;refine⟨_,_,_,_,?_,hu0,hu1,hv0,hv1⟩;rw[HM2.out,HM0.out];rfl
  clear hP j2 hBf hQ7 hQe;generalize eE w7 g7 (.bool m2) (.slice b0 l0 i0) (.bool false) (.slice b1 l1 i1) (.bool m0) (.slice a0 n0 c0) (.bool false) (.slice a1 n1 c1)=w8 at *
  go_upto_region 9 with fail
  have hbd:Below w8.heap.size w8 w8.drew:=(Below.refl _ _).drew;have s2:=(hbd.block _ (ai hr2)).trans hr2;have s7:=(hbd.block _ (ai hr7)).trans hr7;have HB2:=HB.trans (hbd.mono HB.size);have HC2:=Fi (HC.out.below hbd);have hS:(fun wx:World=>wx.heap[g7]?=some (.cells #[.bool m2,.slice b0 l0 i0,.bool false,.slice b1 l1 i1,.bool m0,.slice a0 n0 c0,.bool false,.slice a1 n1 c1] 83 (0,0))) w8.drew:=s7;refine wp_mono (ay (Q:=aP _) (fun wx:World=>wx.heap[g7]?=some (.cells #[.bool m2,.slice b0 l0 i0,.bool false,.slice b1 l1 i1,.bool m0,.slice a0 n0 c0,.bool false,.slice a1 n1 c1] 83 (0,0))) (fun _=>false) (by kernel_rfl) ?_) (fun _ _ _ h=>aV h);clear hbd hr2 hr7 HB HC;generalize w8.drew=w9 at *
  refine az (i:=0) (v:=?vvAA) rfl (by kernel_rfl) (fun _ _ _ h=>h) rfl hS ?hyAA ?restAA
  case hyAA =>
   intro wy hy;have q0:=af hy 0;have q1:=af hy 1;have q2:=af hy 2;have q3:=af hy 3;have q4:=af hy 4;have q5:=af hy 5;have q6:=af hy 6;have q7:=af hy 7;go_simp;try with_reducible rfl
  try simp only[Act.put,Fm,Fl,Fk,Fj,Fo,Fp]
  refine az (i:=1) (v:=?vvBA) rfl (by kernel_rfl) (fun _ _ _ h=>h) rfl hS ?hyBA ?restBA
  case hyBA =>
   intro wy hy;have q0:=af hy 0;have q1:=af hy 1;have q2:=af hy 2;have q3:=af hy 3;have q4:=af hy 4;have q5:=af hy 5;have q6:=af hy 6;have q7:=af hy 7;go_simp;try with_reducible rfl
  try simp only[Act.put,Fm,Fl,Fk,Fj,Fo,Fp]
  refine aj (i:=3) (v:=?vv2) rfl (by kernel_rfl) (fun _ _ _ h=>h) rfl ?hy2 ?rest2;case hy2=>(intro wy;go_simp;try with_reducible rfl)
  try simp only[Act.put,Fm,Fl,Fk,Fj,Fo,Fp]
  refine au (i:=2) rfl (by kernel_rfl) rfl (fun K hK=>?_);go_simp;refine (lz _ (aR s.data.toList) w9 HC2.out HPX.out HPY.out HF0.out HF1.out HF2.out HF3.out).mono ?_;rintro e w10 ⟨rfl,hb10⟩;have hS10:=(hb10.block _ (ai hS)).trans hS;refine hK _ _ (fun _ _=>hS10) ?_;clear hK K;try simp only[Act.put,Fm,Fl,Fk,Fj,Fo,Fp]
  have HC3:=Fi (HC2.out.below hb10);have s3:=(hb10.block _ (ai s2)).trans s2;have HB3:=HB2.trans (hb10.mono HB2.size);clear HC2 s2 HB2 s7 hb10 hS;obtain⟨tx,htx⟩:∃ tx:ByteArray,tx=⟨(bQ (aR s.data.toList)).toArray⟩:=⟨_,rfl⟩;rw[←htx];obtain⟨bt,hbt⟩:∃ bt,bt=decide (bQ (aR s.data.toList)=s.data.toList):=⟨_,rfl⟩
  have hbe:(tx.toList == s.toList)=bt:=by
   rw[hbt,htx,ax,ax];rw[Hf];simp
  have HBT:=Fi hbt;clear hbt htx
  cases bt
  ·refine aj (i:=4) (v:=?vv3) rfl (by kernel_rfl) (fun _ _ _ h=>h) rfl ?hy3 ?rest3;case hy3=>(intro wy;go_simp;try with_reducible rfl)
   try simp only[Act.put,Fm,Fl,Fk,Fj,Fo,Fp]
   refine aj (i:=5) (v:=?vv4) rfl (by kernel_rfl) (fun _ _ _ h=>h) rfl ?hy4 ?rest4;case hy4=>(intro wy;go_simp;try with_reducible rfl)
   try simp only[Act.put,Fm,Fl,Fk,Fj,Fo,Fp]
   refine bf (i:=6) rfl (by kernel_rfl) (fun _ _ _ h=>h) (by rfl) ?_;try simp only[Act.put,Fm,Fl,Fk,Fj,Fo,Fp]
   refine bf (i:=7) rfl (by kernel_rfl) (fun _ _ _ h=>h) (by rfl) ?_;try simp only[Act.put,Fm,Fl,Fk,Fj,Fo,Fp]
   refine bf (i:=8) rfl (by kernel_rfl) (fun _ _ _ h=>h) (by rfl) ?_;try simp only[Act.put,Fm,Fl,Fk,Fj,Fo,Fp]
   refine aj (i:=9) (v:=?vv5) rfl (by kernel_rfl) (fun _ _ _ h=>h) rfl ?hy5 ?rest5;case hy5=>(intro wy;go_simp;try with_reducible rfl)
   try simp only[Act.put,Fm,Fl,Fk,Fj,Fo,Fp]
   have hP:j8 w10 (eE w10 w.heap.size (.bool m2) (.slice b0 l0 i0) (.bool false) (.slice b1 l1 i1) (.bool m0) (.slice a0 n0 c0) (.bool false) (.slice a1 n1 c1)) w.heap.size _ #[.bool m2,.slice b0 l0 i0,.bool false,.slice b1 l1 i1,.bool m0,.slice a0 n0 c0,.bool false,.slice a1 n1 c1]:=dX s3;have hZ:Hid (IsC (eE w10 w.heap.size (.bool m2) (.slice b0 l0 i0) (.bool false) (.slice b1 l1 i1) (.bool m0) (.slice a0 n0 c0) (.bool false) (.slice a1 n1 c1)) (.agg #[.bool m2,.slice b0 l0 i0,.bool false,.slice b1 l1 i1,.bool m0,.slice a0 n0 c0,.bool false,.slice a1 n1 c1]) (aR s.data.toList)):=HC3.out.puts hP s3 eO;have hB:=HB3.trans (hP.below w.heap.size (by omega));have q0:=af s3 0;have q1:=af s3 1;have q2:=af s3 2;have q3:=af s3 3;have q4:=af s3 4;have q5:=af s3 5;have q6:=af s3 6;have q7:=af s3 7;have f0:=frozen_of_row w10 w.heap.size 0 _ _ s3;have f1:=frozen_of_row w10 w.heap.size 1 _ _ s3;have f2:=frozen_of_row w10 w.heap.size 2 _ _ s3;have f3:=frozen_of_row w10 w.heap.size 3 _ _ s3;have f4:=frozen_of_row w10 w.heap.size 4 _ _ s3;have f5:=frozen_of_row w10 w.heap.size 5 _ _ s3;have f6:=frozen_of_row w10 w.heap.size 6 _ _ s3;have f7:=frozen_of_row w10 w.heap.size 7 _ _ s3;clear HC3 HB3 hS10;refine au (i:=10) rfl (by kernel_rfl) rfl (fun K hK=>?_);go_simp;change K _ (eE w10 w.heap.size (.bool m2) (.slice b0 l0 i0) (.bool false) (.slice b1 l1 i1) (.bool m0) (.slice a0 n0 c0) (.bool false) (.slice a1 n1 c1));refine hK _ _ (fun _ hs=>(hP.other _ (Ic HG7)).trans hs) ?_
   clear hK K q0 f0 q1 f1 q2 f2 q3 f3 q4 f4 q5 f5 q6 f6 q7 f7;try simp only[Act.put,Fm,Fl,Fk,Fj,Fo,Fp]
   refine aj (i:=11) (v:=?vv6) rfl (by kernel_rfl) (fun _ _ _ h=>h) rfl ?hy6 ?rest6;case hy6=>(intro wy;go_simp;try with_reducible rfl)
   try simp only[Act.put,Fm,Fl,Fk,Fj,Fo,Fp]
   try simp only[Act.put,Fm,Fl,Fk,Fj,Fo,Fp]
   refine aI (by kernel_rfl) ?_ _;simp only[aP];go_wp2_with fail
   (try simp only[Exit.inBlock,Exit.then])
   refine bodyPost_ret (aJ rfl _ _ w.heap.size _ _ (0,0) _ rfl hP.row Tryz.underlying83 rfl (by kernel_rfl)) rfl ?_;exact⟨_,by unfold rOK;rw[←HBT.out];rfl,hZ.out,hB⟩
  ·refine aj (i:=4) (v:=?vv7) rfl (by kernel_rfl) (fun _ _ _ h=>h) rfl ?hy7 ?rest7;case hy7=>(intro wy;go_simp;try with_reducible rfl)
   try simp only[Act.put,Fm,Fl,Fk,Fj,Fo,Fp]
   refine aj (i:=5) (v:=?vv8) rfl (by kernel_rfl) (fun _ _ _ h=>h) rfl ?hy8 ?rest8;case hy8=>(intro wy;go_simp;try with_reducible rfl)
   try simp only[Act.put,Fm,Fl,Fk,Fj,Fo,Fp]
   refine cj (i:=6) (v:=?vvCA) rfl (by kernel_rfl) (fun _ _ _ h=>h) (by rfl) hS10 ?hyCA ?restCA
   case hyCA =>
    intro wy hy;have q0:=af hy 0;have q1:=af hy 1;have q2:=af hy 2;have q3:=af hy 3;have q4:=af hy 4;have q5:=af hy 5;have q6:=af hy 6;have q7:=af hy 7;go_simp;try with_reducible rfl
   try simp only[Act.put,Fm,Fl,Fk,Fj,Fo,Fp]
   refine iz (i:=7) rfl (by kernel_rfl) (by rfl) (fun K hK=>?_);go_simp;refine (mX _ (aR s.data.toList) w10 HC3.out HF0.out HF1.out HF2.out HF3.out).mono ?_;rintro e w11 ⟨rfl,hb11⟩;have hS11:=(hb11.block _ (ai hS10)).trans hS10;refine hK _ _ (fun _ _=>hS11) ?_;clear hK K;try simp only[Act.put,Fm,Fl,Fk,Fj,Fo,Fp]
   have HC4:=Fi (HC3.out.below hb11);have s4:=(hb11.block _ (ai s3)).trans s3;have HB4:=HB3.trans (hb11.mono HB3.size);clear HC3 s3 HB3 hS10 hb11;obtain⟨bb,hbb⟩:∃ bb,bb=(cU (aR s.data.toList).x||cU (aR s.data.toList).y):=⟨_,rfl⟩;rw[←hbb];have HBB:=Fi hbb;clear hbb;refine cj (i:=8) (v:=?vvDA) rfl (by kernel_rfl) (fun _ _ _ h=>h) (by rfl) hS11 ?hyDA ?restDA
   case hyDA =>
    intro wy hy;go_simp;try with_reducible rfl
   try simp only[Act.put,Fm,Fl,Fk,Fj,Fo,Fp]
   refine aj (i:=9) (v:=?vv9) rfl (by kernel_rfl) (fun _ _ _ h=>h) rfl ?hy9 ?rest9;case hy9=>(intro wy;go_simp;try with_reducible rfl)
   try simp only[Act.put,Fm,Fl,Fk,Fj,Fo,Fp]
   have hP:j8 w11 (eE w11 w.heap.size (.bool m2) (.slice b0 l0 i0) (.bool false) (.slice b1 l1 i1) (.bool m0) (.slice a0 n0 c0) (.bool false) (.slice a1 n1 c1)) w.heap.size _ #[.bool m2,.slice b0 l0 i0,.bool false,.slice b1 l1 i1,.bool m0,.slice a0 n0 c0,.bool false,.slice a1 n1 c1]:=dX s4;have hZ:Hid (IsC (eE w11 w.heap.size (.bool m2) (.slice b0 l0 i0) (.bool false) (.slice b1 l1 i1) (.bool m0) (.slice a0 n0 c0) (.bool false) (.slice a1 n1 c1)) (.agg #[.bool m2,.slice b0 l0 i0,.bool false,.slice b1 l1 i1,.bool m0,.slice a0 n0 c0,.bool false,.slice a1 n1 c1]) (aR s.data.toList)):=HC4.out.puts hP s4 eO;have hB:=HB4.trans (hP.below w.heap.size (by omega));have q0:=af s4 0;have q1:=af s4 1;have q2:=af s4 2;have q3:=af s4 3;have q4:=af s4 4;have q5:=af s4 5;have q6:=af s4 6;have q7:=af s4 7;have f0:=frozen_of_row w11 w.heap.size 0 _ _ s4;have f1:=frozen_of_row w11 w.heap.size 1 _ _ s4;have f2:=frozen_of_row w11 w.heap.size 2 _ _ s4;have f3:=frozen_of_row w11 w.heap.size 3 _ _ s4;have f4:=frozen_of_row w11 w.heap.size 4 _ _ s4;have f5:=frozen_of_row w11 w.heap.size 5 _ _ s4;have f6:=frozen_of_row w11 w.heap.size 6 _ _ s4;have f7:=frozen_of_row w11 w.heap.size 7 _ _ s4;clear HC4 HB4 hS11;refine au (i:=10) rfl (by kernel_rfl) rfl (fun K hK=>?_);go_simp;change K _ (eE w11 w.heap.size (.bool m2) (.slice b0 l0 i0) (.bool false) (.slice b1 l1 i1) (.bool m0) (.slice a0 n0 c0) (.bool false) (.slice a1 n1 c1));refine hK _ _ (fun _ hs=>(hP.other _ (Ic HG7)).trans hs) ?_
   clear hK K q0 f0 q1 f1 q2 f2 q3 f3 q4 f4 q5 f5 q6 f6 q7 f7;try simp only[Act.put,Fm,Fl,Fk,Fj,Fo,Fp]
   refine aj (i:=11) (v:=?vv10) rfl (by kernel_rfl) (fun _ _ _ h=>h) rfl ?hy10 ?rest10;case hy10=>(intro wy;go_simp;try with_reducible rfl)
   try simp only[Act.put,Fm,Fl,Fk,Fj,Fo,Fp]
   try simp only[Act.put,Fm,Fl,Fk,Fj,Fo,Fp]
   refine aI (by kernel_rfl) ?_ _;simp only[aP];go_wp2_with fail
   (try simp only[Exit.inBlock,Exit.then])
   refine bodyPost_ret (aJ rfl _ _ w.heap.size _ _ (0,0) _ rfl hP.row Tryz.underlying83 rfl (by kernel_rfl)) rfl ?_;exact⟨_,by unfold rOK;rw[←HBT.out,←HBB.out];rfl,hZ.out,hB⟩
 ·have z1:(t.toList == [105])=false:=by rw[htl];simpa using h1
  by_cases h2:(bV s.data.toList).2=[]
  ·have z2:(t.toList == [])=true:=by rw[htl,h2];rfl
   have HRD:=Fi (By h2);rw[←HX.out] at HRD;rw[←HRD.out] at HC;clear htl h1 h2 hr5 HQ;go_upto_region 9 with fail
   have hbd:Below w5.heap.size w5 w5.drew:=(Below.refl _ _).drew;have s2:=(hbd.block _ (ai hr2)).trans hr2;have s7:=(hbd.block _ (ai hr7)).trans hr7;have HB2:=HB.trans (hbd.mono HB.size);have HC2:=Fi (HC.out.below hbd);have hS:(fun wx:World=>wx.heap[g7]?=some (.cells #[.bool m0,.slice p0 k0 d0,.bool false,.slice p1 k1 d1,.bool m1,.slice p2 k2 d2,.bool false,.slice p3 k3 d3] 83 (0,0))) w5.drew:=s7;refine wp_mono (ay (Q:=aP _) (fun wx:World=>wx.heap[g7]?=some (.cells #[.bool m0,.slice p0 k0 d0,.bool false,.slice p1 k1 d1,.bool m1,.slice p2 k2 d2,.bool false,.slice p3 k3 d3] 83 (0,0))) (fun _=>false) (by kernel_rfl) ?_) (fun _ _ _ h=>aV h);clear hbd hr2 hr7 HB HC;generalize w5.drew=w9 at *
   refine az (i:=0) (v:=?vvAC) rfl (by kernel_rfl) (fun _ _ _ h=>h) rfl hS ?hyAC ?restAC
   case hyAC =>
    intro wy hy;have q0:=af hy 0;have q1:=af hy 1;have q2:=af hy 2;have q3:=af hy 3;have q4:=af hy 4;have q5:=af hy 5;have q6:=af hy 6;have q7:=af hy 7;go_simp;try with_reducible rfl
   try simp only[Act.put,Fm,Fl,Fk,Fj,Fo,Fp]
   refine az (i:=1) (v:=?vvBC) rfl (by kernel_rfl) (fun _ _ _ h=>h) rfl hS ?hyBC ?restBC
   case hyBC =>
    intro wy hy;have q0:=af hy 0;have q1:=af hy 1;have q2:=af hy 2;have q3:=af hy 3;have q4:=af hy 4;have q5:=af hy 5;have q6:=af hy 6;have q7:=af hy 7;go_simp;try with_reducible rfl
   try simp only[Act.put,Fm,Fl,Fk,Fj,Fo,Fp]
   refine aj (i:=3) (v:=?vv11) rfl (by kernel_rfl) (fun _ _ _ h=>h) rfl ?hy11 ?rest11;case hy11=>(intro wy;go_simp;try with_reducible rfl)
   try simp only[Act.put,Fm,Fl,Fk,Fj,Fo,Fp]
   refine au (i:=2) rfl (by kernel_rfl) rfl (fun K hK=>?_);go_simp;refine (lz _ (aR s.data.toList) w9 HC2.out HPX.out HPY.out HF0.out HF1.out HF2.out HF3.out).mono ?_;rintro e w10 ⟨rfl,hb10⟩;have hS10:=(hb10.block _ (ai hS)).trans hS;refine hK _ _ (fun _ _=>hS10) ?_;clear hK K;try simp only[Act.put,Fm,Fl,Fk,Fj,Fo,Fp]
   have HC3:=Fi (HC2.out.below hb10);have s3:=(hb10.block _ (ai s2)).trans s2;have HB3:=HB2.trans (hb10.mono HB2.size);clear HC2 s2 HB2 s7 hb10 hS;obtain⟨tx,htx⟩:∃ tx:ByteArray,tx=⟨(bQ (aR s.data.toList)).toArray⟩:=⟨_,rfl⟩;rw[←htx];obtain⟨bt,hbt⟩:∃ bt,bt=decide (bQ (aR s.data.toList)=s.data.toList):=⟨_,rfl⟩
   have hbe:(tx.toList == s.toList)=bt:=by
    rw[hbt,htx,ax,ax];rw[Hf];simp
   have HBT:=Fi hbt;clear hbt htx
   cases bt
   ·refine aj (i:=4) (v:=?vv12) rfl (by kernel_rfl) (fun _ _ _ h=>h) rfl ?hy12 ?rest12;case hy12=>(intro wy;go_simp;try with_reducible rfl)
    try simp only[Act.put,Fm,Fl,Fk,Fj,Fo,Fp]
    refine aj (i:=5) (v:=?vv13) rfl (by kernel_rfl) (fun _ _ _ h=>h) rfl ?hy13 ?rest13;case hy13=>(intro wy;go_simp;try with_reducible rfl)
    try simp only[Act.put,Fm,Fl,Fk,Fj,Fo,Fp]
    refine bf (i:=6) rfl (by kernel_rfl) (fun _ _ _ h=>h) (by rfl) ?_;try simp only[Act.put,Fm,Fl,Fk,Fj,Fo,Fp]
    refine bf (i:=7) rfl (by kernel_rfl) (fun _ _ _ h=>h) (by rfl) ?_;try simp only[Act.put,Fm,Fl,Fk,Fj,Fo,Fp]
    refine bf (i:=8) rfl (by kernel_rfl) (fun _ _ _ h=>h) (by rfl) ?_;try simp only[Act.put,Fm,Fl,Fk,Fj,Fo,Fp]
    refine aj (i:=9) (v:=?vv14) rfl (by kernel_rfl) (fun _ _ _ h=>h) rfl ?hy14 ?rest14;case hy14=>(intro wy;go_simp;try with_reducible rfl)
    try simp only[Act.put,Fm,Fl,Fk,Fj,Fo,Fp]
    have hP:j8 w10 (eE w10 w.heap.size (.bool m0) (.slice p0 k0 d0) (.bool false) (.slice p1 k1 d1) (.bool m1) (.slice p2 k2 d2) (.bool false) (.slice p3 k3 d3)) w.heap.size _ #[.bool m0,.slice p0 k0 d0,.bool false,.slice p1 k1 d1,.bool m1,.slice p2 k2 d2,.bool false,.slice p3 k3 d3]:=dX s3;have hZ:Hid (IsC (eE w10 w.heap.size (.bool m0) (.slice p0 k0 d0) (.bool false) (.slice p1 k1 d1) (.bool m1) (.slice p2 k2 d2) (.bool false) (.slice p3 k3 d3)) (.agg #[.bool m0,.slice p0 k0 d0,.bool false,.slice p1 k1 d1,.bool m1,.slice p2 k2 d2,.bool false,.slice p3 k3 d3]) (aR s.data.toList)):=HC3.out.puts hP s3 eO;have hB:=HB3.trans (hP.below w.heap.size (by omega));have q0:=af s3 0;have q1:=af s3 1;have q2:=af s3 2;have q3:=af s3 3;have q4:=af s3 4;have q5:=af s3 5;have q6:=af s3 6;have q7:=af s3 7;have f0:=frozen_of_row w10 w.heap.size 0 _ _ s3;have f1:=frozen_of_row w10 w.heap.size 1 _ _ s3;have f2:=frozen_of_row w10 w.heap.size 2 _ _ s3;have f3:=frozen_of_row w10 w.heap.size 3 _ _ s3;have f4:=frozen_of_row w10 w.heap.size 4 _ _ s3;have f5:=frozen_of_row w10 w.heap.size 5 _ _ s3;have f6:=frozen_of_row w10 w.heap.size 6 _ _ s3;have f7:=frozen_of_row w10 w.heap.size 7 _ _ s3;clear HC3 HB3 hS10;refine au (i:=10) rfl (by kernel_rfl) rfl (fun K hK=>?_);go_simp;change K _ (eE w10 w.heap.size (.bool m0) (.slice p0 k0 d0) (.bool false) (.slice p1 k1 d1) (.bool m1) (.slice p2 k2 d2) (.bool false) (.slice p3 k3 d3));refine hK _ _ (fun _ hs=>(hP.other _ (Ic HG7)).trans hs) ?_
    clear hK K q0 f0 q1 f1 q2 f2 q3 f3 q4 f4 q5 f5 q6 f6 q7 f7;try simp only[Act.put,Fm,Fl,Fk,Fj,Fo,Fp]
    refine aj (i:=11) (v:=?vv15) rfl (by kernel_rfl) (fun _ _ _ h=>h) rfl ?hy15 ?rest15;case hy15=>(intro wy;go_simp;try with_reducible rfl)
    try simp only[Act.put,Fm,Fl,Fk,Fj,Fo,Fp]
    try simp only[Act.put,Fm,Fl,Fk,Fj,Fo,Fp]
    refine aI (by kernel_rfl) ?_ _;simp only[aP];go_wp2_with fail
    (try simp only[Exit.inBlock,Exit.then])
    refine bodyPost_ret (aJ rfl _ _ w.heap.size _ _ (0,0) _ rfl hP.row Tryz.underlying83 rfl (by kernel_rfl)) rfl ?_;exact⟨_,by unfold rOK;rw[←HBT.out];rfl,hZ.out,hB⟩
   ·refine aj (i:=4) (v:=?vv16) rfl (by kernel_rfl) (fun _ _ _ h=>h) rfl ?hy16 ?rest16;case hy16=>(intro wy;go_simp;try with_reducible rfl)
    try simp only[Act.put,Fm,Fl,Fk,Fj,Fo,Fp]
    refine aj (i:=5) (v:=?vv17) rfl (by kernel_rfl) (fun _ _ _ h=>h) rfl ?hy17 ?rest17;case hy17=>(intro wy;go_simp;try with_reducible rfl)
    try simp only[Act.put,Fm,Fl,Fk,Fj,Fo,Fp]
    refine cj (i:=6) (v:=?vvCC) rfl (by kernel_rfl) (fun _ _ _ h=>h) (by rfl) hS10 ?hyCC ?restCC
    case hyCC =>
     intro wy hy;have q0:=af hy 0;have q1:=af hy 1;have q2:=af hy 2;have q3:=af hy 3;have q4:=af hy 4;have q5:=af hy 5;have q6:=af hy 6;have q7:=af hy 7;go_simp;try with_reducible rfl
    try simp only[Act.put,Fm,Fl,Fk,Fj,Fo,Fp]
    refine iz (i:=7) rfl (by kernel_rfl) (by rfl) (fun K hK=>?_);go_simp;refine (mX _ (aR s.data.toList) w10 HC3.out HF0.out HF1.out HF2.out HF3.out).mono ?_;rintro e w11 ⟨rfl,hb11⟩;have hS11:=(hb11.block _ (ai hS10)).trans hS10;refine hK _ _ (fun _ _=>hS11) ?_;clear hK K;try simp only[Act.put,Fm,Fl,Fk,Fj,Fo,Fp]
    have HC4:=Fi (HC3.out.below hb11);have s4:=(hb11.block _ (ai s3)).trans s3;have HB4:=HB3.trans (hb11.mono HB3.size);clear HC3 s3 HB3 hS10 hb11;obtain⟨bb,hbb⟩:∃ bb,bb=(cU (aR s.data.toList).x||cU (aR s.data.toList).y):=⟨_,rfl⟩;rw[←hbb];have HBB:=Fi hbb;clear hbb;refine cj (i:=8) (v:=?vvDC) rfl (by kernel_rfl) (fun _ _ _ h=>h) (by rfl) hS11 ?hyDC ?restDC
    case hyDC =>
     intro wy hy;go_simp;try with_reducible rfl
    try simp only[Act.put,Fm,Fl,Fk,Fj,Fo,Fp]
    refine aj (i:=9) (v:=?vv18) rfl (by kernel_rfl) (fun _ _ _ h=>h) rfl ?hy18 ?rest18;case hy18=>(intro wy;go_simp;try with_reducible rfl)
    try simp only[Act.put,Fm,Fl,Fk,Fj,Fo,Fp]
    have hP:j8 w11 (eE w11 w.heap.size (.bool m0) (.slice p0 k0 d0) (.bool false) (.slice p1 k1 d1) (.bool m1) (.slice p2 k2 d2) (.bool false) (.slice p3 k3 d3)) w.heap.size _ #[.bool m0,.slice p0 k0 d0,.bool false,.slice p1 k1 d1,.bool m1,.slice p2 k2 d2,.bool false,.slice p3 k3 d3]:=dX s4;have hZ:Hid (IsC (eE w11 w.heap.size (.bool m0) (.slice p0 k0 d0) (.bool false) (.slice p1 k1 d1) (.bool m1) (.slice p2 k2 d2) (.bool false) (.slice p3 k3 d3)) (.agg #[.bool m0,.slice p0 k0 d0,.bool false,.slice p1 k1 d1,.bool m1,.slice p2 k2 d2,.bool false,.slice p3 k3 d3]) (aR s.data.toList)):=HC4.out.puts hP s4 eO;have hB:=HB4.trans (hP.below w.heap.size (by omega));have q0:=af s4 0;have q1:=af s4 1;have q2:=af s4 2;have q3:=af s4 3;have q4:=af s4 4;have q5:=af s4 5;have q6:=af s4 6;have q7:=af s4 7;have f0:=frozen_of_row w11 w.heap.size 0 _ _ s4;have f1:=frozen_of_row w11 w.heap.size 1 _ _ s4;have f2:=frozen_of_row w11 w.heap.size 2 _ _ s4;have f3:=frozen_of_row w11 w.heap.size 3 _ _ s4;have f4:=frozen_of_row w11 w.heap.size 4 _ _ s4;have f5:=frozen_of_row w11 w.heap.size 5 _ _ s4;have f6:=frozen_of_row w11 w.heap.size 6 _ _ s4;have f7:=frozen_of_row w11 w.heap.size 7 _ _ s4;clear HC4 HB4 hS11;refine au (i:=10) rfl (by kernel_rfl) rfl (fun K hK=>?_);go_simp;change K _ (eE w11 w.heap.size (.bool m0) (.slice p0 k0 d0) (.bool false) (.slice p1 k1 d1) (.bool m1) (.slice p2 k2 d2) (.bool false) (.slice p3 k3 d3));refine hK _ _ (fun _ hs=>(hP.other _ (Ic HG7)).trans hs) ?_
    clear hK K q0 f0 q1 f1 q2 f2 q3 f3 q4 f4 q5 f5 q6 f6 q7 f7;try simp only[Act.put,Fm,Fl,Fk,Fj,Fo,Fp]
    refine aj (i:=11) (v:=?vv19) rfl (by kernel_rfl) (fun _ _ _ h=>h) rfl ?hy19 ?rest19;case hy19=>(intro wy;go_simp;try with_reducible rfl)
    try simp only[Act.put,Fm,Fl,Fk,Fj,Fo,Fp]
    try simp only[Act.put,Fm,Fl,Fk,Fj,Fo,Fp]
    refine aI (by kernel_rfl) ?_ _;simp only[aP];go_wp2_with fail
    (try simp only[Exit.inBlock,Exit.then])
    refine bodyPost_ret (aJ rfl _ _ w.heap.size _ _ (0,0) _ rfl hP.row Tryz.underlying83 rfl (by kernel_rfl)) rfl ?_;exact⟨_,by unfold rOK;rw[←HBT.out,←HBB.out];rfl,hZ.out,hB⟩
  ·have z2:(t.toList == [])=false:=by rw[htl];simpa using h2
   have HRD:=Fi (Bz h1 h2);clear htl h1 h2 HC;go_wp2_with fail
   refine (oM t w5).mono ?_;rintro e w6 ⟨v6,t6,rfl,hz6,ht6,hb6⟩;rw[ht.out] at hz6;obtain⟨y,hy⟩:∃ y,y=(bV (bV s.data.toList).2).1:=⟨_,rfl⟩;rw[←hy] at hz6;have HYY:=Fi hy;clear hy;obtain⟨b0,l0,i0,b1,l1,i1,rfl,_,_,_,_,_,_,_,_⟩:=hz6.parts;obtain⟨m2,hm2⟩:∃ m,m=y.minus:=⟨_,rfl⟩;rw[←hm2] at hz6 ⊢;have HM2:=Fi hm2;clear hm2;have hl6:=aY w6 (.cells #[.bool m2,.slice b0 l0 i0,.bool false,.slice b1 l1 i1] 78);have hb7:=hb6.trans (hl6.below.mono hb6.size);have i2:=(hb7.block _ (ai hr2)).trans hr2;have i5:=(hb7.block _ (ai hr5)).trans hr5;have i7:=(hb7.block _ (ai hr7)).trans hr7;have i8:=hl6.s0;have HBe:=HB.trans (hb7.mono HB.size);have HQe:=Fi (HQ.out.below hb7);have HYe:=Fi (hz6.below hl6.below);clear hl6 hb6 hb7 hz6 hr2 hr5 hr7 HB HQ;go_upto_region 8 with fail
   generalize w6.alloc (.cells #[.bool m2,.slice b0 l0 i0,.bool false,.slice b1 l1 i1] 78)=w7 at *
   generalize w6.heap.size=g8 at *
   have hP:j8 w7 (eE w7 g7 (.bool m0) (.slice a0 n0 c0) (.bool false) (.slice a1 n1 c1) (.bool m2) (.slice b0 l0 i0) (.bool false) (.slice b1 l1 i1)) g7 _ #[.bool m0,.slice a0 n0 c0,.bool false,.slice a1 n1 c1,.bool m2,.slice b0 l0 i0,.bool false,.slice b1 l1 i1]:=dX i7;have hQ7:=HQe.out.puts hP i7 eO;have hQe:=HYe.out.puts hP i7 eO;have j2:=(hP.other _ (Nat.ne_of_lt HG7)).trans i2;have hBf:=HBe.trans (hP.below w.heap.size (FT HG7))
   have HC:Hid (IsC (eE w7 g7 (.bool m0) (.slice a0 n0 c0) (.bool false) (.slice a1 n1 c1) (.bool m2) (.slice b0 l0 i0) (.bool false) (.slice b1 l1 i1)) (.agg #[.bool m0,.slice a0 n0 c0,.bool false,.slice a1 n1 c1,.bool m2,.slice b0 l0 i0,.bool false,.slice b1 l1 i1]) (aR s.data.toList)):=by
    rw[HRD.out,←HX.out,←HYY.out];obtain⟨u0,u1,eu,hu0,hu1⟩:=hQ7;obtain⟨v0,v1,ev,hv0,hv1⟩:=hQe;simp only[Value.agg.injEq,Array.mk.injEq,List.cons.injEq,and_true,true_and] at eu ev;obtain⟨_,rfl,rfl⟩:=eu;obtain⟨_,rfl,rfl⟩:=ev;refine⟨_,_,_,_,?_,hu0,hu1,hv0,hv1⟩;rw[HM2.out,HM0.out]
   have hr7:=hP.row;have hr2:=j2;have HB:=hBf;have q0:=af i7 0;have q1:=af i7 1;have q2:=af i7 2;have q3:=af i7 3;have q4:=af i7 4;have q5:=af i7 5;have q6:=af i7 6;have q7:=af i7 7;have f0:=frozen_of_row w7 g7 0 _ _ i7;have f1:=frozen_of_row w7 g7 1 _ _ i7;have f2:=frozen_of_row w7 g7 2 _ _ i7;have f3:=frozen_of_row w7 g7 3 _ _ i7;have f4:=frozen_of_row w7 g7 4 _ _ i7;have f5:=frozen_of_row w7 g7 5 _ _ i7;have f6:=frozen_of_row w7 g7 6 _ _ i7;have f7:=frozen_of_row w7 g7 7 _ _ i7;have x0:=af i5 0;have x1:=af i5 1;have x2:=af i5 2;have x3:=af i5 3;have y0:=af i8 0;have y1:=af i8 1;have y2:=af i8 2;have y3:=af i8 3;clear hP hQ7 hQe j2 hBf HQe HYe HBe i2;unfold eE at hr7 hr2 HB HC;go_upto_region 9 with fail
   clear q0 f0 q1 f1 q2 f2 q3 f3 q4 f4 q5 f5 q6 f6 q7 f7 x0 x1 x2 x3 y0 y1 y2 y3 i5 i7 i8;generalize ((((((((w7.setCell ⟨g7,0,none⟩ (.bool m0)).setCell ⟨g7,1,none⟩ (.slice a0 n0 c0)).setCell ⟨g7,2,none⟩ (.bool false)).setCell ⟨g7,3,none⟩ (.slice a1 n1 c1)).setCell ⟨g7,4,none⟩ (.bool m2)).setCell ⟨g7,5,none⟩ (.slice b0 l0 i0)).setCell ⟨g7,6,none⟩ (.bool false)).setCell ⟨g7,7,none⟩ (.slice b1 l1 i1))=w8 at *
   have hbd:Below w8.heap.size w8 w8.drew:=(Below.refl _ _).drew;have s2:=(hbd.block _ (ai hr2)).trans hr2;have s7:=(hbd.block _ (ai hr7)).trans hr7;have HB2:=HB.trans (hbd.mono HB.size);have HC2:=Fi (HC.out.below hbd);have hS:(fun wx:World=>wx.heap[g7]?=some (.cells #[.bool m0,.slice a0 n0 c0,.bool false,.slice a1 n1 c1,.bool m2,.slice b0 l0 i0,.bool false,.slice b1 l1 i1] 83 (0,0))) w8.drew:=s7;refine wp_mono (ay (Q:=aP _) (fun wx:World=>wx.heap[g7]?=some (.cells #[.bool m0,.slice a0 n0 c0,.bool false,.slice a1 n1 c1,.bool m2,.slice b0 l0 i0,.bool false,.slice b1 l1 i1] 83 (0,0))) (fun _=>false) (by kernel_rfl) ?_) (fun _ _ _ h=>aV h);clear hbd hr2 hr7 HB HC;generalize w8.drew=w9 at *
   refine az (i:=0) (v:=?vvAB) rfl (by kernel_rfl) (fun _ _ _ h=>h) rfl hS ?hyAB ?restAB
   case hyAB =>
    intro wy hy;have q0:=af hy 0;have q1:=af hy 1;have q2:=af hy 2;have q3:=af hy 3;have q4:=af hy 4;have q5:=af hy 5;have q6:=af hy 6;have q7:=af hy 7;go_simp;try with_reducible rfl
   try simp only[Act.put,Fm,Fl,Fk,Fj,Fo,Fp]
   refine az (i:=1) (v:=?vvBB) rfl (by kernel_rfl) (fun _ _ _ h=>h) rfl hS ?hyBB ?restBB
   case hyBB =>
    intro wy hy;have q0:=af hy 0;have q1:=af hy 1;have q2:=af hy 2;have q3:=af hy 3;have q4:=af hy 4;have q5:=af hy 5;have q6:=af hy 6;have q7:=af hy 7;go_simp;try with_reducible rfl
   try simp only[Act.put,Fm,Fl,Fk,Fj,Fo,Fp]
   refine aj (i:=3) (v:=?vv20) rfl (by kernel_rfl) (fun _ _ _ h=>h) rfl ?hy20 ?rest20;case hy20=>(intro wy;go_simp;try with_reducible rfl)
   try simp only[Act.put,Fm,Fl,Fk,Fj,Fo,Fp]
   refine au (i:=2) rfl (by kernel_rfl) rfl (fun K hK=>?_);go_simp;refine (lz _ (aR s.data.toList) w9 HC2.out HPX.out HPY.out HF0.out HF1.out HF2.out HF3.out).mono ?_;rintro e w10 ⟨rfl,hb10⟩;have hS10:=(hb10.block _ (ai hS)).trans hS;refine hK _ _ (fun _ _=>hS10) ?_;clear hK K;try simp only[Act.put,Fm,Fl,Fk,Fj,Fo,Fp]
   have HC3:=Fi (HC2.out.below hb10);have s3:=(hb10.block _ (ai s2)).trans s2;have HB3:=HB2.trans (hb10.mono HB2.size);clear HC2 s2 HB2 s7 hb10 hS;obtain⟨tx,htx⟩:∃ tx:ByteArray,tx=⟨(bQ (aR s.data.toList)).toArray⟩:=⟨_,rfl⟩;rw[←htx];obtain⟨bt,hbt⟩:∃ bt,bt=decide (bQ (aR s.data.toList)=s.data.toList):=⟨_,rfl⟩
   have hbe:(tx.toList == s.toList)=bt:=by
    rw[hbt,htx,ax,ax];rw[Hf];simp
   have HBT:=Fi hbt;clear hbt htx
   cases bt
   ·refine aj (i:=4) (v:=?vv21) rfl (by kernel_rfl) (fun _ _ _ h=>h) rfl ?hy21 ?rest21;case hy21=>(intro wy;go_simp;try with_reducible rfl)
    try simp only[Act.put,Fm,Fl,Fk,Fj,Fo,Fp]
    refine aj (i:=5) (v:=?vv22) rfl (by kernel_rfl) (fun _ _ _ h=>h) rfl ?hy22 ?rest22;case hy22=>(intro wy;go_simp;try with_reducible rfl)
    try simp only[Act.put,Fm,Fl,Fk,Fj,Fo,Fp]
    refine bf (i:=6) rfl (by kernel_rfl) (fun _ _ _ h=>h) (by rfl) ?_;try simp only[Act.put,Fm,Fl,Fk,Fj,Fo,Fp]
    refine bf (i:=7) rfl (by kernel_rfl) (fun _ _ _ h=>h) (by rfl) ?_;try simp only[Act.put,Fm,Fl,Fk,Fj,Fo,Fp]
    refine bf (i:=8) rfl (by kernel_rfl) (fun _ _ _ h=>h) (by rfl) ?_;try simp only[Act.put,Fm,Fl,Fk,Fj,Fo,Fp]
    refine aj (i:=9) (v:=?vv23) rfl (by kernel_rfl) (fun _ _ _ h=>h) rfl ?hy23 ?rest23;case hy23=>(intro wy;go_simp;try with_reducible rfl)
    try simp only[Act.put,Fm,Fl,Fk,Fj,Fo,Fp]
    have hP:j8 w10 (eE w10 w.heap.size (.bool m0) (.slice a0 n0 c0) (.bool false) (.slice a1 n1 c1) (.bool m2) (.slice b0 l0 i0) (.bool false) (.slice b1 l1 i1)) w.heap.size _ #[.bool m0,.slice a0 n0 c0,.bool false,.slice a1 n1 c1,.bool m2,.slice b0 l0 i0,.bool false,.slice b1 l1 i1]:=dX s3;have hZ:Hid (IsC (eE w10 w.heap.size (.bool m0) (.slice a0 n0 c0) (.bool false) (.slice a1 n1 c1) (.bool m2) (.slice b0 l0 i0) (.bool false) (.slice b1 l1 i1)) (.agg #[.bool m0,.slice a0 n0 c0,.bool false,.slice a1 n1 c1,.bool m2,.slice b0 l0 i0,.bool false,.slice b1 l1 i1]) (aR s.data.toList)):=HC3.out.puts hP s3 eO;have hB:=HB3.trans (hP.below w.heap.size (by omega));have q0:=af s3 0;have q1:=af s3 1;have q2:=af s3 2;have q3:=af s3 3;have q4:=af s3 4;have q5:=af s3 5;have q6:=af s3 6;have q7:=af s3 7;have f0:=frozen_of_row w10 w.heap.size 0 _ _ s3;have f1:=frozen_of_row w10 w.heap.size 1 _ _ s3;have f2:=frozen_of_row w10 w.heap.size 2 _ _ s3;have f3:=frozen_of_row w10 w.heap.size 3 _ _ s3;have f4:=frozen_of_row w10 w.heap.size 4 _ _ s3;have f5:=frozen_of_row w10 w.heap.size 5 _ _ s3;have f6:=frozen_of_row w10 w.heap.size 6 _ _ s3;have f7:=frozen_of_row w10 w.heap.size 7 _ _ s3;clear HC3 HB3 hS10;refine au (i:=10) rfl (by kernel_rfl) rfl (fun K hK=>?_);go_simp;change K _ (eE w10 w.heap.size (.bool m0) (.slice a0 n0 c0) (.bool false) (.slice a1 n1 c1) (.bool m2) (.slice b0 l0 i0) (.bool false) (.slice b1 l1 i1));refine hK _ _ (fun _ hs=>(hP.other _ (Ic HG7)).trans hs) ?_
    clear hK K q0 f0 q1 f1 q2 f2 q3 f3 q4 f4 q5 f5 q6 f6 q7 f7;try simp only[Act.put,Fm,Fl,Fk,Fj,Fo,Fp]
    refine aj (i:=11) (v:=?vv24) rfl (by kernel_rfl) (fun _ _ _ h=>h) rfl ?hy24 ?rest24;case hy24=>(intro wy;go_simp;try with_reducible rfl)
    try simp only[Act.put,Fm,Fl,Fk,Fj,Fo,Fp]
    try simp only[Act.put,Fm,Fl,Fk,Fj,Fo,Fp]
    refine aI (by kernel_rfl) ?_ _;simp only[aP];go_wp2_with fail
    (try simp only[Exit.inBlock,Exit.then])
    refine bodyPost_ret (aJ rfl _ _ w.heap.size _ _ (0,0) _ rfl hP.row Tryz.underlying83 rfl (by kernel_rfl)) rfl ?_;exact⟨_,by unfold rOK;rw[←HBT.out];rfl,hZ.out,hB⟩
   ·refine aj (i:=4) (v:=?vv25) rfl (by kernel_rfl) (fun _ _ _ h=>h) rfl ?hy25 ?rest25;case hy25=>(intro wy;go_simp;try with_reducible rfl)
    try simp only[Act.put,Fm,Fl,Fk,Fj,Fo,Fp]
    refine aj (i:=5) (v:=?vv26) rfl (by kernel_rfl) (fun _ _ _ h=>h) rfl ?hy26 ?rest26;case hy26=>(intro wy;go_simp;try with_reducible rfl)
    try simp only[Act.put,Fm,Fl,Fk,Fj,Fo,Fp]
    refine cj (i:=6) (v:=?vvCB) rfl (by kernel_rfl) (fun _ _ _ h=>h) (by rfl) hS10 ?hyCB ?restCB
    case hyCB =>
     intro wy hy;have q0:=af hy 0;have q1:=af hy 1;have q2:=af hy 2;have q3:=af hy 3;have q4:=af hy 4;have q5:=af hy 5;have q6:=af hy 6;have q7:=af hy 7;go_simp;try with_reducible rfl
    try simp only[Act.put,Fm,Fl,Fk,Fj,Fo,Fp]
    refine iz (i:=7) rfl (by kernel_rfl) (by rfl) (fun K hK=>?_);go_simp;refine (mX _ (aR s.data.toList) w10 HC3.out HF0.out HF1.out HF2.out HF3.out).mono ?_;rintro e w11 ⟨rfl,hb11⟩;have hS11:=(hb11.block _ (ai hS10)).trans hS10;refine hK _ _ (fun _ _=>hS11) ?_;clear hK K;try simp only[Act.put,Fm,Fl,Fk,Fj,Fo,Fp]
    have HC4:=Fi (HC3.out.below hb11);have s4:=(hb11.block _ (ai s3)).trans s3;have HB4:=HB3.trans (hb11.mono HB3.size);clear HC3 s3 HB3 hS10 hb11;obtain⟨bb,hbb⟩:∃ bb,bb=(cU (aR s.data.toList).x||cU (aR s.data.toList).y):=⟨_,rfl⟩;rw[←hbb];have HBB:=Fi hbb;clear hbb;refine cj (i:=8) (v:=?vvDB) rfl (by kernel_rfl) (fun _ _ _ h=>h) (by rfl) hS11 ?hyDB ?restDB
    case hyDB =>
     intro wy hy;go_simp;try with_reducible rfl
    try simp only[Act.put,Fm,Fl,Fk,Fj,Fo,Fp]
    refine aj (i:=9) (v:=?vv27) rfl (by kernel_rfl) (fun _ _ _ h=>h) rfl ?hy27 ?rest27;case hy27=>(intro wy;go_simp;try with_reducible rfl)
    try simp only[Act.put,Fm,Fl,Fk,Fj,Fo,Fp]
    have hP:j8 w11 (eE w11 w.heap.size (.bool m0) (.slice a0 n0 c0) (.bool false) (.slice a1 n1 c1) (.bool m2) (.slice b0 l0 i0) (.bool false) (.slice b1 l1 i1)) w.heap.size _ #[.bool m0,.slice a0 n0 c0,.bool false,.slice a1 n1 c1,.bool m2,.slice b0 l0 i0,.bool false,.slice b1 l1 i1]:=dX s4;have hZ:Hid (IsC (eE w11 w.heap.size (.bool m0) (.slice a0 n0 c0) (.bool false) (.slice a1 n1 c1) (.bool m2) (.slice b0 l0 i0) (.bool false) (.slice b1 l1 i1)) (.agg #[.bool m0,.slice a0 n0 c0,.bool false,.slice a1 n1 c1,.bool m2,.slice b0 l0 i0,.bool false,.slice b1 l1 i1]) (aR s.data.toList)):=HC4.out.puts hP s4 eO;have hB:=HB4.trans (hP.below w.heap.size (by omega));have q0:=af s4 0;have q1:=af s4 1;have q2:=af s4 2;have q3:=af s4 3;have q4:=af s4 4;have q5:=af s4 5;have q6:=af s4 6;have q7:=af s4 7;have f0:=frozen_of_row w11 w.heap.size 0 _ _ s4;have f1:=frozen_of_row w11 w.heap.size 1 _ _ s4;have f2:=frozen_of_row w11 w.heap.size 2 _ _ s4;have f3:=frozen_of_row w11 w.heap.size 3 _ _ s4;have f4:=frozen_of_row w11 w.heap.size 4 _ _ s4;have f5:=frozen_of_row w11 w.heap.size 5 _ _ s4;have f6:=frozen_of_row w11 w.heap.size 6 _ _ s4;have f7:=frozen_of_row w11 w.heap.size 7 _ _ s4;clear HC4 HB4 hS11;refine au (i:=10) rfl (by kernel_rfl) rfl (fun K hK=>?_);go_simp;change K _ (eE w11 w.heap.size (.bool m0) (.slice a0 n0 c0) (.bool false) (.slice a1 n1 c1) (.bool m2) (.slice b0 l0 i0) (.bool false) (.slice b1 l1 i1));refine hK _ _ (fun _ hs=>(hP.other _ (Ic HG7)).trans hs) ?_
    clear hK K q0 f0 q1 f1 q2 f2 q3 f3 q4 f4 q5 f5 q6 f6 q7 f7;try simp only[Act.put,Fm,Fl,Fk,Fj,Fo,Fp]
    refine aj (i:=11) (v:=?vv28) rfl (by kernel_rfl) (fun _ _ _ h=>h) rfl ?hy28 ?rest28;case hy28=>(intro wy;go_simp;try with_reducible rfl)
    try simp only[Act.put,Fm,Fl,Fk,Fj,Fo,Fp]
    try simp only[Act.put,Fm,Fl,Fk,Fj,Fo,Fp]
    refine aI (by kernel_rfl) ?_ _;simp only[aP];go_wp2_with fail
    (try simp only[Exit.inBlock,Exit.then])
    refine bodyPost_ret (aJ rfl _ _ w.heap.size _ _ (0,0) _ rfl hP.row Tryz.underlying83 rfl (by kernel_rfl)) rfl ?_;exact⟨_,by unfold rOK;rw[←HBT.out,←HBB.out];rfl,hZ.out,hB⟩
end Go.Proofs.YtbnkpcfjechfiaaGreatDoor
