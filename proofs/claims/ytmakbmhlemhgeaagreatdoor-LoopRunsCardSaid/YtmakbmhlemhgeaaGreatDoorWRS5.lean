/- L -/
import Derived.Test.YtmakbmhlemhgeaaGreatDoorWReg
import Derived.Test.YtmakbmhlemhgeaaGreatDoorWRS3
import Derived.Test.YtmakbmhlemhgeaaGreatDoorWB
set_option linter.all false
set_option maxRecDepth 100000
set_option maxHeartbeats 8000000
namespace Go.Proofs.YtmakbmhlemhgeaaGreatDoor
open Go.RowKit Dg Dc
theorem IsC.puts {w w':World}{b:Nat}{t t0:TypeId}{us cs:Array Value}{v:Value}{z:Vl} (hv:IsC w v z) (h:kJ w w' b t us) (hr:w.heap[b]?=some (.cells cs t0 (0,0))) (hn:∀ (j:Nat) (z:Int),cs[j]?≠some (Value.int .i64 z)):IsC w' v z:=by
 obtain⟨a,b,c,d,e,h1,h2,h3,h4⟩:=hv;exact⟨a,b,c,d,e,h.isI hr hn h1,h.isI hr hn h2,h.isI hr hn h3,h.isI hr hn h4⟩
theorem tn (s:List UInt8):bC (b9 s).1.n/\bC (b9 s).1.d:=by
 have h1:bC 1:=rH (e:=1) (m:=501) rfl (by omega) (by decide);unfold b9
 split
 ·exact⟨h1,h1⟩
 ·split
  ·unfold dF
   split
   ·exact⟨h1.mono (GY _),h1⟩
   ·exact⟨(lA _).mono (IQ _ _),(lA _).mono (IQ _ _)⟩
  ·exact⟨lA _,h1⟩
theorem lB (s:List UInt8):bC (bO s).1.n/\bC (bO s).1.d:=by
 unfold bO
 split
 ·exact tn _
 ·split<;>exact tn _
theorem iG (s:List UInt8):(bC (aV s).x.n/\bC (aV s).x.d)/\(bC (aV s).y.n/\bC (aV s).y.d):=by
 have h1:bC 1:=rH (e:=1) (m:=501) rfl (by omega) (by decide);have h0:bC fv.n/\bC fv.d:=⟨h1.mono (by unfold fv;simp),h1⟩;unfold aV
 split
 ·exact⟨h0,lB _⟩
 ·split
  ·exact⟨lB _,h0⟩
  ·exact⟨lB _,lB _⟩
theorem FO {s:List UInt8} (h:(bO s).2=[105]):aV s=⟨fv,(bO s).1⟩:=by unfold aV;rw[if_pos h]
theorem Cp {s:List UInt8} (h:(bO s).2=[]):aV s=⟨(bO s).1,fv⟩:=by unfold aV;rw[if_neg (by rw[h];exact fun e=>by cases e),if_pos h]
theorem Cq {s:List UInt8} (h:(bO s).2≠[105]) (h2:(bO s).2≠[]):aV s=⟨(bO s).1,(bO (bO s).2).1⟩:=by unfold aV;rw[if_neg h,if_neg h2]
theorem lD (s:ByteArray) (w:World) :
  Calls Tryz.prog 52 #[.string s] w fun e w'=>∃ v,e=.returned (.tuple #[v,.bool (rOK s.data.toList)])/\IsC w' v (aV s.data.toList)/\Below w.heap.size w w':=by
 have hl:=bA w (.cells #[.bool false,.slice none 0 0,.bool false,.slice none 0 0,.bool false,.slice none 0 0,.bool false,.slice none 0 0] 92);have HF0:=GF (iG s.data.toList).1.1;have HF1:=GF (iG s.data.toList).1.2;have HF2:=GF (iG s.data.toList).2.1;have HF3:=GF (iG s.data.toList).2.2;have HPX:=GF (gG s.data.toList).1.pos;have HPY:=GF (gG s.data.toList).2.pos;go_enter Tryz.func52,Tryz.ntmps52;go_upto_region 1 with fail
 generalize w.alloc (.cells #[.bool false,.slice none 0 0,.bool false,.slice none 0 0,.bool false,.slice none 0 0,.bool false,.slice none 0 0] 92)=w1 at *
 go_wp2_with fail
 refine (o_ s w1).mono ?_;rintro e w2 ⟨v2,t,rfl,hz2,ht,hb2⟩;obtain⟨x,hx⟩:∃ x,x=(bO s.data.toList).1:=⟨_,rfl⟩;rw[<-hx] at hz2;have HX:=GF hx;clear hx;obtain⟨a0,n0,c0,a1,n1,c1,rfl,hN2,hNc2,hcm2,hN3,hNc3,hcm3,hd2,hd3⟩:=hz2.parts;obtain⟨m0,hm0⟩:∃ m,m=x.minus:=⟨_,rfl⟩;rw[<-hm0] at hz2 |-;have HM0:=GF hm0;clear hm0;have hl2:=bA w2 (.cells #[.bool m0,.slice a0 n0 c0,.bool false,.slice a1 n1 c1] 87);have hb3:=hb2.trans (hl2.below.mono hb2.size);have hr2:=(hb3.block _ (ak hl.s0)).trans hl.s0;have HB:=hl.below.trans (hb3.mono hl.below.size);have HQ:=GF (hz2.below hl2.below);have hr5:=hl2.s0;clear hl hl2 hb2 hb3 hz2 hd2 hd3;have y0:=ai hr5 0;have y1:=ai hr5 1;have y2:=ai hr5 2;have y3:=ai hr5 3;go_upto_region 3 with fail
 generalize w2.alloc (.cells #[.bool m0,.slice a0 n0 c0,.bool false,.slice a1 n1 c1] 87)=w3 at *
 generalize w2.heap.size=g5 at *
 go_wp2_with fail
 refine (uj _ x w3 HQ.out).mono ?_;rintro e w4 ⟨v4,rfl,hz4,hb4⟩;obtain⟨p0,k0,d0,p1,k1,d1,p2,k2,d2,p3,k3,d3,rfl,_,_⟩:=hz4.parts;obtain⟨m1,hm1⟩:∃ m,m=(Vl.mk x fv).y.minus:=⟨_,rfl⟩;rw[<-hm1,show (Vl.mk x fv).x.minus=m0 from HM0.out.symm] at hz4 |-;clear hm1;have hl4:=bA w4 (.cells #[.bool m0,.slice p0 k0 d0,.bool false,.slice p1 k1 d1,.bool m1,.slice p2 k2 d2,.bool false,.slice p3 k3 d3] 92);have hb5:=hb4.trans (hl4.below.mono hb4.size);have HG4:w.heap.size<w4.heap.size:=GN (ak hr2) hb4.size;have hs2:=(hb5.block _ (ak hr2)).trans hr2;have hs5:=(hb5.block _ (ak hr5)).trans hr5;have HB5:=HB.trans (hb5.mono HB.size);have HQ5:=GF (HQ.out.below hb5);have HC:=GF (hz4.below hl4.below);have hr7:=hl4.s0;clear y0 y1 y2 y3 hl4 hb4 hb5 hz4 hr2 hr5 HB HQ;have hr2:=hs2;have hr5:=hs5;have HB:=HB5;have HQ:=HQ5;clear hs2 hs5 HB5 HQ5;go_upto_region 4 with fail
 generalize w4.alloc (.cells #[.bool m0,.slice p0 k0 d0,.bool false,.slice p1 k1 d1,.bool m1,.slice p2 k2 d2,.bool false,.slice p3 k3 d3] 92)=w5 at *
 have HG7:w.heap.size<w4.heap.size:=HG4;generalize w4.heap.size=g7 at *
 have htl:t.toList=(bO s.data.toList).2:=by rw[aC];exact ht.out
 by_cases h1:(bO s.data.toList).2=[105]
 ·have z1:(t.toList == [105])=true:=by rw[htl,h1];rfl
  have HRD:=GF (FO h1);clear htl h1;go_upto_region 5 with fail
  have hbd:Below w5.heap.size w5 w5.drew:=(Ki _ _).drew;have e2:=(hbd.block _ (ak hr2)).trans hr2;have e5:=(hbd.block _ (ak hr5)).trans hr5;have e7:=(hbd.block _ (ak hr7)).trans hr7;have HBd:=HB.trans (hbd.mono HB.size);have HQd:=GF (HQ.out.below hbd);clear hbd hr2 hr5 hr7 HB HC HQ;have hS:(fun wx:World=>wx.heap[g5]?=some (.cells #[.bool m0,.slice a0 n0 c0,.bool false,.slice a1 n1 c1] 87 (0,0))) w5.drew:=e5;refine wp_mono (aD (Q:=aX _) (fun wx:World=>wx.heap[g5]?=some (.cells #[.bool m0,.slice a0 n0 c0,.bool false,.slice a1 n1 c1] 87 (0,0))) (fun i=>i == 3) (by kernel_rfl) ?_) (fun _ _ _ h=>bf h);generalize w5.drew=w6 at *
  refine aE (i:=1) (v:=?vvE) rfl (by kernel_rfl) (fun _ _ _ h=>h) rfl hS ?hyE ?restE
  case hyE =>
   intro wy hy;have q0:=ai hy 0;have q1:=ai hy 1;have q2:=ai hy 2;have q3:=ai hy 3;go_simp;try with_reducible rfl
  try simp only[Act.put,GJ,GI,GH,GG,GL,GK]
  refine aA (i:=0) rfl (by kernel_rfl) rfl (fun K hK=>?_);go_simp;refine (lM 0 (by omega) w6).mono ?_;rintro e w7 ⟨v7,rfl,hz7,hb7⟩;have hS7:=(hb7.block _ (ak hS)).trans hS;obtain⟨b0,l0,i0,b1,l1,i1,rfl,_,_,_,_,_,_,_,_⟩:=hz7.parts;obtain⟨m2,hm2⟩:∃ m,m=(Rt.mk false 0 1).minus:=⟨_,rfl⟩;rw[<-hm2] at hz7 |-;have HM2:=GF hm2;clear hm2;refine hK _ _ (fun _ _=>hS7) ?_;clear hK K;try simp only[Act.put,GJ,GI,GH,GG,GL,GK]
  refine Kf 2 (r:=?_)
  try simp only[Act.put,GJ,GI,GH,GG,GL,GK]
  have i2:=(hb7.block _ (ak e2)).trans e2;have i7:=(hb7.block _ (ak e7)).trans e7;have HBe:=HBd.trans (hb7.mono HBd.size);have HQe:=GF (HQd.out.below hb7);have hP:kJ w7 (cS w7 g7 (.bool m2) (.slice b0 l0 i0) (.bool false) (.slice b1 l1 i1) (.bool m0) (.slice a0 n0 c0) (.bool false) (.slice a1 n1 c1)) g7 _ #[.bool m2,.slice b0 l0 i0,.bool false,.slice b1 l1 i1,.bool m0,.slice a0 n0 c0,.bool false,.slice a1 n1 c1]:=bK i7;have hQ7:=hz7.puts hP i7 bJ;have hQe:=HQe.out.puts hP i7 bJ;have j2:=(hP.other _ (Nat.ne_of_lt HG7)).trans i2;have hBf:=HBe.trans (hP.below w.heap.size (Ha HG7));have q0:=ai i7 0;have q1:=ai i7 1;have q2:=ai i7 2;have q3:=ai i7 3;have q4:=ai i7 4;have q5:=ai i7 5;have q6:=ai i7 6;have q7:=ai i7 7;have f0:=Kg w7 g7 0 _ _ i7;have f1:=Kg w7 g7 1 _ _ i7;have f2:=Kg w7 g7 2 _ _ i7;have f3:=Kg w7 g7 3 _ _ i7;have f4:=Kg w7 g7 4 _ _ i7;have f5:=Kg w7 g7 5 _ _ i7;have f6:=Kg w7 g7 6 _ _ i7;have f7:=Kg w7 g7 7 _ _ i7;clear hz7 hb7 HBd HBe HQd HQe hS hS7 e2 e5 e7 i2;refine aA (i:=3) rfl (by kernel_rfl) rfl (fun K hK=>?_);go_simp;change K _ (cS w7 g7 (.bool m2) (.slice b0 l0 i0) (.bool false) (.slice b1 l1 i1) (.bool m0) (.slice a0 n0 c0) (.bool false) (.slice a1 n1 c1));refine hK _ _ (fun h=>by cases h) ?_;clear hK K q0 f0 q1 f1 q2 f2 q3 f3 q4 f4 q5 f5 q6 f6 q7 f7 i7;try simp only[Act.put,GJ,GI,GH,GG,GL,GK]
  refine aK (by kernel_rfl) ?_ _;simp only[aX];have hr7:=hP.row;have hr2:=j2;have HB:=hBf
  have HC:Hid (IsC (cS w7 g7 (.bool m2) (.slice b0 l0 i0) (.bool false) (.slice b1 l1 i1) (.bool m0) (.slice a0 n0 c0) (.bool false) (.slice a1 n1 c1)) (.agg #[.bool m2,.slice b0 l0 i0,.bool false,.slice b1 l1 i1,.bool m0,.slice a0 n0 c0,.bool false,.slice a1 n1 c1]) (aV s.data.toList)):=by
   rw[HRD.out,<-HX.out];obtain⟨u0,u1,eu,hu0,hu1⟩:=hQ7;obtain⟨v0,v1,ev,hv0,hv1⟩:=hQe;simp only[Value.agg.injEq,Array.mk.injEq,List.cons.injEq,and_true,true_and] at eu ev;obtain⟨_,rfl,rfl⟩:=eu;obtain⟨_,rfl,rfl⟩:=ev;refine⟨_,_,_,_,?_,hu0,hu1,hv0,hv1⟩;rw[HM2.out,HM0.out];rfl
  clear hP j2 hBf hQ7 hQe;generalize cS w7 g7 (.bool m2) (.slice b0 l0 i0) (.bool false) (.slice b1 l1 i1) (.bool m0) (.slice a0 n0 c0) (.bool false) (.slice a1 n1 c1)=w8 at *
  go_upto_region 9 with fail
  have hbd:Below w8.heap.size w8 w8.drew:=(Ki _ _).drew;have s2:=(hbd.block _ (ak hr2)).trans hr2;have s7:=(hbd.block _ (ak hr7)).trans hr7;have HB2:=HB.trans (hbd.mono HB.size);have HC2:=GF (HC.out.below hbd);have hS:(fun wx:World=>wx.heap[g7]?=some (.cells #[.bool m2,.slice b0 l0 i0,.bool false,.slice b1 l1 i1,.bool m0,.slice a0 n0 c0,.bool false,.slice a1 n1 c1] 92 (0,0))) w8.drew:=s7;refine wp_mono (aD (Q:=aX _) (fun wx:World=>wx.heap[g7]?=some (.cells #[.bool m2,.slice b0 l0 i0,.bool false,.slice b1 l1 i1,.bool m0,.slice a0 n0 c0,.bool false,.slice a1 n1 c1] 92 (0,0))) (fun _=>false) (by kernel_rfl) ?_) (fun _ _ _ h=>bf h);clear hbd hr2 hr7 HB HC;generalize w8.drew=w9 at *
  refine aE (i:=0) (v:=?vvAA) rfl (by kernel_rfl) (fun _ _ _ h=>h) rfl hS ?hyAA ?restAA
  case hyAA =>
   intro wy hy;have q0:=ai hy 0;have q1:=ai hy 1;have q2:=ai hy 2;have q3:=ai hy 3;have q4:=ai hy 4;have q5:=ai hy 5;have q6:=ai hy 6;have q7:=ai hy 7;go_simp;try with_reducible rfl
  try simp only[Act.put,GJ,GI,GH,GG,GL,GK]
  refine aE (i:=1) (v:=?vvBA) rfl (by kernel_rfl) (fun _ _ _ h=>h) rfl hS ?hyBA ?restBA
  case hyBA =>
   intro wy hy;have q0:=ai hy 0;have q1:=ai hy 1;have q2:=ai hy 2;have q3:=ai hy 3;have q4:=ai hy 4;have q5:=ai hy 5;have q6:=ai hy 6;have q7:=ai hy 7;go_simp;try with_reducible rfl
  try simp only[Act.put,GJ,GI,GH,GG,GL,GK]
  refine Kf 3 (r:=?_)
  try simp only[Act.put,GJ,GI,GH,GG,GL,GK]
  refine aA (i:=2) rfl (by kernel_rfl) rfl (fun K hK=>?_);go_simp;refine (lR _ (aV s.data.toList) w9 HC2.out HPX.out HPY.out HF0.out HF1.out HF2.out HF3.out).mono ?_;rintro e w10 ⟨rfl,hb10⟩;have hS10:=(hb10.block _ (ak hS)).trans hS;refine hK _ _ (fun _ _=>hS10) ?_;clear hK K;try simp only[Act.put,GJ,GI,GH,GG,GL,GK]
  have HC3:=GF (HC2.out.below hb10);have s3:=(hb10.block _ (ak s2)).trans s2;have HB3:=HB2.trans (hb10.mono HB2.size);clear HC2 s2 HB2 s7 hb10 hS;obtain⟨tx,htx⟩:∃ tx:ByteArray,tx=⟨(bE (aV s.data.toList)).toArray⟩:=⟨_,rfl⟩;rw[<-htx];obtain⟨bt,hbt⟩:∃ bt,bt=decide (bE (aV s.data.toList)=s.data.toList):=⟨_,rfl⟩
  have hbe:(tx.toList == s.toList)=bt:=by
   rw[hbt,htx,aC,aC];rw[IY];simp
  have HBT:=GF hbt;clear hbt htx
  cases bt
  ·refine Kf 4 (r:=?_)
   try simp only[Act.put,GJ,GI,GH,GG,GL,GK]
   refine Kf 5 (r:=?_)
   try simp only[Act.put,GJ,GI,GH,GG,GL,GK]
   refine bB (i:=6) rfl (by kernel_rfl) (fun _ _ _ h=>h) (by rfl) ?_;try simp only[Act.put,GJ,GI,GH,GG,GL,GK]
   refine bB (i:=7) rfl (by kernel_rfl) (fun _ _ _ h=>h) (by rfl) ?_;try simp only[Act.put,GJ,GI,GH,GG,GL,GK]
   refine bB (i:=8) rfl (by kernel_rfl) (fun _ _ _ h=>h) (by rfl) ?_;try simp only[Act.put,GJ,GI,GH,GG,GL,GK]
   refine Kf 9 (r:=?_)
   try simp only[Act.put,GJ,GI,GH,GG,GL,GK]
   have hP:kJ w10 (cS w10 w.heap.size (.bool m2) (.slice b0 l0 i0) (.bool false) (.slice b1 l1 i1) (.bool m0) (.slice a0 n0 c0) (.bool false) (.slice a1 n1 c1)) w.heap.size _ #[.bool m2,.slice b0 l0 i0,.bool false,.slice b1 l1 i1,.bool m0,.slice a0 n0 c0,.bool false,.slice a1 n1 c1]:=bK s3;have hZ:Hid (IsC (cS w10 w.heap.size (.bool m2) (.slice b0 l0 i0) (.bool false) (.slice b1 l1 i1) (.bool m0) (.slice a0 n0 c0) (.bool false) (.slice a1 n1 c1)) (.agg #[.bool m2,.slice b0 l0 i0,.bool false,.slice b1 l1 i1,.bool m0,.slice a0 n0 c0,.bool false,.slice a1 n1 c1]) (aV s.data.toList)):=HC3.out.puts hP s3 bJ;have hB:=HB3.trans (hP.below w.heap.size (by omega));have q0:=ai s3 0;have q1:=ai s3 1;have q2:=ai s3 2;have q3:=ai s3 3;have q4:=ai s3 4;have q5:=ai s3 5;have q6:=ai s3 6;have q7:=ai s3 7;have f0:=Kg w10 w.heap.size 0 _ _ s3;have f1:=Kg w10 w.heap.size 1 _ _ s3;have f2:=Kg w10 w.heap.size 2 _ _ s3;have f3:=Kg w10 w.heap.size 3 _ _ s3;have f4:=Kg w10 w.heap.size 4 _ _ s3;have f5:=Kg w10 w.heap.size 5 _ _ s3;have f6:=Kg w10 w.heap.size 6 _ _ s3;have f7:=Kg w10 w.heap.size 7 _ _ s3;clear HC3 HB3 hS10;refine aA (i:=10) rfl (by kernel_rfl) rfl (fun K hK=>?_);go_simp;change K _ (cS w10 w.heap.size (.bool m2) (.slice b0 l0 i0) (.bool false) (.slice b1 l1 i1) (.bool m0) (.slice a0 n0 c0) (.bool false) (.slice a1 n1 c1));refine hK _ _ (fun _ hs=>(hP.other _ (Jt HG7)).trans hs) ?_
   clear hK K q0 f0 q1 f1 q2 f2 q3 f3 q4 f4 q5 f5 q6 f6 q7 f7;try simp only[Act.put,GJ,GI,GH,GG,GL,GK]
   refine Kf 11 (r:=?_)
   try simp only[Act.put,GJ,GI,GH,GG,GL,GK]
   try simp only[Act.put,GJ,GI,GH,GG,GL,GK]
   refine aK (by kernel_rfl) ?_ _;simp only[aX];go_wp2_with fail
   (try simp only[Exit.inBlock,Exit.then])
   refine Kh (aS rfl _ _ w.heap.size _ _ (0,0) _ rfl hP.row Tryz.underlying92 rfl (by kernel_rfl)) rfl ?_;exact⟨_,by unfold rOK;rw[<-HBT.out];rfl,hZ.out,hB⟩
  ·refine Kf 4 (r:=?_)
   try simp only[Act.put,GJ,GI,GH,GG,GL,GK]
   refine Kf 5 (r:=?_)
   try simp only[Act.put,GJ,GI,GH,GG,GL,GK]
   refine cO (i:=6) (v:=?vvCA) rfl (by kernel_rfl) (fun _ _ _ h=>h) (by rfl) hS10 ?hyCA ?restCA
   case hyCA =>
    intro wy hy;have q0:=ai hy 0;have q1:=ai hy 1;have q2:=ai hy 2;have q3:=ai hy 3;have q4:=ai hy 4;have q5:=ai hy 5;have q6:=ai hy 6;have q7:=ai hy 7;go_simp;try with_reducible rfl
   try simp only[Act.put,GJ,GI,GH,GG,GL,GK]
   refine jc (i:=7) rfl (by kernel_rfl) (by rfl) (fun K hK=>?_);go_simp;refine (nh _ (aV s.data.toList) w10 HC3.out HF0.out HF1.out HF2.out HF3.out).mono ?_;rintro e w11 ⟨rfl,hb11⟩;have hS11:=(hb11.block _ (ak hS10)).trans hS10;refine hK _ _ (fun _ _=>hS11) ?_;clear hK K;try simp only[Act.put,GJ,GI,GH,GG,GL,GK]
   have HC4:=GF (HC3.out.below hb11);have s4:=(hb11.block _ (ak s3)).trans s3;have HB4:=HB3.trans (hb11.mono HB3.size);clear HC3 s3 HB3 hS10 hb11;obtain⟨bb,hbb⟩:∃ bb,bb=(b8 (aV s.data.toList).x||b8 (aV s.data.toList).y):=⟨_,rfl⟩;rw[<-hbb];have HBB:=GF hbb;clear hbb;refine cO (i:=8) (v:=?vvDA) rfl (by kernel_rfl) (fun _ _ _ h=>h) (by rfl) hS11 ?hyDA ?restDA
   case hyDA =>
    intro wy hy;go_simp;try with_reducible rfl
   try simp only[Act.put,GJ,GI,GH,GG,GL,GK]
   refine Kf 9 (r:=?_)
   try simp only[Act.put,GJ,GI,GH,GG,GL,GK]
   have hP:kJ w11 (cS w11 w.heap.size (.bool m2) (.slice b0 l0 i0) (.bool false) (.slice b1 l1 i1) (.bool m0) (.slice a0 n0 c0) (.bool false) (.slice a1 n1 c1)) w.heap.size _ #[.bool m2,.slice b0 l0 i0,.bool false,.slice b1 l1 i1,.bool m0,.slice a0 n0 c0,.bool false,.slice a1 n1 c1]:=bK s4;have hZ:Hid (IsC (cS w11 w.heap.size (.bool m2) (.slice b0 l0 i0) (.bool false) (.slice b1 l1 i1) (.bool m0) (.slice a0 n0 c0) (.bool false) (.slice a1 n1 c1)) (.agg #[.bool m2,.slice b0 l0 i0,.bool false,.slice b1 l1 i1,.bool m0,.slice a0 n0 c0,.bool false,.slice a1 n1 c1]) (aV s.data.toList)):=HC4.out.puts hP s4 bJ;have hB:=HB4.trans (hP.below w.heap.size (by omega));have q0:=ai s4 0;have q1:=ai s4 1;have q2:=ai s4 2;have q3:=ai s4 3;have q4:=ai s4 4;have q5:=ai s4 5;have q6:=ai s4 6;have q7:=ai s4 7;have f0:=Kg w11 w.heap.size 0 _ _ s4;have f1:=Kg w11 w.heap.size 1 _ _ s4;have f2:=Kg w11 w.heap.size 2 _ _ s4;have f3:=Kg w11 w.heap.size 3 _ _ s4;have f4:=Kg w11 w.heap.size 4 _ _ s4;have f5:=Kg w11 w.heap.size 5 _ _ s4;have f6:=Kg w11 w.heap.size 6 _ _ s4;have f7:=Kg w11 w.heap.size 7 _ _ s4;clear HC4 HB4 hS11;refine aA (i:=10) rfl (by kernel_rfl) rfl (fun K hK=>?_);go_simp;change K _ (cS w11 w.heap.size (.bool m2) (.slice b0 l0 i0) (.bool false) (.slice b1 l1 i1) (.bool m0) (.slice a0 n0 c0) (.bool false) (.slice a1 n1 c1));refine hK _ _ (fun _ hs=>(hP.other _ (Jt HG7)).trans hs) ?_
   clear hK K q0 f0 q1 f1 q2 f2 q3 f3 q4 f4 q5 f5 q6 f6 q7 f7;try simp only[Act.put,GJ,GI,GH,GG,GL,GK]
   refine Kf 11 (r:=?_)
   try simp only[Act.put,GJ,GI,GH,GG,GL,GK]
   try simp only[Act.put,GJ,GI,GH,GG,GL,GK]
   refine aK (by kernel_rfl) ?_ _;simp only[aX];go_wp2_with fail
   (try simp only[Exit.inBlock,Exit.then])
   refine Kh (aS rfl _ _ w.heap.size _ _ (0,0) _ rfl hP.row Tryz.underlying92 rfl (by kernel_rfl)) rfl ?_;exact⟨_,by unfold rOK;rw[<-HBT.out,<-HBB.out];rfl,hZ.out,hB⟩
 ·have z1:(t.toList == [105])=false:=by rw[htl];simpa using h1
  by_cases h2:(bO s.data.toList).2=[]
  ·have z2:(t.toList == [])=true:=by rw[htl,h2];rfl
   have HRD:=GF (Cp h2);rw[<-HX.out] at HRD;rw[<-HRD.out] at HC;clear htl h1 h2 hr5 HQ;go_upto_region 9 with fail
   have hbd:Below w5.heap.size w5 w5.drew:=(Ki _ _).drew;have s2:=(hbd.block _ (ak hr2)).trans hr2;have s7:=(hbd.block _ (ak hr7)).trans hr7;have HB2:=HB.trans (hbd.mono HB.size);have HC2:=GF (HC.out.below hbd);have hS:(fun wx:World=>wx.heap[g7]?=some (.cells #[.bool m0,.slice p0 k0 d0,.bool false,.slice p1 k1 d1,.bool m1,.slice p2 k2 d2,.bool false,.slice p3 k3 d3] 92 (0,0))) w5.drew:=s7;refine wp_mono (aD (Q:=aX _) (fun wx:World=>wx.heap[g7]?=some (.cells #[.bool m0,.slice p0 k0 d0,.bool false,.slice p1 k1 d1,.bool m1,.slice p2 k2 d2,.bool false,.slice p3 k3 d3] 92 (0,0))) (fun _=>false) (by kernel_rfl) ?_) (fun _ _ _ h=>bf h);clear hbd hr2 hr7 HB HC;generalize w5.drew=w9 at *
   refine aE (i:=0) (v:=?vvAC) rfl (by kernel_rfl) (fun _ _ _ h=>h) rfl hS ?hyAC ?restAC
   case hyAC =>
    intro wy hy;have q0:=ai hy 0;have q1:=ai hy 1;have q2:=ai hy 2;have q3:=ai hy 3;have q4:=ai hy 4;have q5:=ai hy 5;have q6:=ai hy 6;have q7:=ai hy 7;go_simp;try with_reducible rfl
   try simp only[Act.put,GJ,GI,GH,GG,GL,GK]
   refine aE (i:=1) (v:=?vvBC) rfl (by kernel_rfl) (fun _ _ _ h=>h) rfl hS ?hyBC ?restBC
   case hyBC =>
    intro wy hy;have q0:=ai hy 0;have q1:=ai hy 1;have q2:=ai hy 2;have q3:=ai hy 3;have q4:=ai hy 4;have q5:=ai hy 5;have q6:=ai hy 6;have q7:=ai hy 7;go_simp;try with_reducible rfl
   try simp only[Act.put,GJ,GI,GH,GG,GL,GK]
   refine Kf 3 (r:=?_)
   try simp only[Act.put,GJ,GI,GH,GG,GL,GK]
   refine aA (i:=2) rfl (by kernel_rfl) rfl (fun K hK=>?_);go_simp;refine (lR _ (aV s.data.toList) w9 HC2.out HPX.out HPY.out HF0.out HF1.out HF2.out HF3.out).mono ?_;rintro e w10 ⟨rfl,hb10⟩;have hS10:=(hb10.block _ (ak hS)).trans hS;refine hK _ _ (fun _ _=>hS10) ?_;clear hK K;try simp only[Act.put,GJ,GI,GH,GG,GL,GK]
   have HC3:=GF (HC2.out.below hb10);have s3:=(hb10.block _ (ak s2)).trans s2;have HB3:=HB2.trans (hb10.mono HB2.size);clear HC2 s2 HB2 s7 hb10 hS;obtain⟨tx,htx⟩:∃ tx:ByteArray,tx=⟨(bE (aV s.data.toList)).toArray⟩:=⟨_,rfl⟩;rw[<-htx];obtain⟨bt,hbt⟩:∃ bt,bt=decide (bE (aV s.data.toList)=s.data.toList):=⟨_,rfl⟩
   have hbe:(tx.toList == s.toList)=bt:=by
    rw[hbt,htx,aC,aC];rw[IY];simp
   have HBT:=GF hbt;clear hbt htx
   cases bt
   ·refine Kf 4 (r:=?_)
    try simp only[Act.put,GJ,GI,GH,GG,GL,GK]
    refine Kf 5 (r:=?_)
    try simp only[Act.put,GJ,GI,GH,GG,GL,GK]
    refine bB (i:=6) rfl (by kernel_rfl) (fun _ _ _ h=>h) (by rfl) ?_;try simp only[Act.put,GJ,GI,GH,GG,GL,GK]
    refine bB (i:=7) rfl (by kernel_rfl) (fun _ _ _ h=>h) (by rfl) ?_;try simp only[Act.put,GJ,GI,GH,GG,GL,GK]
    refine bB (i:=8) rfl (by kernel_rfl) (fun _ _ _ h=>h) (by rfl) ?_;try simp only[Act.put,GJ,GI,GH,GG,GL,GK]
    refine Kf 9 (r:=?_)
    try simp only[Act.put,GJ,GI,GH,GG,GL,GK]
    have hP:kJ w10 (cS w10 w.heap.size (.bool m0) (.slice p0 k0 d0) (.bool false) (.slice p1 k1 d1) (.bool m1) (.slice p2 k2 d2) (.bool false) (.slice p3 k3 d3)) w.heap.size _ #[.bool m0,.slice p0 k0 d0,.bool false,.slice p1 k1 d1,.bool m1,.slice p2 k2 d2,.bool false,.slice p3 k3 d3]:=bK s3;have hZ:Hid (IsC (cS w10 w.heap.size (.bool m0) (.slice p0 k0 d0) (.bool false) (.slice p1 k1 d1) (.bool m1) (.slice p2 k2 d2) (.bool false) (.slice p3 k3 d3)) (.agg #[.bool m0,.slice p0 k0 d0,.bool false,.slice p1 k1 d1,.bool m1,.slice p2 k2 d2,.bool false,.slice p3 k3 d3]) (aV s.data.toList)):=HC3.out.puts hP s3 bJ;have hB:=HB3.trans (hP.below w.heap.size (by omega));have q0:=ai s3 0;have q1:=ai s3 1;have q2:=ai s3 2;have q3:=ai s3 3;have q4:=ai s3 4;have q5:=ai s3 5;have q6:=ai s3 6;have q7:=ai s3 7;have f0:=Kg w10 w.heap.size 0 _ _ s3;have f1:=Kg w10 w.heap.size 1 _ _ s3;have f2:=Kg w10 w.heap.size 2 _ _ s3;have f3:=Kg w10 w.heap.size 3 _ _ s3;have f4:=Kg w10 w.heap.size 4 _ _ s3;have f5:=Kg w10 w.heap.size 5 _ _ s3;have f6:=Kg w10 w.heap.size 6 _ _ s3;have f7:=Kg w10 w.heap.size 7 _ _ s3;clear HC3 HB3 hS10;refine aA (i:=10) rfl (by kernel_rfl) rfl (fun K hK=>?_);go_simp;change K _ (cS w10 w.heap.size (.bool m0) (.slice p0 k0 d0) (.bool false) (.slice p1 k1 d1) (.bool m1) (.slice p2 k2 d2) (.bool false) (.slice p3 k3 d3));refine hK _ _ (fun _ hs=>(hP.other _ (Jt HG7)).trans hs) ?_
    clear hK K q0 f0 q1 f1 q2 f2 q3 f3 q4 f4 q5 f5 q6 f6 q7 f7;try simp only[Act.put,GJ,GI,GH,GG,GL,GK]
    refine Kf 11 (r:=?_)
    try simp only[Act.put,GJ,GI,GH,GG,GL,GK]
    try simp only[Act.put,GJ,GI,GH,GG,GL,GK]
    refine aK (by kernel_rfl) ?_ _;simp only[aX];go_wp2_with fail
    (try simp only[Exit.inBlock,Exit.then])
    refine Kh (aS rfl _ _ w.heap.size _ _ (0,0) _ rfl hP.row Tryz.underlying92 rfl (by kernel_rfl)) rfl ?_;exact⟨_,by unfold rOK;rw[<-HBT.out];rfl,hZ.out,hB⟩
   ·refine Kf 4 (r:=?_)
    try simp only[Act.put,GJ,GI,GH,GG,GL,GK]
    refine Kf 5 (r:=?_)
    try simp only[Act.put,GJ,GI,GH,GG,GL,GK]
    refine cO (i:=6) (v:=?vvCC) rfl (by kernel_rfl) (fun _ _ _ h=>h) (by rfl) hS10 ?hyCC ?restCC
    case hyCC =>
     intro wy hy;have q0:=ai hy 0;have q1:=ai hy 1;have q2:=ai hy 2;have q3:=ai hy 3;have q4:=ai hy 4;have q5:=ai hy 5;have q6:=ai hy 6;have q7:=ai hy 7;go_simp;try with_reducible rfl
    try simp only[Act.put,GJ,GI,GH,GG,GL,GK]
    refine jc (i:=7) rfl (by kernel_rfl) (by rfl) (fun K hK=>?_);go_simp;refine (nh _ (aV s.data.toList) w10 HC3.out HF0.out HF1.out HF2.out HF3.out).mono ?_;rintro e w11 ⟨rfl,hb11⟩;have hS11:=(hb11.block _ (ak hS10)).trans hS10;refine hK _ _ (fun _ _=>hS11) ?_;clear hK K;try simp only[Act.put,GJ,GI,GH,GG,GL,GK]
    have HC4:=GF (HC3.out.below hb11);have s4:=(hb11.block _ (ak s3)).trans s3;have HB4:=HB3.trans (hb11.mono HB3.size);clear HC3 s3 HB3 hS10 hb11;obtain⟨bb,hbb⟩:∃ bb,bb=(b8 (aV s.data.toList).x||b8 (aV s.data.toList).y):=⟨_,rfl⟩;rw[<-hbb];have HBB:=GF hbb;clear hbb;refine cO (i:=8) (v:=?vvDC) rfl (by kernel_rfl) (fun _ _ _ h=>h) (by rfl) hS11 ?hyDC ?restDC
    case hyDC =>
     intro wy hy;go_simp;try with_reducible rfl
    try simp only[Act.put,GJ,GI,GH,GG,GL,GK]
    refine Kf 9 (r:=?_)
    try simp only[Act.put,GJ,GI,GH,GG,GL,GK]
    have hP:kJ w11 (cS w11 w.heap.size (.bool m0) (.slice p0 k0 d0) (.bool false) (.slice p1 k1 d1) (.bool m1) (.slice p2 k2 d2) (.bool false) (.slice p3 k3 d3)) w.heap.size _ #[.bool m0,.slice p0 k0 d0,.bool false,.slice p1 k1 d1,.bool m1,.slice p2 k2 d2,.bool false,.slice p3 k3 d3]:=bK s4;have hZ:Hid (IsC (cS w11 w.heap.size (.bool m0) (.slice p0 k0 d0) (.bool false) (.slice p1 k1 d1) (.bool m1) (.slice p2 k2 d2) (.bool false) (.slice p3 k3 d3)) (.agg #[.bool m0,.slice p0 k0 d0,.bool false,.slice p1 k1 d1,.bool m1,.slice p2 k2 d2,.bool false,.slice p3 k3 d3]) (aV s.data.toList)):=HC4.out.puts hP s4 bJ;have hB:=HB4.trans (hP.below w.heap.size (by omega));have q0:=ai s4 0;have q1:=ai s4 1;have q2:=ai s4 2;have q3:=ai s4 3;have q4:=ai s4 4;have q5:=ai s4 5;have q6:=ai s4 6;have q7:=ai s4 7;have f0:=Kg w11 w.heap.size 0 _ _ s4;have f1:=Kg w11 w.heap.size 1 _ _ s4;have f2:=Kg w11 w.heap.size 2 _ _ s4;have f3:=Kg w11 w.heap.size 3 _ _ s4;have f4:=Kg w11 w.heap.size 4 _ _ s4;have f5:=Kg w11 w.heap.size 5 _ _ s4;have f6:=Kg w11 w.heap.size 6 _ _ s4;have f7:=Kg w11 w.heap.size 7 _ _ s4;clear HC4 HB4 hS11;refine aA (i:=10) rfl (by kernel_rfl) rfl (fun K hK=>?_);go_simp;change K _ (cS w11 w.heap.size (.bool m0) (.slice p0 k0 d0) (.bool false) (.slice p1 k1 d1) (.bool m1) (.slice p2 k2 d2) (.bool false) (.slice p3 k3 d3));refine hK _ _ (fun _ hs=>(hP.other _ (Jt HG7)).trans hs) ?_
    clear hK K q0 f0 q1 f1 q2 f2 q3 f3 q4 f4 q5 f5 q6 f6 q7 f7;try simp only[Act.put,GJ,GI,GH,GG,GL,GK]
    refine Kf 11 (r:=?_)
    try simp only[Act.put,GJ,GI,GH,GG,GL,GK]
    try simp only[Act.put,GJ,GI,GH,GG,GL,GK]
    refine aK (by kernel_rfl) ?_ _;simp only[aX];go_wp2_with fail
    (try simp only[Exit.inBlock,Exit.then])
    refine Kh (aS rfl _ _ w.heap.size _ _ (0,0) _ rfl hP.row Tryz.underlying92 rfl (by kernel_rfl)) rfl ?_;exact⟨_,by unfold rOK;rw[<-HBT.out,<-HBB.out];rfl,hZ.out,hB⟩
  ·have z2:(t.toList == [])=false:=by rw[htl];simpa using h2
   have HRD:=GF (Cq h1 h2);clear htl h1 h2 HC;go_wp2_with fail
   refine (o_ t w5).mono ?_;rintro e w6 ⟨v6,t6,rfl,hz6,ht6,hb6⟩;rw[ht.out] at hz6;obtain⟨y,hy⟩:∃ y,y=(bO (bO s.data.toList).2).1:=⟨_,rfl⟩;rw[<-hy] at hz6;have HYY:=GF hy;clear hy;obtain⟨b0,l0,i0,b1,l1,i1,rfl,_,_,_,_,_,_,_,_⟩:=hz6.parts;obtain⟨m2,hm2⟩:∃ m,m=y.minus:=⟨_,rfl⟩;rw[<-hm2] at hz6 |-;have HM2:=GF hm2;clear hm2;have hl6:=bA w6 (.cells #[.bool m2,.slice b0 l0 i0,.bool false,.slice b1 l1 i1] 87);have hb7:=hb6.trans (hl6.below.mono hb6.size);have i2:=(hb7.block _ (ak hr2)).trans hr2;have i5:=(hb7.block _ (ak hr5)).trans hr5;have i7:=(hb7.block _ (ak hr7)).trans hr7;have i8:=hl6.s0;have HBe:=HB.trans (hb7.mono HB.size);have HQe:=GF (HQ.out.below hb7);have HYe:=GF (hz6.below hl6.below);clear hl6 hb6 hb7 hz6 hr2 hr5 hr7 HB HQ;go_upto_region 8 with fail
   generalize w6.alloc (.cells #[.bool m2,.slice b0 l0 i0,.bool false,.slice b1 l1 i1] 87)=w7 at *
   generalize w6.heap.size=g8 at *
   have hP:kJ w7 (cS w7 g7 (.bool m0) (.slice a0 n0 c0) (.bool false) (.slice a1 n1 c1) (.bool m2) (.slice b0 l0 i0) (.bool false) (.slice b1 l1 i1)) g7 _ #[.bool m0,.slice a0 n0 c0,.bool false,.slice a1 n1 c1,.bool m2,.slice b0 l0 i0,.bool false,.slice b1 l1 i1]:=bK i7;have hQ7:=HQe.out.puts hP i7 bJ;have hQe:=HYe.out.puts hP i7 bJ;have j2:=(hP.other _ (Nat.ne_of_lt HG7)).trans i2;have hBf:=HBe.trans (hP.below w.heap.size (Ha HG7))
   have HC:Hid (IsC (cS w7 g7 (.bool m0) (.slice a0 n0 c0) (.bool false) (.slice a1 n1 c1) (.bool m2) (.slice b0 l0 i0) (.bool false) (.slice b1 l1 i1)) (.agg #[.bool m0,.slice a0 n0 c0,.bool false,.slice a1 n1 c1,.bool m2,.slice b0 l0 i0,.bool false,.slice b1 l1 i1]) (aV s.data.toList)):=by
    rw[HRD.out,<-HX.out,<-HYY.out];obtain⟨u0,u1,eu,hu0,hu1⟩:=hQ7;obtain⟨v0,v1,ev,hv0,hv1⟩:=hQe;simp only[Value.agg.injEq,Array.mk.injEq,List.cons.injEq,and_true,true_and] at eu ev;obtain⟨_,rfl,rfl⟩:=eu;obtain⟨_,rfl,rfl⟩:=ev;refine⟨_,_,_,_,?_,hu0,hu1,hv0,hv1⟩;rw[HM2.out,HM0.out]
   have hr7:=hP.row;have hr2:=j2;have HB:=hBf;have q0:=ai i7 0;have q1:=ai i7 1;have q2:=ai i7 2;have q3:=ai i7 3;have q4:=ai i7 4;have q5:=ai i7 5;have q6:=ai i7 6;have q7:=ai i7 7;have f0:=Kg w7 g7 0 _ _ i7;have f1:=Kg w7 g7 1 _ _ i7;have f2:=Kg w7 g7 2 _ _ i7;have f3:=Kg w7 g7 3 _ _ i7;have f4:=Kg w7 g7 4 _ _ i7;have f5:=Kg w7 g7 5 _ _ i7;have f6:=Kg w7 g7 6 _ _ i7;have f7:=Kg w7 g7 7 _ _ i7;have x0:=ai i5 0;have x1:=ai i5 1;have x2:=ai i5 2;have x3:=ai i5 3;have y0:=ai i8 0;have y1:=ai i8 1;have y2:=ai i8 2;have y3:=ai i8 3;clear hP hQ7 hQe j2 hBf HQe HYe HBe i2;unfold cS at hr7 hr2 HB HC;go_upto_region 9 with fail
   clear q0 f0 q1 f1 q2 f2 q3 f3 q4 f4 q5 f5 q6 f6 q7 f7 x0 x1 x2 x3 y0 y1 y2 y3 i5 i7 i8;generalize ((((((((w7.setCell ⟨g7,0,none⟩ (.bool m0)).setCell ⟨g7,1,none⟩ (.slice a0 n0 c0)).setCell ⟨g7,2,none⟩ (.bool false)).setCell ⟨g7,3,none⟩ (.slice a1 n1 c1)).setCell ⟨g7,4,none⟩ (.bool m2)).setCell ⟨g7,5,none⟩ (.slice b0 l0 i0)).setCell ⟨g7,6,none⟩ (.bool false)).setCell ⟨g7,7,none⟩ (.slice b1 l1 i1))=w8 at *
   have hbd:Below w8.heap.size w8 w8.drew:=(Ki _ _).drew;have s2:=(hbd.block _ (ak hr2)).trans hr2;have s7:=(hbd.block _ (ak hr7)).trans hr7;have HB2:=HB.trans (hbd.mono HB.size);have HC2:=GF (HC.out.below hbd);have hS:(fun wx:World=>wx.heap[g7]?=some (.cells #[.bool m0,.slice a0 n0 c0,.bool false,.slice a1 n1 c1,.bool m2,.slice b0 l0 i0,.bool false,.slice b1 l1 i1] 92 (0,0))) w8.drew:=s7;refine wp_mono (aD (Q:=aX _) (fun wx:World=>wx.heap[g7]?=some (.cells #[.bool m0,.slice a0 n0 c0,.bool false,.slice a1 n1 c1,.bool m2,.slice b0 l0 i0,.bool false,.slice b1 l1 i1] 92 (0,0))) (fun _=>false) (by kernel_rfl) ?_) (fun _ _ _ h=>bf h);clear hbd hr2 hr7 HB HC;generalize w8.drew=w9 at *
   refine aE (i:=0) (v:=?vvAB) rfl (by kernel_rfl) (fun _ _ _ h=>h) rfl hS ?hyAB ?restAB
   case hyAB =>
    intro wy hy;have q0:=ai hy 0;have q1:=ai hy 1;have q2:=ai hy 2;have q3:=ai hy 3;have q4:=ai hy 4;have q5:=ai hy 5;have q6:=ai hy 6;have q7:=ai hy 7;go_simp;try with_reducible rfl
   try simp only[Act.put,GJ,GI,GH,GG,GL,GK]
   refine aE (i:=1) (v:=?vvBB) rfl (by kernel_rfl) (fun _ _ _ h=>h) rfl hS ?hyBB ?restBB
   case hyBB =>
    intro wy hy;have q0:=ai hy 0;have q1:=ai hy 1;have q2:=ai hy 2;have q3:=ai hy 3;have q4:=ai hy 4;have q5:=ai hy 5;have q6:=ai hy 6;have q7:=ai hy 7;go_simp;try with_reducible rfl
   try simp only[Act.put,GJ,GI,GH,GG,GL,GK]
   refine Kf 3 (r:=?_)
   try simp only[Act.put,GJ,GI,GH,GG,GL,GK]
   refine aA (i:=2) rfl (by kernel_rfl) rfl (fun K hK=>?_);go_simp;refine (lR _ (aV s.data.toList) w9 HC2.out HPX.out HPY.out HF0.out HF1.out HF2.out HF3.out).mono ?_;rintro e w10 ⟨rfl,hb10⟩;have hS10:=(hb10.block _ (ak hS)).trans hS;refine hK _ _ (fun _ _=>hS10) ?_;clear hK K;try simp only[Act.put,GJ,GI,GH,GG,GL,GK]
   have HC3:=GF (HC2.out.below hb10);have s3:=(hb10.block _ (ak s2)).trans s2;have HB3:=HB2.trans (hb10.mono HB2.size);clear HC2 s2 HB2 s7 hb10 hS;obtain⟨tx,htx⟩:∃ tx:ByteArray,tx=⟨(bE (aV s.data.toList)).toArray⟩:=⟨_,rfl⟩;rw[<-htx];obtain⟨bt,hbt⟩:∃ bt,bt=decide (bE (aV s.data.toList)=s.data.toList):=⟨_,rfl⟩
   have hbe:(tx.toList == s.toList)=bt:=by
    rw[hbt,htx,aC,aC];rw[IY];simp
   have HBT:=GF hbt;clear hbt htx
   cases bt
   ·refine Kf 4 (r:=?_)
    try simp only[Act.put,GJ,GI,GH,GG,GL,GK]
    refine Kf 5 (r:=?_)
    try simp only[Act.put,GJ,GI,GH,GG,GL,GK]
    refine bB (i:=6) rfl (by kernel_rfl) (fun _ _ _ h=>h) (by rfl) ?_;try simp only[Act.put,GJ,GI,GH,GG,GL,GK]
    refine bB (i:=7) rfl (by kernel_rfl) (fun _ _ _ h=>h) (by rfl) ?_;try simp only[Act.put,GJ,GI,GH,GG,GL,GK]
    refine bB (i:=8) rfl (by kernel_rfl) (fun _ _ _ h=>h) (by rfl) ?_;try simp only[Act.put,GJ,GI,GH,GG,GL,GK]
    refine Kf 9 (r:=?_)
    try simp only[Act.put,GJ,GI,GH,GG,GL,GK]
    have hP:kJ w10 (cS w10 w.heap.size (.bool m0) (.slice a0 n0 c0) (.bool false) (.slice a1 n1 c1) (.bool m2) (.slice b0 l0 i0) (.bool false) (.slice b1 l1 i1)) w.heap.size _ #[.bool m0,.slice a0 n0 c0,.bool false,.slice a1 n1 c1,.bool m2,.slice b0 l0 i0,.bool false,.slice b1 l1 i1]:=bK s3;have hZ:Hid (IsC (cS w10 w.heap.size (.bool m0) (.slice a0 n0 c0) (.bool false) (.slice a1 n1 c1) (.bool m2) (.slice b0 l0 i0) (.bool false) (.slice b1 l1 i1)) (.agg #[.bool m0,.slice a0 n0 c0,.bool false,.slice a1 n1 c1,.bool m2,.slice b0 l0 i0,.bool false,.slice b1 l1 i1]) (aV s.data.toList)):=HC3.out.puts hP s3 bJ;have hB:=HB3.trans (hP.below w.heap.size (by omega));have q0:=ai s3 0;have q1:=ai s3 1;have q2:=ai s3 2;have q3:=ai s3 3;have q4:=ai s3 4;have q5:=ai s3 5;have q6:=ai s3 6;have q7:=ai s3 7;have f0:=Kg w10 w.heap.size 0 _ _ s3;have f1:=Kg w10 w.heap.size 1 _ _ s3;have f2:=Kg w10 w.heap.size 2 _ _ s3;have f3:=Kg w10 w.heap.size 3 _ _ s3;have f4:=Kg w10 w.heap.size 4 _ _ s3;have f5:=Kg w10 w.heap.size 5 _ _ s3;have f6:=Kg w10 w.heap.size 6 _ _ s3;have f7:=Kg w10 w.heap.size 7 _ _ s3;clear HC3 HB3 hS10;refine aA (i:=10) rfl (by kernel_rfl) rfl (fun K hK=>?_);go_simp;change K _ (cS w10 w.heap.size (.bool m0) (.slice a0 n0 c0) (.bool false) (.slice a1 n1 c1) (.bool m2) (.slice b0 l0 i0) (.bool false) (.slice b1 l1 i1));refine hK _ _ (fun _ hs=>(hP.other _ (Jt HG7)).trans hs) ?_
    clear hK K q0 f0 q1 f1 q2 f2 q3 f3 q4 f4 q5 f5 q6 f6 q7 f7;try simp only[Act.put,GJ,GI,GH,GG,GL,GK]
    refine Kf 11 (r:=?_)
    try simp only[Act.put,GJ,GI,GH,GG,GL,GK]
    try simp only[Act.put,GJ,GI,GH,GG,GL,GK]
    refine aK (by kernel_rfl) ?_ _;simp only[aX];go_wp2_with fail
    (try simp only[Exit.inBlock,Exit.then])
    refine Kh (aS rfl _ _ w.heap.size _ _ (0,0) _ rfl hP.row Tryz.underlying92 rfl (by kernel_rfl)) rfl ?_;exact⟨_,by unfold rOK;rw[<-HBT.out];rfl,hZ.out,hB⟩
   ·refine Kf 4 (r:=?_)
    try simp only[Act.put,GJ,GI,GH,GG,GL,GK]
    refine Kf 5 (r:=?_)
    try simp only[Act.put,GJ,GI,GH,GG,GL,GK]
    refine cO (i:=6) (v:=?vvCB) rfl (by kernel_rfl) (fun _ _ _ h=>h) (by rfl) hS10 ?hyCB ?restCB
    case hyCB =>
     intro wy hy;have q0:=ai hy 0;have q1:=ai hy 1;have q2:=ai hy 2;have q3:=ai hy 3;have q4:=ai hy 4;have q5:=ai hy 5;have q6:=ai hy 6;have q7:=ai hy 7;go_simp;try with_reducible rfl
    try simp only[Act.put,GJ,GI,GH,GG,GL,GK]
    refine jc (i:=7) rfl (by kernel_rfl) (by rfl) (fun K hK=>?_);go_simp;refine (nh _ (aV s.data.toList) w10 HC3.out HF0.out HF1.out HF2.out HF3.out).mono ?_;rintro e w11 ⟨rfl,hb11⟩;have hS11:=(hb11.block _ (ak hS10)).trans hS10;refine hK _ _ (fun _ _=>hS11) ?_;clear hK K;try simp only[Act.put,GJ,GI,GH,GG,GL,GK]
    have HC4:=GF (HC3.out.below hb11);have s4:=(hb11.block _ (ak s3)).trans s3;have HB4:=HB3.trans (hb11.mono HB3.size);clear HC3 s3 HB3 hS10 hb11;obtain⟨bb,hbb⟩:∃ bb,bb=(b8 (aV s.data.toList).x||b8 (aV s.data.toList).y):=⟨_,rfl⟩;rw[<-hbb];have HBB:=GF hbb;clear hbb;refine cO (i:=8) (v:=?vvDB) rfl (by kernel_rfl) (fun _ _ _ h=>h) (by rfl) hS11 ?hyDB ?restDB
    case hyDB =>
     intro wy hy;go_simp;try with_reducible rfl
    try simp only[Act.put,GJ,GI,GH,GG,GL,GK]
    refine Kf 9 (r:=?_)
    try simp only[Act.put,GJ,GI,GH,GG,GL,GK]
    have hP:kJ w11 (cS w11 w.heap.size (.bool m0) (.slice a0 n0 c0) (.bool false) (.slice a1 n1 c1) (.bool m2) (.slice b0 l0 i0) (.bool false) (.slice b1 l1 i1)) w.heap.size _ #[.bool m0,.slice a0 n0 c0,.bool false,.slice a1 n1 c1,.bool m2,.slice b0 l0 i0,.bool false,.slice b1 l1 i1]:=bK s4;have hZ:Hid (IsC (cS w11 w.heap.size (.bool m0) (.slice a0 n0 c0) (.bool false) (.slice a1 n1 c1) (.bool m2) (.slice b0 l0 i0) (.bool false) (.slice b1 l1 i1)) (.agg #[.bool m0,.slice a0 n0 c0,.bool false,.slice a1 n1 c1,.bool m2,.slice b0 l0 i0,.bool false,.slice b1 l1 i1]) (aV s.data.toList)):=HC4.out.puts hP s4 bJ;have hB:=HB4.trans (hP.below w.heap.size (by omega));have q0:=ai s4 0;have q1:=ai s4 1;have q2:=ai s4 2;have q3:=ai s4 3;have q4:=ai s4 4;have q5:=ai s4 5;have q6:=ai s4 6;have q7:=ai s4 7;have f0:=Kg w11 w.heap.size 0 _ _ s4;have f1:=Kg w11 w.heap.size 1 _ _ s4;have f2:=Kg w11 w.heap.size 2 _ _ s4;have f3:=Kg w11 w.heap.size 3 _ _ s4;have f4:=Kg w11 w.heap.size 4 _ _ s4;have f5:=Kg w11 w.heap.size 5 _ _ s4;have f6:=Kg w11 w.heap.size 6 _ _ s4;have f7:=Kg w11 w.heap.size 7 _ _ s4;clear HC4 HB4 hS11;refine aA (i:=10) rfl (by kernel_rfl) rfl (fun K hK=>?_);go_simp;change K _ (cS w11 w.heap.size (.bool m0) (.slice a0 n0 c0) (.bool false) (.slice a1 n1 c1) (.bool m2) (.slice b0 l0 i0) (.bool false) (.slice b1 l1 i1));refine hK _ _ (fun _ hs=>(hP.other _ (Jt HG7)).trans hs) ?_
    clear hK K q0 f0 q1 f1 q2 f2 q3 f3 q4 f4 q5 f5 q6 f6 q7 f7;try simp only[Act.put,GJ,GI,GH,GG,GL,GK]
    refine Kf 11 (r:=?_)
    try simp only[Act.put,GJ,GI,GH,GG,GL,GK]
    try simp only[Act.put,GJ,GI,GH,GG,GL,GK]
    refine aK (by kernel_rfl) ?_ _;simp only[aX];go_wp2_with fail
    (try simp only[Exit.inBlock,Exit.then])
    refine Kh (aS rfl _ _ w.heap.size _ _ (0,0) _ rfl hP.row Tryz.underlying92 rfl (by kernel_rfl)) rfl ?_;exact⟨_,by unfold rOK;rw[<-HBT.out,<-HBB.out];rfl,hZ.out,hB⟩
end Go.Proofs.YtmakbmhlemhgeaaGreatDoor
