/- L -/
import Derived.Test.YtlhpcoelfhjomaaGreatDoorQReg
import Derived.Test.YtlhpcoelfhjomaaGreatDoorQRT5
set_option linter.all false
set_option maxRecDepth 100000
set_option maxHeartbeats 8000000
namespace Go.Proofs.YtlhpcoelfhjomaaGreatDoor
open Go.RowKit Dg Dc
theorem IsC.puts {w w':World}{b:Nat}{t t0:TypeId}{us cs:Array Value}{v:Value}{z:Vl} (hv:IsC w v z) (h:j6 w w' b t us) (hr:w.heap[b]?=some (.cells cs t0 (0,0))) (hn:∀ (j:Nat) (z:Int),cs[j]?≠some (Value.int .i64 z)):IsC w' v z:=by
 obtain⟨a,b,c,d,e,h1,h2,h3,h4⟩:=hv;exact⟨a,b,c,d,e,h.isI hr hn h1,h.isI hr hn h2,h.isI hr hn h3,h.isI hr hn h4⟩
theorem vB (s:List UInt8):bu (cS s).1.n/\bu (cS s).1.d:=by
 have h1:bu 1:=tP (e:=1) (m:=501) rfl (by omega) (by decide);unfold cS
 split
 ·exact⟨h1,h1⟩
 ·split
  ·unfold dP
   split
   ·exact⟨h1.mono (IF _),h1⟩
   ·exact⟨(mf _).mono (J5 _ _),(mf _).mono (J5 _ _)⟩
  ·exact⟨mf _,h1⟩
theorem mg (s:List UInt8):bu (cD s).1.n/\bu (cD s).1.d:=by
 unfold cD
 split
 ·exact vB _
 ·split<;>exact vB _
theorem jc (s:List UInt8):(bu (aW s).x.n/\bu (aW s).x.d)/\(bu (aW s).y.n/\bu (aW s).y.d):=by
 have h1:bu 1:=tP (e:=1) (m:=501) rfl (by omega) (by decide);have h0:bu fN.n/\bu fN.d:=⟨h1.mono (by unfold fN;simp),h1⟩;unfold aW
 split
 ·exact⟨h0,mg _⟩
 ·split
  ·exact⟨mg _,h0⟩
  ·exact⟨mg _,mg _⟩
theorem Hf {s:List UInt8} (h:(cD s).2=[105]):aW s=⟨fN,(cD s).1⟩:=by unfold aW;rw[if_pos h]
theorem Ec {s:List UInt8} (h:(cD s).2=[]):aW s=⟨(cD s).1,fN⟩:=by unfold aW;rw[if_neg (by rw[h];exact fun e=>by cases e),if_pos h]
theorem Ed {s:List UInt8} (h:(cD s).2≠[105]) (h2:(cD s).2≠[]):aW s=⟨(cD s).1,(cD (cD s).2).1⟩:=by unfold aW;rw[if_neg h,if_neg h2]
theorem tT (s:ByteArray) (w:World) :
  Calls Tryz.prog 56 #[.string s] w fun e w'=>∃ v,e=.returned (.tuple #[v,.bool (rOK s.data.toList)])/\IsC w' v (aW s.data.toList)/\Below w.heap.size w w':=by
 have hl:=bL w (.cells #[.bool false,.slice none 0 0,.bool false,.slice none 0 0,.bool false,.slice none 0 0,.bool false,.slice none 0 0] 80);have HF0:=Ip (jc s.data.toList).1.1;have HF1:=Ip (jc s.data.toList).1.2;have HF2:=Ip (jc s.data.toList).2.1;have HF3:=Ip (jc s.data.toList).2.2;have HPX:=Ip (i_ s.data.toList).1.pos;have HPY:=Ip (i_ s.data.toList).2.pos;go_enter Tryz.func56,Tryz.ntmps56;go_upto_region 1 with fail
 generalize w.alloc (.cells #[.bool false,.slice none 0 0,.bool false,.slice none 0 0,.bool false,.slice none 0 0,.bool false,.slice none 0 0] 80)=w1 at *
 go_wp2_with fail
 refine (qW s w1).mono ?_;rintro e w2 ⟨v2,t,rfl,hz2,ht,hb2⟩;obtain⟨x,hx⟩:∃ x,x=(cD s.data.toList).1:=⟨_,rfl⟩;rw[<-hx] at hz2;have HX:=Ip hx;clear hx;obtain⟨a0,n0,c0,a1,n1,c1,rfl,hN2,hNc2,hcm2,hN3,hNc3,hcm3,hd2,hd3⟩:=hz2.parts;obtain⟨m0,hm0⟩:∃ m,m=x.minus:=⟨_,rfl⟩;rw[<-hm0] at hz2 |-;have HM0:=Ip hm0;clear hm0;have hl2:=bL w2 (.cells #[.bool m0,.slice a0 n0 c0,.bool false,.slice a1 n1 c1] 44);have hb3:=hb2.trans (hl2.below.mono hb2.size);have hr2:=(hb3.block _ (ah hl.s0)).trans hl.s0;have HB:=hl.below.trans (hb3.mono hl.below.size);have HQ:=Ip (hz2.below hl2.below);have hr5:=hl2.s0;clear hl hl2 hb2 hb3 hz2 hd2 hd3;have y0:=af hr5 0;have y1:=af hr5 1;have y2:=af hr5 2;have y3:=af hr5 3;go_upto_region 3 with fail
 generalize w2.alloc (.cells #[.bool m0,.slice a0 n0 c0,.bool false,.slice a1 n1 c1] 44)=w3 at *
 generalize w2.heap.size=g5 at *
 go_wp2_with fail
 refine (wK _ x w3 HQ.out).mono ?_;rintro e w4 ⟨v4,rfl,hz4,hb4⟩;obtain⟨p0,k0,d0,p1,k1,d1,p2,k2,d2,p3,k3,d3,rfl,_,_⟩:=hz4.parts;obtain⟨m1,hm1⟩:∃ m,m=(Vl.mk x fN).y.minus:=⟨_,rfl⟩;rw[<-hm1,show (Vl.mk x fN).x.minus=m0 from HM0.out.symm] at hz4 |-;clear hm1;have hl4:=bL w4 (.cells #[.bool m0,.slice p0 k0 d0,.bool false,.slice p1 k1 d1,.bool m1,.slice p2 k2 d2,.bool false,.slice p3 k3 d3] 80);have hb5:=hb4.trans (hl4.below.mono hb4.size);have HG4:w.heap.size<w4.heap.size:=Iz (ah hr2) hb4.size;have hs2:=(hb5.block _ (ah hr2)).trans hr2;have hs5:=(hb5.block _ (ah hr5)).trans hr5;have HB5:=LK HB hb5;have HQ5:=Ip (HQ.out.below hb5);have HC:=Ip (hz4.below hl4.below);have hr7:=hl4.s0;clear y0 y1 y2 y3 hl4 hb4 hb5 hz4 hr2 hr5 HB HQ;have hr2:=hs2;have hr5:=hs5;have HB:=HB5;have HQ:=HQ5;clear hs2 hs5 HB5 HQ5;go_upto_region 4 with fail
 generalize w4.alloc (.cells #[.bool m0,.slice p0 k0 d0,.bool false,.slice p1 k1 d1,.bool m1,.slice p2 k2 d2,.bool false,.slice p3 k3 d3] 80)=w5 at *
 have HG7:w.heap.size<w4.heap.size:=HG4;generalize w4.heap.size=g7 at *
 have htl:t.toList=(cD s.data.toList).2:=by rw[aw];exact ht.out
 by_cases h1:(cD s.data.toList).2=[105]
 ·have z1:(t.toList == [105])=true:=by rw[htl,h1];rfl
  have HRD:=Ip (Hf h1);clear htl h1;go_upto_region 5 with fail
  have hbd:Below w5.heap.size w5 w5.drew:=(LN _ _).drew;have e2:=(hbd.block _ (ah hr2)).trans hr2;have e5:=(hbd.block _ (ah hr5)).trans hr5;have e7:=(hbd.block _ (ah hr7)).trans hr7;have HBd:=LK HB hbd;have HQd:=Ip (HQ.out.below hbd);clear hbd hr2 hr5 hr7 HB HC HQ;have hS:(fun wx:World=>wx.heap[g5]?=some (.cells #[.bool m0,.slice a0 n0 c0,.bool false,.slice a1 n1 c1] 44 (0,0))) w5.drew:=e5;refine wp_mono (ax (Q:=aP _) (fun wx:World=>wx.heap[g5]?=some (.cells #[.bool m0,.slice a0 n0 c0,.bool false,.slice a1 n1 c1] 44 (0,0))) (fun i=>i == 3) (by kernel_rfl) ?_) (fun _ _ _ h=>aY h);generalize w5.drew=w6 at *
  refine ay (i:=1) (v:=?vvE) rfl (by kernel_rfl) (fun _ _ _ h=>h) rfl hS ?hyE ?restE
  case hyE =>
   intro wy hy;have q0:=af hy 0;have q1:=af hy 1;have q2:=af hy 2;have q3:=af hy 3;go_simp;try with_reducible rfl
  try simp only[Act.put,It,Is,Ir,Iq,Iu,Iv]
  refine ar (i:=0) rfl (by kernel_rfl) rfl (fun K hK=>?_);go_simp;refine (mL 0 (by omega) w6).mono ?_;rintro e w7 ⟨v7,rfl,hz7,hb7⟩;have hS7:=(hb7.block _ (ah hS)).trans hS;obtain⟨b0,l0,i0,b1,l1,i1,rfl,_,_,_,_,_,_,_,_⟩:=hz7.parts;obtain⟨m2,hm2⟩:∃ m,m=(Rt.mk false 0 1).minus:=⟨_,rfl⟩;rw[<-hm2] at hz7 |-;have HM2:=Ip hm2;clear hm2;refine hK _ _ (fun _ _=>hS7) ?_;clear hK K;refine LJ 2 (r:=?_)
  try simp only[Act.put,It,Is,Ir,Iq,Iu,Iv]
  have i2:=(hb7.block _ (ah e2)).trans e2;have i7:=(hb7.block _ (ah e7)).trans e7;have HBe:=LK HBd hb7;have HQe:=Ip (HQd.out.below hb7);have hP:j6 w7 (fy w7 g7 (.bool m2) (.slice b0 l0 i0) (.bool false) (.slice b1 l1 i1) (.bool m0) (.slice a0 n0 c0) (.bool false) (.slice a1 n1 c1)) g7 _ #[.bool m2,.slice b0 l0 i0,.bool false,.slice b1 l1 i1,.bool m0,.slice a0 n0 c0,.bool false,.slice a1 n1 c1]:=eP i7;have hQ7:=hz7.puts hP i7 fF;have hQe:=HQe.out.puts hP i7 fF;have j2:=(hP.other _ (Nat.ne_of_lt HG7)).trans i2;have hBf:=HBe.trans (hP.below w.heap.size (JI HG7));have q0:=af i7 0;have q1:=af i7 1;have q2:=af i7 2;have q3:=af i7 3;have q4:=af i7 4;have q5:=af i7 5;have q6:=af i7 6;have q7:=af i7 7;have f0:=LL w7 g7 0 _ _ i7;have f1:=LL w7 g7 1 _ _ i7;have f2:=LL w7 g7 2 _ _ i7;have f3:=LL w7 g7 3 _ _ i7;have f4:=LL w7 g7 4 _ _ i7;have f5:=LL w7 g7 5 _ _ i7;have f6:=LL w7 g7 6 _ _ i7;have f7:=LL w7 g7 7 _ _ i7;clear hz7 hb7 HBd HBe HQd HQe hS hS7 e2 e5 e7 i2;refine ar (i:=3) rfl (by kernel_rfl) rfl (fun K hK=>?_);go_simp;change K _ (fy w7 g7 (.bool m2) (.slice b0 l0 i0) (.bool false) (.slice b1 l1 i1) (.bool m0) (.slice a0 n0 c0) (.bool false) (.slice a1 n1 c1));refine hK _ _ (fun h=>by cases h) ?_;clear hK K q0 f0 q1 f1 q2 f2 q3 f3 q4 f4 q5 f5 q6 f6 q7 f7 i7;try simp only[Act.put,It,Is,Ir,Iq,Iu,Iv]
  refine aF (by kernel_rfl) ?_ _;simp only[aP];have hr7:=hP.row;have hr2:=j2;have HB:=hBf
  have HC:Hid (IsC (fy w7 g7 (.bool m2) (.slice b0 l0 i0) (.bool false) (.slice b1 l1 i1) (.bool m0) (.slice a0 n0 c0) (.bool false) (.slice a1 n1 c1)) (.agg #[.bool m2,.slice b0 l0 i0,.bool false,.slice b1 l1 i1,.bool m0,.slice a0 n0 c0,.bool false,.slice a1 n1 c1]) (aW s.data.toList)):=by
   rw[HRD.out,<-HX.out];obtain⟨u0,u1,eu,hu0,hu1⟩:=hQ7;obtain⟨v0,v1,ev,hv0,hv1⟩:=hQe;simp only[Value.agg.injEq,Array.mk.injEq,List.cons.injEq,and_true,true_and] at eu ev;obtain⟨_,rfl,rfl⟩:=eu;obtain⟨_,rfl,rfl⟩:=ev;refine⟨_,_,_,_,?_,hu0,hu1,hv0,hv1⟩;rw[HM2.out,HM0.out];rfl
  clear hP j2 hBf hQ7 hQe;generalize fy w7 g7 (.bool m2) (.slice b0 l0 i0) (.bool false) (.slice b1 l1 i1) (.bool m0) (.slice a0 n0 c0) (.bool false) (.slice a1 n1 c1)=w8 at *
  go_upto_region 9 with fail
  have hbd:Below w8.heap.size w8 w8.drew:=(LN _ _).drew;have s2:=(hbd.block _ (ah hr2)).trans hr2;have s7:=(hbd.block _ (ah hr7)).trans hr7;have HB2:=LK HB hbd;have HC2:=Ip (HC.out.below hbd);have hS:(fun wx:World=>wx.heap[g7]?=some (.cells #[.bool m2,.slice b0 l0 i0,.bool false,.slice b1 l1 i1,.bool m0,.slice a0 n0 c0,.bool false,.slice a1 n1 c1] 80 (0,0))) w8.drew:=s7;refine wp_mono (ax (Q:=aP _) (fun wx:World=>wx.heap[g7]?=some (.cells #[.bool m2,.slice b0 l0 i0,.bool false,.slice b1 l1 i1,.bool m0,.slice a0 n0 c0,.bool false,.slice a1 n1 c1] 80 (0,0))) (fun _=>false) (by kernel_rfl) ?_) (fun _ _ _ h=>aY h);clear hbd hr2 hr7 HB HC;generalize w8.drew=w9 at *
  refine ay (i:=0) (v:=?vvAA) rfl (by kernel_rfl) (fun _ _ _ h=>h) rfl hS ?hyAA ?restAA
  case hyAA =>
   intro wy hy;have q0:=af hy 0;have q1:=af hy 1;have q2:=af hy 2;have q3:=af hy 3;have q4:=af hy 4;have q5:=af hy 5;have q6:=af hy 6;have q7:=af hy 7;go_simp;try with_reducible rfl
  refine ay (i:=1) (v:=?vvBA) rfl (by kernel_rfl) (fun _ _ _ h=>h) rfl hS ?hyBA ?restBA
  case hyBA =>
   intro wy hy;have q0:=af hy 0;have q1:=af hy 1;have q2:=af hy 2;have q3:=af hy 3;have q4:=af hy 4;have q5:=af hy 5;have q6:=af hy 6;have q7:=af hy 7;go_simp;try with_reducible rfl
  refine LJ 3 (r:=?_)
  try simp only[Act.put,It,Is,Ir,Iq,Iu,Iv]
  refine ar (i:=2) rfl (by kernel_rfl) rfl (fun K hK=>?_);go_simp;refine (mZ _ (aW s.data.toList) w9 HC2.out HPX.out HPY.out HF0.out HF1.out HF2.out HF3.out).mono ?_;rintro e w10 ⟨rfl,hb10⟩;have hS10:=(hb10.block _ (ah hS)).trans hS;refine hK _ _ (fun _ _=>hS10) ?_;clear hK K;try simp only[Act.put,It,Is,Ir,Iq,Iu,Iv]
  have HC3:=Ip (HC2.out.below hb10);have s3:=(hb10.block _ (ah s2)).trans s2;have HB3:=LK HB2 hb10;clear HC2 s2 HB2 s7 hb10 hS;obtain⟨tx,htx⟩:∃ tx:ByteArray,tx=⟨(bX (aW s.data.toList)).toArray⟩:=⟨_,rfl⟩;rw[<-htx];obtain⟨bt,hbt⟩:∃ bt,bt=decide (bX (aW s.data.toList)=s.data.toList):=⟨_,rfl⟩
  have hbe:(tx.toList == s.toList)=bt:=by
   rw[hbt,htx,aw,aw];rw[Kc];simp
  have HBT:=Ip hbt;clear hbt htx
  cases bt
  ·refine LJ 4 (r:=?_)
   refine LJ 5 (r:=?_)
   try simp only[Act.put,It,Is,Ir,Iq,Iu,Iv]
   refine a6 (i:=6) rfl (by kernel_rfl) (fun _ _ _ h=>h) (by rfl) ?_;try simp only[Act.put,It,Is,Ir,Iq,Iu,Iv]
   refine a6 (i:=7) rfl (by kernel_rfl) (fun _ _ _ h=>h) (by rfl) ?_;try simp only[Act.put,It,Is,Ir,Iq,Iu,Iv]
   refine a6 (i:=8) rfl (by kernel_rfl) (fun _ _ _ h=>h) (by rfl) ?_;refine LJ 9 (r:=?_)
   try simp only[Act.put,It,Is,Ir,Iq,Iu,Iv]
   have hP:j6 w10 (fy w10 w.heap.size (.bool m2) (.slice b0 l0 i0) (.bool false) (.slice b1 l1 i1) (.bool m0) (.slice a0 n0 c0) (.bool false) (.slice a1 n1 c1)) w.heap.size _ #[.bool m2,.slice b0 l0 i0,.bool false,.slice b1 l1 i1,.bool m0,.slice a0 n0 c0,.bool false,.slice a1 n1 c1]:=eP s3;have hZ:Hid (IsC (fy w10 w.heap.size (.bool m2) (.slice b0 l0 i0) (.bool false) (.slice b1 l1 i1) (.bool m0) (.slice a0 n0 c0) (.bool false) (.slice a1 n1 c1)) (.agg #[.bool m2,.slice b0 l0 i0,.bool false,.slice b1 l1 i1,.bool m0,.slice a0 n0 c0,.bool false,.slice a1 n1 c1]) (aW s.data.toList)):=HC3.out.puts hP s3 fF;have hB:=HB3.trans (hP.below w.heap.size (by omega));have q0:=af s3 0;have q1:=af s3 1;have q2:=af s3 2;have q3:=af s3 3;have q4:=af s3 4;have q5:=af s3 5;have q6:=af s3 6;have q7:=af s3 7;have f0:=LL w10 w.heap.size 0 _ _ s3;have f1:=LL w10 w.heap.size 1 _ _ s3;have f2:=LL w10 w.heap.size 2 _ _ s3;have f3:=LL w10 w.heap.size 3 _ _ s3;have f4:=LL w10 w.heap.size 4 _ _ s3;have f5:=LL w10 w.heap.size 5 _ _ s3;have f6:=LL w10 w.heap.size 6 _ _ s3;have f7:=LL w10 w.heap.size 7 _ _ s3;clear HC3 HB3 hS10;refine ar (i:=10) rfl (by kernel_rfl) rfl (fun K hK=>?_);go_simp;change K _ (fy w10 w.heap.size (.bool m2) (.slice b0 l0 i0) (.bool false) (.slice b1 l1 i1) (.bool m0) (.slice a0 n0 c0) (.bool false) (.slice a1 n1 c1));refine hK _ _ (fun _ hs=>(hP.other _ (KS HG7)).trans hs) ?_
   clear hK K q0 f0 q1 f1 q2 f2 q3 f3 q4 f4 q5 f5 q6 f6 q7 f7;refine LJ 11 (r:=?_)
   try simp only[Act.put,It,Is,Ir,Iq,Iu,Iv]
   try simp only[Act.put,It,Is,Ir,Iq,Iu,Iv]
   refine aF (by kernel_rfl) ?_ _;simp only[aP];go_wp2_with fail
   (try simp only[Exit.inBlock,Exit.then])
   refine LM (aJ rfl _ _ w.heap.size _ _ (0,0) _ rfl hP.row Tryz.underlying80 rfl (by kernel_rfl)) rfl ?_;exact⟨_,by unfold rOK;rw[<-HBT.out];rfl,hZ.out,hB⟩
  ·refine LJ 4 (r:=?_)
   refine LJ 5 (r:=?_)
   try simp only[Act.put,It,Is,Ir,Iq,Iu,Iv]
   refine bY (i:=6) (v:=?vvCA) rfl (by kernel_rfl) (fun _ _ _ h=>h) (by rfl) hS10 ?hyCA ?restCA
   case hyCA =>
    intro wy hy;have q0:=af hy 0;have q1:=af hy 1;have q2:=af hy 2;have q3:=af hy 3;have q4:=af hy 4;have q5:=af hy 5;have q6:=af hy 6;have q7:=af hy 7;go_simp;try with_reducible rfl
   try simp only[Act.put,It,Is,Ir,Iq,Iu,Iv]
   refine fL (i:=7) rfl (by kernel_rfl) (by rfl) (fun K hK=>?_);go_simp;refine (oO _ (aW s.data.toList) w10 HC3.out HF0.out HF1.out HF2.out HF3.out).mono ?_;rintro e w11 ⟨rfl,hb11⟩;have hS11:=(hb11.block _ (ah hS10)).trans hS10;refine hK _ _ (fun _ _=>hS11) ?_;clear hK K;try simp only[Act.put,It,Is,Ir,Iq,Iu,Iv]
   have HC4:=Ip (HC3.out.below hb11);have s4:=(hb11.block _ (ah s3)).trans s3;have HB4:=LK HB3 hb11;clear HC3 s3 HB3 hS10 hb11;obtain⟨bb,hbb⟩:∃ bb,bb=(dt (aW s.data.toList).x||dt (aW s.data.toList).y):=⟨_,rfl⟩;rw[<-hbb];have HBB:=Ip hbb;clear hbb;refine bY (i:=8) (v:=?vvDA) rfl (by kernel_rfl) (fun _ _ _ h=>h) (by rfl) hS11 ?hyDA ?restDA
   case hyDA =>
    intro wy hy;go_simp;try with_reducible rfl
   refine LJ 9 (r:=?_)
   try simp only[Act.put,It,Is,Ir,Iq,Iu,Iv]
   have hP:j6 w11 (fy w11 w.heap.size (.bool m2) (.slice b0 l0 i0) (.bool false) (.slice b1 l1 i1) (.bool m0) (.slice a0 n0 c0) (.bool false) (.slice a1 n1 c1)) w.heap.size _ #[.bool m2,.slice b0 l0 i0,.bool false,.slice b1 l1 i1,.bool m0,.slice a0 n0 c0,.bool false,.slice a1 n1 c1]:=eP s4;have hZ:Hid (IsC (fy w11 w.heap.size (.bool m2) (.slice b0 l0 i0) (.bool false) (.slice b1 l1 i1) (.bool m0) (.slice a0 n0 c0) (.bool false) (.slice a1 n1 c1)) (.agg #[.bool m2,.slice b0 l0 i0,.bool false,.slice b1 l1 i1,.bool m0,.slice a0 n0 c0,.bool false,.slice a1 n1 c1]) (aW s.data.toList)):=HC4.out.puts hP s4 fF;have hB:=HB4.trans (hP.below w.heap.size (by omega));have q0:=af s4 0;have q1:=af s4 1;have q2:=af s4 2;have q3:=af s4 3;have q4:=af s4 4;have q5:=af s4 5;have q6:=af s4 6;have q7:=af s4 7;have f0:=LL w11 w.heap.size 0 _ _ s4;have f1:=LL w11 w.heap.size 1 _ _ s4;have f2:=LL w11 w.heap.size 2 _ _ s4;have f3:=LL w11 w.heap.size 3 _ _ s4;have f4:=LL w11 w.heap.size 4 _ _ s4;have f5:=LL w11 w.heap.size 5 _ _ s4;have f6:=LL w11 w.heap.size 6 _ _ s4;have f7:=LL w11 w.heap.size 7 _ _ s4;clear HC4 HB4 hS11;refine ar (i:=10) rfl (by kernel_rfl) rfl (fun K hK=>?_);go_simp;change K _ (fy w11 w.heap.size (.bool m2) (.slice b0 l0 i0) (.bool false) (.slice b1 l1 i1) (.bool m0) (.slice a0 n0 c0) (.bool false) (.slice a1 n1 c1));refine hK _ _ (fun _ hs=>(hP.other _ (KS HG7)).trans hs) ?_
   clear hK K q0 f0 q1 f1 q2 f2 q3 f3 q4 f4 q5 f5 q6 f6 q7 f7;refine LJ 11 (r:=?_)
   try simp only[Act.put,It,Is,Ir,Iq,Iu,Iv]
   try simp only[Act.put,It,Is,Ir,Iq,Iu,Iv]
   refine aF (by kernel_rfl) ?_ _;simp only[aP];go_wp2_with fail
   (try simp only[Exit.inBlock,Exit.then])
   refine LM (aJ rfl _ _ w.heap.size _ _ (0,0) _ rfl hP.row Tryz.underlying80 rfl (by kernel_rfl)) rfl ?_;exact⟨_,by unfold rOK;rw[<-HBT.out,<-HBB.out];rfl,hZ.out,hB⟩
 ·have z1:(t.toList == [105])=false:=by rw[htl];simpa using h1
  by_cases h2:(cD s.data.toList).2=[]
  ·have z2:(t.toList == [])=true:=by rw[htl,h2];rfl
   have HRD:=Ip (Ec h2);rw[<-HX.out] at HRD;rw[<-HRD.out] at HC;clear htl h1 h2 hr5 HQ;go_upto_region 9 with fail
   have hbd:Below w5.heap.size w5 w5.drew:=(LN _ _).drew;have s2:=(hbd.block _ (ah hr2)).trans hr2;have s7:=(hbd.block _ (ah hr7)).trans hr7;have HB2:=LK HB hbd;have HC2:=Ip (HC.out.below hbd);have hS:(fun wx:World=>wx.heap[g7]?=some (.cells #[.bool m0,.slice p0 k0 d0,.bool false,.slice p1 k1 d1,.bool m1,.slice p2 k2 d2,.bool false,.slice p3 k3 d3] 80 (0,0))) w5.drew:=s7;refine wp_mono (ax (Q:=aP _) (fun wx:World=>wx.heap[g7]?=some (.cells #[.bool m0,.slice p0 k0 d0,.bool false,.slice p1 k1 d1,.bool m1,.slice p2 k2 d2,.bool false,.slice p3 k3 d3] 80 (0,0))) (fun _=>false) (by kernel_rfl) ?_) (fun _ _ _ h=>aY h);clear hbd hr2 hr7 HB HC;generalize w5.drew=w9 at *
   refine ay (i:=0) (v:=?vvAC) rfl (by kernel_rfl) (fun _ _ _ h=>h) rfl hS ?hyAC ?restAC
   case hyAC =>
    intro wy hy;have q0:=af hy 0;have q1:=af hy 1;have q2:=af hy 2;have q3:=af hy 3;have q4:=af hy 4;have q5:=af hy 5;have q6:=af hy 6;have q7:=af hy 7;go_simp;try with_reducible rfl
   refine ay (i:=1) (v:=?vvBC) rfl (by kernel_rfl) (fun _ _ _ h=>h) rfl hS ?hyBC ?restBC
   case hyBC =>
    intro wy hy;have q0:=af hy 0;have q1:=af hy 1;have q2:=af hy 2;have q3:=af hy 3;have q4:=af hy 4;have q5:=af hy 5;have q6:=af hy 6;have q7:=af hy 7;go_simp;try with_reducible rfl
   refine LJ 3 (r:=?_)
   try simp only[Act.put,It,Is,Ir,Iq,Iu,Iv]
   refine ar (i:=2) rfl (by kernel_rfl) rfl (fun K hK=>?_);go_simp;refine (mZ _ (aW s.data.toList) w9 HC2.out HPX.out HPY.out HF0.out HF1.out HF2.out HF3.out).mono ?_;rintro e w10 ⟨rfl,hb10⟩;have hS10:=(hb10.block _ (ah hS)).trans hS;refine hK _ _ (fun _ _=>hS10) ?_;clear hK K;try simp only[Act.put,It,Is,Ir,Iq,Iu,Iv]
   have HC3:=Ip (HC2.out.below hb10);have s3:=(hb10.block _ (ah s2)).trans s2;have HB3:=LK HB2 hb10;clear HC2 s2 HB2 s7 hb10 hS;obtain⟨tx,htx⟩:∃ tx:ByteArray,tx=⟨(bX (aW s.data.toList)).toArray⟩:=⟨_,rfl⟩;rw[<-htx];obtain⟨bt,hbt⟩:∃ bt,bt=decide (bX (aW s.data.toList)=s.data.toList):=⟨_,rfl⟩
   have hbe:(tx.toList == s.toList)=bt:=by
    rw[hbt,htx,aw,aw];rw[Kc];simp
   have HBT:=Ip hbt;clear hbt htx
   cases bt
   ·refine LJ 4 (r:=?_)
    refine LJ 5 (r:=?_)
    try simp only[Act.put,It,Is,Ir,Iq,Iu,Iv]
    refine a6 (i:=6) rfl (by kernel_rfl) (fun _ _ _ h=>h) (by rfl) ?_;try simp only[Act.put,It,Is,Ir,Iq,Iu,Iv]
    refine a6 (i:=7) rfl (by kernel_rfl) (fun _ _ _ h=>h) (by rfl) ?_;try simp only[Act.put,It,Is,Ir,Iq,Iu,Iv]
    refine a6 (i:=8) rfl (by kernel_rfl) (fun _ _ _ h=>h) (by rfl) ?_;refine LJ 9 (r:=?_)
    try simp only[Act.put,It,Is,Ir,Iq,Iu,Iv]
    have hP:j6 w10 (fy w10 w.heap.size (.bool m0) (.slice p0 k0 d0) (.bool false) (.slice p1 k1 d1) (.bool m1) (.slice p2 k2 d2) (.bool false) (.slice p3 k3 d3)) w.heap.size _ #[.bool m0,.slice p0 k0 d0,.bool false,.slice p1 k1 d1,.bool m1,.slice p2 k2 d2,.bool false,.slice p3 k3 d3]:=eP s3;have hZ:Hid (IsC (fy w10 w.heap.size (.bool m0) (.slice p0 k0 d0) (.bool false) (.slice p1 k1 d1) (.bool m1) (.slice p2 k2 d2) (.bool false) (.slice p3 k3 d3)) (.agg #[.bool m0,.slice p0 k0 d0,.bool false,.slice p1 k1 d1,.bool m1,.slice p2 k2 d2,.bool false,.slice p3 k3 d3]) (aW s.data.toList)):=HC3.out.puts hP s3 fF;have hB:=HB3.trans (hP.below w.heap.size (by omega));have q0:=af s3 0;have q1:=af s3 1;have q2:=af s3 2;have q3:=af s3 3;have q4:=af s3 4;have q5:=af s3 5;have q6:=af s3 6;have q7:=af s3 7;have f0:=LL w10 w.heap.size 0 _ _ s3;have f1:=LL w10 w.heap.size 1 _ _ s3;have f2:=LL w10 w.heap.size 2 _ _ s3;have f3:=LL w10 w.heap.size 3 _ _ s3;have f4:=LL w10 w.heap.size 4 _ _ s3;have f5:=LL w10 w.heap.size 5 _ _ s3;have f6:=LL w10 w.heap.size 6 _ _ s3;have f7:=LL w10 w.heap.size 7 _ _ s3;clear HC3 HB3 hS10;refine ar (i:=10) rfl (by kernel_rfl) rfl (fun K hK=>?_);go_simp;change K _ (fy w10 w.heap.size (.bool m0) (.slice p0 k0 d0) (.bool false) (.slice p1 k1 d1) (.bool m1) (.slice p2 k2 d2) (.bool false) (.slice p3 k3 d3));refine hK _ _ (fun _ hs=>(hP.other _ (KS HG7)).trans hs) ?_
    clear hK K q0 f0 q1 f1 q2 f2 q3 f3 q4 f4 q5 f5 q6 f6 q7 f7;refine LJ 11 (r:=?_)
    try simp only[Act.put,It,Is,Ir,Iq,Iu,Iv]
    try simp only[Act.put,It,Is,Ir,Iq,Iu,Iv]
    refine aF (by kernel_rfl) ?_ _;simp only[aP];go_wp2_with fail
    (try simp only[Exit.inBlock,Exit.then])
    refine LM (aJ rfl _ _ w.heap.size _ _ (0,0) _ rfl hP.row Tryz.underlying80 rfl (by kernel_rfl)) rfl ?_;exact⟨_,by unfold rOK;rw[<-HBT.out];rfl,hZ.out,hB⟩
   ·refine LJ 4 (r:=?_)
    refine LJ 5 (r:=?_)
    try simp only[Act.put,It,Is,Ir,Iq,Iu,Iv]
    refine bY (i:=6) (v:=?vvCC) rfl (by kernel_rfl) (fun _ _ _ h=>h) (by rfl) hS10 ?hyCC ?restCC
    case hyCC =>
     intro wy hy;have q0:=af hy 0;have q1:=af hy 1;have q2:=af hy 2;have q3:=af hy 3;have q4:=af hy 4;have q5:=af hy 5;have q6:=af hy 6;have q7:=af hy 7;go_simp;try with_reducible rfl
    try simp only[Act.put,It,Is,Ir,Iq,Iu,Iv]
    refine fL (i:=7) rfl (by kernel_rfl) (by rfl) (fun K hK=>?_);go_simp;refine (oO _ (aW s.data.toList) w10 HC3.out HF0.out HF1.out HF2.out HF3.out).mono ?_;rintro e w11 ⟨rfl,hb11⟩;have hS11:=(hb11.block _ (ah hS10)).trans hS10;refine hK _ _ (fun _ _=>hS11) ?_;clear hK K;try simp only[Act.put,It,Is,Ir,Iq,Iu,Iv]
    have HC4:=Ip (HC3.out.below hb11);have s4:=(hb11.block _ (ah s3)).trans s3;have HB4:=LK HB3 hb11;clear HC3 s3 HB3 hS10 hb11;obtain⟨bb,hbb⟩:∃ bb,bb=(dt (aW s.data.toList).x||dt (aW s.data.toList).y):=⟨_,rfl⟩;rw[<-hbb];have HBB:=Ip hbb;clear hbb;refine bY (i:=8) (v:=?vvDC) rfl (by kernel_rfl) (fun _ _ _ h=>h) (by rfl) hS11 ?hyDC ?restDC
    case hyDC =>
     intro wy hy;go_simp;try with_reducible rfl
    refine LJ 9 (r:=?_)
    try simp only[Act.put,It,Is,Ir,Iq,Iu,Iv]
    have hP:j6 w11 (fy w11 w.heap.size (.bool m0) (.slice p0 k0 d0) (.bool false) (.slice p1 k1 d1) (.bool m1) (.slice p2 k2 d2) (.bool false) (.slice p3 k3 d3)) w.heap.size _ #[.bool m0,.slice p0 k0 d0,.bool false,.slice p1 k1 d1,.bool m1,.slice p2 k2 d2,.bool false,.slice p3 k3 d3]:=eP s4;have hZ:Hid (IsC (fy w11 w.heap.size (.bool m0) (.slice p0 k0 d0) (.bool false) (.slice p1 k1 d1) (.bool m1) (.slice p2 k2 d2) (.bool false) (.slice p3 k3 d3)) (.agg #[.bool m0,.slice p0 k0 d0,.bool false,.slice p1 k1 d1,.bool m1,.slice p2 k2 d2,.bool false,.slice p3 k3 d3]) (aW s.data.toList)):=HC4.out.puts hP s4 fF;have hB:=HB4.trans (hP.below w.heap.size (by omega));have q0:=af s4 0;have q1:=af s4 1;have q2:=af s4 2;have q3:=af s4 3;have q4:=af s4 4;have q5:=af s4 5;have q6:=af s4 6;have q7:=af s4 7;have f0:=LL w11 w.heap.size 0 _ _ s4;have f1:=LL w11 w.heap.size 1 _ _ s4;have f2:=LL w11 w.heap.size 2 _ _ s4;have f3:=LL w11 w.heap.size 3 _ _ s4;have f4:=LL w11 w.heap.size 4 _ _ s4;have f5:=LL w11 w.heap.size 5 _ _ s4;have f6:=LL w11 w.heap.size 6 _ _ s4;have f7:=LL w11 w.heap.size 7 _ _ s4;clear HC4 HB4 hS11;refine ar (i:=10) rfl (by kernel_rfl) rfl (fun K hK=>?_);go_simp;change K _ (fy w11 w.heap.size (.bool m0) (.slice p0 k0 d0) (.bool false) (.slice p1 k1 d1) (.bool m1) (.slice p2 k2 d2) (.bool false) (.slice p3 k3 d3));refine hK _ _ (fun _ hs=>(hP.other _ (KS HG7)).trans hs) ?_
    clear hK K q0 f0 q1 f1 q2 f2 q3 f3 q4 f4 q5 f5 q6 f6 q7 f7;refine LJ 11 (r:=?_)
    try simp only[Act.put,It,Is,Ir,Iq,Iu,Iv]
    try simp only[Act.put,It,Is,Ir,Iq,Iu,Iv]
    refine aF (by kernel_rfl) ?_ _;simp only[aP];go_wp2_with fail
    (try simp only[Exit.inBlock,Exit.then])
    refine LM (aJ rfl _ _ w.heap.size _ _ (0,0) _ rfl hP.row Tryz.underlying80 rfl (by kernel_rfl)) rfl ?_;exact⟨_,by unfold rOK;rw[<-HBT.out,<-HBB.out];rfl,hZ.out,hB⟩
  ·have z2:(t.toList == [])=false:=by rw[htl];simpa using h2
   have HRD:=Ip (Ed h1 h2);clear htl h1 h2 HC;go_wp2_with fail
   refine (qW t w5).mono ?_;rintro e w6 ⟨v6,t6,rfl,hz6,ht6,hb6⟩;rw[ht.out] at hz6;obtain⟨y,hy⟩:∃ y,y=(cD (cD s.data.toList).2).1:=⟨_,rfl⟩;rw[<-hy] at hz6;have HYY:=Ip hy;clear hy;obtain⟨b0,l0,i0,b1,l1,i1,rfl,_,_,_,_,_,_,_,_⟩:=hz6.parts;obtain⟨m2,hm2⟩:∃ m,m=y.minus:=⟨_,rfl⟩;rw[<-hm2] at hz6 |-;have HM2:=Ip hm2;clear hm2;have hl6:=bL w6 (.cells #[.bool m2,.slice b0 l0 i0,.bool false,.slice b1 l1 i1] 44);have hb7:=hb6.trans (hl6.below.mono hb6.size);have i2:=(hb7.block _ (ah hr2)).trans hr2;have i5:=(hb7.block _ (ah hr5)).trans hr5;have i7:=(hb7.block _ (ah hr7)).trans hr7;have i8:=hl6.s0;have HBe:=LK HB hb7;have HQe:=Ip (HQ.out.below hb7);have HYe:=Ip (hz6.below hl6.below);clear hl6 hb6 hb7 hz6 hr2 hr5 hr7 HB HQ;go_upto_region 8 with fail
   generalize w6.alloc (.cells #[.bool m2,.slice b0 l0 i0,.bool false,.slice b1 l1 i1] 44)=w7 at *
   generalize w6.heap.size=g8 at *
   have hP:j6 w7 (fy w7 g7 (.bool m0) (.slice a0 n0 c0) (.bool false) (.slice a1 n1 c1) (.bool m2) (.slice b0 l0 i0) (.bool false) (.slice b1 l1 i1)) g7 _ #[.bool m0,.slice a0 n0 c0,.bool false,.slice a1 n1 c1,.bool m2,.slice b0 l0 i0,.bool false,.slice b1 l1 i1]:=eP i7;have hQ7:=HQe.out.puts hP i7 fF;have hQe:=HYe.out.puts hP i7 fF;have j2:=(hP.other _ (Nat.ne_of_lt HG7)).trans i2;have hBf:=HBe.trans (hP.below w.heap.size (JI HG7))
   have HC:Hid (IsC (fy w7 g7 (.bool m0) (.slice a0 n0 c0) (.bool false) (.slice a1 n1 c1) (.bool m2) (.slice b0 l0 i0) (.bool false) (.slice b1 l1 i1)) (.agg #[.bool m0,.slice a0 n0 c0,.bool false,.slice a1 n1 c1,.bool m2,.slice b0 l0 i0,.bool false,.slice b1 l1 i1]) (aW s.data.toList)):=by
    rw[HRD.out,<-HX.out,<-HYY.out];obtain⟨u0,u1,eu,hu0,hu1⟩:=hQ7;obtain⟨v0,v1,ev,hv0,hv1⟩:=hQe;simp only[Value.agg.injEq,Array.mk.injEq,List.cons.injEq,and_true,true_and] at eu ev;obtain⟨_,rfl,rfl⟩:=eu;obtain⟨_,rfl,rfl⟩:=ev;refine⟨_,_,_,_,?_,hu0,hu1,hv0,hv1⟩;rw[HM2.out,HM0.out]
   have hr7:=hP.row;have hr2:=j2;have HB:=hBf;have q0:=af i7 0;have q1:=af i7 1;have q2:=af i7 2;have q3:=af i7 3;have q4:=af i7 4;have q5:=af i7 5;have q6:=af i7 6;have q7:=af i7 7;have f0:=LL w7 g7 0 _ _ i7;have f1:=LL w7 g7 1 _ _ i7;have f2:=LL w7 g7 2 _ _ i7;have f3:=LL w7 g7 3 _ _ i7;have f4:=LL w7 g7 4 _ _ i7;have f5:=LL w7 g7 5 _ _ i7;have f6:=LL w7 g7 6 _ _ i7;have f7:=LL w7 g7 7 _ _ i7;have x0:=af i5 0;have x1:=af i5 1;have x2:=af i5 2;have x3:=af i5 3;have y0:=af i8 0;have y1:=af i8 1;have y2:=af i8 2;have y3:=af i8 3;clear hP hQ7 hQe j2 hBf HQe HYe HBe i2;unfold fy at hr7 hr2 HB HC;go_upto_region 9 with fail
   clear q0 f0 q1 f1 q2 f2 q3 f3 q4 f4 q5 f5 q6 f6 q7 f7 x0 x1 x2 x3 y0 y1 y2 y3 i5 i7 i8;generalize ((((((((w7.setCell ⟨g7,0,none⟩ (.bool m0)).setCell ⟨g7,1,none⟩ (.slice a0 n0 c0)).setCell ⟨g7,2,none⟩ (.bool false)).setCell ⟨g7,3,none⟩ (.slice a1 n1 c1)).setCell ⟨g7,4,none⟩ (.bool m2)).setCell ⟨g7,5,none⟩ (.slice b0 l0 i0)).setCell ⟨g7,6,none⟩ (.bool false)).setCell ⟨g7,7,none⟩ (.slice b1 l1 i1))=w8 at *
   have hbd:Below w8.heap.size w8 w8.drew:=(LN _ _).drew;have s2:=(hbd.block _ (ah hr2)).trans hr2;have s7:=(hbd.block _ (ah hr7)).trans hr7;have HB2:=LK HB hbd;have HC2:=Ip (HC.out.below hbd);have hS:(fun wx:World=>wx.heap[g7]?=some (.cells #[.bool m0,.slice a0 n0 c0,.bool false,.slice a1 n1 c1,.bool m2,.slice b0 l0 i0,.bool false,.slice b1 l1 i1] 80 (0,0))) w8.drew:=s7;refine wp_mono (ax (Q:=aP _) (fun wx:World=>wx.heap[g7]?=some (.cells #[.bool m0,.slice a0 n0 c0,.bool false,.slice a1 n1 c1,.bool m2,.slice b0 l0 i0,.bool false,.slice b1 l1 i1] 80 (0,0))) (fun _=>false) (by kernel_rfl) ?_) (fun _ _ _ h=>aY h);clear hbd hr2 hr7 HB HC;generalize w8.drew=w9 at *
   refine ay (i:=0) (v:=?vvAB) rfl (by kernel_rfl) (fun _ _ _ h=>h) rfl hS ?hyAB ?restAB
   case hyAB =>
    intro wy hy;have q0:=af hy 0;have q1:=af hy 1;have q2:=af hy 2;have q3:=af hy 3;have q4:=af hy 4;have q5:=af hy 5;have q6:=af hy 6;have q7:=af hy 7;go_simp;try with_reducible rfl
   refine ay (i:=1) (v:=?vvBB) rfl (by kernel_rfl) (fun _ _ _ h=>h) rfl hS ?hyBB ?restBB
   case hyBB =>
    intro wy hy;have q0:=af hy 0;have q1:=af hy 1;have q2:=af hy 2;have q3:=af hy 3;have q4:=af hy 4;have q5:=af hy 5;have q6:=af hy 6;have q7:=af hy 7;go_simp;try with_reducible rfl
   refine LJ 3 (r:=?_)
   try simp only[Act.put,It,Is,Ir,Iq,Iu,Iv]
   refine ar (i:=2) rfl (by kernel_rfl) rfl (fun K hK=>?_);go_simp;refine (mZ _ (aW s.data.toList) w9 HC2.out HPX.out HPY.out HF0.out HF1.out HF2.out HF3.out).mono ?_;rintro e w10 ⟨rfl,hb10⟩;have hS10:=(hb10.block _ (ah hS)).trans hS;refine hK _ _ (fun _ _=>hS10) ?_;clear hK K;try simp only[Act.put,It,Is,Ir,Iq,Iu,Iv]
   have HC3:=Ip (HC2.out.below hb10);have s3:=(hb10.block _ (ah s2)).trans s2;have HB3:=LK HB2 hb10;clear HC2 s2 HB2 s7 hb10 hS;obtain⟨tx,htx⟩:∃ tx:ByteArray,tx=⟨(bX (aW s.data.toList)).toArray⟩:=⟨_,rfl⟩;rw[<-htx];obtain⟨bt,hbt⟩:∃ bt,bt=decide (bX (aW s.data.toList)=s.data.toList):=⟨_,rfl⟩
   have hbe:(tx.toList == s.toList)=bt:=by
    rw[hbt,htx,aw,aw];rw[Kc];simp
   have HBT:=Ip hbt;clear hbt htx
   cases bt
   ·refine LJ 4 (r:=?_)
    refine LJ 5 (r:=?_)
    try simp only[Act.put,It,Is,Ir,Iq,Iu,Iv]
    refine a6 (i:=6) rfl (by kernel_rfl) (fun _ _ _ h=>h) (by rfl) ?_;try simp only[Act.put,It,Is,Ir,Iq,Iu,Iv]
    refine a6 (i:=7) rfl (by kernel_rfl) (fun _ _ _ h=>h) (by rfl) ?_;try simp only[Act.put,It,Is,Ir,Iq,Iu,Iv]
    refine a6 (i:=8) rfl (by kernel_rfl) (fun _ _ _ h=>h) (by rfl) ?_;refine LJ 9 (r:=?_)
    try simp only[Act.put,It,Is,Ir,Iq,Iu,Iv]
    have hP:j6 w10 (fy w10 w.heap.size (.bool m0) (.slice a0 n0 c0) (.bool false) (.slice a1 n1 c1) (.bool m2) (.slice b0 l0 i0) (.bool false) (.slice b1 l1 i1)) w.heap.size _ #[.bool m0,.slice a0 n0 c0,.bool false,.slice a1 n1 c1,.bool m2,.slice b0 l0 i0,.bool false,.slice b1 l1 i1]:=eP s3;have hZ:Hid (IsC (fy w10 w.heap.size (.bool m0) (.slice a0 n0 c0) (.bool false) (.slice a1 n1 c1) (.bool m2) (.slice b0 l0 i0) (.bool false) (.slice b1 l1 i1)) (.agg #[.bool m0,.slice a0 n0 c0,.bool false,.slice a1 n1 c1,.bool m2,.slice b0 l0 i0,.bool false,.slice b1 l1 i1]) (aW s.data.toList)):=HC3.out.puts hP s3 fF;have hB:=HB3.trans (hP.below w.heap.size (by omega));have q0:=af s3 0;have q1:=af s3 1;have q2:=af s3 2;have q3:=af s3 3;have q4:=af s3 4;have q5:=af s3 5;have q6:=af s3 6;have q7:=af s3 7;have f0:=LL w10 w.heap.size 0 _ _ s3;have f1:=LL w10 w.heap.size 1 _ _ s3;have f2:=LL w10 w.heap.size 2 _ _ s3;have f3:=LL w10 w.heap.size 3 _ _ s3;have f4:=LL w10 w.heap.size 4 _ _ s3;have f5:=LL w10 w.heap.size 5 _ _ s3;have f6:=LL w10 w.heap.size 6 _ _ s3;have f7:=LL w10 w.heap.size 7 _ _ s3;clear HC3 HB3 hS10;refine ar (i:=10) rfl (by kernel_rfl) rfl (fun K hK=>?_);go_simp;change K _ (fy w10 w.heap.size (.bool m0) (.slice a0 n0 c0) (.bool false) (.slice a1 n1 c1) (.bool m2) (.slice b0 l0 i0) (.bool false) (.slice b1 l1 i1));refine hK _ _ (fun _ hs=>(hP.other _ (KS HG7)).trans hs) ?_
    clear hK K q0 f0 q1 f1 q2 f2 q3 f3 q4 f4 q5 f5 q6 f6 q7 f7;refine LJ 11 (r:=?_)
    try simp only[Act.put,It,Is,Ir,Iq,Iu,Iv]
    try simp only[Act.put,It,Is,Ir,Iq,Iu,Iv]
    refine aF (by kernel_rfl) ?_ _;simp only[aP];go_wp2_with fail
    (try simp only[Exit.inBlock,Exit.then])
    refine LM (aJ rfl _ _ w.heap.size _ _ (0,0) _ rfl hP.row Tryz.underlying80 rfl (by kernel_rfl)) rfl ?_;exact⟨_,by unfold rOK;rw[<-HBT.out];rfl,hZ.out,hB⟩
   ·refine LJ 4 (r:=?_)
    refine LJ 5 (r:=?_)
    try simp only[Act.put,It,Is,Ir,Iq,Iu,Iv]
    refine bY (i:=6) (v:=?vvCB) rfl (by kernel_rfl) (fun _ _ _ h=>h) (by rfl) hS10 ?hyCB ?restCB
    case hyCB =>
     intro wy hy;have q0:=af hy 0;have q1:=af hy 1;have q2:=af hy 2;have q3:=af hy 3;have q4:=af hy 4;have q5:=af hy 5;have q6:=af hy 6;have q7:=af hy 7;go_simp;try with_reducible rfl
    try simp only[Act.put,It,Is,Ir,Iq,Iu,Iv]
    refine fL (i:=7) rfl (by kernel_rfl) (by rfl) (fun K hK=>?_);go_simp;refine (oO _ (aW s.data.toList) w10 HC3.out HF0.out HF1.out HF2.out HF3.out).mono ?_;rintro e w11 ⟨rfl,hb11⟩;have hS11:=(hb11.block _ (ah hS10)).trans hS10;refine hK _ _ (fun _ _=>hS11) ?_;clear hK K;try simp only[Act.put,It,Is,Ir,Iq,Iu,Iv]
    have HC4:=Ip (HC3.out.below hb11);have s4:=(hb11.block _ (ah s3)).trans s3;have HB4:=LK HB3 hb11;clear HC3 s3 HB3 hS10 hb11;obtain⟨bb,hbb⟩:∃ bb,bb=(dt (aW s.data.toList).x||dt (aW s.data.toList).y):=⟨_,rfl⟩;rw[<-hbb];have HBB:=Ip hbb;clear hbb;refine bY (i:=8) (v:=?vvDB) rfl (by kernel_rfl) (fun _ _ _ h=>h) (by rfl) hS11 ?hyDB ?restDB
    case hyDB =>
     intro wy hy;go_simp;try with_reducible rfl
    refine LJ 9 (r:=?_)
    try simp only[Act.put,It,Is,Ir,Iq,Iu,Iv]
    have hP:j6 w11 (fy w11 w.heap.size (.bool m0) (.slice a0 n0 c0) (.bool false) (.slice a1 n1 c1) (.bool m2) (.slice b0 l0 i0) (.bool false) (.slice b1 l1 i1)) w.heap.size _ #[.bool m0,.slice a0 n0 c0,.bool false,.slice a1 n1 c1,.bool m2,.slice b0 l0 i0,.bool false,.slice b1 l1 i1]:=eP s4;have hZ:Hid (IsC (fy w11 w.heap.size (.bool m0) (.slice a0 n0 c0) (.bool false) (.slice a1 n1 c1) (.bool m2) (.slice b0 l0 i0) (.bool false) (.slice b1 l1 i1)) (.agg #[.bool m0,.slice a0 n0 c0,.bool false,.slice a1 n1 c1,.bool m2,.slice b0 l0 i0,.bool false,.slice b1 l1 i1]) (aW s.data.toList)):=HC4.out.puts hP s4 fF;have hB:=HB4.trans (hP.below w.heap.size (by omega));have q0:=af s4 0;have q1:=af s4 1;have q2:=af s4 2;have q3:=af s4 3;have q4:=af s4 4;have q5:=af s4 5;have q6:=af s4 6;have q7:=af s4 7;have f0:=LL w11 w.heap.size 0 _ _ s4;have f1:=LL w11 w.heap.size 1 _ _ s4;have f2:=LL w11 w.heap.size 2 _ _ s4;have f3:=LL w11 w.heap.size 3 _ _ s4;have f4:=LL w11 w.heap.size 4 _ _ s4;have f5:=LL w11 w.heap.size 5 _ _ s4;have f6:=LL w11 w.heap.size 6 _ _ s4;have f7:=LL w11 w.heap.size 7 _ _ s4;clear HC4 HB4 hS11;refine ar (i:=10) rfl (by kernel_rfl) rfl (fun K hK=>?_);go_simp;change K _ (fy w11 w.heap.size (.bool m0) (.slice a0 n0 c0) (.bool false) (.slice a1 n1 c1) (.bool m2) (.slice b0 l0 i0) (.bool false) (.slice b1 l1 i1));refine hK _ _ (fun _ hs=>(hP.other _ (KS HG7)).trans hs) ?_
    clear hK K q0 f0 q1 f1 q2 f2 q3 f3 q4 f4 q5 f5 q6 f6 q7 f7;refine LJ 11 (r:=?_)
    try simp only[Act.put,It,Is,Ir,Iq,Iu,Iv]
    try simp only[Act.put,It,Is,Ir,Iq,Iu,Iv]
    refine aF (by kernel_rfl) ?_ _;simp only[aP];go_wp2_with fail
    (try simp only[Exit.inBlock,Exit.then])
    refine LM (aJ rfl _ _ w.heap.size _ _ (0,0) _ rfl hP.row Tryz.underlying80 rfl (by kernel_rfl)) rfl ?_;exact⟨_,by unfold rOK;rw[<-HBT.out,<-HBB.out];rfl,hZ.out,hB⟩
end Go.Proofs.YtlhpcoelfhjomaaGreatDoor
