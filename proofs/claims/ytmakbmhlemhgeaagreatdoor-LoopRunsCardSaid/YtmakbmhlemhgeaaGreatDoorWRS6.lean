/- L -/
import Derived.Test.YtmakbmhlemhgeaaGreatDoorWReg
import Derived.Test.YtmakbmhlemhgeaaGreatDoorWNC4
import Derived.Test.YtmakbmhlemhgeaaGreatDoorWRQ6
import Derived.Test.YtmakbmhlemhgeaaGreatDoorWPM2
import Derived.Test.YtmakbmhlemhgeaaGreatDoorWRS5
import Derived.Test.YtmakbmhlemhgeaaGreatDoorWLH1
import Derived.Test.YtmakbmhlemhgeaaGreatDoorWB
set_option linter.all false
set_option maxRecDepth 100000
set_option maxHeartbeats 8000000
namespace Go.Proofs.YtmakbmhlemhgeaaGreatDoor
open Go.RowKit Dg Dc
theorem su (x y:Int):decide (d_ x y<=0)=decide (x<=y):=by
 unfold d_;rw[decide_eq_decide]
 split
 ·omega
 ·split<;>omega
theorem wE (m:Bool) (n d:Nat):((decide (sgn m n<=4096)&&decide (-(sgn m n)<=4096))&&decide ((d:Int)<=4096))=(decide (n<=4096)&&decide (d<=4096)):=by
 unfold sgn;rw[IY]
 cases m<;>simp<;>omega
theorem nV:bC 4096:=by
 unfold bC;have:=a_ aQ (n:=4096) (k:=1) (by unfold RR;omega);omega
theorem o8 (v:Value) (r:Rt) (w:World) (hv:bV w v r) (hc:r.minus=true->r.n≠0) (hfn:bC r.n) (hfd:bC r.d) :
  Calls Tryz.prog 101 #[v] w fun e w'=>e=.returned (.bool (dR r))/\Below w.heap.size w w':=by
 obtain⟨p,N,c,p',N',c',rfl,hN,hNc,hcm,hN',hNc',hcm',hdn,hdd⟩:=hv.parts;obtain⟨m,n,d⟩:=r;simp only at *
 have hl:=bA w (.cells #[.bool m,.slice p N c,.bool false,.slice p' N' c'] 87);have HN:=GF ((vL (m:=m) hdn hc).below hl.below);have HD:=GF ((js hdd).below hl.below);have hr0:=hl.s0;have HB:=hl.below;have HR:Hid (((decide (sgn m n<=4096)&&decide (-(sgn m n)<=4096))&&decide ((d:Int)<=4096))=dR ⟨m,n,d⟩):=wE m n d;have HFN:Hid (bC (sgn m n).natAbs):=by unfold Hid;rw[iu];exact hfn
 have HFN2:Hid (bC (-(sgn m n)).natAbs):=by unfold Hid;rw[Jg,iu];exact hfn
 have HFD:Hid (bC (d:Int).natAbs):=by unfold Hid;rw[Hs];exact hfd
 clear hv hl hdn hdd hc hfn hfd;go_enter Tryz.func101,Tryz.ntmps101;go_upto_region 1 with fail
 generalize w.alloc (.cells #[.bool m,.slice p N c,.bool false,.slice p' N' c'] 87)=w1 at *
 go_wp2_with fail
 refine (jG 4096 (by omega) w1).mono ?_;rintro e w2 ⟨v2,rfl,hz2,hb2⟩;obtain⟨p2,N2,c2,rfl,hN2,hNc2,hcm2,hd2⟩:=hz2.nat;have hl2:=bA w2 (.cells #[.bool false,.slice p2 N2 c2] 85);have hb3:=hb2.trans (hl2.below.mono hb2.size);have hr1:=(hb3.block _ (ak hr0)).trans hr0;have HB3:=HB.trans (hb3.mono HB.size);have HN3:=GF (HN.out.below hb3);have HD3:=GF (HD.out.below hb3);have HM3:=GF ((js hd2).below hl2.below);have hr3:=hl2.s0;clear hl2 hb2 hb3 hz2 hd2 hr0 HB HN HD;go_upto_region 2 with fail
 generalize w2.alloc (.cells #[.bool false,.slice p2 N2 c2] 85)=w3 at *
 generalize w2.heap.size=g3 at *
 have hbd:Below w3.heap.size w3 w3.drew:=(Ki _ _).drew;have hS:(fun wx:World=>wx.heap[w.heap.size]?=some (.cells #[.bool m,.slice p N c,.bool false,.slice p' N' c'] 87 (0,0))/\wx.heap[g3]?=some (.cells #[.bool false,.slice p2 N2 c2] 85 (0,0))) w3.drew:=⟨(hbd.block _ (ak hr1)).trans hr1,(hbd.block _ (ak hr3)).trans hr3⟩;have HB:=HB3.trans (hbd.mono HB3.size);have HN:=GF (HN3.out.below hbd);have HD:=GF (HD3.out.below hbd);have HM:=GF (HM3.out.below hbd);refine wp_mono (aD (Q:=aX _) (fun wx:World=>wx.heap[w.heap.size]?=some (.cells #[.bool m,.slice p N c,.bool false,.slice p' N' c'] 87 (0,0))/\wx.heap[g3]?=some (.cells #[.bool false,.slice p2 N2 c2] 85 (0,0))) (fun _=>false) (by kernel_rfl) ?_) (fun _ _ _ h=>bf h);clear hbd hr1 hr3 HB3 HN3 HD3 HM3;generalize w3.drew=w4 at *
 refine Kf 0 (r:=?_)
 try simp only[Act.put,GJ,GI,GH,GG,GL,GK]
 refine aE (i:=1) (v:=?vvA1) rfl (by kernel_rfl) (fun _ _ _ h=>h) (by rfl) hS ?hyA1 ?restA1
 case hyA1 =>
  intro wy hy;have q0:=ai hy.1 0;have q1:=ai hy.1 1;have q2:=ai hy.1 2;have q3:=ai hy.1 3;have e0:=ai hy.2 0;have e1:=ai hy.2 1;clear hy;go_simp;try with_reducible rfl
 try simp only[Act.put,GJ,GI,GH,GG,GL,GK]
 refine aE (i:=2) (v:=?vvA2) rfl (by kernel_rfl) (fun _ _ _ h=>h) (by rfl) hS ?hyA2 ?restA2
 case hyA2 =>
  intro wy hy;have q0:=ai hy.1 0;have q1:=ai hy.1 1;have q2:=ai hy.1 2;have q3:=ai hy.1 3;have e0:=ai hy.2 0;have e1:=ai hy.2 1;clear hy;go_simp;try with_reducible rfl
 try simp only[Act.put,GJ,GI,GH,GG,GL,GK]
 refine aA (i:=3) rfl (by kernel_rfl) rfl (fun K hK=>?_);go_simp;refine (pE _ _ _ _ w4 HN.out HM.out (GN HFN.out (by omega)) (GN nV (by omega))).mono ?_;rintro e w5 ⟨rfl,hb5⟩;have hS':=And.intro ((hb5.block _ (ak hS.1)).trans hS.1) ((hb5.block _ (ak hS.2)).trans hS.2);refine hK _ _ (fun _ _=>hS') ?_;clear hK K;try simp only[Act.put,GJ,GI,GH,GG,GL,GK]
 replace HB:=HB.trans (hb5.mono HB.size);have HN':=GF (HN.out.below hb5);have HD':=GF (HD.out.below hb5);have HM':=GF (HM.out.below hb5);clear hS HN HD HM;have hS:=hS';have HN:=HN';have HD:=HD';have HM:=HM';clear hS' HN' HD' HM';clear hb5;have hc1:=su (sgn m n) (4096:Nat);obtain⟨z1,hz1⟩:∃ z,z=d_ (sgn m n) (4096:Nat):=⟨_,rfl⟩;rw[<-hz1] at hc1 |-;clear hz1;obtain⟨b1,hb1⟩:∃ b,b=decide (sgn m n<=4096):=⟨_,rfl⟩;rw[show decide (sgn m n<=((4096:Nat):Int))=b1 from hb1.symm] at hc1;rw[<-hb1] at HR;clear hb1
 cases b1
 ·refine Kf 4 (r:=?_)
  try simp only[Act.put,GJ,GI,GH,GG,GL,GK]
  refine Kf 5 (r:=?_)
  try simp only[Act.put,GJ,GI,GH,GG,GL,GK]
  refine bB (i:=6) rfl (by kernel_rfl) (fun _ _ _ h=>h) (by rfl) ?_;try simp only[Act.put,GJ,GI,GH,GG,GL,GK]
  refine bB (i:=7) rfl (by kernel_rfl) (fun _ _ _ h=>h) (by rfl) ?_;try simp only[Act.put,GJ,GI,GH,GG,GL,GK]
  refine bB (i:=8) rfl (by kernel_rfl) (fun _ _ _ h=>h) (by rfl) ?_;try simp only[Act.put,GJ,GI,GH,GG,GL,GK]
  refine bB (i:=9) rfl (by kernel_rfl) (fun _ _ _ h=>h) (by rfl) ?_;try simp only[Act.put,GJ,GI,GH,GG,GL,GK]
  refine bB (i:=10) rfl (by kernel_rfl) (fun _ _ _ h=>h) (by rfl) ?_;try simp only[Act.put,GJ,GI,GH,GG,GL,GK]
  refine bB (i:=11) rfl (by kernel_rfl) (fun _ _ _ h=>h) (by rfl) ?_;try simp only[Act.put,GJ,GI,GH,GG,GL,GK]
  refine Kf 12 (r:=?_)
  try simp only[Act.put,GJ,GI,GH,GG,GL,GK]
  refine Kf 13 (r:=?_)
  try simp only[Act.put,GJ,GI,GH,GG,GL,GK]
  refine bB (i:=14) rfl (by kernel_rfl) (fun _ _ _ h=>h) (by rfl) ?_;try simp only[Act.put,GJ,GI,GH,GG,GL,GK]
  refine bB (i:=15) rfl (by kernel_rfl) (fun _ _ _ h=>h) (by rfl) ?_;try simp only[Act.put,GJ,GI,GH,GG,GL,GK]
  refine bB (i:=16) rfl (by kernel_rfl) (fun _ _ _ h=>h) (by rfl) ?_;try simp only[Act.put,GJ,GI,GH,GG,GL,GK]
  refine bB (i:=17) rfl (by kernel_rfl) (fun _ _ _ h=>h) (by rfl) ?_;try simp only[Act.put,GJ,GI,GH,GG,GL,GK]
  refine bB (i:=18) rfl (by kernel_rfl) (fun _ _ _ h=>h) (by rfl) ?_;try simp only[Act.put,GJ,GI,GH,GG,GL,GK]
  refine Kf 19 (r:=?_)
  try simp only[Act.put,GJ,GI,GH,GG,GL,GK]
  refine Kf 20 (r:=?_)
  try simp only[Act.put,GJ,GI,GH,GG,GL,GK]
  try simp only[Act.put,GJ,GI,GH,GG,GL,GK]
  refine aK (by kernel_rfl) ?_ _;simp only[aX];go_wp2_with fail
  go_ret;refine⟨?_,HB⟩;rw[<-HR.out];rfl
 ·refine Kf 4 (r:=?_)
  try simp only[Act.put,GJ,GI,GH,GG,GL,GK]
  refine Kf 5 (r:=?_)
  try simp only[Act.put,GJ,GI,GH,GG,GL,GK]
  refine cO (i:=6) (v:=?vvB1) rfl (by kernel_rfl) (fun _ _ _ h=>h) (by rfl) hS ?hyB1 ?restB1
  case hyB1 =>
   intro wy hy;have q0:=ai hy.1 0;have q1:=ai hy.1 1;have q2:=ai hy.1 2;have q3:=ai hy.1 3;have e0:=ai hy.2 0;have e1:=ai hy.2 1;clear hy;go_simp;try with_reducible rfl
  try simp only[Act.put,GJ,GI,GH,GG,GL,GK]
  refine cO (i:=7) (v:=?vvB2) rfl (by kernel_rfl) (fun _ _ _ h=>h) (by rfl) hS ?hyB2 ?restB2
  case hyB2 =>
   intro wy hy;have q0:=ai hy.1 0;have q1:=ai hy.1 1;have q2:=ai hy.1 2;have q3:=ai hy.1 3;have e0:=ai hy.2 0;have e1:=ai hy.2 1;clear hy;go_simp;try with_reducible rfl
  try simp only[Act.put,GJ,GI,GH,GG,GL,GK]
  refine cO (i:=9) (v:=?vvB3) rfl (by kernel_rfl) (fun _ _ _ h=>h) (by rfl) hS ?hyB3 ?restB3
  case hyB3 =>
   intro wy hy;have q0:=ai hy.1 0;have q1:=ai hy.1 1;have q2:=ai hy.1 2;have q3:=ai hy.1 3;have e0:=ai hy.2 0;have e1:=ai hy.2 1;clear hy;go_simp;try with_reducible rfl
  try simp only[Act.put,GJ,GI,GH,GG,GL,GK]
  refine jc (i:=8) rfl (by kernel_rfl) (by rfl) (fun K hK=>?_);go_simp;refine (ji _ _ w5 HN.out).mono ?_;rintro e w6 ⟨v6,rfl,hz6,hb6⟩;obtain⟨p6,N6,c6,rfl,hN6,hNc6,hcm6,hd6⟩:=hz6.parts;generalize decide (-sgn m n<0)=m6 at *
  clear hd6;have hS':=And.intro ((hb6.block _ (ak hS.1)).trans hS.1) ((hb6.block _ (ak hS.2)).trans hS.2);refine hK _ _ (fun _ _=>hS') ?_;clear hK K;try simp only[Act.put,GJ,GI,GH,GG,GL,GK]
  replace HB:=HB.trans (hb6.mono HB.size);have HN':=GF (HN.out.below hb6);have HD':=GF (HD.out.below hb6);have HM':=GF (HM.out.below hb6);clear hS HN HD HM;have hS:=hS';have HN:=HN';have HD:=HD';have HM:=HM';clear hS' HN' HD' HM';have HZ6:=GF hz6;clear hb6 hz6;refine jc (i:=10) rfl (by kernel_rfl) (by rfl) (fun K hK=>?_);go_simp;refine (pE _ _ _ _ w6 HZ6.out HM.out (GN HFN2.out (by omega)) (GN nV (by omega))).mono ?_;rintro e w7 ⟨rfl,hb7⟩;have hS':=And.intro ((hb7.block _ (ak hS.1)).trans hS.1) ((hb7.block _ (ak hS.2)).trans hS.2);refine hK _ _ (fun _ _=>hS') ?_;clear hK K;try simp only[Act.put,GJ,GI,GH,GG,GL,GK]
  replace HB:=HB.trans (hb7.mono HB.size);have HN':=GF (HN.out.below hb7);have HD':=GF (HD.out.below hb7);have HM':=GF (HM.out.below hb7);clear hS HN HD HM;have hS:=hS';have HN:=HN';have HD:=HD';have HM:=HM';clear hS' HN' HD' HM';clear hb7 HZ6 hc1;have hc2:=su (-(sgn m n)) (4096:Nat);obtain⟨z2,hz2⟩:∃ z,z=d_ (-(sgn m n)) (4096:Nat):=⟨_,rfl⟩;rw[<-hz2] at hc2 |-;clear hz2;obtain⟨b2,hb2⟩:∃ b,b=decide (-(sgn m n)<=4096):=⟨_,rfl⟩;rw[show decide (-(sgn m n)<=((4096:Nat):Int))=b2 from hb2.symm] at hc2;rw[<-hb2] at HR;clear hb2
  cases b2
  ·refine cO (i:=11) (v:=?vvC1) rfl (by kernel_rfl) (fun _ _ _ h=>h) (by rfl) hS ?hyC1 ?restC1
   case hyC1 =>
    intro wy hy;have q0:=ai hy.1 0;have q1:=ai hy.1 1;have q2:=ai hy.1 2;have q3:=ai hy.1 3;have e0:=ai hy.2 0;have e1:=ai hy.2 1;clear hy;go_simp;try with_reducible rfl
   try simp only[Act.put,GJ,GI,GH,GG,GL,GK]
   refine Kf 12 (r:=?_)
   try simp only[Act.put,GJ,GI,GH,GG,GL,GK]
   refine Kf 13 (r:=?_)
   try simp only[Act.put,GJ,GI,GH,GG,GL,GK]
   refine bB (i:=14) rfl (by kernel_rfl) (fun _ _ _ h=>h) (by rfl) ?_;try simp only[Act.put,GJ,GI,GH,GG,GL,GK]
   refine bB (i:=15) rfl (by kernel_rfl) (fun _ _ _ h=>h) (by rfl) ?_;try simp only[Act.put,GJ,GI,GH,GG,GL,GK]
   refine bB (i:=16) rfl (by kernel_rfl) (fun _ _ _ h=>h) (by rfl) ?_;try simp only[Act.put,GJ,GI,GH,GG,GL,GK]
   refine bB (i:=17) rfl (by kernel_rfl) (fun _ _ _ h=>h) (by rfl) ?_;try simp only[Act.put,GJ,GI,GH,GG,GL,GK]
   refine bB (i:=18) rfl (by kernel_rfl) (fun _ _ _ h=>h) (by rfl) ?_;try simp only[Act.put,GJ,GI,GH,GG,GL,GK]
   refine Kf 19 (r:=?_)
   try simp only[Act.put,GJ,GI,GH,GG,GL,GK]
   refine Kf 20 (r:=?_)
   try simp only[Act.put,GJ,GI,GH,GG,GL,GK]
   try simp only[Act.put,GJ,GI,GH,GG,GL,GK]
   refine aK (by kernel_rfl) ?_ _;simp only[aX];go_wp2_with fail
   go_ret;refine⟨?_,HB⟩;rw[<-HR.out];rfl
  ·refine cO (i:=11) (v:=?vvD1) rfl (by kernel_rfl) (fun _ _ _ h=>h) (by rfl) hS ?hyD1 ?restD1
   case hyD1 =>
    intro wy hy;have q0:=ai hy.1 0;have q1:=ai hy.1 1;have q2:=ai hy.1 2;have q3:=ai hy.1 3;have e0:=ai hy.2 0;have e1:=ai hy.2 1;clear hy;go_simp;try with_reducible rfl
   try simp only[Act.put,GJ,GI,GH,GG,GL,GK]
   refine Kf 12 (r:=?_)
   try simp only[Act.put,GJ,GI,GH,GG,GL,GK]
   refine Kf 13 (r:=?_)
   try simp only[Act.put,GJ,GI,GH,GG,GL,GK]
   refine cO (i:=14) (v:=?vvD2) rfl (by kernel_rfl) (fun _ _ _ h=>h) (by rfl) hS ?hyD2 ?restD2
   case hyD2 =>
    intro wy hy;have q0:=ai hy.1 0;have q1:=ai hy.1 1;have q2:=ai hy.1 2;have q3:=ai hy.1 3;have e0:=ai hy.2 0;have e1:=ai hy.2 1;clear hy;go_simp;try with_reducible rfl
   try simp only[Act.put,GJ,GI,GH,GG,GL,GK]
   refine cO (i:=15) (v:=?vvD3) rfl (by kernel_rfl) (fun _ _ _ h=>h) (by rfl) hS ?hyD3 ?restD3
   case hyD3 =>
    intro wy hy;have q0:=ai hy.1 0;have q1:=ai hy.1 1;have q2:=ai hy.1 2;have q3:=ai hy.1 3;have e0:=ai hy.2 0;have e1:=ai hy.2 1;clear hy;go_simp;try with_reducible rfl
   try simp only[Act.put,GJ,GI,GH,GG,GL,GK]
   refine cO (i:=16) (v:=?vvD4) rfl (by kernel_rfl) (fun _ _ _ h=>h) (by rfl) hS ?hyD4 ?restD4
   case hyD4 =>
    intro wy hy;have q0:=ai hy.1 0;have q1:=ai hy.1 1;have q2:=ai hy.1 2;have q3:=ai hy.1 3;have e0:=ai hy.2 0;have e1:=ai hy.2 1;clear hy;go_simp;try with_reducible rfl
   try simp only[Act.put,GJ,GI,GH,GG,GL,GK]
   refine jc (i:=17) rfl (by kernel_rfl) (by rfl) (fun K hK=>?_);go_simp;refine (pE _ _ _ _ w7 HD.out HM.out (GN HFD.out (by omega)) (GN nV (by omega))).mono ?_;rintro e w8 ⟨rfl,hb8⟩;have hS':=And.intro ((hb8.block _ (ak hS.1)).trans hS.1) ((hb8.block _ (ak hS.2)).trans hS.2);refine hK _ _ (fun _ _=>hS') ?_;clear hK K;try simp only[Act.put,GJ,GI,GH,GG,GL,GK]
   replace HB:=HB.trans (hb8.mono HB.size);have HN':=GF (HN.out.below hb8);have HD':=GF (HD.out.below hb8);have HM':=GF (HM.out.below hb8);clear hS HN HD HM;have hS:=hS';have HN:=HN';have HD:=HD';have HM:=HM';clear hS' HN' HD' HM';clear hb8 hc2;have hc3:=su (d:Int) (4096:Nat);obtain⟨z3,hz3⟩:∃ z,z=d_ (d:Int) (4096:Nat):=⟨_,rfl⟩;rw[<-hz3] at hc3 |-;clear hz3;obtain⟨b3,hb3⟩:∃ b,b=decide ((d:Int)<=4096):=⟨_,rfl⟩;rw[show decide ((d:Int)<=((4096:Nat):Int))=b3 from hb3.symm] at hc3;rw[<-hb3] at HR;clear hb3;refine cO (i:=18) (v:=?vvD5) rfl (by kernel_rfl) (fun _ _ _ h=>h) (by rfl) hS ?hyD5 ?restD5
   case hyD5 =>
    intro wy hy;have q0:=ai hy.1 0;have q1:=ai hy.1 1;have q2:=ai hy.1 2;have q3:=ai hy.1 3;have e0:=ai hy.2 0;have e1:=ai hy.2 1;clear hy;go_simp;try with_reducible rfl
   try simp only[Act.put,GJ,GI,GH,GG,GL,GK]
   refine Kf 19 (r:=?_)
   try simp only[Act.put,GJ,GI,GH,GG,GL,GK]
   refine Kf 20 (r:=?_)
   try simp only[Act.put,GJ,GI,GH,GG,GL,GK]
   try simp only[Act.put,GJ,GI,GH,GG,GL,GK]
   refine aK (by kernel_rfl) ?_ _;simp only[aX];go_wp2_with fail
   go_ret;refine⟨?_,HB⟩;rw[<-HR.out];rfl
theorem vM (s:ByteArray) (w:World) :
  Calls Tryz.prog 143 #[.string s] w fun e w'=>e=.returned (.bool (kS s.data.toList))/\Below w.heap.size w w':=by
 go_enter Tryz.func143,Tryz.ntmps143;go_wp2_with fail
 refine (lD s w).mono ?_;rintro e w2 ⟨v2,rfl,hz2,hb2⟩;obtain⟨p0,k0,d0,p1,k1,d1,p2,k2,d2,p3,k3,d3,rfl,_,_⟩:=hz2.parts;generalize (aV s.data.toList).x.minus=m0 at *
 generalize (aV s.data.toList).y.minus=m1 at *
 have HR:Hid (kS s.data.toList=(rOK s.data.toList&&decide ((aV s.data.toList).y.n=0))):=rfl;generalize rOK s.data.toList=ok at HR |-;have hl2:=bA w2 (.cells #[.bool m0,.slice p0 k0 d0,.bool false,.slice p1 k1 d1,.bool m1,.slice p2 k2 d2,.bool false,.slice p3 k3 d3] 92);have hb3:=hb2.trans (hl2.below.mono hb2.size);have HC:=GF (hz2.below hl2.below);have r0:=hl2.s0;clear hl2 hb2 hz2;go_upto_region 2 with fail
 generalize w2.alloc (.cells #[.bool m0,.slice p0 k0 d0,.bool false,.slice p1 k1 d1,.bool m1,.slice p2 k2 d2,.bool false,.slice p3 k3 d3] 92)=w3 at *
 cases ok
 ·go_wp2_with fail
  go_ret;exact⟨by rw[HR.out];rfl,hb3⟩
 ·have q0:=ai r0 0;have q1:=ai r0 1;have q2:=ai r0 2;have q3:=ai r0 3;have q4:=ai r0 4;have q5:=ai r0 5;have q6:=ai r0 6;have q7:=ai r0 7;go_wp2_with fail
  refine (yU _ (aV s.data.toList) w3 HC.out).mono ?_;rintro e w4 ⟨rfl,hb4⟩;have HEND:=hb3.trans (hb4.mono hb3.size);go_wp2_with fail
  go_ret;exact⟨by rw[HR.out];rfl,HEND⟩
theorem IsC.two {w:World}{m m':Bool}{p0 p1 p2 p3:Option Addr}{n0 c0 n1 c1 n2 c2 n3 c3:Nat}{z:Vl} (h:IsC w (.agg #[.bool m,.slice p0 n0 c0,.bool false,.slice p1 n1 c1,.bool m',.slice p2 n2 c2,.bool false,.slice p3 n3 c3]) z) :
  bV w (.agg #[.bool m,.slice p0 n0 c0,.bool false,.slice p1 n1 c1]) z.x/\bV w (.agg #[.bool m',.slice p2 n2 c2,.bool false,.slice p3 n3 c3]) z.y:=by
 obtain⟨a,b,c,d,e,h1,h2,h3,h4⟩:=h;simp only[Value.agg.injEq,Array.mk.injEq,List.cons.injEq,and_true,true_and] at e;obtain⟨rfl',rfl,rfl,rfl'',rfl,rfl⟩:=e;exact⟨⟨_,_,by rw[rfl'],h1,h2⟩,⟨_,_,by rw[rfl''],h3,h4⟩⟩
theorem qN (s:ByteArray) (w:World) :
  Calls Tryz.prog 51 #[.string s] w fun e w'=>e=.returned (.bool (rOK s.data.toList&&dR (aV s.data.toList).x&&dR (aV s.data.toList).y))/\Below w.heap.size w w':=by
 have HCX:=GF (gG s.data.toList).1.sign;have HCY:=GF (gG s.data.toList).2.sign;have HFX:=GF (iG s.data.toList).1;have HFY:=GF (iG s.data.toList).2;go_enter Tryz.func51,Tryz.ntmps51;go_wp2_with fail
 refine (lD s w).mono ?_;rintro e w2 ⟨v2,rfl,hz2,hb2⟩;obtain⟨p0,k0,d0,p1,k1,d1,p2,k2,d2,p3,k3,d3,rfl,_,_⟩:=hz2.parts;generalize (aV s.data.toList).x.minus=m0 at hz2 |-;generalize (aV s.data.toList).y.minus=m1 at hz2 |-;obtain⟨ok,hok⟩:∃ b,b=rOK s.data.toList:=⟨_,rfl⟩;obtain⟨b0,hb0⟩:∃ b,b=dR (aV s.data.toList).x:=⟨_,rfl⟩;obtain⟨b1,hb1⟩:∃ b,b=dR (aV s.data.toList).y:=⟨_,rfl⟩;rw[<-hok];have HR:Hid ((rOK s.data.toList&&dR (aV s.data.toList).x&&dR (aV s.data.toList).y)=((ok&&b0)&&b1)):=by unfold Hid;rw[hok,hb0,hb1]
 have B0:=GF hb0;have B1:=GF hb1;clear hok hb0 hb1;have hl2:=bA w2 (.cells #[.bool m0,.slice p0 k0 d0,.bool false,.slice p1 k1 d1,.bool m1,.slice p2 k2 d2,.bool false,.slice p3 k3 d3] 92);have hb3:=hb2.trans (hl2.below.mono hb2.size);have HC:=GF (hz2.below hl2.below);have r0:=hl2.s0;clear hl2 hb2 hz2;go_upto_region 2 with fail
 generalize w2.alloc (.cells #[.bool m0,.slice p0 k0 d0,.bool false,.slice p1 k1 d1,.bool m1,.slice p2 k2 d2,.bool false,.slice p3 k3 d3] 92)=w3 at *
 cases ok
 ·go_wp2_with fail
  go_ret;exact⟨by rw[HR.out];rfl,hb3⟩
 ·have q0:=ai r0 0;have q1:=ai r0 1;have q2:=ai r0 2;have q3:=ai r0 3;go_wp2_with fail
  refine (o8 _ (aV s.data.toList).x w3 HC.out.two.1 HCX.out HFX.out.1 HFX.out.2).mono ?_;rintro e w4 ⟨rfl,hb4⟩;have HB4:=hb3.trans (hb4.mono hb3.size);have r1:=(hb4.block _ (ak r0)).trans r0;have HC4:=GF (HC.out.below hb4);rw[<-B0.out];clear q0 q1 q2 q3 HC r0 hb4
  cases b0
  ·go_wp2_with fail
   go_ret;exact⟨by rw[HR.out];rfl,HB4⟩
  ·have q4:=ai r1 4;have q5:=ai r1 5;have q6:=ai r1 6;have q7:=ai r1 7;go_wp2_with fail
   refine (o8 _ (aV s.data.toList).y w4 HC4.out.two.2 HCY.out HFY.out.1 HFY.out.2).mono ?_;rintro e w5 ⟨rfl,hb5⟩;have HEND:=HB4.trans (hb5.mono HB4.size);rw[<-B1.out];go_wp2_with fail
   go_ret;exact⟨by rw[HR.out];rfl,HEND⟩
theorem AT (s:ByteArray) (w:World) :
  Calls Tryz.prog 88 #[.string s] w fun e w'=>e=.returned (.bool (ce s.data.toList))/\Below w.heap.size w w':=by
 rw[<-DL];have HR:Hid (AS s.data.toList=(kS s.data.toList&&(rOK s.data.toList&&dR (aV s.data.toList).x&&dR (aV s.data.toList).y))):=rfl;go_enter Tryz.func88,Tryz.ntmps88;go_wp2_with fail
 refine (vM s w).mono ?_;rintro e w2 ⟨rfl,hb2⟩;generalize kS s.data.toList=b0 at HR |-
 cases b0
 ·go_wp2_with fail
  go_ret;exact⟨by rw[HR.out];rfl,hb2⟩
 ·go_wp2_with fail
  refine (qN s w2).mono ?_;rintro e w3 ⟨rfl,hb3⟩;have HEND:=hb2.trans (hb3.mono hb2.size);go_wp2_with fail
  go_ret;exact⟨by rw[HR.out];rfl,HEND⟩
open Go.RowKit Dg
theorem x_ (v:Value) (c:CQ) (w:World) (hv:IsC w v (ct c)) (hq:dE c=false) :
  Calls Tryz.prog 58 #[v] w fun e w'=>e=.returned (.tuple #[.string (txt c),.int .i64 0])/\Below w.heap.size w w':=by
 have hq2:b8 (rt c.re)=false/\b8 (rt c.im)=false:=by
  have h:=hq;unfold dE at h;simpa using h
 have h1:=nK hq2.1 (dz _);have h2:=nK hq2.2 (dz _);have F0:=GF (show bC (ct c).x.n from dN h1.n (by decide));have F1:=GF (show bC (ct c).x.d from dN h1.d (by decide));have F2:=GF (show bC (ct c).y.n from dN h2.n (by decide));have F3:=GF (show bC (ct c).y.d from dN h2.d (by decide));have HBG:=GF (show (b8 (ct c).x||b8 (ct c).y)=false from hq);obtain⟨z,hz⟩:∃ z,z=ct c:=⟨_,rfl⟩;have HT:=GF (show (⟨(bE z).toArray⟩:ByteArray)=txt c by rw[hz];rfl);have hdx:0<z.x.d:=by rw[hz];exact dz _
 have hdy:0<z.y.d:=by rw[hz];exact dz _
 rw[<-hz] at hv F0 F1 F2 F3 HBG;clear hz h1 h2 hq2 hq;obtain⟨p0,n0,c0,p1,n1,c1,p2,n2,c2,p3,n3,c3,rfl,_,_⟩:=hv.parts;have hl:=bA w (.cells #[.bool z.x.minus,.slice p0 n0 c0,.bool false,.slice p1 n1 c1,.bool z.y.minus,.slice p2 n2 c2,.bool false,.slice p3 n3 c3] 92);have HC:=GF (hv.below hl.below);have r0:=hl.s0;have M1:=GF hl.below;have q0:=ai r0 0;have q1:=ai r0 1;have q2:=ai r0 2;have q3:=ai r0 3;have q4:=ai r0 4;have q5:=ai r0 5;have q6:=ai r0 6;have q7:=ai r0 7;clear hl hv;generalize z.x.minus=mx at *
 generalize z.y.minus=my at *
 go_enter Tryz.func58,Tryz.ntmps58;go_upto_region 1 with fail
 generalize w.alloc (.cells #[.bool mx,.slice p0 n0 c0,.bool false,.slice p1 n1 c1,.bool my,.slice p2 n2 c2,.bool false,.slice p3 n3 c3] 92)=w1 at *
 go_wp2_with fail
 refine (nh _ z w1 HC.out F0.out F1.out F2.out F3.out).mono ?_;rintro e w2 ⟨rfl,hb⟩;rw[HBG.out];have r0:=(hb.block _ (ak r0)).trans r0;have HC:=GF (HC.out.below hb);have M1:=GF (M1.out.trans (hb.mono M1.out.size));clear hb q0 q1 q2 q3 q4 q5 q6 q7;have q0:=ai r0 0;have q1:=ai r0 1;have q2:=ai r0 2;have q3:=ai r0 3;have q4:=ai r0 4;have q5:=ai r0 5;have q6:=ai r0 6;have q7:=ai r0 7;go_wp2_with fail
 refine (lR _ z w2 HC.out hdx hdy F0.out F1.out F2.out F3.out).mono ?_;rintro e w3 ⟨rfl,hb⟩;have M2:=GF (M1.out.trans (hb.mono M1.out.size));rw[HT.out];clear hb q0 q1 q2 q3 q4 q5 q6 q7 r0;go_wp2_with fail
 refine Kh (v:=.tuple #[.string (txt c),.int .i64 0]) (by simp[results,Tryz.results58,go_sem]) rfl ⟨rfl,M2.out⟩
theorem FP (v:Value) (q:Rat) (w:World) (hv:IsC w v (ct (CQ.real q))) (hq:okQ q) :
  Calls Tryz.prog 58 #[v] w fun e w'=>e=.returned (.tuple #[.string (tq q),.int .i64 0])/\Below w.heap.size w w':=x_ v (CQ.real q) w hv hq
theorem Em (v:Value) (q:Rat) (w:World) (hv:cW w v q) (hq:okQ q) :
  Calls Tryz.prog 89 #[v] w fun e w'=>e=.returned (.string (tq q))/\Below w.heap.size w w':=by
 obtain⟨m,p,N,c,p',N',c',rfl⟩:=hv.forms;have hl:=bA w (.cells #[.bool m,.slice p N c,.bool false,.slice p' N' c'] 87);have HV:=GF (hv.below hl.below);have r0:=hl.s0;have M1:=GF hl.below;have q0:=ai r0 0;have q1:=ai r0 1;have q2:=ai r0 2;have q3:=ai r0 3;clear hl hv;go_enter Tryz.func89,Tryz.ntmps89;go_upto_region 1 with fail
 generalize w.alloc (.cells #[.bool m,.slice p N c,.bool false,.slice p' N' c'] 87)=w1 at *
 go_wp2_with fail
 refine (uj _ (rt q) w1 HV.out).mono ?_;rintro e w2 ⟨v2,rfl,hv2,hb⟩;have M2:=GF (M1.out.trans (hb.mono M1.out.size));clear hb q0 q1 q2 q3
 have hv2:IsC w2 v2 (ct (CQ.real q)):=by
  have e:(⟨rt q,⟨false,0,1⟩⟩:Vl)=ct (CQ.real q):=by
   show _=(⟨rt q,rt 0⟩:Vl)
   rw[dU]
  rw[<-e];exact hv2
 go_wp2_with fail
 refine (FP v2 q w2 hv2 hq).mono ?_;rintro e w3 ⟨rfl,hb⟩;go_wp2_with fail
 refine Kh (v:=.string (tq q)) (by simp[results,Tryz.results89,go_sem]) rfl ⟨rfl,M2.out.trans (hb.mono M2.out.size)⟩
theorem xY {q:Rat} (h:okQ q):aV (tq q).data.toList=ct (CQ.real q):=by
 have e:(tq q).data.toList=aJ (rt q):=by
  show bE (ct (CQ.real q))=_
  rw[cz (z:=ct (CQ.real q)) (by show (rt 0).n=0;rw[dU])];rfl
 rw[e,jz (jm q) ((gC q).1 h)]
 show (⟨rt q,fv⟩:Vl)=⟨rt q,rt 0⟩
 rw[dU];rfl
theorem El (q:Rat) (w:World) (hq:okQ q) :
  Calls Tryz.prog 93 #[.string (tq q)] w fun e w'=>∃ v,e=.returned v/\cW w' v q/\Below w.heap.size w w':=by
 have HR:=GF (xY hq);obtain⟨s,hs⟩:∃ s,s=tq q:=⟨_,rfl⟩;rw[<-hs] at HR |-;clear hs;have hl:=bA w (.cells #[.bool false,.slice none 0 0,.bool false,.slice none 0 0] 87);have s0:=hl.s0;have M1:=GF hl.below;clear hl;go_enter Tryz.func93,Tryz.ntmps93;go_upto_region 1 with fail
 generalize w.alloc (.cells #[.bool false,.slice none 0 0,.bool false,.slice none 0 0] 87)=w1 at *
 go_wp2_with fail
 refine (lD s w1).mono ?_;rintro e w2 ⟨v2,rfl,hv2,hb⟩;rw[HR.out] at hv2;obtain⟨p0,n0,c0,p1,n1,c1,p2,n2,c2,p3,n3,c3,rfl,_,_⟩:=hv2.parts;obtain⟨D0,D1,-,-⟩:=hv2.dig;have HQ:=GF (show cW w2 (.agg #[.bool (ct (CQ.real q)).x.minus,.slice p0 n0 c0,.bool false,.slice p1 n1 c1]) q from⟨_,_,rfl,D0,D1⟩);have s0:=(hb.block _ (ak s0)).trans s0;have M1:=GF (M1.out.trans (hb.mono M1.out.size));generalize (ct (CQ.real q)).x.minus=mx at *
 generalize (ct (CQ.real q)).y.minus=my at *
 clear hv2 D0 D1 hb HR;go_upto_region 2 with fail
 have hl2:=bA w2 (.cells #[.bool mx,.slice p0 n0 c0,.bool false,.slice p1 n1 c1,.bool my,.slice p2 n2 c2,.bool false,.slice p3 n3 c3] 92);generalize w2.alloc (.cells #[.bool mx,.slice p0 n0 c0,.bool false,.slice p1 n1 c1,.bool my,.slice p2 n2 c2,.bool false,.slice p3 n3 c3] 92)=w3 at *
 have e0:=ai hl2.s0 0;have e1:=ai hl2.s0 1;have e2:=ai hl2.s0 2;have e3:=ai hl2.s0 3;have u2:=(hl2.below.block _ (ak s0)).trans s0;have hP:=bj (u0:=.bool mx) (u1:=.slice p0 n0 c0) (u2:=.bool false) (u3:=.slice p1 n1 c1) u2;have hZ:=GF (bV.puts (HQ.out.below hl2.below) hP u2 bU);have hBF:=GF ((M1.out.trans (hl2.below.mono M1.out.size)).trans (hP.below w.heap.size (GM _)));have q0:=ai u2 0;have q1:=ai u2 1;have q2:=ai u2 2;have q3:=ai u2 3;have f0:=Kg w3 w.heap.size 0 _ _ u2;have f1:=Kg w3 w.heap.size 1 _ _ u2;have f2:=Kg w3 w.heap.size 2 _ _ u2;have f3:=Kg w3 w.heap.size 3 _ _ u2;clear hl2 s0;go_wp2_with fail
 (try simp only[Exit.inBlock,Exit.then])
 change bodyPost _ _ _ _ _ (d7 w3 w.heap.size (.bool mx) (.slice p0 n0 c0) (.bool false) (.slice p1 n1 c1));refine Kh (results_cell_row rfl _ _ w.heap.size _ _ (0,0) _ rfl hP.row Tryz.underlying87 rfl (by kernel_rfl)) rfl ?_;exact⟨_,rfl,hZ.out,hBF.out⟩
theorem rY (v:Value) (qs:List Rat) (w:World) (hl:IsS w v (qs.map tq)) (hq:∀ q∈qs,okQ q) (hlen:qs.length<1000000) :
  Calls Tryz.prog 44 #[v] w fun e w'=>∃ v',e=.returned v'/\ej w' w.heap.size v' qs/\Below w.heap.size w w':=by
 obtain⟨p,c,rfl,hc1,hc2⟩:=hl.form;rw[Hj] at hc1 hl |-;have HL:=GF hl;have HN:=GF hlen;clear hl;go_enter Tryz.func44,Tryz.ntmps44;go_wp2;go_loopw [3,4] (fun s3 s4 wr=>∃ (i:Nat),s4=.int .i64 i/\i<=qs.length/\ej wr w.heap.size s3 (qs.take i)/\Below w.heap.size w wr) (fun _ s4 _=>qs.length-(intOf s4).toNat)
 case atStart=>exact⟨0,rfl,GY _,ej.nil _ _,Ki _ _⟩
 case round =>
  obtain⟨i,rfl,hin,hown,hbr⟩:=hrel;by_cases hi:i<qs.length
  ·obtain⟨b,o,rfl,hlt,hcell⟩:=IsS.get (HL.out.below hbr) (i:=i) (by simpa using hi);rw[Ie] at hcell;have HO:=GF (hq qs[i] (G7 hi));have HT:=GF (GZ hi).symm;obtain⟨q,hqe⟩:∃ q,q=qs[i]:=⟨_,rfl⟩;rw[<-hqe] at hcell HO HT;clear hqe;generalize htx:tq q=s at hcell;have HS:=GF htx;clear htx;go_wp2_with fail
   have hCC:=El q wr HO.out;rw[HS.out] at hCC;refine hCC.mono ?_;rintro e w2 ⟨v2,rfl,hv2,hb2⟩;obtain⟨m,a,N,d,a',N',d',rfl⟩:=hv2.forms;have hB2:=hbr.trans (hb2.mono hbr.size);have hw2:=hown.below hb2;clear hCC hb2 hown hcell hbr;have m1:=au w2 (.cells #[.bool m,.slice a N d,.bool false,.slice a' N' d'] 87);have hcx:=heap_alloc_new w2 (.cells #[.bool m,.slice a N d,.bool false,.slice a' N' d'] 87);have hu3:=hv2.below m1;have hw3:=hw2.below m1;have hB3:=hB2.trans (m1.mono hB2.size);have hbs:=hB3.size;have hzl:(qs.take i).length<1000000000:=by have:=HN.out;simp;omega
   clear hv2 hw2 hB2 m1;go_wp2_with (at_builtin;refine eS 80 Tryz.underlying80 rfl (.tmp 11) (.tmp 17) rfl w.heap.size _ _ m a N d a' N' d' q rfl hw3 _ rfl hcx hu3 hzl hbs ?_)
   intro v' w4 hap;have hB4:=hap.below hw3 hB3 (GM _) hbs;have hw4:=hap.own;rw[<-HT.out] at hw4;clear hap hw3 hu3 hcx hB3 hbs hzl;go_wp2;go_roundw;case rel=>exact⟨i+1,by go_num,by omega,hw4,hB4⟩
   case measure=>simp[intOf];omega
  ·have hin':i=qs.length:=by omega
   subst hin';clear hi;rw[He] at hown;go_wp2;refine Kh (v:=_) (by simp[results,Tryz.results44,go_sem]) rfl ⟨_,rfl,hown,hbr⟩
theorem yf (v:Value) (qs:List Rat) (w:World) (hl:pH w v qs) (hq:∀ q∈qs,okQ q) (hlen:qs.length<1000000) :
  Calls Tryz.prog 42 #[v] w fun e w'=>∃ v',e=.returned v'/\IsS w' v' (qs.map tq)/\Below w.heap.size w w':=by
 obtain⟨p,c,rfl,hc1,hc2⟩:=hl.form;have HL:=GF hl;have HN:=GF hlen;clear hl;go_enter Tryz.func42,Tryz.ntmps42;go_wp2;go_loopw [3,4] (fun s3 s4 wr=>∃ (i:Nat),s4=.int .i64 i/\i<=qs.length/\cR wr w.heap.size s3 ((qs.map tq).take i)/\Below w.heap.size w wr) (fun _ s4 _=>qs.length-(intOf s4).toNat)
 case atStart=>exact⟨0,rfl,GY _,cR.nil _ _,Ki _ _⟩
 case round =>
  obtain⟨i,rfl,hin,hown,hbr⟩:=hrel;by_cases hi:i<qs.length
  ·obtain⟨b,o,rfl,hlt,m,a,N,d,a',N',d',hk,c0,c1,c2,c3⟩:=(HL.out.below hbr).get hi;have HO:=GF (hq qs[i] (G7 hi))
   have HT:=GF (show (qs.map tq).take (i+1)=(qs.map tq).take i++[tq qs[i]] by
    rw[show (qs.map tq).take (i+1)=(qs.map tq).take i++[(qs.map tq)[i]'(by simpa using hi)] from (GZ _).symm,Ie])
   obtain⟨q,hqe⟩:∃ q,q=qs[i]:=⟨_,rfl⟩;rw[<-hqe] at hk HO HT;clear hqe;go_wp2_with fail
   refine (Em _ q wr hk HO.out).mono ?_;rintro e w2 ⟨rfl,hb2⟩;have hB2:=hbr.trans (hb2.mono hbr.size);have hw2:=hown.below hb2;have hbs:=hB2.size;have hzl:((qs.map tq).take i).length<1000000000:=by have:=HN.out;simp;omega
   generalize tq q=s at HT |-;clear hb2 hown hbr hk c0 c1 c2 c3;go_wp2_with (at_builtin;refine bH 29 Tryz.underlying29 rfl (.tmp 11) (.tmp 17) rfl w.heap.size _ _ s rfl hw2 rfl hzl hbs ?_)
   intro v' w3 hw3 hb3;have hB3:=hb3 _ _ hB2 (GM _);rw[<-HT.out] at hw3;clear hb3 hB2 hw2 hbs hzl;go_wp2;go_roundw;case rel=>exact⟨i+1,by go_num,by omega,hw3,hB3⟩
   case measure=>simp[intOf];omega
  ·have hin':i=qs.length:=by omega
   subst hin';clear hi;rw[GU (by simp)] at hown;have hs:=cR.isS hown;go_wp2;refine Kh (v:=_) (by simp[results,Tryz.results42,go_sem]) rfl ⟨_,rfl,hs,hbr⟩
end Go.Proofs.YtmakbmhlemhgeaaGreatDoor
