/- L -/
import Derived.Test.YtlhpcoelfhjomaaGreatDoorQReg
import Derived.Test.YtlhpcoelfhjomaaGreatDoorQNC4
import Derived.Test.YtlhpcoelfhjomaaGreatDoorQRQ5
import Derived.Test.YtlhpcoelfhjomaaGreatDoorQLP10
import Derived.Test.YtlhpcoelfhjomaaGreatDoorQRng2
import Derived.Test.YtlhpcoelfhjomaaGreatDoorQRS5
import Derived.Test.YtlhpcoelfhjomaaGreatDoorQPL3
import Derived.Test.YtlhpcoelfhjomaaGreatDoorQLH1
set_option linter.all false
set_option maxRecDepth 100000
set_option maxHeartbeats 8000000
namespace Go.Proofs.YtlhpcoelfhjomaaGreatDoor
open Go.RowKit Dg Dc
theorem uG (x y:Int):decide (eh x y<=0)=decide (x<=y):=by
 unfold eh;rw[decide_eq_decide]
 split
 ·omega
 ·split<;>omega
theorem yR (m:Bool) (n d:Nat):((decide (sgn m n<=4096)&&decide (-(sgn m n)<=4096))&&decide ((d:Int)<=4096))=(decide (n<=4096)&&decide (d<=4096)):=by
 unfold sgn;rw[Kc]
 cases m<;>simp<;>omega
theorem pN:bu 4096:=by
 unfold bu;have:=aZ aH (n:=4096) (k:=1) (by unfold RR;omega);omega
theorem qU (v:Value) (r:Rt) (w:World) (hv:cW w v r) (hc:r.minus=true->r.n≠0) (hfn:bu r.n) (hfd:bu r.d) :
  Calls Tryz.prog 95 #[v] w fun e w'=>e=.returned (.bool (eV r))/\Below w.heap.size w w':=by
 obtain⟨p,N,c,p',N',c',rfl,hN,hNc,hcm,hN',hNc',hcm',hdn,hdd⟩:=hv.parts;obtain⟨m,n,d⟩:=r;simp only at *
 have hl:=bL w (.cells #[.bool m,.slice p N c,.bool false,.slice p' N' c'] 44);have HN:=Ip ((yh (m:=m) hdn hc).below hl.below);have HD:=Ip ((jF hdd).below hl.below);have hr0:=hl.s0;have HB:=hl.below;have HR:Hid (((decide (sgn m n<=4096)&&decide (-(sgn m n)<=4096))&&decide ((d:Int)<=4096))=eV ⟨m,n,d⟩):=yR m n d;have HFN:Hid (bu (sgn m n).natAbs):=by unfold Hid;rw[iU];exact hfn
 have HFN2:Hid (bu (-(sgn m n)).natAbs):=by unfold Hid;rw[Kt,iU];exact hfn
 have HFD:Hid (bu (d:Int).natAbs):=by unfold Hid;rw[I0];exact hfd
 clear hv hl hdn hdd hc hfn hfd;go_enter Tryz.func95,Tryz.ntmps95;go_upto_region 1 with fail
 generalize w.alloc (.cells #[.bool m,.slice p N c,.bool false,.slice p' N' c'] 44)=w1 at *
 go_wp2_with fail
 refine (jT 4096 (by omega) w1).mono ?_;rintro e w2 ⟨v2,rfl,hz2,hb2⟩;obtain⟨p2,N2,c2,rfl,hN2,hNc2,hcm2,hd2⟩:=hz2.nat;have hl2:=bL w2 (.cells #[.bool false,.slice p2 N2 c2] 42);have hb3:=hb2.trans (hl2.below.mono hb2.size);have hr1:=(hb3.block _ (ah hr0)).trans hr0;have HB3:=LK HB hb3;have HN3:=Ip (HN.out.below hb3);have HD3:=Ip (HD.out.below hb3);have HM3:=Ip ((jF hd2).below hl2.below);have hr3:=hl2.s0;clear hl2 hb2 hb3 hz2 hd2 hr0 HB HN HD;go_upto_region 2 with fail
 generalize w2.alloc (.cells #[.bool false,.slice p2 N2 c2] 42)=w3 at *
 generalize w2.heap.size=g3 at *
 have hbd:Below w3.heap.size w3 w3.drew:=(LN _ _).drew;have hS:(fun wx:World=>wx.heap[w.heap.size]?=some (.cells #[.bool m,.slice p N c,.bool false,.slice p' N' c'] 44 (0,0))/\wx.heap[g3]?=some (.cells #[.bool false,.slice p2 N2 c2] 42 (0,0))) w3.drew:=⟨(hbd.block _ (ah hr1)).trans hr1,(hbd.block _ (ah hr3)).trans hr3⟩;have HB:=LK HB3 hbd;have HN:=Ip (HN3.out.below hbd);have HD:=Ip (HD3.out.below hbd);have HM:=Ip (HM3.out.below hbd);refine wp_mono (ax (Q:=aP _) (fun wx:World=>wx.heap[w.heap.size]?=some (.cells #[.bool m,.slice p N c,.bool false,.slice p' N' c'] 44 (0,0))/\wx.heap[g3]?=some (.cells #[.bool false,.slice p2 N2 c2] 42 (0,0))) (fun _=>false) (by kernel_rfl) ?_) (fun _ _ _ h=>aY h);clear hbd hr1 hr3 HB3 HN3 HD3 HM3;generalize w3.drew=w4 at *
 refine LJ 0 (r:=?_)
 refine ay (i:=1) (v:=?vvA1) rfl (by kernel_rfl) (fun _ _ _ h=>h) (by rfl) hS ?hyA1 ?restA1
 case hyA1 =>
  intro wy hy;have q0:=af hy.1 0;have q1:=af hy.1 1;have q2:=af hy.1 2;have q3:=af hy.1 3;have e0:=af hy.2 0;have e1:=af hy.2 1;clear hy;go_simp;try with_reducible rfl
 refine ay (i:=2) (v:=?vvA2) rfl (by kernel_rfl) (fun _ _ _ h=>h) (by rfl) hS ?hyA2 ?restA2
 case hyA2 =>
  intro wy hy;have q0:=af hy.1 0;have q1:=af hy.1 1;have q2:=af hy.1 2;have q3:=af hy.1 3;have e0:=af hy.2 0;have e1:=af hy.2 1;clear hy;go_simp;try with_reducible rfl
 try simp only[Act.put,It,Is,Ir,Iq,Iu,Iv]
 refine ar (i:=3) rfl (by kernel_rfl) rfl (fun K hK=>?_);go_simp;refine (ng _ _ _ _ w4 HN.out HM.out (Iz HFN.out (by omega)) (Iz pN (by omega))).mono ?_;rintro e w5 ⟨rfl,hb5⟩;have hS':=And.intro ((hb5.block _ (ah hS.1)).trans hS.1) ((hb5.block _ (ah hS.2)).trans hS.2);refine hK _ _ (fun _ _=>hS') ?_;clear hK K;try simp only[Act.put,It,Is,Ir,Iq,Iu,Iv]
 replace HB:=LK HB hb5;have HN':=Ip (HN.out.below hb5);have HD':=Ip (HD.out.below hb5);have HM':=Ip (HM.out.below hb5);clear hS HN HD HM;have hS:=hS';have HN:=HN';have HD:=HD';have HM:=HM';clear hS' HN' HD' HM';clear hb5;have hc1:=uG (sgn m n) (4096:Nat);obtain⟨z1,hz1⟩:∃ z,z=eh (sgn m n) (4096:Nat):=⟨_,rfl⟩;rw[<-hz1] at hc1 |-;clear hz1;obtain⟨b1,hb1⟩:∃ b,b=decide (sgn m n<=4096):=⟨_,rfl⟩;rw[show decide (sgn m n<=((4096:Nat):Int))=b1 from hb1.symm] at hc1;rw[<-hb1] at HR;clear hb1
 cases b1
 ·refine LJ 4 (r:=?_)
  refine LJ 5 (r:=?_)
  try simp only[Act.put,It,Is,Ir,Iq,Iu,Iv]
  refine a6 (i:=6) rfl (by kernel_rfl) (fun _ _ _ h=>h) (by rfl) ?_;try simp only[Act.put,It,Is,Ir,Iq,Iu,Iv]
  refine a6 (i:=7) rfl (by kernel_rfl) (fun _ _ _ h=>h) (by rfl) ?_;try simp only[Act.put,It,Is,Ir,Iq,Iu,Iv]
  refine a6 (i:=8) rfl (by kernel_rfl) (fun _ _ _ h=>h) (by rfl) ?_;try simp only[Act.put,It,Is,Ir,Iq,Iu,Iv]
  refine a6 (i:=9) rfl (by kernel_rfl) (fun _ _ _ h=>h) (by rfl) ?_;try simp only[Act.put,It,Is,Ir,Iq,Iu,Iv]
  refine a6 (i:=10) rfl (by kernel_rfl) (fun _ _ _ h=>h) (by rfl) ?_;try simp only[Act.put,It,Is,Ir,Iq,Iu,Iv]
  refine a6 (i:=11) rfl (by kernel_rfl) (fun _ _ _ h=>h) (by rfl) ?_;refine LJ 12 (r:=?_)
  refine LJ 13 (r:=?_)
  try simp only[Act.put,It,Is,Ir,Iq,Iu,Iv]
  refine a6 (i:=14) rfl (by kernel_rfl) (fun _ _ _ h=>h) (by rfl) ?_;try simp only[Act.put,It,Is,Ir,Iq,Iu,Iv]
  refine a6 (i:=15) rfl (by kernel_rfl) (fun _ _ _ h=>h) (by rfl) ?_;try simp only[Act.put,It,Is,Ir,Iq,Iu,Iv]
  refine a6 (i:=16) rfl (by kernel_rfl) (fun _ _ _ h=>h) (by rfl) ?_;try simp only[Act.put,It,Is,Ir,Iq,Iu,Iv]
  refine a6 (i:=17) rfl (by kernel_rfl) (fun _ _ _ h=>h) (by rfl) ?_;try simp only[Act.put,It,Is,Ir,Iq,Iu,Iv]
  refine a6 (i:=18) rfl (by kernel_rfl) (fun _ _ _ h=>h) (by rfl) ?_;refine LJ 19 (r:=?_)
  refine LJ 20 (r:=?_)
  try simp only[Act.put,It,Is,Ir,Iq,Iu,Iv]
  try simp only[Act.put,It,Is,Ir,Iq,Iu,Iv]
  refine aF (by kernel_rfl) ?_ _;simp only[aP];go_wp2_with fail
  go_ret;refine⟨?_,HB⟩;rw[<-HR.out];rfl
 ·refine LJ 4 (r:=?_)
  refine LJ 5 (r:=?_)
  try simp only[Act.put,It,Is,Ir,Iq,Iu,Iv]
  refine bY (i:=6) (v:=?vvB1) rfl (by kernel_rfl) (fun _ _ _ h=>h) (by rfl) hS ?hyB1 ?restB1
  case hyB1 =>
   intro wy hy;have q0:=af hy.1 0;have q1:=af hy.1 1;have q2:=af hy.1 2;have q3:=af hy.1 3;have e0:=af hy.2 0;have e1:=af hy.2 1;clear hy;go_simp;try with_reducible rfl
  try simp only[Act.put,It,Is,Ir,Iq,Iu,Iv]
  refine bY (i:=7) (v:=?vvB2) rfl (by kernel_rfl) (fun _ _ _ h=>h) (by rfl) hS ?hyB2 ?restB2
  case hyB2 =>
   intro wy hy;have q0:=af hy.1 0;have q1:=af hy.1 1;have q2:=af hy.1 2;have q3:=af hy.1 3;have e0:=af hy.2 0;have e1:=af hy.2 1;clear hy;go_simp;try with_reducible rfl
  try simp only[Act.put,It,Is,Ir,Iq,Iu,Iv]
  refine bY (i:=9) (v:=?vvB3) rfl (by kernel_rfl) (fun _ _ _ h=>h) (by rfl) hS ?hyB3 ?restB3
  case hyB3 =>
   intro wy hy;have q0:=af hy.1 0;have q1:=af hy.1 1;have q2:=af hy.1 2;have q3:=af hy.1 3;have e0:=af hy.2 0;have e1:=af hy.2 1;clear hy;go_simp;try with_reducible rfl
  try simp only[Act.put,It,Is,Ir,Iq,Iu,Iv]
  refine fL (i:=8) rfl (by kernel_rfl) (by rfl) (fun K hK=>?_);go_simp;refine (jv _ _ w5 HN.out).mono ?_;rintro e w6 ⟨v6,rfl,hz6,hb6⟩;obtain⟨p6,N6,c6,rfl,hN6,hNc6,hcm6,hd6⟩:=hz6.parts;generalize decide (-sgn m n<0)=m6 at *
  clear hd6;have hS':=And.intro ((hb6.block _ (ah hS.1)).trans hS.1) ((hb6.block _ (ah hS.2)).trans hS.2);refine hK _ _ (fun _ _=>hS') ?_;clear hK K;try simp only[Act.put,It,Is,Ir,Iq,Iu,Iv]
  replace HB:=LK HB hb6;have HN':=Ip (HN.out.below hb6);have HD':=Ip (HD.out.below hb6);have HM':=Ip (HM.out.below hb6);clear hS HN HD HM;have hS:=hS';have HN:=HN';have HD:=HD';have HM:=HM';clear hS' HN' HD' HM';have HZ6:=Ip hz6;clear hb6 hz6;refine fL (i:=10) rfl (by kernel_rfl) (by rfl) (fun K hK=>?_);go_simp;refine (ng _ _ _ _ w6 HZ6.out HM.out (Iz HFN2.out (by omega)) (Iz pN (by omega))).mono ?_;rintro e w7 ⟨rfl,hb7⟩;have hS':=And.intro ((hb7.block _ (ah hS.1)).trans hS.1) ((hb7.block _ (ah hS.2)).trans hS.2);refine hK _ _ (fun _ _=>hS') ?_;clear hK K;try simp only[Act.put,It,Is,Ir,Iq,Iu,Iv]
  replace HB:=LK HB hb7;have HN':=Ip (HN.out.below hb7);have HD':=Ip (HD.out.below hb7);have HM':=Ip (HM.out.below hb7);clear hS HN HD HM;have hS:=hS';have HN:=HN';have HD:=HD';have HM:=HM';clear hS' HN' HD' HM';clear hb7 HZ6 hc1;have hc2:=uG (-(sgn m n)) (4096:Nat);obtain⟨z2,hz2⟩:∃ z,z=eh (-(sgn m n)) (4096:Nat):=⟨_,rfl⟩;rw[<-hz2] at hc2 |-;clear hz2;obtain⟨b2,hb2⟩:∃ b,b=decide (-(sgn m n)<=4096):=⟨_,rfl⟩;rw[show decide (-(sgn m n)<=((4096:Nat):Int))=b2 from hb2.symm] at hc2;rw[<-hb2] at HR;clear hb2
  cases b2
  ·refine bY (i:=11) (v:=?vvC1) rfl (by kernel_rfl) (fun _ _ _ h=>h) (by rfl) hS ?hyC1 ?restC1
   case hyC1 =>
    intro wy hy;have q0:=af hy.1 0;have q1:=af hy.1 1;have q2:=af hy.1 2;have q3:=af hy.1 3;have e0:=af hy.2 0;have e1:=af hy.2 1;clear hy;go_simp;try with_reducible rfl
   refine LJ 12 (r:=?_)
   refine LJ 13 (r:=?_)
   try simp only[Act.put,It,Is,Ir,Iq,Iu,Iv]
   refine a6 (i:=14) rfl (by kernel_rfl) (fun _ _ _ h=>h) (by rfl) ?_;try simp only[Act.put,It,Is,Ir,Iq,Iu,Iv]
   refine a6 (i:=15) rfl (by kernel_rfl) (fun _ _ _ h=>h) (by rfl) ?_;try simp only[Act.put,It,Is,Ir,Iq,Iu,Iv]
   refine a6 (i:=16) rfl (by kernel_rfl) (fun _ _ _ h=>h) (by rfl) ?_;try simp only[Act.put,It,Is,Ir,Iq,Iu,Iv]
   refine a6 (i:=17) rfl (by kernel_rfl) (fun _ _ _ h=>h) (by rfl) ?_;try simp only[Act.put,It,Is,Ir,Iq,Iu,Iv]
   refine a6 (i:=18) rfl (by kernel_rfl) (fun _ _ _ h=>h) (by rfl) ?_;refine LJ 19 (r:=?_)
   refine LJ 20 (r:=?_)
   try simp only[Act.put,It,Is,Ir,Iq,Iu,Iv]
   try simp only[Act.put,It,Is,Ir,Iq,Iu,Iv]
   refine aF (by kernel_rfl) ?_ _;simp only[aP];go_wp2_with fail
   go_ret;refine⟨?_,HB⟩;rw[<-HR.out];rfl
  ·refine bY (i:=11) (v:=?vvD1) rfl (by kernel_rfl) (fun _ _ _ h=>h) (by rfl) hS ?hyD1 ?restD1
   case hyD1 =>
    intro wy hy;have q0:=af hy.1 0;have q1:=af hy.1 1;have q2:=af hy.1 2;have q3:=af hy.1 3;have e0:=af hy.2 0;have e1:=af hy.2 1;clear hy;go_simp;try with_reducible rfl
   refine LJ 12 (r:=?_)
   refine LJ 13 (r:=?_)
   try simp only[Act.put,It,Is,Ir,Iq,Iu,Iv]
   refine bY (i:=14) (v:=?vvD2) rfl (by kernel_rfl) (fun _ _ _ h=>h) (by rfl) hS ?hyD2 ?restD2
   case hyD2 =>
    intro wy hy;have q0:=af hy.1 0;have q1:=af hy.1 1;have q2:=af hy.1 2;have q3:=af hy.1 3;have e0:=af hy.2 0;have e1:=af hy.2 1;clear hy;go_simp;try with_reducible rfl
   try simp only[Act.put,It,Is,Ir,Iq,Iu,Iv]
   refine bY (i:=15) (v:=?vvD3) rfl (by kernel_rfl) (fun _ _ _ h=>h) (by rfl) hS ?hyD3 ?restD3
   case hyD3 =>
    intro wy hy;have q0:=af hy.1 0;have q1:=af hy.1 1;have q2:=af hy.1 2;have q3:=af hy.1 3;have e0:=af hy.2 0;have e1:=af hy.2 1;clear hy;go_simp;try with_reducible rfl
   try simp only[Act.put,It,Is,Ir,Iq,Iu,Iv]
   refine bY (i:=16) (v:=?vvD4) rfl (by kernel_rfl) (fun _ _ _ h=>h) (by rfl) hS ?hyD4 ?restD4
   case hyD4 =>
    intro wy hy;have q0:=af hy.1 0;have q1:=af hy.1 1;have q2:=af hy.1 2;have q3:=af hy.1 3;have e0:=af hy.2 0;have e1:=af hy.2 1;clear hy;go_simp;try with_reducible rfl
   try simp only[Act.put,It,Is,Ir,Iq,Iu,Iv]
   refine fL (i:=17) rfl (by kernel_rfl) (by rfl) (fun K hK=>?_);go_simp;refine (ng _ _ _ _ w7 HD.out HM.out (Iz HFD.out (by omega)) (Iz pN (by omega))).mono ?_;rintro e w8 ⟨rfl,hb8⟩;have hS':=And.intro ((hb8.block _ (ah hS.1)).trans hS.1) ((hb8.block _ (ah hS.2)).trans hS.2);refine hK _ _ (fun _ _=>hS') ?_;clear hK K;try simp only[Act.put,It,Is,Ir,Iq,Iu,Iv]
   replace HB:=LK HB hb8;have HN':=Ip (HN.out.below hb8);have HD':=Ip (HD.out.below hb8);have HM':=Ip (HM.out.below hb8);clear hS HN HD HM;have hS:=hS';have HN:=HN';have HD:=HD';have HM:=HM';clear hS' HN' HD' HM';clear hb8 hc2;have hc3:=uG (d:Int) (4096:Nat);obtain⟨z3,hz3⟩:∃ z,z=eh (d:Int) (4096:Nat):=⟨_,rfl⟩;rw[<-hz3] at hc3 |-;clear hz3;obtain⟨b3,hb3⟩:∃ b,b=decide ((d:Int)<=4096):=⟨_,rfl⟩;rw[show decide ((d:Int)<=((4096:Nat):Int))=b3 from hb3.symm] at hc3;rw[<-hb3] at HR;clear hb3;refine bY (i:=18) (v:=?vvD5) rfl (by kernel_rfl) (fun _ _ _ h=>h) (by rfl) hS ?hyD5 ?restD5
   case hyD5 =>
    intro wy hy;have q0:=af hy.1 0;have q1:=af hy.1 1;have q2:=af hy.1 2;have q3:=af hy.1 3;have e0:=af hy.2 0;have e1:=af hy.2 1;clear hy;go_simp;try with_reducible rfl
   refine LJ 19 (r:=?_)
   refine LJ 20 (r:=?_)
   try simp only[Act.put,It,Is,Ir,Iq,Iu,Iv]
   try simp only[Act.put,It,Is,Ir,Iq,Iu,Iv]
   refine aF (by kernel_rfl) ?_ _;simp only[aP];go_wp2_with fail
   go_ret;refine⟨?_,HB⟩;rw[<-HR.out];rfl
theorem yi (s:ByteArray) (w:World) :
  Calls Tryz.prog 52 #[.string s] w fun e w'=>e=.returned (.bool (lB s.data.toList))/\Below w.heap.size w w':=by
 go_enter Tryz.func52,Tryz.ntmps52;go_wp2_with fail
 refine (tT s w).mono ?_;rintro e w2 ⟨v2,rfl,hz2,hb2⟩;obtain⟨p0,k0,d0,p1,k1,d1,p2,k2,d2,p3,k3,d3,rfl,_,_⟩:=hz2.parts;generalize (aW s.data.toList).x.minus=m0 at *
 generalize (aW s.data.toList).y.minus=m1 at *
 have HR:Hid (lB s.data.toList=(rOK s.data.toList&&decide ((aW s.data.toList).y.n=0))):=rfl;generalize rOK s.data.toList=ok at HR |-;have hl2:=bL w2 (.cells #[.bool m0,.slice p0 k0 d0,.bool false,.slice p1 k1 d1,.bool m1,.slice p2 k2 d2,.bool false,.slice p3 k3 d3] 80);have hb3:=hb2.trans (hl2.below.mono hb2.size);have HC:=Ip (hz2.below hl2.below);have r0:=hl2.s0;clear hl2 hb2 hz2;go_upto_region 2 with fail
 generalize w2.alloc (.cells #[.bool m0,.slice p0 k0 d0,.bool false,.slice p1 k1 d1,.bool m1,.slice p2 k2 d2,.bool false,.slice p3 k3 d3] 80)=w3 at *
 cases ok
 ·go_wp2_with fail
  go_ret;exact⟨by rw[HR.out];rfl,hb3⟩
 ·have q0:=af r0 0;have q1:=af r0 1;have q2:=af r0 2;have q3:=af r0 3;have q4:=af r0 4;have q5:=af r0 5;have q6:=af r0 6;have q7:=af r0 7;go_wp2_with fail
  refine (AR _ (aW s.data.toList) w3 HC.out).mono ?_;rintro e w4 ⟨rfl,hb4⟩;have HEND:=LK hb3 hb4;go_wp2_with fail
  go_ret;exact⟨by rw[HR.out];rfl,HEND⟩
theorem IsC.two {w:World}{m m':Bool}{p0 p1 p2 p3:Option Addr}{n0 c0 n1 c1 n2 c2 n3 c3:Nat}{z:Vl} (h:IsC w (.agg #[.bool m,.slice p0 n0 c0,.bool false,.slice p1 n1 c1,.bool m',.slice p2 n2 c2,.bool false,.slice p3 n3 c3]) z) :
  cW w (.agg #[.bool m,.slice p0 n0 c0,.bool false,.slice p1 n1 c1]) z.x/\cW w (.agg #[.bool m',.slice p2 n2 c2,.bool false,.slice p3 n3 c3]) z.y:=by
 obtain⟨a,b,c,d,e,h1,h2,h3,h4⟩:=h;simp only[Value.agg.injEq,Array.mk.injEq,List.cons.injEq,and_true,true_and] at e;obtain⟨rfl',rfl,rfl,rfl'',rfl,rfl⟩:=e;exact⟨⟨_,_,by rw[rfl'],h1,h2⟩,⟨_,_,by rw[rfl''],h3,h4⟩⟩
theorem BT (s:ByteArray) (w:World) :
  Calls Tryz.prog 53 #[.string s] w fun e w'=>e=.returned (.bool (rOK s.data.toList&&eV (aW s.data.toList).x&&eV (aW s.data.toList).y))/\Below w.heap.size w w':=by
 have HCX:=Ip (i_ s.data.toList).1.sign;have HCY:=Ip (i_ s.data.toList).2.sign;have HFX:=Ip (jc s.data.toList).1;have HFY:=Ip (jc s.data.toList).2;go_enter Tryz.func53,Tryz.ntmps53;go_wp2_with fail
 refine (tT s w).mono ?_;rintro e w2 ⟨v2,rfl,hz2,hb2⟩;obtain⟨p0,k0,d0,p1,k1,d1,p2,k2,d2,p3,k3,d3,rfl,_,_⟩:=hz2.parts;generalize (aW s.data.toList).x.minus=m0 at hz2 |-;generalize (aW s.data.toList).y.minus=m1 at hz2 |-;obtain⟨ok,hok⟩:∃ b,b=rOK s.data.toList:=⟨_,rfl⟩;obtain⟨b0,hb0⟩:∃ b,b=eV (aW s.data.toList).x:=⟨_,rfl⟩;obtain⟨b1,hb1⟩:∃ b,b=eV (aW s.data.toList).y:=⟨_,rfl⟩;rw[<-hok];have HR:Hid ((rOK s.data.toList&&eV (aW s.data.toList).x&&eV (aW s.data.toList).y)=((ok&&b0)&&b1)):=by unfold Hid;rw[hok,hb0,hb1]
 have B0:=Ip hb0;have B1:=Ip hb1;clear hok hb0 hb1;have hl2:=bL w2 (.cells #[.bool m0,.slice p0 k0 d0,.bool false,.slice p1 k1 d1,.bool m1,.slice p2 k2 d2,.bool false,.slice p3 k3 d3] 80);have hb3:=hb2.trans (hl2.below.mono hb2.size);have HC:=Ip (hz2.below hl2.below);have r0:=hl2.s0;clear hl2 hb2 hz2;go_upto_region 2 with fail
 generalize w2.alloc (.cells #[.bool m0,.slice p0 k0 d0,.bool false,.slice p1 k1 d1,.bool m1,.slice p2 k2 d2,.bool false,.slice p3 k3 d3] 80)=w3 at *
 cases ok
 ·go_wp2_with fail
  go_ret;exact⟨by rw[HR.out];rfl,hb3⟩
 ·have q0:=af r0 0;have q1:=af r0 1;have q2:=af r0 2;have q3:=af r0 3;go_wp2_with fail
  refine (qU _ (aW s.data.toList).x w3 HC.out.two.1 HCX.out HFX.out.1 HFX.out.2).mono ?_;rintro e w4 ⟨rfl,hb4⟩;have HB4:=LK hb3 hb4;have r1:=(hb4.block _ (ah r0)).trans r0;have HC4:=Ip (HC.out.below hb4);rw[<-B0.out];clear q0 q1 q2 q3 HC r0 hb4
  cases b0
  ·go_wp2_with fail
   go_ret;exact⟨by rw[HR.out];rfl,HB4⟩
  ·have q4:=af r1 4;have q5:=af r1 5;have q6:=af r1 6;have q7:=af r1 7;go_wp2_with fail
   refine (qU _ (aW s.data.toList).y w4 HC4.out.two.2 HCY.out HFY.out.1 HFY.out.2).mono ?_;rintro e w5 ⟨rfl,hb5⟩;have HEND:=LK HB4 hb5;rw[<-B1.out];go_wp2_with fail
   go_ret;exact⟨by rw[HR.out];rfl,HEND⟩
theorem uZ (s:ByteArray) (w:World) :
  Calls Tryz.prog 16 #[.string s] w fun e w'=>e=.returned (.bool (bU s.data.toList))/\Below w.heap.size w w':=by
 rw[<-Ff];have HR:Hid (CK s.data.toList=(lB s.data.toList&&(rOK s.data.toList&&eV (aW s.data.toList).x&&eV (aW s.data.toList).y))):=rfl;go_enter Tryz.func16,Tryz.ntmps16;go_wp2_with fail
 refine (yi s w).mono ?_;rintro e w2 ⟨rfl,hb2⟩;generalize lB s.data.toList=b0 at HR |-
 cases b0
 ·go_wp2_with fail
  go_ret;exact⟨by rw[HR.out];rfl,hb2⟩
 ·go_wp2_with fail
  refine (BT s w2).mono ?_;rintro e w3 ⟨rfl,hb3⟩;have HEND:=LK hb2 hb3;go_wp2_with fail
  go_ret;exact⟨by rw[HR.out];rfl,HEND⟩
theorem sW {t:List UInt8}:∀ {m:Nat},(∀ k c,1<=k->k<=m->t[k]?=some c->c≠43/\c≠45)->dZ t m=none
 | 0,_=>rfl
 | m+1,h=>by
  unfold dZ;rw[if_neg,sW (fun k c h1 h2 h3=>h k c h1 (by omega) h3)];rintro (e | e)
  ·exact (h _ _ (by omega) (Iw _) e).1 rfl
  ·exact (h _ _ (by omega) (Iw _) e).2 rfl
theorem wY {t:List UInt8}{k0:Nat} (h0:1<=k0) (hs:t[k0]?=some 43\/t[k0]?=some 45):∀ {m:Nat},k0<=m->(∀ k c,k0<k->k<=m->t[k]?=some c->c≠43/\c≠45)->dZ t m=some k0
 | 0,hm,_=>by omega
 | m+1,hm,h=>by
  unfold dZ;by_cases e:m+1=k0
  ·subst e;rw[if_pos hs]
  ·rw[if_neg,wY h0 hs (by omega) (fun k c h1 h2 h3=>h k c h1 (by omega) h3)];rintro (e2 | e2)
   ·exact (h _ _ (by omega) (Iw _) e2).1 rfl
   ·exact (h _ _ (by omega) (Iw _) e2).2 rfl
theorem AH (r:Rt):∀ c∈gz r,c≠43/\c≠45:=by
 intro c hc;unfold gz at hc;rcases Jo.1 hc with h | h
 ·have:=ki (I5.1 (fc r.n) _ h);exact⟨this.1,this.2.1⟩
 ·split at h
  ·rcases Jv.1 h with rfl | h
   ·decide
   ·have:=ki (I5.1 (fc r.d) _ h);exact⟨this.1,this.2.1⟩
  ·cases h
def bT (r:Rt):List UInt8:=if gz r=[49] then [] else gz r
theorem l7 (r:Rt):∀ c∈bT r,c≠43/\c≠45:=by
 intro c hc;unfold bT at hc
 split at hc
 ·cases hc
 ·exact AH r c hc
theorem o6 (r:Rt):b8 r=(if r.minus then [45] else [])++bT r:=by
 obtain⟨c,t,e1,e2⟩:=l4 r;have hc:=ki e2;unfold b8 bT;rw[ik]
 cases r.minus
 ·simp only[IW,if_false,I8];by_cases h:gz r=[49]
  ·rw[if_pos (Or.inl h),if_pos h,h];rfl
  ·rw[if_neg,if_neg h];rintro (e | e)
   ·exact h e
   ·rw[e1] at e;exact hc.2.1 (List.cons.inj e).1
 ·simp only[if_true,Jf,I8];by_cases h:gz r=[49]
  ·rw[if_pos (Or.inr (by rw[h])),if_pos h,h];rfl
  ·rw[if_neg,if_neg h];rintro (e | e)
   ·exact absurd (List.cons.inj e).1 (by decide)
   ·exact h (List.cons.inj e).2
theorem Hn (r:Rt):(if b8 r=[]\/b8 r=[45] then b8 r++[49] else b8 r)=aK r:=by
 obtain⟨c,t,e1,e2⟩:=l4 r;have hc:=ki e2;rw[o6,ik];unfold bT;by_cases h:gz r=[49]
 ·rw[if_pos h,h]
  cases r.minus
  ·rfl
  ·rfl
 ·rw[if_neg h];rw[if_neg];rintro (e | e)
  ·cases hm:r.minus
   ·rw[hm,e1] at e;cases e
   ·rw[hm] at e;cases e
  ·cases hm:r.minus
   ·rw[hm] at e;simp only[IW,if_false,I8] at e;rw[e1] at e;exact hc.2.1 (List.cons.inj e).1
   ·rw[hm] at e;simp only[if_true,Jf,I8] at e;have:=(List.cons.inj e).2;rw[e1] at this;cases this
theorem tS {l:List UInt8}{k:Nat}{c:UInt8} (h:l[k]?=some c):c∈l:=J3 h
theorem wG (X l:List UInt8) (d:UInt8) (hX:1<=X.length) (hd:d=43\/d=45) (hl:∀ c∈l,c≠43/\c≠45):nC (X++d :: l)=(X,Lib.trimPrefix (d :: l) [43]):=by
 have hs:dZ (X++d :: l) ((X++d :: l).length-1)=some X.length:=by
  refine wY hX ?_ (by simp) (fun k c h1 _ h3=>?_)
  ·rw[Kf (Iw _),JJ];rcases hd with rfl | rfl
   ·exact Or.inl rfl
   ·exact Or.inr rfl
  ·rw[Kf (by omega),show k-X.length=(k-X.length-1)+1 from by omega,Kk] at h3;exact hl c (tS h3)
 unfold nC;rw[hs];simp only;rw[Lj rfl,List.drop_left' rfl]
theorem D4 (l:List UInt8) (hl:∀ k c,1<=k->l[k]?=some c->c≠43/\c≠45):nC l=([48],l):=by
 unfold nC;rw[sW (fun k c h1 _ h3=>hl k c h1 h3)]
theorem Gb (y:Rt):∀ k c,1<=k->(b8 y)[k]?=some c->c≠43/\c≠45:=by
 intro k c h1 h3;rw[o6] at h3
 cases hm:y.minus
 ·rw[hm] at h3;exact l7 y c (tS h3)
 ·rw[hm] at h3;simp only[if_true,Jf,I8] at h3;rw[show k=(k-1)+1 from by omega,Kk] at h3;exact l7 y c (tS h3)
theorem Im (x y:Rt) (b:Bool):nC ((if b then [] else aK x++(if y.minus then [] else [43]))++b8 y)=(if b then [48] else aK x,b8 y):=by
 cases b
 ·simp only[IW,if_false];have hX:=wJ x
  cases hm:y.minus
  ·simp only[IW,if_false];have hy:b8 y=bT y:=by rw[o6,hm];rfl
   rw[I_,Kw,wG _ _ 43 hX (Or.inl rfl) (by rw[hy];exact l7 y)];unfold Lib.trimPrefix;rw[jK,decide_eq_true rfl];rfl
  ·simp only[if_true,Ju];have hy:b8 y=45 :: bT y:=by rw[o6,hm];rfl
   rw[hy,wG _ _ 45 hX (Or.inr rfl) (l7 y)];unfold Lib.trimPrefix;rw[jK,decide_eq_false (by decide)];rfl
 ·simp only[if_true,I8];exact D4 _ (Gb y)
theorem xg (l:List UInt8):Lib.hasSuffix (l++[105]) [105]=true/\Lib.trimSuffix (l++[105]) [105]=l:=by
 have h:Lib.hasSuffix (l++[105]) [105]=true:=by
  unfold Lib.hasSuffix;rw[Lu];exact⟨l,rfl⟩
 refine⟨h,?_⟩;unfold Lib.trimSuffix;rw[h];simp
theorem pS {z:CQ} (h:eK z=false):gJ (txt z)=some z:=by
 by_cases hi:z.im=0
 ·have e:z=CQ.real z.re:=by cases z;simp only at hi;subst hi;rfl
  rw[e] at h |-;exact si h
 ·have hb:=h;unfold eK at hb;simp only[J2] at hb;have hyn:(ct z).y.n≠0:=fun e=>hi ((bB _).1 e);obtain⟨b,hbx⟩:∃ b:Bool,b=decide ((ct z).x.n=0):=⟨_,rfl⟩
  have hv:bX (ct z)=((if b then [] else aK (ct z).x++(if (ct z).y.minus then [] else [43]))++b8 (ct z).y)++[105]:=by
   unfold bX;rw[if_neg hyn,hbx];simp only[decide_eq_true_eq]
  have hg:ix (bX (ct z))=some (ct z):=by
   have hl1:=rg hb.1;have hl2:=rg hb.2
   have hl3:(b8 (ct z).y).length<=4002:=by
    unfold b8
    split
    ·rw[IY];have:(aK (ct z).y).length<=4002:=hl2;omega
    ·exact hl2
   have hlen:(bX (ct z)).length<=8008:=by
    rw[hv];have:(aK (ct z).x).length<=4002:=hl1;simp only[IG,IT,Jn]
    split<;>(try split)<;>simp<;>omega
   have hp:gL (bX (ct z))=(if b then [48] else aK (ct z).x,aK (ct z).y):=by
    unfold gL;rw[hv,(xg _).1,(xg _).2,Im];simp only[if_true];rw[Hn]
   have hx:dx (if b then [48] else aK (ct z).x)=some (ct z).x:=by
    cases b
    ·exact kA (l8 z.re)
    ·have:(ct z).x.n=0:=by simpa using hbx
     have h0:z.re=0:=(bB _).1 this
     show dx [48]=some (rt z.re)
     rw[h0,eQ];exact oh
   unfold ix;rw[if_neg (by omega),hp];simp only;rw[hx,show dx (aK (ct z).y)=some (ct z).y from kA (l8 z.im)];simp only;rw[if_pos ⟨trivial,hb.1,hb.2⟩]
  unfold gJ txt;simp only[Lp];rw[hg];simp only[KO]
  show some (⟨toQ (rt z.re),toQ (rt z.im)⟩:CQ)=some z
  rw[yX,yX]
theorem FG {z:CQ} (h:eK z=false):eB z=(txt z,0):=by unfold eB;rw[if_neg (by rw[h];decide)]
theorem xu:txt ⟨0,0⟩=⟨#[48]⟩:=by decide +kernel
theorem F_ {a b:CQ} (ha:eK a=false) (hb:eK b=false) (h:txt a=txt b):a=b:=by
 have e:=pS ha;rw[h,pS hb] at e;exact (Option.some.inj e).symm
def evQ (w:CQ) (qs:List Rat):CQ:=qs.foldr (fun q acc=>(acc.mul w).add (CQ.real q)) ⟨0,0⟩
theorem Cb (w:CQ):((⟨0,0⟩:CQ).mul w).add ⟨0,0⟩=⟨0,0⟩:=by
 unfold CQ.mul CQ.add;congr 1<;>grind
theorem E_ (x:CQ) (zs:List CQ):atL (dq zs) x=zs.foldr (fun z acc=>(acc.mul x).add z) ⟨0,0⟩:=by
 have key:∀ l:List CQ,(l.dropWhile fun z=>decide (z=⟨0,0⟩)).foldl (fun (acc:CQ) (z:CQ)=>(acc.mul x).add z) (⟨0,0⟩:CQ)=l.foldl (fun (acc:CQ) (z:CQ)=>(acc.mul x).add z) (⟨0,0⟩:CQ):=by
  intro l
  induction l with
  | nil=>rfl
  | cons z l ih =>
   rw[List.dropWhile_cons];by_cases h:z=⟨0,0⟩
   ·rw[if_pos (by simpa using h),ih,LD,h,Cb]
   ·rw[if_neg (by simpa using h)]
 unfold atL lz dq;rw[IA,List.foldr_reverse,key,List.foldl_reverse]
theorem GE (qs:List Rat) (w:CQ):atL (dq (qs.map CQ.real)) w=evQ w qs:=by
 rw[E_,List.foldr_map];rfl
theorem lH {s:ByteArray} (h:bU s.data.toList=true):∃ q,s=tq q/\okQ q/\q.num.natAbs<=4096/\q.den<=4096:=by
 obtain⟨q,rfl,hq⟩:=zu h;refine⟨q,rfl,hq,?_⟩;unfold bU at h;simp only[IR] at h
 have e:(tq q).data.toList=aK (rt q):=by
  show bX (ct (CQ.real q))=_
  rw[dE (z:=ct (CQ.real q)) (by show (rt 0).n=0;rw[eQ])];rfl
 have h2:=h.2;rw[e] at h2;unfold iD at h2;rw[(nO (rt q)).1,sY (rt q) (dQ q)] at h2;unfold eV at h2;simp only[IR,decide_eq_true_eq] at h2;exact h2
theorem pE:∀ l:List ByteArray,(∀ s∈l,bU s.data.toList=true)->∃ qs:List Rat,∃ D,l=qs.map tq/\0<D/\D<=4096 ^ l.length/\(∀ q∈qs,Ov D (4096*4096 ^ l.length) q/\okQ q)
 | [],_=>⟨[],1,rfl,by decide,by simp,fun q h=>by cases h⟩
 | s :: l,h=>by
  obtain⟨q,rfl,hq,hn,hd⟩:=lH (h s (JA ..));obtain⟨qs,D,rfl,hD,hDl,hall⟩:=pE l (fun t ht=>h t (JL _ ht));have hdp:=q.den_pos;have hp:(4096:Nat) ^ (qs.map tq).length*4096=4096 ^ (tq q :: qs.map tq).length:=by rw[IT,IN]
  refine⟨q :: qs,D*q.den,rfl,IH hD hdp,?_,?_⟩
  ·rw[<-hp];exact Je hDl hd
  ·intro r hr;rcases Jv.1 hr with rfl | hr
   ·refine⟨?_,hq⟩;have h1:=(Ov.of r).wide D hdp hD;rw[IM r.den D] at h1;refine h1.mono ?_;have:=Je hn hDl;refine IB this ?_;rw[<-hp];exact IV _ (J8 _ (by decide))
   ·obtain⟨h1,h2⟩:=hall r hr;refine⟨(h1.wide q.den hD hdp).mono ?_,h2⟩;rw[<-hp,<-Jz];exact IV _ hd
theorem zo:∀ qs:List Rat,(∀ q∈qs,okQ q)->allC (qs.map tq)=some (qs.map CQ.real)
 | [],_=>rfl
 | q :: qs,h=>by
  show (match gJ (tq q),allC (qs.map tq) with | some z,some zs=>some (z :: zs) | _,_=>none)=_
  rw[iy (h q (JA ..)),zo qs (fun r hr=>h r (JL _ hr))];rfl
theorem zC {w:CQ}{E:Nat}{D M:Nat} (hw:OvC E (2 ^ 49) w) (hE:E<=2 ^ 49) (hD:0<D):∀ qs:List Rat,(∀ q∈qs,Ov D M q)->OvC (D*E ^ qs.length) (qs.length*(M*2 ^ (50*qs.length))) (evQ w qs)
 | [],_=>⟨(Ov.zero _).mono (IF _),(Ov.zero _).mono (IF _),by simpa using hD⟩
 | q :: qs,h=>by
  have ih:=zC hw hE hD qs (fun r hr=>h r (JL _ hr));have h1:=ih.mul hw;have hEp:0<E ^ (qs.length+1):=I9 hw.pos;have h2:=(OvC.real (h q (JA ..)) hD).wide (E ^ (qs.length+1)) hEp;have e:D*E ^ qs.length*E=D*E ^ (qs.length+1):=by rw[Jz,IN]
  rw[e] at h1;have h3:=h1.add h2
  show OvC (D*E ^ (qs.length+1)) ((qs.length+1)*(M*2 ^ (50*(qs.length+1)))) (((evQ w qs).mul w).add (CQ.real q))
  refine h3.mono ?_;have p50:(2:Nat) ^ (50*(qs.length+1))=2 ^ (50*qs.length)*2 ^ 50:=by rw[K8,JO,JX]
  have a1:2*(qs.length*(M*2 ^ (50*qs.length))*2 ^ 49)=qs.length*(M*2 ^ (50*(qs.length+1))):=by
   rw[p50,show (2:Nat) ^ 50=2*2 ^ 49 from by decide];simp only[K7,IM,Jz]
  have a2:M*E ^ (qs.length+1)<=M*2 ^ (50*(qs.length+1)):=by
   refine IV _ ?_;rw[JP];exact KJ (IB hE (by decide)) _
  rw[a1,Jg,JV];exact Nat.add_le_add_left a2 _
open Go.RowKit Dg
theorem FN (v:Value) (c:CQ) (w:World) (hv:IsC w v (ct c)) (hq:eK c=false) :
  Calls Tryz.prog 71 #[v] w fun e w'=>e=.returned (.tuple #[.string (txt c),.int .i64 0])/\Below w.heap.size w w':=by
 have hq2:dt (rt c.re)=false/\dt (rt c.im)=false:=by
  have h:=hq;unfold eK at h;simpa using h
 have h1:=pz hq2.1 (dQ _);have h2:=pz hq2.2 (dQ _);have F0:=Ip (show bu (ct c).x.n from cX h1.n (by decide));have F1:=Ip (show bu (ct c).x.d from cX h1.d (by decide));have F2:=Ip (show bu (ct c).y.n from cX h2.n (by decide));have F3:=Ip (show bu (ct c).y.d from cX h2.d (by decide));have HBG:=Ip (show (dt (ct c).x||dt (ct c).y)=false from hq);obtain⟨z,hz⟩:∃ z,z=ct c:=⟨_,rfl⟩;have HT:=Ip (show (⟨(bX z).toArray⟩:ByteArray)=txt c by rw[hz];rfl);have hdx:0<z.x.d:=by rw[hz];exact dQ _
 have hdy:0<z.y.d:=by rw[hz];exact dQ _
 rw[<-hz] at hv F0 F1 F2 F3 HBG;clear hz h1 h2 hq2 hq;obtain⟨p0,n0,c0,p1,n1,c1,p2,n2,c2,p3,n3,c3,rfl,_,_⟩:=hv.parts;have hl:=bL w (.cells #[.bool z.x.minus,.slice p0 n0 c0,.bool false,.slice p1 n1 c1,.bool z.y.minus,.slice p2 n2 c2,.bool false,.slice p3 n3 c3] 80);have HC:=Ip (hv.below hl.below);have r0:=hl.s0;have M1:=Ip hl.below;have q0:=af r0 0;have q1:=af r0 1;have q2:=af r0 2;have q3:=af r0 3;have q4:=af r0 4;have q5:=af r0 5;have q6:=af r0 6;have q7:=af r0 7;clear hl hv;generalize z.x.minus=mx at *
 generalize z.y.minus=my at *
 go_enter Tryz.func71,Tryz.ntmps71;go_upto_region 1 with fail
 generalize w.alloc (.cells #[.bool mx,.slice p0 n0 c0,.bool false,.slice p1 n1 c1,.bool my,.slice p2 n2 c2,.bool false,.slice p3 n3 c3] 80)=w1 at *
 go_wp2_with fail
 refine (oO _ z w1 HC.out F0.out F1.out F2.out F3.out).mono ?_;rintro e w2 ⟨rfl,hb⟩;rw[HBG.out];have r0:=(hb.block _ (ah r0)).trans r0;have HC:=Ip (HC.out.below hb);have M1:=Ip (LK M1.out hb);clear hb q0 q1 q2 q3 q4 q5 q6 q7;have q0:=af r0 0;have q1:=af r0 1;have q2:=af r0 2;have q3:=af r0 3;have q4:=af r0 4;have q5:=af r0 5;have q6:=af r0 6;have q7:=af r0 7;go_wp2_with fail
 refine (mZ _ z w2 HC.out hdx hdy F0.out F1.out F2.out F3.out).mono ?_;rintro e w3 ⟨rfl,hb⟩;have M2:=Ip (LK M1.out hb);rw[HT.out];clear hb q0 q1 q2 q3 q4 q5 q6 q7 r0;go_wp2_with fail
 refine LM (v:=.tuple #[.string (txt c),.int .i64 0]) (by simp[results,Tryz.results71,go_sem]) rfl ⟨rfl,M2.out⟩
theorem Hg (v:Value) (q:Rat) (w:World) (hv:IsC w v (ct (CQ.real q))) (hq:okQ q) :
  Calls Tryz.prog 71 #[v] w fun e w'=>e=.returned (.tuple #[.string (tq q),.int .i64 0])/\Below w.heap.size w w':=FN v (CQ.real q) w hv hq
theorem FO (v:Value) (q:Rat) (w:World) (hv:b9 w v q) (hq:okQ q) :
  Calls Tryz.prog 33 #[v] w fun e w'=>e=.returned (.string (tq q))/\Below w.heap.size w w':=by
 obtain⟨m,p,N,c,p',N',c',rfl⟩:=hv.forms;have hl:=bL w (.cells #[.bool m,.slice p N c,.bool false,.slice p' N' c'] 44);have HV:=Ip (hv.below hl.below);have r0:=hl.s0;have M1:=Ip hl.below;have q0:=af r0 0;have q1:=af r0 1;have q2:=af r0 2;have q3:=af r0 3;clear hl hv;go_enter Tryz.func33,Tryz.ntmps33;go_upto_region 1 with fail
 generalize w.alloc (.cells #[.bool m,.slice p N c,.bool false,.slice p' N' c'] 44)=w1 at *
 go_wp2_with fail
 refine (wK _ (rt q) w1 HV.out).mono ?_;rintro e w2 ⟨v2,rfl,hv2,hb⟩;have M2:=Ip (LK M1.out hb);clear hb q0 q1 q2 q3
 have hv2:IsC w2 v2 (ct (CQ.real q)):=by
  have e:(⟨rt q,⟨false,0,1⟩⟩:Vl)=ct (CQ.real q):=by
   show _=(⟨rt q,rt 0⟩:Vl)
   rw[eQ]
  rw[<-e];exact hv2
 go_wp2_with fail
 refine (Hg v2 q w2 hv2 hq).mono ?_;rintro e w3 ⟨rfl,hb⟩;go_wp2_with fail
 refine LM (v:=.string (tq q)) (by simp[results,Tryz.results33,go_sem]) rfl ⟨rfl,LK M2.out hb⟩
theorem FJ {q:Rat} (h:okQ q):aW (tq q).data.toList=ct (CQ.real q):=by
 have e:(tq q).data.toList=aK (rt q):=by
  show bX (ct (CQ.real q))=_
  rw[dE (z:=ct (CQ.real q)) (by show (rt 0).n=0;rw[eQ])];rfl
 rw[e,lT (l8 q) ((mE q).1 h)]
 show (⟨rt q,fN⟩:Vl)=⟨rt q,rt 0⟩
 rw[eQ];rfl
theorem oX (q:Rat) (w:World) (hq:okQ q) :
  Calls Tryz.prog 18 #[.string (tq q)] w fun e w'=>∃ v,e=.returned v/\b9 w' v q/\Below w.heap.size w w':=by
 have HR:=Ip (FJ hq);obtain⟨s,hs⟩:∃ s,s=tq q:=⟨_,rfl⟩;rw[<-hs] at HR |-;clear hs;have hl:=bL w (.cells #[.bool false,.slice none 0 0,.bool false,.slice none 0 0] 44);have s0:=hl.s0;have M1:=Ip hl.below;clear hl;go_enter Tryz.func18,Tryz.ntmps18;go_upto_region 1 with fail
 generalize w.alloc (.cells #[.bool false,.slice none 0 0,.bool false,.slice none 0 0] 44)=w1 at *
 go_wp2_with fail
 refine (tT s w1).mono ?_;rintro e w2 ⟨v2,rfl,hv2,hb⟩;rw[HR.out] at hv2;obtain⟨p0,n0,c0,p1,n1,c1,p2,n2,c2,p3,n3,c3,rfl,_,_⟩:=hv2.parts;obtain⟨D0,D1,-,-⟩:=hv2.dig;have HQ:=Ip (show b9 w2 (.agg #[.bool (ct (CQ.real q)).x.minus,.slice p0 n0 c0,.bool false,.slice p1 n1 c1]) q from⟨_,_,rfl,D0,D1⟩);have s0:=(hb.block _ (ah s0)).trans s0;have M1:=Ip (LK M1.out hb);generalize (ct (CQ.real q)).x.minus=mx at *
 generalize (ct (CQ.real q)).y.minus=my at *
 clear hv2 D0 D1 hb HR;go_upto_region 2 with fail
 have hl2:=bL w2 (.cells #[.bool mx,.slice p0 n0 c0,.bool false,.slice p1 n1 c1,.bool my,.slice p2 n2 c2,.bool false,.slice p3 n3 c3] 80);generalize w2.alloc (.cells #[.bool mx,.slice p0 n0 c0,.bool false,.slice p1 n1 c1,.bool my,.slice p2 n2 c2,.bool false,.slice p3 n3 c3] 80)=w3 at *
 have e0:=af hl2.s0 0;have e1:=af hl2.s0 1;have e2:=af hl2.s0 2;have e3:=af hl2.s0 3;have u2:=(hl2.below.block _ (ah s0)).trans s0;have hP:=aR (u0:=.bool mx) (u1:=.slice p0 n0 c0) (u2:=.bool false) (u3:=.slice p1 n1 c1) u2;have hZ:=Ip (cW.puts (HQ.out.below hl2.below) hP u2 bf);have hBF:=Ip ((M1.out.trans (hl2.below.mono M1.out.size)).trans (hP.below w.heap.size (Iw _)));have q0:=af u2 0;have q1:=af u2 1;have q2:=af u2 2;have q3:=af u2 3;have f0:=LL w3 w.heap.size 0 _ _ u2;have f1:=LL w3 w.heap.size 1 _ _ u2;have f2:=LL w3 w.heap.size 2 _ _ u2;have f3:=LL w3 w.heap.size 3 _ _ u2;clear hl2 s0;go_wp2_with fail
 (try simp only[Exit.inBlock,Exit.then])
 change bodyPost _ _ _ _ _ (dL w3 w.heap.size (.bool mx) (.slice p0 n0 c0) (.bool false) (.slice p1 n1 c1));refine LM (results_cell_row rfl _ _ w.heap.size _ _ (0,0) _ rfl hP.row Tryz.underlying44 rfl (by kernel_rfl)) rfl ?_;exact⟨_,rfl,hZ.out,hBF.out⟩
theorem CG (a b:Rat):decide (eL a b<0)=decide (a<b):=by
 unfold eL;by_cases h1:a=b
 ·subst h1;have:¬ a<a:=by grind
  simp[this]
 ·by_cases h2:a<b
  ·simp[h1,h2]
  ·simp[h1,h2]
theorem yv (a:Rat):decide (-a<1)=decide (-1<a):=by
 rw[decide_eq_decide];constructor<;>intro h<;>grind
theorem mY:Sz 1 (rt (1:Rat)):=⟨by decide +kernel,by decide +kernel,by decide +kernel⟩
theorem BI (va:Value) (a:Rat) (k:Nat) (w:World) (ha:b9 w va a) (hk:Sz k (rt a)) (hkl:k<=100000) :
  Calls Tryz.prog 118 #[va] w fun e w'=>e=.returned (.bool (decide (-1<a)&&decide (a<1)))/\Below w.heap.size w w':=by
 obtain⟨m,p,N,c,p',N',c',rfl⟩:=ha.forms;have hl:=bL w (.cells #[.bool m,.slice p N c,.bool false,.slice p' N' c'] 44);go_enter Tryz.func118,Tryz.ntmps118;go_upto_region 1 with fail
 generalize w.alloc (.cells #[.bool m,.slice p N c,.bool false,.slice p' N' c'] 44)=w1 at *
 have hBd:Below w1.heap.size w1 w1.drew:=(LN _ _).drew;refine wp_mono (ax (Q:=aP _) (fun wx:World=>Below w1.drew.heap.size w1.drew wx) (fun _=>false) (by kernel_rfl) ?_) (fun _ _ _ h=>aY h);have s0:=(hBd.block _ (ah hl.s0)).trans hl.s0;have hlt:=ah s0;have HA:=Ip (ha.below (hl.below.trans (hBd.mono hl.below.size)));have M1:=Ip (hl.below.trans (hBd.mono hl.below.size));clear hl hBd ha;generalize w1.drew=wd at *
 have hS:Below wd.heap.size wd wd:=LN _ _;have HE:=Ip s0;clear s0;refine ay (i:=0) (v:=?vv0) rfl (by kernel_rfl) (fun _ _ _ h=>h) rfl hS ?hy0 ?rest0
 case hy0 =>
  intro wy hy;have e0:=af ((hy.block _ hlt).trans HE.out) 0;have e1:=af ((hy.block _ hlt).trans HE.out) 1;have e2:=af ((hy.block _ hlt).trans HE.out) 2;have e3:=af ((hy.block _ hlt).trans HE.out) 3;clear hy;go_simp;try with_reducible rfl
 try simp only[Act.put,It,Is,Ir,Iq,Iu,Iv]
 refine ar (i:=1) rfl (by kernel_rfl) rfl (fun K hK=>?_);go_simp;refine (BD wd).mono ?_;rintro e w2 ⟨v2,rfl,hv2,hb2⟩;obtain⟨y1,y2,y3,y4,y5,y6,y7,rfl⟩:=hv2.forms;refine hK _ _ (fun _ _=>hb2) ?_;clear hK K;try simp only[Act.put,It,Is,Ir,Iq,Iu,Iv]
 refine ar (i:=2) rfl (by kernel_rfl) rfl (fun K hK=>?_);go_simp;refine (mK _ _ a 1 k 1 w2 (HA.out.below hb2) hv2 hk mY (by omega)).mono ?_;rintro e w3 ⟨rfl,hb3⟩;have hB3:=LK hb2 hb3;have hcl:=CG a 1;have hcl2:=CG (-a) 1;rw[yv] at hcl2;generalize eL a 1=z1 at hcl |-;refine hK _ _ (fun _ _=>hB3) ?_;clear hK K hv2 hb2 hb3;refine LJ 3 (r:=?_)
 refine LJ 4 (r:=?_)
 try simp only[Act.put,It,Is,Ir,Iq,Iu,Iv]
 by_cases h1:a<1
 ·rw[decide_eq_true h1];clear hcl;refine bY (i:=5) (v:=?vv5) rfl (by kernel_rfl) (fun _ _ _ h=>h) (by rfl) hB3 ?hy5 ?rest5
  case hy5 =>
   intro wy hy;have e0:=af ((hy.block _ hlt).trans HE.out) 0;have e1:=af ((hy.block _ hlt).trans HE.out) 1;have e2:=af ((hy.block _ hlt).trans HE.out) 2;have e3:=af ((hy.block _ hlt).trans HE.out) 3;clear hy;go_simp;try with_reducible rfl
  try simp only[Act.put,It,Is,Ir,Iq,Iu,Iv]
  refine fL (i:=6) rfl (by kernel_rfl) (by rfl) (fun K hK=>?_);go_simp;refine (Gp _ a w3 (HA.out.below hB3)).mono ?_;rintro e w4 ⟨v4,rfl,hv4,hb4⟩;obtain⟨x1,x2,x3,x4,x5,x6,x7,rfl⟩:=hv4.forms;have hB4:=LK hB3 hb4;refine hK _ _ (fun _ _=>hB4) ?_;clear hK K;try simp only[Act.put,It,Is,Ir,Iq,Iu,Iv]
  refine fL (i:=7) rfl (by kernel_rfl) (by rfl) (fun K hK=>?_);go_simp;refine (BD w4).mono ?_;rintro e w5 ⟨v5,rfl,hv5,hb5⟩;obtain⟨z2,z3,z4,z5,z6,z7,z8,rfl⟩:=hv5.forms;have hB5:=LK hB4 hb5;refine hK _ _ (fun _ _=>hB5) ?_;clear hK K;try simp only[Act.put,It,Is,Ir,Iq,Iu,Iv]
  have hsb:Sz k (rt (-a)):=by rw[<-gq];exact hk.neg
  refine fL (i:=8) rfl (by kernel_rfl) (by rfl) (fun K hK=>?_);go_simp;refine (mK _ _ (-a) 1 k 1 w5 (hv4.below hb5) hv5 hsb mY (by omega)).mono ?_;rintro e w6 ⟨rfl,hb6⟩;have hB6:=LK hB5 hb6;generalize eL (-a) 1=z9 at hcl2 |-;refine hK _ _ (fun _ _=>hB6) ?_;clear hK K hv4 hv5 hb4 hb5 hb6 hB3 hB4 hB5 hsb;try simp only[Act.put,It,Is,Ir,Iq,Iu,Iv]
  refine bY (i:=9) (v:=?vv9) rfl (by kernel_rfl) (fun _ _ _ h=>h) (by rfl) hB6 ?hy9 ?rest9;case hy9=>(intro wy hy;clear hy;go_simp;try with_reducible rfl)
  try simp only[Act.put,It,Is,Ir,Iq,Iu,Iv]
  try rw[hcl2]
  refine LJ 10 (r:=?_)
  refine LJ 11 (r:=?_)
  try simp only[Act.put,It,Is,Ir,Iq,Iu,Iv]
  refine aF (by kernel_rfl) ?_ _;simp only[aP];clear hcl2;go_wp2;refine LM (v:=.bool (decide (-1<a))) (by simp[results,Tryz.results118,go_sem]) rfl ⟨by simp[h1],LK M1.out hB6⟩
 ·rw[decide_eq_false h1];clear hcl;refine a6 (i:=5) rfl (by kernel_rfl) (fun _ _ _ h=>h) (by rfl) ?_;try simp only[Act.put,It,Is,Ir,Iq,Iu,Iv]
  refine a6 (i:=6) rfl (by kernel_rfl) (fun _ _ _ h=>h) (by rfl) ?_;try simp only[Act.put,It,Is,Ir,Iq,Iu,Iv]
  refine a6 (i:=7) rfl (by kernel_rfl) (fun _ _ _ h=>h) (by rfl) ?_;try simp only[Act.put,It,Is,Ir,Iq,Iu,Iv]
  refine a6 (i:=8) rfl (by kernel_rfl) (fun _ _ _ h=>h) (by rfl) ?_;try simp only[Act.put,It,Is,Ir,Iq,Iu,Iv]
  refine a6 (i:=9) rfl (by kernel_rfl) (fun _ _ _ h=>h) (by rfl) ?_;refine ai (i:=10) (v:=?vw10) rfl (by kernel_rfl) (fun _ _ _ h=>h) rfl ?hz10 ?rese10;case hz10=>(intro wy;go_simp;try with_reducible rfl)
  refine ai (i:=11) (v:=?vw11) rfl (by kernel_rfl) (fun _ _ _ h=>h) rfl ?hz11 ?rese11;case hz11=>(intro wy;go_simp;try with_reducible rfl)
  try simp only[Act.put,It,Is,Ir,Iq,Iu,Iv]
  refine aF (by kernel_rfl) ?_ _;simp only[aP];clear hcl2;go_wp2;refine LM (v:=.bool false) (by simp[results,Tryz.results118,go_sem]) rfl ⟨by simp[h1],LK M1.out hB3⟩
theorem jw.all {w:World}{v:Value}{qs:List Rat} (h:jw w v qs):∃ p c,v=.slice p qs.length c:=by
 obtain⟨p,c,rfl,-,-⟩:=h.form;exact⟨p,c,rfl⟩
theorem mS (v:Value) (qs:List Rat) (w:World) (hl:IsS w v (qs.map tq)) (hq:∀ q∈qs,okQ q) (hlen:qs.length<1000000) :
  Calls Tryz.prog 22 #[v] w fun e w'=>∃ v',e=.returned v'/\bG w' w.heap.size v' qs/\Below w.heap.size w w':=by
 obtain⟨p,c,rfl,hc1,hc2⟩:=hl.form;rw[IX] at hc1 hl |-;have HL:=Ip hl;have HN:=Ip hlen;clear hl;go_enter Tryz.func22,Tryz.ntmps22;go_wp2;go_loopw [3,4] (fun s3 s4 wr=>∃ (i:Nat),s4=.int .i64 i/\i<=qs.length/\bG wr w.heap.size s3 (qs.take i)/\Below w.heap.size w wr) (fun _ s4 _=>qs.length-(intOf s4).toNat)
 case atStart=>exact⟨0,rfl,IF _,bG.nil _ _,LN _ _⟩
 case round =>
  obtain⟨i,rfl,hin,hown,hbr⟩:=hrel;by_cases hi:i<qs.length
  ·obtain⟨b,o,rfl,hlt,hcell⟩:=IsS.get (HL.out.below hbr) (i:=i) (by simpa using hi);rw[JT] at hcell;have HO:=Ip (hq qs[i] (IS hi));have HT:=Ip (IL hi).symm;obtain⟨q,hqe⟩:∃ q,q=qs[i]:=⟨_,rfl⟩;rw[<-hqe] at hcell HO HT;clear hqe;generalize htx:tq q=s at hcell;have HS:=Ip htx;clear htx;go_wp2_with fail
   have hCC:=oX q wr HO.out;rw[HS.out] at hCC;refine hCC.mono ?_;rintro e w2 ⟨v2,rfl,hv2,hb2⟩;obtain⟨m,a,N,d,a',N',d',rfl⟩:=hv2.forms;have hB2:=LK hbr hb2;have hw2:=hown.below hb2;clear hCC hb2 hown hcell hbr;have m1:=aj w2 (.cells #[.bool m,.slice a N d,.bool false,.slice a' N' d'] 44);have hcx:=heap_alloc_new w2 (.cells #[.bool m,.slice a N d,.bool false,.slice a' N' d'] 44);have hu3:=hv2.below m1;have hw3:=hw2.below m1;have hB3:=LK hB2 m1;have hbs:=hB3.size;have hzl:(qs.take i).length<1000000000:=by have:=HN.out;simp;omega
   clear hv2 hw2 hB2 m1;go_wp2_with (at_builtin;refine cE 48 Tryz.underlying48 rfl (.tmp 11) (.tmp 17) rfl w.heap.size _ _ m a N d a' N' d' q rfl hw3 _ rfl hcx hu3 hzl hbs ?_)
   intro v' w4 hap;have hB4:=hap.below hw3 hB3 (Iw _) hbs;have hw4:=hap.own;rw[<-HT.out] at hw4;clear hap hw3 hu3 hcx hB3 hbs hzl;go_wp2;go_roundw;case rel=>exact⟨i+1,by go_num,by omega,hw4,hB4⟩
   case measure=>simp[intOf];omega
  ·have hin':i=qs.length:=by omega
   subst hin';clear hi;rw[IZ] at hown;go_wp2;refine LM (v:=_) (by simp[results,Tryz.results22,go_sem]) rfl ⟨_,rfl,hown,hbr⟩
def uM (w:World) (base:Nat) (v:Value) (l:List Bool):Prop:=w.ownsRow base 4 1 v l.length (l.map .bool)
theorem uM.below {w w':World}{base:Nat}{v:Value}{l:List Bool} (h:uM w base v l) (hb:Below w.heap.size w w'):uM w' base v l:=fU h hb
theorem uM.lower {w:World}{base base':Nat}{v:Value}{l:List Bool} (h:uM w base v l) (hb:base'<=base):uM w base' v l:=by
 obtain⟨hlen,h⟩:=h;refine⟨hlen,?_⟩;rcases h with h | ⟨g,cap,cur,rfl,hg,r⟩
 ·exact Or.inl h
 ·exact Or.inr ⟨g,cap,cur,rfl,IB hb hg,r⟩
theorem uM.nil (w:World) (base:Nat):uM w base (.slice none 0 0) []:=World.ownsRow_nil _ _ _ _
def qE (w:CQ):Nat->CQ
 | 0=>CQ.real 1
 | j+1=>(qE w j).mul w
theorem CQ.add_zero (a:CQ):a.add ⟨0,0⟩=a:=by
 obtain⟨x,y⟩:=a;unfold CQ.add;congr 1<;>grind
theorem CQ.zero_mul (a:CQ):(⟨0,0⟩:CQ).mul a=⟨0,0⟩:=by
 obtain⟨x,y⟩:=a;unfold CQ.mul;congr 1<;>grind
theorem pow_add (w:CQ) (i:Nat):∀ k,qE w (i+k)=(qE w i).mul (qE w k)
 | 0=>by
  show qE w i=(qE w i).mul (CQ.real 1)
  rw[CQ.mul_one]
 | k+1=>by
  show (qE w (i+k)).mul w=(qE w i).mul ((qE w k).mul w)
  rw[pow_add w i k];generalize qE w i=p;generalize qE w k=q;obtain⟨x,y⟩:=p;obtain⟨u,v⟩:=w;obtain⟨s,t⟩:=q;simp only[CQ.mul,CQ.mk.injEq];constructor<;>grind
theorem ld {l:List Rat}{j:Nat} (h:j<l.length):aD (l.map tq) j=tq (l.getD j 0):=by
 rw[<-fG (l:=l.map tq) (by simpa using h),JT,IK,II h];rfl
structure eR (l:List ByteArray) (qs:List Rat):Prop where
 e:l=qs.map tq
 ov:∃ D,0<D/\D<=2 ^ 84/\∀ q∈qs,Ov D (2 ^ 96) q
 ok:∀ q∈qs,okQ q
 len:qs.length<=7
theorem wE {l:List ByteArray} (hl:l.length<=7) (h:∀ s∈l,bU s.data.toList=true):∃ qs,eR l qs:=by
 obtain⟨qs,D,e,hD,hDl,hall⟩:=pE l h;have h7:(4096:Nat) ^ l.length<=4096 ^ 7:=IQ (by decide) hl;have e7:(4096:Nat) ^ 7=2 ^ 84:=by decide
 refine⟨qs,e,⟨D,hD,by omega,fun q hq=>(hall q hq).1.mono ?_⟩,fun q hq=>(hall q hq).2,by rw[e,IX] at hl;exact hl⟩;have:4096*4096 ^ l.length<=4096*4096 ^ 7:=IV _ h7;rw[e7] at this;exact IB this (by decide)
theorem eR.allC {l:List ByteArray}{qs:List Rat} (h:eR l qs):dY l=.ok (dq (qs.map CQ.real)):=by
 have hl:l.length<=7:=by rw[h.e,IX];exact h.len
 unfold dY;rw[if_neg (by omega),h.e,zo qs h.ok]
structure WV (z:ByteArray) (w:CQ):Prop where
 t:dw ⟨#[49]⟩ z=txt w
 ok:eK w=false
 ov:∃ E,E<=2 ^ 49/\OvC E (2 ^ 49) w
theorem fq {a b:Nat} (h:a<=b):(2:Nat) ^ a<=2 ^ b:=IQ (by decide) h
theorem GW {x a b c:Nat} (h:x<=2 ^ a*2 ^ b) (hc:a+b=c):x<=2 ^ c:=by rw[<-hc,JX];exact h
theorem aV {x y a b c:Nat} (h1:x<=2 ^ a) (h2:y<=2 ^ b) (hc:a+b=c):x*y<=2 ^ c:=GW (Je h1 h2) hc
theorem GX {E e k n m:Nat} (hE:E<=2 ^ e) (hk:k<=n) (hm:e*n=m):E ^ k<=2 ^ m:=by
 rw[<-hm,JP];exact IB (KJ hE k) (IQ (I9 (by decide)) hk)
theorem Hl (n:Nat):(2:Nat) ^ (3*n)<10 ^ (n+1):=by
 rw[JP];have h1:((2:Nat) ^ 3) ^ n<=10 ^ n:=KJ (by decide) n;have h2:(10:Nat) ^ n<10 ^ (n+1):=Nat.pow_lt_pow_right (by decide) (KC n);exact Jb h1 h2
theorem G2 {n k m t:Nat} (h:n<=2 ^ k) (hk:k<=3*m) (ht:m+1=t):n<10 ^ t:=by
 subst ht;exact Jb (IB h (IQ (by decide) hk)) (Hl m)
theorem DD {n k:Nat} (h:n<=2 ^ k) (hk:k<=5997):n<10 ^ 2000:=G2 (m:=1999) (t:=2000) h (by omega) (by omega)
theorem at_val {l:List ByteArray}{qs:List Rat}{z:ByteArray}{w:CQ} (h:eR l qs) (hw:WV z w) :
  ∃ D,D<=2 ^ 427/\OvC D (2 ^ 449) (evQ w qs)/\eK (evQ w qs)=false/\atT l (dw ⟨#[49]⟩ z)=(txt (evQ w qs),0):=by
 obtain⟨D,hD,hDl,hq⟩:=h.ov;obtain⟨E,hE,ho⟩:=hw.ov;have h1:=zC ho hE hD qs hq;have hlen:=h.len;have b1:D*E ^ qs.length<=2 ^ 427:=aV (x:=D) (y:=E ^ qs.length) (a:=84) (b:=343) (c:=427) hDl (GX (E:=E) (e:=49) (k:=qs.length) (n:=7) (m:=343) hE hlen rfl) rfl
 have b2:qs.length*(2 ^ 96*2 ^ (50*qs.length))<=2 ^ 449:=by
  have k1:(2:Nat) ^ (50*qs.length)<=2 ^ 350:=fq (a:=50*qs.length) (b:=350) (by omega);have k2:2 ^ 96*2 ^ (50*qs.length)<=2 ^ 446:=aV (x:=2 ^ 96) (y:=2 ^ (50*qs.length)) (a:=96) (b:=350) (c:=446) (Iw _) k1 rfl;exact aV (x:=qs.length) (y:=2 ^ 96*2 ^ (50*qs.length)) (a:=3) (b:=446) (c:=449) (by omega) k2 rfl
 have h2:=h1.mono b2;have hok:=h2.ok (DD b1 (by decide)) (DD (Iw _) (by decide));refine⟨_,b1,h2,hok,?_⟩;unfold atT;rw[h.allC,hw.t];simp only;unfold ofC;rw[pS hw.ok];simp only;rw[GE,FG hok]
theorem EM {a b:Rat} (ha:okQ a) (hb:okQ b) (h:tq a=tq b):a=b:=congrArg CQ.re (F_ ha hb h)
theorem mJ {a b:List ByteArray} (h:aC a b=true):∃ qa qb,eR a qa/\eR b qb/\0<qa.length/\0<qb.length:=by
 obtain⟨b1,b7,a1,a7,ac,bc,-⟩:=bv h;obtain⟨qa,ha⟩:=wE a7 ac;obtain⟨qb,hb⟩:=wE b7 bc;refine⟨qa,qb,ha,hb,?_,?_⟩
 ·rw[ha.e,IX] at a1;omega
 ·rw[hb.e,IX] at b1;omega
theorem eE {l:List Rat}{k:Nat} (h:k<l.length):l.getD k 0∈l:=by rw[IK,II h];exact IS h
theorem kq {a b:List ByteArray}{qb:List Rat} (h:aC a b=true) (hb:eR b qb):∃ b',qb=1 :: b':=by
 obtain⟨b1,-,-,-,-,bc,hh⟩:=bv h
 have hl:=hb.e
 subst hl
 match qb,hb,b1,hh with
 | q :: b',hb,_,hh =>
  have e:(tq q).data.toList=[49]:=by
   unfold pU at hh
   simpa using hh
  have:tq q=tq 1:=by
   rw[kH]
   exact jy e
  exact⟨b',by rw[EM (hb.ok q (JA ..)) fe this]⟩
def aL (a b:Nat->Rat):Nat->Nat->Rat
 | 0=>b
 | t+1=>fun i=>aL a b t (i+1)-aL a b t 0*a (i+1)
theorem oY {a b:Nat->Rat}{n:Nat} (ha:∀ i,n<i->a i=0) (hb:∀ i,n<i->b i=0):∀ t i,n<i->aL a b t i=0
 | 0,i,h=>hb i h
 | t+1,i,h=>by
  show aL a b t (i+1)-aL a b t 0*a (i+1)=0
  rw[oY ha hb t (i+1) (by omega),ha (i+1) (by omega)];grind
theorem A7 {n:Nat}{a b:Nat->Rat} (hg:dl n a) (h1:a 0=1) (ha:∀ i,n<i->a i=0) (hb:∀ i,n<i->b i=0) (t:Nat) :
  aS n a (aL a b t) (aL a b t)=aL a b t 0*aL a b t 0+aS n a (aL a b (t+1)) (aL a b (t+1)):=by
 have hz:aL a b (t+1) n=0:=by
  show aL a b t (n+1)-aL a b t 0*a (n+1)=0
  rw[oY ha hb t (n+1) (by omega),ha (n+1) (by omega)]
  grind
 have e:∀ i,i<=n->aL a b t i=shE (aL a b (t+1)) i+aL a b t 0*a i:=fun i _=>by
  match i with
  | 0 =>
   show _=0+_
   rw[h1];grind
  | j+1 =>
   show _=aL a b t (j+1)-aL a b t 0*a (j+1)+_
   grind
 rw[eD (fun _ _=>rfl) e e,tR,ko hg,ko hg,zF hg hz,h1]
 show _+2*_*0+_=_
 grind
def sqS (h:Nat->Rat):Nat->Rat
 | 0=>0
 | t+1=>sqS h t+h t*h t
theorem vE {n:Nat}{a b:Nat->Rat} (hg:dl n a) (h1:a 0=1) (ha:∀ i,n<i->a i=0) (hb:∀ i,n<i->b i=0) :
  ∀ t,aS n a b b=sqS (fun s=>aL a b s 0) t+aS n a (aL a b t) (aL a b t)
 | 0=>by
  show _=0+aS n a b b
  grind
 | t+1=>by
  rw[vE hg h1 ha hb t,A7 hg h1 ha hb t,sqS];grind
theorem Fs {n:Nat}{a b:Nat->Rat} (hg:dl n a) (h1:a 0=1) (ha:∀ i,n<i->a i=0) (hb:∀ i,n<i->b i=0) (t:Nat):sqS (fun s=>aL a b s 0) t<=aS n a b b:=by
 rw[vE hg h1 ha hb t];have:=kp (x:=aL a b t) hg;grind
end Go.Proofs.YtlhpcoelfhjomaaGreatDoor
