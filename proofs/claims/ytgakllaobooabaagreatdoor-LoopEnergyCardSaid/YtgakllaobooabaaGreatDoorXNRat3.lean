/- L -/
import Derived.Test.YtgakllaobooabaaGreatDoorXGcd
import Derived.Test.YtgakllaobooabaaGreatDoorXReg
import Derived.Test.YtgakllaobooabaaGreatDoorXB
set_option linter.all false
set_option maxRecDepth 100000
set_option maxHeartbeats 8000000
namespace Go.Proofs.YtgakllaobooabaaGreatDoor
open Go.RowKit Dg
def bt (r s:Rt):Rt:=cT (r.minus != s.minus) (r.n*s.n) (r.d*s.d)
theorem eU (va vb:Value) (r s:Rt) (w:World) (ha:IsR w va r) (hb:IsR w vb s) (h0:0<r.d) (h1:0<s.d)
  (hf3:Few (r.n*s.n)) (hf4:Few (r.d*s.d)) :
  Calls Tryz.prog 103 #[va,vb] w fun e w'=>∃ v,e=.returned v/\IsR w' v (bt r s)/\Below w.heap.size w w':=by
 obtain⟨vn,vd,rfl,hn,hd,hfn,hfd⟩:=ha;obtain⟨un,ud,rfl,kn,kd,gfn,gfd⟩:=hb;obtain⟨z,hz⟩:∃ z,z=bt r s:=⟨_,rfl⟩;rw[<-hz];have HZ:=At hz;clear hz;go_enter Tryz.func103,Tryz.ntmps103;go_upto_region 1 with fail
 have q1:=a_.new w (.bool r.minus) vn vd nofun (IsU.not_int hn) (IsU.not_int hd);have m1:Below w.heap.size w (w.alloc (.cells #[.bool r.minus,vn,vd] 63)):=(Dv _ _).alloc (AA _) _;have z1:(w.alloc (.cells #[.bool r.minus,vn,vd] 63)).heap.size=w.heap.size+1:=by show (Array.push _ _).size=_;exact A7 _
 generalize w.alloc (.cells #[.bool r.minus,vn,vd] 63)=w1 at *
 have q2:=a_.new w1 (.bool s.minus) un ud nofun (IsU.not_int kn) (IsU.not_int kd);have m2:Below w1.heap.size w1 (w1.alloc (.cells #[.bool s.minus,un,ud] 63)):=(Dv _ _).alloc (AA _) _;have z2:(w1.alloc (.cells #[.bool s.minus,un,ud] 63)).heap.size=w1.heap.size+1:=by show (Array.push _ _).size=_;exact A7 _
 generalize w1.alloc (.cells #[.bool s.minus,un,ud] 63)=w2 at *
 have q3:=a_.new w2 (.bool false) (.slice none 0 0) (.slice none 0 0) nofun nofun nofun;have m3:Below w2.heap.size w2 (w2.alloc (.cells #[.bool false,.slice none 0 0,.slice none 0 0] 63)):=(Dv _ _).alloc (AA _) _;generalize w2.alloc (.cells #[.bool false,.slice none 0 0,.slice none 0 0] 63)=w3 at *
 have m4:Below w3.heap.size w3 w3.drew:=(Dv _ _).drew;rw[z2,z1] at q3;rw[z1] at q2;refine wp_mono (aH (Q:=ci _) (fun wx:World=>Below w3.drew.heap.size w3.drew wx) (fun i=>i == 16) (by kernel_rfl) ?_) (fun _ _ _ h=>cL h);generalize w3.drew=wd at *
 have hS:Below wd.heap.size wd wd:=Dv _ _;have M12:=m1.trans (m2.mono m1.size);have M13:=M12.trans (m3.mono M12.size);have MD:=At (M13.trans (m4.mono M13.size));have B1:=At (((q1.below m2).below m3).below m4);have B2:=At ((q2.below m3).below m4);have B3:=At (q3.below m4);have HN:=At (hn.below MD.out);have HD:=At (hd.below MD.out);have KN:=At (kn.below MD.out);have KD:=At (kd.below MD.out);clear q1 q2 q3 m1 m2 m3 m4 z1 z2 M12 M13 hn hd kn kd;refine Ds 0 (r:=?_)
 try simp only[Act.put,Ax,Aw,Av,Au,Ay,Az]
 refine aB (i:=1) (v:=?vv1) rfl (by kernel_rfl) (fun _ _ _ h=>h) rfl hS ?hy1 ?rest1
 case hy1 =>
  intro wy hy;have e1:=B1.out.below hy;have e2:=B2.out.below hy;have a0:=e1.c0;have a1:=e1.c1;have a2:=e1.c2;have b0:=e2.c0;have b1:=e2.c1;have b2:=e2.c2;clear e1 e2 hy;go_simp;try with_reducible rfl
 try simp only[Act.put,Ax,Aw,Av,Au,Ay,Az]
 refine Ds 2 (r:=?_)
 try simp only[Act.put,Ax,Aw,Av,Au,Ay,Az]
 refine aB (i:=3) (v:=?vv3) rfl (by kernel_rfl) (fun _ _ _ h=>h) rfl hS ?hy3 ?rest3
 case hy3 =>
  intro wy hy;have e1:=B1.out.below hy;have e2:=B2.out.below hy;have a0:=e1.c0;have a1:=e1.c1;have a2:=e1.c2;have b0:=e2.c0;have b1:=e2.c1;have b2:=e2.c2;clear e1 e2 hy;go_simp;try with_reducible rfl
 try simp only[Act.put,Ax,Aw,Av,Au,Ay,Az]
 refine Ds 4 (r:=?_)
 try simp only[Act.put,Ax,Aw,Av,Au,Ay,Az]
 refine Ds 5 (r:=?_)
 try simp only[Act.put,Ax,Aw,Av,Au,Ay,Az]
 refine aB (i:=6) (v:=?vv6) rfl (by kernel_rfl) (fun _ _ _ h=>h) rfl hS ?hy6 ?rest6
 case hy6 =>
  intro wy hy;have e1:=B1.out.below hy;have e2:=B2.out.below hy;have a0:=e1.c0;have a1:=e1.c1;have a2:=e1.c2;have b0:=e2.c0;have b1:=e2.c1;have b2:=e2.c2;clear e1 e2 hy;go_simp;try with_reducible rfl
 try simp only[Act.put,Ax,Aw,Av,Au,Ay,Az]
 refine Ds 7 (r:=?_)
 try simp only[Act.put,Ax,Aw,Av,Au,Ay,Az]
 refine aB (i:=8) (v:=?vv8) rfl (by kernel_rfl) (fun _ _ _ h=>h) rfl hS ?hy8 ?rest8
 case hy8 =>
  intro wy hy;have e1:=B1.out.below hy;have e2:=B2.out.below hy;have a0:=e1.c0;have a1:=e1.c1;have a2:=e1.c2;have b0:=e2.c0;have b1:=e2.c1;have b2:=e2.c2;clear e1 e2 hy;go_simp;try with_reducible rfl
 try simp only[Act.put,Ax,Aw,Av,Au,Ay,Az]
 refine Ds 10 (r:=?_)
 try simp only[Act.put,Ax,Aw,Av,Au,Ay,Az]
 refine aB (i:=11) (v:=?vv11) rfl (by kernel_rfl) (fun _ _ _ h=>h) rfl hS ?hy11 ?rest11
 case hy11 =>
  intro wy hy;have e1:=B1.out.below hy;have e2:=B2.out.below hy;have a0:=e1.c0;have a1:=e1.c1;have a2:=e1.c2;have b0:=e2.c0;have b1:=e2.c1;have b2:=e2.c2;clear e1 e2 hy;go_simp;try with_reducible rfl
 try simp only[Act.put,Ax,Aw,Av,Au,Ay,Az]
 refine Ds 12 (r:=?_)
 try simp only[Act.put,Ax,Aw,Av,Au,Ay,Az]
 refine aB (i:=13) (v:=?vv13) rfl (by kernel_rfl) (fun _ _ _ h=>h) rfl hS ?hy13 ?rest13
 case hy13 =>
  intro wy hy;have e1:=B1.out.below hy;have e2:=B2.out.below hy;have a0:=e1.c0;have a1:=e1.c1;have a2:=e1.c2;have b0:=e2.c0;have b1:=e2.c1;have b2:=e2.c2;clear e1 e2 hy;go_simp;try with_reducible rfl
 try simp only[Act.put,Ax,Aw,Av,Au,Ay,Az]
 refine aC (i:=9) rfl (by kernel_rfl) rfl (fun K hK=>?_);go_simp;refine (lC _ _ r.n s.n _ HN.out KN.out hfn gfn).mono ?_;rintro e w4 ⟨v4,rfl,hv4,hb4⟩;refine hK _ _ (fun _ _=>hb4) ?_;clear hK K;try simp only[Act.put,Ax,Aw,Av,Au,Ay,Az]
 refine aC (i:=14) rfl (by kernel_rfl) rfl (fun K hK=>?_);go_simp;refine (lC _ _ r.d s.d _ (HD.out.below hb4) (KD.out.below hb4) hfd gfd).mono ?_;rintro e w5 ⟨v5,rfl,hv5,hb5⟩;have hB5:=hb4.trans (hb5.mono hb4.size);refine hK _ _ (fun _ _=>hB5) ?_;clear hK K;try simp only[Act.put,Ax,Aw,Av,Au,Ay,Az]
 refine aC (i:=15) rfl (by kernel_rfl) rfl (fun K hK=>?_);go_simp;have hred:Calls Tryz.prog 81 #[.bool (r.minus != s.minus),v4,v5] w5 fun e w'=>∃ v,e=.returned v/\IsR w' v z/\Below w5.heap.size w5 w':=by rw[HZ.out];exact dU _ v4 v5 _ _ w5 (hv4.below hb5) hv5 hf3 hf4 (AN h0 h1)
 refine hred.mono ?_;clear hred;rintro e w8 ⟨v8,rfl,⟨xn,xd,rfl,hx1,hx2,hx3,hx4⟩,hb8⟩;obtain⟨pn,cn,rfl,-,-,-⟩:=id hx1;obtain⟨pd,cd,rfl,-,-,-⟩:=id hx2;have hB8:=hB5.trans (hb8.mono hB5.size);refine hK _ _ (fun _ _=>hB8) ?_;clear hK K;try simp only[Act.put,Ax,Aw,Av,Au,Ay,Az]
 have B8:=B3.out.below hB8;have k0:=B8.c0;have k1:=B8.c1;have k2:=B8.c2;have f0:=B8.fr 0;have f1:=B8.fr 1;have f2:=B8.fr 2;have P:=At (B8.put (a':=.bool z.minus) (b':=.slice pn _ cn) (c':=.slice pd _ cd) nofun (IsU.not_int hx1) (IsU.not_int hx2));have M8:=At (MD.out.trans (hB8.mono MD.out.size));have HX:=At (And.intro hx1 (And.intro hx2 (And.intro hx3 hx4)));clear hx1 hx2 hx3 hx4 B8 B1 B2 B3 HN HD KN KD hS hv4 hv5 hb4 hb5 hB5 hb8 hB8 MD;refine aC (i:=16) rfl (by kernel_rfl) rfl (fun K hK=>?_);go_simp;refine hK _ _ (fun h _=>by simp at h) ?_;clear hK K;try simp only[Act.put,Ax,Aw,Av,Au,Ay,Az]
 refine bC (by kernel_rfl) ?_ _;simp only[ci];go_wp2_with fail
 have q0:=P.out.1.c0;have q1:=P.out.1.c1;have q2:=P.out.1.c2;refine Du (v:=.agg #[.bool z.minus,.slice pn (ag BB z.n).length cn,.slice pd (ag BB z.d).length cd]) (by simp[results,Tryz.results103,go_sem,q0,q1,q2]) rfl ⟨_,rfl,⟨_,_,rfl,P.out.2.1 _ _ HX.out.1,P.out.2.1 _ _ HX.out.2.1,HX.out.2.2.1,HX.out.2.2.2⟩,P.out.2.2 w M8.out ?_⟩;omega
def xR (r s:Rt):Int:=if (bZ r (dy s)).n=0 then 0 else if (bZ r (dy s)).minus then -1 else 1
theorem kN (va vb:Value) (r s:Rt) (w:World) (ha:IsR w va r) (hb:IsR w vb s) (h0:0<r.d) (h1:0<s.d)
  (hf1:Few (r.n*s.d)) (hf2:Few (s.n*r.d)) (hf3:Few (r.n*s.d+s.n*r.d)) (hf4:Few (r.d*s.d)) :
  Calls Tryz.prog 35 #[va,vb] w fun e w'=>e=.returned (.int .i64 (xR r s))/\Below w.heap.size w w':=by
 have HA0:=At ha;have HB0:=At hb;obtain⟨vn,vd,rfl,hn,hd,hfn,hfd⟩:=ha;obtain⟨un,ud,rfl,kn,kd,gfn,gfd⟩:=hb;obtain⟨z,hz⟩:∃ z,z=bZ r (dy s):=⟨_,rfl⟩;unfold xR;rw[<-hz];have HZ:=At hz;clear hz;go_enter Tryz.func35,Tryz.ntmps35;go_upto_region 1 with fail
 have q1:=a_.new w (.bool r.minus) vn vd nofun (IsU.not_int hn) (IsU.not_int hd);have m1:Below w.heap.size w (w.alloc (.cells #[.bool r.minus,vn,vd] 63)):=(Dv _ _).alloc (AA _) _;have z1:(w.alloc (.cells #[.bool r.minus,vn,vd] 63)).heap.size=w.heap.size+1:=by show (Array.push _ _).size=_;exact A7 _
 generalize w.alloc (.cells #[.bool r.minus,vn,vd] 63)=w1 at *
 have q2:=a_.new w1 (.bool s.minus) un ud nofun (IsU.not_int kn) (IsU.not_int kd);have m2:Below w1.heap.size w1 (w1.alloc (.cells #[.bool s.minus,un,ud] 63)):=(Dv _ _).alloc (AA _) _;have z2:(w1.alloc (.cells #[.bool s.minus,un,ud] 63)).heap.size=w1.heap.size+1:=by show (Array.push _ _).size=_;exact A7 _
 generalize w1.alloc (.cells #[.bool s.minus,un,ud] 63)=w2 at *
 have m4:Below w2.heap.size w2 w2.drew:=(Dv _ _).drew;rw[z1] at q2;refine wp_mono (aH (Q:=ci _) (fun wx:World=>Below w2.drew.heap.size w2.drew wx) (fun i=>i == 5) (by kernel_rfl) ?_) (fun _ _ _ h=>cL h);generalize w2.drew=wd at *
 have hS:Below wd.heap.size wd wd:=Dv _ _;have M12:=m1.trans (m2.mono m1.size);have MD:=At (M12.trans (m4.mono M12.size));have B1:=At ((q1.below m2).below m4);have B2:=At (q2.below m4);have HA:=At (HA0.out.below MD.out);have HB:=At (HB0.out.below MD.out);clear q1 q2 m1 m2 m4 z1 z2 M12 hn hd kn kd HA0 HB0;refine aB (i:=0) (v:=?vv0) rfl (by kernel_rfl) (fun _ _ _ h=>h) rfl hS ?hy0 ?rest0
 case hy0 =>
  intro wy hy;have e1:=B1.out.below hy;have e2:=B2.out.below hy;have a0:=e1.c0;have a1:=e1.c1;have a2:=e1.c2;have b0:=e2.c0;have b1:=e2.c1;have b2:=e2.c2;clear e1 e2 hy;go_simp;try with_reducible rfl
 try simp only[Act.put,Ax,Aw,Av,Au,Ay,Az]
 refine aB (i:=1) (v:=?vv1) rfl (by kernel_rfl) (fun _ _ _ h=>h) rfl hS ?hy1 ?rest1
 case hy1 =>
  intro wy hy;have e1:=B1.out.below hy;have e2:=B2.out.below hy;have a0:=e1.c0;have a1:=e1.c1;have a2:=e1.c2;have b0:=e2.c0;have b1:=e2.c1;have b2:=e2.c2;clear e1 e2 hy;go_simp;try with_reducible rfl
 try simp only[Act.put,Ax,Aw,Av,Au,Ay,Az]
 refine kC (i:=2) (i':=4) rfl rfl (by kernel_rfl) rfl rfl (fun K hK=>?_) (fun K hK=>?_)
 ·go_simp;refine (qQ _ s _ (HB.out.below hS)).mono ?_;rintro e w4 ⟨v4,rfl,hv4,hb4⟩;have hB4:=Below.trans hS (hb4.mono (Below.size hS));refine hK _ _ (fun _ _=>hB4) ?_;clear hK K;try simp only[Act.put,Ax,Aw,Av,Au,Ay,Az]
  refine kC (i:=3) (i':=4) rfl rfl (by kernel_rfl) rfl rfl (fun K hK=>?_) (fun K hK=>?_)
  ·go_simp;have hpl:Calls Tryz.prog 68 #[.agg #[.bool r.minus,vn,vd],v4] w4 fun e w'=>∃ v,e=.returned v/\IsR w' v z/\Below w4.heap.size w4 w':=by rw[HZ.out];exact iE _ _ r (dy s) _ (HA.out.below hB4) hv4 h0 h1 hf1 hf2 hf3 hf4
   refine hpl.mono ?_;clear hpl;rintro e w5 ⟨v5,rfl,⟨xn,xd,rfl,hx1,hx2,hx3,hx4⟩,hb5⟩;obtain⟨pn,cn,rfl,-,-,-⟩:=id hx1;obtain⟨pd,cd,rfl,-,-,-⟩:=id hx2;have hB5:=Below.trans hB4 (hb5.mono (Below.size hB4));refine hK _ _ (fun _ _=>hB5) ?_;clear hK K;try simp only[Act.put,Ax,Aw,Av,Au,Ay,Az]
   refine aC (i:=4) rfl (by kernel_rfl) rfl (fun K hK=>?_);go_simp;have B3:=a_.new w5 (.bool false) (.slice none 0 0) (.slice none 0 0) nofun nofun nofun;have mA:Below w5.heap.size w5 (w5.alloc (.cells #[.bool false,.slice none 0 0,.slice none 0 0] 63)):=(Dv _ _).alloc (AA _) _;have hC:=Below.trans hB5 (mA.mono (Below.size hB5));refine hK _ _ (fun _ _=>hC) ?_;clear hK K;try simp only[Act.put,Ax,Aw,Av,Au,Ay,Az]
   generalize w5.alloc (.cells #[.bool false,.slice none 0 0,.slice none 0 0] 63)=wc at *
   have hx1:=hx1.below mA;have hx2:=hx2.below mA;have B8:=B3;have hk:=hB5.size;have k0:=B8.c0;have k1:=B8.c1;have k2:=B8.c2;have f0:=B8.fr 0;have f1:=B8.fr 1;have f2:=B8.fr 2;have P:=At (B8.put (a':=.bool z.minus) (b':=.slice pn _ cn) (c':=.slice pd _ cd) nofun (IsU.not_int hx1) (IsU.not_int hx2));have M8:=At (MD.out.trans (Below.mono hC MD.out.size));have hk0:w.heap.size<=w5.heap.size:=AP MD.out.size hk;have HX:=At (show IsR _ (.agg #[.bool z.minus,.slice pn _ cn,.slice pd _ cd]) z from⟨_,_,rfl,P.out.2.1 _ _ hx1,P.out.2.1 _ _ hx2,hx3,hx4⟩);have MF:=At (P.out.2.2 w M8.out hk0);have PB:=At P.out.1;clear P M8 hx1 hx2 hx3 hx4 B8 B1 B2 HA HB MD;refine aC (i:=5) rfl (by kernel_rfl) rfl (fun K hK=>?_);go_simp;refine hK _ _ (fun h _=>by simp at h) ?_;clear hK K k0 k1 k2 f0 f1 f2;try simp only[Act.put,Ax,Aw,Av,Au,Ay,Az]
   refine bC (by kernel_rfl) ?_ _;simp only[ci];generalize World.setCell _ _ _=wf at *
   have q0:=PB.out.c0;have q1:=PB.out.c1;have q2:=PB.out.c2;go_wp2_with (go_at_call 70;refine (eW _ z _ HX.out).mono ?_;rintro e w9 ⟨rfl,hb9⟩;have q3:=(PB.out.below hb9).c0;have MG:=MF.out.trans (hb9.mono MF.out.size);clear hb9 q0 q1 q2)
   all_goals
    go_ret;exact⟨rfl,MG⟩
  ·go_simp;have B3:=a_.new w4 (.bool false) (.slice none 0 0) (.slice none 0 0) nofun nofun nofun;have mA:Below w4.heap.size w4 (w4.alloc (.cells #[.bool false,.slice none 0 0,.slice none 0 0] 63)):=(Dv _ _).alloc (AA _) _;have hC:=Below.trans hB4 (mA.mono (Below.size hB4));refine hK _ _ (fun _ _=>hC) ?_;clear hK K;try simp only[Act.put,Ax,Aw,Av,Au,Ay,Az]
   generalize w4.alloc (.cells #[.bool false,.slice none 0 0,.slice none 0 0] 63)=wc at *
   have hv5:=hv4.below mA;refine aC (i:=3) rfl (by kernel_rfl) rfl (fun K hK=>?_);go_simp;have hpl:Calls Tryz.prog 68 #[.agg #[.bool r.minus,vn,vd],v4] wc fun e w'=>∃ v,e=.returned v/\IsR w' v z/\Below wc.heap.size wc w':=by rw[HZ.out];exact iE _ _ r (dy s) _ (HA.out.below hC) hv5 h0 h1 hf1 hf2 hf3 hf4
   refine hpl.mono ?_;clear hpl;rintro e w5 ⟨v5,rfl,⟨xn,xd,rfl,hx1,hx2,hx3,hx4⟩,hb5⟩;obtain⟨pn,cn,rfl,-,-,-⟩:=id hx1;obtain⟨pd,cd,rfl,-,-,-⟩:=id hx2;have hB5:=Below.trans hC (hb5.mono (Below.size hC));refine hK _ _ (fun _ _=>hB5) ?_;clear hK K;try simp only[Act.put,Ax,Aw,Av,Au,Ay,Az]
   have B8:=B3.below hb5;have hk:=hB4.size;have k0:=B8.c0;have k1:=B8.c1;have k2:=B8.c2;have f0:=B8.fr 0;have f1:=B8.fr 1;have f2:=B8.fr 2;have P:=At (B8.put (a':=.bool z.minus) (b':=.slice pn _ cn) (c':=.slice pd _ cd) nofun (IsU.not_int hx1) (IsU.not_int hx2));have M8:=At (MD.out.trans (Below.mono hB5 MD.out.size));have hk0:w.heap.size<=w4.heap.size:=AP MD.out.size hk;have HX:=At (show IsR _ (.agg #[.bool z.minus,.slice pn _ cn,.slice pd _ cd]) z from⟨_,_,rfl,P.out.2.1 _ _ hx1,P.out.2.1 _ _ hx2,hx3,hx4⟩);have MF:=At (P.out.2.2 w M8.out hk0);have PB:=At P.out.1;clear P M8 hx1 hx2 hx3 hx4 B8 B1 B2 HA HB MD;refine aC (i:=5) rfl (by kernel_rfl) rfl (fun K hK=>?_);go_simp;refine hK _ _ (fun h _=>by simp at h) ?_;clear hK K k0 k1 k2 f0 f1 f2;try simp only[Act.put,Ax,Aw,Av,Au,Ay,Az]
   refine bC (by kernel_rfl) ?_ _;simp only[ci];generalize World.setCell _ _ _=wf at *
   have q0:=PB.out.c0;have q1:=PB.out.c1;have q2:=PB.out.c2;go_wp2_with (go_at_call 70;refine (eW _ z _ HX.out).mono ?_;rintro e w9 ⟨rfl,hb9⟩;have q3:=(PB.out.below hb9).c0;have MG:=MF.out.trans (hb9.mono MF.out.size);clear hb9 q0 q1 q2)
   all_goals
    go_ret;exact⟨rfl,MG⟩
 ·go_simp;have B3:=a_.new wd (.bool false) (.slice none 0 0) (.slice none 0 0) nofun nofun nofun;have mA:Below wd.heap.size wd (wd.alloc (.cells #[.bool false,.slice none 0 0,.slice none 0 0] 63)):=(Dv _ _).alloc (AA _) _;have hC:=Below.trans hS (mA.mono (Below.size hS));refine hK _ _ (fun _ _=>hC) ?_;clear hK K;try simp only[Act.put,Ax,Aw,Av,Au,Ay,Az]
  generalize wd.alloc (.cells #[.bool false,.slice none 0 0,.slice none 0 0] 63)=wc at *
  refine aC (i:=2) rfl (by kernel_rfl) rfl (fun K hK=>?_);go_simp;refine (qQ _ s _ (HB.out.below hC)).mono ?_;rintro e w4 ⟨v4,rfl,hv4,hb4⟩;have hB4:=Below.trans hC (hb4.mono (Below.size hC));refine hK _ _ (fun _ _=>hB4) ?_;clear hK K;try simp only[Act.put,Ax,Aw,Av,Au,Ay,Az]
  refine aC (i:=3) rfl (by kernel_rfl) rfl (fun K hK=>?_);go_simp;have hpl:Calls Tryz.prog 68 #[.agg #[.bool r.minus,vn,vd],v4] w4 fun e w'=>∃ v,e=.returned v/\IsR w' v z/\Below w4.heap.size w4 w':=by rw[HZ.out];exact iE _ _ r (dy s) _ (HA.out.below hB4) hv4 h0 h1 hf1 hf2 hf3 hf4
  refine hpl.mono ?_;clear hpl;rintro e w5 ⟨v5,rfl,⟨xn,xd,rfl,hx1,hx2,hx3,hx4⟩,hb5⟩;obtain⟨pn,cn,rfl,-,-,-⟩:=id hx1;obtain⟨pd,cd,rfl,-,-,-⟩:=id hx2;have hB5:=Below.trans hB4 (hb5.mono (Below.size hB4));refine hK _ _ (fun _ _=>hB5) ?_;clear hK K;try simp only[Act.put,Ax,Aw,Av,Au,Ay,Az]
  have B8:=(B3.below hb4).below hb5;have hk:=AA wd.heap.size;have k0:=B8.c0;have k1:=B8.c1;have k2:=B8.c2;have f0:=B8.fr 0;have f1:=B8.fr 1;have f2:=B8.fr 2;have P:=At (B8.put (a':=.bool z.minus) (b':=.slice pn _ cn) (c':=.slice pd _ cd) nofun (IsU.not_int hx1) (IsU.not_int hx2));have M8:=At (MD.out.trans (Below.mono hB5 MD.out.size));have hk0:w.heap.size<=wd.heap.size:=AP MD.out.size hk;have HX:=At (show IsR _ (.agg #[.bool z.minus,.slice pn _ cn,.slice pd _ cd]) z from⟨_,_,rfl,P.out.2.1 _ _ hx1,P.out.2.1 _ _ hx2,hx3,hx4⟩);have MF:=At (P.out.2.2 w M8.out hk0);have PB:=At P.out.1;clear P M8 hx1 hx2 hx3 hx4 B8 B1 B2 HA HB MD;refine aC (i:=5) rfl (by kernel_rfl) rfl (fun K hK=>?_);go_simp;refine hK _ _ (fun h _=>by simp at h) ?_;clear hK K k0 k1 k2 f0 f1 f2;try simp only[Act.put,Ax,Aw,Av,Au,Ay,Az]
  refine bC (by kernel_rfl) ?_ _;simp only[ci];generalize World.setCell _ _ _=wf at *
  have q0:=PB.out.c0;have q1:=PB.out.c1;have q2:=PB.out.c2;go_wp2_with (go_at_call 70;refine (eW _ z _ HX.out).mono ?_;rintro e w9 ⟨rfl,hb9⟩;have q3:=(PB.out.below hb9).c0;have MG:=MF.out.trans (hb9.mono MF.out.size);clear hb9 q0 q1 q2)
  all_goals
   go_ret;exact⟨rfl,MG⟩
end Go.Proofs.YtgakllaobooabaaGreatDoor
