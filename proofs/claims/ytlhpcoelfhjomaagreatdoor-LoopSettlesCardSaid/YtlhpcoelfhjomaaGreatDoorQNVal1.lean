/- L -/
import Derived.Test.YtlhpcoelfhjomaaGreatDoorQReg
set_option linter.all false
set_option maxRecDepth 100000
set_option maxHeartbeats 8000000
namespace Go.Proofs.YtlhpcoelfhjomaaGreatDoor
open Go.RowKit Dg
structure xB (r s:Rt):Prop where
 h0:0<r.d
 h1:0<s.d
 f1:Few (r.n*s.d)
 f2:Few (s.n*r.d)
 f3:Few (r.n*s.d+s.n*r.d)
 f4:Few (r.d*s.d)
def qC (u v:Vl):Vl:=⟨dS u.x v.x,dS u.y v.y⟩
theorem yC (va vb:Value) (u v:Vl) (w:World) (ha:IsV w va u) (hb:IsV w vb v) (hx:xB u.x v.x) (hy:xB u.y v.y) :
  Calls Tryz.prog 112 #[va,vb] w fun e w'=>∃ t,e=.returned t/\IsV w' t (qC u v)/\Below w.heap.size w w':=by
 obtain⟨a,b,c,d,e,f,rfl,hax,hay⟩:=ha;obtain⟨a',b',c',d',e',f',rfl,hbx,hby⟩:=hb;obtain⟨zx,hzx⟩:∃ z,z=dS u.x v.x:=⟨_,rfl⟩;obtain⟨zy,hzy⟩:∃ z,z=dS u.y v.y:=⟨_,rfl⟩;unfold qC;rw[<-hzx,<-hzy];have HZX:=Ip hzx;have HZY:=Ip hzy;clear hzx hzy;go_enter Tryz.func112,Tryz.ntmps112;go_upto_region 1 with fail
 have q1:=cC.new w a b c d e f 93;have m1:Below w.heap.size w (w.alloc (.cells #[a,b,c,d,e,f] 93)):=(LN _ _).alloc (Iw _) _;have z1:(w.alloc (.cells #[a,b,c,d,e,f] 93)).heap.size=w.heap.size+1:=by show (Array.push _ _).size=_;exact Ja _
 generalize w.alloc (.cells #[a,b,c,d,e,f] 93)=w1 at *
 have q2:=cC.new w1 a' b' c' d' e' f' 93;have m2:Below w1.heap.size w1 (w1.alloc (.cells #[a',b',c',d',e',f'] 93)):=(LN _ _).alloc (Iw _) _;have z2:(w1.alloc (.cells #[a',b',c',d',e',f'] 93)).heap.size=w1.heap.size+1:=by show (Array.push _ _).size=_;exact Ja _
 generalize w1.alloc (.cells #[a',b',c',d',e',f'] 93)=w2 at *
 have q3:=du.new w2 (.bool false) (.slice none 0 0) (.slice none 0 0) (.bool false) (.slice none 0 0) (.slice none 0 0) nofun nofun nofun nofun nofun nofun;have m3:Below w2.heap.size w2 (w2.alloc (.cells #[.bool false,.slice none 0 0,.slice none 0 0,.bool false,.slice none 0 0,.slice none 0 0] 93)):=(LN _ _).alloc (Iw _) _;generalize w2.alloc (.cells #[.bool false,.slice none 0 0,.slice none 0 0,.bool false,.slice none 0 0,.slice none 0 0] 93)=w3 at *
 have m4:Below w3.heap.size w3 w3.drew:=(LN _ _).drew;rw[z2,z1] at q3;rw[z1] at q2;refine wp_mono (ax (Q:=aP _) (fun wx:World=>Below w3.drew.heap.size w3.drew wx) (fun i=>i == 11) (by kernel_rfl) ?_) (fun _ _ _ h=>aY h);generalize w3.drew=wd at *
 have hS:Below wd.heap.size wd wd:=LN _ _;have M12:=LK m1 m2;have M13:=LK M12 m3;have MD:=Ip (LK M13 m4);have B1:=Ip (((q1.below m2).below m3).below m4);have B2:=Ip ((q2.below m3).below m4);have B3:=Ip (q3.below m4);have HAX:=Ip (hax.below MD.out);have HAY:=Ip (hay.below MD.out);have HBX:=Ip (hbx.below MD.out);have HBY:=Ip (hby.below MD.out);clear q1 q2 q3 m1 m2 m3 m4 z1 z2 M12 M13 hax hay hbx hby;refine LJ 0 (r:=?_)
 refine ay (i:=1) (v:=?vv1) rfl (by kernel_rfl) (fun _ _ _ h=>h) rfl hS ?hy1 ?rest1
 case hy1 =>
  intro wy hy;have e1:=B1.out.below hy;have e2:=B2.out.below hy;have a0:=e1.c0;have a1:=e1.c1;have a2:=e1.c2;have a3:=e1.c3;have a4:=e1.c4;have a5:=e1.c5;have b0:=e2.c0;have b1:=e2.c1;have b2:=e2.c2;have b3:=e2.c3;have b4:=e2.c4;have b5:=e2.c5;clear e1 e2 hy;go_simp;try with_reducible rfl
 refine LJ 2 (r:=?_)
 refine ay (i:=3) (v:=?vv3) rfl (by kernel_rfl) (fun _ _ _ h=>h) rfl hS ?hy3 ?rest3
 case hy3 =>
  intro wy hy;have e1:=B1.out.below hy;have e2:=B2.out.below hy;have a0:=e1.c0;have a1:=e1.c1;have a2:=e1.c2;have a3:=e1.c3;have a4:=e1.c4;have a5:=e1.c5;have b0:=e2.c0;have b1:=e2.c1;have b2:=e2.c2;have b3:=e2.c3;have b4:=e2.c4;have b5:=e2.c5;clear e1 e2 hy;go_simp;try with_reducible rfl
 refine LJ 5 (r:=?_)
 refine ay (i:=6) (v:=?vv6) rfl (by kernel_rfl) (fun _ _ _ h=>h) rfl hS ?hy6 ?rest6
 case hy6 =>
  intro wy hy;have e1:=B1.out.below hy;have e2:=B2.out.below hy;have a0:=e1.c0;have a1:=e1.c1;have a2:=e1.c2;have a3:=e1.c3;have a4:=e1.c4;have a5:=e1.c5;have b0:=e2.c0;have b1:=e2.c1;have b2:=e2.c2;have b3:=e2.c3;have b4:=e2.c4;have b5:=e2.c5;clear e1 e2 hy;go_simp;try with_reducible rfl
 refine LJ 7 (r:=?_)
 refine ay (i:=8) (v:=?vv8) rfl (by kernel_rfl) (fun _ _ _ h=>h) rfl hS ?hy8 ?rest8
 case hy8 =>
  intro wy hy;have e1:=B1.out.below hy;have e2:=B2.out.below hy;have a0:=e1.c0;have a1:=e1.c1;have a2:=e1.c2;have a3:=e1.c3;have a4:=e1.c4;have a5:=e1.c5;have b0:=e2.c0;have b1:=e2.c1;have b2:=e2.c2;have b3:=e2.c3;have b4:=e2.c4;have b5:=e2.c5;clear e1 e2 hy;go_simp;try with_reducible rfl
 try simp only[Act.put,It,Is,Ir,Iq,Iu,Iv]
 refine ar (i:=4) rfl (by kernel_rfl) rfl (fun K hK=>?_);go_simp;have hp1:Calls Tryz.prog 144 #[.agg #[a,b,c],.agg #[a',b',c']] wd fun e w'=>∃ v,e=.returned v/\IsR w' v zx/\Below wd.heap.size wd w':=by rw[HZX.out];exact lA _ _ _ _ _ HAX.out HBX.out hx.h0 hx.h1 hx.f1 hx.f2 hx.f3 hx.f4
 refine hp1.mono ?_;clear hp1;rintro e w4 ⟨v4,rfl,hv4,hb4⟩;refine hK _ _ (fun _ _=>hb4) ?_;clear hK K;try simp only[Act.put,It,Is,Ir,Iq,Iu,Iv]
 refine ar (i:=9) rfl (by kernel_rfl) rfl (fun K hK=>?_);go_simp;have hp2:Calls Tryz.prog 144 #[.agg #[d,e,f],.agg #[d',e',f']] w4 fun e w'=>∃ v,e=.returned v/\IsR w' v zy/\Below w4.heap.size w4 w':=by rw[HZY.out];exact lA _ _ _ _ _ (HAY.out.below hb4) (HBY.out.below hb4) hy.h0 hy.h1 hy.f1 hy.f2 hy.f3 hy.f4
 refine hp2.mono ?_;clear hp2;rintro e w5 ⟨v5,rfl,hv5,hb5⟩;have hB5:=LK hb4 hb5;have hv4:=hv4.below hb5;obtain⟨xn,xd,rfl,hx1,hx2,hx3,hx4⟩:=hv4;obtain⟨yn,yd,rfl,hy1,hy2,hy3,hy4⟩:=hv5;obtain⟨pn,cn,rfl,-,-,-⟩:=id hx1;obtain⟨pd,cd,rfl,-,-,-⟩:=id hx2;obtain⟨rn,dn,rfl,-,-,-⟩:=id hy1;obtain⟨rd,dd,rfl,-,-,-⟩:=id hy2;refine hK _ _ (fun _ _=>hB5) ?_;clear hK K;try simp only[Act.put,It,Is,Ir,Iq,Iu,Iv]
 have B8:=B3.out.below hB5;have k0:=B8.cell 0;have k1:=B8.cell 1;have k2:=B8.cell 2;have k3:=B8.cell 3;have k4:=B8.cell 4;have k5:=B8.cell 5;have f0:=B8.fr 0;have f1:=B8.fr 1;have f2:=B8.fr 2;have f3:=B8.fr 3;have f4:=B8.fr 4;have f5:=B8.fr 5;have P:=Ip (B8.put (a':=.bool zx.minus) (b':=.slice pn _ cn) (c':=.slice pd _ cd) (d':=.bool zy.minus) (e':=.slice rn _ dn) (f':=.slice rd _ dd) nofun (IsU.not_int hx1) (IsU.not_int hx2) nofun (IsU.not_int hy1) (IsU.not_int hy2));have M8:=Ip (LK MD.out hB5);have HX:=Ip (show IsV _ (.agg #[.bool zx.minus,.slice pn _ cn,.slice pd _ cd,.bool zy.minus,.slice rn _ dn,.slice rd _ dd]) ⟨zx,zy⟩ from⟨_,_,_,_,_,_,rfl,⟨_,_,rfl,P.out.2.1 _ _ hx1,P.out.2.1 _ _ hx2,hx3,hx4⟩,⟨_,_,rfl,P.out.2.1 _ _ hy1,P.out.2.1 _ _ hy2,hy3,hy4⟩⟩);clear hx1 hx2 hx3 hx4 hy1 hy2 hy3 hy4 B8 B1 B2 B3 HAX HAY HBX HBY hS hb4 hb5 hB5 MD;refine LJ 10 (r:=?_)
 try simp only[Act.put,It,Is,Ir,Iq,Iu,Iv]
 refine ar (i:=11) rfl (by kernel_rfl) rfl (fun K hK=>?_);go_simp;refine hK _ _ (fun h _=>by simp at h) ?_;clear hK K;try simp only[Act.put,It,Is,Ir,Iq,Iu,Iv]
 refine aF (by kernel_rfl) ?_ _;simp only[aP];go_wp2_with fail
 have q0:=P.out.1.cell 0;have q1:=P.out.1.cell 1;have q2:=P.out.1.cell 2;have q3:=P.out.1.cell 3;have q4:=P.out.1.cell 4;have q5:=P.out.1.cell 5;refine LM (v:=.agg #[.bool zx.minus,.slice pn (aq BB zx.n).length cn,.slice pd (aq BB zx.d).length cd,.bool zy.minus,.slice rn (aq BB zy.n).length dn,.slice rd (aq BB zy.d).length dd]) (by simp[results,Tryz.results112,go_sem,eU] at q0 q1 q2 q3 q4 q5 |-;simp[results,Tryz.results112,go_sem,q0,q1,q2,q3,q4,q5]) rfl ⟨_,rfl,HX.out,P.out.2.2 w M8.out ?_⟩;omega
def wk (u:Vl):Vl:=⟨fx u.x,fx u.y⟩
theorem If (va:Value) (u:Vl) (w:World) (ha:IsV w va u) :
  Calls Tryz.prog 167 #[va] w fun e w'=>∃ t,e=.returned t/\IsV w' t (wk u)/\Below w.heap.size w w':=by
 obtain⟨a,b,c,d,e,f,rfl,hax,hay⟩:=ha;obtain⟨zx,hzx⟩:∃ z,z=fx u.x:=⟨_,rfl⟩;obtain⟨zy,hzy⟩:∃ z,z=fx u.y:=⟨_,rfl⟩;unfold wk;rw[<-hzx,<-hzy];have HZX:=Ip hzx;have HZY:=Ip hzy;clear hzx hzy;go_enter Tryz.func167,Tryz.ntmps167;go_upto_region 1 with fail
 have q1:=cC.new w a b c d e f 93;have m1:Below w.heap.size w (w.alloc (.cells #[a,b,c,d,e,f] 93)):=(LN _ _).alloc (Iw _) _;have z1:(w.alloc (.cells #[a,b,c,d,e,f] 93)).heap.size=w.heap.size+1:=by show (Array.push _ _).size=_;exact Ja _
 generalize w.alloc (.cells #[a,b,c,d,e,f] 93)=w1 at *
 have q3:=du.new w1 (.bool false) (.slice none 0 0) (.slice none 0 0) (.bool false) (.slice none 0 0) (.slice none 0 0) nofun nofun nofun nofun nofun nofun;have m3:Below w1.heap.size w1 (w1.alloc (.cells #[.bool false,.slice none 0 0,.slice none 0 0,.bool false,.slice none 0 0,.slice none 0 0] 93)):=(LN _ _).alloc (Iw _) _;generalize w1.alloc (.cells #[.bool false,.slice none 0 0,.slice none 0 0,.bool false,.slice none 0 0,.slice none 0 0] 93)=w3 at *
 have m4:Below w3.heap.size w3 w3.drew:=(LN _ _).drew;rw[z1] at q3;refine wp_mono (ax (Q:=aP _) (fun wx:World=>Below w3.drew.heap.size w3.drew wx) (fun i=>i == 7) (by kernel_rfl) ?_) (fun _ _ _ h=>aY h);generalize w3.drew=wd at *
 have hS:Below wd.heap.size wd wd:=LN _ _;have M13:=LK m1 m3;have MD:=Ip (LK M13 m4);have B1:=Ip ((q1.below m3).below m4);have B3:=Ip (q3.below m4);have HAX:=Ip (hax.below MD.out);have HAY:=Ip (hay.below MD.out);clear q1 q3 m1 m3 m4 z1 M13 hax hay;refine LJ 0 (r:=?_)
 refine ay (i:=1) (v:=?vv1) rfl (by kernel_rfl) (fun _ _ _ h=>h) rfl hS ?hy1 ?rest1
 case hy1 =>
  intro wy hy;have e1:=B1.out.below hy;have a0:=e1.c0;have a1:=e1.c1;have a2:=e1.c2;have a3:=e1.c3;have a4:=e1.c4;have a5:=e1.c5;clear e1 hy;go_simp;try with_reducible rfl
 refine LJ 3 (r:=?_)
 refine ay (i:=4) (v:=?vv4) rfl (by kernel_rfl) (fun _ _ _ h=>h) rfl hS ?hy4 ?rest4
 case hy4 =>
  intro wy hy;have e1:=B1.out.below hy;have a0:=e1.c0;have a1:=e1.c1;have a2:=e1.c2;have a3:=e1.c3;have a4:=e1.c4;have a5:=e1.c5;clear e1 hy;go_simp;try with_reducible rfl
 try simp only[Act.put,It,Is,Ir,Iq,Iu,Iv]
 refine ar (i:=2) rfl (by kernel_rfl) rfl (fun K hK=>?_);go_simp;have hp1:Calls Tryz.prog 145 #[.agg #[a,b,c]] wd fun e w'=>∃ v,e=.returned v/\IsR w' v zx/\Below wd.heap.size wd w':=by rw[HZX.out];exact yu _ _ _ HAX.out
 refine hp1.mono ?_;clear hp1;rintro e w4 ⟨v4,rfl,hv4,hb4⟩;refine hK _ _ (fun _ _=>hb4) ?_;clear hK K;try simp only[Act.put,It,Is,Ir,Iq,Iu,Iv]
 refine ar (i:=5) rfl (by kernel_rfl) rfl (fun K hK=>?_);go_simp;have hp2:Calls Tryz.prog 145 #[.agg #[d,e,f]] w4 fun e w'=>∃ v,e=.returned v/\IsR w' v zy/\Below w4.heap.size w4 w':=by rw[HZY.out];exact yu _ _ _ (HAY.out.below hb4)
 refine hp2.mono ?_;clear hp2;rintro e w5 ⟨v5,rfl,hv5,hb5⟩;have hB5:=LK hb4 hb5;have hv4:=hv4.below hb5;obtain⟨xn,xd,rfl,hx1,hx2,hx3,hx4⟩:=hv4;obtain⟨yn,yd,rfl,hy1,hy2,hy3,hy4⟩:=hv5;obtain⟨pn,cn,rfl,-,-,-⟩:=id hx1;obtain⟨pd,cd,rfl,-,-,-⟩:=id hx2;obtain⟨rn,dn,rfl,-,-,-⟩:=id hy1;obtain⟨rd,dd,rfl,-,-,-⟩:=id hy2;refine hK _ _ (fun _ _=>hB5) ?_;clear hK K;try simp only[Act.put,It,Is,Ir,Iq,Iu,Iv]
 have B8:=B3.out.below hB5;have k0:=B8.cell 0;have k1:=B8.cell 1;have k2:=B8.cell 2;have k3:=B8.cell 3;have k4:=B8.cell 4;have k5:=B8.cell 5;have f0:=B8.fr 0;have f1:=B8.fr 1;have f2:=B8.fr 2;have f3:=B8.fr 3;have f4:=B8.fr 4;have f5:=B8.fr 5;have P:=Ip (B8.put (a':=.bool zx.minus) (b':=.slice pn _ cn) (c':=.slice pd _ cd) (d':=.bool zy.minus) (e':=.slice rn _ dn) (f':=.slice rd _ dd) nofun (IsU.not_int hx1) (IsU.not_int hx2) nofun (IsU.not_int hy1) (IsU.not_int hy2));have M8:=Ip (LK MD.out hB5);have HX:=Ip (show IsV _ (.agg #[.bool zx.minus,.slice pn _ cn,.slice pd _ cd,.bool zy.minus,.slice rn _ dn,.slice rd _ dd]) ⟨zx,zy⟩ from⟨_,_,_,_,_,_,rfl,⟨_,_,rfl,P.out.2.1 _ _ hx1,P.out.2.1 _ _ hx2,hx3,hx4⟩,⟨_,_,rfl,P.out.2.1 _ _ hy1,P.out.2.1 _ _ hy2,hy3,hy4⟩⟩);clear hx1 hx2 hx3 hx4 hy1 hy2 hy3 hy4 B8 B1 B3 HAX HAY hS hb4 hb5 hB5 MD;refine LJ 6 (r:=?_)
 try simp only[Act.put,It,Is,Ir,Iq,Iu,Iv]
 refine ar (i:=7) rfl (by kernel_rfl) rfl (fun K hK=>?_);go_simp;refine hK _ _ (fun h _=>by simp at h) ?_;clear hK K;try simp only[Act.put,It,Is,Ir,Iq,Iu,Iv]
 refine aF (by kernel_rfl) ?_ _;simp only[aP];go_wp2_with fail
 have q0:=P.out.1.cell 0;have q1:=P.out.1.cell 1;have q2:=P.out.1.cell 2;have q3:=P.out.1.cell 3;have q4:=P.out.1.cell 4;have q5:=P.out.1.cell 5;refine LM (v:=.agg #[.bool zx.minus,.slice pn (aq BB zx.n).length cn,.slice pd (aq BB zx.d).length cd,.bool zy.minus,.slice rn (aq BB zy.n).length dn,.slice rd (aq BB zy.d).length dd]) (by simp[results,Tryz.results167,go_sem,eU] at q0 q1 q2 q3 q4 q5 |-;simp[results,Tryz.results167,go_sem,q0,q1,q2,q3,q4,q5]) rfl ⟨_,rfl,HX.out,P.out.2.2 w M8.out ?_⟩;omega
def rZ (u:Vl):Vl:=⟨u.x,fx u.y⟩
theorem GJ (va:Value) (u:Vl) (w:World) (ha:IsV w va u) :
  Calls Tryz.prog 163 #[va] w fun e w'=>∃ t,e=.returned t/\IsV w' t (rZ u)/\Below w.heap.size w w':=by
 obtain⟨a,b,c,d,e,f,rfl,hax,hay⟩:=ha;obtain⟨zx,hzx⟩:∃ z,z=u.x:=⟨_,rfl⟩;obtain⟨zy,hzy⟩:∃ z,z=fx u.y:=⟨_,rfl⟩;unfold rZ;rw[<-hzx,<-hzy];have HZX:=Ip hzx;have HZY:=Ip hzy;clear hzx hzy;go_enter Tryz.func163,Tryz.ntmps163;go_upto_region 1 with fail
 have q1:=cC.new w a b c d e f 93;have m1:Below w.heap.size w (w.alloc (.cells #[a,b,c,d,e,f] 93)):=(LN _ _).alloc (Iw _) _;have z1:(w.alloc (.cells #[a,b,c,d,e,f] 93)).heap.size=w.heap.size+1:=by show (Array.push _ _).size=_;exact Ja _
 generalize w.alloc (.cells #[a,b,c,d,e,f] 93)=w1 at *
 have q3:=du.new w1 (.bool false) (.slice none 0 0) (.slice none 0 0) (.bool false) (.slice none 0 0) (.slice none 0 0) nofun nofun nofun nofun nofun nofun;have m3:Below w1.heap.size w1 (w1.alloc (.cells #[.bool false,.slice none 0 0,.slice none 0 0,.bool false,.slice none 0 0,.slice none 0 0] 93)):=(LN _ _).alloc (Iw _) _;generalize w1.alloc (.cells #[.bool false,.slice none 0 0,.slice none 0 0,.bool false,.slice none 0 0,.slice none 0 0] 93)=w3 at *
 have m4:Below w3.heap.size w3 w3.drew:=(LN _ _).drew;rw[z1] at q3;refine wp_mono (ax (Q:=aP _) (fun wx:World=>Below w3.drew.heap.size w3.drew wx) (fun i=>i == 6) (by kernel_rfl) ?_) (fun _ _ _ h=>aY h);generalize w3.drew=wd at *
 have hS:Below wd.heap.size wd wd:=LN _ _;have M13:=LK m1 m3;have MD:=Ip (LK M13 m4);have B1:=Ip ((q1.below m3).below m4);have B3:=Ip (q3.below m4);have HAX:=Ip (hax.below MD.out);have HAY:=Ip (hay.below MD.out);clear q1 q3 m1 m3 m4 z1 M13 hax hay;refine LJ 0 (r:=?_)
 refine ay (i:=1) (v:=?vv1) rfl (by kernel_rfl) (fun _ _ _ h=>h) rfl hS ?hy1 ?rest1
 case hy1 =>
  intro wy hy;have e1:=B1.out.below hy;have a0:=e1.c0;have a1:=e1.c1;have a2:=e1.c2;have a3:=e1.c3;have a4:=e1.c4;have a5:=e1.c5;clear e1 hy;go_simp;try with_reducible rfl
 refine LJ 2 (r:=?_)
 refine ay (i:=3) (v:=?vv3) rfl (by kernel_rfl) (fun _ _ _ h=>h) rfl hS ?hy3 ?rest3
 case hy3 =>
  intro wy hy;have e1:=B1.out.below hy;have a0:=e1.c0;have a1:=e1.c1;have a2:=e1.c2;have a3:=e1.c3;have a4:=e1.c4;have a5:=e1.c5;clear e1 hy;go_simp;try with_reducible rfl
 try simp only[Act.put,It,Is,Ir,Iq,Iu,Iv]
 refine ar (i:=4) rfl (by kernel_rfl) rfl (fun K hK=>?_);go_simp;have hp2:Calls Tryz.prog 145 #[.agg #[d,e,f]] wd fun e w'=>∃ v,e=.returned v/\IsR w' v zy/\Below wd.heap.size wd w':=by rw[HZY.out];exact yu _ _ _ HAY.out
 refine hp2.mono ?_;clear hp2;rintro e w5 ⟨v5,rfl,hv5,hb5⟩;have hB5:=hb5;have hv4:IsR w5 (.agg #[a,b,c]) zx:=by rw[HZX.out];exact HAX.out.below hb5
 obtain⟨xn,xd,hxe,hx1,hx2,hx3,hx4⟩:=hv4;obtain⟨rfl,rfl,rfl⟩:a=.bool zx.minus/\b=xn/\c=xd:=by simpa using hxe
 clear hxe;obtain⟨yn,yd,rfl,hy1,hy2,hy3,hy4⟩:=hv5;obtain⟨pn,cn,rfl,-,-,-⟩:=id hx1;obtain⟨pd,cd,rfl,-,-,-⟩:=id hx2;obtain⟨rn,dn,rfl,-,-,-⟩:=id hy1;obtain⟨rd,dd,rfl,-,-,-⟩:=id hy2;refine hK _ _ (fun _ _=>hB5) ?_;clear hK K;try simp only[Act.put,It,Is,Ir,Iq,Iu,Iv]
 have B8:=B3.out.below hB5;have k0:=B8.cell 0;have k1:=B8.cell 1;have k2:=B8.cell 2;have k3:=B8.cell 3;have k4:=B8.cell 4;have k5:=B8.cell 5;have f0:=B8.fr 0;have f1:=B8.fr 1;have f2:=B8.fr 2;have f3:=B8.fr 3;have f4:=B8.fr 4;have f5:=B8.fr 5;have P:=Ip (B8.put (a':=.bool zx.minus) (b':=.slice pn _ cn) (c':=.slice pd _ cd) (d':=.bool zy.minus) (e':=.slice rn _ dn) (f':=.slice rd _ dd) nofun (IsU.not_int hx1) (IsU.not_int hx2) nofun (IsU.not_int hy1) (IsU.not_int hy2));have M8:=Ip (LK MD.out hB5);have HX:=Ip (show IsV _ (.agg #[.bool zx.minus,.slice pn _ cn,.slice pd _ cd,.bool zy.minus,.slice rn _ dn,.slice rd _ dd]) ⟨zx,zy⟩ from⟨_,_,_,_,_,_,rfl,⟨_,_,rfl,P.out.2.1 _ _ hx1,P.out.2.1 _ _ hx2,hx3,hx4⟩,⟨_,_,rfl,P.out.2.1 _ _ hy1,P.out.2.1 _ _ hy2,hy3,hy4⟩⟩);clear hx1 hx2 hx3 hx4 hy1 hy2 hy3 hy4 B8 B1 B3 HAX HAY hS hb5 hB5 MD;refine LJ 5 (r:=?_)
 try simp only[Act.put,It,Is,Ir,Iq,Iu,Iv]
 refine ar (i:=6) rfl (by kernel_rfl) rfl (fun K hK=>?_);go_simp;refine hK _ _ (fun h _=>by simp at h) ?_;clear hK K;try simp only[Act.put,It,Is,Ir,Iq,Iu,Iv]
 refine aF (by kernel_rfl) ?_ _;simp only[aP];go_wp2_with fail
 have q0:=P.out.1.cell 0;have q1:=P.out.1.cell 1;have q2:=P.out.1.cell 2;have q3:=P.out.1.cell 3;have q4:=P.out.1.cell 4;have q5:=P.out.1.cell 5;refine LM (v:=.agg #[.bool zx.minus,.slice pn (aq BB zx.n).length cn,.slice pd (aq BB zx.d).length cd,.bool zy.minus,.slice rn (aq BB zy.n).length dn,.slice rd (aq BB zy.d).length dd]) (by simp[results,Tryz.results163,go_sem,eU] at q0 q1 q2 q3 q4 q5 |-;simp[results,Tryz.results163,go_sem,q0,q1,q2,q3,q4,q5]) rfl ⟨_,rfl,HX.out,P.out.2.2 w M8.out ?_⟩;omega
def zS (u v:Vl):Vl:=qC u (wk v)
theorem Dz (va vb:Value) (u v:Vl) (w:World) (ha:IsV w va u) (hb:IsV w vb v) (hx:xB u.x (fx v.x)) (hy:xB u.y (fx v.y)) :
  Calls Tryz.prog 117 #[va,vb] w fun e w'=>∃ t,e=.returned t/\IsV w' t (zS u v)/\Below w.heap.size w w':=by
 obtain⟨a,b,c,d,e,f,rfl,hax,hay⟩:=ha;obtain⟨a',b',c',d',e',f',rfl,hbx,hby⟩:=hb;obtain⟨zx,hzx⟩:∃ z,z=dS u.x (fx v.x):=⟨_,rfl⟩;obtain⟨zy,hzy⟩:∃ z,z=dS u.y (fx v.y):=⟨_,rfl⟩;unfold zS qC wk;rw[<-hzx,<-hzy];have HZX:=Ip hzx;have HZY:=Ip hzy;clear hzx hzy;go_enter Tryz.func117,Tryz.ntmps117;go_upto_region 1 with fail
 have q1:=cC.new w a b c d e f 93;have m1:Below w.heap.size w (w.alloc (.cells #[a,b,c,d,e,f] 93)):=(LN _ _).alloc (Iw _) _;have z1:(w.alloc (.cells #[a,b,c,d,e,f] 93)).heap.size=w.heap.size+1:=by show (Array.push _ _).size=_;exact Ja _
 generalize w.alloc (.cells #[a,b,c,d,e,f] 93)=w1 at *
 have q2:=cC.new w1 a' b' c' d' e' f' 93;have m2:Below w1.heap.size w1 (w1.alloc (.cells #[a',b',c',d',e',f'] 93)):=(LN _ _).alloc (Iw _) _;have z2:(w1.alloc (.cells #[a',b',c',d',e',f'] 93)).heap.size=w1.heap.size+1:=by show (Array.push _ _).size=_;exact Ja _
 generalize w1.alloc (.cells #[a',b',c',d',e',f'] 93)=w2 at *
 have q3:=du.new w2 (.bool false) (.slice none 0 0) (.slice none 0 0) (.bool false) (.slice none 0 0) (.slice none 0 0) nofun nofun nofun nofun nofun nofun;have m3:Below w2.heap.size w2 (w2.alloc (.cells #[.bool false,.slice none 0 0,.slice none 0 0,.bool false,.slice none 0 0,.slice none 0 0] 93)):=(LN _ _).alloc (Iw _) _;generalize w2.alloc (.cells #[.bool false,.slice none 0 0,.slice none 0 0,.bool false,.slice none 0 0,.slice none 0 0] 93)=w3 at *
 have m4:Below w3.heap.size w3 w3.drew:=(LN _ _).drew;rw[z2,z1] at q3;rw[z1] at q2;refine wp_mono (ax (Q:=aP _) (fun wx:World=>Below w3.drew.heap.size w3.drew wx) (fun i=>i == 4) (by kernel_rfl) ?_) (fun _ _ _ h=>aY h);generalize w3.drew=wd at *
 have hS:Below wd.heap.size wd wd:=LN _ _;have M12:=LK m1 m2;have M13:=LK M12 m3;have MD:=Ip (LK M13 m4);have B1:=Ip (((q1.below m2).below m3).below m4);have B2:=Ip ((q2.below m3).below m4);have B3:=Ip (q3.below m4);have HA:=Ip (show IsV wd (.agg #[a,b,c,d,e,f]) u from⟨_,_,_,_,_,_,rfl,hax.below MD.out,hay.below MD.out⟩);have HB:=Ip (show IsV wd (.agg #[a',b',c',d',e',f']) v from⟨_,_,_,_,_,_,rfl,hbx.below MD.out,hby.below MD.out⟩);clear q1 q2 q3 m1 m2 m3 m4 z1 z2 M12 M13 hax hay hbx hby;refine ay (i:=0) (v:=?vv0) rfl (by kernel_rfl) (fun _ _ _ h=>h) rfl hS ?hy0 ?rest0
 case hy0 =>
  intro wy hy;have e1:=B1.out.below hy;have e2:=B2.out.below hy;have a0:=e1.c0;have a1:=e1.c1;have a2:=e1.c2;have a3:=e1.c3;have a4:=e1.c4;have a5:=e1.c5;have b0:=e2.c0;have b1:=e2.c1;have b2:=e2.c2;have b3:=e2.c3;have b4:=e2.c4;have b5:=e2.c5;clear e1 e2 hy;go_simp;try with_reducible rfl
 refine ay (i:=1) (v:=?vv1) rfl (by kernel_rfl) (fun _ _ _ h=>h) rfl hS ?hy1 ?rest1
 case hy1 =>
  intro wy hy;have e1:=B1.out.below hy;have e2:=B2.out.below hy;have a0:=e1.c0;have a1:=e1.c1;have a2:=e1.c2;have a3:=e1.c3;have a4:=e1.c4;have a5:=e1.c5;have b0:=e2.c0;have b1:=e2.c1;have b2:=e2.c2;have b3:=e2.c3;have b4:=e2.c4;have b5:=e2.c5;clear e1 e2 hy;go_simp;try with_reducible rfl
 try simp only[Act.put,It,Is,Ir,Iq,Iu,Iv]
 refine ar (i:=2) rfl (by kernel_rfl) rfl (fun K hK=>?_);go_simp;refine (If _ v _ HB.out).mono ?_;rintro e w4 ⟨v4,rfl,hv4,hb4⟩;refine hK _ _ (fun _ _=>hb4) ?_;clear hK K;try simp only[Act.put,It,Is,Ir,Iq,Iu,Iv]
 refine ar (i:=3) rfl (by kernel_rfl) rfl (fun K hK=>?_);go_simp;have hp2:Calls Tryz.prog 112 #[.agg #[a,b,c,d,e,f],v4] w4 fun e w'=>∃ t,e=.returned t/\IsV w' t ⟨zx,zy⟩/\Below w4.heap.size w4 w':=by rw[HZX.out,HZY.out];exact yC _ _ u (wk v) _ (HA.out.below hb4) hv4 hx hy
 refine hp2.mono ?_;clear hp2;rintro e w5 ⟨v5,rfl,hv5,hb5⟩;have hB5:=LK hb4 hb5;obtain⟨x0,x1,x2,x3,x4,x5,rfl,hvx,hvy⟩:=hv5;obtain⟨xn,xd,hex,hx1,hx2,hx3,hx4⟩:=hvx;obtain⟨yn,yd,hey,hy1,hy2,hy3,hy4⟩:=hvy;obtain⟨rfl,rfl,rfl⟩:x0=.bool zx.minus/\x1=xn/\x2=xd:=by simpa using hex
 obtain⟨rfl,rfl,rfl⟩:x3=.bool zy.minus/\x4=yn/\x5=yd:=by simpa using hey
 clear hex hey;obtain⟨pn,cn,rfl,-,-,-⟩:=id hx1;obtain⟨pd,cd,rfl,-,-,-⟩:=id hx2;obtain⟨rn,dn,rfl,-,-,-⟩:=id hy1;obtain⟨rd,dd,rfl,-,-,-⟩:=id hy2;refine hK _ _ (fun _ _=>hB5) ?_;clear hK K;try simp only[Act.put,It,Is,Ir,Iq,Iu,Iv]
 have B8:=B3.out.below hB5;have k0:=B8.cell 0;have k1:=B8.cell 1;have k2:=B8.cell 2;have k3:=B8.cell 3;have k4:=B8.cell 4;have k5:=B8.cell 5;have f0:=B8.fr 0;have f1:=B8.fr 1;have f2:=B8.fr 2;have f3:=B8.fr 3;have f4:=B8.fr 4;have f5:=B8.fr 5;have P:=Ip (B8.put (a':=.bool zx.minus) (b':=.slice pn _ cn) (c':=.slice pd _ cd) (d':=.bool zy.minus) (e':=.slice rn _ dn) (f':=.slice rd _ dd) nofun (IsU.not_int hx1) (IsU.not_int hx2) nofun (IsU.not_int hy1) (IsU.not_int hy2));have M8:=Ip (LK MD.out hB5);have HX:=Ip (show IsV _ (.agg #[.bool zx.minus,.slice pn _ cn,.slice pd _ cd,.bool zy.minus,.slice rn _ dn,.slice rd _ dd]) ⟨zx,zy⟩ from⟨_,_,_,_,_,_,rfl,⟨_,_,rfl,P.out.2.1 _ _ hx1,P.out.2.1 _ _ hx2,hx3,hx4⟩,⟨_,_,rfl,P.out.2.1 _ _ hy1,P.out.2.1 _ _ hy2,hy3,hy4⟩⟩);clear hx1 hx2 hx3 hx4 hy1 hy2 hy3 hy4 B8 B1 B2 B3 HA HB hS hb4 hb5 hB5 MD;refine ar (i:=4) rfl (by kernel_rfl) rfl (fun K hK=>?_);go_simp;refine hK _ _ (fun h _=>by simp at h) ?_;clear hK K;try simp only[Act.put,It,Is,Ir,Iq,Iu,Iv]
 refine aF (by kernel_rfl) ?_ _;simp only[aP];go_wp2_with fail
 have q0:=P.out.1.cell 0;have q1:=P.out.1.cell 1;have q2:=P.out.1.cell 2;have q3:=P.out.1.cell 3;have q4:=P.out.1.cell 4;have q5:=P.out.1.cell 5;refine LM (v:=.agg #[.bool zx.minus,.slice pn (aq BB zx.n).length cn,.slice pd (aq BB zx.d).length cd,.bool zy.minus,.slice rn (aq BB zy.n).length dn,.slice rd (aq BB zy.d).length dd]) (by simp[results,Tryz.results117,go_sem,eU] at q0 q1 q2 q3 q4 q5 |-;simp[results,Tryz.results117,go_sem,q0,q1,q2,q3,q4,q5]) rfl ⟨_,rfl,HX.out,P.out.2.2 w M8.out ?_⟩;omega
def jJ (r:Rt):Vl:=⟨r,⟨false,0,1⟩⟩
theorem fI (va:Value) (r:Rt) (w:World) (ha:IsR w va r) :
  Calls Tryz.prog 62 #[va] w fun e w'=>∃ t,e=.returned t/\IsV w' t (jJ r)/\Below w.heap.size w w':=by
 have HA0:=Ip ha;obtain⟨xn,xd,rfl,hx1,hx2,hx3,hx4⟩:=ha;obtain⟨pn,cn,rfl,-,-,-⟩:=id hx1;obtain⟨pd,cd,rfl,-,-,-⟩:=id hx2;unfold jJ;go_enter Tryz.func62,Tryz.ntmps62;go_upto_region 1 with fail
 have q1:=cJ.new w (.bool r.minus) (.slice pn (aq BB r.n).length cn) (.slice pd (aq BB r.d).length cd) nofun (IsU.not_int hx1) (IsU.not_int hx2);have m1:Below w.heap.size w (w.alloc (.cells #[.bool r.minus,.slice pn (aq BB r.n).length cn,.slice pd (aq BB r.d).length cd] 89)):=(LN _ _).alloc (Iw _) _;have z1:(w.alloc (.cells #[.bool r.minus,.slice pn (aq BB r.n).length cn,.slice pd (aq BB r.d).length cd] 89)).heap.size=w.heap.size+1:=by show (Array.push _ _).size=_;exact Ja _
 generalize w.alloc (.cells #[.bool r.minus,.slice pn (aq BB r.n).length cn,.slice pd (aq BB r.d).length cd] 89)=w1 at *
 have q3:=du.new w1 (.bool false) (.slice none 0 0) (.slice none 0 0) (.bool false) (.slice none 0 0) (.slice none 0 0) nofun nofun nofun nofun nofun nofun;have m3:Below w1.heap.size w1 (w1.alloc (.cells #[.bool false,.slice none 0 0,.slice none 0 0,.bool false,.slice none 0 0,.slice none 0 0] 93)):=(LN _ _).alloc (Iw _) _;generalize w1.alloc (.cells #[.bool false,.slice none 0 0,.slice none 0 0,.bool false,.slice none 0 0,.slice none 0 0] 93)=w3 at *
 have m4:Below w3.heap.size w3 w3.drew:=(LN _ _).drew;rw[z1] at q3;refine wp_mono (ax (Q:=aP _) (fun wx:World=>Below w3.drew.heap.size w3.drew wx) (fun i=>i == 4) (by kernel_rfl) ?_) (fun _ _ _ h=>aY h);generalize w3.drew=wd at *
 have hS:Below wd.heap.size wd wd:=LN _ _;have M13:=LK m1 m3;have MD:=Ip (LK M13 m4);have B1:=Ip ((q1.below m3).below m4);have B3:=Ip (q3.below m4);have HA:=Ip (HA0.out.below MD.out);clear q1 q3 m1 m3 m4 z1 M13 HA0 hx1 hx2 hx3 hx4;refine ay (i:=0) (v:=?vv0) rfl (by kernel_rfl) (fun _ _ _ h=>h) rfl hS ?hy0 ?rest0
 case hy0 =>
  intro wy hy;have e1:=B1.out.below hy;have a0:=e1.c0;have a1:=e1.c1;have a2:=e1.c2;clear e1 hy;go_simp;try with_reducible rfl
 try simp only[Act.put,It,Is,Ir,Iq,Iu,Iv]
 refine ar (i:=1) rfl (by kernel_rfl) rfl (fun K hK=>?_);go_simp;refine (mF _).mono ?_;rintro e w5 ⟨v5,rfl,hv5,hB5⟩;obtain⟨rd,dd,rfl,-,-,-⟩:=id hv5;obtain⟨xn,xd,hxe,hx1,hx2,hx3,hx4⟩:=HA.out.below hB5;obtain⟨rfl,rfl⟩:(.slice pn (aq BB r.n).length cn)=xn/\(.slice pd (aq BB r.d).length cd)=xd:=by simpa using hxe
 clear hxe;refine hK _ _ (fun _ _=>hB5) ?_;clear hK K;try simp only[Act.put,It,Is,Ir,Iq,Iu,Iv]
 have B8:=B3.out.below hB5;have k0:=B8.cell 0;have k1:=B8.cell 1;have k2:=B8.cell 2;have k3:=B8.cell 3;have k4:=B8.cell 4;have k5:=B8.cell 5;have f0:=B8.fr 0;have f1:=B8.fr 1;have f2:=B8.fr 2;have f3:=B8.fr 3;have f4:=B8.fr 4;have f5:=B8.fr 5;have P:=Ip (B8.put (a':=.bool r.minus) (b':=.slice pn _ cn) (c':=.slice pd _ cd) (d':=.bool false) (e':=.slice none 0 0) (f':=.slice rd _ dd) nofun (IsU.not_int hx1) (IsU.not_int hx2) nofun nofun (IsU.not_int hv5));have M8:=Ip (LK MD.out hB5);have HX:=Ip (show IsV _ (.agg #[.bool r.minus,.slice pn _ cn,.slice pd _ cd,.bool false,.slice none 0 0,.slice rd _ dd]) ⟨r,⟨false,0,1⟩⟩ from⟨_,_,_,_,_,_,rfl,⟨_,_,rfl,P.out.2.1 _ _ hx1,P.out.2.1 _ _ hx2,hx3,hx4⟩,⟨_,_,rfl,P.out.2.1 _ _ (Dv _),P.out.2.1 _ _ hv5,h_ (show (0:Nat)<BB by decide),h_ (show (1:Nat)<BB by decide)⟩⟩);clear hx1 hx2 hx3 hx4 hv5 B8 B1 B3 HA hS hB5 MD;refine LJ 2 (r:=?_)
 refine LJ 3 (r:=?_)
 try simp only[Act.put,It,Is,Ir,Iq,Iu,Iv]
 refine ar (i:=4) rfl (by kernel_rfl) rfl (fun K hK=>?_);go_simp;refine hK _ _ (fun h _=>by simp at h) ?_;clear hK K;try simp only[Act.put,It,Is,Ir,Iq,Iu,Iv]
 refine aF (by kernel_rfl) ?_ _;simp only[aP];go_wp2_with fail
 have q0:=P.out.1.cell 0;have q1:=P.out.1.cell 1;have q2:=P.out.1.cell 2;have q3:=P.out.1.cell 3;have q4:=P.out.1.cell 4;have q5:=P.out.1.cell 5;refine LM (v:=.agg #[.bool r.minus,.slice pn (aq BB r.n).length cn,.slice pd (aq BB r.d).length cd,.bool false,.slice none 0 0,.slice rd (aq BB 1).length dd]) (by simp[results,Tryz.results62,go_sem,eU] at q0 q1 q2 q3 q4 q5 |-;simp[results,Tryz.results62,go_sem,q0,q1,q2,q3,q4,q5]) rfl ⟨_,rfl,HX.out,P.out.2.2 w M8.out ?_⟩;omega
end Go.Proofs.YtlhpcoelfhjomaaGreatDoor
