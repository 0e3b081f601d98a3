/- L -/
import Derived.Test.YtgakllaobooabaaGreatDoorXNRat3
import Derived.Test.YtgakllaobooabaaGreatDoorXB
set_option linter.all false
set_option maxRecDepth 100000
set_option maxHeartbeats 8000000
namespace Go.Proofs.YtgakllaobooabaaGreatDoor
open Go.RowKit Dg
structure qj (r s:Rt):Prop where
 h0:0<r.d
 h1:0<s.d
 f1:Few (r.n*s.d)
 f2:Few (s.n*r.d)
 f3:Few (r.n*s.d+s.n*r.d)
 f4:Few (r.d*s.d)
def lk (u v:Vl):Vl:=⟨bZ u.x v.x,bZ u.y v.y⟩
theorem nI (va vb:Value) (u v:Vl) (w:World) (ha:IsV w va u) (hb:IsV w vb v) (hx:qj u.x v.x) (hy:qj u.y v.y) :
  Calls Tryz.prog 63 #[va,vb] w fun e w'=>∃ t,e=.returned t/\IsV w' t (lk u v)/\Below w.heap.size w w':=by
 obtain⟨a,b,c,d,e,f,rfl,hax,hay⟩:=ha;obtain⟨a',b',c',d',e',f',rfl,hbx,hby⟩:=hb;obtain⟨zx,hzx⟩:∃ z,z=bZ u.x v.x:=⟨_,rfl⟩;obtain⟨zy,hzy⟩:∃ z,z=bZ u.y v.y:=⟨_,rfl⟩;unfold lk;rw[<-hzx,<-hzy];have HZX:=At hzx;have HZY:=At hzy;clear hzx hzy;go_enter Tryz.func63,Tryz.ntmps63;go_upto_region 1 with fail
 have q1:=aW.new w a b c d e f 65;have m1:Below w.heap.size w (w.alloc (.cells #[a,b,c,d,e,f] 65)):=(Dv _ _).alloc (AA _) _;have z1:(w.alloc (.cells #[a,b,c,d,e,f] 65)).heap.size=w.heap.size+1:=by show (Array.push _ _).size=_;exact A7 _
 generalize w.alloc (.cells #[a,b,c,d,e,f] 65)=w1 at *
 have q2:=aW.new w1 a' b' c' d' e' f' 65;have m2:Below w1.heap.size w1 (w1.alloc (.cells #[a',b',c',d',e',f'] 65)):=(Dv _ _).alloc (AA _) _;have z2:(w1.alloc (.cells #[a',b',c',d',e',f'] 65)).heap.size=w1.heap.size+1:=by show (Array.push _ _).size=_;exact A7 _
 generalize w1.alloc (.cells #[a',b',c',d',e',f'] 65)=w2 at *
 have q3:=bm.new w2 (.bool false) (.slice none 0 0) (.slice none 0 0) (.bool false) (.slice none 0 0) (.slice none 0 0) nofun nofun nofun nofun nofun nofun;have m3:Below w2.heap.size w2 (w2.alloc (.cells #[.bool false,.slice none 0 0,.slice none 0 0,.bool false,.slice none 0 0,.slice none 0 0] 65)):=(Dv _ _).alloc (AA _) _;generalize w2.alloc (.cells #[.bool false,.slice none 0 0,.slice none 0 0,.bool false,.slice none 0 0,.slice none 0 0] 65)=w3 at *
 have m4:Below w3.heap.size w3 w3.drew:=(Dv _ _).drew;rw[z2,z1] at q3;rw[z1] at q2;refine wp_mono (aH (Q:=ci _) (fun wx:World=>Below w3.drew.heap.size w3.drew wx) (fun i=>i == 11) (by kernel_rfl) ?_) (fun _ _ _ h=>cL h);generalize w3.drew=wd at *
 have hS:Below wd.heap.size wd wd:=Dv _ _;have M12:=m1.trans (m2.mono m1.size);have M13:=M12.trans (m3.mono M12.size);have MD:=At (M13.trans (m4.mono M13.size));have B1:=At (((q1.below m2).below m3).below m4);have B2:=At ((q2.below m3).below m4);have B3:=At (q3.below m4);have HAX:=At (hax.below MD.out);have HAY:=At (hay.below MD.out);have HBX:=At (hbx.below MD.out);have HBY:=At (hby.below MD.out);clear q1 q2 q3 m1 m2 m3 m4 z1 z2 M12 M13 hax hay hbx hby;refine Ds 0 (r:=?_)
 try simp only[Act.put,Ax,Aw,Av,Au,Ay,Az]
 refine aB (i:=1) (v:=?vv1) rfl (by kernel_rfl) (fun _ _ _ h=>h) rfl hS ?hy1 ?rest1
 case hy1 =>
  intro wy hy;have e1:=B1.out.below hy;have e2:=B2.out.below hy;have a0:=e1.c0;have a1:=e1.c1;have a2:=e1.c2;have a3:=e1.c3;have a4:=e1.c4;have a5:=e1.c5;have b0:=e2.c0;have b1:=e2.c1;have b2:=e2.c2;have b3:=e2.c3;have b4:=e2.c4;have b5:=e2.c5;clear e1 e2 hy;go_simp;try with_reducible rfl
 try simp only[Act.put,Ax,Aw,Av,Au,Ay,Az]
 refine Ds 2 (r:=?_)
 try simp only[Act.put,Ax,Aw,Av,Au,Ay,Az]
 refine aB (i:=3) (v:=?vv3) rfl (by kernel_rfl) (fun _ _ _ h=>h) rfl hS ?hy3 ?rest3
 case hy3 =>
  intro wy hy;have e1:=B1.out.below hy;have e2:=B2.out.below hy;have a0:=e1.c0;have a1:=e1.c1;have a2:=e1.c2;have a3:=e1.c3;have a4:=e1.c4;have a5:=e1.c5;have b0:=e2.c0;have b1:=e2.c1;have b2:=e2.c2;have b3:=e2.c3;have b4:=e2.c4;have b5:=e2.c5;clear e1 e2 hy;go_simp;try with_reducible rfl
 try simp only[Act.put,Ax,Aw,Av,Au,Ay,Az]
 refine Ds 5 (r:=?_)
 try simp only[Act.put,Ax,Aw,Av,Au,Ay,Az]
 refine aB (i:=6) (v:=?vv6) rfl (by kernel_rfl) (fun _ _ _ h=>h) rfl hS ?hy6 ?rest6
 case hy6 =>
  intro wy hy;have e1:=B1.out.below hy;have e2:=B2.out.below hy;have a0:=e1.c0;have a1:=e1.c1;have a2:=e1.c2;have a3:=e1.c3;have a4:=e1.c4;have a5:=e1.c5;have b0:=e2.c0;have b1:=e2.c1;have b2:=e2.c2;have b3:=e2.c3;have b4:=e2.c4;have b5:=e2.c5;clear e1 e2 hy;go_simp;try with_reducible rfl
 try simp only[Act.put,Ax,Aw,Av,Au,Ay,Az]
 refine Ds 7 (r:=?_)
 try simp only[Act.put,Ax,Aw,Av,Au,Ay,Az]
 refine aB (i:=8) (v:=?vv8) rfl (by kernel_rfl) (fun _ _ _ h=>h) rfl hS ?hy8 ?rest8
 case hy8 =>
  intro wy hy;have e1:=B1.out.below hy;have e2:=B2.out.below hy;have a0:=e1.c0;have a1:=e1.c1;have a2:=e1.c2;have a3:=e1.c3;have a4:=e1.c4;have a5:=e1.c5;have b0:=e2.c0;have b1:=e2.c1;have b2:=e2.c2;have b3:=e2.c3;have b4:=e2.c4;have b5:=e2.c5;clear e1 e2 hy;go_simp;try with_reducible rfl
 try simp only[Act.put,Ax,Aw,Av,Au,Ay,Az]
 refine aC (i:=4) rfl (by kernel_rfl) rfl (fun K hK=>?_);go_simp;have hp1:Calls Tryz.prog 68 #[.agg #[a,b,c],.agg #[a',b',c']] wd fun e w'=>∃ v,e=.returned v/\IsR w' v zx/\Below wd.heap.size wd w':=by rw[HZX.out];exact iE _ _ _ _ _ HAX.out HBX.out hx.h0 hx.h1 hx.f1 hx.f2 hx.f3 hx.f4
 refine hp1.mono ?_;clear hp1;rintro e w4 ⟨v4,rfl,hv4,hb4⟩;refine hK _ _ (fun _ _=>hb4) ?_;clear hK K;try simp only[Act.put,Ax,Aw,Av,Au,Ay,Az]
 refine aC (i:=9) rfl (by kernel_rfl) rfl (fun K hK=>?_);go_simp;have hp2:Calls Tryz.prog 68 #[.agg #[d,e,f],.agg #[d',e',f']] w4 fun e w'=>∃ v,e=.returned v/\IsR w' v zy/\Below w4.heap.size w4 w':=by rw[HZY.out];exact iE _ _ _ _ _ (HAY.out.below hb4) (HBY.out.below hb4) hy.h0 hy.h1 hy.f1 hy.f2 hy.f3 hy.f4
 refine hp2.mono ?_;clear hp2;rintro e w5 ⟨v5,rfl,hv5,hb5⟩;have hB5:=hb4.trans (hb5.mono hb4.size);have hv4:=hv4.below hb5;obtain⟨xn,xd,rfl,hx1,hx2,hx3,hx4⟩:=hv4;obtain⟨yn,yd,rfl,hy1,hy2,hy3,hy4⟩:=hv5;obtain⟨pn,cn,rfl,-,-,-⟩:=id hx1;obtain⟨pd,cd,rfl,-,-,-⟩:=id hx2;obtain⟨rn,dn,rfl,-,-,-⟩:=id hy1;obtain⟨rd,dd,rfl,-,-,-⟩:=id hy2;refine hK _ _ (fun _ _=>hB5) ?_;clear hK K;try simp only[Act.put,Ax,Aw,Av,Au,Ay,Az]
 have B8:=B3.out.below hB5;have k0:=B8.cell 0;have k1:=B8.cell 1;have k2:=B8.cell 2;have k3:=B8.cell 3;have k4:=B8.cell 4;have k5:=B8.cell 5;have f0:=B8.fr 0;have f1:=B8.fr 1;have f2:=B8.fr 2;have f3:=B8.fr 3;have f4:=B8.fr 4;have f5:=B8.fr 5;have P:=At (B8.put (a':=.bool zx.minus) (b':=.slice pn _ cn) (c':=.slice pd _ cd) (d':=.bool zy.minus) (e':=.slice rn _ dn) (f':=.slice rd _ dd) nofun (IsU.not_int hx1) (IsU.not_int hx2) nofun (IsU.not_int hy1) (IsU.not_int hy2));have M8:=At (MD.out.trans (hB5.mono MD.out.size));have HX:=At (show IsV _ (.agg #[.bool zx.minus,.slice pn _ cn,.slice pd _ cd,.bool zy.minus,.slice rn _ dn,.slice rd _ dd]) ⟨zx,zy⟩ from⟨_,_,_,_,_,_,rfl,⟨_,_,rfl,P.out.2.1 _ _ hx1,P.out.2.1 _ _ hx2,hx3,hx4⟩,⟨_,_,rfl,P.out.2.1 _ _ hy1,P.out.2.1 _ _ hy2,hy3,hy4⟩⟩);clear hx1 hx2 hx3 hx4 hy1 hy2 hy3 hy4 B8 B1 B2 B3 HAX HAY HBX HBY hS hb4 hb5 hB5 MD;refine Ds 10 (r:=?_)
 try simp only[Act.put,Ax,Aw,Av,Au,Ay,Az]
 refine aC (i:=11) rfl (by kernel_rfl) rfl (fun K hK=>?_);go_simp;refine hK _ _ (fun h _=>by simp at h) ?_;clear hK K;try simp only[Act.put,Ax,Aw,Av,Au,Ay,Az]
 refine bC (by kernel_rfl) ?_ _;simp only[ci];go_wp2_with fail
 have q0:=P.out.1.cell 0;have q1:=P.out.1.cell 1;have q2:=P.out.1.cell 2;have q3:=P.out.1.cell 3;have q4:=P.out.1.cell 4;have q5:=P.out.1.cell 5;refine Du (v:=.agg #[.bool zx.minus,.slice pn (ag BB zx.n).length cn,.slice pd (ag BB zx.d).length cd,.bool zy.minus,.slice rn (ag BB zy.n).length dn,.slice rd (ag BB zy.d).length dd]) (by simp[results,Tryz.results63,go_sem,cP] at q0 q1 q2 q3 q4 q5 |-;simp[results,Tryz.results63,go_sem,q0,q1,q2,q3,q4,q5]) rfl ⟨_,rfl,HX.out,P.out.2.2 w M8.out ?_⟩;omega
def po (u:Vl):Vl:=⟨dy u.x,dy u.y⟩
theorem Ag (va:Value) (u:Vl) (w:World) (ha:IsV w va u) :
  Calls Tryz.prog 112 #[va] w fun e w'=>∃ t,e=.returned t/\IsV w' t (po u)/\Below w.heap.size w w':=by
 obtain⟨a,b,c,d,e,f,rfl,hax,hay⟩:=ha;obtain⟨zx,hzx⟩:∃ z,z=dy u.x:=⟨_,rfl⟩;obtain⟨zy,hzy⟩:∃ z,z=dy u.y:=⟨_,rfl⟩;unfold po;rw[<-hzx,<-hzy];have HZX:=At hzx;have HZY:=At hzy;clear hzx hzy;go_enter Tryz.func112,Tryz.ntmps112;go_upto_region 1 with fail
 have q1:=aW.new w a b c d e f 65;have m1:Below w.heap.size w (w.alloc (.cells #[a,b,c,d,e,f] 65)):=(Dv _ _).alloc (AA _) _;have z1:(w.alloc (.cells #[a,b,c,d,e,f] 65)).heap.size=w.heap.size+1:=by show (Array.push _ _).size=_;exact A7 _
 generalize w.alloc (.cells #[a,b,c,d,e,f] 65)=w1 at *
 have q3:=bm.new w1 (.bool false) (.slice none 0 0) (.slice none 0 0) (.bool false) (.slice none 0 0) (.slice none 0 0) nofun nofun nofun nofun nofun nofun;have m3:Below w1.heap.size w1 (w1.alloc (.cells #[.bool false,.slice none 0 0,.slice none 0 0,.bool false,.slice none 0 0,.slice none 0 0] 65)):=(Dv _ _).alloc (AA _) _;generalize w1.alloc (.cells #[.bool false,.slice none 0 0,.slice none 0 0,.bool false,.slice none 0 0,.slice none 0 0] 65)=w3 at *
 have m4:Below w3.heap.size w3 w3.drew:=(Dv _ _).drew;rw[z1] at q3;refine wp_mono (aH (Q:=ci _) (fun wx:World=>Below w3.drew.heap.size w3.drew wx) (fun i=>i == 7) (by kernel_rfl) ?_) (fun _ _ _ h=>cL h);generalize w3.drew=wd at *
 have hS:Below wd.heap.size wd wd:=Dv _ _;have M13:=m1.trans (m3.mono m1.size);have MD:=At (M13.trans (m4.mono M13.size));have B1:=At ((q1.below m3).below m4);have B3:=At (q3.below m4);have HAX:=At (hax.below MD.out);have HAY:=At (hay.below MD.out);clear q1 q3 m1 m3 m4 z1 M13 hax hay;refine Ds 0 (r:=?_)
 try simp only[Act.put,Ax,Aw,Av,Au,Ay,Az]
 refine aB (i:=1) (v:=?vv1) rfl (by kernel_rfl) (fun _ _ _ h=>h) rfl hS ?hy1 ?rest1
 case hy1 =>
  intro wy hy;have e1:=B1.out.below hy;have a0:=e1.c0;have a1:=e1.c1;have a2:=e1.c2;have a3:=e1.c3;have a4:=e1.c4;have a5:=e1.c5;clear e1 hy;go_simp;try with_reducible rfl
 try simp only[Act.put,Ax,Aw,Av,Au,Ay,Az]
 refine Ds 3 (r:=?_)
 try simp only[Act.put,Ax,Aw,Av,Au,Ay,Az]
 refine aB (i:=4) (v:=?vv4) rfl (by kernel_rfl) (fun _ _ _ h=>h) rfl hS ?hy4 ?rest4
 case hy4 =>
  intro wy hy;have e1:=B1.out.below hy;have a0:=e1.c0;have a1:=e1.c1;have a2:=e1.c2;have a3:=e1.c3;have a4:=e1.c4;have a5:=e1.c5;clear e1 hy;go_simp;try with_reducible rfl
 try simp only[Act.put,Ax,Aw,Av,Au,Ay,Az]
 refine aC (i:=2) rfl (by kernel_rfl) rfl (fun K hK=>?_);go_simp;have hp1:Calls Tryz.prog 69 #[.agg #[a,b,c]] wd fun e w'=>∃ v,e=.returned v/\IsR w' v zx/\Below wd.heap.size wd w':=by rw[HZX.out];exact qQ _ _ _ HAX.out
 refine hp1.mono ?_;clear hp1;rintro e w4 ⟨v4,rfl,hv4,hb4⟩;refine hK _ _ (fun _ _=>hb4) ?_;clear hK K;try simp only[Act.put,Ax,Aw,Av,Au,Ay,Az]
 refine aC (i:=5) rfl (by kernel_rfl) rfl (fun K hK=>?_);go_simp;have hp2:Calls Tryz.prog 69 #[.agg #[d,e,f]] w4 fun e w'=>∃ v,e=.returned v/\IsR w' v zy/\Below w4.heap.size w4 w':=by rw[HZY.out];exact qQ _ _ _ (HAY.out.below hb4)
 refine hp2.mono ?_;clear hp2;rintro e w5 ⟨v5,rfl,hv5,hb5⟩;have hB5:=hb4.trans (hb5.mono hb4.size);have hv4:=hv4.below hb5;obtain⟨xn,xd,rfl,hx1,hx2,hx3,hx4⟩:=hv4;obtain⟨yn,yd,rfl,hy1,hy2,hy3,hy4⟩:=hv5;obtain⟨pn,cn,rfl,-,-,-⟩:=id hx1;obtain⟨pd,cd,rfl,-,-,-⟩:=id hx2;obtain⟨rn,dn,rfl,-,-,-⟩:=id hy1;obtain⟨rd,dd,rfl,-,-,-⟩:=id hy2;refine hK _ _ (fun _ _=>hB5) ?_;clear hK K;try simp only[Act.put,Ax,Aw,Av,Au,Ay,Az]
 have B8:=B3.out.below hB5;have k0:=B8.cell 0;have k1:=B8.cell 1;have k2:=B8.cell 2;have k3:=B8.cell 3;have k4:=B8.cell 4;have k5:=B8.cell 5;have f0:=B8.fr 0;have f1:=B8.fr 1;have f2:=B8.fr 2;have f3:=B8.fr 3;have f4:=B8.fr 4;have f5:=B8.fr 5;have P:=At (B8.put (a':=.bool zx.minus) (b':=.slice pn _ cn) (c':=.slice pd _ cd) (d':=.bool zy.minus) (e':=.slice rn _ dn) (f':=.slice rd _ dd) nofun (IsU.not_int hx1) (IsU.not_int hx2) nofun (IsU.not_int hy1) (IsU.not_int hy2));have M8:=At (MD.out.trans (hB5.mono MD.out.size));have HX:=At (show IsV _ (.agg #[.bool zx.minus,.slice pn _ cn,.slice pd _ cd,.bool zy.minus,.slice rn _ dn,.slice rd _ dd]) ⟨zx,zy⟩ from⟨_,_,_,_,_,_,rfl,⟨_,_,rfl,P.out.2.1 _ _ hx1,P.out.2.1 _ _ hx2,hx3,hx4⟩,⟨_,_,rfl,P.out.2.1 _ _ hy1,P.out.2.1 _ _ hy2,hy3,hy4⟩⟩);clear hx1 hx2 hx3 hx4 hy1 hy2 hy3 hy4 B8 B1 B3 HAX HAY hS hb4 hb5 hB5 MD;refine Ds 6 (r:=?_)
 try simp only[Act.put,Ax,Aw,Av,Au,Ay,Az]
 refine aC (i:=7) rfl (by kernel_rfl) rfl (fun K hK=>?_);go_simp;refine hK _ _ (fun h _=>by simp at h) ?_;clear hK K;try simp only[Act.put,Ax,Aw,Av,Au,Ay,Az]
 refine bC (by kernel_rfl) ?_ _;simp only[ci];go_wp2_with fail
 have q0:=P.out.1.cell 0;have q1:=P.out.1.cell 1;have q2:=P.out.1.cell 2;have q3:=P.out.1.cell 3;have q4:=P.out.1.cell 4;have q5:=P.out.1.cell 5;refine Du (v:=.agg #[.bool zx.minus,.slice pn (ag BB zx.n).length cn,.slice pd (ag BB zx.d).length cd,.bool zy.minus,.slice rn (ag BB zy.n).length dn,.slice rd (ag BB zy.d).length dd]) (by simp[results,Tryz.results112,go_sem,cP] at q0 q1 q2 q3 q4 q5 |-;simp[results,Tryz.results112,go_sem,q0,q1,q2,q3,q4,q5]) rfl ⟨_,rfl,HX.out,P.out.2.2 w M8.out ?_⟩;omega
def l7 (u:Vl):Vl:=⟨u.x,dy u.y⟩
theorem zj (va:Value) (u:Vl) (w:World) (ha:IsV w va u) :
  Calls Tryz.prog 109 #[va] w fun e w'=>∃ t,e=.returned t/\IsV w' t (l7 u)/\Below w.heap.size w w':=by
 obtain⟨a,b,c,d,e,f,rfl,hax,hay⟩:=ha;obtain⟨zx,hzx⟩:∃ z,z=u.x:=⟨_,rfl⟩;obtain⟨zy,hzy⟩:∃ z,z=dy u.y:=⟨_,rfl⟩;unfold l7;rw[<-hzx,<-hzy];have HZX:=At hzx;have HZY:=At hzy;clear hzx hzy;go_enter Tryz.func109,Tryz.ntmps109;go_upto_region 1 with fail
 have q1:=aW.new w a b c d e f 65;have m1:Below w.heap.size w (w.alloc (.cells #[a,b,c,d,e,f] 65)):=(Dv _ _).alloc (AA _) _;have z1:(w.alloc (.cells #[a,b,c,d,e,f] 65)).heap.size=w.heap.size+1:=by show (Array.push _ _).size=_;exact A7 _
 generalize w.alloc (.cells #[a,b,c,d,e,f] 65)=w1 at *
 have q3:=bm.new w1 (.bool false) (.slice none 0 0) (.slice none 0 0) (.bool false) (.slice none 0 0) (.slice none 0 0) nofun nofun nofun nofun nofun nofun;have m3:Below w1.heap.size w1 (w1.alloc (.cells #[.bool false,.slice none 0 0,.slice none 0 0,.bool false,.slice none 0 0,.slice none 0 0] 65)):=(Dv _ _).alloc (AA _) _;generalize w1.alloc (.cells #[.bool false,.slice none 0 0,.slice none 0 0,.bool false,.slice none 0 0,.slice none 0 0] 65)=w3 at *
 have m4:Below w3.heap.size w3 w3.drew:=(Dv _ _).drew;rw[z1] at q3;refine wp_mono (aH (Q:=ci _) (fun wx:World=>Below w3.drew.heap.size w3.drew wx) (fun i=>i == 6) (by kernel_rfl) ?_) (fun _ _ _ h=>cL h);generalize w3.drew=wd at *
 have hS:Below wd.heap.size wd wd:=Dv _ _;have M13:=m1.trans (m3.mono m1.size);have MD:=At (M13.trans (m4.mono M13.size));have B1:=At ((q1.below m3).below m4);have B3:=At (q3.below m4);have HAX:=At (hax.below MD.out);have HAY:=At (hay.below MD.out);clear q1 q3 m1 m3 m4 z1 M13 hax hay;refine Ds 0 (r:=?_)
 try simp only[Act.put,Ax,Aw,Av,Au,Ay,Az]
 refine aB (i:=1) (v:=?vv1) rfl (by kernel_rfl) (fun _ _ _ h=>h) rfl hS ?hy1 ?rest1
 case hy1 =>
  intro wy hy;have e1:=B1.out.below hy;have a0:=e1.c0;have a1:=e1.c1;have a2:=e1.c2;have a3:=e1.c3;have a4:=e1.c4;have a5:=e1.c5;clear e1 hy;go_simp;try with_reducible rfl
 try simp only[Act.put,Ax,Aw,Av,Au,Ay,Az]
 refine Ds 2 (r:=?_)
 try simp only[Act.put,Ax,Aw,Av,Au,Ay,Az]
 refine aB (i:=3) (v:=?vv3) rfl (by kernel_rfl) (fun _ _ _ h=>h) rfl hS ?hy3 ?rest3
 case hy3 =>
  intro wy hy;have e1:=B1.out.below hy;have a0:=e1.c0;have a1:=e1.c1;have a2:=e1.c2;have a3:=e1.c3;have a4:=e1.c4;have a5:=e1.c5;clear e1 hy;go_simp;try with_reducible rfl
 try simp only[Act.put,Ax,Aw,Av,Au,Ay,Az]
 refine aC (i:=4) rfl (by kernel_rfl) rfl (fun K hK=>?_);go_simp;have hp2:Calls Tryz.prog 69 #[.agg #[d,e,f]] wd fun e w'=>∃ v,e=.returned v/\IsR w' v zy/\Below wd.heap.size wd w':=by rw[HZY.out];exact qQ _ _ _ HAY.out
 refine hp2.mono ?_;clear hp2;rintro e w5 ⟨v5,rfl,hv5,hb5⟩;have hB5:=hb5;have hv4:IsR w5 (.agg #[a,b,c]) zx:=by rw[HZX.out];exact HAX.out.below hb5
 obtain⟨xn,xd,hxe,hx1,hx2,hx3,hx4⟩:=hv4;obtain⟨rfl,rfl,rfl⟩:a=.bool zx.minus/\b=xn/\c=xd:=by simpa using hxe
 clear hxe;obtain⟨yn,yd,rfl,hy1,hy2,hy3,hy4⟩:=hv5;obtain⟨pn,cn,rfl,-,-,-⟩:=id hx1;obtain⟨pd,cd,rfl,-,-,-⟩:=id hx2;obtain⟨rn,dn,rfl,-,-,-⟩:=id hy1;obtain⟨rd,dd,rfl,-,-,-⟩:=id hy2;refine hK _ _ (fun _ _=>hB5) ?_;clear hK K;try simp only[Act.put,Ax,Aw,Av,Au,Ay,Az]
 have B8:=B3.out.below hB5;have k0:=B8.cell 0;have k1:=B8.cell 1;have k2:=B8.cell 2;have k3:=B8.cell 3;have k4:=B8.cell 4;have k5:=B8.cell 5;have f0:=B8.fr 0;have f1:=B8.fr 1;have f2:=B8.fr 2;have f3:=B8.fr 3;have f4:=B8.fr 4;have f5:=B8.fr 5;have P:=At (B8.put (a':=.bool zx.minus) (b':=.slice pn _ cn) (c':=.slice pd _ cd) (d':=.bool zy.minus) (e':=.slice rn _ dn) (f':=.slice rd _ dd) nofun (IsU.not_int hx1) (IsU.not_int hx2) nofun (IsU.not_int hy1) (IsU.not_int hy2));have M8:=At (MD.out.trans (hB5.mono MD.out.size));have HX:=At (show IsV _ (.agg #[.bool zx.minus,.slice pn _ cn,.slice pd _ cd,.bool zy.minus,.slice rn _ dn,.slice rd _ dd]) ⟨zx,zy⟩ from⟨_,_,_,_,_,_,rfl,⟨_,_,rfl,P.out.2.1 _ _ hx1,P.out.2.1 _ _ hx2,hx3,hx4⟩,⟨_,_,rfl,P.out.2.1 _ _ hy1,P.out.2.1 _ _ hy2,hy3,hy4⟩⟩);clear hx1 hx2 hx3 hx4 hy1 hy2 hy3 hy4 B8 B1 B3 HAX HAY hS hb5 hB5 MD;refine Ds 5 (r:=?_)
 try simp only[Act.put,Ax,Aw,Av,Au,Ay,Az]
 refine aC (i:=6) rfl (by kernel_rfl) rfl (fun K hK=>?_);go_simp;refine hK _ _ (fun h _=>by simp at h) ?_;clear hK K;try simp only[Act.put,Ax,Aw,Av,Au,Ay,Az]
 refine bC (by kernel_rfl) ?_ _;simp only[ci];go_wp2_with fail
 have q0:=P.out.1.cell 0;have q1:=P.out.1.cell 1;have q2:=P.out.1.cell 2;have q3:=P.out.1.cell 3;have q4:=P.out.1.cell 4;have q5:=P.out.1.cell 5;refine Du (v:=.agg #[.bool zx.minus,.slice pn (ag BB zx.n).length cn,.slice pd (ag BB zx.d).length cd,.bool zy.minus,.slice rn (ag BB zy.n).length dn,.slice rd (ag BB zy.d).length dd]) (by simp[results,Tryz.results109,go_sem,cP] at q0 q1 q2 q3 q4 q5 |-;simp[results,Tryz.results109,go_sem,q0,q1,q2,q3,q4,q5]) rfl ⟨_,rfl,HX.out,P.out.2.2 w M8.out ?_⟩;omega
def sb (u v:Vl):Vl:=lk u (po v)
theorem vM (va vb:Value) (u v:Vl) (w:World) (ha:IsV w va u) (hb:IsV w vb v) (hx:qj u.x (dy v.x)) (hy:qj u.y (dy v.y)) :
  Calls Tryz.prog 79 #[va,vb] w fun e w'=>∃ t,e=.returned t/\IsV w' t (sb u v)/\Below w.heap.size w w':=by
 obtain⟨a,b,c,d,e,f,rfl,hax,hay⟩:=ha;obtain⟨a',b',c',d',e',f',rfl,hbx,hby⟩:=hb;obtain⟨zx,hzx⟩:∃ z,z=bZ u.x (dy v.x):=⟨_,rfl⟩;obtain⟨zy,hzy⟩:∃ z,z=bZ u.y (dy v.y):=⟨_,rfl⟩;unfold sb lk po;rw[<-hzx,<-hzy];have HZX:=At hzx;have HZY:=At hzy;clear hzx hzy;go_enter Tryz.func79,Tryz.ntmps79;go_upto_region 1 with fail
 have q1:=aW.new w a b c d e f 65;have m1:Below w.heap.size w (w.alloc (.cells #[a,b,c,d,e,f] 65)):=(Dv _ _).alloc (AA _) _;have z1:(w.alloc (.cells #[a,b,c,d,e,f] 65)).heap.size=w.heap.size+1:=by show (Array.push _ _).size=_;exact A7 _
 generalize w.alloc (.cells #[a,b,c,d,e,f] 65)=w1 at *
 have q2:=aW.new w1 a' b' c' d' e' f' 65;have m2:Below w1.heap.size w1 (w1.alloc (.cells #[a',b',c',d',e',f'] 65)):=(Dv _ _).alloc (AA _) _;have z2:(w1.alloc (.cells #[a',b',c',d',e',f'] 65)).heap.size=w1.heap.size+1:=by show (Array.push _ _).size=_;exact A7 _
 generalize w1.alloc (.cells #[a',b',c',d',e',f'] 65)=w2 at *
 have q3:=bm.new w2 (.bool false) (.slice none 0 0) (.slice none 0 0) (.bool false) (.slice none 0 0) (.slice none 0 0) nofun nofun nofun nofun nofun nofun;have m3:Below w2.heap.size w2 (w2.alloc (.cells #[.bool false,.slice none 0 0,.slice none 0 0,.bool false,.slice none 0 0,.slice none 0 0] 65)):=(Dv _ _).alloc (AA _) _;generalize w2.alloc (.cells #[.bool false,.slice none 0 0,.slice none 0 0,.bool false,.slice none 0 0,.slice none 0 0] 65)=w3 at *
 have m4:Below w3.heap.size w3 w3.drew:=(Dv _ _).drew;rw[z2,z1] at q3;rw[z1] at q2;refine wp_mono (aH (Q:=ci _) (fun wx:World=>Below w3.drew.heap.size w3.drew wx) (fun i=>i == 4) (by kernel_rfl) ?_) (fun _ _ _ h=>cL h);generalize w3.drew=wd at *
 have hS:Below wd.heap.size wd wd:=Dv _ _;have M12:=m1.trans (m2.mono m1.size);have M13:=M12.trans (m3.mono M12.size);have MD:=At (M13.trans (m4.mono M13.size));have B1:=At (((q1.below m2).below m3).below m4);have B2:=At ((q2.below m3).below m4);have B3:=At (q3.below m4);have HA:=At (show IsV wd (.agg #[a,b,c,d,e,f]) u from⟨_,_,_,_,_,_,rfl,hax.below MD.out,hay.below MD.out⟩);have HB:=At (show IsV wd (.agg #[a',b',c',d',e',f']) v from⟨_,_,_,_,_,_,rfl,hbx.below MD.out,hby.below MD.out⟩);clear q1 q2 q3 m1 m2 m3 m4 z1 z2 M12 M13 hax hay hbx hby;refine aB (i:=0) (v:=?vv0) rfl (by kernel_rfl) (fun _ _ _ h=>h) rfl hS ?hy0 ?rest0
 case hy0 =>
  intro wy hy;have e1:=B1.out.below hy;have e2:=B2.out.below hy;have a0:=e1.c0;have a1:=e1.c1;have a2:=e1.c2;have a3:=e1.c3;have a4:=e1.c4;have a5:=e1.c5;have b0:=e2.c0;have b1:=e2.c1;have b2:=e2.c2;have b3:=e2.c3;have b4:=e2.c4;have b5:=e2.c5;clear e1 e2 hy;go_simp;try with_reducible rfl
 try simp only[Act.put,Ax,Aw,Av,Au,Ay,Az]
 refine aB (i:=1) (v:=?vv1) rfl (by kernel_rfl) (fun _ _ _ h=>h) rfl hS ?hy1 ?rest1
 case hy1 =>
  intro wy hy;have e1:=B1.out.below hy;have e2:=B2.out.below hy;have a0:=e1.c0;have a1:=e1.c1;have a2:=e1.c2;have a3:=e1.c3;have a4:=e1.c4;have a5:=e1.c5;have b0:=e2.c0;have b1:=e2.c1;have b2:=e2.c2;have b3:=e2.c3;have b4:=e2.c4;have b5:=e2.c5;clear e1 e2 hy;go_simp;try with_reducible rfl
 try simp only[Act.put,Ax,Aw,Av,Au,Ay,Az]
 refine aC (i:=2) rfl (by kernel_rfl) rfl (fun K hK=>?_);go_simp;refine (Ag _ v _ HB.out).mono ?_;rintro e w4 ⟨v4,rfl,hv4,hb4⟩;refine hK _ _ (fun _ _=>hb4) ?_;clear hK K;try simp only[Act.put,Ax,Aw,Av,Au,Ay,Az]
 refine aC (i:=3) rfl (by kernel_rfl) rfl (fun K hK=>?_);go_simp;have hp2:Calls Tryz.prog 63 #[.agg #[a,b,c,d,e,f],v4] w4 fun e w'=>∃ t,e=.returned t/\IsV w' t ⟨zx,zy⟩/\Below w4.heap.size w4 w':=by rw[HZX.out,HZY.out];exact nI _ _ u (po v) _ (HA.out.below hb4) hv4 hx hy
 refine hp2.mono ?_;clear hp2;rintro e w5 ⟨v5,rfl,hv5,hb5⟩;have hB5:=hb4.trans (hb5.mono hb4.size);obtain⟨x0,x1,x2,x3,x4,x5,rfl,hvx,hvy⟩:=hv5;obtain⟨xn,xd,hex,hx1,hx2,hx3,hx4⟩:=hvx;obtain⟨yn,yd,hey,hy1,hy2,hy3,hy4⟩:=hvy;obtain⟨rfl,rfl,rfl⟩:x0=.bool zx.minus/\x1=xn/\x2=xd:=by simpa using hex
 obtain⟨rfl,rfl,rfl⟩:x3=.bool zy.minus/\x4=yn/\x5=yd:=by simpa using hey
 clear hex hey;obtain⟨pn,cn,rfl,-,-,-⟩:=id hx1;obtain⟨pd,cd,rfl,-,-,-⟩:=id hx2;obtain⟨rn,dn,rfl,-,-,-⟩:=id hy1;obtain⟨rd,dd,rfl,-,-,-⟩:=id hy2;refine hK _ _ (fun _ _=>hB5) ?_;clear hK K;try simp only[Act.put,Ax,Aw,Av,Au,Ay,Az]
 have B8:=B3.out.below hB5;have k0:=B8.cell 0;have k1:=B8.cell 1;have k2:=B8.cell 2;have k3:=B8.cell 3;have k4:=B8.cell 4;have k5:=B8.cell 5;have f0:=B8.fr 0;have f1:=B8.fr 1;have f2:=B8.fr 2;have f3:=B8.fr 3;have f4:=B8.fr 4;have f5:=B8.fr 5;have P:=At (B8.put (a':=.bool zx.minus) (b':=.slice pn _ cn) (c':=.slice pd _ cd) (d':=.bool zy.minus) (e':=.slice rn _ dn) (f':=.slice rd _ dd) nofun (IsU.not_int hx1) (IsU.not_int hx2) nofun (IsU.not_int hy1) (IsU.not_int hy2));have M8:=At (MD.out.trans (hB5.mono MD.out.size));have HX:=At (show IsV _ (.agg #[.bool zx.minus,.slice pn _ cn,.slice pd _ cd,.bool zy.minus,.slice rn _ dn,.slice rd _ dd]) ⟨zx,zy⟩ from⟨_,_,_,_,_,_,rfl,⟨_,_,rfl,P.out.2.1 _ _ hx1,P.out.2.1 _ _ hx2,hx3,hx4⟩,⟨_,_,rfl,P.out.2.1 _ _ hy1,P.out.2.1 _ _ hy2,hy3,hy4⟩⟩);clear hx1 hx2 hx3 hx4 hy1 hy2 hy3 hy4 B8 B1 B2 B3 HA HB hS hb4 hb5 hB5 MD;refine aC (i:=4) rfl (by kernel_rfl) rfl (fun K hK=>?_);go_simp;refine hK _ _ (fun h _=>by simp at h) ?_;clear hK K;try simp only[Act.put,Ax,Aw,Av,Au,Ay,Az]
 refine bC (by kernel_rfl) ?_ _;simp only[ci];go_wp2_with fail
 have q0:=P.out.1.cell 0;have q1:=P.out.1.cell 1;have q2:=P.out.1.cell 2;have q3:=P.out.1.cell 3;have q4:=P.out.1.cell 4;have q5:=P.out.1.cell 5;refine Du (v:=.agg #[.bool zx.minus,.slice pn (ag BB zx.n).length cn,.slice pd (ag BB zx.d).length cd,.bool zy.minus,.slice rn (ag BB zy.n).length dn,.slice rd (ag BB zy.d).length dd]) (by simp[results,Tryz.results79,go_sem,cP] at q0 q1 q2 q3 q4 q5 |-;simp[results,Tryz.results79,go_sem,q0,q1,q2,q3,q4,q5]) rfl ⟨_,rfl,HX.out,P.out.2.2 w M8.out ?_⟩;omega
def f9 (r:Rt):Vl:=⟨r,⟨false,0,1⟩⟩
theorem de (va:Value) (r:Rt) (w:World) (ha:IsR w va r) :
  Calls Tryz.prog 61 #[va] w fun e w'=>∃ t,e=.returned t/\IsV w' t (f9 r)/\Below w.heap.size w w':=by
 have HA0:=At ha;obtain⟨xn,xd,rfl,hx1,hx2,hx3,hx4⟩:=ha;obtain⟨pn,cn,rfl,-,-,-⟩:=id hx1;obtain⟨pd,cd,rfl,-,-,-⟩:=id hx2;unfold f9;go_enter Tryz.func61,Tryz.ntmps61;go_upto_region 1 with fail
 have q1:=a_.new w (.bool r.minus) (.slice pn (ag BB r.n).length cn) (.slice pd (ag BB r.d).length cd) nofun (IsU.not_int hx1) (IsU.not_int hx2);have m1:Below w.heap.size w (w.alloc (.cells #[.bool r.minus,.slice pn (ag BB r.n).length cn,.slice pd (ag BB r.d).length cd] 63)):=(Dv _ _).alloc (AA _) _;have z1:(w.alloc (.cells #[.bool r.minus,.slice pn (ag BB r.n).length cn,.slice pd (ag BB r.d).length cd] 63)).heap.size=w.heap.size+1:=by show (Array.push _ _).size=_;exact A7 _
 generalize w.alloc (.cells #[.bool r.minus,.slice pn (ag BB r.n).length cn,.slice pd (ag BB r.d).length cd] 63)=w1 at *
 have q3:=bm.new w1 (.bool false) (.slice none 0 0) (.slice none 0 0) (.bool false) (.slice none 0 0) (.slice none 0 0) nofun nofun nofun nofun nofun nofun;have m3:Below w1.heap.size w1 (w1.alloc (.cells #[.bool false,.slice none 0 0,.slice none 0 0,.bool false,.slice none 0 0,.slice none 0 0] 65)):=(Dv _ _).alloc (AA _) _;generalize w1.alloc (.cells #[.bool false,.slice none 0 0,.slice none 0 0,.bool false,.slice none 0 0,.slice none 0 0] 65)=w3 at *
 have m4:Below w3.heap.size w3 w3.drew:=(Dv _ _).drew;rw[z1] at q3;refine wp_mono (aH (Q:=ci _) (fun wx:World=>Below w3.drew.heap.size w3.drew wx) (fun i=>i == 4) (by kernel_rfl) ?_) (fun _ _ _ h=>cL h);generalize w3.drew=wd at *
 have hS:Below wd.heap.size wd wd:=Dv _ _;have M13:=m1.trans (m3.mono m1.size);have MD:=At (M13.trans (m4.mono M13.size));have B1:=At ((q1.below m3).below m4);have B3:=At (q3.below m4);have HA:=At (HA0.out.below MD.out);clear q1 q3 m1 m3 m4 z1 M13 HA0 hx1 hx2 hx3 hx4;refine aB (i:=0) (v:=?vv0) rfl (by kernel_rfl) (fun _ _ _ h=>h) rfl hS ?hy0 ?rest0
 case hy0 =>
  intro wy hy;have e1:=B1.out.below hy;have a0:=e1.c0;have a1:=e1.c1;have a2:=e1.c2;clear e1 hy;go_simp;try with_reducible rfl
 try simp only[Act.put,Ax,Aw,Av,Au,Ay,Az]
 refine aC (i:=1) rfl (by kernel_rfl) rfl (fun K hK=>?_);go_simp;refine (jn _).mono ?_;rintro e w5 ⟨v5,rfl,hv5,hB5⟩;obtain⟨rd,dd,rfl,-,-,-⟩:=id hv5;obtain⟨xn,xd,hxe,hx1,hx2,hx3,hx4⟩:=HA.out.below hB5;obtain⟨rfl,rfl⟩:(.slice pn (ag BB r.n).length cn)=xn/\(.slice pd (ag BB r.d).length cd)=xd:=by simpa using hxe
 clear hxe;refine hK _ _ (fun _ _=>hB5) ?_;clear hK K;try simp only[Act.put,Ax,Aw,Av,Au,Ay,Az]
 have B8:=B3.out.below hB5;have k0:=B8.cell 0;have k1:=B8.cell 1;have k2:=B8.cell 2;have k3:=B8.cell 3;have k4:=B8.cell 4;have k5:=B8.cell 5;have f0:=B8.fr 0;have f1:=B8.fr 1;have f2:=B8.fr 2;have f3:=B8.fr 3;have f4:=B8.fr 4;have f5:=B8.fr 5;have P:=At (B8.put (a':=.bool r.minus) (b':=.slice pn _ cn) (c':=.slice pd _ cd) (d':=.bool false) (e':=.slice none 0 0) (f':=.slice rd _ dd) nofun (IsU.not_int hx1) (IsU.not_int hx2) nofun nofun (IsU.not_int hv5));have M8:=At (MD.out.trans (hB5.mono MD.out.size));have HX:=At (show IsV _ (.agg #[.bool r.minus,.slice pn _ cn,.slice pd _ cd,.bool false,.slice none 0 0,.slice rd _ dd]) ⟨r,⟨false,0,1⟩⟩ from⟨_,_,_,_,_,_,rfl,⟨_,_,rfl,P.out.2.1 _ _ hx1,P.out.2.1 _ _ hx2,hx3,hx4⟩,⟨_,_,rfl,P.out.2.1 _ _ (vK _),P.out.2.1 _ _ hv5,ez (show (0:Nat)<BB by decide),ez (show (1:Nat)<BB by decide)⟩⟩);clear hx1 hx2 hx3 hx4 hv5 B8 B1 B3 HA hS hB5 MD;refine Ds 2 (r:=?_)
 try simp only[Act.put,Ax,Aw,Av,Au,Ay,Az]
 refine Ds 3 (r:=?_)
 try simp only[Act.put,Ax,Aw,Av,Au,Ay,Az]
 refine aC (i:=4) rfl (by kernel_rfl) rfl (fun K hK=>?_);go_simp;refine hK _ _ (fun h _=>by simp at h) ?_;clear hK K;try simp only[Act.put,Ax,Aw,Av,Au,Ay,Az]
 refine bC (by kernel_rfl) ?_ _;simp only[ci];go_wp2_with fail
 have q0:=P.out.1.cell 0;have q1:=P.out.1.cell 1;have q2:=P.out.1.cell 2;have q3:=P.out.1.cell 3;have q4:=P.out.1.cell 4;have q5:=P.out.1.cell 5;refine Du (v:=.agg #[.bool r.minus,.slice pn (ag BB r.n).length cn,.slice pd (ag BB r.d).length cd,.bool false,.slice none 0 0,.slice rd (ag BB 1).length dd]) (by simp[results,Tryz.results61,go_sem,cP] at q0 q1 q2 q3 q4 q5 |-;simp[results,Tryz.results61,go_sem,q0,q1,q2,q3,q4,q5]) rfl ⟨_,rfl,HX.out,P.out.2.2 w M8.out ?_⟩;omega
end Go.Proofs.YtgakllaobooabaaGreatDoor
