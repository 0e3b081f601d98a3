/- Lemmas of this claim. -/
import Derived.Test.YtbnkpcfjechfiaaGreatDoorQCoef
import Derived.Test.YtbnkpcfjechfiaaGreatDoorQNC7
set_option linter.all false
set_option maxRecDepth 100000
set_option maxHeartbeats 8000000
namespace Go.Proofs.YtbnkpcfjechfiaaGreatDoor
open Go.RowKit Dg
theorem rb (z:Int):rt (z:Rat)=⟨decide (z<0),z.natAbs,1⟩:=by
 unfold rt;rw[Rat.num_intCast,Rat.den_intCast]
theorem vV {n:Nat} (h:n<18446744073709551616):Few n:=nk (k:=20) (by omega) (by decide)
theorem jy (z:Int) (w:World) (h1:-9223372036854775808≤z) (h2:z≤9223372036854775807) :
  Calls Tryz.prog 147 #[.int .i64 z] w fun e w'=>∃ v,e=.returned v∧IsR w' v (rt (z:Rat))∧Below w.heap.size w w':=by
 rw[rb];go_enter Tryz.func147,Tryz.ntmps147;go_upto_region 1 with fail
 have q3:=bR.new w (.bool false) (.slice none 0 0) (.slice none 0 0) (by intro z e;cases e) (by intro z e;cases e) (by intro z e;cases e);have m3:=ak w (.cells #[.bool false,.slice none 0 0,.slice none 0 0] 151);generalize w.alloc (.cells #[.bool false,.slice none 0 0,.slice none 0 0] 151)=w3 at *
 have B3:=E5 q3;have MD:=E5 m3;clear q3 m3;by_cases hz:z<0
 ·have hd:decide (z<0)=true:=decide_eq_true hz;obtain⟨n,rfl⟩:∃ n:Nat,z=-(n:Int)-1:=⟨(-z-1).toNat,by omega⟩;have e1:(-(n:Int)-1)+1=-(n:Int):=by omega
  go_wp2_with fail
  have hp:=jl (n+1) w3 (by omega);try rw[show ((n+1:Nat):Int)=(n:Int)+1 from by omega] at hp
  refine hp.mono ?_;clear hp;rintro e w4 ⟨v4,rfl,hv4,hb4⟩;go_wp2_with fail
  refine (kQ w4).mono ?_;rintro e w5 ⟨v5,rfl,hv5,hb5⟩;have hn:=(hv4.isU).below hb5;have hB5:=hb4.trans (hb5.mono hb4.size);obtain⟨pn,cn,rfl,-⟩:=id hn;obtain⟨pd,cd,rfl,-⟩:=id hv5;have hR:IsR w5 (.agg #[.bool true,.slice pn _ cn,.slice pd _ cd]) ⟨true,n+1,1⟩:=⟨_,_,rfl,hn,hv5,vV (n:=n+1) (by omega),vV (n:=1) (by decide)⟩;have B8:=B3.out.below hB5;have k0:=B8.c0;have k1:=B8.c1;have k2:=B8.c2;have f0:=B8.fr 0;have f1:=B8.fr 1;have f2:=B8.fr 2;have P:=E5 (B8.putR hR);have M8:=E5 (P.out.2.2 _ w (MD.out.trans (hB5.mono MD.out.size)) (Fb _));have HE:=E5 (show (⟨true,n+1,1⟩:Rt)=⟨decide ((-(n:Int)-1)<0),((-(n:Int)-1)).natAbs,1⟩ from by congr 1<;>(first | omega | (simp;done) | (simp;omega)));clear hR hn hv4 hv5 B8 hb4 hb5 hB5;go_wp2_with fail
  have q0:=P.out.1.c0;have q1:=P.out.1.c1;have q2:=P.out.1.c2;refine bodyPost_ret (v:=.agg #[.bool true,.slice pn (am BB (n+1)).length cn,.slice pd (am BB 1).length cd]) (by simp[tE] at q0 q1 q2 ⊢;simp[results,Tryz.results147,go_sem,q0,q1,q2]) rfl ⟨_,rfl,by rw[←HE.out];exact P.out.2.1,M8.out⟩
 ·have hd:decide (z<0)=false:=decide_eq_false hz;obtain⟨n,rfl⟩:∃ n:Nat,z=n:=⟨z.toNat,by omega⟩;go_wp2_with fail
  have hp:=jl (n) w3 (by omega);try rw[show ((n+1:Nat):Int)=(n:Int)+1 from by omega] at hp
  refine hp.mono ?_;clear hp;rintro e w4 ⟨v4,rfl,hv4,hb4⟩;go_wp2_with fail
  refine (kQ w4).mono ?_;rintro e w5 ⟨v5,rfl,hv5,hb5⟩;have hn:=(hv4.isU).below hb5;have hB5:=hb4.trans (hb5.mono hb4.size);obtain⟨pn,cn,rfl,-⟩:=id hn;obtain⟨pd,cd,rfl,-⟩:=id hv5;have hR:IsR w5 (.agg #[.bool false,.slice pn _ cn,.slice pd _ cd]) ⟨false,n,1⟩:=⟨_,_,rfl,hn,hv5,vV (n:=n) (by omega),vV (n:=1) (by decide)⟩;have B8:=B3.out.below hB5;have k0:=B8.c0;have k1:=B8.c1;have k2:=B8.c2;have f0:=B8.fr 0;have f1:=B8.fr 1;have f2:=B8.fr 2;have P:=E5 (B8.putR hR);have M8:=E5 (P.out.2.2 _ w (MD.out.trans (hB5.mono MD.out.size)) (Fb _));have HE:=E5 (show (⟨false,n,1⟩:Rt)=⟨decide ((n:Int)<0),((n:Int)).natAbs,1⟩ from by congr 1<;>(first | omega | (simp;done) | (simp;omega)));clear hR hn hv4 hv5 B8 hb4 hb5 hB5;go_wp2_with fail
  have q0:=P.out.1.c0;have q1:=P.out.1.c1;have q2:=P.out.1.c2;refine bodyPost_ret (v:=.agg #[.bool false,.slice pn (am BB (n)).length cn,.slice pd (am BB 1).length cd]) (by simp[tE] at q0 q1 q2 ⊢;simp[results,Tryz.results147,go_sem,q0,q1,q2]) rfl ⟨_,rfl,by rw[←HE.out];exact P.out.2.1,M8.out⟩
theorem C6 (z:Int):sgz (decide (z<0) != false) z.natAbs=z:=by
 unfold sgz;by_cases h:z<0
 ·simp[h];omega
 ·simp[h];omega
theorem EU (z:Int) (d:Nat) (w:World) (h1:-9223372036854775808≤z) (h2:z≤9223372036854775807) (hd:0<d) (hd2:d≤9223372036854775807) (hG:Gw w) :
  Calls Tryz.prog 100 #[.int .i64 z,.int .i64 d] w fun e w'=>e=.returned (.tuple #[.string (dN (CQ.real (mkRat z d))).1,.int .i64 (dN (CQ.real (mkRat z d))).2])∧Below w.heap.size w w':=by
 have hq:di (decide (z<0) != false) z.natAbs d=rt (mkRat z d):=by rw[kV _ _ _ hd,C6]
 have hdd:((d:Int) == 0)=false:=by simp;omega
 have hr2:rt ((d:Int):Rat)=⟨false,d,1⟩:=by rw[rb];congr 1<;>simp
 have hr1:=rb z;have HQ:=E5 hq;have HR1:=E5 hr1;have HR2:=E5 hr2;have HD:=E5 hd;clear hq hr1 hr2 hd;go_enter Tryz.func100,Tryz.ntmps100;go_wp2_with fail
 refine (jy z w h1 h2).mono ?_;rintro e w1 ⟨v1,rfl,hv1,hb1⟩;rw[HR1.out] at hv1;go_wp2_with fail
 refine (jy d w1 (by omega) (by omega)).mono ?_;rintro e w2 ⟨v2,rfl,hv2,hb2⟩;rw[HR2.out] at hv2;have hv1:=hv1.below hb2;have hB2:=hb1.trans (hb2.mono hb1.size);obtain⟨xm,xp,xl,xc,xq,xk,xd,rfl⟩:=hv1.form;obtain⟨ym,yp,yl,yc,yq,yk,yd,rfl⟩:=hv2.form;clear hb1 hb2;go_upto_region 4 with fail
 have q1:=bR.new w2 (.bool xm) (.slice xp xl xc) (.slice xq xk xd) (by intro z e;cases e) (by intro z e;cases e) (by intro z e;cases e);have m1:=ak w2 (.cells #[.bool xm,.slice xp xl xc,.slice xq xk xd] 151);have z1:=size_alloc w2 (.cells #[.bool xm,.slice xp xl xc,.slice xq xk xd] 151);generalize w2.alloc (.cells #[.bool xm,.slice xp xl xc,.slice xq xk xd] 151)=w3 at *
 have q2:=bR.new w3 (.bool ym) (.slice yp yl yc) (.slice yq yk yd) (by intro z e;cases e) (by intro z e;cases e) (by intro z e;cases e);have m2:=ak w3 (.cells #[.bool ym,.slice yp yl yc,.slice yq yk yd] 151);generalize w3.alloc (.cells #[.bool ym,.slice yp yl yc,.slice yq yk yd] 151)=w4 at *
 rw[z1] at q2;have q1:=q1.below m2;have hb4:=m1.trans (m2.mono m1.size);have hB4:=hB2.trans (hb4.mono hB2.size);obtain⟨xn',xd',hxe,hxn,hxd,f1,f2⟩:=hv1.below hb4;obtain⟨yn',yd',hye,hyn,hyd,g1,g2⟩:=hv2.below hb4;simp only at hxn hxd hyn hyd f1 f2 g1 g2;obtain⟨rfl,rfl,rfl⟩:xm=decide (z<0)∧(.slice xp xl xc)=xn'∧(.slice xq xk xd)=xd':=by simpa using hxe
 obtain⟨rfl,rfl,rfl⟩:ym=false∧(.slice yp yl yc)=yn'∧(.slice yq yk yd)=yd':=by simpa using hye
 have HRED:=E5 (ft (decide (z<0) != false) _ _ _ _ w4 hxn hyn f1 g1 HD.out);rw[HQ.out] at HRED;have hG4:=hG.below hB4;have a0:=q1.c0;have a1:=q1.c1;have a2:=q1.c2;have b0:=q2.c0;have b1:=q2.c1;have b2:=q2.c2;clear q1 q2 m1 m2 z1 hb4 hB2 hv1 hv2 hxe hye hxn hxd hyn hyd f1 f2 g1 g2;have hbn:(decide (z<0) != false)=decide (z<0):=by simp
 rw[hbn] at HRED;go_wp2_with fail
 refine HRED.out.mono ?_;rintro e w5 ⟨v5,rfl,hv5,hb5⟩;go_wp2_with fail
 refine (eN _ _ _ hv5).mono ?_;rintro e w6 ⟨v6,rfl,hv6,hb6⟩;rw[dA] at hv6;have hB6:=hb5.trans (hb6.mono hb5.size);go_wp2_with fail
 refine (A6 _ _ w6 hv6 (hG4.below hB6)).mono ?_;rintro e w7 ⟨rfl,hb7⟩;have hB7:=hB6.trans (hb7.mono hB6.size);go_wp2;refine bodyPost_ret (v:=.tuple #[.string (dN (CQ.real (mkRat z d))).1,.int .i64 (dN (CQ.real (mkRat z d))).2]) (by simp[results,Tryz.results100,go_sem]) rfl ⟨rfl,hB4.trans (hB7.mono hB4.size)⟩
structure zr (F:FuncId) (cap:Array Value) (φ:CQ→CQ) (w:World):Prop where
 en:∀ (args:Array Value) (w:World),(callFunc F args).run Tryz.prog w=.ok (.enter F args) w
 on:∀ (x:Value) (a:CQ) (w':World),Below w.heap.size w w'→IsK w' x a→Calls Tryz.prog F (#[x]++cap) w' fun e w''=>∃ v,e=.returned v∧IsV w'' v (ct (φ a))∧Below w'.heap.size w' w''
def ofC (φ:CQ→CQ) (s:ByteArray):ByteArray×Int:=match fE s with | some a=>dN (φ a) | none=>(⟨#[]⟩,10)
theorem Ds (F:FuncId) (cap:Array Value) (φ:CQ→CQ) (s:ByteArray) (w:World) (hG:Gw w) (hF:zr F cap φ w) :
  Calls Tryz.prog 114 #[.string s,.func (.func F) #[] cap] w fun e w'=>e=.returned (.tuple #[.string (ofC φ s).1,.int .i64 (ofC φ s).2])∧Below w.heap.size w w':=by
 have HF:=E5 hF;have EN:=hF.en;clear hF;go_enter Tryz.func114,Tryz.ntmps114;go_wp2_with fail
 refine (jH s w hG).mono ?_;rintro e w1 ⟨v,ok,rfl,hcase,hb1⟩;rcases hcase with ⟨z,hz,rfl,hv⟩ | ⟨hz,rfl,rfl⟩
 ·obtain⟨p,rfl,hp1,hp2,-,-⟩:=iC hz;have HP1:=E5 (show ofC φ s=dN (φ p) by unfold ofC;rw[hp1]);clear hz hp1;have hk:IsK w1 v p:=⟨hv,hp2.mono (by decide)⟩
  obtain⟨xm,xp,xl,xc,xq,xk,xd,ym,yp,yl,yc,yq,yk,yd,rfl⟩:∃ xm xp xl xc xq xk xd ym yp yl yc yq yk yd,v=.agg #[.bool xm,.slice xp xl xc,.slice xq xk xd,.bool ym,.slice yp yl yc,.slice yq yk yd]:=by
   obtain⟨_,_,_,_,_,_,rfl,hx0,hy0⟩:=hk.v;obtain⟨xm,xp,xl,xc,xq,xk,xd,hxe⟩:=hx0.form;obtain⟨ym,yp,yl,yc,yq,yk,yd,hye⟩:=hy0.form;obtain⟨rfl,rfl,rfl⟩:=eh hxe;obtain⟨rfl,rfl,rfl⟩:=eh hye;exact⟨_,_,_,_,_,_,_,_,_,_,_,_,_,_,rfl⟩
  go_upto_region 2 with fail
  have q1:=bN.new w1 (.bool xm) (.slice xp xl xc) (.slice xq xk xd) (.bool ym) (.slice yp yl yc) (.slice yq yk yd) 153;have m1:=ak w1 (.cells #[.bool xm,.slice xp xl xc,.slice xq xk xd,.bool ym,.slice yp yl yc,.slice yq yk yd] 153);generalize w1.alloc (.cells #[.bool xm,.slice xp xl xc,.slice xq xk xd,.bool ym,.slice yp yl yc,.slice yq yk yd] 153)=w2 at *
  have a0:=q1.c0;have a1:=q1.c1;have a2:=q1.c2;have a3:=q1.c3;have a4:=q1.c4;have a5:=q1.c5;have hB2:=hb1.trans (m1.mono hb1.size);have HC:=E5 (HF.out.on _ _ w2 hB2 (hk.below m1));have HG:=E5 (hG.below hB2);clear q1 m1 hk hv hb1 HF;go_wp2_with fail
  refine HC.out.mono ?_;rintro e w3 ⟨v3,rfl,hv3,hb3⟩;have hB3:=hB2.trans (hb3.mono hB2.size);go_wp2_with fail
  refine (A6 _ _ _ hv3 (HG.out.below hb3)).mono ?_;rintro e w4 ⟨rfl,hb4⟩;go_wp2;refine bodyPost_ret (v:=.tuple #[.string (dN (φ p)).1,.int .i64 (dN (φ p)).2]) (by simp[results,Tryz.results114,go_sem]) rfl ⟨by rw[HP1.out],hB3.trans (hb4.mono hB3.size)⟩
 ·have HE:=E5 (show ofC φ s=(⟨#[]⟩,10) by unfold ofC;rw[fP hz]);clear hz;unfold gO;go_wp2;refine bodyPost_ret (v:=.tuple #[.string ⟨#[]⟩,.int .i64 10]) (by simp[results,Tryz.results114,go_sem]) rfl ⟨by rw[HE.out],hb1.trans ((ak w1 _).mono hb1.size)⟩
theorem reF (w:World):zr 161 #[] (fun z=>CQ.real z.re) w:=by
 refine⟨a_ Tryz.func161 rfl (by kernel_rfl),fun x z w0 hw hk=>?_⟩;obtain⟨a,b,c,d,e,f,rfl,hax,hay⟩:=id hk.v
 show Calls _ _ #[_] _ _
 go_enter Tryz.func161,Tryz.ntmps161;go_upto_region 1 with fail
 have q1:=bN.new w0 a b c d e f 153;have m1:=ak w0 (.cells #[a,b,c,d,e,f] 153);have z1:=size_alloc w0 (.cells #[a,b,c,d,e,f] 153);generalize w0.alloc (.cells #[a,b,c,d,e,f] 153)=w1 at *
 have q3:=cH.new w1 (.bool false) (.slice none 0 0) (.slice none 0 0) (.bool false) (.slice none 0 0) (.slice none 0 0) (by intro z e;cases e) (by intro z e;cases e) (by intro z e;cases e) (by intro z e;cases e) (by intro z e;cases e) (by intro z e;cases e);have m3:=ak w1 (.cells #[.bool false,.slice none 0 0,.slice none 0 0,.bool false,.slice none 0 0,.slice none 0 0] 153);generalize w1.alloc (.cells #[.bool false,.slice none 0 0,.slice none 0 0,.bool false,.slice none 0 0,.slice none 0 0] 153)=w3 at *
 rw[z1] at q3;have q1:=q1.below m3;have a0:=q1.c0;have a1:=q1.c1;have a2:=q1.c2;have a3:=q1.c3;have a4:=q1.c4;have a5:=q1.c5;have MD:=E5 (m1.trans (m3.mono m1.size));have B3:=E5 q3;have HX:=E5 (hax.below MD.out);clear q1 q3 m1 m3 z1 hax hay hk;go_wp2_with fail
 refine (eN _ _ _ HX.out).mono ?_;rintro e w4 ⟨v4,rfl,hv4,hb4⟩;have hv4:IsV w4 v4 (ct (CQ.real z.re)):=by rw[←dA];exact hv4
 obtain⟨x1,x2,x3,y1,y2,y3,rfl,hx,hy⟩:=hv4;obtain⟨xm,xp,xl,xc,xq,xk,xd,hxe⟩:=hx.form;obtain⟨ym,yp,yl,yc,yq,yk,yd,hye⟩:=hy.form;obtain⟨rfl,rfl,rfl⟩:=eh hxe;obtain⟨rfl,rfl,rfl⟩:=eh hye;have B8:=B3.out.below hb4;have k0:=B8.cell 0;have k1:=B8.cell 1;have k2:=B8.cell 2;have k3:=B8.cell 3;have k4:=B8.cell 4;have k5:=B8.cell 5;have f0:=B8.fr 0;have f1:=B8.fr 1;have f2:=B8.fr 2;have f3:=B8.fr 3;have f4:=B8.fr 4;have f5:=B8.fr 5;have P:=E5 (B8.putV hx hy);have M8:=E5 (P.out.2.2 _ _ (MD.out.trans (hb4.mono MD.out.size)) (by omega));clear hx hy hxe hye B8;go_wp2_with fail
 have q0:=P.out.1.cell 0;have q1:=P.out.1.cell 1;have q2:=P.out.1.cell 2;have q3:=P.out.1.cell 3;have q4:=P.out.1.cell 4;have q5:=P.out.1.cell 5;refine bodyPost_ret (v:=.agg #[.bool xm,.slice xp xl xc,.slice xq xk xd,.bool ym,.slice yp yl yc,.slice yq yk yd]) (by simp[results,Tryz.results161,go_sem,dY] at q0 q1 q2 q3 q4 q5 ⊢;simp[results,Tryz.results161,go_sem,q0,q1,q2,q3,q4,q5]) rfl ⟨_,rfl,P.out.2.1,M8.out⟩
theorem imF (w:World):zr 162 #[] (fun z=>CQ.real z.im) w:=by
 refine⟨a_ Tryz.func162 rfl (by kernel_rfl),fun x z w0 hw hk=>?_⟩;obtain⟨a,b,c,d,e,f,rfl,hax,hay⟩:=id hk.v
 show Calls _ _ #[_] _ _
 go_enter Tryz.func162,Tryz.ntmps162;go_upto_region 1 with fail
 have q1:=bN.new w0 a b c d e f 153;have m1:=ak w0 (.cells #[a,b,c,d,e,f] 153);have z1:=size_alloc w0 (.cells #[a,b,c,d,e,f] 153);generalize w0.alloc (.cells #[a,b,c,d,e,f] 153)=w1 at *
 have q3:=cH.new w1 (.bool false) (.slice none 0 0) (.slice none 0 0) (.bool false) (.slice none 0 0) (.slice none 0 0) (by intro z e;cases e) (by intro z e;cases e) (by intro z e;cases e) (by intro z e;cases e) (by intro z e;cases e) (by intro z e;cases e);have m3:=ak w1 (.cells #[.bool false,.slice none 0 0,.slice none 0 0,.bool false,.slice none 0 0,.slice none 0 0] 153);generalize w1.alloc (.cells #[.bool false,.slice none 0 0,.slice none 0 0,.bool false,.slice none 0 0,.slice none 0 0] 153)=w3 at *
 rw[z1] at q3;have q1:=q1.below m3;have a0:=q1.c0;have a1:=q1.c1;have a2:=q1.c2;have a3:=q1.c3;have a4:=q1.c4;have a5:=q1.c5;have MD:=E5 (m1.trans (m3.mono m1.size));have B3:=E5 q3;have HX:=E5 (hay.below MD.out);clear q1 q3 m1 m3 z1 hax hay hk;go_wp2_with fail
 refine (eN _ _ _ HX.out).mono ?_;rintro e w4 ⟨v4,rfl,hv4,hb4⟩;have hv4:IsV w4 v4 (ct (CQ.real z.im)):=by rw[←dA];exact hv4
 obtain⟨x1,x2,x3,y1,y2,y3,rfl,hx,hy⟩:=hv4;obtain⟨xm,xp,xl,xc,xq,xk,xd,hxe⟩:=hx.form;obtain⟨ym,yp,yl,yc,yq,yk,yd,hye⟩:=hy.form;obtain⟨rfl,rfl,rfl⟩:=eh hxe;obtain⟨rfl,rfl,rfl⟩:=eh hye;have B8:=B3.out.below hb4;have k0:=B8.cell 0;have k1:=B8.cell 1;have k2:=B8.cell 2;have k3:=B8.cell 3;have k4:=B8.cell 4;have k5:=B8.cell 5;have f0:=B8.fr 0;have f1:=B8.fr 1;have f2:=B8.fr 2;have f3:=B8.fr 3;have f4:=B8.fr 4;have f5:=B8.fr 5;have P:=E5 (B8.putV hx hy);have M8:=E5 (P.out.2.2 _ _ (MD.out.trans (hb4.mono MD.out.size)) (by omega));clear hx hy hxe hye B8;go_wp2_with fail
 have q0:=P.out.1.cell 0;have q1:=P.out.1.cell 1;have q2:=P.out.1.cell 2;have q3:=P.out.1.cell 3;have q4:=P.out.1.cell 4;have q5:=P.out.1.cell 5;refine bodyPost_ret (v:=.agg #[.bool xm,.slice xp xl xc,.slice xq xk xd,.bool ym,.slice yp yl yc,.slice yq yk yd]) (by simp[results,Tryz.results162,go_sem,dY] at q0 q1 q2 q3 q4 q5 ⊢;simp[results,Tryz.results162,go_sem,q0,q1,q2,q3,q4,q5]) rfl ⟨_,rfl,P.out.2.1,M8.out⟩
theorem EV (s:ByteArray) (w:World) (hG:Gw w) :
  Calls Tryz.prog 110 #[.string s] w fun e w'=>e=.returned (.tuple #[.string (ofC (fun z=>CQ.real z.re) s).1,.int .i64 (ofC (fun z=>CQ.real z.re) s).2])∧Below w.heap.size w w':=by
 have HP:=E5 (Ds 161 #[] _ s w hG (reF w));go_enter Tryz.func110,Tryz.ntmps110;go_wp2_with fail
 refine HP.out.mono ?_;rintro e w2 ⟨rfl,hb2⟩;go_wp2;refine bodyPost_ret (v:=.tuple #[.string (ofC (fun z=>CQ.real z.re) s).1,.int .i64 (ofC (fun z=>CQ.real z.re) s).2]) (by simp[results,Tryz.results110,go_sem]) rfl ⟨rfl,hb2⟩
theorem ET (s:ByteArray) (w:World) (hG:Gw w) :
  Calls Tryz.prog 111 #[.string s] w fun e w'=>e=.returned (.tuple #[.string (ofC (fun z=>CQ.real z.im) s).1,.int .i64 (ofC (fun z=>CQ.real z.im) s).2])∧Below w.heap.size w w':=by
 have HP:=E5 (Ds 162 #[] _ s w hG (imF w));go_enter Tryz.func111,Tryz.ntmps111;go_wp2_with fail
 refine HP.out.mono ?_;rintro e w2 ⟨rfl,hb2⟩;go_wp2;refine bodyPost_ret (v:=.tuple #[.string (ofC (fun z=>CQ.real z.im) s).1,.int .i64 (ofC (fun z=>CQ.real z.im) s).2]) (by simp[results,Tryz.results111,go_sem]) rfl ⟨rfl,hb2⟩
def lH (s:ByteArray):Bool:=decide ((ofC (fun z=>CQ.real z.re) s).2=0)&&decide ((ofC (fun z=>CQ.real z.im) s).2=0)&&gl (ofC (fun z=>CQ.real z.re) s).1.data.toList&&gl (ofC (fun z=>CQ.real z.im) s).1.data.toList
def da (zs:List CQ):List CQ:=(zs.reverse.dropWhile fun z=>decide (z=⟨0,0⟩)).reverse
theorem iE (zs:List CQ) (z:CQ):da (zs++[z])=if z=⟨0,0⟩ then da zs else zs++[z]:=by
 unfold da;rw[List.reverse_append,List.reverse_singleton,Hb,List.dropWhile_cons];by_cases h:z=⟨0,0⟩
 ·simp[h]
 ·simp[h]
theorem uJ {zs:List CQ} (h:0<zs.length):da zs=if zs[zs.length-1]=⟨0,0⟩ then da (zs.take (zs.length-1)) else zs:=by
 have e:zs=zs.take (zs.length-1)++[zs[zs.length-1]]:=by
  have:=Fm (l:=zs) (i:=zs.length-1) (by omega);rw[this,show zs.length-1+1=zs.length from by omega,FD]
 conv=>lhs;rw[e]
 rw[iE,←e]
theorem jJ (zs:List CQ):(da zs).length≤zs.length:=by
 unfold da;rw[List.length_reverse];refine Fj (List.dropWhile_sublist _).length_le ?_;simp
theorem IsP.take {w:World}{p:Option Addr}{n c:Nat}{zs:List CQ} (h:IsP w (.slice p n c) zs) {m:Nat} (hm:m≤zs.length):IsP w (.slice p m c) (zs.take m):=by
 obtain⟨es,h1,⟨p',cap,e,h2,h3,h4⟩,h5⟩:=h;obtain⟨rfl,-,rfl⟩:p=p'∧n=es.length∧c=cap:=by simpa using e
 refine⟨es.take m,by simp;omega,⟨p,c,by simp;omega,by simp;omega,h3,?_⟩,fun i hi hi'=>?_⟩
 ·intro hl;obtain⟨b,o,e2,hlt,hc⟩:=h4 (by simp at hl;omega);exact⟨b,o,e2,hlt,fun i hi j u hu=>hc i (by simp at hi;omega) j u (by rw[Hv] at hu;exact hu)⟩
 ·rw[Hv,Hv];exact h5 i (by simp at hi;omega) (by simp at hi';omega)
theorem lQ (z:CQ):((ct z).x.n=0∧(ct z).y.n=0)↔z=⟨0,0⟩:=by
 cases z with
 | mk x y =>
  show ((rt x).n=0∧(rt y).n=0)↔_
  rw[bg,bg];simp
def uK:Value→Nat
 | .slice _ n _=>n
 | _=>0
theorem pE (v:Value) (zs:List CQ) (w:World) (hl:IsP w v zs) (hlen:zs.length<1000000) :
  Calls Tryz.prog 168 #[v] w fun e w'=>∃ v',e=.returned v'∧IsP w' v' (da zs)∧Below w.heap.size w w':=by
 obtain⟨p,c,rfl,hcc,-⟩:=id hl.form;have HL:=E5 hl;clear hl;go_enter Tryz.func168,Tryz.ntmps168;go_wp2;go_loopw [0] (fun s0 wr=>∃ m:Nat,s0=.slice p m c∧m≤zs.length∧Below w.heap.size w wr∧Hid (da (zs.take m)=da zs)) (fun s0 _=>uK s0)
 case atStart=>exact⟨_,rfl,Fb _,Below.refl _ _,by unfold Hid;rw[FD]⟩
 case round =>
  obtain⟨m,rfl,hm,hbr,heq⟩:=hrel;have hL:=((HL.out.below hbr).take hm);by_cases h0:m=0
  ·subst h0;have HE:=E5 (show da zs=[] by rw[←heq.out];rfl);have HN:=E5 hL;clear hL;go_wp2;go_ret;exact⟨_,rfl,by rw[HE.out];simpa using HN.out,hbr⟩
  ·obtain⟨k,rfl⟩:∃ k,m=k+1:=⟨m-1,by omega⟩;have hl1:(zs.take (k+1)).length=k+1:=by simp;omega
   have hm1:k<(zs.take (k+1)).length:=by omega
   obtain⟨B,o,rfl,hlt,xm,xp,xl,xc,xq,xk,xd,ym,yp,yl,yc,yq,yk,yd,hk,a0,a1,a2,a3,a4,a5⟩:=hL.get hm1;have hstep:=uJ (zs:=zs.take (k+1)) (by omega);have e1:(zs.take (k+1))[(zs.take (k+1)).length-1]'(by omega)=(zs.take (k+1))[k]:=by congr 1;omega
   rw[e1] at hstep;generalize hz:(zs.take (k+1))[k]=z at hstep hk;rw[hl1,Im,GB,show min k (k+1)=k from by omega,heq.out] at hstep;have HS:=E5 hstep;have HN:=E5 hL;clear hz e1 hstep hL hl1 hm1 h0;by_cases hz:z=⟨0,0⟩
   ·have HZ:=E5 (BW _ (ct z) wr hk.v);rw[decide_eq_true ((lQ z).2 hz)] at HZ;have HE:=E5 (show da (zs.take k)=da zs by rw[HS.out,if_pos hz]);clear hz;go_wp2_with fail
    refine HZ.out.mono ?_;rintro e w1 ⟨rfl,hb1⟩;have hB1:=hbr.trans (hb1.mono hbr.size);clear hb1 HZ hk a0 a1 a2 a3 a4 a5;have hkc:k≤c:=by omega
    go_wp2;go_roundw;case rel=>exact⟨k,by go_num,by omega,hB1,HE.out⟩
    case measure=>(first | (simp[uK];done) | (simp[uK];omega))
   ·have HZ:=E5 (BW _ (ct z) wr hk.v);rw[decide_eq_false (fun h=>hz ((lQ z).1 h))] at HZ;have HE:=E5 (show da zs=zs.take (k+1) by rw[HS.out,if_neg hz]);clear hz;go_wp2_with fail
    refine HZ.out.mono ?_;rintro e w1 ⟨rfl,hb1⟩;go_wp2;go_ret;exact⟨_,rfl,by rw[HE.out];exact HN.out.below hb1,hbr.trans (hb1.mono hbr.size)⟩
def dG (l:List ByteArray):Except Int (List CQ):=if 33<l.length then .error 14 else match fj l with | some zs=>.ok (da zs) | none=>.error 10
def B9 (w:World) (v:Value) (e:Int) (r:Except Int (List CQ)):Prop:=match r with | .ok zs=>e=0∧IsP w v zs | .error x=>e=x∧v=.slice none 0 0
theorem jO {l:List ByteArray}{e:Int} (h:dG l=.error e):e=14∨e=10:=by
 unfold dG at h
 split at h
 ·cases h;exact Or.inl rfl
 ·split at h
  ·cases h
  ·cases h;exact Or.inr rfl
theorem jP {l:List ByteArray}{zs:List CQ} (h:dG l=.ok zs):zs.length≤33:=by
 unfold dG at h
 split at h
 ·cases h
 ·split at h
  ·rename_i ys hy
   cases h
   have:=fV hy;have:=jJ ys;omega
  ·cases h
theorem mG (v:Value) (l:List ByteArray) (w:World) (hl:IsS w v l) (hG:Gw w) :
  Calls Tryz.prog 113 #[v] w fun e w'=>∃ v' x,e=.returned (.tuple #[v',.int .i64 x])∧B9 w' v' x (dG l)∧Below w.heap.size w w':=by
 obtain⟨p,c,rfl,-⟩:=id hl.form;have HL:=E5 hl;have HG:=E5 hG;clear hl hG;go_enter Tryz.func113,Tryz.ntmps113;by_cases h1:33<l.length
 ·have hd:decide ((33:Int)<(l.length:Int))=true:=by simp;omega
  have HE:=E5 (show dG l=.error 14 by unfold dG;rw[if_pos h1]);clear h1;go_wp2;refine bodyPost_ret (v:=.tuple #[.slice none 0 0,.int .i64 14]) (by simp[results,Tryz.results113,go_sem]) rfl ⟨_,_,rfl,by rw[HE.out];exact⟨rfl,rfl⟩,Below.refl _ _⟩
 ·have hd:decide ((33:Int)<(l.length:Int))=false:=by simp;omega
  have hll:l.length<1000000000:=by omega
  have hll2:l.length<1000000:=by omega
  have HE:=E5 (show dG l=match fj l with | some zs=>.ok (da zs) | none=>.error 10 by unfold dG;rw[if_neg h1]);clear h1;go_wp2_with fail
  refine (zE _ l w HL.out hll HG.out).mono ?_;rintro e w1 ⟨v1,ok,rfl,hcase,hb1⟩;rcases hcase with ⟨zs,hz,rfl,hv⟩ | ⟨hz,rfl,rfl⟩
  ·have hzl:zs.length<1000000:=by rw[fV hz];exact hll2
   rw[hz] at HE;clear hd hll hll2 hz;go_wp2_with fail
   refine (pE _ zs w1 hv hzl).mono ?_;rintro e w2 ⟨v2,rfl,hv2,hb2⟩;go_wp2;refine bodyPost_ret (v:=.tuple #[v2,.int .i64 0]) (by simp[results,Tryz.results113,go_sem]) rfl ⟨_,_,rfl,by rw[HE.out];exact⟨rfl,hv2⟩,hb1.trans (hb2.mono hb1.size)⟩
  ·rw[hz] at HE;clear hd hll hll2 hz;go_wp2;refine bodyPost_ret (v:=.tuple #[.slice none 0 0,.int .i64 10]) (by simp[results,Tryz.results113,go_sem]) rfl ⟨_,_,rfl,by rw[HE.out];exact⟨rfl,rfl⟩,hb1⟩
def fy (a b:List ByteArray):Except Int (List CQ×List CQ):=match dG a with | .error e=>.error e | .ok x=>match dG b with | .error e=>.error e | .ok y=>.ok (x,y)
def zt (w:World) (u v:Value) (e:Int) (r:Except Int (List CQ×List CQ)):Prop:=match r with | .ok z=>e=0∧IsP w u z.1∧IsP w v z.2 | .error x=>e=x∧x≠0∧u=.slice none 0 0∧v=.slice none 0 0
theorem AZ (va vb:Value) (a b:List ByteArray) (w:World) (ha:IsS w va a) (hb:IsS w vb b) (hG:Gw w) :
  Calls Tryz.prog 266 #[va,vb] w fun e w'=>∃ u v x,e=.returned (.tuple #[u,v,.int .i64 x])∧zt w' u v x (fy a b)∧Below w.heap.size w w':=by
 have HB:=E5 (fun wx (hw:Below w.heap.size w wx)=>mG vb b wx (hb.below hw) (hG.below hw));have HA:=E5 (mG va a w ha hG);clear hG ha hb;go_enter Tryz.func266,Tryz.ntmps266;go_wp2_with fail
 refine HA.out.mono ?_;rintro e w1 ⟨u,x,rfl,hu,hb1⟩
 cases hpa:dG a with
 | error ea =>
  rw[hpa] at hu;obtain⟨rfl,rfl⟩:=hu;have HE:=E5 (show fy a b=.error x by unfold fy;rw[hpa]);have hx:x≠0:=by rcases jO hpa with rfl | rfl<;>decide
  have hd:decide (x=0)=false:=decide_eq_false hx;clear hpa;go_wp2;refine bodyPost_ret (v:=.tuple #[.slice none 0 0,.slice none 0 0,.int .i64 x]) (by simp[results,Tryz.results266,go_sem]) rfl ⟨_,_,_,rfl,by rw[HE.out];exact⟨rfl,hx,rfl,rfl⟩,hb1⟩
 | ok zs =>
  rw[hpa] at hu;obtain⟨rfl,hu⟩:=hu;go_wp2_with fail
  refine (HB.out w1 hb1).mono ?_;rintro e w2 ⟨v,x,rfl,hv,hb2⟩;have hB2:=hb1.trans (hb2.mono hb1.size)
  cases hpb:dG b with
  | error eb =>
   rw[hpb] at hv;obtain⟨rfl,rfl⟩:=hv;have HE:=E5 (show fy a b=.error x by unfold fy;rw[hpa];simp only;rw[hpb]);have hx:x≠0:=by rcases jO hpb with rfl | rfl<;>decide
   have hd:decide (x=0)=false:=decide_eq_false hx;clear hpa hpb;go_wp2;refine bodyPost_ret (v:=.tuple #[.slice none 0 0,.slice none 0 0,.int .i64 x]) (by simp[results,Tryz.results266,go_sem]) rfl ⟨_,_,_,rfl,by rw[HE.out];exact⟨rfl,hx,rfl,rfl⟩,hB2⟩
  | ok ys =>
   rw[hpb] at hv;obtain⟨rfl,hv⟩:=hv;have HE:=E5 (show fy a b=.ok (zs,ys) by unfold fy;rw[hpa];simp only;rw[hpb]);clear hpa hpb;go_wp2;refine bodyPost_ret (v:=.tuple #[u,v,.int .i64 0]) (by simp[results,Tryz.results266,go_sem]) rfl ⟨_,_,_,rfl,by rw[HE.out];exact⟨rfl,hu.below hb2,hv⟩,hB2⟩
def gh (zs:List CQ) (i:Nat):CQ:=if h:i<zs.length then zs[i] else ⟨0,0⟩
theorem Ay {w:World}{v:Value} (h:IsV w v (ct (CQ.real 0))):IsK w v ⟨0,0⟩:=⟨h,⟨.zero (by decide),.zero (by decide)⟩⟩
theorem Do (v:Value) (zs:List CQ) (i:Nat) (w:World) (hl:IsP w v zs) (hi:i<1000000) (hzl:zs.length<1000000) :
  Calls Tryz.prog 287 #[v,.int .i64 i] w fun e w'=>∃ v',e=.returned v'∧IsK w' v' (gh zs i)∧Below w.heap.size w w':=by
 obtain⟨p,c,rfl,-⟩:=id hl.form;go_enter Tryz.func287,Tryz.ntmps287;go_upto_region 1 with fail
 have q3:=cH.new w (.bool false) (.slice none 0 0) (.slice none 0 0) (.bool false) (.slice none 0 0) (.slice none 0 0) (by intro z e;cases e) (by intro z e;cases e) (by intro z e;cases e) (by intro z e;cases e) (by intro z e;cases e) (by intro z e;cases e);have m3:=ak w (.cells #[.bool false,.slice none 0 0,.slice none 0 0,.bool false,.slice none 0 0,.slice none 0 0] 153);generalize w.alloc (.cells #[.bool false,.slice none 0 0,.slice none 0 0,.bool false,.slice none 0 0,.slice none 0 0] 153)=w3 at *
 have MD:=E5 m3;have B3:=E5 q3;have HL:=E5 (hl.below m3);clear q3 m3 hl;by_cases h:i<zs.length
 ·have hd:decide ((i:Int)<(zs.length:Int))=true:=by simp;omega
  have hd2:decide (i<zs.length)=true:=decide_eq_true h;have HE:=E5 (show gh zs i=zs[i] by unfold gh;rw[dif_pos h]);obtain⟨B,o,rfl,hlt,xm,xp,xl,xc,xq,xk,xd,ym,yp,yl,yc,yq,yk,yd,hk,a0,a1,a2,a3,a4,a5⟩:=HL.out.get h;generalize zs[i]=z at hk HE;have HK:=E5 hk.s;have hv:=hk.v;obtain⟨x1,x2,x3,y1,y2,y3,he,hx,hy⟩:=hv;obtain⟨rfl,rfl,rfl,rfl,rfl,rfl⟩:.bool xm=x1∧.slice xp xl xc=x2∧.slice xq xk xd=x3∧.bool ym=y1∧.slice yp yl yc=y2∧.slice yq yk yd=y3:=by simpa using he
  have B8:=B3.out;have k0:=B8.cell 0;have k1:=B8.cell 1;have k2:=B8.cell 2;have k3:=B8.cell 3;have k4:=B8.cell 4;have k5:=B8.cell 5;have f0:=B8.fr 0;have f1:=B8.fr 1;have f2:=B8.fr 2;have f3:=B8.fr 3;have f4:=B8.fr 4;have f5:=B8.fr 5;have P:=E5 (B8.putV hx hy);have M8:=E5 (P.out.2.2 _ _ MD.out (by omega));clear hx hy he B8 hk;go_wp2_with fail
  have q0:=P.out.1.cell 0;have q1:=P.out.1.cell 1;have q2:=P.out.1.cell 2;have q3:=P.out.1.cell 3;have q4:=P.out.1.cell 4;have q5:=P.out.1.cell 5;refine bodyPost_ret (v:=.agg #[.bool xm,.slice xp xl xc,.slice xq xk xd,.bool ym,.slice yp yl yc,.slice yq yk yd]) (by simp[results,Tryz.results287,go_sem,dY] at q0 q1 q2 q3 q4 q5 ⊢;simp[results,Tryz.results287,go_sem,q0,q1,q2,q3,q4,q5]) rfl ⟨_,rfl,by rw[HE.out];exact⟨P.out.2.1,HK.out⟩,M8.out⟩
 ·have hd:decide ((i:Int)<(zs.length:Int))=false:=by simp;omega
  have hd2:decide (i<zs.length)=false:=decide_eq_false h;have HE:=E5 (show gh zs i=⟨0,0⟩ by unfold gh;rw[dif_neg h]);clear h HL;go_wp2_with fail
  refine (jy 0 w3 (by decide) (by decide)).mono ?_;rintro e w4 ⟨v4,rfl,hv4,hb4⟩;go_wp2_with fail
  refine (eN _ _ _ hv4).mono ?_;rintro e w5 ⟨v5,rfl,hv5,hb5⟩;have hB5:=hb4.trans (hb5.mono hb4.size);have hv5:IsV w5 v5 (ct (CQ.real 0)):=by rw[←dA];exact hv5
  obtain⟨x1,x2,x3,y1,y2,y3,rfl,hx,hy⟩:=hv5;obtain⟨xm,xp,xl,xc,xq,xk,xd,hxe⟩:=hx.form;obtain⟨ym,yp,yl,yc,yq,yk,yd,hye⟩:=hy.form;obtain⟨rfl,rfl,rfl⟩:=eh hxe;obtain⟨rfl,rfl,rfl⟩:=eh hye;have B8:=B3.out.below hB5;have k0:=B8.cell 0;have k1:=B8.cell 1;have k2:=B8.cell 2;have k3:=B8.cell 3;have k4:=B8.cell 4;have k5:=B8.cell 5;have f0:=B8.fr 0;have f1:=B8.fr 1;have f2:=B8.fr 2;have f3:=B8.fr 3;have f4:=B8.fr 4;have f5:=B8.fr 5;have P:=E5 (B8.putV hx hy);have M8:=E5 (P.out.2.2 _ _ (MD.out.trans (hB5.mono MD.out.size)) (by omega));clear hx hy hxe hye B8;go_wp2_with fail
  have q0:=P.out.1.cell 0;have q1:=P.out.1.cell 1;have q2:=P.out.1.cell 2;have q3:=P.out.1.cell 3;have q4:=P.out.1.cell 4;have q5:=P.out.1.cell 5;refine bodyPost_ret (v:=.agg #[.bool xm,.slice xp xl xc,.slice xq xk xd,.bool ym,.slice yp yl yc,.slice yq yk yd]) (by simp[results,Tryz.results287,go_sem,dY] at q0 q1 q2 q3 q4 q5 ⊢;simp[results,Tryz.results287,go_sem,q0,q1,q2,q3,q4,q5]) rfl ⟨_,rfl,by rw[HE.out];exact Ay P.out.2.1,M8.out⟩
def ii (zs:List CQ):Bool:=zs.all fun z=>!eC z
def fD (zs:List CQ):List ByteArray:=zs.map fun z=>(dN z).1
theorem Eg (va:Value) (z:CQ) (w:World) (ha:IsV w va (ct z)) (hG:Gw w) :
  Calls Tryz.prog 286 #[va] w fun e w'=>e=.returned (.tuple #[.string (dN z).1,.bool (!eC z)])∧Below w.heap.size w w':=by
 obtain⟨x,hx⟩:∃ x,x=(dN z).1:=⟨_,rfl⟩;obtain⟨d,hd⟩:∃ d,d=(dN z).2:=⟨_,rfl⟩
 have hdb:decide (d=0)=!eC z:=by
  rw[hd];unfold dN;cases eC z<;>simp
 have HB:=E5 hdb;obtain⟨a,b,c,d',e,f,rfl,hax,hay⟩:=id ha;have q1:=bN.new w a b c d' e f 153;have m1:=ak w (.cells #[a,b,c,d',e,f] 153);have HP:=E5 (A6 _ z _ (ha.below m1) (hG.below m1));rw[←hx,←hd] at HP;rw[←hx];have MD:=E5 m1;clear hx hd hdb ha hax hay m1;go_enter Tryz.func286,Tryz.ntmps286;go_upto_region 1 with fail
 generalize w.alloc (.cells #[a,b,c,d',e,f] 153)=w1 at *
 have a0:=q1.c0;have a1:=q1.c1;have a2:=q1.c2;have a3:=q1.c3;have a4:=q1.c4;have a5:=q1.c5;go_wp2_with fail
 refine HP.out.mono ?_;rintro e w2 ⟨rfl,hb2⟩;by_cases h0:d=0
 ·subst h0;have HE:=E5 (show (!eC z)=true by rw[←HB.out];rfl);go_wp2;refine bodyPost_ret (v:=.tuple #[.string x,.bool true]) (by simp[results,Tryz.results286,go_sem]) rfl ⟨by rw[HE.out],MD.out.trans (hb2.mono MD.out.size)⟩
 ·have HE:=E5 (show (!eC z)=false by rw[←HB.out];exact decide_eq_false h0);have hd0:decide (d=0)=false:=decide_eq_false h0;go_wp2;refine bodyPost_ret (v:=.tuple #[.string x,.bool false]) (by simp[results,Tryz.results286,go_sem,h0]) rfl ⟨by rw[HE.out],MD.out.trans (hb2.mono MD.out.size)⟩
theorem DJ (v:Value) (zs:List CQ) (w:World) (hl:IsP w v zs) (hlen:zs.length<1000000) (hG:Gw w) :
  Calls Tryz.prog 285 #[v,.func (.func 286) #[] #[]] w fun e w'=>∃ v' ok,e=.returned (.tuple #[v',.bool ok])∧((ii zs=true∧ok=true∧bE w' w.heap.size v' (fD zs))∨(ii zs=false∧ok=false∧v'=.slice none 0 0))∧Below w.heap.size w w':=by
 obtain⟨p,c,rfl,-⟩:=id hl.form;have HL:=E5 hl;have HG:=E5 hG;have hpl:(fD zs).length=zs.length:=by simp[fD]
 have HPL:=E5 hpl;clear hl hG hpl;go_enter Tryz.func285,Tryz.ntmps285;go_wp2;go_loopw [6,13] (fun s6 s13 wr=>∃ i:Nat,s13=.int .i64 i∧i≤zs.length∧bE wr w.heap.size s6 ((fD zs).take i)∧Below w.heap.size w wr∧Hid (ii (zs.take i)=true)) (fun _ s13 _=>zs.length-(intOf s13).toNat)
 case atStart=>exact⟨0,rfl,Fk _,bE.nil _ _,Below.refl _ _,rfl⟩
 case round =>
  obtain⟨i,rfl,hin,hown,hbr,hall⟩:=hrel;by_cases hi:i<zs.length
  ·obtain⟨B,o,rfl,hlt,xm,xp,xl,xc,xq,xk,xd,ym,yp,yl,yc,yq,yk,yd,hk,a0,a1,a2,a3,a4,a5⟩:=(HL.out.below hbr).get hi
   have hstep:(fD zs).take (i+1)=(fD zs).take i++[(dN zs[i]).1]:=by
    rw[←Fm (by rw[HPL.out];exact hi)];simp[fD]
   have hoks:ii (zs.take (i+1))=!eC zs[i]:=by
    unfold ii at hall ⊢;rw[←Fm hi,Gu,hall.out];simp
   have hbad:eC zs[i]=true→ii zs=false:=fun h=>by
    unfold ii;rw[G8];exact⟨zs[i],Fu hi,by rw[h];decide⟩
   generalize zs[i]=z at hk hstep hoks hbad;have HT:=E5 hstep;have HO:=E5 hoks;have HX:=E5 hbad;have hw1:=hown;have hv:=E5 hk.v;clear hstep hoks hbad hall hown hk;go_upto_region 5 with fail
   have q1:=bN.new wr (.bool xm) (.slice xp xl xc) (.slice xq xk xd) (.bool ym) (.slice yp yl yc) (.slice yq yk yd) 153;have m1:=ak wr (.cells #[.bool xm,.slice xp xl xc,.slice xq xk xd,.bool ym,.slice yp yl yc,.slice yq yk yd] 153);generalize wr.alloc (.cells #[.bool xm,.slice xp xl xc,.slice xq xk xd,.bool ym,.slice yp yl yc,.slice yq yk yd] 153)=w2 at *
   have a0:=q1.c0;have a1:=q1.c1;have a2:=q1.c2;have a3:=q1.c3;have a4:=q1.c4;have a5:=q1.c5;have hB2:=hbr.trans (m1.mono hbr.size);have hw2:=hw1.below m1;have hv2:=E5 (hv.out.below m1);clear q1 m1 hw1 hv;go_wp2_with fail
   refine (Eg _ z w2 hv2.out (HG.out.below hB2)).mono ?_;rintro e w3 ⟨rfl,hb3⟩;have hB3:=hB2.trans (hb3.mono hB2.size);have hw3:=hw2.below hb3;have hbs:=hB3.size;have hzl:((fD zs).take i).length<1000000000:=by simp[HPL.out];omega
   clear hb3 hB2 hw2 a0 a1 a2 a3 a4 a5
   cases hbz:eC z with
   | false =>
    have HO2:=E5 (show ii (zs.take (i+1))=true by rw[HO.out,hbz];rfl);clear hbz;go_wp2_with (at_builtin;refine aX 22 Tryz.underlying22 rfl (.tmp 25) (.tmp 27) rfl w.heap.size _ _ _ rfl hw3 rfl hzl hbs ?_)
    intro v' w4 hw4 hb4;have hB4:=hb4 _ _ hB3 (Fb _);rw[←HT.out] at hw4;clear hw3 hb4 hB3;go_wp2;go_roundw;case rel=>exact⟨i+1,by go_num,by omega,hw4,hB4,HO2.out⟩
    case measure=>(first | (simp[intOf];done) | (simp[intOf];omega))
   | true =>
    have HE:=E5 (HX.out hbz);clear hbz;go_wp2;refine bodyPost_ret (v:=.tuple #[.slice none 0 0,.bool false]) (by simp[results,Tryz.results285,go_sem]) rfl ⟨_,_,rfl,Or.inr ⟨HE.out,rfl,rfl⟩,hB3⟩
  ·have hin':i=zs.length:=by omega
   subst hin';have hw:=hown;rw[show (fD zs).take zs.length=fD zs from Fi (by rw[HPL.out];exact Fb _)] at hw;have HO:=hall.out;rw[FD] at HO;have HO:=E5 HO;clear hown hi hall;go_wp2;refine bodyPost_ret (v:=.tuple #[_,.bool true]) (by simp[results,Tryz.results285,go_sem]) rfl ⟨_,_,rfl,Or.inl ⟨HO.out,rfl,hw⟩,hbr⟩
def Ca (w:World) (base:Nat) (v:Value) (e:Int) (zs:List CQ):Prop:=(ii zs=true∧e=0∧bE w base v (fD zs))∨(ii zs=false∧e=11∧v=.slice none 0 0)
theorem Du (v:Value) (zs:List CQ) (w:World) (hl:IsP w v zs) (hlen:zs.length<1000000) (hG:Gw w) :
  Calls Tryz.prog 267 #[v] w fun e w'=>∃ v' x,e=.returned (.tuple #[v',.int .i64 x])∧Ca w' w.heap.size v' x zs∧Below w.heap.size w w':=by
 have HP:=E5 (DJ v zs w hl hlen hG);clear hl hG;go_enter Tryz.func267,Tryz.ntmps267;go_wp2_with fail
 refine HP.out.mono ?_;rintro e w1 ⟨u,ok,rfl,hc,hb⟩;rcases hc with ⟨h1,rfl,h3⟩ | ⟨h1,rfl,rfl⟩
 ·have HO:=E5 h1;clear h1;go_wp2;refine bodyPost_ret (v:=.tuple #[u,.int .i64 0]) (by simp[results,Tryz.results267,go_sem]) rfl ⟨_,_,rfl,Or.inl ⟨HO.out,rfl,h3⟩,hb⟩
 ·have HO:=E5 h1;clear h1;go_wp2;refine bodyPost_ret (v:=.tuple #[.slice none 0 0,.int .i64 11]) (by simp[results,Tryz.results267,go_sem]) rfl ⟨_,_,rfl,Or.inr ⟨HO.out,rfl,rfl⟩,hb⟩
end Go.Proofs.YtbnkpcfjechfiaaGreatDoor
