/- L -/
import Derived.Test.YtgakllaobooabaaGreatDoorXCoef
import Derived.Test.YtgakllaobooabaaGreatDoorXNC7
import Derived.Test.YtgakllaobooabaaGreatDoorXB
set_option linter.all false
set_option maxRecDepth 100000
set_option maxHeartbeats 8000000
namespace Go.Proofs.YtgakllaobooabaaGreatDoor
open Go.RowKit Dg
theorem q_ (z:Int):rt (z:Rat)=⟨decide (z<0),z.natAbs,1⟩:=by
 unfold rt;rw[Rat.num_intCast,Rat.den_intCast]
theorem rS {n:Nat} (h:n<18446744073709551616):Few n:=kQ (k:=20) (by omega) (by decide)
theorem gn (z:Int) (w:World) (h1:-9223372036854775808<=z) (h2:z<=9223372036854775807) :
  Calls Tryz.prog 62 #[.int .i64 z] w fun e w'=>∃ v,e=.returned v/\IsR w' v (rt (z:Rat))/\Below w.heap.size w w':=by
 rw[q_];go_enter Tryz.func62,Tryz.ntmps62;go_upto_region 1 with fail
 have q3:=a_.new w (.bool false) (.slice none 0 0) (.slice none 0 0) nofun nofun nofun;have m3:=ac w (.cells #[.bool false,.slice none 0 0,.slice none 0 0] 63);generalize w.alloc (.cells #[.bool false,.slice none 0 0,.slice none 0 0] 63)=w3 at *
 have B3:=At q3;have MD:=At m3;clear q3 m3;by_cases hz:z<0
 ·have hd:decide (z<0)=true:=decide_eq_true hz;obtain⟨n,rfl⟩:∃ n:Nat,z=-(n:Int)-1:=⟨(-z-1).toNat,by omega⟩;have e1:(-(n:Int)-1)+1=-(n:Int):=by omega
  go_wp2_with fail
  have hp:=gN (n+1) w3 (by omega);try rw[show ((n+1:Nat):Int)=(n:Int)+1 from by omega] at hp
  refine hp.mono ?_;clear hp;rintro e w4 ⟨v4,rfl,hv4,hb4⟩;go_wp2_with fail
  refine (jn w4).mono ?_;rintro e w5 ⟨v5,rfl,hv5,hb5⟩;have hn:=(hv4.isU).below hb5;have hB5:=hb4.trans (hb5.mono hb4.size);obtain⟨pn,cn,rfl,-⟩:=id hn;obtain⟨pd,cd,rfl,-⟩:=id hv5;have hR:IsR w5 (.agg #[.bool true,.slice pn _ cn,.slice pd _ cd]) ⟨true,n+1,1⟩:=⟨_,_,rfl,hn,hv5,rS (n:=n+1) (by omega),rS (n:=1) (by decide)⟩;have B8:=B3.out.below hB5;have k0:=B8.c0;have k1:=B8.c1;have k2:=B8.c2;have f0:=B8.fr 0;have f1:=B8.fr 1;have f2:=B8.fr 2;have P:=At (B8.putR hR);have M8:=At (P.out.2.2 _ w (MD.out.trans (hB5.mono MD.out.size)) (AA _));have HE:=At (show (⟨true,n+1,1⟩:Rt)=⟨decide ((-(n:Int)-1)<0),((-(n:Int)-1)).natAbs,1⟩ from by congr 1<;>(first | omega | (simp;done) | (simp;omega)));clear hR hn hv4 hv5 B8 hb4 hb5 hB5;go_wp2_with fail
  have q0:=P.out.1.c0;have q1:=P.out.1.c1;have q2:=P.out.1.c2;refine Du (v:=.agg #[.bool true,.slice pn (ag BB (n+1)).length cn,.slice pd (ag BB 1).length cd]) (by simp[pM] at q0 q1 q2 |-;simp[results,Tryz.results62,go_sem,q0,q1,q2]) rfl ⟨_,rfl,by rw[<-HE.out];exact P.out.2.1,M8.out⟩
 ·have hd:decide (z<0)=false:=decide_eq_false hz;obtain⟨n,rfl⟩:∃ n:Nat,z=n:=⟨z.toNat,by omega⟩;go_wp2_with fail
  have hp:=gN (n) w3 (by omega);try rw[show ((n+1:Nat):Int)=(n:Int)+1 from by omega] at hp
  refine hp.mono ?_;clear hp;rintro e w4 ⟨v4,rfl,hv4,hb4⟩;go_wp2_with fail
  refine (jn w4).mono ?_;rintro e w5 ⟨v5,rfl,hv5,hb5⟩;have hn:=(hv4.isU).below hb5;have hB5:=hb4.trans (hb5.mono hb4.size);obtain⟨pn,cn,rfl,-⟩:=id hn;obtain⟨pd,cd,rfl,-⟩:=id hv5;have hR:IsR w5 (.agg #[.bool false,.slice pn _ cn,.slice pd _ cd]) ⟨false,n,1⟩:=⟨_,_,rfl,hn,hv5,rS (n:=n) (by omega),rS (n:=1) (by decide)⟩;have B8:=B3.out.below hB5;have k0:=B8.c0;have k1:=B8.c1;have k2:=B8.c2;have f0:=B8.fr 0;have f1:=B8.fr 1;have f2:=B8.fr 2;have P:=At (B8.putR hR);have M8:=At (P.out.2.2 _ w (MD.out.trans (hB5.mono MD.out.size)) (AA _));have HE:=At (show (⟨false,n,1⟩:Rt)=⟨decide ((n:Int)<0),((n:Int)).natAbs,1⟩ from by congr 1<;>(first | omega | (simp;done) | (simp;omega)));clear hR hn hv4 hv5 B8 hb4 hb5 hB5;go_wp2_with fail
  have q0:=P.out.1.c0;have q1:=P.out.1.c1;have q2:=P.out.1.c2;refine Du (v:=.agg #[.bool false,.slice pn (ag BB (n)).length cn,.slice pd (ag BB 1).length cd]) (by simp[pM] at q0 q1 q2 |-;simp[results,Tryz.results62,go_sem,q0,q1,q2]) rfl ⟨_,rfl,by rw[<-HE.out];exact P.out.2.1,M8.out⟩
theorem yz (z:Int):sgz (decide (z<0) != false) z.natAbs=z:=by
 unfold sgz;by_cases h:z<0
 ·simp[h];omega
 ·simp[h];omega
theorem Ak (z:Int) (d:Nat) (w:World) (h1:-9223372036854775808<=z) (h2:z<=9223372036854775807) (hd:0<d) (hd2:d<=9223372036854775807) (hG:Gw w) :
  Calls Tryz.prog 45 #[.int .i64 z,.int .i64 d] w fun e w'=>e=.returned (.tuple #[.string (b8 (CQ.real (mkRat z d))).1,.int .i64 (b8 (CQ.real (mkRat z d))).2])/\Below w.heap.size w w':=by
 have hq:cT (decide (z<0) != false) z.natAbs d=rt (mkRat z d):=by rw[ky _ _ _ hd,yz]
 have hdd:((d:Int) == 0)=false:=by simp;omega
 have hr2:rt ((d:Int):Rat)=⟨false,d,1⟩:=by rw[q_];congr 1<;>simp
 have hr1:=q_ z;have HQ:=At hq;have HR1:=At hr1;have HR2:=At hr2;have HD:=At hd;clear hq hr1 hr2 hd;go_enter Tryz.func45,Tryz.ntmps45;go_wp2_with fail
 refine (gn z w h1 h2).mono ?_;rintro e w1 ⟨v1,rfl,hv1,hb1⟩;rw[HR1.out] at hv1;go_wp2_with fail
 refine (gn d w1 (by omega) (by omega)).mono ?_;rintro e w2 ⟨v2,rfl,hv2,hb2⟩;rw[HR2.out] at hv2;have hv1:=hv1.below hb2;have hB2:=hb1.trans (hb2.mono hb1.size);obtain⟨xm,xp,xl,xc,xq,xk,xd,rfl⟩:=hv1.form;obtain⟨ym,yp,yl,yc,yq,yk,yd,rfl⟩:=hv2.form;clear hb1 hb2;go_upto_region 4 with fail
 have q1:=a_.new w2 (.bool xm) (.slice xp xl xc) (.slice xq xk xd) nofun nofun nofun;have m1:=ac w2 (.cells #[.bool xm,.slice xp xl xc,.slice xq xk xd] 63);have z1:=size_alloc w2 (.cells #[.bool xm,.slice xp xl xc,.slice xq xk xd] 63);generalize w2.alloc (.cells #[.bool xm,.slice xp xl xc,.slice xq xk xd] 63)=w3 at *
 have q2:=a_.new w3 (.bool ym) (.slice yp yl yc) (.slice yq yk yd) nofun nofun nofun;have m2:=ac w3 (.cells #[.bool ym,.slice yp yl yc,.slice yq yk yd] 63);generalize w3.alloc (.cells #[.bool ym,.slice yp yl yc,.slice yq yk yd] 63)=w4 at *
 rw[z1] at q2;have q1:=q1.below m2;have hb4:=m1.trans (m2.mono m1.size);have hB4:=hB2.trans (hb4.mono hB2.size);obtain⟨xn',xd',hxe,hxn,hxd,f1,f2⟩:=hv1.below hb4;obtain⟨yn',yd',hye,hyn,hyd,g1,g2⟩:=hv2.below hb4;simp only at hxn hxd hyn hyd f1 f2 g1 g2;obtain⟨rfl,rfl,rfl⟩:xm=decide (z<0)/\(.slice xp xl xc)=xn'/\(.slice xq xk xd)=xd':=by simpa using hxe
 obtain⟨rfl,rfl,rfl⟩:ym=false/\(.slice yp yl yc)=yn'/\(.slice yq yk yd)=yd':=by simpa using hye
 have HRED:=At (dU (decide (z<0) != false) _ _ _ _ w4 hxn hyn f1 g1 HD.out);rw[HQ.out] at HRED;have hG4:=hG.below hB4;have a0:=q1.c0;have a1:=q1.c1;have a2:=q1.c2;have b0:=q2.c0;have b1:=q2.c1;have b2:=q2.c2;clear q1 q2 m1 m2 z1 hb4 hB2 hv1 hv2 hxe hye hxn hxd hyn hyd f1 f2 g1 g2;have hbn:(decide (z<0) != false)=decide (z<0):=by simp
 rw[hbn] at HRED;go_wp2_with fail
 refine HRED.out.mono ?_;rintro e w5 ⟨v5,rfl,hv5,hb5⟩;go_wp2_with fail
 refine (de _ _ _ hv5).mono ?_;rintro e w6 ⟨v6,rfl,hv6,hb6⟩;rw[bO] at hv6;have hB6:=hb5.trans (hb6.mono hb5.size);go_wp2_with fail
 refine (tU _ _ w6 hv6 (hG4.below hB6)).mono ?_;rintro e w7 ⟨rfl,hb7⟩;have hB7:=hB6.trans (hb7.mono hB6.size);go_wp2;refine Du (v:=.tuple #[.string (b8 (CQ.real (mkRat z d))).1,.int .i64 (b8 (CQ.real (mkRat z d))).2]) (by simp[results,Tryz.results45,go_sem]) rfl ⟨rfl,hB4.trans (hB7.mono hB4.size)⟩
structure uC (F:FuncId) (cap:Array Value) (φ:CQ->CQ) (w:World):Prop where
 en:∀ (args:Array Value) (w:World),(callFunc F args).run Tryz.prog w=.ok (.enter F args) w
 on:∀ (x:Value) (a:CQ) (w':World),Below w.heap.size w w'->IsK w' x a->Calls Tryz.prog F (#[x]++cap) w' fun e w''=>∃ v,e=.returned v/\IsV w'' v (ct (φ a))/\Below w'.heap.size w' w''
def ofC (φ:CQ->CQ) (s:ByteArray):ByteArray×Int:=match dX s with | some a=>b8 (φ a) | none=>(⟨#[]⟩,10)
theorem yY (F:FuncId) (cap:Array Value) (φ:CQ->CQ) (s:ByteArray) (w:World) (hG:Gw w) (hF:uC F cap φ w) :
  Calls Tryz.prog 85 #[.string s,.func (.func F) #[] cap] w fun e w'=>e=.returned (.tuple #[.string (ofC φ s).1,.int .i64 (ofC φ s).2])/\Below w.heap.size w w':=by
 have HF:=At hF;have EN:=hF.en;clear hF;go_enter Tryz.func85,Tryz.ntmps85;go_wp2_with fail
 refine (ib s w hG).mono ?_;rintro e w1 ⟨v,ok,rfl,hcase,hb1⟩;rcases hcase with ⟨z,hz,rfl,hv⟩ | ⟨hz,rfl,rfl⟩
 ·obtain⟨p,rfl,hp1,hp2,-,-⟩:=fX hz;have HP1:=At (show ofC φ s=b8 (φ p) by unfold ofC;rw[hp1]);clear hz hp1;have hk:IsK w1 v p:=⟨hv,hp2.mono (by decide)⟩
  obtain⟨xm,xp,xl,xc,xq,xk,xd,ym,yp,yl,yc,yq,yk,yd,rfl⟩:∃ xm xp xl xc xq xk xd ym yp yl yc yq yk yd,v=.agg #[.bool xm,.slice xp xl xc,.slice xq xk xd,.bool ym,.slice yp yl yc,.slice yq yk yd]:=by
   obtain⟨_,_,_,_,_,_,rfl,hx0,hy0⟩:=hk.v;obtain⟨xm,xp,xl,xc,xq,xk,xd,hxe⟩:=hx0.form;obtain⟨ym,yp,yl,yc,yq,yk,yd,hye⟩:=hy0.form;obtain⟨rfl,rfl,rfl⟩:=cH hxe;obtain⟨rfl,rfl,rfl⟩:=cH hye;exact⟨_,_,_,_,_,_,_,_,_,_,_,_,_,_,rfl⟩
  go_upto_region 2 with fail
  have q1:=aW.new w1 (.bool xm) (.slice xp xl xc) (.slice xq xk xd) (.bool ym) (.slice yp yl yc) (.slice yq yk yd) 65;have m1:=ac w1 (.cells #[.bool xm,.slice xp xl xc,.slice xq xk xd,.bool ym,.slice yp yl yc,.slice yq yk yd] 65);generalize w1.alloc (.cells #[.bool xm,.slice xp xl xc,.slice xq xk xd,.bool ym,.slice yp yl yc,.slice yq yk yd] 65)=w2 at *
  have a0:=q1.c0;have a1:=q1.c1;have a2:=q1.c2;have a3:=q1.c3;have a4:=q1.c4;have a5:=q1.c5;have hB2:=hb1.trans (m1.mono hb1.size);have HC:=At (HF.out.on _ _ w2 hB2 (hk.below m1));have HG:=At (hG.below hB2);clear q1 m1 hk hv hb1 HF;go_wp2_with fail
  refine HC.out.mono ?_;rintro e w3 ⟨v3,rfl,hv3,hb3⟩;have hB3:=hB2.trans (hb3.mono hB2.size);go_wp2_with fail
  refine (tU _ _ _ hv3 (HG.out.below hb3)).mono ?_;rintro e w4 ⟨rfl,hb4⟩;go_wp2;refine Du (v:=.tuple #[.string (b8 (φ p)).1,.int .i64 (b8 (φ p)).2]) (by simp[results,Tryz.results85,go_sem]) rfl ⟨by rw[HP1.out],hB3.trans (hb4.mono hB3.size)⟩
 ·have HE:=At (show ofC φ s=(⟨#[]⟩,10) by unfold ofC;rw[eA hz]);clear hz;unfold fh;go_wp2;refine Du (v:=.tuple #[.string ⟨#[]⟩,.int .i64 10]) (by simp[results,Tryz.results85,go_sem]) rfl ⟨by rw[HE.out],hb1.trans ((ac w1 _).mono hb1.size)⟩
theorem reF (w:World):uC 115 #[] (fun z=>CQ.real z.re) w:=by
 refine⟨aZ Tryz.func115 rfl (by kernel_rfl),fun x z w0 hw hk=>?_⟩;obtain⟨a,b,c,d,e,f,rfl,hax,hay⟩:=id hk.v
 show Calls _ _ #[_] _ _
 go_enter Tryz.func115,Tryz.ntmps115;go_upto_region 1 with fail
 have q1:=aW.new w0 a b c d e f 65;have m1:=ac w0 (.cells #[a,b,c,d,e,f] 65);have z1:=size_alloc w0 (.cells #[a,b,c,d,e,f] 65);generalize w0.alloc (.cells #[a,b,c,d,e,f] 65)=w1 at *
 have q3:=bm.new w1 (.bool false) (.slice none 0 0) (.slice none 0 0) (.bool false) (.slice none 0 0) (.slice none 0 0) nofun nofun nofun nofun nofun nofun;have m3:=ac w1 (.cells #[.bool false,.slice none 0 0,.slice none 0 0,.bool false,.slice none 0 0,.slice none 0 0] 65);generalize w1.alloc (.cells #[.bool false,.slice none 0 0,.slice none 0 0,.bool false,.slice none 0 0,.slice none 0 0] 65)=w3 at *
 rw[z1] at q3;have q1:=q1.below m3;have a0:=q1.c0;have a1:=q1.c1;have a2:=q1.c2;have a3:=q1.c3;have a4:=q1.c4;have a5:=q1.c5;have MD:=At (m1.trans (m3.mono m1.size));have B3:=At q3;have HX:=At (hax.below MD.out);clear q1 q3 m1 m3 z1 hax hay hk;go_wp2_with fail
 refine (de _ _ _ HX.out).mono ?_;rintro e w4 ⟨v4,rfl,hv4,hb4⟩;have hv4:IsV w4 v4 (ct (CQ.real z.re)):=by rw[<-bO];exact hv4
 obtain⟨x1,x2,x3,y1,y2,y3,rfl,hx,hy⟩:=hv4;obtain⟨xm,xp,xl,xc,xq,xk,xd,hxe⟩:=hx.form;obtain⟨ym,yp,yl,yc,yq,yk,yd,hye⟩:=hy.form;obtain⟨rfl,rfl,rfl⟩:=cH hxe;obtain⟨rfl,rfl,rfl⟩:=cH hye;have B8:=B3.out.below hb4;have k0:=B8.cell 0;have k1:=B8.cell 1;have k2:=B8.cell 2;have k3:=B8.cell 3;have k4:=B8.cell 4;have k5:=B8.cell 5;have f0:=B8.fr 0;have f1:=B8.fr 1;have f2:=B8.fr 2;have f3:=B8.fr 3;have f4:=B8.fr 4;have f5:=B8.fr 5;have P:=At (B8.putV hx hy);have M8:=At (P.out.2.2 _ _ (MD.out.trans (hb4.mono MD.out.size)) (by omega));clear hx hy hxe hye B8;go_wp2_with fail
 have q0:=P.out.1.cell 0;have q1:=P.out.1.cell 1;have q2:=P.out.1.cell 2;have q3:=P.out.1.cell 3;have q4:=P.out.1.cell 4;have q5:=P.out.1.cell 5;refine Du (v:=.agg #[.bool xm,.slice xp xl xc,.slice xq xk xd,.bool ym,.slice yp yl yc,.slice yq yk yd]) (by simp[results,Tryz.results115,go_sem,cP] at q0 q1 q2 q3 q4 q5 |-;simp[results,Tryz.results115,go_sem,q0,q1,q2,q3,q4,q5]) rfl ⟨_,rfl,P.out.2.1,M8.out⟩
theorem imF (w:World):uC 116 #[] (fun z=>CQ.real z.im) w:=by
 refine⟨aZ Tryz.func116 rfl (by kernel_rfl),fun x z w0 hw hk=>?_⟩;obtain⟨a,b,c,d,e,f,rfl,hax,hay⟩:=id hk.v
 show Calls _ _ #[_] _ _
 go_enter Tryz.func116,Tryz.ntmps116;go_upto_region 1 with fail
 have q1:=aW.new w0 a b c d e f 65;have m1:=ac w0 (.cells #[a,b,c,d,e,f] 65);have z1:=size_alloc w0 (.cells #[a,b,c,d,e,f] 65);generalize w0.alloc (.cells #[a,b,c,d,e,f] 65)=w1 at *
 have q3:=bm.new w1 (.bool false) (.slice none 0 0) (.slice none 0 0) (.bool false) (.slice none 0 0) (.slice none 0 0) nofun nofun nofun nofun nofun nofun;have m3:=ac w1 (.cells #[.bool false,.slice none 0 0,.slice none 0 0,.bool false,.slice none 0 0,.slice none 0 0] 65);generalize w1.alloc (.cells #[.bool false,.slice none 0 0,.slice none 0 0,.bool false,.slice none 0 0,.slice none 0 0] 65)=w3 at *
 rw[z1] at q3;have q1:=q1.below m3;have a0:=q1.c0;have a1:=q1.c1;have a2:=q1.c2;have a3:=q1.c3;have a4:=q1.c4;have a5:=q1.c5;have MD:=At (m1.trans (m3.mono m1.size));have B3:=At q3;have HX:=At (hay.below MD.out);clear q1 q3 m1 m3 z1 hax hay hk;go_wp2_with fail
 refine (de _ _ _ HX.out).mono ?_;rintro e w4 ⟨v4,rfl,hv4,hb4⟩;have hv4:IsV w4 v4 (ct (CQ.real z.im)):=by rw[<-bO];exact hv4
 obtain⟨x1,x2,x3,y1,y2,y3,rfl,hx,hy⟩:=hv4;obtain⟨xm,xp,xl,xc,xq,xk,xd,hxe⟩:=hx.form;obtain⟨ym,yp,yl,yc,yq,yk,yd,hye⟩:=hy.form;obtain⟨rfl,rfl,rfl⟩:=cH hxe;obtain⟨rfl,rfl,rfl⟩:=cH hye;have B8:=B3.out.below hb4;have k0:=B8.cell 0;have k1:=B8.cell 1;have k2:=B8.cell 2;have k3:=B8.cell 3;have k4:=B8.cell 4;have k5:=B8.cell 5;have f0:=B8.fr 0;have f1:=B8.fr 1;have f2:=B8.fr 2;have f3:=B8.fr 3;have f4:=B8.fr 4;have f5:=B8.fr 5;have P:=At (B8.putV hx hy);have M8:=At (P.out.2.2 _ _ (MD.out.trans (hb4.mono MD.out.size)) (by omega));clear hx hy hxe hye B8;go_wp2_with fail
 have q0:=P.out.1.cell 0;have q1:=P.out.1.cell 1;have q2:=P.out.1.cell 2;have q3:=P.out.1.cell 3;have q4:=P.out.1.cell 4;have q5:=P.out.1.cell 5;refine Du (v:=.agg #[.bool xm,.slice xp xl xc,.slice xq xk xd,.bool ym,.slice yp yl yc,.slice yq yk yd]) (by simp[results,Tryz.results116,go_sem,cP] at q0 q1 q2 q3 q4 q5 |-;simp[results,Tryz.results116,go_sem,q0,q1,q2,q3,q4,q5]) rfl ⟨_,rfl,P.out.2.1,M8.out⟩
theorem Al (s:ByteArray) (w:World) (hG:Gw w) :
  Calls Tryz.prog 82 #[.string s] w fun e w'=>e=.returned (.tuple #[.string (ofC (fun z=>CQ.real z.re) s).1,.int .i64 (ofC (fun z=>CQ.real z.re) s).2])/\Below w.heap.size w w':=by
 have HP:=At (yY 115 #[] _ s w hG (reF w));go_enter Tryz.func82,Tryz.ntmps82;go_wp2_with fail
 refine HP.out.mono ?_;rintro e w2 ⟨rfl,hb2⟩;go_wp2;refine Du (v:=.tuple #[.string (ofC (fun z=>CQ.real z.re) s).1,.int .i64 (ofC (fun z=>CQ.real z.re) s).2]) (by simp[results,Tryz.results82,go_sem]) rfl ⟨rfl,hb2⟩
theorem Aj (s:ByteArray) (w:World) (hG:Gw w) :
  Calls Tryz.prog 83 #[.string s] w fun e w'=>e=.returned (.tuple #[.string (ofC (fun z=>CQ.real z.im) s).1,.int .i64 (ofC (fun z=>CQ.real z.im) s).2])/\Below w.heap.size w w':=by
 have HP:=At (yY 116 #[] _ s w hG (imF w));go_enter Tryz.func83,Tryz.ntmps83;go_wp2_with fail
 refine HP.out.mono ?_;rintro e w2 ⟨rfl,hb2⟩;go_wp2;refine Du (v:=.tuple #[.string (ofC (fun z=>CQ.real z.im) s).1,.int .i64 (ofC (fun z=>CQ.real z.im) s).2]) (by simp[results,Tryz.results83,go_sem]) rfl ⟨rfl,hb2⟩
def jP (s:ByteArray):Bool:=decide ((ofC (fun z=>CQ.real z.re) s).2=0)&&decide ((ofC (fun z=>CQ.real z.im) s).2=0)&&fi (ofC (fun z=>CQ.real z.re) s).1.data.toList&&fi (ofC (fun z=>CQ.real z.im) s).1.data.toList
end Go.Proofs.YtgakllaobooabaaGreatDoor
