/- L -/
import Derived.Test.YtmakbmhlemhgeaaGreatDoorQRBase
import Derived.Test.YtmakbmhlemhgeaaGreatDoorQB
set_option linter.all false
set_option maxRecDepth 100000
set_option maxHeartbeats 8000000
namespace Go.Proofs.YtmakbmhlemhgeaaGreatDoor
open Go.RowKit Dg
def kq (w:World) (a b c d e f a' b' c' d' e' f':Value):World:=((w.alloc (.cells #[a,b,c,d,e,f] 110)).alloc (.cells #[a',b',c',d',e',f'] 110)).alloc (.cells #[.bool false,.slice none 0 0,.slice none 0 0,.bool false,.slice none 0 0,.slice none 0 0] 110)
theorem kE (w:World) (a b c d e f a' b' c' d' e' f':Value):bk (kq w a b c d e f a' b' c' d' e' f') w.heap.size a b c d e f/\bk (kq w a b c d e f a' b' c' d' e' f') (w.heap.size+1) a' b' c' d' e' f' /\
  bi (kq w a b c d e f a' b' c' d' e' f') (w.heap.size+1+1) (.bool false) (.slice none 0 0) (.slice none 0 0) (.bool false) (.slice none 0 0) (.slice none 0 0)/\Below w.heap.size w (kq w a b c d e f a' b' c' d' e' f'):=by
 unfold kq;have q1:=bk.new w a b c d e f 110;have m1:=ae w (.cells #[a,b,c,d,e,f] 110);have z1:=af w (.cells #[a,b,c,d,e,f] 110);generalize w.alloc (.cells #[a,b,c,d,e,f] 110)=w1 at *
 have q2:=bk.new w1 a' b' c' d' e' f' 110;have m2:=ae w1 (.cells #[a',b',c',d',e',f'] 110);have z2:=af w1 (.cells #[a',b',c',d',e',f'] 110);generalize w1.alloc (.cells #[a',b',c',d',e',f'] 110)=w2 at *
 have q3:=bi.new w2 (.bool false) (.slice none 0 0) (.slice none 0 0) (.bool false) (.slice none 0 0) (.slice none 0 0) nofun nofun nofun nofun nofun nofun;have m3:=ae w2 (.cells #[.bool false,.slice none 0 0,.slice none 0 0,.bool false,.slice none 0 0,.slice none 0 0] 110);rw[z2,z1] at q3;rw[z1] at q2;have M12:=m1.trans (m2.mono m1.size);exact⟨(q1.below m2).below m3,q2.below m3,q3,M12.trans (m3.mono M12.size)⟩
def j6 (w:World) (k:Nat) (a b c:Value):World:=((w.setCell ⟨k,0,none⟩ a).setCell ⟨k,1,none⟩ b).setCell ⟨k,2,none⟩ c
theorem aG.putR {w:World}{k:Nat}{a b c x1 x2 x3:Value}{r:Rt} (h:aG w k a b c) (hx:IsR w (.agg #[x1,x2,x3]) r) :
  aG (j6 w k x1 x2 x3) k x1 x2 x3/\IsR (j6 w k x1 x2 x3) (.agg #[x1,x2,x3]) r/\∀ B w0,Below B w0 w->B<=k->Below B w0 (j6 w k x1 x2 x3):=by
 obtain⟨xn,xd,e1,hx1,hx2,hx3,hx4⟩:=hx;obtain⟨rfl,rfl,rfl⟩:x1=.bool r.minus/\x2=xn/\x3=xd:=by simpa using e1
 have P:=h.put (a':=.bool r.minus) (b':=x2) (c':=x3) nofun (IsU.not_int hx1) (IsU.not_int hx2);refine⟨P.1,⟨_,_,rfl,P.2.1 _ _ hx1,P.2.1 _ _ hx2,hx3,hx4⟩,fun B w0 hb hk=>?_⟩;unfold j6;exact ((hb.setCell (p:=⟨k,0,none⟩) hk _).setCell (p:=⟨k,1,none⟩) hk _).setCell (p:=⟨k,2,none⟩) hk _
theorem nk (va:Value) (r:Rt) (w:World) (ha:IsR w va r) :
  Calls Tryz.prog 199 #[va] w fun e w'=>∃ t,e=.returned t/\IsR w' t (nj r)/\Below w.heap.size w w':=by
 obtain⟨n,d,rfl,hn,hd,hf1,hf2⟩:=ha;obtain⟨pn,cn,rfl,-⟩:=id hn;obtain⟨pd,cd,rfl,-⟩:=id hd;go_enter Tryz.func199,Tryz.ntmps199;go_wp2;have m1:=ae w (.cells #[.bool r.minus,.slice pn (aa BB r.n).length cn,.slice pd (aa BB r.d).length cd] 106);have m2:=ae (w.alloc (.cells #[.bool r.minus,.slice pn (aa BB r.n).length cn,.slice pd (aa BB r.d).length cd] 106)) (.cells #[.bool r.minus,.slice pd (aa BB r.d).length cd,.slice pn (aa BB r.n).length cn] 106);have M:=m1.trans (m2.mono m1.size);refine t8 (v:=.agg #[.bool r.minus,.slice pd (aa BB r.d).length cd,.slice pn (aa BB r.n).length cn]) (by simp[results,Tryz.results199,go_sem]) rfl ⟨_,rfl,⟨_,_,rfl,hd.below M,hn.below M,hf2,hf1⟩,M⟩
theorem qY (va:Value) (u:Vl) (k:Nat) (w:World) (ha:IsV w va u) (hs:SzV k u) (hk:4*k+1<=800000) :
  Calls Tryz.prog 198 #[va] w fun e w'=>∃ t,e=.returned t/\IsR w' t (iu u)/\Below w.heap.size w w':=by
 obtain⟨a,b,c,d,e,f,rfl,hax,hay⟩:=ha;have mx:=hs.x.fewM hs.x (by omega);have my:=hs.y.fewM hs.y (by omega);have mz:=(hs.x.mul hs.x).fewR (hs.y.mul hs.y) (by omega);go_enter Tryz.func198,Tryz.ntmps198;go_upto_region 1 with fail
 have q1:=bk.new w a b c d e f 110;have m1:=ae w (.cells #[a,b,c,d,e,f] 110);have z1:=af w (.cells #[a,b,c,d,e,f] 110);generalize w.alloc (.cells #[a,b,c,d,e,f] 110)=w1 at *
 have q3:=aG.new w1 (.bool false) (.slice none 0 0) (.slice none 0 0) nofun nofun nofun;have m3:=ae w1 (.cells #[.bool false,.slice none 0 0,.slice none 0 0] 106);generalize w1.alloc (.cells #[.bool false,.slice none 0 0,.slice none 0 0] 106)=w3 at *
 have m4:Below w3.heap.size w3 w3.drew:=(t_ _ _).drew;rw[z1] at q3;refine aq (fun w'=>∃ x:bG (w.heap.size+1) w3.drew,w'=x.w) (fun i=>i == 4||i == 9||i == 10||i == 11) (by kernel_rfl) (by kernel_rfl) ⟨⟨_,t_ _ _⟩,rfl⟩ ?_;generalize w3.drew=wd at *
 have hB0:Below wd.heap.size wd wd:=t_ _ _;have M13:=m1.trans (m3.mono m1.size);have MD:=ri (M13.trans (m4.mono M13.size));have B1:=(q1.below m3).below m4;have B3:=ri (q3.below m4);have hz:w.heap.size+1<=wd.heap.size:=by have:=B3.out.lt;omega
 have e1:=fun x:bG (w.heap.size+1) wd=>B1.at x.h (by omega);have a0:=fun x=>(e1 x).c0;have a01:=fun x=>(e1 x).c1;have a02:=fun x=>(e1 x).c2;have a03:=fun x=>(e1 x).c3;have a04:=fun x=>(e1 x).c4;have a05:=fun x=>(e1 x).c5;have HAX:=ri (hax.below MD.out);have HAY:=ri (hay.below MD.out);clear e1 q1 q3 m1 m3 m4 z1 M13 hax hay B1;refine aj 4 0 _ _ _ (by kernel_rfl) ?_;simp only[rC,rG,rB,rF];repeat (go_big_quiet_step (fail))
 refine wpQuiet_nil ?_;refine ai rfl rfl (fun K hK=>?_);go_simp;refine (cD _ _ _ _ _ HAX.out HAX.out mx.h0 mx.h1 mx.f1 mx.f2).mono ?_;rintro e w4 ⟨v4,rfl,hv4,hb4⟩;refine hK _ _ ⟨⟨_,hb4.mono hz⟩,rfl⟩ ?_;clear hK K;try simp only[Act.put,rm,rl,rk,rj,rr,rq]
 refine aj 4 5 _ _ _ (by kernel_rfl) ?_;simp only[rC,rG,rB,rF];repeat (go_big_quiet_step (fail))
 refine wpQuiet_nil ?_;refine ai rfl rfl (fun K hK=>?_);go_simp;refine (cD _ _ _ _ _ (HAY.out.below hb4) (HAY.out.below hb4) my.h0 my.h1 my.f1 my.f2).mono ?_;rintro e w5 ⟨v5,rfl,hv5,hb5⟩;have hB5:=hb4.trans (hb5.mono hb4.size);refine hK _ _ ⟨⟨_,hB5.mono hz⟩,rfl⟩ ?_;clear hK K;try simp only[Act.put,rm,rl,rk,rj,rr,rq]
 refine ai rfl rfl (fun K hK=>?_);go_simp;refine (gH _ _ _ _ _ (hv4.below hb5) hv5 mz.h0 mz.h1 mz.f1 mz.f2 mz.f3 mz.f4).mono ?_;rintro e w6 ⟨v6,rfl,hv6,hb6⟩;have hB6:=hB5.trans (hb6.mono hB5.size);refine hK _ _ ⟨⟨_,hB6.mono hz⟩,rfl⟩ ?_;clear hK K;try simp only[Act.put,rm,rl,rk,rj,rr,rq]
 obtain⟨xm,xp,xl,xc,xq,xk,xd,rfl⟩:=hv6.form;have B8:=B3.out.below hB6;have k0:=B8.c0;have k1:=B8.c1;have k2:=B8.c2;have f0:=B8.fr 0;have f1:=B8.fr 1;have f2:=B8.fr 2;have P:=ri (B8.putR hv6);refine ai rfl rfl (fun K hK=>?_);go_simp;refine hK undef _ ⟨⟨_,P.out.2.2 _ _ (hB6.mono hz) (rp _)⟩,rfl⟩ ?_;clear hK K;try simp only[Act.put,rm,rl,rk,rj,rr,rq]
 refine aP ?_;have M8:=ri (P.out.2.2 _ w (MD.out.trans (hB6.mono MD.out.size)) (by omega));go_wp2_with fail
 have q0:=P.out.1.c0;have q1:=P.out.1.c1;have q2:=P.out.1.c2;refine t8 (v:=.agg #[.bool xm,.slice xp xl xc,.slice xq xk xd]) (by simp[j6] at q0 q1 q2 |-;simp[results,Tryz.results198,go_sem,q0,q1,q2]) rfl ⟨_,rfl,P.out.2.1,M8.out⟩
theorem qA (va vb:Value) (u v:Vl) (k l:Nat) (w:World) (ha:IsV w va u) (hb:IsV w vb v) (hs:SzV k u) (hs':SzV l v) (h0:0<(iu v).n) (hk:4*(k+l)+8*l+10<=800000) :
  Calls Tryz.prog 153 #[va,vb] w fun e w'=>∃ t,e=.returned t/\IsV w' t (nE u v)/\Below w.heap.size w w':=by
 obtain⟨a,b,c,d,e,f,rfl,hax,hay⟩:=ha;obtain⟨a',b',c',d',e',f',rfl,hbx,hby⟩:=hb;have F1:=hs.fewV hs'.conj (by omega);have F2:=(hs.times hs'.conj).fewV (SzV.plain (hs'.norm.inv h0) (by omega)) (by omega);go_enter Tryz.func153,Tryz.ntmps153;go_upto_region 1 with fail
 have E:=kE w a b c d e f a' b' c' d' e' f';unfold kq at E;generalize ((w.alloc (.cells #[a,b,c,d,e,f] 110)).alloc (.cells #[a',b',c',d',e',f'] 110)).alloc (.cells #[.bool false,.slice none 0 0,.slice none 0 0,.bool false,.slice none 0 0,.slice none 0 0] 110)=w3 at *
 have m4:Below w3.heap.size w3 w3.drew:=(t_ _ _).drew;refine aq (fun w'=>∃ x:bG (w.heap.size+2) w3.drew,w'=x.w) (fun i=>i == 2||i == 3||i == 5||i == 6||i == 7||i == 8||i == 9) (by kernel_rfl) (by kernel_rfl) ⟨⟨_,t_ _ _⟩,rfl⟩ ?_;generalize w3.drew=wd at *
 obtain⟨q1,q2,q3,MD⟩:=E;have MD:=ri (MD.trans (m4.mono MD.size));have B1:=q1.below m4;have B2:=q2.below m4;have B3:=ri (q3.below m4);have hz:w.heap.size+2<=wd.heap.size:=by have:=B3.out.lt;omega
 have e1:=fun x:bG (w.heap.size+2) wd=>B1.at x.h (by omega);have e2:=fun x:bG (w.heap.size+2) wd=>B2.at x.h (by omega);have a0:=fun x=>(e1 x).c0;have a01:=fun x=>(e1 x).c1;have a02:=fun x=>(e1 x).c2;have a03:=fun x=>(e1 x).c3;have a04:=fun x=>(e1 x).c4;have a05:=fun x=>(e1 x).c5;have b0:=fun x=>(e2 x).c0;have b01:=fun x=>(e2 x).c1;have b02:=fun x=>(e2 x).c2;have b03:=fun x=>(e2 x).c3;have b04:=fun x=>(e2 x).c4;have b05:=fun x=>(e2 x).c5;have HA:=ri (show IsV wd (.agg #[a,b,c,d,e,f]) u from⟨_,_,_,_,_,_,rfl,hax.below MD.out,hay.below MD.out⟩);have HB:=ri (show IsV wd (.agg #[a',b',c',d',e',f']) v from⟨_,_,_,_,_,_,rfl,hbx.below MD.out,hby.below MD.out⟩);clear e1 e2 q1 q2 q3 m4 B1 B2 hax hay hbx hby;refine aj 2 0 _ _ _ (by kernel_rfl) ?_;simp only[rC,rG,rB,rF];repeat (go_big_quiet_step (fail))
 refine wpQuiet_nil ?_;refine ai rfl rfl (fun K hK=>?_);go_simp;refine (qg _ _ _ HB.out).mono ?_;rintro e w4 ⟨v4,rfl,hv4,hb4⟩;refine hK _ _ ⟨⟨_,hb4.mono hz⟩,rfl⟩ ?_;clear hK K;try simp only[Act.put,rm,rl,rk,rj,rr,rq]
 refine ai rfl rfl (fun K hK=>?_);go_simp;refine (jd _ _ _ _ _ (HA.out.below hb4) hv4 F1).mono ?_;rintro e w5 ⟨v5,rfl,hv5,hb5⟩;have hB5:=hb4.trans (hb5.mono hb4.size);refine hK _ _ ⟨⟨_,hB5.mono hz⟩,rfl⟩ ?_;clear hK K;try simp only[Act.put,rm,rl,rk,rj,rr,rq]
 refine aj 1 4 _ _ _ (by kernel_rfl) ?_;simp only[rC,rG,rB,rF];repeat (go_big_quiet_step (fail))
 refine wpQuiet_nil ?_;refine ai rfl rfl (fun K hK=>?_);go_simp;refine (qY _ _ l _ (HB.out.below hB5) hs' (by omega)).mono ?_;rintro e w6 ⟨v6,rfl,hv6,hb6⟩;have hB6:=hB5.trans (hb6.mono hB5.size);refine hK _ _ ⟨⟨_,hB6.mono hz⟩,rfl⟩ ?_;clear hK K;try simp only[Act.put,rm,rl,rk,rj,rr,rq]
 refine ai rfl rfl (fun K hK=>?_);go_simp;refine (nk _ _ _ hv6).mono ?_;rintro e w7 ⟨v7,rfl,hv7,hb7⟩;have hB7:=hB6.trans (hb7.mono hB6.size);refine hK _ _ ⟨⟨_,hB7.mono hz⟩,rfl⟩ ?_;clear hK K;try simp only[Act.put,rm,rl,rk,rj,rr,rq]
 refine ai rfl rfl (fun K hK=>?_);go_simp;refine (i_ _ _ _ hv7).mono ?_;rintro e w8 ⟨v8,rfl,hv8,hb8⟩;have hB8:=hB7.trans (hb8.mono hB7.size);refine hK _ _ ⟨⟨_,hB8.mono hz⟩,rfl⟩ ?_;clear hK K;try simp only[Act.put,rm,rl,rk,rj,rr,rq]
 refine ai rfl rfl (fun K hK=>?_);go_simp;have hv5':=((hv5.below hb6).below hb7).below hb8;refine (jd _ _ _ _ _ hv5' hv8 F2).mono ?_;rintro e w9 ⟨v9,rfl,hv9,hb9⟩;have hB9:=hB8.trans (hb9.mono hB8.size);refine hK _ _ ⟨⟨_,hB9.mono hz⟩,rfl⟩ ?_;clear hK K;try simp only[Act.put,rm,rl,rk,rj,rr,rq]
 obtain⟨x1,x2,x3,y1,y2,y3,rfl,hx,hy⟩:=hv9;obtain⟨xm,xp,xl,xc,xq,xk,xd,hxe⟩:=hx.form;obtain⟨ym,yp,yl,yc,yq,yk,yd,hye⟩:=hy.form;obtain⟨rfl,rfl,rfl⟩:x1=.bool xm/\x2=.slice xp xl xc/\x3=.slice xq xk xd:=by simpa using hxe
 obtain⟨rfl,rfl,rfl⟩:y1=.bool ym/\y2=.slice yp yl yc/\y3=.slice yq yk yd:=by simpa using hye
 have B8:=B3.out.below hB9;have k0:=B8.cell 0;have k1:=B8.cell 1;have k2:=B8.cell 2;have k3:=B8.cell 3;have k4:=B8.cell 4;have k5:=B8.cell 5;have f0:=B8.fr 0;have f1:=B8.fr 1;have f2:=B8.fr 2;have f3:=B8.fr 3;have f4:=B8.fr 4;have f5:=B8.fr 5;have P:=ri (B8.putV hx hy);refine ai rfl rfl (fun K hK=>?_);go_simp;refine hK undef _ ⟨⟨_,P.out.2.2 _ _ (hB9.mono hz) (by omega)⟩,rfl⟩ ?_;clear hK K;try simp only[Act.put,rm,rl,rk,rj,rr,rq]
 refine aP ?_;have M8:=ri (P.out.2.2 _ _ (MD.out.trans (hB9.mono MD.out.size)) (by omega));go_wp2_with fail
 have q0:=P.out.1.cell 0;have q1:=P.out.1.cell 1;have q2:=P.out.1.cell 2;have q3:=P.out.1.cell 3;have q4:=P.out.1.cell 4;have q5:=P.out.1.cell 5;refine t8 (v:=.agg #[.bool xm,.slice xp xl xc,.slice xq xk xd,.bool ym,.slice yp yl yc,.slice yq yk yd]) (by simp[results,Tryz.results153,go_sem,bM] at q0 q1 q2 q3 q4 q5 |-;simp[results,Tryz.results153,go_sem,q0,q1,q2,q3,q4,q5]) rfl ⟨_,rfl,P.out.2.1,M8.out⟩
theorem rg (va:Value) (u:Vl) (w:World) (ha:IsV w va u) :
  Calls Tryz.prog 152 #[va] w fun e w'=>e=.returned (.bool (decide (u.x.n=0/\u.y.n=0)))/\Below w.heap.size w w':=by
 obtain⟨a,b,c,d,e,f,rfl,hx,hy⟩:=ha;have hb0:=ae w (.cells #[a,b,c,d,e,f] 110);have HB:=ri hb0;have H1:=ri (eM _ _ _ (hx.below hb0));have H2:=ri (fun wx (hw:Below (w.alloc (.cells #[a,b,c,d,e,f] 110)).heap.size (w.alloc (.cells #[a,b,c,d,e,f] 110)) wx)=>eM _ _ _ ((hy.below hb0).below hw));have q1:=bk.new w a b c d e f 110;clear hb0;go_enter Tryz.func152,Tryz.ntmps152;go_upto_region 1 with fail
 generalize w.alloc (.cells #[a,b,c,d,e,f] 110)=w1 at *
 have a0:=q1.c0;have a1:=q1.c1;have a2:=q1.c2;have a3:=q1.c3;have a4:=q1.c4;have a5:=q1.c5;by_cases h:u.x.n=0
 ·rw[decide_eq_true h] at H1;go_wp2_with fail
  refine H1.out.mono ?_;rintro e w2 ⟨rfl,hb2⟩;have q2:=q1.below hb2;have c0:=q2.c0;have c1:=q2.c1;have c2:=q2.c2;have c3:=q2.c3;have c4:=q2.c4;have c5:=q2.c5;clear a0 a1 a2 a3 a4 a5;go_wp2_with fail
  refine (H2.out w2 hb2).mono ?_;rintro e w3 ⟨rfl,hb3⟩;go_wp2;go_ret;exact⟨by simp[h],HB.out.trans ((hb2.trans (hb3.mono hb2.size)).mono HB.out.size)⟩
 ·rw[decide_eq_false h] at H1;go_wp2_with fail
  refine H1.out.mono ?_;rintro e w2 ⟨rfl,hb2⟩;go_wp2;go_ret;exact⟨by simp[h],HB.out.trans (hb2.mono HB.out.size)⟩
theorem putN (va:Value) (z:CQ) (w:World) (ha:IsV w va (ct z)) (hG:Gw w) :
  Calls Tryz.prog 61 #[va] w fun e w'=>e=.returned (.tuple #[.string (dx z).1,.int .i64 (dx z).2])/\Below w.heap.size w w':=by
 have ha0:=ha;obtain⟨a,b,c,d,e,f,rfl,hx,hy⟩:=ha;have hb0:=ae w (.cells #[a,b,c,d,e,f] 110);have HB:=ri hb0;have H1:=ri (iQ _ _ _ (hx.below hb0) (hG.below hb0));have H2:=ri (fun wx (hw:Below (w.alloc (.cells #[a,b,c,d,e,f] 110)).heap.size (w.alloc (.cells #[a,b,c,d,e,f] 110)) wx)=>iQ _ _ _ ((hy.below hb0).below hw) ((hG.below hb0).below hw));have H3:=ri (fun wx (hw:Below (w.alloc (.cells #[a,b,c,d,e,f] 110)).heap.size (w.alloc (.cells #[a,b,c,d,e,f] 110)) wx)=>iM _ _ _ ((ha0.below hb0).below hw) (fg _) (fg _) ((hG.below hb0).below hw));have q1:=bk.new w a b c d e f 110;clear hb0 ha0 hx hy;go_enter Tryz.func61,Tryz.ntmps61;go_upto_region 1 with fail
 generalize w.alloc (.cells #[a,b,c,d,e,f] 110)=w1 at *
 have a0:=q1.c0;have a1:=q1.c1;have a2:=q1.c2;have a3:=q1.c3;have a4:=q1.c4;have a5:=q1.c5;by_cases h:bV (rt z.re)=true
 ·rw[show bV (ct z).x=true from h] at H1;go_wp2_with fail
  refine H1.out.mono ?_;rintro e w2 ⟨rfl,hb2⟩;have hp:dx z=(⟨#[]⟩,11):=by unfold dx eO;rw[h];rfl
  go_wp2;refine t8 (v:=.tuple #[.string ⟨#[]⟩,.int .i64 11]) (by simp[results,Tryz.results61,go_sem]) rfl ⟨by rw[hp],HB.out.trans (hb2.mono HB.out.size)⟩
 ·rw[show bV (ct z).x=false from sC.2 h] at H1;go_wp2_with fail
  refine H1.out.mono ?_;rintro e w2 ⟨rfl,hb2⟩;have q2:=q1.below hb2;have c0:=q2.c0;have c1:=q2.c1;have c2:=q2.c2;have c3:=q2.c3;have c4:=q2.c4;have c5:=q2.c5;clear a0 a1 a2 a3 a4 a5;have H2:=ri (H2.out w2 hb2);by_cases h2:bV (rt z.im)=true
  ·rw[show bV (ct z).y=true from h2] at H2;go_wp2_with fail
   refine H2.out.mono ?_;rintro e w3 ⟨rfl,hb3⟩;have hp:dx z=(⟨#[]⟩,11):=by unfold dx eO;rw[h2];simp
   go_wp2;refine t8 (v:=.tuple #[.string ⟨#[]⟩,.int .i64 11]) (by simp[results,Tryz.results61,go_sem]) rfl ⟨by rw[hp],HB.out.trans ((hb2.trans (hb3.mono hb2.size)).mono HB.out.size)⟩
  ·rw[show bV (ct z).y=false from sC.2 h2] at H2;go_wp2_with fail
   refine H2.out.mono ?_;rintro e w3 ⟨rfl,hb3⟩;have hB3:=hb2.trans (hb3.mono hb2.size);have q3:=q1.below hB3;have d0:=q3.c0;have d1:=q3.c1;have d2:=q3.c2;have d3:=q3.c3;have d4:=q3.c4;have d5:=q3.c5;clear c0 c1 c2 c3 c4 c5;have hp:dx z=(txt z,0):=by unfold dx eO;rw[if_neg (by simpa using ⟨by simpa using h,by simpa using h2⟩)]
   have HP:=ri hp;clear hp;go_wp2_with fail
   refine (H3.out w3 hB3).mono ?_;rintro e w4 ⟨t,rfl,ht,-,hb4⟩;go_wp2;refine t8 (v:=.tuple #[.string t,.int .i64 0]) (by simp[results,Tryz.results61,go_sem]) rfl ⟨?_,HB.out.trans ((hB3.trans (hb4.mono hB3.size)).mono HB.out.size)⟩;rw[HP.out];have:t=txt z:=mL ht.out;rw[this]
theorem eN {a b c a' b' c':Value} (h:Value.agg #[a,b,c]=.agg #[a',b',c']):a=a'/\b=b'/\c=c':=by simpa using h
structure pW (F:FuncId) (cap:Array Value) (φ:CQ->CQ->CQ×Int) (w:World):Prop where
 en:∀ (args:Array Value) (w:World),(callFunc F args).run Tryz.prog w=.ok (.enter F args) w
 on:∀ (x y:Value) (a b:CQ) (w':World),Below w.heap.size w w'->IsK w' x a->IsK w' y b->Calls Tryz.prog F (#[x,y]++cap) w' fun e w''=>∃ v z,e=.returned (.tuple #[v,.int .i64 (φ a b).2])/\IsV w'' v z/\((φ a b).2=0->z=ct (φ a b).1)/\Below w'.heap.size w' w''
theorem k8 (F:FuncId) (cap:Array Value) (φ:CQ->CQ->CQ×Int) (s t:ByteArray) (w:World) (hG:Gw w) (hF:pW F cap φ w) :
  Calls Tryz.prog 150 #[.string s,.string t,.func (.func F) #[] cap] w fun e w'=>e=.returned (.tuple #[.string (aO φ s t).1,.int .i64 (aO φ s t).2])/\Below w.heap.size w w':=by
 have HF:=ri hF;have EN:=hF.en;clear hF;go_enter Tryz.func150,Tryz.ntmps150;go_wp2_with fail
 refine (fT s w hG).mono ?_;rintro e w1 ⟨v,ok,rfl,hcase,hb1⟩;rcases hcase with ⟨z,hz,rfl,hv⟩ | ⟨hz,rfl,rfl⟩
 ·obtain⟨p,rfl,hp1,hp2,-,-⟩:=fS hz;have HP1:=ri hp1;clear hz hp1;obtain⟨_,_,_,_,_,_,rfl,hx0,hy0⟩:=id hv;obtain⟨xm,xp,xl,xc,xq,xk,xd,hxe⟩:=hx0.form;obtain⟨ym,yp,yl,yc,yq,yk,yd,hye⟩:=hy0.form;obtain⟨rfl,rfl,rfl⟩:=eN hxe;obtain⟨rfl,rfl,rfl⟩:=eN hye;clear hxe hye hx0 hy0;go_upto_region 2 with fail
  have q1:=bk.new w1 (.bool xm) (.slice xp xl xc) (.slice xq xk xd) (.bool ym) (.slice yp yl yc) (.slice yq yk yd) 110;have m1:=ae w1 (.cells #[.bool xm,.slice xp xl xc,.slice xq xk xd,.bool ym,.slice yp yl yc,.slice yq yk yd] 110);generalize w1.alloc (.cells #[.bool xm,.slice xp xl xc,.slice xq xk xd,.bool ym,.slice yp yl yc,.slice yq yk yd] 110)=w2 at *
  have B1:=ri q1;have HV:=ri (hv.below m1);have hb2:=hb1.trans (m1.mono hb1.size);clear q1 hv m1;go_wp2_with fail
  refine (fT t w2 (hG.below hb2)).mono ?_;rintro e w3 ⟨v2,ok2,rfl,hcase,hb3⟩;have hB3:=hb2.trans (hb3.mono hb2.size);rcases hcase with ⟨z2,hz2,rfl,hv2⟩ | ⟨hz2,rfl,rfl⟩
  ·obtain⟨q,rfl,hr1,hr2,-,-⟩:=fS hz2;have HP2:=ri hr1;clear hz2 hr1;obtain⟨_,_,_,_,_,_,rfl,hx0,hy0⟩:=id hv2;obtain⟨xm',xp',xl',xc',xq',xk',xd',hxe⟩:=hx0.form;obtain⟨ym',yp',yl',yc',yq',yk',yd',hye⟩:=hy0.form;obtain⟨rfl,rfl,rfl⟩:=eN hxe;obtain⟨rfl,rfl,rfl⟩:=eN hye;clear hxe hye hx0 hy0;go_upto_region 5 with fail
   have q2:=bk.new w3 (.bool xm') (.slice xp' xl' xc') (.slice xq' xk' xd') (.bool ym') (.slice yp' yl' yc') (.slice yq' yk' yd') 110;have m2:=ae w3 (.cells #[.bool xm',.slice xp' xl' xc',.slice xq' xk' xd',.bool ym',.slice yp' yl' yc',.slice yq' yk' yd'] 110);generalize w3.alloc (.cells #[.bool xm',.slice xp' xl' xc',.slice xq' xk' xd',.bool ym',.slice yp' yl' yc',.slice yq' yk' yd'] 110)=w4 at *
   have hb4:=hb3.trans (m2.mono hb3.size);have hB4:=hb2.trans (hb4.mono hb2.size);have q1:=B1.out.below hb4;have HC:=ri (HF.out.on _ _ p q w4 hB4 ⟨HV.out.below hb4,hp2.mono (by decide)⟩ ⟨hv2.below m2,hr2.mono (by decide)⟩);have a0:=q1.c0;have a1:=q1.c1;have a2:=q1.c2;have a3:=q1.c3;have a4:=q1.c4;have a5:=q1.c5;have b0:=q2.c0;have b1:=q2.c1;have b2:=q2.c2;have b3:=q2.c3;have b4:=q2.c4;have b5:=q2.c5;have HB4:=ri hB4;clear q1 q2 m2 hv2 hb3 hb4 hB4 hB3 hb2 HF;go_wp2_with fail
   refine HC.out.mono ?_;rintro e w5 ⟨v3,z3,rfl,hv3,hz3,hb5⟩;obtain⟨err,herr⟩:∃ n,n=(φ p q).2:=⟨_,rfl⟩;rw[<-herr];have hB5:=HB4.out.trans (hb5.mono HB4.out.size);obtain⟨_,_,_,_,_,_,rfl,hx0,hy0⟩:=id hv3;obtain⟨um,up,ul,uc,uq,uk,ud,hxe⟩:=hx0.form;obtain⟨vm,vp,vl,vc,vq,vk,vd,hye⟩:=hy0.form;obtain⟨rfl,rfl,rfl⟩:=eN hxe;obtain⟨rfl,rfl,rfl⟩:=eN hye;clear hxe hye hx0 hy0 a0 a1 a2 a3 a4 a5 b0 b1 b2 b3 b4 b5 HC HV B1 HB4;by_cases he:err=0
   ·have hbc:aO φ s t=dx (φ p q).1:=by unfold aO;rw[HP1.out,HP2.out];simp only;rw[if_pos (by rw[<-herr];exact he)]
    have hz4:=hz3 (by rw[<-herr];exact he);have HE:=ri hbc;rw[hz4] at hv3;clear hbc hz3 herr hz4;subst he;go_upto_region 8 with fail
    have q3:=bk.new w5 (.bool um) (.slice up ul uc) (.slice uq uk ud) (.bool vm) (.slice vp vl vc) (.slice vq vk vd) 110;have m3:=ae w5 (.cells #[.bool um,.slice up ul uc,.slice uq uk ud,.bool vm,.slice vp vl vc,.slice vq vk vd] 110);generalize w5.alloc (.cells #[.bool um,.slice up ul uc,.slice uq uk ud,.bool vm,.slice vp vl vc,.slice vq vk vd] 110)=w6 at *
    have a0:=q3.c0;have a1:=q3.c1;have a2:=q3.c2;have a3:=q3.c3;have a4:=q3.c4;have a5:=q3.c5;have HB6:=ri (hB5.trans (m3.mono hB5.size));have HG:=ri (hG.below HB6.out);have HV:=ri (hv3.below m3);clear q3 m3 hv3 hB5 hb5;go_wp2_with fail
    refine (putN _ _ _ HV.out HG.out).mono ?_;rintro e w7 ⟨rfl,hb7⟩;go_wp2;refine t8 (v:=.tuple #[.string (dx (φ p q).1).1,.int .i64 (dx (φ p q).1).2]) (by simp[results,Tryz.results150,go_sem]) rfl ⟨by rw[HE.out],HB6.out.trans (hb7.mono HB6.out.size)⟩
   ·have hbc:aO φ s t=(⟨#[]⟩,err):=by unfold aO;rw[HP1.out,HP2.out];simp only;rw[if_neg (by rw[<-herr];exact he),herr]
    have HE:=ri hbc;have hne:(!(err == 0))=true:=by simpa using he
    clear hbc hz3 herr;go_wp2;refine t8 (v:=.tuple #[.string ⟨#[]⟩,.int .i64 err]) (by simp[results,Tryz.results150,go_sem]) rfl ⟨by rw[HE.out],hB5.trans ((ae w5 _).mono hB5.size)⟩
  ·have e:aO φ s t=(⟨#[]⟩,10):=by unfold aO;rw[eV hz2,HP1.out]
   have HE:=ri e;clear e hz2;unfold di;go_wp2;refine t8 (v:=.tuple #[.string ⟨#[]⟩,.int .i64 10]) (by simp[results,Tryz.results150,go_sem]) rfl ⟨by rw[HE.out],hB3.trans ((ae w3 _).mono hB3.size)⟩
 ·have e:aO φ s t=(⟨#[]⟩,10):=by unfold aO;rw[eV hz]
  have HE:=ri e;clear e hz;unfold di;go_wp2;refine t8 (v:=.tuple #[.string ⟨#[]⟩,.int .i64 10]) (by simp[results,Tryz.results150,go_sem]) rfl ⟨by rw[HE.out],hb1.trans ((ae w1 _).mono hb1.size)⟩
end Go.Proofs.YtmakbmhlemhgeaaGreatDoor
