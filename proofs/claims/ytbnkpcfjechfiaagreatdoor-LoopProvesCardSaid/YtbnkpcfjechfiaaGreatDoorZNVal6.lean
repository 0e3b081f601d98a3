/- Lemmas of this claim. -/
import Derived.Test.YtbnkpcfjechfiaaGreatDoorZNVal1
import Derived.Test.YtbnkpcfjechfiaaGreatDoorZLex
set_option linter.all false
set_option maxRecDepth 100000
set_option maxHeartbeats 8000000
namespace Go.Proofs.YtbnkpcfjechfiaaGreatDoor
open Go.RowKit Dg
theorem bW.at {w w':World}{k B:Nat}{a b c d e f:Value} (h:bW w k a b c d e f) (hb:Below B w w') (hk:k<B):bW w' k a b c d e f:=by
 have hq:=fun j=>hb.cell (p:=⟨k,j,none⟩) hk
 exact⟨Fo h.lt hb.size,(hq 0).trans h.c0,(hq 1).trans h.c1,(hq 2).trans h.c2,(hq 3).trans h.c3,(hq 4).trans h.c4,(hq 5).trans h.c5⟩
theorem IsR.form {w:World}{v:Value}{r:Rt} (h:IsR w v r):∃ m p l c q k d,v=.agg #[.bool m,.slice p l c,.slice q k d]:=by
 obtain⟨n,d,rfl,⟨p,c,rfl,-⟩,⟨q,k,rfl,-⟩,-⟩:=h
 exact⟨_,_,_,_,_,_,_,rfl⟩
theorem cS.putV {w:World}{k:Nat}{a b c d e f x1 x2 x3 y1 y2 y3:Value}{r s:Rt} (h:cS w k a b c d e f) (hx:IsR w (.agg #[x1,x2,x3]) r) (hy:IsR w (.agg #[y1,y2,y3]) s) :
  cS (d_ w k x1 x2 x3 y1 y2 y3) k x1 x2 x3 y1 y2 y3∧IsV (d_ w k x1 x2 x3 y1 y2 y3) (.agg #[x1,x2,x3,y1,y2,y3]) ⟨r,s⟩ ∧
  ∀ B w0,Below B w0 w→B≤k→Below B w0 (d_ w k x1 x2 x3 y1 y2 y3):=by
 obtain⟨xn,xd,e1,hx1,hx2,hx3,hx4⟩:=hx
 obtain⟨yn,yd,e2,hy1,hy2,hy3,hy4⟩:=hy
 obtain⟨rfl,rfl,rfl⟩:x1=.bool r.minus∧x2=xn∧x3=xd:=by simpa using e1
 obtain⟨rfl,rfl,rfl⟩:y1=.bool s.minus∧y2=yn∧y3=yd:=by simpa using e2
 have P:=h.put (a':=.bool r.minus) (b':=x2) (c':=x3) (d':=.bool s.minus) (e':=y2) (f':=y3) (by intro z e;cases e) (IsU.not_int hx1) (IsU.not_int hx2) (by intro z e;cases e) (IsU.not_int hy1) (IsU.not_int hy2)
 refine⟨P.1,⟨_,_,_,_,_,_,rfl,⟨_,_,rfl,P.2.1 _ _ hx1,P.2.1 _ _ hx2,hx3,hx4⟩,⟨_,_,rfl,P.2.1 _ _ hy1,P.2.1 _ _ hy2,hy3,hy4⟩⟩,fun B w0 hb hk=>?_⟩
 unfold d_
 exact (((((hb.setCell (p:=⟨k,0,none⟩) hk _).setCell (p:=⟨k,1,none⟩) hk _).setCell (p:=⟨k,2,none⟩) hk _).setCell (p:=⟨k,3,none⟩) hk _).setCell (p:=⟨k,4,none⟩) hk _).setCell (p:=⟨k,5,none⟩) hk _
structure zJ (r s:Rt):Prop where
 h0:0<r.d
 h1:0<s.d
 f1:Few (r.n*s.n)
 f2:Few (r.d*s.d)
def fy (u v:Vl):Vl:=if u.y.n=0∧v.y.n=0 then iT (cK u.x v.x) else ⟨dx (cK u.x v.x) (eP (cK u.y v.y)),dx (cK u.x v.y) (cK u.y v.x)⟩
structure FewV (u v:Vl):Prop where
 a:zJ u.x v.x
 b:zJ u.y v.y
 c:zJ u.x v.y
 d:zJ u.y v.x
 e:ui (cK u.x v.x) (eP (cK u.y v.y))
 f:ui (cK u.x v.y) (cK u.y v.x)
theorem iZ (va vb:Value) (u v:Vl) (w:World) (ha:IsV w va u) (hb:IsV w vb v) (hm:FewV u v) :
  Calls Tryz.prog 169 #[va,vb] w fun e w'=>∃ t,e=.returned t∧IsV w' t (fy u v)∧Below w.heap.size w w':=by
 obtain⟨a,b,c,d,e,f,rfl,hax,hay⟩:=ha
 obtain⟨a',b',c',d',e',f',rfl,hbx,hby⟩:=hb
 obtain⟨z,hz⟩:∃ z,z=fy u v:=⟨_,rfl⟩
 rw[←hz]
 have HZ:=Ff hz
 clear hz
 go_enter Tryz.func169,Tryz.ntmps169
 go_upto_region 1 with fail
 have q1:=bW.new w a b c d e f 153
 have m1:Below w.heap.size w (w.alloc (.cells #[a,b,c,d,e,f] 153)):=(Below.refl _ _).alloc (Fm _) _
 have z1:(w.alloc (.cells #[a,b,c,d,e,f] 153)).heap.size=w.heap.size+1:=by show (Array.push _ _).size=_;exact FY _
 generalize w.alloc (.cells #[a,b,c,d,e,f] 153)=w1 at *
 have q2:=bW.new w1 a' b' c' d' e' f' 153
 have m2:Below w1.heap.size w1 (w1.alloc (.cells #[a',b',c',d',e',f'] 153)):=(Below.refl _ _).alloc (Fm _) _
 have z2:(w1.alloc (.cells #[a',b',c',d',e',f'] 153)).heap.size=w1.heap.size+1:=by show (Array.push _ _).size=_;exact FY _
 generalize w1.alloc (.cells #[a',b',c',d',e',f'] 153)=w2 at *
 have q3:=cS.new w2 (.bool false) (.slice none 0 0) (.slice none 0 0) (.bool false) (.slice none 0 0) (.slice none 0 0) (by intro z e;cases e) (by intro z e;cases e) (by intro z e;cases e) (by intro z e;cases e) (by intro z e;cases e) (by intro z e;cases e)
 have m3:Below w2.heap.size w2 (w2.alloc (.cells #[.bool false,.slice none 0 0,.slice none 0 0,.bool false,.slice none 0 0,.slice none 0 0] 153)):=(Below.refl _ _).alloc (Fm _) _
 generalize w2.alloc (.cells #[.bool false,.slice none 0 0,.slice none 0 0,.bool false,.slice none 0 0,.slice none 0 0] 153)=w3 at *
 rw[z2,z1] at q3
 rw[z1] at q2
 have M12:=m1.trans (m2.mono m1.size)
 have MD:=Ff (M12.trans (m3.mono M12.size))
 have B1:=Ff ((q1.below m2).below m3)
 have B2:=Ff (q2.below m3)
 have B3:=Ff q3
 have HAX:=Ff (hax.below MD.out)
 have HAY:=Ff (hay.below MD.out)
 have HBX:=Ff (hbx.below MD.out)
 have HBY:=Ff (hby.below MD.out)
 clear q1 q2 q3 m1 m2 m3 z1 z2 M12 hax hay hbx hby
 have e1:=B1.out;have e2:=B2.out
 have a0:=e1.c0;have a1:=e1.c1;have a2:=e1.c2;have a3:=e1.c3;have a4:=e1.c4;have a5:=e1.c5
 clear e1 e2
 by_cases hu:u.y.n=0
 ·have hr:=eG _ u w3 ⟨_,_,_,_,_,_,rfl,HAX.out,HAY.out⟩
  rw[decide_eq_true hu] at hr
  have HR:=Ff hr
  have hr2:=fun wx (hx:Below w3.heap.size w3 wx)=>eG _ v wx ⟨_,_,_,_,_,_,rfl,HBX.out.below hx,HBY.out.below hx⟩
  clear hr
  by_cases hv:v.y.n=0
  ·rw[decide_eq_true hv] at hr2
   have HR2:=Ff hr2
   have HC:=Ff (show iT (cK u.x v.x)=z by rw[HZ.out,fy,if_pos ⟨hu,hv⟩])
   clear hr2 hu hv HAY HBY
   go_wp2_with first | (go_at_call 145;refine HR.out.mono ?_;rintro e w4 ⟨rfl,hb4⟩;have e2:=B2.out.below hb4;have b0:=e2.c0;have b1:=e2.c1;have b2:=e2.c2;have b3:=e2.c3;have b4:=e2.c4;have b5:=e2.c5;clear e2) | (go_at_call 145;refine (HR2.out w4 hb4).mono ?_;rintro e w5 ⟨rfl,hb5⟩;clear a0 a1 a2 a3 a4 a5 b0 b1 b2 b3 b4 b5;have hB5:=hb4.trans (hb5.mono hb4.size);have e1:=B1.out.below hB5;have e2:=B2.out.below hB5;have a0:=e1.c0;have a1:=e1.c1;have a2:=e1.c2;have a3:=e1.c3;have a4:=e1.c4;have a5:=e1.c5;have b0:=e2.c0;have b1:=e2.c1;have b2:=e2.c2;have b3:=e2.c3;have b4:=e2.c4;have b5:=e2.c5;clear e1 e2)
   have hB5:=hb4.trans (hb5.mono hb4.size)
   have hp:Calls Tryz.prog 216 #[.agg #[a,b,c],.agg #[a',b',c']] w5 fun e w'=>∃ t,e=.returned t∧IsR w' t (cK u.x v.x)∧Below w5.heap.size w5 w':=gQ _ _ _ _ _ (HAX.out.below hB5) (HBX.out.below hB5) hm.a.h0 hm.a.h1 hm.a.f1 hm.a.f2
   refine hp.mono ?_
   clear hp a0 a1 a2 a3 a4 a5 b0 b1 b2 b3 b4 b5
   rintro e w6 ⟨v6,rfl,hv6,hb6⟩
   have hB6:=hB5.trans (hb6.mono hB5.size)
   go_wp2_with fail
   refine (e_ _ _ _ hv6).mono ?_
   rintro e w7 ⟨v7,rfl,hv7,hb7⟩
   have hB7:=hB6.trans (hb7.mono hB6.size)
   rw[HC.out] at hv7
   obtain⟨x1,x2,x3,y1,y2,y3,rfl,hx,hy⟩:=hv7
   obtain⟨xm,xp,xl,xc,xq,xk,xd,hxe⟩:=hx.form
   obtain⟨ym,yp,yl,yc,yq,yk,yd,hye⟩:=hy.form
   obtain⟨rfl,rfl,rfl⟩:x1=.bool xm∧x2=.slice xp xl xc∧x3=.slice xq xk xd:=by simpa using hxe
   obtain⟨rfl,rfl,rfl⟩:y1=.bool ym∧y2=.slice yp yl yc∧y3=.slice yq yk yd:=by simpa using hye
   have B8:=B3.out.below hB7
   have k0:=B8.cell 0;have k1:=B8.cell 1;have k2:=B8.cell 2;have k3:=B8.cell 3;have k4:=B8.cell 4;have k5:=B8.cell 5
   have f0:=B8.fr 0;have f1:=B8.fr 1;have f2:=B8.fr 2;have f3:=B8.fr 3;have f4:=B8.fr 4;have f5:=B8.fr 5
   have P:=Ff (B8.putV hx hy)
   have M8:=Ff (P.out.2.2 _ _ (MD.out.trans (hB7.mono MD.out.size)) (by omega))
   go_wp2_with fail
   have q0:=P.out.1.cell 0;have q1:=P.out.1.cell 1;have q2:=P.out.1.cell 2;have q3:=P.out.1.cell 3;have q4:=P.out.1.cell 4;have q5:=P.out.1.cell 5
   refine bodyPost_ret (v:=.agg #[.bool xm,.slice xp xl xc,.slice xq xk xd,.bool ym,.slice yp yl yc,.slice yq yk yd]) (by simp[results,Tryz.results169,go_sem,d_] at q0 q1 q2 q3 q4 q5 ⊢;simp[results,Tryz.results169,go_sem,q0,q1,q2,q3,q4,q5]) rfl ⟨_,rfl,P.out.2.1,M8.out⟩
  ·rw[decide_eq_false hv] at hr2
   have HR2:=Ff hr2
   have HC:=Ff (show ¬ (u.y.n=0∧v.y.n=0) from fun h=>hv h.2)
   clear hr2 hu hv
   go_wp2_with first | (go_at_call 145;refine HR.out.mono ?_;rintro e w4 ⟨rfl,hb4⟩;have e2:=B2.out.below hb4;have b0:=e2.c0;have b1:=e2.c1;have b2:=e2.c2;have b3:=e2.c3;have b4:=e2.c4;have b5:=e2.c5;clear e2) | (go_at_call 145;refine (HR2.out w4 hb4).mono ?_;rintro e w5 ⟨rfl,hb5⟩;clear a0 a1 a2 a3 a4 a5 b0 b1 b2 b3 b4 b5;have hb4:=hb4.trans (hb5.mono hb4.size))
   have MD:=Ff (MD.out.trans (hb4.mono MD.out.size))
   have B1:=Ff (B1.out.below hb4)
   have B2:=Ff (B2.out.below hb4)
   have B3:=Ff (B3.out.below hb4)
   have HAX:=Ff (HAX.out.below hb4)
   have HAY:=Ff (HAY.out.below hb4)
   have HBX:=Ff (HBX.out.below hb4)
   have HBY:=Ff (HBY.out.below hb4)
   clear hb4 hb5 HR HR2
   have m4:Below w5.heap.size w5 w5.drew:=(Below.refl _ _).drew
   refine aw (fun w'=>∃ x:aC (w.heap.size+2) w5.drew,w'=x.w) (fun i=>i == 4||i == 9||i == 10||i == 11||i == 16||i == 21||i == 22||i == 24) (by kernel_rfl) (by kernel_rfl) ⟨⟨_,Below.refl _ _⟩,rfl⟩ ?_
   generalize w5.drew=wd at *
   have hB0:Below wd.heap.size wd wd:=Below.refl _ _
   have MD:=Ff (MD.out.trans (m4.mono MD.out.size))
   have B1:=Ff (B1.out.below m4)
   have B2:=Ff (B2.out.below m4)
   have B3:=Ff (B3.out.below m4)
   have HAX:=Ff (HAX.out.below m4)
   have HAY:=Ff (HAY.out.below m4)
   have HBX:=Ff (HBX.out.below m4)
   have HBY:=Ff (HBY.out.below m4)
   have hz:w.heap.size+2≤wd.heap.size:=by have:=B3.out.lt;omega
   have e1:=fun x:aC (w.heap.size+2) wd=>B1.out.at x.h (by omega)
   have e2:=fun x:aC (w.heap.size+2) wd=>B2.out.at x.h (by omega)
   have a0:=fun x=>(e1 x).c0;have a1:=fun x=>(e1 x).c1;have a2:=fun x=>(e1 x).c2;have a3:=fun x=>(e1 x).c3;have a4:=fun x=>(e1 x).c4;have a5:=fun x=>(e1 x).c5
   have b0:=fun x=>(e2 x).c0;have b1:=fun x=>(e2 x).c1;have b2:=fun x=>(e2 x).c2;have b3:=fun x=>(e2 x).c3;have b4:=fun x=>(e2 x).c4;have b5:=fun x=>(e2 x).c5
   clear e1 e2
   refine ak 4 0 _ _ _ (by kernel_rfl) ?_
   simp only[Fp,Ft,Fq,Fr]
   repeat (go_big_quiet_step (fail))
   refine wpQuiet_nil ?_
   refine ap rfl rfl (fun K hK=>?_)
   go_simp
   have hp:Calls Tryz.prog 216 #[.agg #[a,b,c],.agg #[a',b',c']] wd fun e w'=>∃ t,e=.returned t∧IsR w' t (cK u.x v.x)∧Below wd.heap.size wd w':=gQ _ _ _ _ _ HAX.out HBX.out hm.a.h0 hm.a.h1 hm.a.f1 hm.a.f2
   refine hp.mono ?_
   clear hp
   rintro e w11 ⟨v1,rfl,hv1,HN1⟩
   have hB1:=hB0.trans (HN1.mono hB0.size)
   refine hK _ _ ⟨⟨_,hB1.mono hz⟩,rfl⟩ ?_
   clear hK K
   try simp only[Act.put,Fj,Fi,Fh,Fg,Fk,Fl]
   refine ak 4 5 _ _ _ (by kernel_rfl) ?_
   simp only[Fp,Ft,Fq,Fr]
   repeat (go_big_quiet_step (fail))
   refine wpQuiet_nil ?_
   refine ap rfl rfl (fun K hK=>?_)
   go_simp
   have hp:Calls Tryz.prog 216 #[.agg #[d,e,f],.agg #[d',e',f']] w11 fun e w'=>∃ t,e=.returned t∧IsR w' t (cK u.y v.y)∧Below w11.heap.size w11 w':=gQ _ _ _ _ _ (HAY.out.below hB1) (HBY.out.below hB1) hm.b.h0 hm.b.h1 hm.b.f1 hm.b.f2
   refine hp.mono ?_
   clear hp
   rintro e w12 ⟨v2,rfl,hv2,HN2⟩
   have hB2:=hB1.trans (HN2.mono hB1.size)
   refine hK _ _ ⟨⟨_,hB2.mono hz⟩,rfl⟩ ?_
   clear hK K
   try simp only[Act.put,Fj,Fi,Fh,Fg,Fk,Fl]
   refine ap rfl rfl (fun K hK=>?_)
   go_simp
   have hp:Calls Tryz.prog 218 #[v2] w12 fun e w'=>∃ t,e=.returned t∧IsR w' t (eP (cK u.y v.y))∧Below w12.heap.size w12 w':=qu9 _ _ _ hv2
   refine hp.mono ?_
   clear hp
   rintro e w13 ⟨v3,rfl,hv3,HN3⟩
   have hB3:=hB2.trans (HN3.mono hB2.size)
   refine hK _ _ ⟨⟨_,hB3.mono hz⟩,rfl⟩ ?_
   clear hK K
   try simp only[Act.put,Fj,Fi,Fh,Fg,Fk,Fl]
   refine ap rfl rfl (fun K hK=>?_)
   go_simp
   have hp:Calls Tryz.prog 217 #[v1,v3] w13 fun e w'=>∃ t,e=.returned t∧IsR w' t (dx (cK u.x v.x) (eP (cK u.y v.y)))∧Below w13.heap.size w13 w':=j_ _ _ _ _ _ ((hv1.below HN2).below HN3) hv3 hm.e.h0 hm.e.h1 hm.e.f1 hm.e.f2 hm.e.f3 hm.e.f4
   refine hp.mono ?_
   clear hp
   rintro e w14 ⟨v4,rfl,hv4,HN4⟩
   have hB4:=hB3.trans (HN4.mono hB3.size)
   refine hK _ _ ⟨⟨_,hB4.mono hz⟩,rfl⟩ ?_
   clear hK K
   try simp only[Act.put,Fj,Fi,Fh,Fg,Fk,Fl]
   refine ak 4 12 _ _ _ (by kernel_rfl) ?_
   simp only[Fp,Ft,Fq,Fr]
   repeat (go_big_quiet_step (fail))
   refine wpQuiet_nil ?_
   refine ap rfl rfl (fun K hK=>?_)
   go_simp
   have hp:Calls Tryz.prog 216 #[.agg #[a,b,c],.agg #[d',e',f']] w14 fun e w'=>∃ t,e=.returned t∧IsR w' t (cK u.x v.y)∧Below w14.heap.size w14 w':=gQ _ _ _ _ _ (HAX.out.below hB4) (HBY.out.below hB4) hm.c.h0 hm.c.h1 hm.c.f1 hm.c.f2
   refine hp.mono ?_
   clear hp
   rintro e w15 ⟨v5,rfl,hv5,HN5⟩
   have hB5:=hB4.trans (HN5.mono hB4.size)
   refine hK _ _ ⟨⟨_,hB5.mono hz⟩,rfl⟩ ?_
   clear hK K
   try simp only[Act.put,Fj,Fi,Fh,Fg,Fk,Fl]
   refine ak 4 17 _ _ _ (by kernel_rfl) ?_
   simp only[Fp,Ft,Fq,Fr]
   repeat (go_big_quiet_step (fail))
   refine wpQuiet_nil ?_
   refine ap rfl rfl (fun K hK=>?_)
   go_simp
   have hp:Calls Tryz.prog 216 #[.agg #[d,e,f],.agg #[a',b',c']] w15 fun e w'=>∃ t,e=.returned t∧IsR w' t (cK u.y v.x)∧Below w15.heap.size w15 w':=gQ _ _ _ _ _ (HAY.out.below hB5) (HBX.out.below hB5) hm.d.h0 hm.d.h1 hm.d.f1 hm.d.f2
   refine hp.mono ?_
   clear hp
   rintro e w16 ⟨v6,rfl,hv6,HN6⟩
   have hB6:=hB5.trans (HN6.mono hB5.size)
   refine hK _ _ ⟨⟨_,hB6.mono hz⟩,rfl⟩ ?_
   clear hK K
   try simp only[Act.put,Fj,Fi,Fh,Fg,Fk,Fl]
   refine ap rfl rfl (fun K hK=>?_)
   go_simp
   have hp:Calls Tryz.prog 217 #[v5,v6] w16 fun e w'=>∃ t,e=.returned t∧IsR w' t (dx (cK u.x v.y) (cK u.y v.x))∧Below w16.heap.size w16 w':=j_ _ _ _ _ _ (hv5.below HN6) hv6 hm.f.h0 hm.f.h1 hm.f.f1 hm.f.f2 hm.f.f3 hm.f.f4
   refine hp.mono ?_
   clear hp
   rintro e w17 ⟨v7,rfl,hv7,HN7⟩
   have hB7:=hB6.trans (HN7.mono hB6.size)
   refine hK _ _ ⟨⟨_,hB7.mono hz⟩,rfl⟩ ?_
   clear hK K
   try simp only[Act.put,Fj,Fi,Fh,Fg,Fk,Fl]
   have hv4':=((hv4.below HN5).below HN6).below HN7
   rw[show dx (cK u.x v.x) (eP (cK u.y v.y))=z.x by rw[HZ.out,fy,if_neg HC.out]] at hv4'
   rw[show dx (cK u.x v.y) (cK u.y v.x)=z.y by rw[HZ.out,fy,if_neg HC.out]] at hv7
   obtain⟨xm,xp,xl,xc,xq,xk,xd,rfl⟩:=hv4'.form
   obtain⟨ym,yp,yl,yc,yq,yk,yd,rfl⟩:=hv7.form
   have B8:=B3.out.below hB7
   have k0:=B8.cell 0;have k1:=B8.cell 1;have k2:=B8.cell 2;have k3:=B8.cell 3;have k4:=B8.cell 4;have k5:=B8.cell 5
   have f0:=B8.fr 0;have f1:=B8.fr 1;have f2:=B8.fr 2;have f3:=B8.fr 3;have f4:=B8.fr 4;have f5:=B8.fr 5
   have P:=Ff (B8.putV hv4' hv7)
   refine ak 1 23 _ _ _ (by kernel_rfl) ?_
   simp only[Fp,Ft,Fq,Fr]
   repeat (go_big_quiet_step (fail))
   refine wpQuiet_nil ?_
   refine ap rfl rfl (fun K hK=>?_)
   go_simp
   refine hK undef _ ⟨⟨_,P.out.2.2 _ _ (hB7.mono hz) (by omega)⟩,rfl⟩ ?_
   clear hK K
   try simp only[Act.put,Fj,Fi,Fh,Fg,Fk,Fl]
   refine aI ?_
   have M8:=Ff (P.out.2.2 _ _ (MD.out.trans (hB7.mono MD.out.size)) (by omega))
   go_wp2_with fail
   have q0:=P.out.1.cell 0;have q1:=P.out.1.cell 1;have q2:=P.out.1.cell 2;have q3:=P.out.1.cell 3;have q4:=P.out.1.cell 4;have q5:=P.out.1.cell 5
   refine bodyPost_ret (v:=.agg #[.bool xm,.slice xp xl xc,.slice xq xk xd,.bool ym,.slice yp yl yc,.slice yq yk yd]) (by simp[results,Tryz.results169,go_sem,d_] at q0 q1 q2 q3 q4 q5 ⊢;simp[results,Tryz.results169,go_sem,q0,q1,q2,q3,q4,q5]) rfl ⟨_,rfl,P.out.2.1,M8.out⟩
 ·have HC:=Ff (show ¬ (u.y.n=0∧v.y.n=0) from fun h=>hu h.1)
  have hr:=eG _ u w3 ⟨_,_,_,_,_,_,rfl,HAX.out,HAY.out⟩
  rw[decide_eq_false hu] at hr
  have HR:=Ff hr
  clear hr hu
  go_wp2_with (go_at_call 145;refine HR.out.mono ?_;rintro e w4 ⟨rfl,hb4⟩)
  have MD:=Ff (MD.out.trans (hb4.mono MD.out.size))
  have B1:=Ff (B1.out.below hb4)
  have B2:=Ff (B2.out.below hb4)
  have B3:=Ff (B3.out.below hb4)
  have HAX:=Ff (HAX.out.below hb4)
  have HAY:=Ff (HAY.out.below hb4)
  have HBX:=Ff (HBX.out.below hb4)
  have HBY:=Ff (HBY.out.below hb4)
  clear hb4 a0 a1 a2 a3 a4 a5 HR
  have m4:Below w4.heap.size w4 w4.drew:=(Below.refl _ _).drew
  refine aw (fun w'=>∃ x:aC (w.heap.size+2) w4.drew,w'=x.w) (fun i=>i == 4||i == 9||i == 10||i == 11||i == 16||i == 21||i == 22||i == 24) (by kernel_rfl) (by kernel_rfl) ⟨⟨_,Below.refl _ _⟩,rfl⟩ ?_
  generalize w4.drew=wd at *
  have hB0:Below wd.heap.size wd wd:=Below.refl _ _
  have MD:=Ff (MD.out.trans (m4.mono MD.out.size))
  have B1:=Ff (B1.out.below m4)
  have B2:=Ff (B2.out.below m4)
  have B3:=Ff (B3.out.below m4)
  have HAX:=Ff (HAX.out.below m4)
  have HAY:=Ff (HAY.out.below m4)
  have HBX:=Ff (HBX.out.below m4)
  have HBY:=Ff (HBY.out.below m4)
  have hz:w.heap.size+2≤wd.heap.size:=by have:=B3.out.lt;omega
  have e1:=fun x:aC (w.heap.size+2) wd=>B1.out.at x.h (by omega)
  have e2:=fun x:aC (w.heap.size+2) wd=>B2.out.at x.h (by omega)
  have a0:=fun x=>(e1 x).c0;have a1:=fun x=>(e1 x).c1;have a2:=fun x=>(e1 x).c2;have a3:=fun x=>(e1 x).c3;have a4:=fun x=>(e1 x).c4;have a5:=fun x=>(e1 x).c5
  have b0:=fun x=>(e2 x).c0;have b1:=fun x=>(e2 x).c1;have b2:=fun x=>(e2 x).c2;have b3:=fun x=>(e2 x).c3;have b4:=fun x=>(e2 x).c4;have b5:=fun x=>(e2 x).c5
  clear e1 e2
  refine ak 4 0 _ _ _ (by kernel_rfl) ?_
  simp only[Fp,Ft,Fq,Fr]
  repeat (go_big_quiet_step (fail))
  refine wpQuiet_nil ?_
  refine ap rfl rfl (fun K hK=>?_)
  go_simp
  have hp:Calls Tryz.prog 216 #[.agg #[a,b,c],.agg #[a',b',c']] wd fun e w'=>∃ t,e=.returned t∧IsR w' t (cK u.x v.x)∧Below wd.heap.size wd w':=gQ _ _ _ _ _ HAX.out HBX.out hm.a.h0 hm.a.h1 hm.a.f1 hm.a.f2
  refine hp.mono ?_
  clear hp
  rintro e w11 ⟨v1,rfl,hv1,HN1⟩
  have hB1:=hB0.trans (HN1.mono hB0.size)
  refine hK _ _ ⟨⟨_,hB1.mono hz⟩,rfl⟩ ?_
  clear hK K
  try simp only[Act.put,Fj,Fi,Fh,Fg,Fk,Fl]
  refine ak 4 5 _ _ _ (by kernel_rfl) ?_
  simp only[Fp,Ft,Fq,Fr]
  repeat (go_big_quiet_step (fail))
  refine wpQuiet_nil ?_
  refine ap rfl rfl (fun K hK=>?_)
  go_simp
  have hp:Calls Tryz.prog 216 #[.agg #[d,e,f],.agg #[d',e',f']] w11 fun e w'=>∃ t,e=.returned t∧IsR w' t (cK u.y v.y)∧Below w11.heap.size w11 w':=gQ _ _ _ _ _ (HAY.out.below hB1) (HBY.out.below hB1) hm.b.h0 hm.b.h1 hm.b.f1 hm.b.f2
  refine hp.mono ?_
  clear hp
  rintro e w12 ⟨v2,rfl,hv2,HN2⟩
  have hB2:=hB1.trans (HN2.mono hB1.size)
  refine hK _ _ ⟨⟨_,hB2.mono hz⟩,rfl⟩ ?_
  clear hK K
  try simp only[Act.put,Fj,Fi,Fh,Fg,Fk,Fl]
  refine ap rfl rfl (fun K hK=>?_)
  go_simp
  have hp:Calls Tryz.prog 218 #[v2] w12 fun e w'=>∃ t,e=.returned t∧IsR w' t (eP (cK u.y v.y))∧Below w12.heap.size w12 w':=qu9 _ _ _ hv2
  refine hp.mono ?_
  clear hp
  rintro e w13 ⟨v3,rfl,hv3,HN3⟩
  have hB3:=hB2.trans (HN3.mono hB2.size)
  refine hK _ _ ⟨⟨_,hB3.mono hz⟩,rfl⟩ ?_
  clear hK K
  try simp only[Act.put,Fj,Fi,Fh,Fg,Fk,Fl]
  refine ap rfl rfl (fun K hK=>?_)
  go_simp
  have hp:Calls Tryz.prog 217 #[v1,v3] w13 fun e w'=>∃ t,e=.returned t∧IsR w' t (dx (cK u.x v.x) (eP (cK u.y v.y)))∧Below w13.heap.size w13 w':=j_ _ _ _ _ _ ((hv1.below HN2).below HN3) hv3 hm.e.h0 hm.e.h1 hm.e.f1 hm.e.f2 hm.e.f3 hm.e.f4
  refine hp.mono ?_
  clear hp
  rintro e w14 ⟨v4,rfl,hv4,HN4⟩
  have hB4:=hB3.trans (HN4.mono hB3.size)
  refine hK _ _ ⟨⟨_,hB4.mono hz⟩,rfl⟩ ?_
  clear hK K
  try simp only[Act.put,Fj,Fi,Fh,Fg,Fk,Fl]
  refine ak 4 12 _ _ _ (by kernel_rfl) ?_
  simp only[Fp,Ft,Fq,Fr]
  repeat (go_big_quiet_step (fail))
  refine wpQuiet_nil ?_
  refine ap rfl rfl (fun K hK=>?_)
  go_simp
  have hp:Calls Tryz.prog 216 #[.agg #[a,b,c],.agg #[d',e',f']] w14 fun e w'=>∃ t,e=.returned t∧IsR w' t (cK u.x v.y)∧Below w14.heap.size w14 w':=gQ _ _ _ _ _ (HAX.out.below hB4) (HBY.out.below hB4) hm.c.h0 hm.c.h1 hm.c.f1 hm.c.f2
  refine hp.mono ?_
  clear hp
  rintro e w15 ⟨v5,rfl,hv5,HN5⟩
  have hB5:=hB4.trans (HN5.mono hB4.size)
  refine hK _ _ ⟨⟨_,hB5.mono hz⟩,rfl⟩ ?_
  clear hK K
  try simp only[Act.put,Fj,Fi,Fh,Fg,Fk,Fl]
  refine ak 4 17 _ _ _ (by kernel_rfl) ?_
  simp only[Fp,Ft,Fq,Fr]
  repeat (go_big_quiet_step (fail))
  refine wpQuiet_nil ?_
  refine ap rfl rfl (fun K hK=>?_)
  go_simp
  have hp:Calls Tryz.prog 216 #[.agg #[d,e,f],.agg #[a',b',c']] w15 fun e w'=>∃ t,e=.returned t∧IsR w' t (cK u.y v.x)∧Below w15.heap.size w15 w':=gQ _ _ _ _ _ (HAY.out.below hB5) (HBX.out.below hB5) hm.d.h0 hm.d.h1 hm.d.f1 hm.d.f2
  refine hp.mono ?_
  clear hp
  rintro e w16 ⟨v6,rfl,hv6,HN6⟩
  have hB6:=hB5.trans (HN6.mono hB5.size)
  refine hK _ _ ⟨⟨_,hB6.mono hz⟩,rfl⟩ ?_
  clear hK K
  try simp only[Act.put,Fj,Fi,Fh,Fg,Fk,Fl]
  refine ap rfl rfl (fun K hK=>?_)
  go_simp
  have hp:Calls Tryz.prog 217 #[v5,v6] w16 fun e w'=>∃ t,e=.returned t∧IsR w' t (dx (cK u.x v.y) (cK u.y v.x))∧Below w16.heap.size w16 w':=j_ _ _ _ _ _ (hv5.below HN6) hv6 hm.f.h0 hm.f.h1 hm.f.f1 hm.f.f2 hm.f.f3 hm.f.f4
  refine hp.mono ?_
  clear hp
  rintro e w17 ⟨v7,rfl,hv7,HN7⟩
  have hB7:=hB6.trans (HN7.mono hB6.size)
  refine hK _ _ ⟨⟨_,hB7.mono hz⟩,rfl⟩ ?_
  clear hK K
  try simp only[Act.put,Fj,Fi,Fh,Fg,Fk,Fl]
  have hv4':=((hv4.below HN5).below HN6).below HN7
  rw[show dx (cK u.x v.x) (eP (cK u.y v.y))=z.x by rw[HZ.out,fy,if_neg HC.out]] at hv4'
  rw[show dx (cK u.x v.y) (cK u.y v.x)=z.y by rw[HZ.out,fy,if_neg HC.out]] at hv7
  obtain⟨xm,xp,xl,xc,xq,xk,xd,rfl⟩:=hv4'.form
  obtain⟨ym,yp,yl,yc,yq,yk,yd,rfl⟩:=hv7.form
  have B8:=B3.out.below hB7
  have k0:=B8.cell 0;have k1:=B8.cell 1;have k2:=B8.cell 2;have k3:=B8.cell 3;have k4:=B8.cell 4;have k5:=B8.cell 5
  have f0:=B8.fr 0;have f1:=B8.fr 1;have f2:=B8.fr 2;have f3:=B8.fr 3;have f4:=B8.fr 4;have f5:=B8.fr 5
  have P:=Ff (B8.putV hv4' hv7)
  refine ak 1 23 _ _ _ (by kernel_rfl) ?_
  simp only[Fp,Ft,Fq,Fr]
  repeat (go_big_quiet_step (fail))
  refine wpQuiet_nil ?_
  refine ap rfl rfl (fun K hK=>?_)
  go_simp
  refine hK undef _ ⟨⟨_,P.out.2.2 _ _ (hB7.mono hz) (by omega)⟩,rfl⟩ ?_
  clear hK K
  try simp only[Act.put,Fj,Fi,Fh,Fg,Fk,Fl]
  refine aI ?_
  have M8:=Ff (P.out.2.2 _ _ (MD.out.trans (hB7.mono MD.out.size)) (by omega))
  go_wp2_with fail
  have q0:=P.out.1.cell 0;have q1:=P.out.1.cell 1;have q2:=P.out.1.cell 2;have q3:=P.out.1.cell 3;have q4:=P.out.1.cell 4;have q5:=P.out.1.cell 5
  refine bodyPost_ret (v:=.agg #[.bool xm,.slice xp xl xc,.slice xq xk xd,.bool ym,.slice yp yl yc,.slice yq yk yd]) (by simp[results,Tryz.results169,go_sem,d_] at q0 q1 q2 q3 q4 q5 ⊢;simp[results,Tryz.results169,go_sem,q0,q1,q2,q3,q4,q5]) rfl ⟨_,rfl,P.out.2.1,M8.out⟩
end Go.Proofs.YtbnkpcfjechfiaaGreatDoor
