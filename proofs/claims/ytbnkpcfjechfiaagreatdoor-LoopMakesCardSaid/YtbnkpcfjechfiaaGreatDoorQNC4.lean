/- Lemmas of this claim. -/
import Derived.Test.YtbnkpcfjechfiaaGreatDoorQCoef
set_option linter.all false
set_option maxRecDepth 100000
set_option maxHeartbeats 8000000
namespace Go.Proofs.YtbnkpcfjechfiaaGreatDoor
open Go.RowKit Dg
structure GAt (G:FuncId) (f:CQ→CQ→CQ):Prop where
 en:∀ (args:Array Value) (w:World),(callFunc G args).run Tryz.prog w=.ok (.enter G args) w
 on:∀ (x y:Value) (a b:CQ) (w:World),IsK w x a→IsK w y b→Calls Tryz.prog G #[x,y] w fun e w'=>∃ v,e=.returned v∧IsV w' v (ct (f a b))∧Below w.heap.size w w'
theorem Dt:GAt 170 CQ.add :=
 ⟨a_ Tryz.func170 rfl (by kernel_rfl),fun x y a b w ha hb=>by
  rw[←fq]
  exact uT _ _ _ _ _ ha.v hb.v (ha.s.x.fewR hb.s.x (by decide)) (ha.s.y.fewR hb.s.y (by decide))⟩
theorem Dq:GAt 181 CQ.sub :=
 ⟨a_ Tryz.func181 rfl (by kernel_rfl),fun x y a b w ha hb=>by
  rw[←nH]
  exact AD _ _ _ _ _ ha.v hb.v (ha.s.x.fewR hb.s.x.neg (by decide)) (ha.s.y.fewR hb.s.y.neg (by decide))⟩
theorem Eq:GAt 169 CQ.mul :=
 ⟨a_ Tryz.func169 rfl (by kernel_rfl),fun x y a b w ha hb=>by
  rw[←cO]
  exact iL _ _ _ _ _ ha.v hb.v (ha.s.fewV hb.s (by decide))⟩
theorem BJ {G:FuncId}{f:CQ→CQ→CQ} (hG:GAt G f) (k:Nat) (w:World) (hc:w.cell? ⟨k,0,none⟩=some (.func (.func G) #[] #[])) (hk:k<w.heap.size) :
  DD 222 #[.pointer (some ⟨k,0,none⟩)] (gn f) w:=by
 refine⟨a_ Tryz.func222 rfl (by kernel_rfl),fun x y a b w0 hw ha hb=>?_⟩;have hc0:=(hw.cell (p:=⟨k,0,none⟩) hk).trans hc;have hk0:=Fe hk hw.size;have EN:=hG.en;obtain⟨p1,p2,p3,p4,p5,p6,rfl,hax,hay⟩:=id ha.v;obtain⟨r1,r2,r3,r4,r5,r6,rfl,hbx,hby⟩:=id hb.v
 show Calls _ _ #[_,_,.pointer (some ⟨k,0,none⟩)] _ _
 go_enter Tryz.func222,Tryz.ntmps222;go_upto_region 1 with fail
 have E:=uE w0 p1 p2 p3 p4 p5 p6 r1 r2 r3 r4 r5 r6;unfold tV at E;generalize ((w0.alloc (.cells #[p1,p2,p3,p4,p5,p6] 153)).alloc (.cells #[r1,r2,r3,r4,r5,r6] 153)).alloc (.cells #[.bool false,.slice none 0 0,.slice none 0 0,.bool false,.slice none 0 0,.slice none 0 0] 153)=w3 at *
 obtain⟨q1,q2,q3,MD⟩:=E;have c0:=(MD.cell (p:=⟨k,0,none⟩) hk0).trans hc0;have HC:=E5 (hG.on _ _ a b w3 (ha.below MD) (hb.below MD));have B3:=E5 q3;have MD:=E5 MD;have a0:=q1.c0;have a1:=q1.c1;have a2:=q1.c2;have a3:=q1.c3;have a4:=q1.c4;have a5:=q1.c5;have b0:=q2.c0;have b1:=q2.c1;have b2:=q2.c2;have b3:=q2.c3;have b4:=q2.c4;have b5:=q2.c5;clear q1 q2 q3 hax hay hbx hby ha hb hc0 hc;go_wp2_with fail
 refine HC.out.mono ?_;rintro e w4 ⟨v4,rfl,hv4,hb4⟩;obtain⟨x1,x2,x3,y1,y2,y3,rfl,hx,hy⟩:=hv4;obtain⟨xm,xp,xl,xc,xq,xk,xd,hxe⟩:=hx.form;obtain⟨ym,yp,yl,yc,yq,yk,yd,hye⟩:=hy.form;obtain⟨rfl,rfl,rfl⟩:=eh hxe;obtain⟨rfl,rfl,rfl⟩:=eh hye;have B8:=B3.out.below hb4;have k0:=B8.cell 0;have k1:=B8.cell 1;have k2:=B8.cell 2;have k3:=B8.cell 3;have k4:=B8.cell 4;have k5:=B8.cell 5;have f0:=B8.fr 0;have f1:=B8.fr 1;have f2:=B8.fr 2;have f3:=B8.fr 3;have f4:=B8.fr 4;have f5:=B8.fr 5;have P:=E5 (B8.putV hx hy);have M8:=E5 (P.out.2.2 _ _ (MD.out.trans (hb4.mono MD.out.size)) (by omega));clear hx hy hxe hye B8;go_wp2_with fail
 have q0:=P.out.1.cell 0;have q1:=P.out.1.cell 1;have q2:=P.out.1.cell 2;have q3:=P.out.1.cell 3;have q4:=P.out.1.cell 4;have q5:=P.out.1.cell 5;refine bodyPost_ret (v:=.tuple #[.agg #[.bool xm,.slice xp xl xc,.slice xq xk xd,.bool ym,.slice yp yl yc,.slice yq yk yd],.int .i64 0]) (by simp[results,Tryz.results222,go_sem,dY] at q0 q1 q2 q3 q4 q5 ⊢;simp[results,Tryz.results222,go_sem,q0,q1,q2,q3,q4,q5]) rfl ⟨_,_,rfl,P.out.2.1,fun _=>rfl,M8.out⟩
theorem divN (w:World):DD 164 #[] sr w:=by
 refine⟨a_ Tryz.func164 rfl (by kernel_rfl),fun x y a b w0 hw ha hb=>?_⟩;obtain⟨p1,p2,p3,p4,p5,p6,rfl,hax,hay⟩:=id ha.v;obtain⟨r1,r2,r3,r4,r5,r6,rfl,hbx,hby⟩:=id hb.v
 show Calls _ _ #[_,_] _ _
 go_enter Tryz.func164,Tryz.ntmps164;go_upto_region 1 with fail
 have E:=uE w0 p1 p2 p3 p4 p5 p6 r1 r2 r3 r4 r5 r6;unfold tV at E;generalize ((w0.alloc (.cells #[p1,p2,p3,p4,p5,p6] 153)).alloc (.cells #[r1,r2,r3,r4,r5,r6] 153)).alloc (.cells #[.bool false,.slice none 0 0,.slice none 0 0,.bool false,.slice none 0 0,.slice none 0 0] 153)=w3 at *
 obtain⟨q1,q2,q3,MD⟩:=E;have HA:=E5 (ha.below MD);have HB:=E5 (hb.below MD);have HZ:=E5 (BW _ _ _ HB.out.v);have B1:=E5 q1;have B2:=E5 q2;have B3:=E5 q3;have MD:=E5 MD;have a0:=q1.c0;have a1:=q1.c1;have a2:=q1.c2;have a3:=q1.c3;have a4:=q1.c4;have a5:=q1.c5;have b0:=q2.c0;have b1:=q2.c1;have b2:=q2.c2;have b3:=q2.c3;have b4:=q2.c4;have b5:=q2.c5;clear q1 q2 q3 hax hay hbx hby ha hb
 have hiff:((ct b).x.n=0∧(ct b).y.n=0)↔b=⟨0,0⟩:=by
  show ((rt b.re).n=0∧(rt b.im).n=0)↔_
  rw[bg,bg];constructor
  ·rintro⟨h1,h2⟩;cases b;simp only at h1 h2;rw[h1,h2]
  ·intro h;rw[h];exact⟨rfl,rfl⟩
 by_cases hbz:b=⟨0,0⟩
 ·rw[decide_eq_true (hiff.2 hbz)] at HZ;have hd:sr a b=(⟨0,0⟩,12):=if_pos hbz;have HD:=E5 hd;clear hd;go_wp2_with fail
  refine HZ.out.mono ?_;rintro e w4 ⟨rfl,hb4⟩;have B8:=B3.out.below hb4;have k0:=B8.cell 0;have k1:=B8.cell 1;have k2:=B8.cell 2;have k3:=B8.cell 3;have k4:=B8.cell 4;have k5:=B8.cell 5;have f0:=B8.fr 0;have f1:=B8.fr 1;have f2:=B8.fr 2;have f3:=B8.fr 3;have f4:=B8.fr 4;have f5:=B8.fr 5;have P:=E5 (B8.put (a':=.bool false) (b':=.slice none 0 0) (c':=.slice none 0 0) (d':=.bool false) (e':=.slice none 0 0) (f':=.slice none 0 0) (by intro z e;cases e) (by intro z e;cases e) (by intro z e;cases e) (by intro z e;cases e) (by intro z e;cases e) (by intro z e;cases e));have M8:=E5 (P.out.2.2 _ (MD.out.trans (hb4.mono MD.out.size)) (by omega));clear B8;go_wp2_with fail
  have q0:=P.out.1.cell 0;have q1:=P.out.1.cell 1;have q2:=P.out.1.cell 2;have q3:=P.out.1.cell 3;have q4:=P.out.1.cell 4;have q5:=P.out.1.cell 5;have hn:=Az;have hf0:Few 0:=fO (by decide);refine bodyPost_ret (v:=.tuple #[gO,.int .i64 12]) (by simp[results,Tryz.results164,go_sem,dY,gO] at q0 q1 q2 q3 q4 q5 ⊢;simp[results,Tryz.results164,go_sem,q0,q1,q2,q3,q4,q5]) rfl ⟨_,⟨⟨false,0,0⟩,⟨false,0,0⟩⟩,by rw[HD.out];rfl,⟨_,_,_,_,_,_,rfl,⟨_,_,rfl,hn _,hn _,hf0,hf0⟩,⟨_,_,rfl,hn _,hn _,hf0,hf0⟩⟩,fun h=>by rw[HD.out] at h;simp at h,M8.out⟩
 ·rw[decide_eq_false (fun h=>hbz (hiff.1 h))] at HZ;have hd:sr a b=(a.div b,0):=if_neg hbz;have HD:=E5 hd;clear hd;go_wp2_with fail
  refine HZ.out.mono ?_;rintro e w4 ⟨rfl,hb4⟩;clear a0 a1 a2 a3 a4 a5 b0 b1 b2 b3 b4 b5;have q1:=B1.out.below hb4;have q2:=B2.out.below hb4;have a0:=q1.c0;have a1:=q1.c1;have a2:=q1.c2;have a3:=q1.c3;have a4:=q1.c4;have a5:=q1.c5;have b0:=q2.c0;have b1:=q2.c1;have b2:=q2.c2;have b3:=q2.c3;have b4:=q2.c4;have b5:=q2.c5;clear q1 q2
  have h0:0<(lW (ct b)).n:=by
   rw[nO];exact GC fun h=>hbz (lA ((bg _).1 h))
  have HC:=E5 (qX _ _ _ _ 10000 10000 w4 (HA.out.v.below hb4) (HB.out.v.below hb4) HA.out.s HB.out.s h0 (by decide));rw[jo hbz] at HC;go_wp2_with fail
  refine HC.out.mono ?_;rintro e w5 ⟨v5,rfl,hv5,hb5⟩;have hB5:=hb4.trans (hb5.mono hb4.size);obtain⟨x1,x2,x3,y1,y2,y3,rfl,hx,hy⟩:=hv5;obtain⟨xm,xp,xl,xc,xq,xk,xd,hxe⟩:=hx.form;obtain⟨ym,yp,yl,yc,yq,yk,yd,hye⟩:=hy.form;obtain⟨rfl,rfl,rfl⟩:=eh hxe;obtain⟨rfl,rfl,rfl⟩:=eh hye;have B8:=B3.out.below hB5;have k0:=B8.cell 0;have k1:=B8.cell 1;have k2:=B8.cell 2;have k3:=B8.cell 3;have k4:=B8.cell 4;have k5:=B8.cell 5;have f0:=B8.fr 0;have f1:=B8.fr 1;have f2:=B8.fr 2;have f3:=B8.fr 3;have f4:=B8.fr 4;have f5:=B8.fr 5;have P:=E5 (B8.putV hx hy);have M8:=E5 (P.out.2.2 _ _ (MD.out.trans (hB5.mono MD.out.size)) (by omega));clear hx hy hxe hye B8;go_wp2_with fail
  have q0:=P.out.1.cell 0;have q1:=P.out.1.cell 1;have q2:=P.out.1.cell 2;have q3:=P.out.1.cell 3;have q4:=P.out.1.cell 4;have q5:=P.out.1.cell 5;refine bodyPost_ret (v:=.tuple #[.agg #[.bool xm,.slice xp xl xc,.slice xq xk xd,.bool ym,.slice yp yl yc,.slice yq yk yd],.int .i64 0]) (by simp[results,Tryz.results164,go_sem,dY] at q0 q1 q2 q3 q4 q5 ⊢;simp[results,Tryz.results164,go_sem,q0,q1,q2,q3,q4,q5]) rfl ⟨_,_,by rw[HD.out],P.out.2.1,fun _=>by rw[HD.out],M8.out⟩
theorem BI (G:FuncId) (w:World) :
  Calls Tryz.prog 180 #[.func (.func G) #[] #[]] w fun e w'=>∃ k,e=.returned (.func (.func 222) #[] #[.pointer (some ⟨k,0,none⟩)])∧k<w'.heap.size∧w'.cell? ⟨k,0,none⟩=some (.func (.func G) #[] #[])∧Below w.heap.size w w':=by
 go_enter Tryz.func180,Tryz.ntmps180;go_wp2;go_ret;exact⟨_,rfl,by rw[size_alloc];omega,aA _ _ _ _ _ rfl,ak _ _⟩
theorem D7 (s t:ByteArray) (w:World) (hG:Gw w) :
  Calls Tryz.prog 146 #[.string s,.string t] w fun e w'=>e=.returned (.tuple #[.string (c_ (gn CQ.add) s t).1,.int .i64 (c_ (gn CQ.add) s t).2])∧Below w.heap.size w w':=by
 obtain⟨r,hr⟩:∃ r,r=c_ (gn CQ.add) s t:=⟨_,rfl⟩;rw[←hr];have HR:=E5 hr;clear hr;go_enter Tryz.func146,Tryz.ntmps146;go_wp2_with fail
 refine (BI _ w).mono ?_;rintro e w1 ⟨k,rfl,hk,hc,hb1⟩;have hp:=vP 222 _ _ s t w1 (hG.below hb1) (BJ Dt k w1 hc hk);rw[←HR.out] at hp;go_wp2_with fail
 refine hp.mono ?_;clear hp;rintro e w2 ⟨rfl,hb2⟩;go_wp2;refine bodyPost_ret (v:=.tuple #[.string r.1,.int .i64 r.2]) (by simp[results,Tryz.results146,go_sem]) rfl ⟨rfl,hb1.trans (hb2.mono hb1.size)⟩
theorem Ea (s t:ByteArray) (w:World) (hG:Gw w) :
  Calls Tryz.prog 139 #[.string s,.string t] w fun e w'=>e=.returned (.tuple #[.string (c_ (gn CQ.sub) s t).1,.int .i64 (c_ (gn CQ.sub) s t).2])∧Below w.heap.size w w':=by
 obtain⟨r,hr⟩:∃ r,r=c_ (gn CQ.sub) s t:=⟨_,rfl⟩;rw[←hr];have HR:=E5 hr;clear hr;go_enter Tryz.func139,Tryz.ntmps139;go_wp2_with fail
 refine (BI _ w).mono ?_;rintro e w1 ⟨k,rfl,hk,hc,hb1⟩;have hp:=vP 222 _ _ s t w1 (hG.below hb1) (BJ Dq k w1 hc hk);rw[←HR.out] at hp;go_wp2_with fail
 refine hp.mono ?_;clear hp;rintro e w2 ⟨rfl,hb2⟩;go_wp2;refine bodyPost_ret (v:=.tuple #[.string r.1,.int .i64 r.2]) (by simp[results,Tryz.results139,go_sem]) rfl ⟨rfl,hb1.trans (hb2.mono hb1.size)⟩
theorem D_ (s t:ByteArray) (w:World) (hG:Gw w) :
  Calls Tryz.prog 140 #[.string s,.string t] w fun e w'=>e=.returned (.tuple #[.string (c_ (gn CQ.mul) s t).1,.int .i64 (c_ (gn CQ.mul) s t).2])∧Below w.heap.size w w':=by
 obtain⟨r,hr⟩:∃ r,r=c_ (gn CQ.mul) s t:=⟨_,rfl⟩;rw[←hr];have HR:=E5 hr;clear hr;go_enter Tryz.func140,Tryz.ntmps140;go_wp2_with fail
 refine (BI _ w).mono ?_;rintro e w1 ⟨k,rfl,hk,hc,hb1⟩;have hp:=vP 222 _ _ s t w1 (hG.below hb1) (BJ Eq k w1 hc hk);rw[←HR.out] at hp;go_wp2_with fail
 refine hp.mono ?_;clear hp;rintro e w2 ⟨rfl,hb2⟩;go_wp2;refine bodyPost_ret (v:=.tuple #[.string r.1,.int .i64 r.2]) (by simp[results,Tryz.results140,go_sem]) rfl ⟨rfl,hb1.trans (hb2.mono hb1.size)⟩
theorem D9 (s t:ByteArray) (w:World) (hG:Gw w) :
  Calls Tryz.prog 112 #[.string s,.string t] w fun e w'=>e=.returned (.tuple #[.string (c_ sr s t).1,.int .i64 (c_ sr s t).2])∧Below w.heap.size w w':=by
 obtain⟨r,hr⟩:∃ r,r=c_ sr s t:=⟨_,rfl⟩;have hp:=vP 164 _ _ s t w hG (divN w);rw[←hr] at hp ⊢;have HP:=E5 hp;clear hr hp;go_enter Tryz.func112,Tryz.ntmps112;go_wp2_with fail
 refine HP.out.mono ?_;rintro e w2 ⟨rfl,hb2⟩;go_wp2;refine bodyPost_ret (v:=.tuple #[.string r.1,.int .i64 r.2]) (by simp[results,Tryz.results112,go_sem]) rfl ⟨rfl,hb2⟩
theorem kJ (s t:ByteArray) (w:World) (hG:Gw w) :
  Calls Tryz.prog 99 #[.string s,.string t] w fun e w'=>e=.returned (.string (gT s t))∧Below w.heap.size w w':=by
 unfold gT;have HP:=E5 (D7 s t w hG);go_enter Tryz.func99,Tryz.ntmps99;go_wp2_with fail
 refine HP.out.mono ?_;rintro e w2 ⟨rfl,hb2⟩;go_wp2;go_ret;exact⟨rfl,hb2⟩
theorem kK (s t:ByteArray) (w:World) (hG:Gw w) :
  Calls Tryz.prog 90 #[.string s,.string t] w fun e w'=>e=.returned (.string (jv s t))∧Below w.heap.size w w':=by
 unfold jv;have HP:=E5 (Ea s t w hG);go_enter Tryz.func90,Tryz.ntmps90;go_wp2_with fail
 refine HP.out.mono ?_;rintro e w2 ⟨rfl,hb2⟩;go_wp2;go_ret;exact⟨rfl,hb2⟩
theorem eH (s t:ByteArray) (w:World) (hG:Gw w) :
  Calls Tryz.prog 91 #[.string s,.string t] w fun e w'=>e=.returned (.string (dz s t))∧Below w.heap.size w w':=by
 unfold dz;have HP:=E5 (D_ s t w hG);go_enter Tryz.func91,Tryz.ntmps91;go_wp2_with fail
 refine HP.out.mono ?_;rintro e w2 ⟨rfl,hb2⟩;go_wp2;go_ret;exact⟨rfl,hb2⟩
theorem fG (s t:ByteArray) (w:World) (hG:Gw w) :
  Calls Tryz.prog 60 #[.string s,.string t] w fun e w'=>e=.returned (.string (cX s t))∧Below w.heap.size w w':=by
 unfold cX;have HP:=E5 (D9 s t w hG);go_enter Tryz.func60,Tryz.ntmps60;go_wp2_with fail
 refine HP.out.mono ?_;rintro e w2 ⟨rfl,hb2⟩;go_wp2;go_ret;exact⟨rfl,hb2⟩
def cellsOf:Value→List Value
 | .agg a=>a.toList
 | v=>[v]
def cY (es:List Value):List Value:=es.flatMap cellsOf
theorem jG (es:List Value) (x:Value):cY (es++[x])=cY es++cellsOf x:=by simp[cY]
theorem np {k:Nat}:∀ {es:List Value},(∀ e∈es,(cellsOf e).length=k)→(cY es).length=es.length*k
 | [],_=>by simp[cY]
 | e :: es,h=>by
  have h1:=h e (by simp);have h2:=np (es:=es) fun x hx=>h x (by simp[hx]);simp only[cY,G9,Fl,Fv] at h2 ⊢;rw[h1,h2,Ig,Hn]
theorem nn {k:Nat}:∀ {es:List Value}{i j:Nat} (_:∀ e∈es,(cellsOf e).length=k) (hi:i<es.length) (_:j<k),(cY es)[i*k+j]?=(cellsOf es[i])[j]?
 | e :: es,0,j,h,_,hj=>by
  have h1:=h e (by simp);simp only[cY,G9,Gk,F8,E7];rw[Hk (by omega)]
 | e :: es,i+1,j,h,hi,hj=>by
  have h1:=h e (by simp);have h2:=nn (es:=es) (i:=i) (j:=j) (fun x hx=>h x (by simp[hx])) (by simpa using hi) hj;simp only[cY,G9,E8] at h2 ⊢;rw[GX (by rw[h1,Ig];omega),h1,←h2];congr 1;rw[Ig];omega
def vK (w:World) (p:Option Addr) (k:Nat) (es:List Value):Prop :=
 0<es.length→∃ b o,p=some ⟨b,o,none⟩∧b<w.heap.size∧∀ i (h:i<es.length) j u,(cellsOf es[i])[j]?=some u→w.cell? ⟨b,o+i*k+j,none⟩=some u
theorem vK.below {w w':World}{p:Option Addr}{k:Nat}{es:List Value} (h:vK w p k es) (hb:Below w.heap.size w w'):vK w' p k es:=fun hl=>by
 obtain⟨b,o,e,hlt,hc⟩:=h hl;exact⟨b,o,e,Fe hlt hb.size,fun i hi j u hu=>(hb.cell (p:=⟨b,o+i*k+j,none⟩) hlt).trans (hc i hi j u hu)⟩
def b9 (w:World) (k:Nat) (v:Value) (es:List Value):Prop:=∃ p cap,v=.slice p es.length cap∧es.length≤cap∧cap≤maxLen∧vK w p k es
theorem b9.below {w w':World}{k:Nat}{v:Value}{es:List Value} (h:b9 w k v es) (hb:Below w.heap.size w w'):b9 w' k v es:=by
 obtain⟨p,cap,e,h1,h2,h3⟩:=h;exact⟨p,cap,e,h1,h2,h3.below hb⟩
theorem b9.nil (w:World) (k:Nat):b9 w k (.slice none 0 0) []:=⟨none,0,rfl,Fb _,by simp[maxLen],fun h=>by simp at h⟩
theorem eX {w:World}{base:Nat}{T:TypeId}{k:Nat}{v:Value}{es:List Value} (hk:∀ e∈es,(cellsOf e).length=k) (h:w.ownsRow base T k v es.length (cY es)):b9 w k v es:=by
 obtain⟨hlen,h⟩:=h;rcases h with ⟨rfl,h0⟩ | ⟨g,cap,cur,rfl,hg,hh,hn,hm,hs,ht⟩
 ·refine⟨none,0,by rw[h0],by omega,by simp[maxLen],fun hp=>by omega⟩
 ·refine⟨some ⟨g,0,none⟩,cap,rfl,hn,hm,fun _=>⟨g,0,rfl,(Fh.1 hh).1,fun i hi j u hu=>?_⟩⟩
  have hj:j<k:=by
   have:=(F9.1 hu).1
   rwa [hk _ (Fu hi)] at this
  have hb:i*k+j<es.length*k:=by
   have:=Fo k (show i+1≤es.length from hi);rw[Ig] at this;omega
  rw[World.cell?,hh];simp only[F8,FZ,FB,if_false];rw[←GT,←List.getElem?_take_of_lt hb,ht,nn hk hi hj,hu]
def IsS (w:World) (v:Value) (l:List ByteArray):Prop:=b9 w 1 v (l.map .string)
def bE (w:World) (base:Nat) (v:Value) (l:List ByteArray):Prop:=w.ownsRow base 34 1 v l.length (l.map .string)
theorem IsS.below {w w':World}{v:Value}{l:List ByteArray} (h:IsS w v l) (hb:Below w.heap.size w w'):IsS w' v l:=b9.below h hb
theorem kD:∀ l:List ByteArray,cY (l.map .string)=l.map .string
 | []=>rfl
 | s :: l=>by
  have:=kD l;simp only[cY,Gv,G9] at this ⊢;rw[this];rfl
theorem oL (l:List ByteArray):∀ e∈l.map Value.string,(cellsOf e).length=1:=by
 intro e he;obtain⟨s,-,rfl⟩:=G3.1 he;rfl
theorem bE.isS {w:World}{base:Nat}{v:Value}{l:List ByteArray} (h:bE w base v l):IsS w v l:=by
 refine eX (oL l) (T:=34) (base:=base) ?_;rw[Fp,kD];exact h
theorem fR {w w':World}{base:Nat}{T:TypeId}{k:Nat}{v:Value}{n:Nat}{xs:List Value} (h:w.ownsRow base T k v n xs) (hb:Below w.heap.size w w'):w'.ownsRow base T k v n xs:=by
 obtain⟨hlen,h⟩:=h;refine⟨hlen,?_⟩;rcases h with h | ⟨g,cap,cur,rfl,hg,hh,r⟩
 ·exact Or.inl h
 ·exact Or.inr ⟨g,cap,cur,rfl,hg,by rw[hb.block g (Fh.1 hh).1];exact hh,r⟩
theorem bE.below {w w':World}{base:Nat}{v:Value}{l:List ByteArray} (h:bE w base v l) (hb:Below w.heap.size w w'):bE w' base v l:=fR h hb
theorem bE.nil (w:World) (base:Nat):bE w base (.slice none 0 0) []:=World.ownsRow_nil _ _ _ _
theorem IsS.get {w:World}{p:Option Addr}{n c:Nat}{l:List ByteArray} (h:IsS w (.slice p n c) l) {i:Nat} (hi:i<l.length):∃ b o,p=some ⟨b,o,none⟩∧b<w.heap.size∧w.cell? ⟨b,o+i,none⟩=some (.string l[i]):=by
 obtain⟨p',cap,e,h1,h2,h3⟩:=h;obtain⟨rfl,-,-⟩:p=p'∧n=(l.map Value.string).length∧c=cap:=by simpa using e
 obtain⟨b,o,e2,hlt,hc⟩:=h3 (by rw[Fp];omega);refine⟨b,o,e2,hlt,?_⟩;have:=hc i (by rw[Fp];exact hi) 0 (.string l[i]) (by simp[cellsOf]);simpa using this
theorem IsS.form {w:World}{v:Value}{l:List ByteArray} (h:IsS w v l):∃ p c,v=.slice p l.length c∧l.length≤c∧c≤maxLen:=by
 obtain⟨p,c,e,h1,h2,-⟩:=h;rw[Fp] at e h1;exact⟨p,c,e,h1,h2⟩
def IsP (w:World) (v:Value) (zs:List CQ):Prop:=∃ es:List Value,es.length=zs.length∧b9 w 6 v es∧∀ i (h:i<es.length) (h':i<zs.length),IsK w es[i] zs[i]
def qm (w:World) (base:Nat) (v:Value) (zs:List CQ):Prop:=∃ es:List Value,es.length=zs.length∧w.ownsRow base 153 6 v es.length (cY es)∧∀ i (h:i<es.length) (h':i<zs.length),IsK w es[i] zs[i]
theorem IsK.len {w:World}{v:Value}{z:CQ} (h:IsK w v z):(cellsOf v).length=6:=by
 obtain⟨a,b,c,d,e,f,rfl,-⟩:=h.v;rfl
theorem IsK.forms {w:World}{v:Value}{z:CQ} (h:IsK w v z):∃ xm xp xl xc xq xk xd ym yp yl yc yq yk yd,v=.agg #[.bool xm,.slice xp xl xc,.slice xq xk xd,.bool ym,.slice yp yl yc,.slice yq yk yd]:=by
 obtain⟨_,_,_,_,_,_,rfl,hx0,hy0⟩:=h.v;obtain⟨xm,xp,xl,xc,xq,xk,xd,hxe⟩:=hx0.form;obtain⟨ym,yp,yl,yc,yq,yk,yd,hye⟩:=hy0.form;obtain⟨rfl,rfl,rfl⟩:=eh hxe;obtain⟨rfl,rfl,rfl⟩:=eh hye;exact⟨_,_,_,_,_,_,_,_,_,_,_,_,_,_,rfl⟩
theorem kv {w:World}{es:List Value}{zs:List CQ} (hl:es.length=zs.length) (h:∀ i (h:i<es.length) (h':i<zs.length),IsK w es[i] zs[i]):∀ e∈es,(cellsOf e).length=6:=by
 intro e he;obtain⟨i,hi,rfl⟩:=FV he;exact (h i hi (by omega)).len
theorem IsP.below {w w':World}{v:Value}{zs:List CQ} (h:IsP w v zs) (hb:Below w.heap.size w w'):IsP w' v zs:=by
 obtain⟨es,h1,h2,h3⟩:=h;exact⟨es,h1,h2.below hb,fun i hi hi'=>(h3 i hi hi').below hb⟩
theorem qm.below {w w':World}{base:Nat}{v:Value}{zs:List CQ} (h:qm w base v zs) (hb:Below w.heap.size w w'):qm w' base v zs:=by
 obtain⟨es,h1,h2,h3⟩:=h;exact⟨es,h1,fR h2 hb,fun i hi hi'=>(h3 i hi hi').below hb⟩
theorem qm.isP {w:World}{base:Nat}{v:Value}{zs:List CQ} (h:qm w base v zs):IsP w v zs:=by
 obtain⟨es,h1,h2,h3⟩:=h;exact⟨es,h1,eX (kv h1 h3) h2,h3⟩
theorem qm.nil (w:World) (base:Nat):qm w base (.slice none 0 0) []:=⟨[],rfl,World.ownsRow_nil _ _ _ _,fun i h=>by simp at h⟩
theorem IsP.form {w:World}{v:Value}{zs:List CQ} (h:IsP w v zs):∃ p c,v=.slice p zs.length c∧zs.length≤c∧c≤maxLen:=by
 obtain⟨es,h1,⟨p,c,e,h2,h3,-⟩,-⟩:=h;rw[h1] at e h2;exact⟨p,c,e,h2,h3⟩
theorem IsP.get {w:World}{p:Option Addr}{n c:Nat}{zs:List CQ} (h:IsP w (.slice p n c) zs) {i:Nat} (hi:i<zs.length) :
  ∃ B o,p=some ⟨B,o,none⟩∧B<w.heap.size∧∃ xm xp xl xc xq xk xd ym yp yl yc yq yk yd,IsK w (.agg #[.bool xm,.slice xp xl xc,.slice xq xk xd,.bool ym,.slice yp yl yc,.slice yq yk yd]) zs[i] ∧
   w.cell? ⟨B,o+i*6,none⟩=some (.bool xm)∧w.cell? ⟨B,o+i*6+1,none⟩=some (.slice xp xl xc)∧w.cell? ⟨B,o+i*6+2,none⟩=some (.slice xq xk xd) ∧
   w.cell? ⟨B,o+i*6+3,none⟩=some (.bool ym)∧w.cell? ⟨B,o+i*6+4,none⟩=some (.slice yp yl yc)∧w.cell? ⟨B,o+i*6+5,none⟩=some (.slice yq yk yd):=by
 obtain⟨es,h1,⟨p',cap,e,h2,h3,h4⟩,h5⟩:=h;obtain⟨rfl,-,-⟩:p=p'∧n=es.length∧c=cap:=by simpa using e
 obtain⟨b,o,e2,hlt,hc⟩:=h4 (by omega);have hk:=h5 i (by omega) hi;obtain⟨xm,xp,xl,xc,xq,xk,xd,ym,yp,yl,yc,yq,yk,yd,he⟩:=hk.forms;have hc:=hc i (by omega);rw[he] at hk hc;exact⟨b,o,e2,hlt,_,_,_,_,_,_,_,_,_,_,_,_,_,_,hk,hc 0 _ rfl,hc 1 _ rfl,hc 2 _ rfl,hc 3 _ rfl,hc 4 _ rfl,hc 5 _ rfl⟩
end Go.Proofs.YtbnkpcfjechfiaaGreatDoor
