/- L -/
import Derived.Laws.Cover3
import Derived.Test.YtlhpcoelfhjomaaGreatDoorQCoef
set_option linter.all false
set_option maxRecDepth 100000
set_option maxHeartbeats 8000000
namespace Go.Proofs.YtlhpcoelfhjomaaGreatDoor
open Go.RowKit Dg
structure GAt (G:FuncId) (f:CQ->CQ->CQ):Prop where
 en:∀ (args:Array Value) (w:World),(callFunc G args).run Tryz.prog w=.ok (.enter G args) w
 on:∀ (x y:Value) (a b:CQ) (w:World),IsK w x a->IsK w y b->Calls Tryz.prog G #[x,y] w fun e w'=>∃ v,e=.returned v/\IsV w' v (ct (f a b))/\Below w.heap.size w w'
theorem Gm:GAt 112 CQ.add :=
 ⟨cA Tryz.func112 rfl (by kernel_rfl),fun x y a b w ha hb=>by
  rw[<-gF]
  exact yC _ _ _ _ _ ha.v hb.v (ha.s.x.fewR hb.s.x (by decide)) (ha.s.y.fewR hb.s.y (by decide))⟩
theorem Gi:GAt 117 CQ.sub :=
 ⟨cA Tryz.func117 rfl (by kernel_rfl),fun x y a b w ha hb=>by
  rw[<-qi]
  exact Dz _ _ _ _ _ ha.v hb.v (ha.s.x.fewR hb.s.x.neg (by decide)) (ha.s.y.fewR hb.s.y.neg (by decide))⟩
theorem Hk:GAt 116 CQ.mul :=
 ⟨cA Tryz.func116 rfl (by kernel_rfl),fun x y a b w ha hb=>by
  rw[<-dA]
  exact jQ _ _ _ _ _ ha.v hb.v (ha.s.fewV hb.s (by decide))⟩
theorem EF {G:FuncId}{f:CQ->CQ->CQ} (hG:GAt G f) (k:Nat) (w:World) (hc:w.cell? ⟨k,0,none⟩=some (.func (.func G) #[] #[])) (hk:k<w.heap.size) :
  AD 162 #[.pointer (some ⟨k,0,none⟩)] (gS f) w:=by
 refine⟨cA Tryz.func162 rfl (by kernel_rfl),fun x y a b w0 hw ha hb=>?_⟩;have hc0:=(hw.cell (p:=⟨k,0,none⟩) hk).trans hc;have hk0:=Iz hk hw.size;have EN:=hG.en;obtain⟨p1,p2,p3,p4,p5,p6,rfl,hax,hay⟩:=id ha.v;obtain⟨r1,r2,r3,r4,r5,r6,rfl,hbx,hby⟩:=id hb.v
 show Calls _ _ #[_,_,.pointer (some ⟨k,0,none⟩)] _ _
 go_enter Tryz.func162,Tryz.ntmps162;go_upto_region 1 with fail
 have E:=x9 w0 p1 p2 p3 p4 p5 p6 r1 r2 r3 r4 r5 r6;unfold xy at E;generalize ((w0.alloc (.cells #[p1,p2,p3,p4,p5,p6] 93)).alloc (.cells #[r1,r2,r3,r4,r5,r6] 93)).alloc (.cells #[.bool false,.slice none 0 0,.slice none 0 0,.bool false,.slice none 0 0,.slice none 0 0] 93)=w3 at *
 obtain⟨q1,q2,q3,MD⟩:=E;have c0:=(MD.cell (p:=⟨k,0,none⟩) hk0).trans hc0;have HC:=Ip (hG.on _ _ a b w3 (ha.below MD) (hb.below MD));have B3:=Ip q3;have MD:=Ip MD;have a0:=q1.c0;have a1:=q1.c1;have a2:=q1.c2;have a3:=q1.c3;have a4:=q1.c4;have a5:=q1.c5;have b0:=q2.c0;have b1:=q2.c1;have b2:=q2.c2;have b3:=q2.c3;have b4:=q2.c4;have b5:=q2.c5;clear q1 q2 q3 hax hay hbx hby ha hb hc0 hc;go_wp2_with fail
 refine HC.out.mono ?_;rintro e w4 ⟨v4,rfl,hv4,hb4⟩;obtain⟨x1,x2,x3,y1,y2,y3,rfl,hx,hy⟩:=hv4;obtain⟨xm,xp,xl,xc,xq,xk,xd,hxe⟩:=hx.form;obtain⟨ym,yp,yl,yc,yq,yk,yd,hye⟩:=hy.form;obtain⟨rfl,rfl,rfl⟩:=fh hxe;obtain⟨rfl,rfl,rfl⟩:=fh hye;have B8:=B3.out.below hb4;have k0:=B8.cell 0;have k1:=B8.cell 1;have k2:=B8.cell 2;have k3:=B8.cell 3;have k4:=B8.cell 4;have k5:=B8.cell 5;have f0:=B8.fr 0;have f1:=B8.fr 1;have f2:=B8.fr 2;have f3:=B8.fr 3;have f4:=B8.fr 4;have f5:=B8.fr 5;have P:=Ip (B8.putV hx hy);have M8:=Ip (P.out.2.2 _ _ (LK MD.out hb4) (by omega));clear hx hy hxe hye B8;go_wp2_with fail
 have q0:=P.out.1.cell 0;have q1:=P.out.1.cell 1;have q2:=P.out.1.cell 2;have q3:=P.out.1.cell 3;have q4:=P.out.1.cell 4;have q5:=P.out.1.cell 5;refine LM (v:=.tuple #[.agg #[.bool xm,.slice xp xl xc,.slice xq xk xd,.bool ym,.slice yp yl yc,.slice yq yk yd],.int .i64 0]) (by simp[results,Tryz.results162,go_sem,eU] at q0 q1 q2 q3 q4 q5 |-;simp[results,Tryz.results162,go_sem,q0,q1,q2,q3,q4,q5]) rfl ⟨_,_,rfl,P.out.2.1,fun _=>rfl,M8.out⟩
theorem divN (w:World):AD 113 #[] vy w:=by
 refine⟨cA Tryz.func113 rfl (by kernel_rfl),fun x y a b w0 hw ha hb=>?_⟩;obtain⟨p1,p2,p3,p4,p5,p6,rfl,hax,hay⟩:=id ha.v;obtain⟨r1,r2,r3,r4,r5,r6,rfl,hbx,hby⟩:=id hb.v
 show Calls _ _ #[_,_] _ _
 go_enter Tryz.func113,Tryz.ntmps113;go_upto_region 1 with fail
 have E:=x9 w0 p1 p2 p3 p4 p5 p6 r1 r2 r3 r4 r5 r6;unfold xy at E;generalize ((w0.alloc (.cells #[p1,p2,p3,p4,p5,p6] 93)).alloc (.cells #[r1,r2,r3,r4,r5,r6] 93)).alloc (.cells #[.bool false,.slice none 0 0,.slice none 0 0,.bool false,.slice none 0 0,.slice none 0 0] 93)=w3 at *
 obtain⟨q1,q2,q3,MD⟩:=E;have HA:=Ip (ha.below MD);have HB:=Ip (hb.below MD);have HZ:=Ip (EV _ _ _ HB.out.v);have B1:=Ip q1;have B2:=Ip q2;have B3:=Ip q3;have MD:=Ip MD;have a0:=q1.c0;have a1:=q1.c1;have a2:=q1.c2;have a3:=q1.c3;have a4:=q1.c4;have a5:=q1.c5;have b0:=q2.c0;have b1:=q2.c1;have b2:=q2.c2;have b3:=q2.c3;have b4:=q2.c4;have b5:=q2.c5;clear q1 q2 q3 hax hay hbx hby ha hb
 have hiff:((ct b).x.n=0/\(ct b).y.n=0)↔b=⟨0,0⟩:=by
  show ((rt b.re).n=0/\(rt b.im).n=0)↔_
  rw[bB,bB];constructor
  ·rintro⟨h1,h2⟩;cases b;simp only at h1 h2;rw[h1,h2]
  ·intro h;rw[h];exact⟨rfl,rfl⟩
 by_cases hbz:b=⟨0,0⟩
 ·rw[decide_eq_true (hiff.2 hbz)] at HZ;have hd:vy a b=(⟨0,0⟩,12):=if_pos hbz;have HD:=Ip hd;clear hd;go_wp2_with fail
  refine HZ.out.mono ?_;rintro e w4 ⟨rfl,hb4⟩;have B8:=B3.out.below hb4;have k0:=B8.cell 0;have k1:=B8.cell 1;have k2:=B8.cell 2;have k3:=B8.cell 3;have k4:=B8.cell 4;have k5:=B8.cell 5;have f0:=B8.fr 0;have f1:=B8.fr 1;have f2:=B8.fr 2;have f3:=B8.fr 3;have f4:=B8.fr 4;have f5:=B8.fr 5;have P:=Ip (B8.put (a':=.bool false) (b':=.slice none 0 0) (c':=.slice none 0 0) (d':=.bool false) (e':=.slice none 0 0) (f':=.slice none 0 0) nofun nofun nofun nofun nofun nofun);have M8:=Ip (P.out.2.2 _ (LK MD.out hb4) (by omega));clear B8;go_wp2_with fail
  have q0:=P.out.1.cell 0;have q1:=P.out.1.cell 1;have q2:=P.out.1.cell 2;have q3:=P.out.1.cell 3;have q4:=P.out.1.cell 4;have q5:=P.out.1.cell 5;have hn:=Dv;have hf0:Few 0:=h_ (by decide);refine LM (v:=.tuple #[iX,.int .i64 12]) (by simp[results,Tryz.results113,go_sem,eU,iX] at q0 q1 q2 q3 q4 q5 |-;simp[results,Tryz.results113,go_sem,q0,q1,q2,q3,q4,q5]) rfl ⟨_,⟨⟨false,0,0⟩,⟨false,0,0⟩⟩,by rw[HD.out];rfl,⟨_,_,_,_,_,_,rfl,⟨_,_,rfl,hn _,hn _,hf0,hf0⟩,⟨_,_,rfl,hn _,hn _,hf0,hf0⟩⟩,fun h=>by rw[HD.out] at h;simp at h,M8.out⟩
 ·rw[decide_eq_false (fun h=>hbz (hiff.1 h))] at HZ;have hd:vy a b=(a.div b,0):=if_neg hbz;have HD:=Ip hd;clear hd;go_wp2_with fail
  refine HZ.out.mono ?_;rintro e w4 ⟨rfl,hb4⟩;clear a0 a1 a2 a3 a4 a5 b0 b1 b2 b3 b4 b5;have q1:=B1.out.below hb4;have q2:=B2.out.below hb4;have a0:=q1.c0;have a1:=q1.c1;have a2:=q1.c2;have a3:=q1.c3;have a4:=q1.c4;have a5:=q1.c5;have b0:=q2.c0;have b1:=q2.c1;have b2:=q2.c2;have b3:=q2.c3;have b4:=q2.c4;have b5:=q2.c5;clear q1 q2
  have h0:0<(n9 (ct b)).n:=by
   rw[qw];exact JU fun h=>hbz (nA ((bB _).1 h))
  have HC:=Ip (ug _ _ _ _ 10000 10000 w4 (HA.out.v.below hb4) (HB.out.v.below hb4) HA.out.s HB.out.s h0 (by decide));rw[kz hbz] at HC;go_wp2_with fail
  refine HC.out.mono ?_;rintro e w5 ⟨v5,rfl,hv5,hb5⟩;have hB5:=LK hb4 hb5;obtain⟨x1,x2,x3,y1,y2,y3,rfl,hx,hy⟩:=hv5;obtain⟨xm,xp,xl,xc,xq,xk,xd,hxe⟩:=hx.form;obtain⟨ym,yp,yl,yc,yq,yk,yd,hye⟩:=hy.form;obtain⟨rfl,rfl,rfl⟩:=fh hxe;obtain⟨rfl,rfl,rfl⟩:=fh hye;have B8:=B3.out.below hB5;have k0:=B8.cell 0;have k1:=B8.cell 1;have k2:=B8.cell 2;have k3:=B8.cell 3;have k4:=B8.cell 4;have k5:=B8.cell 5;have f0:=B8.fr 0;have f1:=B8.fr 1;have f2:=B8.fr 2;have f3:=B8.fr 3;have f4:=B8.fr 4;have f5:=B8.fr 5;have P:=Ip (B8.putV hx hy);have M8:=Ip (P.out.2.2 _ _ (LK MD.out hB5) (by omega));clear hx hy hxe hye B8;go_wp2_with fail
  have q0:=P.out.1.cell 0;have q1:=P.out.1.cell 1;have q2:=P.out.1.cell 2;have q3:=P.out.1.cell 3;have q4:=P.out.1.cell 4;have q5:=P.out.1.cell 5;refine LM (v:=.tuple #[.agg #[.bool xm,.slice xp xl xc,.slice xq xk xd,.bool ym,.slice yp yl yc,.slice yq yk yd],.int .i64 0]) (by simp[results,Tryz.results113,go_sem,eU] at q0 q1 q2 q3 q4 q5 |-;simp[results,Tryz.results113,go_sem,q0,q1,q2,q3,q4,q5]) rfl ⟨_,_,by rw[HD.out],P.out.2.1,fun _=>by rw[HD.out],M8.out⟩
theorem EE (G:FuncId) (w:World) :
  Calls Tryz.prog 111 #[.func (.func G) #[] #[]] w fun e w'=>∃ k,e=.returned (.func (.func 162) #[] #[.pointer (some ⟨k,0,none⟩)])/\k<w'.heap.size/\w'.cell? ⟨k,0,none⟩=some (.func (.func G) #[] #[])/\Below w.heap.size w w':=by
 go_enter Tryz.func111,Tryz.ntmps111;go_wp2;go_ret;exact⟨_,rfl,by rw[size_alloc];omega,aI _ _ _ _ _ rfl,aj _ _⟩
theorem G5 (s t:ByteArray) (w:World) (hG:Gw w) :
  Calls Tryz.prog 66 #[.string s,.string t] w fun e w'=>e=.returned (.tuple #[.string (dI (gS CQ.add) s t).1,.int .i64 (dI (gS CQ.add) s t).2])/\Below w.heap.size w w':=by
 obtain⟨r,hr⟩:∃ r,r=dI (gS CQ.add) s t:=⟨_,rfl⟩;rw[<-hr];have HR:=Ip hr;clear hr;go_enter Tryz.func66,Tryz.ntmps66;go_wp2_with fail
 refine (EE _ w).mono ?_;rintro e w1 ⟨k,rfl,hk,hc,hb1⟩;have hp:=zp 162 _ _ s t w1 (hG.below hb1) (EF Gm k w1 hc hk);rw[<-HR.out] at hp;go_wp2_with fail
 refine hp.mono ?_;clear hp;rintro e w2 ⟨rfl,hb2⟩;go_wp2;refine LM (v:=.tuple #[.string r.1,.int .i64 r.2]) (by simp[results,Tryz.results66,go_sem]) rfl ⟨rfl,LK hb1 hb2⟩
theorem G9 (s t:ByteArray) (w:World) (hG:Gw w) :
  Calls Tryz.prog 69 #[.string s,.string t] w fun e w'=>e=.returned (.tuple #[.string (dI (gS CQ.sub) s t).1,.int .i64 (dI (gS CQ.sub) s t).2])/\Below w.heap.size w w':=by
 obtain⟨r,hr⟩:∃ r,r=dI (gS CQ.sub) s t:=⟨_,rfl⟩;rw[<-hr];have HR:=Ip hr;clear hr;go_enter Tryz.func69,Tryz.ntmps69;go_wp2_with fail
 refine (EE _ w).mono ?_;rintro e w1 ⟨k,rfl,hk,hc,hb1⟩;have hp:=zp 162 _ _ s t w1 (hG.below hb1) (EF Gi k w1 hc hk);rw[<-HR.out] at hp;go_wp2_with fail
 refine hp.mono ?_;clear hp;rintro e w2 ⟨rfl,hb2⟩;go_wp2;refine LM (v:=.tuple #[.string r.1,.int .i64 r.2]) (by simp[results,Tryz.results69,go_sem]) rfl ⟨rfl,LK hb1 hb2⟩
theorem G8 (s t:ByteArray) (w:World) (hG:Gw w) :
  Calls Tryz.prog 68 #[.string s,.string t] w fun e w'=>e=.returned (.tuple #[.string (dI (gS CQ.mul) s t).1,.int .i64 (dI (gS CQ.mul) s t).2])/\Below w.heap.size w w':=by
 obtain⟨r,hr⟩:∃ r,r=dI (gS CQ.mul) s t:=⟨_,rfl⟩;rw[<-hr];have HR:=Ip hr;clear hr;go_enter Tryz.func68,Tryz.ntmps68;go_wp2_with fail
 refine (EE _ w).mono ?_;rintro e w1 ⟨k,rfl,hk,hc,hb1⟩;have hp:=zp 162 _ _ s t w1 (hG.below hb1) (EF Hk k w1 hc hk);rw[<-HR.out] at hp;go_wp2_with fail
 refine hp.mono ?_;clear hp;rintro e w2 ⟨rfl,hb2⟩;go_wp2;refine LM (v:=.tuple #[.string r.1,.int .i64 r.2]) (by simp[results,Tryz.results68,go_sem]) rfl ⟨rfl,LK hb1 hb2⟩
theorem G7 (s t:ByteArray) (w:World) (hG:Gw w) :
  Calls Tryz.prog 67 #[.string s,.string t] w fun e w'=>e=.returned (.tuple #[.string (dI vy s t).1,.int .i64 (dI vy s t).2])/\Below w.heap.size w w':=by
 obtain⟨r,hr⟩:∃ r,r=dI vy s t:=⟨_,rfl⟩;have hp:=zp 113 _ _ s t w hG (divN w);rw[<-hr] at hp |-;have HP:=Ip hp;clear hr hp;go_enter Tryz.func67,Tryz.ntmps67;go_wp2_with fail
 refine HP.out.mono ?_;rintro e w2 ⟨rfl,hb2⟩;go_wp2;refine LM (v:=.tuple #[.string r.1,.int .i64 r.2]) (by simp[results,Tryz.results67,go_sem]) rfl ⟨rfl,hb2⟩
theorem mv (s t:ByteArray) (w:World) (hG:Gw w) :
  Calls Tryz.prog 28 #[.string s,.string t] w fun e w'=>e=.returned (.string (iH s t))/\Below w.heap.size w w':=by
 unfold iH;have HP:=Ip (G5 s t w hG);go_enter Tryz.func28,Tryz.ntmps28;go_wp2_with fail
 refine HP.out.mono ?_;rintro e w2 ⟨rfl,hb2⟩;go_wp2;go_ret;exact⟨rfl,hb2⟩
theorem mC (s t:ByteArray) (w:World) (hG:Gw w) :
  Calls Tryz.prog 31 #[.string s,.string t] w fun e w'=>e=.returned (.string (iY s t))/\Below w.heap.size w w':=by
 unfold iY;have HP:=Ip (G9 s t w hG);go_enter Tryz.func31,Tryz.ntmps31;go_wp2_with fail
 refine HP.out.mono ?_;rintro e w2 ⟨rfl,hb2⟩;go_wp2;go_ret;exact⟨rfl,hb2⟩
theorem gp (s t:ByteArray) (w:World) (hG:Gw w) :
  Calls Tryz.prog 30 #[.string s,.string t] w fun e w'=>e=.returned (.string (d_ s t))/\Below w.heap.size w w':=by
 unfold d_;have HP:=Ip (G8 s t w hG);go_enter Tryz.func30,Tryz.ntmps30;go_wp2_with fail
 refine HP.out.mono ?_;rintro e w2 ⟨rfl,hb2⟩;go_wp2;go_ret;exact⟨rfl,hb2⟩
theorem gT (s t:ByteArray) (w:World) (hG:Gw w) :
  Calls Tryz.prog 29 #[.string s,.string t] w fun e w'=>e=.returned (.string (dw s t))/\Below w.heap.size w w':=by
 unfold dw;have HP:=Ip (G7 s t w hG);go_enter Tryz.func29,Tryz.ntmps29;go_wp2_with fail
 refine HP.out.mono ?_;rintro e w2 ⟨rfl,hb2⟩;go_wp2;go_ret;exact⟨rfl,hb2⟩
def cellsOf:Value->List Value
 | .agg a=>a.toList
 | v=>[v]
def fM (es:List Value):List Value:=es.flatMap cellsOf
theorem kS (es:List Value) (x:Value):fM (es++[x])=fM es++cellsOf x:=by simp[fM]
theorem pQ {k:Nat}:∀ {es:List Value},(∀ e∈es,(cellsOf e).length=k)->(fM es).length=es.length*k
 | [],_=>by simp[fM]
 | e :: es,h=>by
  have h1:=h e (by simp);have h2:=pQ (es:=es) fun x hx=>h x (by simp[hx]);simp only[fM,Kq,IG,IT] at h2 |-;rw[h1,h2,Lm,KQ]
theorem pP {k:Nat}:∀ {es:List Value}{i j:Nat} (_:∀ e∈es,(cellsOf e).length=k) (hi:i<es.length) (_:j<k),(fM es)[i*k+j]?=(cellsOf es[i])[j]?
 | e :: es,0,j,h,_,hj=>by
  have h1:=h e (by simp);simp only[fM,Kq,JE,Jk,Ir];rw[KK (by omega)]
 | e :: es,i+1,j,h,hi,hj=>by
  have h1:=h e (by simp);have h2:=pP (es:=es) (i:=i) (j:=j) (fun x hx=>h x (by simp[hx])) (by simpa using hi) hj;simp only[fM,Kq,Is] at h2 |-;rw[Kf (by rw[h1,Lm];omega),h1,<-h2];congr 1;rw[Lm];omega
def zh (w:World) (p:Option Addr) (k:Nat) (es:List Value):Prop :=
 0<es.length->∃ b o,p=some ⟨b,o,none⟩/\b<w.heap.size/\∀ i (h:i<es.length) j u,(cellsOf es[i])[j]?=some u->w.cell? ⟨b,o+i*k+j,none⟩=some u
theorem zh.below {w w':World}{p:Option Addr}{k:Nat}{es:List Value} (h:zh w p k es) (hb:Below w.heap.size w w'):zh w' p k es:=fun hl=>by
 obtain⟨b,o,e,hlt,hc⟩:=h hl;exact⟨b,o,e,Iz hlt hb.size,fun i hi j u hu=>(hb.cell (p:=⟨b,o+i*k+j,none⟩) hlt).trans (hc i hi j u hu)⟩
def gy (w:World) (k:Nat) (v:Value) (es:List Value):Prop:=∃ p cap,v=.slice p es.length cap/\es.length<=cap/\cap<=maxLen/\zh w p k es
theorem gy.below {w w':World}{k:Nat}{v:Value}{es:List Value} (h:gy w k v es) (hb:Below w.heap.size w w'):gy w' k v es:=by
 obtain⟨p,cap,e,h1,h2,h3⟩:=h;exact⟨p,cap,e,h1,h2,h3.below hb⟩
theorem gy.nil (w:World) (k:Nat):gy w k (.slice none 0 0) []:=⟨none,0,rfl,Iw _,by simp[maxLen],fun h=>by simp at h⟩
theorem fX {w:World}{base:Nat}{T:TypeId}{k:Nat}{v:Value}{es:List Value} (hk:∀ e∈es,(cellsOf e).length=k) (h:w.ownsRow base T k v es.length (fM es)):gy w k v es:=by
 obtain⟨hlen,h⟩:=h;rcases h with ⟨rfl,h0⟩ | ⟨g,cap,cur,rfl,hg,hh,hn,hm,hs,ht⟩
 ·refine⟨none,0,by rw[h0],by omega,by simp[maxLen],fun hp=>by omega⟩
 ·refine⟨some ⟨g,0,none⟩,cap,rfl,hn,hm,fun _=>⟨g,0,rfl,(ID.1 hh).1,fun i hi j u hu=>?_⟩⟩
  have hj:j<k:=by
   have:=(Js.1 hu).1
   rwa [hk _ (IS hi)] at this
  have hb:i*k+j<es.length*k:=by
   have:=IJ k (show i+1<=es.length from hi);rw[Lm] at this;omega
  rw[World.cell?,hh];simp only[Jk,Jl,IW,if_false];rw[<-Kb,<-List.getElem?_take_of_lt hb,ht,pP hk hi hj,hu]
def IsS (w:World) (v:Value) (l:List ByteArray):Prop:=gy w 1 v (l.map .string)
def dh (w:World) (base:Nat) (v:Value) (l:List ByteArray):Prop:=w.ownsRow base 25 1 v l.length (l.map .string)
theorem IsS.below {w w':World}{v:Value}{l:List ByteArray} (h:IsS w v l) (hb:Below w.heap.size w w'):IsS w' v l:=gy.below h hb
theorem mh:∀ l:List ByteArray,fM (l.map .string)=l.map .string
 | []=>rfl
 | s :: l=>by
  have:=mh l;simp only[fM,K9,Kq] at this |-;rw[this];rfl
theorem rI (l:List ByteArray):∀ e∈l.map Value.string,(cellsOf e).length=1:=by
 intro e he;obtain⟨s,-,rfl⟩:=Kv.1 he;rfl
theorem dh.isS {w:World}{base:Nat}{v:Value}{l:List ByteArray} (h:dh w base v l):IsS w v l:=by
 refine fX (rI l) (T:=25) (base:=base) ?_;rw[IX,mh];exact h
theorem fU {w w':World}{base:Nat}{T:TypeId}{k:Nat}{v:Value}{n:Nat}{xs:List Value} (h:w.ownsRow base T k v n xs) (hb:Below w.heap.size w w'):w'.ownsRow base T k v n xs:=by
 obtain⟨hlen,h⟩:=h;refine⟨hlen,?_⟩;rcases h with h | ⟨g,cap,cur,rfl,hg,hh,r⟩
 ·exact Or.inl h
 ·exact Or.inr ⟨g,cap,cur,rfl,hg,by rw[hb.block g (ID.1 hh).1];exact hh,r⟩
theorem dh.below {w w':World}{base:Nat}{v:Value}{l:List ByteArray} (h:dh w base v l) (hb:Below w.heap.size w w'):dh w' base v l:=fU h hb
theorem dh.nil (w:World) (base:Nat):dh w base (.slice none 0 0) []:=World.ownsRow_nil _ _ _ _
theorem IsS.get {w:World}{p:Option Addr}{n c:Nat}{l:List ByteArray} (h:IsS w (.slice p n c) l) {i:Nat} (hi:i<l.length):∃ b o,p=some ⟨b,o,none⟩/\b<w.heap.size/\w.cell? ⟨b,o+i,none⟩=some (.string l[i]):=by
 obtain⟨p',cap,e,h1,h2,h3⟩:=h;obtain⟨rfl,-,-⟩:p=p'/\n=(l.map Value.string).length/\c=cap:=by simpa using e
 obtain⟨b,o,e2,hlt,hc⟩:=h3 (by rw[IX];omega);refine⟨b,o,e2,hlt,?_⟩;have:=hc i (by rw[IX];exact hi) 0 (.string l[i]) (by simp[cellsOf]);simpa using this
theorem IsS.form {w:World}{v:Value}{l:List ByteArray} (h:IsS w v l):∃ p c,v=.slice p l.length c/\l.length<=c/\c<=maxLen:=by
 obtain⟨p,c,e,h1,h2,-⟩:=h;rw[IX] at e h1;exact⟨p,c,e,h1,h2⟩
def IsP (w:World) (v:Value) (zs:List CQ):Prop:=∃ es:List Value,es.length=zs.length/\gy w 6 v es/\∀ i (h:i<es.length) (h':i<zs.length),IsK w es[i] zs[i]
def rD (w:World) (base:Nat) (v:Value) (zs:List CQ):Prop:=∃ es:List Value,es.length=zs.length/\w.ownsRow base 93 6 v es.length (fM es)/\∀ i (h:i<es.length) (h':i<zs.length),IsK w es[i] zs[i]
theorem IsK.len {w:World}{v:Value}{z:CQ} (h:IsK w v z):(cellsOf v).length=6:=by
 obtain⟨a,b,c,d,e,f,rfl,-⟩:=h.v;rfl
theorem IsK.forms {w:World}{v:Value}{z:CQ} (h:IsK w v z):∃ xm xp xl xc xq xk xd ym yp yl yc yq yk yd,v=.agg #[.bool xm,.slice xp xl xc,.slice xq xk xd,.bool ym,.slice yp yl yc,.slice yq yk yd]:=by
 obtain⟨_,_,_,_,_,_,rfl,hx0,hy0⟩:=h.v;obtain⟨xm,xp,xl,xc,xq,xk,xd,hxe⟩:=hx0.form;obtain⟨ym,yp,yl,yc,yq,yk,yd,hye⟩:=hy0.form;obtain⟨rfl,rfl,rfl⟩:=fh hxe;obtain⟨rfl,rfl,rfl⟩:=fh hye;exact⟨_,_,_,_,_,_,_,_,_,_,_,_,_,_,rfl⟩
theorem l5 {w:World}{es:List Value}{zs:List CQ} (hl:es.length=zs.length) (h:∀ i (h:i<es.length) (h':i<zs.length),IsK w es[i] zs[i]):∀ e∈es,(cellsOf e).length=6:=by
 intro e he;obtain⟨i,hi,rfl⟩:=Jq he;exact (h i hi (by omega)).len
theorem IsP.below {w w':World}{v:Value}{zs:List CQ} (h:IsP w v zs) (hb:Below w.heap.size w w'):IsP w' v zs:=by
 obtain⟨es,h1,h2,h3⟩:=h;exact⟨es,h1,h2.below hb,fun i hi hi'=>(h3 i hi hi').below hb⟩
theorem rD.below {w w':World}{base:Nat}{v:Value}{zs:List CQ} (h:rD w base v zs) (hb:Below w.heap.size w w'):rD w' base v zs:=by
 obtain⟨es,h1,h2,h3⟩:=h;exact⟨es,h1,fU h2 hb,fun i hi hi'=>(h3 i hi hi').below hb⟩
theorem rD.isP {w:World}{base:Nat}{v:Value}{zs:List CQ} (h:rD w base v zs):IsP w v zs:=by
 obtain⟨es,h1,h2,h3⟩:=h;exact⟨es,h1,fX (l5 h1 h3) h2,h3⟩
theorem rD.nil (w:World) (base:Nat):rD w base (.slice none 0 0) []:=⟨[],rfl,World.ownsRow_nil _ _ _ _,fun i h=>by simp at h⟩
theorem IsP.nil (w:World):IsP w (.slice none 0 0) []:=(rD.nil w 0).isP
theorem IsP.form {w:World}{v:Value}{zs:List CQ} (h:IsP w v zs):∃ p c,v=.slice p zs.length c/\zs.length<=c/\c<=maxLen:=by
 obtain⟨es,h1,⟨p,c,e,h2,h3,-⟩,-⟩:=h;rw[h1] at e h2;exact⟨p,c,e,h2,h3⟩
theorem IsP.get {w:World}{p:Option Addr}{n c:Nat}{zs:List CQ} (h:IsP w (.slice p n c) zs) {i:Nat} (hi:i<zs.length) :
  ∃ B o,p=some ⟨B,o,none⟩/\B<w.heap.size/\∃ xm xp xl xc xq xk xd ym yp yl yc yq yk yd,IsK w (.agg #[.bool xm,.slice xp xl xc,.slice xq xk xd,.bool ym,.slice yp yl yc,.slice yq yk yd]) zs[i] /\
   w.cell? ⟨B,o+i*6,none⟩=some (.bool xm)/\w.cell? ⟨B,o+i*6+1,none⟩=some (.slice xp xl xc)/\w.cell? ⟨B,o+i*6+2,none⟩=some (.slice xq xk xd) /\
   w.cell? ⟨B,o+i*6+3,none⟩=some (.bool ym)/\w.cell? ⟨B,o+i*6+4,none⟩=some (.slice yp yl yc)/\w.cell? ⟨B,o+i*6+5,none⟩=some (.slice yq yk yd):=by
 obtain⟨es,h1,⟨p',cap,e,h2,h3,h4⟩,h5⟩:=h;obtain⟨rfl,-,-⟩:p=p'/\n=es.length/\c=cap:=by simpa using e
 obtain⟨b,o,e2,hlt,hc⟩:=h4 (by omega);have hk:=h5 i (by omega) hi;obtain⟨xm,xp,xl,xc,xq,xk,xd,ym,yp,yl,yc,yq,yk,yd,he⟩:=hk.forms;have hc:=hc i (by omega);rw[he] at hk hc;exact⟨b,o,e2,hlt,_,_,_,_,_,_,_,_,_,_,_,_,_,_,hk,hc 0 _ rfl,hc 1 _ rfl,hc 2 _ rfl,hc 3 _ rfl,hc 4 _ rfl,hc 5 _ rfl⟩
def tw (u:Value):Prop:=∀ z,u≠.int .u64 z
def NoU (w:World) (v:Value):Prop:=∀ g,v.ownBlock=some g->∀ j z,w.cell? ⟨g,j,none⟩≠some (.int .u64 z)
theorem Ay {zs:Array Value}{n:Nat} (h:∀ u∈zs,tw u):∀ u∈Builtin.zeroCells zs n,tw u:=by
 intro u hu;unfold Builtin.zeroCells at hu;obtain⟨i,hi,rfl⟩:=Array.mem_map.1 hu;have hi2:i<n*zs.size:=by simpa using hi
 have hp:0<zs.size:=by
  rcases Jd zs.size with h0 | h0
  ·rw[h0] at hi2;simp at hi2
  ·exact h0
 have hm:=Jw i hp;rw[getElem!_pos zs (i % zs.size) hm];exact h _ (Lv hm)
theorem sF {w:World}{cs:Array Value}{e:TypeId}{n c:Nat} (h:∀ u∈cs,tw u):NoU (w.alloc (.cells cs e)) (.slice (some ⟨w.heap.size,0,none⟩) n c):=by
 intro g hg j z hc;simp only[Value.ownBlock,Option.some.injEq] at hg;subst hg;rw[World.cell?,heap_alloc_new] at hc;simp only[Jl,IW,if_false] at hc;exact h _ (Jm hc) z rfl
section
variable {P : Program} (w : World)
theorem uv (base:Nat) (t ty e:TypeId) (i:TypeInfo) (z:Value) (size bytes:Nat) (ht:P.underlying t=some (.slice e)) (hi:P.info? e=some i) (hz:i.zero=some z)
  (hsize:i.size=size) (hby:i.bytes=bytes) (hzs:z.cells.size=size) (hsz:0<size) (hzn:∀ u∈z.cells,tw u)
  (v:Value) (n:Nat) (xs:List Value) (hown:w.ownsRow base e size v n xs) (hnu:NoU w v)
  (a:Addr) (c:Nat) (news:List Value) (hl:news.length=size) (hnews:∀ j u,news[j]?=some u->w.cell? (a.add j)=some u) (h1:∀ u∈news,u.oneCell'=true) (hn1:∀ u∈news,tw u)
  (h63:n+1<=maxLen) (hbytes:(n+1)*bytes<=140737488355328) (hbase:base<=w.heap.size) :
  ∃ v' w',(Builtin.append_ #[t,t] ty #[v,.slice (some a) 1 c]).run P w=.ok v' w'/\w'.ownsRow base e size v' (n+1) (xs++news)/\w.grownBy w' v.ownBlock/\NoU w' v':=by
 obtain⟨v',w',hr,h2,h3,-⟩:=run_append_own (P:=P) w base t ty e i z size bytes ht hi hz hsize hby hzs hsz v n xs hown a 1 c news (by omega) hnews h1 h63 hbytes hbase;refine⟨v',w',hr,h2,h3,?_⟩;have hsmall:n+1<=9223372036854775807:=by simp only[maxLen] at h63;omega
 subst hsize;subst hby;rcases hown.2 with ⟨rfl,rfl⟩ | ⟨g,cap,cur,rfl,hbg,hg,hnc,hcm,hcs,htake⟩
 ·have hr':=run_append_nil (P:=P) w t ty e i z ht hi hz a 1 c news (by omega) hnews (by omega) (by omega) (by omega);rw[hr'] at hr
  cases hr
  exact sF (w:=w.drew) fun u hu=>by
   rcases Kg.1 hu with h | h
   ·exact hn1 u (by simpa using h)
   ·exact Ay hzn u h
 ·by_cases hroom:n+1<=cap
  ·have hfit:n*i.size+news.length<=cur.size:=by rw[hl,hcs,<-Lm];exact IJ _ hroom
   have hr':=run_append_room (P:=P) w t ty e i ht hi g n cap cur hg a 1 c news (by omega) hnews h1 hroom hfit;rw[hr'] at hr
   cases hr
   intro g' hg' j y hc;simp only[Value.ownBlock,Option.some.injEq] at hg';subst hg';rw[World.cell?,setRow_heap w g cur _ e _ hg] at hc;simp only[Jl,IW,if_false] at hc;have hm:=Jm hc
   have old:∀ u∈cur.toList,tw u:=fun u hu z' h'=>by
    obtain⟨k,hk,he⟩:=Jq hu;refine hnu g rfl k z' ?_;rw[World.cell?,hg];simp only[Jl,IW,if_false];rw[JQ (by simpa using hk),<-h',<-he];simp
   simp only[List.mem_toArray,Jo] at hm;rcases hm with (h | h) | h
   ·exact old _ (J4 h) y rfl
   ·exact hn1 _ h y rfl
   ·exact old _ (JB h) y rfl
  ·have holds:∀ j u,xs[j]?=some u->w.cell? ((⟨g,0,none⟩:Addr).add j)=some u:=hown.cells (g:=g) rfl;have hr':=run_append_grow (P:=P) w t ty e i z ht hi hz ⟨g,0,none⟩ n cap xs hown.1 holds a 1 c news (by omega) hnews (by omega) (by omega) (growslice_fits (by omega) hbytes);rw[hr'] at hr
   cases hr
   exact sF (w:=w.drew) fun u hu=>by
    rcases Kg.1 hu with h | h
    ·rcases Kg.1 h with h | h
     ·intro z' h';obtain⟨k,hk,he⟩:=Jq (show u∈xs by simpa using h);have:=holds k u (by rw[II hk,he]);have ha:(⟨g,0,none⟩:Addr).add k=⟨g,k,none⟩:=by unfold Addr.add;split<;>simp_all
      rw[ha,h'] at this;exact hnu g rfl k z' this
     ·exact hn1 u (by simpa using h)
    ·exact Ay hzn u h
theorem gP {ops:Array Oper}{rest:List Oper}{o:Oper}{a:Act}{Q:Exit->Act->World->Prop} (hgd:o.guard=none) (s x:Operand) (t:TypeId)
  (ho:o.op=.call { callee:=.builtin .append,args:=#[s,x],argTypes:=#[t,t] })
  (base:Nat) (e:TypeId) (i:TypeInfo) (z:Value) (size bytes:Nat) (ht:P.underlying t=some (.slice e)) (hi:P.info? e=some i) (hz:i.zero=some z)
  (hsize:i.size=size) (hby:i.bytes=bytes) (hzs:z.cells.size=size) (hsz:0<size) (hzn:∀ u∈z.cells,tw u)
  (v:Value) (n:Nat) (xs:List Value) (hs:a.eval s=v) (hown:w.ownsRow base e size v n xs) (hnu:NoU w v)
  (ad:Addr) (c:Nat) (news:List Value) (hx:a.eval x=.slice (some ad) 1 c) (hl:news.length=size) (hnews:∀ j u,news[j]?=some u->w.cell? (ad.add j)=some u) (h1:∀ u∈news,u.oneCell'=true) (hn1:∀ u∈news,tw u)
  (h63:n+1<=maxLen) (hbytes:(n+1)*bytes<=140737488355328) (hbase:base<=w.heap.size)
  (h:∀ v' w',w'.ownsRow base e size v' (n+1) (xs++news)->w.grownBy w' v.ownBlock->NoU w' v'->wpList P ops Q rest (a.put o.dst v') w'):wpList P ops Q (o :: rest) a w:=by
 refine wpList_plain hgd fun K hK=>?_;obtain⟨v',w',hr,h2,h3,h4⟩:=uv (P:=P) w base t o.type e i z size bytes ht hi hz hsize hby hzs hsz hzn v n xs hown hnu ad c news hl hnews h1 hn1 h63 hbytes hbase;unfold Oper.wp execOp;simp only[ho,resolve,invoke,builtin,Sem.run_bind,Sem.run_pure,Result.andThen_ok,Lc,K9,Lz,hs,hx,hr];exact hK _ _ (h v' w' h2 h3 h4)
end
theorem IsU.grown {w w':World}{u v:Value}{l:List Nat} (h:IsU w u l) (hnu:NoU w v) (hg:w.grownBy w' v.ownBlock):IsU w' u l:=by
 obtain⟨p,cap,e,h1,h2,h3⟩:=h;refine⟨p,cap,e,h1,h2,fun hl=>?_⟩;obtain⟨b,o,e2,hlt,hc⟩:=h3 hl;have hne:some b≠v.ownBlock:=fun e3=>hnu b e3.symm (o+0) _ (hc 0 hl);exact⟨b,o,e2,Iz hlt hg.size,fun j hj=>hg.cell (hc j hj) hne⟩
theorem IsR.keepU {w w':World}{v:Value}{r:Rt} (h:IsR w v r) (hk:∀ u l,IsU w u l->IsU w' u l):IsR w' v r:=by
 obtain⟨n,d,e,h1,h2,h3,h4⟩:=h;exact⟨n,d,e,hk _ _ h1,hk _ _ h2,h3,h4⟩
theorem IsV.keepU {w w':World}{v:Value}{z:Vl} (h:IsV w v z) (hk:∀ u l,IsU w u l->IsU w' u l):IsV w' v z:=by
 obtain⟨a,b,c,d,e,f,e1,h1,h2⟩:=h;exact⟨a,b,c,d,e,f,e1,h1.keepU hk,h2.keepU hk⟩
theorem IsK.keepU {w w':World}{v:Value}{z:CQ} (h:IsK w v z) (hk:∀ u l,IsU w u l->IsU w' u l):IsK w' v z:=⟨h.v.keepU hk,h.s⟩
theorem Dn:(Tryz.prog.info? 93).map (fun i=>(i.zero,i.size,i.bytes))=some (some (.agg #[.bool false,.slice none 0 0,.slice none 0 0,.bool false,.slice none 0 0,.slice none 0 0]),6,112):=by kernel_rfl
theorem Ia:(Tryz.prog.info? 89).map (fun i=>(i.zero,i.size,i.bytes))=some (some (.agg #[.bool false,.slice none 0 0,.slice none 0 0]),3,56):=by kernel_rfl
theorem Dm:(Tryz.prog.info? 25).map (fun i=>(i.zero,i.size,i.bytes))=some (some (.string ⟨#[]⟩),1,16):=by kernel_rfl
structure ej (w:World) (base:Nat) (v:Value) (zs:List CQ):Prop where
 p:rD w base v zs
 nu:NoU w v
theorem NoU.below {w w':World}{v:Value}{base:Nat}{T:TypeId}{k n:Nat}{xs:List Value} (h:NoU w v) (ho:w.ownsRow base T k v n xs) (hb:Below w.heap.size w w'):NoU w' v:=by
 intro g hg j z hc;rw[hb.cell (p:=⟨g,j,none⟩) (ho.lt g hg).2] at hc;exact h g hg j z hc
theorem ej.below {w w':World}{base:Nat}{v:Value}{zs:List CQ} (h:ej w base v zs) (hb:Below w.heap.size w w'):ej w' base v zs:=by
 obtain⟨es,h1,h2,h3⟩:=h.p;exact⟨h.p.below hb,h.nu.below h2 hb⟩
theorem ej.nil (w:World) (base:Nat):ej w base (.slice none 0 0) []:=⟨rD.nil w base,fun g hg=>by cases hg⟩
theorem ej.isP {w:World}{base:Nat}{v:Value}{zs:List CQ} (h:ej w base v zs):IsP w v zs:=h.p.isP
theorem uR (w:World) (a b c d e f:Value) (T:TypeId):∀ (j:Nat) (u:Value),[a,b,c,d,e,f][j]?=some u->(w.alloc (.cells #[a,b,c,d,e,f] T)).cell? ((⟨w.heap.size,0,none⟩:Addr).add j)=some u:=by
 intro j u hj;have ha:(⟨w.heap.size,0,none⟩:Addr).add j=⟨w.heap.size,j,none⟩:=by unfold Addr.add;split<;>simp_all
 rw[ha];exact aI w _ T j u (by simpa using hj)
theorem fg {w:World}{ops:Array Oper}{rest:List Oper}{o:Oper}{act:Act}{Q:Exit->Act->World->Prop} (T:TypeId)
  (hT:Tryz.prog.underlying T=some (.slice 93)) (hgd:o.guard=none) (s x:Operand)
  (ho:o.op=.call { callee:=.builtin .append,args:=#[s,x],argTypes:=#[T,T] })
  (base:Nat) (v:Value) (zs:List CQ) (a b c d e f:Value) (z:CQ) (hs:act.eval s=v) (hown:ej w base v zs) (hk:IsK w (.agg #[a,b,c,d,e,f]) z)
  (hx:act.eval x=.slice (some ⟨w.heap.size,0,none⟩) 1 1) (hlen:zs.length<1000000000) (hbase:base<=w.heap.size)
  (h:∀ v' w',ej w' base v' (zs++[z])->(∀ B w0,Below B w0 w->B<=base->Below B w0 w')->(∀ u l,IsU w u l->IsU w' u l)->wpList Tryz.prog ops Q rest (act.put o.dst v') w') :
  wpList Tryz.prog ops Q (o :: rest) act (w.alloc (.cells #[a,b,c,d,e,f] 93)):=by
 obtain⟨es,h1,h2,h3⟩:=hown.p;obtain⟨i0,hi,hz0,hz1,hz2⟩:=info_parts Dn;have hb:=aj w (.cells #[a,b,c,d,e,f] 93);obtain⟨xm,xp,xl,xc,xq,xk,xd,ym,yp,yl,yc,yq,yk,yd,he⟩:=hk.forms;obtain⟨rfl,rfl,rfl,rfl,rfl,rfl⟩:a=.bool xm/\b=.slice xp xl xc/\c=.slice xq xk xd/\d=.bool ym/\e=.slice yp yl yc/\f=.slice yq yk yd:=by simpa using he
 have hnu:=hown.nu.below h2 hb;refine gP _ hgd s x T ho base 93 i0 _ 6 112 hT hi hz0 hz1 hz2 rfl (by decide) ?_ v es.length (fM es) hs (h2.alloc _) hnu ⟨w.heap.size,0,none⟩ 1 [.bool xm,.slice xp xl xc,.slice xq xk xd,.bool ym,.slice yp yl yc,.slice yq yk yd] hx rfl (uR w _ _ _ _ _ _ _) ?_ ?_ ?_ ?_ ?_ ?_
 ·intro u hu z' e';subst e';simp[Value.cells] at hu
 ·intro u hu;simp at hu;rcases hu with rfl | rfl | rfl | rfl | rfl | rfl<;>rfl
 ·intro u hu z' e';subst e';simp at hu
 ·unfold maxLen;omega
 ·omega
 ·rw[size_alloc];omega
 ·intro v' w' g1 g2 g3;have hkeep:∀ u l,IsU w u l->IsU w' u l:=fun u l hu=>(hu.below hb).grown hnu g2;refine h v' w' ⟨⟨es++[.agg #[.bool xm,.slice xp xl xc,.slice xq xk xd,.bool ym,.slice yp yl yc,.slice yq yk yd]],by simp[h1],?_,?_⟩,g3⟩ ?_ hkeep
  ·rw[IG,kS];exact g1
  ·intro i hi' hi2;by_cases hlt:i<es.length
   ·rw[I6 hlt,I6 (by omega)];exact (h3 i hlt (by omega)).keepU hkeep
   ·have hie:i=es.length:=by simp at hi';omega
    subst hie;rw[I4 (Iw _),I4 (by omega)];simpa[h1] using hk.keepU hkeep
  ·intro B w0 hB hBb;refine (hB.alloc (by have:=hbase;omega) _).grown g2 (by rw[size_alloc];omega) ?_;intro k hk';have:=(h2.lt k hk').1;omega
structure IsQ (w:World) (v:Value) (q:Rat):Prop where
 v:IsR w v (rt q)
 s:Sz 10000 (rt q)
theorem IsQ.below {w w':World}{v:Value}{q:Rat} (h:IsQ w v q) (hb:Below w.heap.size w w'):IsQ w' v q:=⟨h.v.below hb,h.s⟩
theorem IsQ.keepU {w w':World}{v:Value}{q:Rat} (h:IsQ w v q) (hk:∀ u l,IsU w u l->IsU w' u l):IsQ w' v q:=⟨h.v.keepU hk,h.s⟩
theorem IsQ.forms {w:World}{v:Value}{q:Rat} (h:IsQ w v q):∃ xm xp xl xc xq xk xd,v=.agg #[.bool xm,.slice xp xl xc,.slice xq xk xd]:=h.v.form
theorem IsQ.len {w:World}{v:Value}{q:Rat} (h:IsQ w v q):(cellsOf v).length=3:=by
 obtain⟨xm,xp,xl,xc,xq,xk,xd,rfl⟩:=h.forms;rfl
def IsL (w:World) (v:Value) (qs:List Rat):Prop:=∃ es:List Value,es.length=qs.length/\gy w 3 v es/\∀ i (h:i<es.length) (h':i<qs.length),IsQ w es[i] qs[i]
structure oG (w:World) (base:Nat) (v:Value) (qs:List Rat):Prop where
 p:∃ es:List Value,es.length=qs.length/\w.ownsRow base 89 3 v es.length (fM es)/\∀ i (h:i<es.length) (h':i<qs.length),IsQ w es[i] qs[i]
 nu:NoU w v
theorem IsL.below {w w':World}{v:Value}{qs:List Rat} (h:IsL w v qs) (hb:Below w.heap.size w w'):IsL w' v qs:=by
 obtain⟨es,h1,h2,h3⟩:=h;exact⟨es,h1,h2.below hb,fun i hi hi'=>(h3 i hi hi').below hb⟩
theorem oG.below {w w':World}{base:Nat}{v:Value}{qs:List Rat} (h:oG w base v qs) (hb:Below w.heap.size w w'):oG w' base v qs:=by
 obtain⟨es,h1,h2,h3⟩:=h.p;exact⟨⟨es,h1,fU h2 hb,fun i hi hi'=>(h3 i hi hi').below hb⟩,h.nu.below h2 hb⟩
theorem oG.nil (w:World) (base:Nat):oG w base (.slice none 0 0) []:=⟨⟨[],rfl,World.ownsRow_nil _ _ _ _,fun i h=>by simp at h⟩,fun g hg=>by cases hg⟩
theorem oG.isL {w:World}{base:Nat}{v:Value}{qs:List Rat} (h:oG w base v qs):IsL w v qs:=by
 obtain⟨es,h1,h2,h3⟩:=h.p;refine⟨es,h1,fX (fun e he=>?_) h2,h3⟩;obtain⟨i,hi,rfl⟩:=Jq he;exact (h3 i hi (by omega)).len
theorem IsL.nil (w:World):IsL w (.slice none 0 0) []:=(oG.nil w 0).isL
theorem IsL.get {w:World}{p:Option Addr}{n c:Nat}{qs:List Rat} (h:IsL w (.slice p n c) qs) {i:Nat} (hi:i<qs.length) :
  ∃ B o,p=some ⟨B,o,none⟩/\B<w.heap.size/\∃ xm xp xl xc xq xk xd,IsQ w (.agg #[.bool xm,.slice xp xl xc,.slice xq xk xd]) qs[i] /\
   w.cell? ⟨B,o+i*3,none⟩=some (.bool xm)/\w.cell? ⟨B,o+i*3+1,none⟩=some (.slice xp xl xc)/\w.cell? ⟨B,o+i*3+2,none⟩=some (.slice xq xk xd):=by
 obtain⟨es,h1,⟨p',cap,e,h2,h3,h4⟩,h5⟩:=h;obtain⟨rfl,-,-⟩:p=p'/\n=es.length/\c=cap:=by simpa using e
 obtain⟨b,o,e2,hlt,hc⟩:=h4 (by omega);have hk:=h5 i (by omega) hi;obtain⟨xm,xp,xl,xc,xq,xk,xd,he⟩:=hk.forms;have hc:=hc i (by omega);rw[he] at hk hc;exact⟨b,o,e2,hlt,_,_,_,_,_,_,_,hk,hc 0 _ rfl,hc 1 _ rfl,hc 2 _ rfl⟩
theorem IsL.form {w:World}{v:Value}{qs:List Rat} (h:IsL w v qs):∃ p c,v=.slice p qs.length c/\qs.length<=c/\c<=maxLen:=by
 obtain⟨es,h1,⟨p,c,e,h2,h3,-⟩,-⟩:=h;rw[h1] at e h2;exact⟨p,c,e,h2,h3⟩
theorem xI (w:World) (a b c:Value) (T:TypeId):∀ (j:Nat) (u:Value),[a,b,c][j]?=some u->(w.alloc (.cells #[a,b,c] T)).cell? ((⟨w.heap.size,0,none⟩:Addr).add j)=some u:=by
 intro j u hj;have ha:(⟨w.heap.size,0,none⟩:Addr).add j=⟨w.heap.size,j,none⟩:=by unfold Addr.add;split<;>simp_all
 rw[ha];exact aI w _ T j u (by simpa using hj)
theorem oJ {w:World}{ops:Array Oper}{rest:List Oper}{o:Oper}{act:Act}{Q:Exit->Act->World->Prop} (T:TypeId)
  (hT:Tryz.prog.underlying T=some (.slice 89)) (hgd:o.guard=none) (s x:Operand)
  (ho:o.op=.call { callee:=.builtin .append,args:=#[s,x],argTypes:=#[T,T] })
  (base:Nat) (v:Value) (qs:List Rat) (a b c:Value) (q:Rat) (hs:act.eval s=v) (hown:oG w base v qs) (hk:IsQ w (.agg #[a,b,c]) q)
  (hx:act.eval x=.slice (some ⟨w.heap.size,0,none⟩) 1 1) (hlen:qs.length<1000000000) (hbase:base<=w.heap.size)
  (h:∀ v' w',oG w' base v' (qs++[q])->(∀ B w0,Below B w0 w->B<=base->Below B w0 w')->(∀ u l,IsU w u l->IsU w' u l)->wpList Tryz.prog ops Q rest (act.put o.dst v') w') :
  wpList Tryz.prog ops Q (o :: rest) act (w.alloc (.cells #[a,b,c] 89)):=by
 obtain⟨es,h1,h2,h3⟩:=hown.p;obtain⟨i0,hi,hz0,hz1,hz2⟩:=info_parts Ia;have hb:=aj w (.cells #[a,b,c] 89);obtain⟨xm,xp,xl,xc,xq,xk,xd,he⟩:=hk.forms;obtain⟨rfl,rfl,rfl⟩:=fh he;have hnu:=hown.nu.below h2 hb;refine gP _ hgd s x T ho base 89 i0 _ 3 56 hT hi hz0 hz1 hz2 rfl (by decide) ?_ v es.length (fM es) hs (h2.alloc _) hnu ⟨w.heap.size,0,none⟩ 1 [.bool xm,.slice xp xl xc,.slice xq xk xd] hx rfl (xI w _ _ _ _) ?_ ?_ ?_ ?_ ?_ ?_
 ·intro u hu z' e';subst e';simp[Value.cells] at hu
 ·intro u hu;simp at hu;rcases hu with rfl | rfl | rfl<;>rfl
 ·intro u hu z' e';subst e';simp at hu
 ·unfold maxLen;omega
 ·omega
 ·rw[size_alloc];omega
 ·intro v' w' g1 g2 g3;have hkeep:∀ u l,IsU w u l->IsU w' u l:=fun u l hu=>(hu.below hb).grown hnu g2;refine h v' w' ⟨⟨es++[.agg #[.bool xm,.slice xp xl xc,.slice xq xk xd]],by simp[h1],?_,?_⟩,g3⟩ ?_ hkeep
  ·rw[IG,kS];exact g1
  ·intro i hi' hi2;by_cases hlt:i<es.length
   ·rw[I6 hlt,I6 (by omega)];exact (h3 i hlt (by omega)).keepU hkeep
   ·have hie:i=es.length:=by simp at hi';omega
    subst hie;rw[I4 (Iw _),I4 (by omega)];simpa[h1] using hk.keepU hkeep
  ·intro B w0 hB hBb;refine (hB.alloc (by have:=hbase;omega) _).grown g2 (by rw[size_alloc];omega) ?_;intro k hk';have:=(h2.lt k hk').1;omega
theorem bR {w:World}{ops:Array Oper}{rest:List Oper}{o:Oper}{act:Act}{Q:Exit->Act->World->Prop} (T:TypeId)
  (hT:Tryz.prog.underlying T=some (.slice 25)) (hgd:o.guard=none) (s x:Operand)
  (ho:o.op=.call { callee:=.builtin .append,args:=#[s,x],argTypes:=#[T,T] })
  (base:Nat) (v:Value) (l:List ByteArray) (t:ByteArray) (hs:act.eval s=v) (hown:dh w base v l)
  (hx:act.eval x=.slice (some ⟨w.heap.size,0,none⟩) 1 1) (hlen:l.length<1000000000) (hbase:base<=w.heap.size)
  (h:∀ v' w',dh w' base v' (l++[t])->(∀ B w0,Below B w0 w->B<=base->Below B w0 w')->wpList Tryz.prog ops Q rest (act.put o.dst v') w') :
  wpList Tryz.prog ops Q (o :: rest) act (w.alloc (.cells #[.string t] 25)):=by
 obtain⟨i0,hi,hz0,hz1,hz2⟩:=info_parts Dm
 refine wpList_append_own _ hgd s x T ho base 25 i0 _ 1 16 hT hi hz0 hz1 hz2 rfl (by decide) v l.length (l.map .string) hs (World.ownsRow.alloc hown _) ⟨w.heap.size,0,none⟩ 1 1 [.string t] hx rfl ?_ ?_ ?_ ?_ ?_ ?_
 ·intro j u hj
  match j,hj with
  | 0,hj =>
   simp at hj
   subst hj
   exact aI w _ _ 0 _ rfl
 ·intro u hu
  simp at hu
  subst hu
  rfl
 ·unfold maxLen;omega
 ·omega
 ·rw[size_alloc];omega
 ·intro v' w' hown' hg _
  refine h v' w' ?_ ?_
  ·unfold dh
   rw[IG,LF];exact hown'
  ·intro B w0 hb hB
   have hbs:=World.ownsRow.lt hown
   refine (hb.alloc (by omega) _).grown hg (by rw[size_alloc];omega) ?_
   intro k hk
   have:=(hbs k hk).1
   omega
open Go.RowKit Dg
def allC:List ByteArray->Option (List CQ)
 | []=>some []
 | s :: l=>match gJ s,allC l with
  | some z,some zs=>some (z :: zs)
  | _,_=>none
theorem AJ {l:List ByteArray}{s:ByteArray}:allC (l++[s])=match allC l,gJ s with | some zs,some z=>some (zs++[z]) | _,_=>none:=by
 induction l with
 | nil=>simp only[I8,allC];cases gJ s<;>rfl
 | cons a l ih =>
  simp only[Jf,allC,ih]
  cases gJ a<;>cases allC l<;>cases gJ s<;>rfl
theorem AK {l:List ByteArray}{i:Nat} (hi:i<l.length):allC (l.take (i+1))=match allC (l.take i),gJ l[i] with | some zs,some z=>some (zs++[z]) | _,_=>none:=by
 rw[show l.take (i+1)=l.take i++[l[i]] from (IL hi).symm,AJ]
theorem Ct {l:List ByteArray}{i:Nat} (hi:i<l.length) (h:gJ l[i]=none):allC l=none:=by
 induction l generalizing i with
 | nil=>simp at hi
 | cons a l ih =>
  cases i with
  | zero =>
   simp only[Ir] at h;simp only[allC,h]
  | succ i =>
   have:=ih (i:=i) (by simpa using hi) (by simpa using h);simp only[allC,this]
   cases gJ a<;>rfl
theorem io:∀ {l:List ByteArray}{zs:List CQ},allC l=some zs->zs.length=l.length
 | [],zs,h=>by cases h;rfl
 | a :: l,zs,h=>by
  simp only[allC] at h
  cases ha:gJ a with
  | none=>rw[ha] at h;cases h
  | some z =>
   cases hl:allC l with
   | none=>rw[ha,hl] at h;cases h
   | some ys =>
    rw[ha,hl] at h
    cases h
    simp[io hl]
theorem Cu (v:Value) (l:List ByteArray) (w:World) (hl:IsS w v l) (hlen:l.length<1000000000) (hG:Gw w) :
  Calls Tryz.prog 141 #[v,.func (.func 87) #[] #[]] w fun e w'=>∃ v' ok,e=.returned (.tuple #[v',.bool ok])/\((∃ zs,allC l=some zs/\ok=true/\IsP w' v' zs)\/(allC l=none/\ok=false/\v'=.slice none 0 0))/\Below w.heap.size w w':=by
 obtain⟨p,c,rfl,hc1,hc2⟩:=hl.form;have HL:=Ip hl;have HG:=Ip hG;clear hl hG;go_enter Tryz.func141,Tryz.ntmps141;go_wp2;go_loopw [6,13] (fun s6 s13 wr=>∃ (i:Nat) (zs:List CQ),s13=.int .i64 i/\i<=l.length/\ej wr w.heap.size s6 zs/\Below w.heap.size w wr/\Hid (allC (l.take i)=some zs)) (fun _ s13 _=>l.length-(intOf s13).toNat)
 case atStart=>exact⟨0,[],rfl,IF _,ej.nil _ _,LN _ _,rfl⟩
 case round =>
  obtain⟨i,zs,rfl,hin,hown,hbr,hall⟩:=hrel;by_cases hi:i<l.length
  ·obtain⟨b,o,rfl,hbl,hcell⟩:=(HL.out.below hbr).get hi;obtain⟨s,hs⟩:∃ s,s=l[i]:=⟨_,rfl⟩;rw[<-hs] at hcell;have HS:=Ip hs;clear hs;go_wp2_with fail
   refine (kU s wr (HG.out.below hbr)).mono ?_;rintro e w1 ⟨v1,ok,rfl,hcase,hb1⟩;have hB1:=LK hbr hb1;rcases hcase with ⟨z,hz,rfl,hv⟩ | ⟨hz,rfl,rfl⟩
   ·obtain⟨q,rfl,hp1,hp2,-,-⟩:=jD hz;have hk:IsK w1 v1 q:=⟨hv,hp2.mono (by decide)⟩;have hstep:allC (l.take (i+1))=some (zs++[q]):=by rw[AK hi,hall.out,<-HS.out,hp1]
    have HT:=Ip hstep;obtain⟨xm,xp,xl,xc,xq,xk,xd,ym,yp,yl,yc,yq,yk,yd,rfl⟩:=hk.forms;have hw1:=hown.below hb1;clear hz hv hp1 hp2 hstep hown hb1 hbr hcell hall;go_upto_region 6 with fail
    have q1:=cC.new w1 (.bool xm) (.slice xp xl xc) (.slice xq xk xd) (.bool ym) (.slice yp yl yc) (.slice yq yk yd) 93;have m1:=aj w1 (.cells #[.bool xm,.slice xp xl xc,.slice xq xk xd,.bool ym,.slice yp yl yc,.slice yq yk yd] 93);generalize w1.alloc (.cells #[.bool xm,.slice xp xl xc,.slice xq xk xd,.bool ym,.slice yp yl yc,.slice yq yk yd] 93)=w2 at *
    have a0:=q1.c0;have a1:=q1.c1;have a2:=q1.c2;have a3:=q1.c3;have a4:=q1.c4;have a5:=q1.c5;have hB2:=LK hB1 m1;have hk2:=hk.below m1;have hw2:=hw1.below m1;have hbs:=hB2.size;have hzl:zs.length<1000000000:=by have:=io HT.out;simp at this;omega
    clear q1 m1 hB1 hk hw1;go_wp2_with (at_builtin;refine fg 149 Tryz.underlying149 rfl (.tmp 25) (.tmp 27) rfl w.heap.size _ zs _ _ _ _ _ _ q rfl hw2 hk2 rfl hzl hbs ?_)
    intro v' w3 hw3 hb3 _;have hB3:=hb3 _ _ hB2 (Iw _);clear hw2 hk2 hb3 hB2 a0 a1 a2 a3 a4 a5;go_wp2;go_roundw;case rel=>exact⟨i+1,zs++[q],by go_num,by omega,hw3,hB3,HT.out⟩
    case measure=>simp[intOf];omega
   ·have hbad:allC l=none:=Ct hi (by rw[<-HS.out];exact ig hz);have HT:=Ip hbad;clear hz hbad hcell hown;unfold iX;go_wp2;refine LM (v:=.tuple #[.slice none 0 0,.bool false]) (by simp[results,Tryz.results141,go_sem]) rfl ⟨_,_,rfl,Or.inr ⟨HT.out,rfl,rfl⟩,LK hB1 (aj w1 _)⟩
  ·have hin':i=l.length:=by omega
   subst hin';clear hi;have hp:=hown.isP;have HT:=hall.out;rw[IZ] at HT;go_wp2;refine LM (v:=.tuple #[_,.bool true]) (by simp[results,Tryz.results141,go_sem]) rfl ⟨_,_,rfl,Or.inl ⟨zs,HT,rfl,hp⟩,hbr⟩
theorem FL (v:Value) (z:CQ) (w:World) (hk:IsK w v z) :
  Calls Tryz.prog 143 #[v] w fun e w'=>∃ u,e=.returned (.tuple #[u,.bool (decide (z.im=0))])/\IsQ w' u z.re/\Below w.heap.size w w':=by
 obtain⟨a,b,c,d,e,f,rfl,hax,hay⟩:=id hk.v;go_enter Tryz.func143,Tryz.ntmps143;go_upto_region 1 with fail
 have q1:=cC.new w a b c d e f 93;have m1:=aj w (.cells #[a,b,c,d,e,f] 93);have z1:=size_alloc w (.cells #[a,b,c,d,e,f] 93);generalize w.alloc (.cells #[a,b,c,d,e,f] 93)=w1 at *
 have q3:=cJ.new w1 (.bool false) (.slice none 0 0) (.slice none 0 0) nofun nofun nofun;have m3:=aj w1 (.cells #[.bool false,.slice none 0 0,.slice none 0 0] 89);generalize w1.alloc (.cells #[.bool false,.slice none 0 0,.slice none 0 0] 89)=w3 at *
 have m4:Below w3.heap.size w3 w3.drew:=(LN _ _).drew;rw[z1] at q3;refine av (fun w'=>∃ x:az (w.heap.size+1) w3.drew,w'=x.w) (fun i=>i == 3||i == 4) (by kernel_rfl) (by kernel_rfl) ⟨⟨_,LN _ _⟩,rfl⟩ ?_;generalize w3.drew=wd at *
 have hB0:Below wd.heap.size wd wd:=LN _ _;have M13:=LK m1 m3;have MD:=Ip (LK M13 m4);have B1:=(q1.below m3).below m4;have B3:=Ip (q3.below m4);have hz:w.heap.size+1<=wd.heap.size:=by have:=B3.out.lt;omega
 have e1:=fun x:az (w.heap.size+1) wd=>B1.at x.h (by omega);have a0:=fun x=>(e1 x).c0;have a01:=fun x=>(e1 x).c1;have a02:=fun x=>(e1 x).c2;have a03:=fun x=>(e1 x).c3;have a04:=fun x=>(e1 x).c4;have a05:=fun x=>(e1 x).c5;have HK:=Ip (hk.below MD.out);have HX:=Ip (hax.below MD.out);clear e1 q1 q3 m1 m3 m4 z1 M13 hax hay B1 hk;refine ak 3 0 _ _ _ (by kernel_rfl) ?_;simp only[Ix,IC,Iy,IA];repeat (go_big_quiet_step (fail))
 refine wpQuiet_nil ?_;refine ap rfl rfl (fun K hK=>?_);go_simp;refine (fj _ _ _ HK.out.v).mono ?_;rintro e w4 ⟨rfl,hb4⟩;refine hK _ _ ⟨⟨_,hb4.mono hz⟩,rfl⟩ ?_;clear hK K;try simp only[Act.put,It,Is,Ir,Iq,Iu,Iv]
 have hv4:=HX.out.below hb4;obtain⟨xm,xp,xl,xc,xq,xk,xd,hxe⟩:=hv4.form;obtain⟨rfl,rfl,rfl⟩:a=.bool xm/\b=.slice xp xl xc/\c=.slice xq xk xd:=by simpa using hxe
 clear hxe;have B8:=B3.out.below hb4;have k0:=B8.c0;have k1:=B8.c1;have k2:=B8.c2;have f0:=B8.fr 0;have f1:=B8.fr 1;have f2:=B8.fr 2;have P:=Ip (B8.putR hv4);refine ap rfl rfl (fun K hK=>?_);go_simp;refine hK undef _ ⟨⟨_,P.out.2.2 _ _ (hb4.mono hz) (Iw _)⟩,rfl⟩ ?_;clear hK K;try simp only[Act.put,It,Is,Ir,Iq,Iu,Iv]
 refine ak 1 5 _ _ _ (by kernel_rfl) ?_;simp only[Ix,IC,Iy,IA];repeat (go_big_quiet_step (fail))
 refine wpQuiet_nil ?_;refine aE ?_;have M8:=Ip (P.out.2.2 _ w (LK MD.out hb4) (by omega));have HS:=Ip HK.out.s.x;have hd:decide ((ct z).y.n=0)=decide (z.im=0):=by show decide ((rt z.im).n=0)=_;simp only[bB]
 have HD:=Ip hd;clear hd;go_wp2_with fail
 have q0:=P.out.1.c0;have q1:=P.out.1.c1;have q2:=P.out.1.c2;refine LM (v:=.tuple #[.agg #[.bool xm,.slice xp xl xc,.slice xq xk xd],.bool (decide ((ct z).y.n=0))]) (by simp[wU] at q0 q1 q2 |-;simp[results,Tryz.results143,go_sem,q0,q1,q2]) rfl ⟨_,by rw[HD.out],⟨P.out.2.1,HS.out⟩,M8.out⟩
def jM (zs:List CQ):Option (List Rat):=if zs.all (fun z=>decide (z.im=0)) then some (zs.map CQ.re) else none
theorem E9 (v:Value) (zs:List CQ) (w:World) (hl:IsP w v zs) (hlen:zs.length<1000000000) :
  Calls Tryz.prog 142 #[v,.func (.func 143) #[] #[]] w fun e w'=>∃ v' ok,e=.returned (.tuple #[v',.bool ok])/\((∃ qs,jM zs=some qs/\ok=true/\IsL w' v' qs)\/(jM zs=none/\ok=false/\v'=.slice none 0 0))/\Below w.heap.size w w':=by
 obtain⟨p,c,rfl,hc1,hc2⟩:=hl.form;have HL:=Ip hl;clear hl;go_enter Tryz.func142,Tryz.ntmps142;go_wp2;go_loopw [6,13] (fun s6 s13 wr=>∃ (i:Nat),s13=.int .i64 i/\i<=zs.length/\oG wr w.heap.size s6 ((zs.map CQ.re).take i)/\Below w.heap.size w wr/\Hid ((zs.take i).all (fun z=>decide (z.im=0))=true)) (fun _ s13 _=>zs.length-(intOf s13).toNat)
 case atStart=>exact⟨0,rfl,IF _,oG.nil _ _,LN _ _,rfl⟩
 case round =>
  obtain⟨i,rfl,hin,hown,hbr,hall⟩:=hrel;by_cases hi:i<zs.length
  ·obtain⟨b,o,rfl,hbl,xm,xp,xl,xc,xq,xk,xd,ym,yp,yl,yc,yq,yk,yd,hk,c0,c1,c2,c3,c4,c5⟩:=(HL.out.below hbr).get hi;obtain⟨z,hz⟩:∃ z,z=zs[i]:=⟨_,rfl⟩;rw[<-hz] at hk;have HZ:=Ip hz;clear hz;go_upto_region 5 with fail
   have q1:=cC.new wr (.bool xm) (.slice xp xl xc) (.slice xq xk xd) (.bool ym) (.slice yp yl yc) (.slice yq yk yd) 93;have m1:=aj wr (.cells #[.bool xm,.slice xp xl xc,.slice xq xk xd,.bool ym,.slice yp yl yc,.slice yq yk yd] 93);generalize wr.alloc (.cells #[.bool xm,.slice xp xl xc,.slice xq xk xd,.bool ym,.slice yp yl yc,.slice yq yk yd] 93)=w2 at *
   have a0:=q1.c0;have a1:=q1.c1;have a2:=q1.c2;have a3:=q1.c3;have a4:=q1.c4;have a5:=q1.c5;have hB2:=LK hbr m1;have hk2:=hk.below m1;have hw2:=hown.below m1;clear q1 m1 hbr hk hown c0 c1 c2 c3 c4 c5;go_wp2_with fail
   refine (FL _ z w2 hk2).mono ?_;rintro e w3 ⟨u,rfl,hu,hb3⟩;have hB3:=LK hB2 hb3;have hw3:=hw2.below hb3;obtain⟨um,up,ul,uc,uq,uk,ud,rfl⟩:=hu.forms;clear hb3 hB2 hk2 hw2 a0 a1 a2 a3 a4 a5;by_cases him:z.im=0
   ·have hstep:(zs.take (i+1)).all (fun z=>decide (z.im=0))=true:=by
     rw[show zs.take (i+1)=zs.take i++[zs[i]] from (IL hi).symm,JW,hall.out,<-HZ.out];simp[him]
    have hmap:(zs.map CQ.re).take (i+1)=(zs.map CQ.re).take i++[z.re]:=by
     rw[show (zs.map CQ.re).take (i+1)=(zs.map CQ.re).take i++[(zs.map CQ.re)[i]'(by simpa using hi)] from (IL _).symm,JT,<-HZ.out]
    have HT:=Ip hstep;have HM:=Ip hmap;rw[decide_eq_true him];clear hstep hmap him hall;go_upto_region 6 with fail
    have q1:=cJ.new w3 (.bool um) (.slice up ul uc) (.slice uq uk ud) nofun nofun nofun;have m1:=aj w3 (.cells #[.bool um,.slice up ul uc,.slice uq uk ud] 89);generalize w3.alloc (.cells #[.bool um,.slice up ul uc,.slice uq uk ud] 89)=w4 at *
    have a0:=q1.c0;have a1:=q1.c1;have a2:=q1.c2;have hB4:=LK hB3 m1;have hu4:=hu.below m1;have hw4:=hw3.below m1;have hbs:=hB4.size;have hzl:((zs.map CQ.re).take i).length<1000000000:=by simp;omega
    clear q1 m1 hB3 hu hw3;go_wp2_with (at_builtin;refine oJ 123 Tryz.underlying123 rfl (.tmp 25) (.tmp 27) rfl w.heap.size _ _ _ _ _ z.re rfl hw4 hu4 rfl hzl hbs ?_)
    intro v' w5 hw5 hb5 _;have hB5:=hb5 _ _ hB4 (Iw _);rw[<-HM.out] at hw5;clear hw4 hu4 hb5 hB4 a0 a1 a2;go_wp2;go_roundw;case rel=>exact⟨i+1,by go_num,by omega,hw5,hB5,HT.out⟩
    case measure=>simp[intOf];omega
   ·have hbad:jM zs=none:=by
     unfold jM;rw[if_neg];rw[Bool.not_eq_true,Kp];exact⟨zs[i],IS hi,by rw[<-HZ.out];simpa using him⟩
    have HT:=Ip hbad;rw[decide_eq_false him];clear hbad him hall hw3;go_wp2;refine LM (v:=.tuple #[.slice none 0 0,.bool false]) (by simp[results,Tryz.results142,go_sem]) rfl ⟨_,_,rfl,Or.inr ⟨HT.out,rfl,rfl⟩,LK hB3 (aj w3 _)⟩
  ·have hin':i=zs.length:=by omega
   subst hin';clear hi;have hp:=hown.isL;have HT:=hall.out;rw[IZ] at HT;rw[show zs.length=(zs.map CQ.re).length by simp,IZ] at hp;go_wp2;refine LM (v:=.tuple #[_,.bool true]) (by simp[results,Tryz.results142,go_sem]) rfl ⟨_,_,rfl,Or.inl ⟨zs.map CQ.re,by unfold jM;rw[if_pos HT],rfl,hp⟩,hbr⟩
def fV (l:List ByteArray):Except Int (List Rat) :=
 match allC l with
 | none=>.error 10
 | some zs=>match jM zs with
  | none=>.error 13
  | some qs=>.ok qs
def AF (l:List ByteArray) (w:World) (e:Ending) (w':World):Prop :=
 ∃ v err,e=.returned (.tuple #[v,.int .i64 err])/\((∃ qs,fV l=.ok qs/\err=0/\IsL w' v qs)\/(fV l=.error err/\err≠0/\v=.slice none 0 0))/\Below w.heap.size w w'
theorem Ei (v:Value) (l:List ByteArray) (w:World) (hl:IsS w v l) (hlen:l.length<1000000000) (hG:Gw w) :
  Calls Tryz.prog 92 #[v] w (AF l w):=by
 obtain⟨p,c,rfl,-⟩:=id hl.form;have HA:=Ip (Cu _ l w hl hlen hG);go_enter Tryz.func92,Tryz.ntmps92;go_wp2_with fail
 refine HA.out.mono ?_;rintro e w1 ⟨v1,ok,rfl,hcase,hb1⟩;rcases hcase with ⟨zs,hz,rfl,hp⟩ | ⟨hz,rfl,rfl⟩
 ·obtain⟨p1,c1,rfl,-⟩:=id hp.form;have hzl:zs.length<1000000000:=by rw[io hz];exact hlen
  have HB:=Ip (E9 _ zs w1 hp hzl);have HZ:=Ip hz;clear hz hp;go_wp2_with fail
  refine HB.out.mono ?_;rintro e w2 ⟨v2,ok,rfl,hcase,hb2⟩;rcases hcase with ⟨qs,hq,rfl,hp⟩ | ⟨hq,rfl,rfl⟩
  ·obtain⟨p2,c2,rfl,-⟩:=id hp.form;have HQ:=Ip hq;clear hq;go_wp2;refine LM (v:=.tuple #[.slice p2 qs.length c2,.int .i64 0]) (by simp[results,Tryz.results92,go_sem]) rfl ⟨_,_,rfl,Or.inl ⟨qs,by unfold fV;rw[HZ.out];simp only;rw[HQ.out],rfl,hp⟩,LK hb1 hb2⟩
  ·have HQ:=Ip hq;clear hq;go_wp2;refine LM (v:=.tuple #[.slice none 0 0,.int .i64 13]) (by simp[results,Tryz.results92,go_sem]) rfl ⟨_,_,rfl,Or.inr ⟨by unfold fV;rw[HZ.out];simp only;rw[HQ.out],by decide,rfl⟩,LK hb1 hb2⟩
 ·have HZ:=Ip hz;clear hz;go_wp2;refine LM (v:=.tuple #[.slice none 0 0,.int .i64 10]) (by simp[results,Tryz.results92,go_sem]) rfl ⟨_,_,rfl,Or.inr ⟨by unfold fV;rw[HZ.out],by decide,rfl⟩,hb1⟩
def uX (s t:ByteArray):Int×Int:=match fV [s,t] with
 | .ok [x,y]=>(eL x y,0)
 | .ok _=>(0,0)
 | .error e=>(0,e)
theorem yJ {s t:ByteArray}{qs:List Rat} (h:fV [s,t]=.ok qs):∃ x y,qs=[x,y]:=by
 unfold fV at h
 cases ha:allC [s,t] with
 | none=>rw[ha] at h;cases h
 | some zs =>
  rw[ha] at h
  simp only at h
  have hl:=io ha
  cases hr:jM zs with
  | none=>rw[hr] at h;cases h
  | some ys =>
   rw[hr] at h
   simp only[Except.ok.injEq] at h
   subst h
   unfold jM at hr
   split at hr
   ·cases hr
    match zs,hl with
    | [a,b],_=>exact⟨a.re,b.re,rfl⟩
   ·cases hr
theorem IsS.two (w:World) (s t:ByteArray):IsS (w.alloc (.cells #[.string s,.string t] 25)) (.slice (some ⟨w.heap.size,0,none⟩) 2 2) [s,t]:=by
 refine⟨some ⟨w.heap.size,0,none⟩,2,rfl,by simp,by simp[maxLen],fun _=>⟨w.heap.size,0,rfl,by rw[size_alloc];omega,?_⟩⟩
 intro i hi j u hu
 match i,hi with
 | 0,_ =>
  match j,hu with
  | 0,hu=>simp[cellsOf] at hu;subst hu;exact aI w _ _ 0 _ rfl
 | 1,_ =>
  match j,hu with
  | 0,hu=>simp[cellsOf] at hu;subst hu;exact aI w _ _ 1 _ rfl
theorem ag {w w':World}{B b:Nat} (h:Below B w w') (hb:b<B) {o:Nat}{v:Value} (hc:w.cell? ⟨b,o,none⟩=some v):w'.cell? ⟨b,o,none⟩=some v:=(h.cell (p:=⟨b,o,none⟩) hb).trans hc
theorem G6 (s t:ByteArray) (w:World) (hG:Gw w) :
  Calls Tryz.prog 49 #[.string s,.string t] w fun e w'=>e=.returned (.tuple #[.int .i64 (uX s t).1,.int .i64 (uX s t).2])/\Below w.heap.size w w':=by
 have hl:=IsS.two w s t;have m1:=aj w (.cells #[.string s,.string t] 25);have HA:=Ip (Ei _ [s,t] _ hl (by simp) (hG.below m1));have M1:=Ip m1;clear hl m1;go_enter Tryz.func49,Tryz.ntmps49;go_wp2_with fail
 refine HA.out.mono ?_;rintro e w1 ⟨v1,err,rfl,hcase,hb1⟩;have MB:=Ip (LK M1.out hb1);rcases hcase with ⟨qs,hq,rfl,hp⟩ | ⟨hq,hne,rfl⟩
 ·obtain⟨x,y,rfl⟩:=yJ hq;have hc:uX s t=(eL x y,0):=by unfold uX;rw[hq]
  have HC:=Ip hc;obtain⟨p1,c1,rfl,-⟩:=id hp.form;obtain⟨b,o,rfl,hbl,xm,xp,xl,xc,xq,xk,xd,hx,c0,c1',c2⟩:=hp.get (i:=0) (by simp);obtain⟨b',o',he,hbl',ym,yp,yl,yc,yq,yk,yd,hy,d0,d1,d2⟩:=hp.get (i:=1) (by simp);obtain⟨rfl,rfl⟩:b=b'/\o=o':=by simpa using he
  clear he hbl' hc hq hb1;simp only[Ir,Is,JE,I7,JV] at hx hy c0 c1' c2 d0 d1 d2;go_upto_region 4 with fail
  have m4:Below w1.heap.size w1 w1.drew:=(LN _ _).drew;have hcmp:=Ip (pF _ _ _ _ _ (hx.v.below m4) (hy.v.below m4) (dQ x) (dQ y) (hx.s.fewR hy.s (by decide)).f1 (hx.s.fewR hy.s (by decide)).f2 (hx.s.fewR hy.s (by decide)).f3 (hx.s.fewR hy.s (by decide)).f4);rw[tH] at hcmp;refine av (fun w'=>∃ x:az w1.heap.size w1.drew,w'=x.w) (fun i=>i == 6) (by kernel_rfl) (by kernel_rfl) ⟨⟨_,LN _ _⟩,rfl⟩ ?_;have g0:=fun x:az w1.heap.size w1.drew=>ag (m4.trans x.h) hbl c0;have g1:=fun x:az w1.heap.size w1.drew=>ag (m4.trans x.h) hbl c1';have g2:=fun x:az w1.heap.size w1.drew=>ag (m4.trans x.h) hbl c2;have g3:=fun x:az w1.heap.size w1.drew=>ag (m4.trans x.h) hbl d0;have g4:=fun x:az w1.heap.size w1.drew=>ag (m4.trans x.h) hbl d1;have g5:=fun x:az w1.heap.size w1.drew=>ag (m4.trans x.h) hbl d2;have M4:=Ip (LK MB.out m4);have hz:w1.heap.size<=w1.drew.heap.size:=m4.size;clear c0 c1' c2 d0 d1 d2 hp hx hy m4;generalize w1.drew=wd at *
  refine ak 6 0 _ _ _ (by kernel_rfl) ?_;simp only[Ix,IC,Iy,IA];repeat (go_big_quiet_step (fail))
  refine wpQuiet_nil ?_;refine ap rfl rfl (fun K hK=>?_);go_simp;refine hcmp.out.mono ?_;rintro e w2 ⟨rfl,hb2⟩;refine hK _ _ ⟨⟨_,hb2.mono hz⟩,rfl⟩ ?_;clear hK K;try simp only[Act.put,It,Is,Ir,Iq,Iu,Iv]
  refine ak 2 7 _ _ _ (by kernel_rfl) ?_;simp only[Ix,IC,Iy,IA];repeat (go_big_quiet_step (fail))
  refine wpQuiet_nil ?_;refine aE ?_;go_wp2;refine LM (v:=.tuple #[.int .i64 (eL x y),.int .i64 0]) (by simp[results,Tryz.results49,go_sem]) rfl ⟨by rw[HC.out],LK M4.out hb2⟩
 ·have hc:uX s t=(0,err):=by unfold uX;rw[hq]
  have HC:=Ip hc;have hd:(err != 0)=true:=by simpa using hne
  clear hc hq hne;go_wp2;refine LM (v:=.tuple #[.int .i64 0,.int .i64 err]) (by simp[results,Tryz.results49,go_sem]) rfl ⟨by rw[HC.out],MB.out⟩
def jZ (s t:ByteArray):Int:=(uX s t).1
theorem kY (s t:ByteArray) (w:World) (hG:Gw w) :
  Calls Tryz.prog 13 #[.string s,.string t] w fun e w'=>e=.returned (.int .i64 (jZ s t))/\Below w.heap.size w w':=by
 unfold jZ;have HP:=Ip (G6 s t w hG);go_enter Tryz.func13,Tryz.ntmps13;go_wp2_with fail
 refine HP.out.mono ?_;rintro e w2 ⟨rfl,hb2⟩;go_wp2;go_ret;exact⟨rfl,hb2⟩
def fD (s:ByteArray):Bool:=decide (0<jZ s ⟨#[45,49]⟩)&&decide (jZ s ⟨#[49]⟩<0)
theorem zO (s:ByteArray) (w:World) (hG:Gw w) :
  Calls Tryz.prog 103 #[.string s] w fun e w'=>e=.returned (.bool (fD s))/\Below w.heap.size w w':=by
 have HP:=Ip (kY s ⟨#[45,49]⟩ w hG);have HP2:=Ip (fun wx (h:Below w.heap.size w wx)=>kY s ⟨#[49]⟩ wx (hG.below h));obtain⟨a,ha⟩:∃ a,a=jZ s ⟨#[45,49]⟩:=⟨_,rfl⟩;obtain⟨b,hb⟩:∃ b,b=jZ s ⟨#[49]⟩:=⟨_,rfl⟩;unfold fD;rw[<-ha,<-hb];rw[<-ha] at HP;rw[<-hb] at HP2;clear ha hb;go_enter Tryz.func103,Tryz.ntmps103;by_cases h:0<a
 ·have hd:decide (0<a)=true:=decide_eq_true h;go_wp2_with fail
  refine HP.out.mono ?_;rintro e w2 ⟨rfl,hb2⟩;go_wp2_with fail
  refine (HP2.out w2 hb2).mono ?_;rintro e w3 ⟨rfl,hb3⟩;go_wp2;go_ret;exact⟨by simp[h],LK hb2 hb3⟩
 ·have hd:decide (0<a)=false:=decide_eq_false h;go_wp2_with fail
  refine HP.out.mono ?_;rintro e w2 ⟨rfl,hb2⟩;go_wp2;go_ret;exact⟨by rw[hd];rfl,hb2⟩
def dO (w:World) (g cap:Nat) (l:List ByteArray):Prop:=w.ownsRow g 25 1 (.slice (some ⟨g,0,none⟩) l.length cap) l.length (l.map .string)
theorem dO.own {w:World}{g cap base:Nat}{l:List ByteArray} (h:dO w g cap l) (hb:base<=g):dh w base (.slice (some ⟨g,0,none⟩) l.length cap) l:=by
 obtain⟨h1,h2⟩:=h;refine⟨h1,?_⟩;rcases h2 with h2 | ⟨g',cap',cur,e,_,r⟩
 ·exact Or.inl h2
 ·have:g'=g:=by simp at e;exact e.1.symm
  subst this;exact Or.inr ⟨g',cap',cur,e,hb,r⟩
theorem dO.lt {w:World}{g cap:Nat}{l:List ByteArray} (h:dO w g cap l):g<w.heap.size:=(World.ownsRow.lt h g rfl).2
theorem dO.isS {w:World}{g cap:Nat}{l:List ByteArray} (h:dO w g cap l):IsS w (.slice (some ⟨g,0,none⟩) l.length cap) l:=dh.isS (h.own (Iw _))
theorem dO.cell {w:World}{g cap:Nat}{l:List ByteArray} (h:dO w g cap l) {j:Nat} (hj:j<l.length):w.cell? ⟨g,j,none⟩=some (.string l[j]):=by
 rw[World.ownsRow.cellAt h j (by omega)];simp[hj]
theorem dO.free {w:World}{g cap:Nat}{l:List ByteArray} (h:dO w g cap l) (j:Nat):w.frozen? ⟨g,j,none⟩=false:=World.ownsRow.frozenAt h j
theorem dO.set {w:World}{g cap:Nat}{l:List ByteArray} (h:dO w g cap l) (j:Nat) (t:ByteArray):dO (w.setCell ⟨g,j,none⟩ (.string t)) g cap (l.set j t):=by
 have:=(World.ownsRow.stored h j (.string t)).1;unfold dO;rw[List.map_set,JK];exact this
theorem dO.below {w w':World}{g cap:Nat}{l:List ByteArray} (h:dO w g cap l) (hb:Below w.heap.size w w'):dO w' g cap l:=fU h hb
theorem dO.past {w w':World}{g cap B:Nat}{l:List ByteArray} (h:dO w g cap l) (hb:Below B w w') (hg:g<B):dO w' g cap l:=by
 obtain⟨hlen,h⟩:=h;refine⟨hlen,?_⟩;rcases h with h | ⟨g',cap',cur,e,hg',hh,r⟩
 ·exact Or.inl h
 ·have:g'=g:=by simp at e;exact e.1.symm
  subst this;exact Or.inr ⟨g',cap',cur,e,hg',by rw[hb.block g' hg];exact hh,r⟩
theorem dO.other {w:World}{g cap:Nat}{l:List ByteArray} (h:dO w g cap l) {g':Nat} (hne:g≠g') (j:Nat) (u:Value):dO (w.setCell ⟨g',j,none⟩ u) g cap l:=by
 obtain⟨hlen,h⟩:=h;refine⟨hlen,?_⟩;rcases h with h | ⟨g2,cap',cur,e,hg',hh,r⟩
 ·exact Or.inl h
 ·have:g2=g:=by simp at e;exact e.1.symm
  subst this;exact Or.inr ⟨g2,cap',cur,e,hg',by rw[Below.heap_setCell _ _ _ _ hne];exact hh,r⟩
theorem IsS.other {w:World}{v:Value}{l:List ByteArray} (h:IsS w v l) {g:Nat} (hne:v.ownBlock≠some g) (j:Nat) (u:Value):IsS (w.setCell ⟨g,j,none⟩ u) v l:=by
 obtain⟨p,cap,rfl,h1,h2,h3⟩:=h;refine⟨p,cap,rfl,h1,h2,fun hl=>?_⟩;obtain⟨b,o,rfl,hlt,hc⟩:=h3 hl;have hne':b≠g:=fun e=>hne (by rw[e];rfl);refine⟨b,o,rfl,by simpa[World.setCell] using hlt,fun i hi j' u' hu=>?_⟩;rw[World.cell?_setCell_other _ _ _ _ (by intro e3;exact hne' (congrArg Addr.block e3).symm)];exact hc i hi j' u' hu
theorem dz {w:World}{ops:Array Oper}{rest:List Oper}{o:Oper}{a:Act}{Q:Exit->Act->World->Prop} (T:TypeId)
  (hT:Tryz.prog.underlying T=some (.slice 25)) (hgd:o.guard=none) (lo co:Operand) (hop:o.op=Op.makeSlice T lo co)
  (L C:Int) (n:Nat) (hl:a.eval lo=.int .i64 L) (hc:a.eval co=.int .i64 C) (hL:L=(n:Int)) (hC:C=(n:Int)) (hn:n<=1000000000000)
  (hK:∀ w',dO w' w.heap.size n (List.replicate n ⟨#[]⟩)->(∀ B w0,Below B w0 w->B<=w.heap.size->Below B w0 w')->w.heap.size<w'.heap.size ->
   wpList Tryz.prog ops Q rest (a.put o.dst (.slice (some ⟨w.heap.size,0,none⟩) n n)) w') :
  wpList Tryz.prog ops Q (o :: rest) a w:=by
 obtain⟨i0,hi,hz0,hz1,hz2⟩:=info_parts Dm;refine wpList_make_full _ hgd lo co T hop w.heap.size 25 i0 (.string ⟨#[]⟩) 1 hT hi hz0 hz1 .i64 .i64 L C n hl hc hL hC (by rw[hz2];omega) (by unfold maxLen;omega) (Iw _) ?_;intro w' hown hg
 have hr:dO w' w.heap.size n (List.replicate n ⟨#[]⟩):=by
  unfold dO
  have e:(madeCells (Value.string ⟨#[]⟩).cells (n*1)).toList=(List.replicate n (⟨#[]⟩:ByteArray)).map .string:=by
   rw[JO];simp[Value.cells,toList_madeCells_one]
  rw[e] at hown;rw[Ke];exact hown
 refine hK w' hr (fun B w0 hb hB=>hb.grown hg hB (fun k h=>by cases h)) hr.lt
theorem Bw (w:World) (base:Nat) (hb:base<=w.heap.size):dh (w.alloc (.cells #[] 25)) base (.slice (some ⟨w.heap.size,0,none⟩) 0 0) [] :=
 ⟨rfl,Or.inr ⟨w.heap.size,0,#[],rfl,hb,heap_alloc_new w _,Iw _,by simp[maxLen],rfl,rfl⟩⟩
theorem gg {w:World}{ops:Array Oper}{rest:List Oper}{o:Oper}{act:Act}{Q:Exit->Act->World->Prop} (T:TypeId)
  (hT:Tryz.prog.underlying T=some (.slice 25)) (hgd:o.guard=none) (s x:Operand)
  (ho:o.op=.call { callee:=.builtin .append,args:=#[s,x],argTypes:=#[T,T] })
  (base:Nat) (v:Value) (l m:List ByteArray) (b off c:Nat) (hs:act.eval s=v) (hown:dh w base v l)
  (hx:act.eval x=.slice (some ⟨b,off,none⟩) m.length c) (hm:IsS w (.slice (some ⟨b,off,none⟩) m.length c) m) (hlen:l.length+m.length<1000000000) (hbase:base<=w.heap.size)
  (h:∀ v' w',dh w' base v' (l++m)->(∀ B w0,Below B w0 w->B<=base->Below B w0 w')->wpList Tryz.prog ops Q rest (act.put o.dst v') w') :
  wpList Tryz.prog ops Q (o :: rest) act w:=by
 obtain⟨i0,hi,hz0,hz1,hz2⟩:=info_parts Dm;refine wpList_append_own _ hgd s x T ho base 25 i0 _ 1 16 hT hi hz0 hz1 hz2 rfl (by decide) v l.length (l.map .string) hs hown ⟨b,off,none⟩ m.length c (m.map .string) hx (by simp) ?_ ?_ ?_ ?_ hbase ?_
 ·intro j u hj;have hj':j<m.length:=by simpa using (Js.1 hj).1
  obtain⟨b',o',e,hlt,hc⟩:=hm.get hj';obtain⟨rfl,rfl⟩:b=b'/\off=o':=by simpa using e
  have ha:(⟨b,off,none⟩:Addr).add j=⟨b,off+j,none⟩:=by
   unfold Addr.add
   split
   ·rename_i h0;subst h0;rfl
   ·rfl
  rw[ha,hc];simpa[hj'] using hj
 ·intro u hu;obtain⟨t,-,rfl⟩:=Kv.1 hu;rfl
 ·unfold maxLen;omega
 ·omega
 ·intro v' w' hown' hg _;refine h v' w' ?_ ?_
  ·unfold dh;rw[IG,LF];exact hown'
  ·intro B w0 hb hB;have hbs:=World.ownsRow.lt hown;exact hb.grown hg (by omega) fun k hk=>by have:=(hbs k hk).1;omega
theorem GN (a:Option Addr) (l c:Nat) (w:World):(binOp .eql 22 (.slice a l c) (.slice none 0 0)).run Tryz.prog w=.ok (.bool a.isNone) w:=by
 simp[binOp,run_equal_slice_nil (h:=Tryz.underlying22),Result.andThen]
theorem xK (v:Value) (l:List ByteArray) (w:World) (hl:IsS w v l) (hpos:0<l.length) (hlen:l.length<100000000) :
  Calls Tryz.prog 65 #[v] w fun e w'=>∃ v',e=.returned v'/\dh w' w.heap.size v' l/\Below w.heap.size w w':=by
 obtain⟨p,c,rfl,hc1,hc2⟩:=id hl.form;obtain⟨b,o,rfl,hlt,-⟩:=hl.get hpos;go_enter Tryz.func65,Tryz.ntmps65;have hb:=aj w (.cells #[] 25);have hE:=Bw w w.heap.size (Iw _);have hL2:=hl.below hb;have EQ:=GN (some ⟨b,o,none⟩) l.length c;simp only[Option.isNone_some] at EQ;go_wp2_with (at_builtin;refine gg 22 Tryz.underlying22 rfl (.tmp 5) (.tmp 6) rfl w.heap.size _ [] l b o c rfl hE rfl hL2 (by simp;omega) (by rw[size_alloc];omega) ?_)
 intro v' w' hw' hb';have hB:=hb' _ _ hb (Iw _);try rw[I8] at hw'
 go_wp2;go_ret;exact⟨_,rfl,hw',hB⟩
end Go.Proofs.YtlhpcoelfhjomaaGreatDoor
