/- L -/
import Derived.Test.YtmakbmhlemhgeaaGreatDoorWCoef
import Derived.Test.YtmakbmhlemhgeaaGreatDoorWB
set_option linter.all false
set_option maxRecDepth 100000
set_option maxHeartbeats 8000000
namespace Go.Proofs.YtmakbmhlemhgeaaGreatDoor
open Go.RowKit Dg
structure GAt (G:FuncId) (f:CQ->CQ->CQ):Prop where
 en:∀ (args:Array Value) (w:World),(callFunc G args).run Tryz.prog w=.ok (.enter G args) w
 on:∀ (x y:Value) (a b:CQ) (w:World),IsK w x a->IsK w y b->Calls Tryz.prog G #[x,y] w fun e w'=>∃ v,e=.returned v/\IsV w' v (ct (f a b))/\Below w.heap.size w w'
theorem ER:GAt 156 CQ.add :=
 ⟨cD Tryz.func156 rfl (by kernel_rfl),fun x y a b w ha hb=>by
  rw[<-fW]
  exact vZ _ _ _ _ _ ha.v hb.v (ha.s.x.fewR hb.s.x (by decide)) (ha.s.y.fewR hb.s.y (by decide))⟩
theorem EL:GAt 177 CQ.sub :=
 ⟨cD Tryz.func177 rfl (by kernel_rfl),fun x y a b w ha hb=>by
  rw[<-oz]
  exact BJ _ _ _ _ _ ha.v hb.v (ha.s.x.fewR hb.s.x.neg (by decide)) (ha.s.y.fewR hb.s.y.neg (by decide))⟩
theorem FW:GAt 155 CQ.mul :=
 ⟨cD Tryz.func155 rfl (by kernel_rfl),fun x y a b w ha hb=>by
  rw[<-cV]
  exact jE _ _ _ _ _ ha.v hb.v (ha.s.fewV hb.s (by decide))⟩
theorem C4 {G:FuncId}{f:CQ->CQ->CQ} (hG:GAt G f) (k:Nat) (w:World) (hc:w.cell? ⟨k,0,none⟩=some (.func (.func G) #[] #[])) (hk:k<w.heap.size) :
  E6 221 #[.pointer (some ⟨k,0,none⟩)] (gl f) w:=by
 refine⟨cD Tryz.func221 rfl (by kernel_rfl),fun x y a b w0 hw ha hb=>?_⟩;have hc0:=(hw.cell (p:=⟨k,0,none⟩) hk).trans hc;have hk0:=GN hk hw.size;have EN:=hG.en;obtain⟨p1,p2,p3,p4,p5,p6,rfl,hax,hay⟩:=id ha.v;obtain⟨r1,r2,r3,r4,r5,r6,rfl,hbx,hby⟩:=id hb.v
 show Calls _ _ #[_,_,.pointer (some ⟨k,0,none⟩)] _ _
 go_enter Tryz.func221,Tryz.ntmps221;go_upto_region 1 with fail
 have E:=vI w0 p1 p2 p3 p4 p5 p6 r1 r2 r3 r4 r5 r6;unfold uT at E;generalize ((w0.alloc (.cells #[p1,p2,p3,p4,p5,p6] 110)).alloc (.cells #[r1,r2,r3,r4,r5,r6] 110)).alloc (.cells #[.bool false,.slice none 0 0,.slice none 0 0,.bool false,.slice none 0 0,.slice none 0 0] 110)=w3 at *
 obtain⟨q1,q2,q3,MD⟩:=E;have c0:=(MD.cell (p:=⟨k,0,none⟩) hk0).trans hc0;have HC:=GF (hG.on _ _ a b w3 (ha.below MD) (hb.below MD));have B3:=GF q3;have MD:=GF MD;have a0:=q1.c0;have a1:=q1.c1;have a2:=q1.c2;have a3:=q1.c3;have a4:=q1.c4;have a5:=q1.c5;have b0:=q2.c0;have b1:=q2.c1;have b2:=q2.c2;have b3:=q2.c3;have b4:=q2.c4;have b5:=q2.c5;clear q1 q2 q3 hax hay hbx hby ha hb hc0 hc;go_wp2_with fail
 refine HC.out.mono ?_;rintro e w4 ⟨v4,rfl,hv4,hb4⟩;obtain⟨x1,x2,x3,y1,y2,y3,rfl,hx,hy⟩:=hv4;obtain⟨xm,xp,xl,xc,xq,xk,xd,hxe⟩:=hx.form;obtain⟨ym,yp,yl,yc,yq,yk,yd,hye⟩:=hy.form;obtain⟨rfl,rfl,rfl⟩:=eU hxe;obtain⟨rfl,rfl,rfl⟩:=eU hye;have B8:=B3.out.below hb4;have k0:=B8.cell 0;have k1:=B8.cell 1;have k2:=B8.cell 2;have k3:=B8.cell 3;have k4:=B8.cell 4;have k5:=B8.cell 5;have f0:=B8.fr 0;have f1:=B8.fr 1;have f2:=B8.fr 2;have f3:=B8.fr 3;have f4:=B8.fr 4;have f5:=B8.fr 5;have P:=GF (B8.putV hx hy);have M8:=GF (P.out.2.2 _ _ (MD.out.trans (hb4.mono MD.out.size)) (by omega));clear hx hy hxe hye B8;go_wp2_with fail
 have q0:=P.out.1.cell 0;have q1:=P.out.1.cell 1;have q2:=P.out.1.cell 2;have q3:=P.out.1.cell 3;have q4:=P.out.1.cell 4;have q5:=P.out.1.cell 5;refine Kh (v:=.tuple #[.agg #[.bool xm,.slice xp xl xc,.slice xq xk xd,.bool ym,.slice yp yl yc,.slice yq yk yd],.int .i64 0]) (by simp[results,Tryz.results221,go_sem,eC] at q0 q1 q2 q3 q4 q5 |-;simp[results,Tryz.results221,go_sem,q0,q1,q2,q3,q4,q5]) rfl ⟨_,_,rfl,P.out.2.1,fun _=>rfl,M8.out⟩
theorem divN (w:World):E6 151 #[] pP w:=by
 refine⟨cD Tryz.func151 rfl (by kernel_rfl),fun x y a b w0 hw ha hb=>?_⟩;obtain⟨p1,p2,p3,p4,p5,p6,rfl,hax,hay⟩:=id ha.v;obtain⟨r1,r2,r3,r4,r5,r6,rfl,hbx,hby⟩:=id hb.v
 show Calls _ _ #[_,_] _ _
 go_enter Tryz.func151,Tryz.ntmps151;go_upto_region 1 with fail
 have E:=vI w0 p1 p2 p3 p4 p5 p6 r1 r2 r3 r4 r5 r6;unfold uT at E;generalize ((w0.alloc (.cells #[p1,p2,p3,p4,p5,p6] 110)).alloc (.cells #[r1,r2,r3,r4,r5,r6] 110)).alloc (.cells #[.bool false,.slice none 0 0,.slice none 0 0,.bool false,.slice none 0 0,.slice none 0 0] 110)=w3 at *
 obtain⟨q1,q2,q3,MD⟩:=E;have HA:=GF (ha.below MD);have HB:=GF (hb.below MD);have HZ:=GF (Dn _ _ _ HB.out.v);have B1:=GF q1;have B2:=GF q2;have B3:=GF q3;have MD:=GF MD;have a0:=q1.c0;have a1:=q1.c1;have a2:=q1.c2;have a3:=q1.c3;have a4:=q1.c4;have a5:=q1.c5;have b0:=q2.c0;have b1:=q2.c1;have b2:=q2.c2;have b3:=q2.c3;have b4:=q2.c4;have b5:=q2.c5;clear q1 q2 q3 hax hay hbx hby ha hb
 have hiff:((ct b).x.n=0/\(ct b).y.n=0)↔b=⟨0,0⟩:=by
  show ((rt b.re).n=0/\(rt b.im).n=0)↔_
  rw[bk,bk];constructor
  ·rintro⟨h1,h2⟩;cases b;simp only at h1 h2;rw[h1,h2]
  ·intro h;rw[h];exact⟨rfl,rfl⟩
 by_cases hbz:b=⟨0,0⟩
 ·rw[decide_eq_true (hiff.2 hbz)] at HZ;have hd:pP a b=(⟨0,0⟩,12):=if_pos hbz;have HD:=GF hd;clear hd;go_wp2_with fail
  refine HZ.out.mono ?_;rintro e w4 ⟨rfl,hb4⟩;have B8:=B3.out.below hb4;have k0:=B8.cell 0;have k1:=B8.cell 1;have k2:=B8.cell 2;have k3:=B8.cell 3;have k4:=B8.cell 4;have k5:=B8.cell 5;have f0:=B8.fr 0;have f1:=B8.fr 1;have f2:=B8.fr 2;have f3:=B8.fr 3;have f4:=B8.fr 4;have f5:=B8.fr 5;have P:=GF (B8.put (a':=.bool false) (b':=.slice none 0 0) (c':=.slice none 0 0) (d':=.bool false) (e':=.slice none 0 0) (f':=.slice none 0 0) nofun nofun nofun nofun nofun nofun);have M8:=GF (P.out.2.2 _ (MD.out.trans (hb4.mono MD.out.size)) (by omega));clear B8;go_wp2_with fail
  have q0:=P.out.1.cell 0;have q1:=P.out.1.cell 1;have q2:=P.out.1.cell 2;have q3:=P.out.1.cell 3;have q4:=P.out.1.cell 4;have q5:=P.out.1.cell 5;have hn:=BE;have hf0:Few 0:=gJ (by decide);refine Kh (v:=.tuple #[iA,.int .i64 12]) (by simp[results,Tryz.results151,go_sem,eC,iA] at q0 q1 q2 q3 q4 q5 |-;simp[results,Tryz.results151,go_sem,q0,q1,q2,q3,q4,q5]) rfl ⟨_,⟨⟨false,0,0⟩,⟨false,0,0⟩⟩,by rw[HD.out];rfl,⟨_,_,_,_,_,_,rfl,⟨_,_,rfl,hn _,hn _,hf0,hf0⟩,⟨_,_,rfl,hn _,hn _,hf0,hf0⟩⟩,fun h=>by rw[HD.out] at h;simp at h,M8.out⟩
 ·rw[decide_eq_false (fun h=>hbz (hiff.1 h))] at HZ;have hd:pP a b=(a.div b,0):=if_neg hbz;have HD:=GF hd;clear hd;go_wp2_with fail
  refine HZ.out.mono ?_;rintro e w4 ⟨rfl,hb4⟩;clear a0 a1 a2 a3 a4 a5 b0 b1 b2 b3 b4 b5;have q1:=B1.out.below hb4;have q2:=B2.out.below hb4;have a0:=q1.c0;have a1:=q1.c1;have a2:=q1.c2;have a3:=q1.c3;have a4:=q1.c4;have a5:=q1.c5;have b0:=q2.c0;have b1:=q2.c1;have b2:=q2.c2;have b3:=q2.c3;have b4:=q2.c4;have b5:=q2.c5;clear q1 q2
  have h0:0<(mI (ct b)).n:=by
   rw[j9];exact IC fun h=>hbz (l_ ((bk _).1 h))
  have HC:=GF (rV _ _ _ _ 10000 10000 w4 (HA.out.v.below hb4) (HB.out.v.below hb4) HA.out.s HB.out.s h0 (by decide));rw[ka hbz] at HC;go_wp2_with fail
  refine HC.out.mono ?_;rintro e w5 ⟨v5,rfl,hv5,hb5⟩;have hB5:=hb4.trans (hb5.mono hb4.size);obtain⟨x1,x2,x3,y1,y2,y3,rfl,hx,hy⟩:=hv5;obtain⟨xm,xp,xl,xc,xq,xk,xd,hxe⟩:=hx.form;obtain⟨ym,yp,yl,yc,yq,yk,yd,hye⟩:=hy.form;obtain⟨rfl,rfl,rfl⟩:=eU hxe;obtain⟨rfl,rfl,rfl⟩:=eU hye;have B8:=B3.out.below hB5;have k0:=B8.cell 0;have k1:=B8.cell 1;have k2:=B8.cell 2;have k3:=B8.cell 3;have k4:=B8.cell 4;have k5:=B8.cell 5;have f0:=B8.fr 0;have f1:=B8.fr 1;have f2:=B8.fr 2;have f3:=B8.fr 3;have f4:=B8.fr 4;have f5:=B8.fr 5;have P:=GF (B8.putV hx hy);have M8:=GF (P.out.2.2 _ _ (MD.out.trans (hB5.mono MD.out.size)) (by omega));clear hx hy hxe hye B8;go_wp2_with fail
  have q0:=P.out.1.cell 0;have q1:=P.out.1.cell 1;have q2:=P.out.1.cell 2;have q3:=P.out.1.cell 3;have q4:=P.out.1.cell 4;have q5:=P.out.1.cell 5;refine Kh (v:=.tuple #[.agg #[.bool xm,.slice xp xl xc,.slice xq xk xd,.bool ym,.slice yp yl yc,.slice yq yk yd],.int .i64 0]) (by simp[results,Tryz.results151,go_sem,eC] at q0 q1 q2 q3 q4 q5 |-;simp[results,Tryz.results151,go_sem,q0,q1,q2,q3,q4,q5]) rfl ⟨_,_,by rw[HD.out],P.out.2.1,fun _=>by rw[HD.out],M8.out⟩
theorem C3 (G:FuncId) (w:World) :
  Calls Tryz.prog 176 #[.func (.func G) #[] #[]] w fun e w'=>∃ k,e=.returned (.func (.func 221) #[] #[.pointer (some ⟨k,0,none⟩)])/\k<w'.heap.size/\w'.cell? ⟨k,0,none⟩=some (.func (.func G) #[] #[])/\Below w.heap.size w w':=by
 go_enter Tryz.func176,Tryz.ntmps176;go_wp2;go_ret;exact⟨_,rfl,by rw[size_alloc];omega,aR _ _ _ _ _ rfl,au _ _⟩
theorem FC (s t:ByteArray) (w:World) (hG:Gw w) :
  Calls Tryz.prog 126 #[.string s,.string t] w fun e w'=>e=.returned (.tuple #[.string (dq (gl CQ.add) s t).1,.int .i64 (dq (gl CQ.add) s t).2])/\Below w.heap.size w w':=by
 obtain⟨r,hr⟩:∃ r,r=dq (gl CQ.add) s t:=⟨_,rfl⟩;rw[<-hr];have HR:=GF hr;clear hr;go_enter Tryz.func126,Tryz.ntmps126;go_wp2_with fail
 refine (C3 _ w).mono ?_;rintro e w1 ⟨k,rfl,hk,hc,hb1⟩;have hp:=xf 221 _ _ s t w1 (hG.below hb1) (C4 ER k w1 hc hk);rw[<-HR.out] at hp;go_wp2_with fail
 refine hp.mono ?_;clear hp;rintro e w2 ⟨rfl,hb2⟩;go_wp2;refine Kh (v:=.tuple #[.string r.1,.int .i64 r.2]) (by simp[results,Tryz.results126,go_sem]) rfl ⟨rfl,hb1.trans (hb2.mono hb1.size)⟩
theorem FG (s t:ByteArray) (w:World) (hG:Gw w) :
  Calls Tryz.prog 128 #[.string s,.string t] w fun e w'=>e=.returned (.tuple #[.string (dq (gl CQ.sub) s t).1,.int .i64 (dq (gl CQ.sub) s t).2])/\Below w.heap.size w w':=by
 obtain⟨r,hr⟩:∃ r,r=dq (gl CQ.sub) s t:=⟨_,rfl⟩;rw[<-hr];have HR:=GF hr;clear hr;go_enter Tryz.func128,Tryz.ntmps128;go_wp2_with fail
 refine (C3 _ w).mono ?_;rintro e w1 ⟨k,rfl,hk,hc,hb1⟩;have hp:=xf 221 _ _ s t w1 (hG.below hb1) (C4 EL k w1 hc hk);rw[<-HR.out] at hp;go_wp2_with fail
 refine hp.mono ?_;clear hp;rintro e w2 ⟨rfl,hb2⟩;go_wp2;refine Kh (v:=.tuple #[.string r.1,.int .i64 r.2]) (by simp[results,Tryz.results128,go_sem]) rfl ⟨rfl,hb1.trans (hb2.mono hb1.size)⟩
theorem FF (s t:ByteArray) (w:World) (hG:Gw w) :
  Calls Tryz.prog 127 #[.string s,.string t] w fun e w'=>e=.returned (.tuple #[.string (dq (gl CQ.mul) s t).1,.int .i64 (dq (gl CQ.mul) s t).2])/\Below w.heap.size w w':=by
 obtain⟨r,hr⟩:∃ r,r=dq (gl CQ.mul) s t:=⟨_,rfl⟩;rw[<-hr];have HR:=GF hr;clear hr;go_enter Tryz.func127,Tryz.ntmps127;go_wp2_with fail
 refine (C3 _ w).mono ?_;rintro e w1 ⟨k,rfl,hk,hc,hb1⟩;have hp:=xf 221 _ _ s t w1 (hG.below hb1) (C4 FW k w1 hc hk);rw[<-HR.out] at hp;go_wp2_with fail
 refine hp.mono ?_;clear hp;rintro e w2 ⟨rfl,hb2⟩;go_wp2;refine Kh (v:=.tuple #[.string r.1,.int .i64 r.2]) (by simp[results,Tryz.results127,go_sem]) rfl ⟨rfl,hb1.trans (hb2.mono hb1.size)⟩
theorem FE (s t:ByteArray) (w:World) (hG:Gw w) :
  Calls Tryz.prog 97 #[.string s,.string t] w fun e w'=>e=.returned (.tuple #[.string (dq pP s t).1,.int .i64 (dq pP s t).2])/\Below w.heap.size w w':=by
 obtain⟨r,hr⟩:∃ r,r=dq pP s t:=⟨_,rfl⟩;have hp:=xf 151 _ _ s t w hG (divN w);rw[<-hr] at hp |-;have HP:=GF hp;clear hr hp;go_enter Tryz.func97,Tryz.ntmps97;go_wp2_with fail
 refine HP.out.mono ?_;rintro e w2 ⟨rfl,hb2⟩;go_wp2;refine Kh (v:=.tuple #[.string r.1,.int .i64 r.2]) (by simp[results,Tryz.results97,go_sem]) rfl ⟨rfl,hb2⟩
theorem lG (s t:ByteArray) (w:World) (hG:Gw w) :
  Calls Tryz.prog 68 #[.string s,.string t] w fun e w'=>e=.returned (.string (jk s t))/\Below w.heap.size w w':=by
 unfold jk;have HP:=GF (FC s t w hG);go_enter Tryz.func68,Tryz.ntmps68;go_wp2_with fail
 refine HP.out.mono ?_;rintro e w2 ⟨rfl,hb2⟩;go_wp2;go_ret;exact⟨rfl,hb2⟩
theorem lH (s t:ByteArray) (w:World) (hG:Gw w) :
  Calls Tryz.prog 70 #[.string s,.string t] w fun e w'=>e=.returned (.string (jC s t))/\Below w.heap.size w w':=by
 unfold jC;have HP:=GF (FG s t w hG);go_enter Tryz.func70,Tryz.ntmps70;go_wp2_with fail
 refine HP.out.mono ?_;rintro e w2 ⟨rfl,hb2⟩;go_wp2;go_ret;exact⟨rfl,hb2⟩
theorem fP (s t:ByteArray) (w:World) (hG:Gw w) :
  Calls Tryz.prog 69 #[.string s,.string t] w fun e w'=>e=.returned (.string (ek s t))/\Below w.heap.size w w':=by
 unfold ek;have HP:=GF (FF s t w hG);go_enter Tryz.func69,Tryz.ntmps69;go_wp2_with fail
 refine HP.out.mono ?_;rintro e w2 ⟨rfl,hb2⟩;go_wp2;go_ret;exact⟨rfl,hb2⟩
theorem gx (s t:ByteArray) (w:World) (hG:Gw w) :
  Calls Tryz.prog 49 #[.string s,.string t] w fun e w'=>e=.returned (.string (cX s t))/\Below w.heap.size w w':=by
 unfold cX;have HP:=GF (FE s t w hG);go_enter Tryz.func49,Tryz.ntmps49;go_wp2_with fail
 refine HP.out.mono ?_;rintro e w2 ⟨rfl,hb2⟩;go_wp2;go_ret;exact⟨rfl,hb2⟩
def cellsOf:Value->List Value
 | .agg a=>a.toList
 | v=>[v]
def dy (es:List Value):List Value:=es.flatMap cellsOf
theorem iJ (es:List Value) (x:Value):dy (es++[x])=dy es++cellsOf x:=by simp[dy]
theorem nX {k:Nat}:∀ {es:List Value},(∀ e∈es,(cellsOf e).length=k)->(dy es).length=es.length*k
 | [],_=>by simp[dy]
 | e :: es,h=>by
  have h1:=h e (by simp);have h2:=nX (es:=es) fun x hx=>h x (by simp[hx]);simp only[dy,Jf,GW,G_] at h2 |-;rw[h1,h2,JT,JP]
theorem nW {k:Nat}:∀ {es:List Value}{i j:Nat} (_:∀ e∈es,(cellsOf e).length=k) (hi:i<es.length) (_:j<k),(dy es)[i*k+j]?=(cellsOf es[i])[j]?
 | e :: es,0,j,h,_,hj=>by
  have h1:=h e (by simp);simp only[dy,Jf,Iu,Hp,GH];rw[I4 (by omega)]
 | e :: es,i+1,j,h,hi,hj=>by
  have h1:=h e (by simp);have h2:=nW (es:=es) (i:=i) (j:=j) (fun x hx=>h x (by simp[hx])) (by simpa using hi) hj;simp only[dy,Jf,GI] at h2 |-;rw[IG (by rw[h1,JT];omega),h1,<-h2];congr 1;rw[JT];omega
def wV (w:World) (p:Option Addr) (k:Nat) (es:List Value):Prop :=
 0<es.length->∃ b o,p=some ⟨b,o,none⟩/\b<w.heap.size/\∀ i (h:i<es.length) j u,(cellsOf es[i])[j]?=some u->w.cell? ⟨b,o+i*k+j,none⟩=some u
theorem wV.below {w w':World}{p:Option Addr}{k:Nat}{es:List Value} (h:wV w p k es) (hb:Below w.heap.size w w'):wV w' p k es:=fun hl=>by
 obtain⟨b,o,e,hlt,hc⟩:=h hl;exact⟨b,o,e,GN hlt hb.size,fun i hi j u hu=>(hb.cell (p:=⟨b,o+i*k+j,none⟩) hlt).trans (hc i hi j u hu)⟩
def fB (w:World) (k:Nat) (v:Value) (es:List Value):Prop:=∃ p cap,v=.slice p es.length cap/\es.length<=cap/\cap<=maxLen/\wV w p k es
theorem fB.below {w w':World}{k:Nat}{v:Value}{es:List Value} (h:fB w k v es) (hb:Below w.heap.size w w'):fB w' k v es:=by
 obtain⟨p,cap,e,h1,h2,h3⟩:=h;exact⟨p,cap,e,h1,h2,h3.below hb⟩
theorem fB.nil (w:World) (k:Nat):fB w k (.slice none 0 0) []:=⟨none,0,rfl,GM _,by simp[maxLen],fun h=>by simp at h⟩
theorem eY {w:World}{base:Nat}{T:TypeId}{k:Nat}{v:Value}{es:List Value} (hk:∀ e∈es,(cellsOf e).length=k) (h:w.ownsRow base T k v es.length (dy es)):fB w k v es:=by
 obtain⟨hlen,h⟩:=h;rcases h with ⟨rfl,h0⟩ | ⟨g,cap,cur,rfl,hg,hh,hn,hm,hs,ht⟩
 ·refine⟨none,0,by rw[h0],by omega,by simp[maxLen],fun hp=>by omega⟩
 ·refine⟨some ⟨g,0,none⟩,cap,rfl,hn,hm,fun _=>⟨g,0,rfl,(GT.1 hh).1,fun i hi j u hu=>?_⟩⟩
  have hj:j<k:=by
   have:=(Ig.1 hu).1
   rwa [hk _ (G7 hi)] at this
  have hb:i*k+j<es.length*k:=by
   have:=GX k (show i+1<=es.length from hi);rw[JT] at this;omega
  rw[World.cell?,hh];simp only[Hp,Hz,G8,if_false];rw[<-IK,<-List.getElem?_take_of_lt hb,ht,nW hk hi hj,hu]
def IsS (w:World) (v:Value) (l:List ByteArray):Prop:=fB w 1 v (l.map .string)
def cR (w:World) (base:Nat) (v:Value) (l:List ByteArray):Prop:=w.ownsRow base 32 1 v l.length (l.map .string)
theorem IsS.below {w w':World}{v:Value}{l:List ByteArray} (h:IsS w v l) (hb:Below w.heap.size w w'):IsS w' v l:=fB.below h hb
theorem lC:∀ l:List ByteArray,dy (l.map .string)=l.map .string
 | []=>rfl
 | s :: l=>by
  have:=lC l;simp only[dy,Ja,Jf] at this |-;rw[this];rfl
theorem pL (l:List ByteArray):∀ e∈l.map Value.string,(cellsOf e).length=1:=by
 intro e he;obtain⟨s,-,rfl⟩:=JM.1 he;rfl
theorem cR.isS {w:World}{base:Nat}{v:Value}{l:List ByteArray} (h:cR w base v l):IsS w v l:=by
 refine eY (pL l) (T:=32) (base:=base) ?_;rw[Hj,lC];exact h
theorem fG {w w':World}{base:Nat}{T:TypeId}{k:Nat}{v:Value}{n:Nat}{xs:List Value} (h:w.ownsRow base T k v n xs) (hb:Below w.heap.size w w'):w'.ownsRow base T k v n xs:=by
 obtain⟨hlen,h⟩:=h;refine⟨hlen,?_⟩;rcases h with h | ⟨g,cap,cur,rfl,hg,hh,r⟩
 ·exact Or.inl h
 ·exact Or.inr ⟨g,cap,cur,rfl,hg,by rw[hb.block g (GT.1 hh).1];exact hh,r⟩
theorem cR.below {w w':World}{base:Nat}{v:Value}{l:List ByteArray} (h:cR w base v l) (hb:Below w.heap.size w w'):cR w' base v l:=fG h hb
theorem cR.nil (w:World) (base:Nat):cR w base (.slice none 0 0) []:=World.ownsRow_nil _ _ _ _
theorem IsS.get {w:World}{p:Option Addr}{n c:Nat}{l:List ByteArray} (h:IsS w (.slice p n c) l) {i:Nat} (hi:i<l.length):∃ b o,p=some ⟨b,o,none⟩/\b<w.heap.size/\w.cell? ⟨b,o+i,none⟩=some (.string l[i]):=by
 obtain⟨p',cap,e,h1,h2,h3⟩:=h;obtain⟨rfl,-,-⟩:p=p'/\n=(l.map Value.string).length/\c=cap:=by simpa using e
 obtain⟨b,o,e2,hlt,hc⟩:=h3 (by rw[Hj];omega);refine⟨b,o,e2,hlt,?_⟩;have:=hc i (by rw[Hj];exact hi) 0 (.string l[i]) (by simp[cellsOf]);simpa using this
theorem IsS.form {w:World}{v:Value}{l:List ByteArray} (h:IsS w v l):∃ p c,v=.slice p l.length c/\l.length<=c/\c<=maxLen:=by
 obtain⟨p,c,e,h1,h2,-⟩:=h;rw[Hj] at e h1;exact⟨p,c,e,h1,h2⟩
def IsP (w:World) (v:Value) (zs:List CQ):Prop:=∃ es:List Value,es.length=zs.length/\fB w 6 v es/\∀ i (h:i<es.length) (h':i<zs.length),IsK w es[i] zs[i]
def pI (w:World) (base:Nat) (v:Value) (zs:List CQ):Prop:=∃ es:List Value,es.length=zs.length/\w.ownsRow base 110 6 v es.length (dy es)/\∀ i (h:i<es.length) (h':i<zs.length),IsK w es[i] zs[i]
theorem IsK.len {w:World}{v:Value}{z:CQ} (h:IsK w v z):(cellsOf v).length=6:=by
 obtain⟨a,b,c,d,e,f,rfl,-⟩:=h.v;rfl
theorem IsK.forms {w:World}{v:Value}{z:CQ} (h:IsK w v z):∃ xm xp xl xc xq xk xd ym yp yl yc yq yk yd,v=.agg #[.bool xm,.slice xp xl xc,.slice xq xk xd,.bool ym,.slice yp yl yc,.slice yq yk yd]:=by
 obtain⟨_,_,_,_,_,_,rfl,hx0,hy0⟩:=h.v;obtain⟨xm,xp,xl,xc,xq,xk,xd,hxe⟩:=hx0.form;obtain⟨ym,yp,yl,yc,yq,yk,yd,hye⟩:=hy0.form;obtain⟨rfl,rfl,rfl⟩:=eU hxe;obtain⟨rfl,rfl,rfl⟩:=eU hye;exact⟨_,_,_,_,_,_,_,_,_,_,_,_,_,_,rfl⟩
theorem lm {w:World}{es:List Value}{zs:List CQ} (hl:es.length=zs.length) (h:∀ i (h:i<es.length) (h':i<zs.length),IsK w es[i] zs[i]):∀ e∈es,(cellsOf e).length=6:=by
 intro e he;obtain⟨i,hi,rfl⟩:=Ht he;exact (h i hi (by omega)).len
theorem IsP.below {w w':World}{v:Value}{zs:List CQ} (h:IsP w v zs) (hb:Below w.heap.size w w'):IsP w' v zs:=by
 obtain⟨es,h1,h2,h3⟩:=h;exact⟨es,h1,h2.below hb,fun i hi hi'=>(h3 i hi hi').below hb⟩
theorem pI.below {w w':World}{base:Nat}{v:Value}{zs:List CQ} (h:pI w base v zs) (hb:Below w.heap.size w w'):pI w' base v zs:=by
 obtain⟨es,h1,h2,h3⟩:=h;exact⟨es,h1,fG h2 hb,fun i hi hi'=>(h3 i hi hi').below hb⟩
theorem pI.isP {w:World}{base:Nat}{v:Value}{zs:List CQ} (h:pI w base v zs):IsP w v zs:=by
 obtain⟨es,h1,h2,h3⟩:=h;exact⟨es,h1,eY (lm h1 h3) h2,h3⟩
theorem pI.nil (w:World) (base:Nat):pI w base (.slice none 0 0) []:=⟨[],rfl,World.ownsRow_nil _ _ _ _,fun i h=>by simp at h⟩
theorem IsP.nil (w:World):IsP w (.slice none 0 0) []:=(pI.nil w 0).isP
theorem IsP.form {w:World}{v:Value}{zs:List CQ} (h:IsP w v zs):∃ p c,v=.slice p zs.length c/\zs.length<=c/\c<=maxLen:=by
 obtain⟨es,h1,⟨p,c,e,h2,h3,-⟩,-⟩:=h;rw[h1] at e h2;exact⟨p,c,e,h2,h3⟩
theorem IsP.get {w:World}{p:Option Addr}{n c:Nat}{zs:List CQ} (h:IsP w (.slice p n c) zs) {i:Nat} (hi:i<zs.length) :
  ∃ B o,p=some ⟨B,o,none⟩/\B<w.heap.size/\∃ xm xp xl xc xq xk xd ym yp yl yc yq yk yd,IsK w (.agg #[.bool xm,.slice xp xl xc,.slice xq xk xd,.bool ym,.slice yp yl yc,.slice yq yk yd]) zs[i] /\
   w.cell? ⟨B,o+i*6,none⟩=some (.bool xm)/\w.cell? ⟨B,o+i*6+1,none⟩=some (.slice xp xl xc)/\w.cell? ⟨B,o+i*6+2,none⟩=some (.slice xq xk xd) /\
   w.cell? ⟨B,o+i*6+3,none⟩=some (.bool ym)/\w.cell? ⟨B,o+i*6+4,none⟩=some (.slice yp yl yc)/\w.cell? ⟨B,o+i*6+5,none⟩=some (.slice yq yk yd):=by
 obtain⟨es,h1,⟨p',cap,e,h2,h3,h4⟩,h5⟩:=h;obtain⟨rfl,-,-⟩:p=p'/\n=es.length/\c=cap:=by simpa using e
 obtain⟨b,o,e2,hlt,hc⟩:=h4 (by omega);have hk:=h5 i (by omega) hi;obtain⟨xm,xp,xl,xc,xq,xk,xd,ym,yp,yl,yc,yq,yk,yd,he⟩:=hk.forms;have hc:=hc i (by omega);rw[he] at hk hc;exact⟨b,o,e2,hlt,_,_,_,_,_,_,_,_,_,_,_,_,_,_,hk,hc 0 _ rfl,hc 1 _ rfl,hc 2 _ rfl,hc 3 _ rfl,hc 4 _ rfl,hc 5 _ rfl⟩
def ra (u:Value):Prop:=∀ z,u≠.int .u64 z
def NoU (w:World) (v:Value):Prop:=∀ g,v.ownBlock=some g->∀ j z,w.cell? ⟨g,j,none⟩≠some (.int .u64 z)
theorem yC {zs:Array Value}{n:Nat} (h:∀ u∈zs,ra u):∀ u∈Builtin.zeroCells zs n,ra u:=by
 intro u hu;unfold Builtin.zeroCells at hu;obtain⟨i,hi,rfl⟩:=Array.mem_map.1 hu;have hi2:i<n*zs.size:=by simpa using hi
 have hp:0<zs.size:=by
  rcases Ii zs.size with h0 | h0
  ·rw[h0] at hi2;simp at hi2
  ·exact h0
 have hm:=Il i hp;rw[getElem!_pos zs (i % zs.size) hm];exact h _ (J2 hm)
theorem qB {w:World}{cs:Array Value}{e:TypeId}{n c:Nat} (h:∀ u∈cs,ra u):NoU (w.alloc (.cells cs e)) (.slice (some ⟨w.heap.size,0,none⟩) n c):=by
 intro g hg j z hc;simp only[Value.ownBlock,Option.some.injEq] at hg;subst hg;rw[World.cell?,heap_alloc_new] at hc;simp only[Hz,G8,if_false] at hc;exact h _ (Ib hc) z rfl
section
variable {P : Program} (w : World)
theorem r9 (base:Nat) (t ty e:TypeId) (i:TypeInfo) (z:Value) (size bytes:Nat) (ht:P.underlying t=some (.slice e)) (hi:P.info? e=some i) (hz:i.zero=some z)
  (hsize:i.size=size) (hby:i.bytes=bytes) (hzs:z.cells.size=size) (hsz:0<size) (hzn:∀ u∈z.cells,ra u)
  (v:Value) (n:Nat) (xs:List Value) (hown:w.ownsRow base e size v n xs) (hnu:NoU w v)
  (a:Addr) (c:Nat) (news:List Value) (hl:news.length=size) (hnews:∀ j u,news[j]?=some u->w.cell? (a.add j)=some u) (h1:∀ u∈news,u.oneCell'=true) (hn1:∀ u∈news,ra u)
  (h63:n+1<=maxLen) (hbytes:(n+1)*bytes<=140737488355328) (hbase:base<=w.heap.size) :
  ∃ v' w',(Builtin.append_ #[t,t] ty #[v,.slice (some a) 1 c]).run P w=.ok v' w'/\w'.ownsRow base e size v' (n+1) (xs++news)/\w.grownBy w' v.ownBlock/\NoU w' v':=by
 obtain⟨v',w',hr,h2,h3,-⟩:=run_append_own (P:=P) w base t ty e i z size bytes ht hi hz hsize hby hzs hsz v n xs hown a 1 c news (by omega) hnews h1 h63 hbytes hbase;refine⟨v',w',hr,h2,h3,?_⟩;have hsmall:n+1<=9223372036854775807:=by simp only[maxLen] at h63;omega
 subst hsize;subst hby;rcases hown.2 with ⟨rfl,rfl⟩ | ⟨g,cap,cur,rfl,hbg,hg,hnc,hcm,hcs,htake⟩
 ·have hr':=run_append_nil (P:=P) w t ty e i z ht hi hz a 1 c news (by omega) hnews (by omega) (by omega) (by omega);rw[hr'] at hr
  cases hr
  exact qB (w:=w.drew) fun u hu=>by
   rcases I6.1 hu with h | h
   ·exact hn1 u (by simpa using h)
   ·exact yC hzn u h
 ·by_cases hroom:n+1<=cap
  ·have hfit:n*i.size+news.length<=cur.size:=by rw[hl,hcs,<-JT];exact GX _ hroom
   have hr':=run_append_room (P:=P) w t ty e i ht hi g n cap cur hg a 1 c news (by omega) hnews h1 hroom hfit;rw[hr'] at hr
   cases hr
   intro g' hg' j y hc;simp only[Value.ownBlock,Option.some.injEq] at hg';subst hg';rw[World.cell?,setRow_heap w g cur _ e _ hg] at hc;simp only[Hz,G8,if_false] at hc;have hm:=Ib hc
   have old:∀ u∈cur.toList,ra u:=fun u hu z' h'=>by
    obtain⟨k,hk,he⟩:=Ht hu;refine hnu g rfl k z' ?_;rw[World.cell?,hg];simp only[Hz,G8,if_false];rw[IM (by simpa using hk),<-h',<-he];simp
   simp only[List.mem_toArray,Ik] at hm;rcases hm with (h | h) | h
   ·exact old _ (IP h) y rfl
   ·exact hn1 _ h y rfl
   ·exact old _ (Ia h) y rfl
  ·have holds:∀ j u,xs[j]?=some u->w.cell? ((⟨g,0,none⟩:Addr).add j)=some u:=hown.cells (g:=g) rfl;have hr':=run_append_grow (P:=P) w t ty e i z ht hi hz ⟨g,0,none⟩ n cap xs hown.1 holds a 1 c news (by omega) hnews (by omega) (by omega) (growslice_fits (by omega) hbytes);rw[hr'] at hr
   cases hr
   exact qB (w:=w.drew) fun u hu=>by
    rcases I6.1 hu with h | h
    ·rcases I6.1 h with h | h
     ·intro z' h';obtain⟨k,hk,he⟩:=Ht (show u∈xs by simpa using h);have:=holds k u (by rw[G4 hk,he]);have ha:(⟨g,0,none⟩:Addr).add k=⟨g,k,none⟩:=by unfold Addr.add;split<;>simp_all
      rw[ha,h'] at this;exact hnu g rfl k z' this
     ·exact hn1 u (by simpa using h)
    ·exact yC hzn u h
theorem gh {ops:Array Oper}{rest:List Oper}{o:Oper}{a:Act}{Q:Exit->Act->World->Prop} (hgd:o.guard=none) (s x:Operand) (t:TypeId)
  (ho:o.op=.call { callee:=.builtin .append,args:=#[s,x],argTypes:=#[t,t] })
  (base:Nat) (e:TypeId) (i:TypeInfo) (z:Value) (size bytes:Nat) (ht:P.underlying t=some (.slice e)) (hi:P.info? e=some i) (hz:i.zero=some z)
  (hsize:i.size=size) (hby:i.bytes=bytes) (hzs:z.cells.size=size) (hsz:0<size) (hzn:∀ u∈z.cells,ra u)
  (v:Value) (n:Nat) (xs:List Value) (hs:a.eval s=v) (hown:w.ownsRow base e size v n xs) (hnu:NoU w v)
  (ad:Addr) (c:Nat) (news:List Value) (hx:a.eval x=.slice (some ad) 1 c) (hl:news.length=size) (hnews:∀ j u,news[j]?=some u->w.cell? (ad.add j)=some u) (h1:∀ u∈news,u.oneCell'=true) (hn1:∀ u∈news,ra u)
  (h63:n+1<=maxLen) (hbytes:(n+1)*bytes<=140737488355328) (hbase:base<=w.heap.size)
  (h:∀ v' w',w'.ownsRow base e size v' (n+1) (xs++news)->w.grownBy w' v.ownBlock->NoU w' v'->wpList P ops Q rest (a.put o.dst v') w'):wpList P ops Q (o :: rest) a w:=by
 refine wpList_plain hgd fun K hK=>?_;obtain⟨v',w',hr,h2,h3,h4⟩:=r9 (P:=P) w base t o.type e i z size bytes ht hi hz hsize hby hzs hsz hzn v n xs hown hnu ad c news hl hnews h1 hn1 h63 hbytes hbase;unfold Oper.wp execOp;simp only[ho,resolve,invoke,builtin,Sem.run_bind,Sem.run_pure,Result.andThen_ok,Jm,Ja,JL,hs,hx,hr];exact hK _ _ (h v' w' h2 h3 h4)
end
theorem IsU.grown {w w':World}{u v:Value}{l:List Nat} (h:IsU w u l) (hnu:NoU w v) (hg:w.grownBy w' v.ownBlock):IsU w' u l:=by
 obtain⟨p,cap,e,h1,h2,h3⟩:=h;refine⟨p,cap,e,h1,h2,fun hl=>?_⟩;obtain⟨b,o,e2,hlt,hc⟩:=h3 hl;have hne:some b≠v.ownBlock:=fun e3=>hnu b e3.symm (o+0) _ (hc 0 hl);exact⟨b,o,e2,GN hlt hg.size,fun j hj=>hg.cell (hc j hj) hne⟩
theorem IsR.keepU {w w':World}{v:Value}{r:Rt} (h:IsR w v r) (hk:∀ u l,IsU w u l->IsU w' u l):IsR w' v r:=by
 obtain⟨n,d,e,h1,h2,h3,h4⟩:=h;exact⟨n,d,e,hk _ _ h1,hk _ _ h2,h3,h4⟩
theorem IsV.keepU {w w':World}{v:Value}{z:Vl} (h:IsV w v z) (hk:∀ u l,IsU w u l->IsU w' u l):IsV w' v z:=by
 obtain⟨a,b,c,d,e,f,e1,h1,h2⟩:=h;exact⟨a,b,c,d,e,f,e1,h1.keepU hk,h2.keepU hk⟩
theorem IsK.keepU {w w':World}{v:Value}{z:CQ} (h:IsK w v z) (hk:∀ u l,IsU w u l->IsU w' u l):IsK w' v z:=⟨h.v.keepU hk,h.s⟩
theorem Bv:(Tryz.prog.info? 110).map (fun i=>(i.zero,i.size,i.bytes))=some (some (.agg #[.bool false,.slice none 0 0,.slice none 0 0,.bool false,.slice none 0 0,.slice none 0 0]),6,112):=by kernel_rfl
theorem Gl:(Tryz.prog.info? 106).map (fun i=>(i.zero,i.size,i.bytes))=some (some (.agg #[.bool false,.slice none 0 0,.slice none 0 0]),3,56):=by kernel_rfl
theorem Bu:(Tryz.prog.info? 32).map (fun i=>(i.zero,i.size,i.bytes))=some (some (.string ⟨#[]⟩),1,16):=by kernel_rfl
structure dV (w:World) (base:Nat) (v:Value) (zs:List CQ):Prop where
 p:pI w base v zs
 nu:NoU w v
theorem NoU.below {w w':World}{v:Value}{base:Nat}{T:TypeId}{k n:Nat}{xs:List Value} (h:NoU w v) (ho:w.ownsRow base T k v n xs) (hb:Below w.heap.size w w'):NoU w' v:=by
 intro g hg j z hc;rw[hb.cell (p:=⟨g,j,none⟩) (ho.lt g hg).2] at hc;exact h g hg j z hc
theorem dV.below {w w':World}{base:Nat}{v:Value}{zs:List CQ} (h:dV w base v zs) (hb:Below w.heap.size w w'):dV w' base v zs:=by
 obtain⟨es,h1,h2,h3⟩:=h.p;exact⟨h.p.below hb,h.nu.below h2 hb⟩
theorem dV.nil (w:World) (base:Nat):dV w base (.slice none 0 0) []:=⟨pI.nil w base,fun g hg=>by cases hg⟩
theorem dV.isP {w:World}{base:Nat}{v:Value}{zs:List CQ} (h:dV w base v zs):IsP w v zs:=h.p.isP
theorem sO (w:World) (a b c d e f:Value) (T:TypeId):∀ (j:Nat) (u:Value),[a,b,c,d,e,f][j]?=some u->(w.alloc (.cells #[a,b,c,d,e,f] T)).cell? ((⟨w.heap.size,0,none⟩:Addr).add j)=some u:=by
 intro j u hj;have ha:(⟨w.heap.size,0,none⟩:Addr).add j=⟨w.heap.size,j,none⟩:=by unfold Addr.add;split<;>simp_all
 rw[ha];exact aR w _ T j u (by simpa using hj)
theorem eT {w:World}{ops:Array Oper}{rest:List Oper}{o:Oper}{act:Act}{Q:Exit->Act->World->Prop} (T:TypeId)
  (hT:Tryz.prog.underlying T=some (.slice 110)) (hgd:o.guard=none) (s x:Operand)
  (ho:o.op=.call { callee:=.builtin .append,args:=#[s,x],argTypes:=#[T,T] })
  (base:Nat) (v:Value) (zs:List CQ) (a b c d e f:Value) (z:CQ) (hs:act.eval s=v) (hown:dV w base v zs) (hk:IsK w (.agg #[a,b,c,d,e,f]) z)
  (hx:act.eval x=.slice (some ⟨w.heap.size,0,none⟩) 1 1) (hlen:zs.length<1000000000) (hbase:base<=w.heap.size)
  (h:∀ v' w',dV w' base v' (zs++[z])->(∀ B w0,Below B w0 w->B<=base->Below B w0 w')->(∀ u l,IsU w u l->IsU w' u l)->wpList Tryz.prog ops Q rest (act.put o.dst v') w') :
  wpList Tryz.prog ops Q (o :: rest) act (w.alloc (.cells #[a,b,c,d,e,f] 110)):=by
 obtain⟨es,h1,h2,h3⟩:=hown.p;obtain⟨i0,hi,hz0,hz1,hz2⟩:=info_parts Bv;have hb:=au w (.cells #[a,b,c,d,e,f] 110);obtain⟨xm,xp,xl,xc,xq,xk,xd,ym,yp,yl,yc,yq,yk,yd,he⟩:=hk.forms;obtain⟨rfl,rfl,rfl,rfl,rfl,rfl⟩:a=.bool xm/\b=.slice xp xl xc/\c=.slice xq xk xd/\d=.bool ym/\e=.slice yp yl yc/\f=.slice yq yk yd:=by simpa using he
 have hnu:=hown.nu.below h2 hb;refine gh _ hgd s x T ho base 110 i0 _ 6 112 hT hi hz0 hz1 hz2 rfl (by decide) ?_ v es.length (dy es) hs (h2.alloc _) hnu ⟨w.heap.size,0,none⟩ 1 [.bool xm,.slice xp xl xc,.slice xq xk xd,.bool ym,.slice yp yl yc,.slice yq yk yd] hx rfl (sO w _ _ _ _ _ _ _) ?_ ?_ ?_ ?_ ?_ ?_
 ·intro u hu z' e';subst e';simp[Value.cells] at hu
 ·intro u hu;simp at hu;rcases hu with rfl | rfl | rfl | rfl | rfl | rfl<;>rfl
 ·intro u hu z' e';subst e';simp at hu
 ·unfold maxLen;omega
 ·omega
 ·rw[size_alloc];omega
 ·intro v' w' g1 g2 g3;have hkeep:∀ u l,IsU w u l->IsU w' u l:=fun u l hu=>(hu.below hb).grown hnu g2;refine h v' w' ⟨⟨es++[.agg #[.bool xm,.slice xp xl xc,.slice xq xk xd,.bool ym,.slice yp yl yc,.slice yq yk yd]],by simp[h1],?_,?_⟩,g3⟩ ?_ hkeep
  ·rw[GW,iJ];exact g1
  ·intro i hi' hi2;by_cases hlt:i<es.length
   ·rw[Hi hlt,Hi (by omega)];exact (h3 i hlt (by omega)).keepU hkeep
   ·have hie:i=es.length:=by simp at hi';omega
    subst hie;rw[Hg (GM _),Hg (by omega)];simpa[h1] using hk.keepU hkeep
  ·intro B w0 hB hBb;refine (hB.alloc (by have:=hbase;omega) _).grown g2 (by rw[size_alloc];omega) ?_;intro k hk';have:=(h2.lt k hk').1;omega
structure IsQ (w:World) (v:Value) (q:Rat):Prop where
 v:IsR w v (rt q)
 s:Sz 10000 (rt q)
theorem IsQ.below {w w':World}{v:Value}{q:Rat} (h:IsQ w v q) (hb:Below w.heap.size w w'):IsQ w' v q:=⟨h.v.below hb,h.s⟩
theorem IsQ.keepU {w w':World}{v:Value}{q:Rat} (h:IsQ w v q) (hk:∀ u l,IsU w u l->IsU w' u l):IsQ w' v q:=⟨h.v.keepU hk,h.s⟩
theorem IsQ.forms {w:World}{v:Value}{q:Rat} (h:IsQ w v q):∃ xm xp xl xc xq xk xd,v=.agg #[.bool xm,.slice xp xl xc,.slice xq xk xd]:=h.v.form
theorem IsQ.len {w:World}{v:Value}{q:Rat} (h:IsQ w v q):(cellsOf v).length=3:=by
 obtain⟨xm,xp,xl,xc,xq,xk,xd,rfl⟩:=h.forms;rfl
def IsL (w:World) (v:Value) (qs:List Rat):Prop:=∃ es:List Value,es.length=qs.length/\fB w 3 v es/\∀ i (h:i<es.length) (h':i<qs.length),IsQ w es[i] qs[i]
structure mV (w:World) (base:Nat) (v:Value) (qs:List Rat):Prop where
 p:∃ es:List Value,es.length=qs.length/\w.ownsRow base 106 3 v es.length (dy es)/\∀ i (h:i<es.length) (h':i<qs.length),IsQ w es[i] qs[i]
 nu:NoU w v
theorem IsL.below {w w':World}{v:Value}{qs:List Rat} (h:IsL w v qs) (hb:Below w.heap.size w w'):IsL w' v qs:=by
 obtain⟨es,h1,h2,h3⟩:=h;exact⟨es,h1,h2.below hb,fun i hi hi'=>(h3 i hi hi').below hb⟩
theorem mV.below {w w':World}{base:Nat}{v:Value}{qs:List Rat} (h:mV w base v qs) (hb:Below w.heap.size w w'):mV w' base v qs:=by
 obtain⟨es,h1,h2,h3⟩:=h.p;exact⟨⟨es,h1,fG h2 hb,fun i hi hi'=>(h3 i hi hi').below hb⟩,h.nu.below h2 hb⟩
theorem mV.nil (w:World) (base:Nat):mV w base (.slice none 0 0) []:=⟨⟨[],rfl,World.ownsRow_nil _ _ _ _,fun i h=>by simp at h⟩,fun g hg=>by cases hg⟩
theorem mV.isL {w:World}{base:Nat}{v:Value}{qs:List Rat} (h:mV w base v qs):IsL w v qs:=by
 obtain⟨es,h1,h2,h3⟩:=h.p;refine⟨es,h1,eY (fun e he=>?_) h2,h3⟩;obtain⟨i,hi,rfl⟩:=Ht he;exact (h3 i hi (by omega)).len
theorem IsL.nil (w:World):IsL w (.slice none 0 0) []:=(mV.nil w 0).isL
theorem IsL.get {w:World}{p:Option Addr}{n c:Nat}{qs:List Rat} (h:IsL w (.slice p n c) qs) {i:Nat} (hi:i<qs.length) :
  ∃ B o,p=some ⟨B,o,none⟩/\B<w.heap.size/\∃ xm xp xl xc xq xk xd,IsQ w (.agg #[.bool xm,.slice xp xl xc,.slice xq xk xd]) qs[i] /\
   w.cell? ⟨B,o+i*3,none⟩=some (.bool xm)/\w.cell? ⟨B,o+i*3+1,none⟩=some (.slice xp xl xc)/\w.cell? ⟨B,o+i*3+2,none⟩=some (.slice xq xk xd):=by
 obtain⟨es,h1,⟨p',cap,e,h2,h3,h4⟩,h5⟩:=h;obtain⟨rfl,-,-⟩:p=p'/\n=es.length/\c=cap:=by simpa using e
 obtain⟨b,o,e2,hlt,hc⟩:=h4 (by omega);have hk:=h5 i (by omega) hi;obtain⟨xm,xp,xl,xc,xq,xk,xd,he⟩:=hk.forms;have hc:=hc i (by omega);rw[he] at hk hc;exact⟨b,o,e2,hlt,_,_,_,_,_,_,_,hk,hc 0 _ rfl,hc 1 _ rfl,hc 2 _ rfl⟩
theorem IsL.form {w:World}{v:Value}{qs:List Rat} (h:IsL w v qs):∃ p c,v=.slice p qs.length c/\qs.length<=c/\c<=maxLen:=by
 obtain⟨es,h1,⟨p,c,e,h2,h3,-⟩,-⟩:=h;rw[h1] at e h2;exact⟨p,c,e,h2,h3⟩
theorem u_ (w:World) (a b c:Value) (T:TypeId):∀ (j:Nat) (u:Value),[a,b,c][j]?=some u->(w.alloc (.cells #[a,b,c] T)).cell? ((⟨w.heap.size,0,none⟩:Addr).add j)=some u:=by
 intro j u hj;have ha:(⟨w.heap.size,0,none⟩:Addr).add j=⟨w.heap.size,j,none⟩:=by unfold Addr.add;split<;>simp_all
 rw[ha];exact aR w _ T j u (by simpa using hj)
theorem m_ {w:World}{ops:Array Oper}{rest:List Oper}{o:Oper}{act:Act}{Q:Exit->Act->World->Prop} (T:TypeId)
  (hT:Tryz.prog.underlying T=some (.slice 106)) (hgd:o.guard=none) (s x:Operand)
  (ho:o.op=.call { callee:=.builtin .append,args:=#[s,x],argTypes:=#[T,T] })
  (base:Nat) (v:Value) (qs:List Rat) (a b c:Value) (q:Rat) (hs:act.eval s=v) (hown:mV w base v qs) (hk:IsQ w (.agg #[a,b,c]) q)
  (hx:act.eval x=.slice (some ⟨w.heap.size,0,none⟩) 1 1) (hlen:qs.length<1000000000) (hbase:base<=w.heap.size)
  (h:∀ v' w',mV w' base v' (qs++[q])->(∀ B w0,Below B w0 w->B<=base->Below B w0 w')->(∀ u l,IsU w u l->IsU w' u l)->wpList Tryz.prog ops Q rest (act.put o.dst v') w') :
  wpList Tryz.prog ops Q (o :: rest) act (w.alloc (.cells #[a,b,c] 106)):=by
 obtain⟨es,h1,h2,h3⟩:=hown.p;obtain⟨i0,hi,hz0,hz1,hz2⟩:=info_parts Gl;have hb:=au w (.cells #[a,b,c] 106);obtain⟨xm,xp,xl,xc,xq,xk,xd,he⟩:=hk.forms;obtain⟨rfl,rfl,rfl⟩:=eU he;have hnu:=hown.nu.below h2 hb;refine gh _ hgd s x T ho base 106 i0 _ 3 56 hT hi hz0 hz1 hz2 rfl (by decide) ?_ v es.length (dy es) hs (h2.alloc _) hnu ⟨w.heap.size,0,none⟩ 1 [.bool xm,.slice xp xl xc,.slice xq xk xd] hx rfl (u_ w _ _ _ _) ?_ ?_ ?_ ?_ ?_ ?_
 ·intro u hu z' e';subst e';simp[Value.cells] at hu
 ·intro u hu;simp at hu;rcases hu with rfl | rfl | rfl<;>rfl
 ·intro u hu z' e';subst e';simp at hu
 ·unfold maxLen;omega
 ·omega
 ·rw[size_alloc];omega
 ·intro v' w' g1 g2 g3;have hkeep:∀ u l,IsU w u l->IsU w' u l:=fun u l hu=>(hu.below hb).grown hnu g2;refine h v' w' ⟨⟨es++[.agg #[.bool xm,.slice xp xl xc,.slice xq xk xd]],by simp[h1],?_,?_⟩,g3⟩ ?_ hkeep
  ·rw[GW,iJ];exact g1
  ·intro i hi' hi2;by_cases hlt:i<es.length
   ·rw[Hi hlt,Hi (by omega)];exact (h3 i hlt (by omega)).keepU hkeep
   ·have hie:i=es.length:=by simp at hi';omega
    subst hie;rw[Hg (GM _),Hg (by omega)];simpa[h1] using hk.keepU hkeep
  ·intro B w0 hB hBb;refine (hB.alloc (by have:=hbase;omega) _).grown g2 (by rw[size_alloc];omega) ?_;intro k hk';have:=(h2.lt k hk').1;omega
theorem bH {w:World}{ops:Array Oper}{rest:List Oper}{o:Oper}{act:Act}{Q:Exit->Act->World->Prop} (T:TypeId)
  (hT:Tryz.prog.underlying T=some (.slice 32)) (hgd:o.guard=none) (s x:Operand)
  (ho:o.op=.call { callee:=.builtin .append,args:=#[s,x],argTypes:=#[T,T] })
  (base:Nat) (v:Value) (l:List ByteArray) (t:ByteArray) (hs:act.eval s=v) (hown:cR w base v l)
  (hx:act.eval x=.slice (some ⟨w.heap.size,0,none⟩) 1 1) (hlen:l.length<1000000000) (hbase:base<=w.heap.size)
  (h:∀ v' w',cR w' base v' (l++[t])->(∀ B w0,Below B w0 w->B<=base->Below B w0 w')->wpList Tryz.prog ops Q rest (act.put o.dst v') w') :
  wpList Tryz.prog ops Q (o :: rest) act (w.alloc (.cells #[.string t] 32)):=by
 obtain⟨i0,hi,hz0,hz1,hz2⟩:=info_parts Bu
 refine wpList_append_own _ hgd s x T ho base 32 i0 _ 1 16 hT hi hz0 hz1 hz2 rfl (by decide) v l.length (l.map .string) hs (World.ownsRow.alloc hown _) ⟨w.heap.size,0,none⟩ 1 1 [.string t] hx rfl ?_ ?_ ?_ ?_ ?_ ?_
 ·intro j u hj
  match j,hj with
  | 0,hj =>
   simp at hj
   subst hj
   exact aR w _ _ 0 _ rfl
 ·intro u hu
  simp at hu
  subst hu
  rfl
 ·unfold maxLen;omega
 ·omega
 ·rw[size_alloc];omega
 ·intro v' w' hown' hg _
  refine h v' w' ?_ ?_
  ·unfold cR
   rw[GW,Kb];exact hown'
  ·intro B w0 hb hB
   have hbs:=World.ownsRow.lt hown
   refine (hb.alloc (by omega) _).grown hg (by rw[size_alloc];omega) ?_
   intro k hk
   have:=(hbs k hk).1
   omega
open Go.RowKit Dg
def allC:List ByteArray->Option (List CQ)
 | []=>some []
 | s :: l=>match fz s,allC l with
  | some z,some zs=>some (z :: zs)
  | _,_=>none
theorem yK {l:List ByteArray}{s:ByteArray}:allC (l++[s])=match allC l,fz s with | some zs,some z=>some (zs++[z]) | _,_=>none:=by
 induction l with
 | nil=>simp only[Hh,allC];cases fz s<;>rfl
 | cons a l ih =>
  simp only[Hn,allC,ih]
  cases fz a<;>cases allC l<;>cases fz s<;>rfl
theorem yL {l:List ByteArray}{i:Nat} (hi:i<l.length):allC (l.take (i+1))=match allC (l.take i),fz l[i] with | some zs,some z=>some (zs++[z]) | _,_=>none:=by
 rw[show l.take (i+1)=l.take i++[l[i]] from (GZ hi).symm,yK]
theorem AF {l:List ByteArray}{i:Nat} (hi:i<l.length) (h:fz l[i]=none):allC l=none:=by
 induction l generalizing i with
 | nil=>simp at hi
 | cons a l ih =>
  cases i with
  | zero =>
   simp only[GH] at h;simp only[allC,h]
  | succ i =>
   have:=ih (i:=i) (by simpa using hi) (by simpa using h);simp only[allC,this]
   cases fz a<;>rfl
theorem gO:∀ {l:List ByteArray}{zs:List CQ},allC l=some zs->zs.length=l.length
 | [],zs,h=>by cases h;rfl
 | a :: l,zs,h=>by
  simp only[allC] at h
  cases ha:fz a with
  | none=>rw[ha] at h;cases h
  | some z =>
   cases hl:allC l with
   | none=>rw[ha,hl] at h;cases h
   | some ys =>
    rw[ha,hl] at h
    cases h
    simp[gO hl]
theorem AG (v:Value) (l:List ByteArray) (w:World) (hl:IsS w v l) (hlen:l.length<1000000000) (hG:Gw w) :
  Calls Tryz.prog 129 #[v,.func (.func 121) #[] #[]] w fun e w'=>∃ v' ok,e=.returned (.tuple #[v',.bool ok])/\((∃ zs,allC l=some zs/\ok=true/\IsP w' v' zs)\/(allC l=none/\ok=false/\v'=.slice none 0 0))/\Below w.heap.size w w':=by
 obtain⟨p,c,rfl,hc1,hc2⟩:=hl.form;have HL:=GF hl;have HG:=GF hG;clear hl hG;go_enter Tryz.func129,Tryz.ntmps129;go_wp2;go_loopw [6,13] (fun s6 s13 wr=>∃ (i:Nat) (zs:List CQ),s13=.int .i64 i/\i<=l.length/\dV wr w.heap.size s6 zs/\Below w.heap.size w wr/\Hid (allC (l.take i)=some zs)) (fun _ s13 _=>l.length-(intOf s13).toNat)
 case atStart=>exact⟨0,[],rfl,GY _,dV.nil _ _,Ki _ _,rfl⟩
 case round =>
  obtain⟨i,zs,rfl,hin,hown,hbr,hall⟩:=hrel;by_cases hi:i<l.length
  ·obtain⟨b,o,rfl,hbl,hcell⟩:=(HL.out.below hbr).get hi;obtain⟨s,hs⟩:∃ s,s=l[i]:=⟨_,rfl⟩;rw[<-hs] at hcell;have HS:=GF hs;clear hs;go_wp2_with fail
   refine (kx s wr (HG.out.below hbr)).mono ?_;rintro e w1 ⟨v1,ok,rfl,hcase,hb1⟩;have hB1:=hbr.trans (hb1.mono hbr.size);rcases hcase with ⟨z,hz,rfl,hv⟩ | ⟨hz,rfl,rfl⟩
   ·obtain⟨q,rfl,hp1,hp2,-,-⟩:=jr hz;have hk:IsK w1 v1 q:=⟨hv,hp2.mono (by decide)⟩;have hstep:allC (l.take (i+1))=some (zs++[q]):=by rw[yL hi,hall.out,<-HS.out,hp1]
    have HT:=GF hstep;obtain⟨xm,xp,xl,xc,xq,xk,xd,ym,yp,yl,yc,yq,yk,yd,rfl⟩:=hk.forms;have hw1:=hown.below hb1;clear hz hv hp1 hp2 hstep hown hb1 hbr hcell hall;go_upto_region 6 with fail
    have q1:=cE.new w1 (.bool xm) (.slice xp xl xc) (.slice xq xk xd) (.bool ym) (.slice yp yl yc) (.slice yq yk yd) 110;have m1:=au w1 (.cells #[.bool xm,.slice xp xl xc,.slice xq xk xd,.bool ym,.slice yp yl yc,.slice yq yk yd] 110);generalize w1.alloc (.cells #[.bool xm,.slice xp xl xc,.slice xq xk xd,.bool ym,.slice yp yl yc,.slice yq yk yd] 110)=w2 at *
    have a0:=q1.c0;have a1:=q1.c1;have a2:=q1.c2;have a3:=q1.c3;have a4:=q1.c4;have a5:=q1.c5;have hB2:=hB1.trans (m1.mono hB1.size);have hk2:=hk.below m1;have hw2:=hw1.below m1;have hbs:=hB2.size;have hzl:zs.length<1000000000:=by have:=gO HT.out;simp at this;omega
    clear q1 m1 hB1 hk hw1;go_wp2_with (at_builtin;refine eT 142 Tryz.underlying142 rfl (.tmp 25) (.tmp 27) rfl w.heap.size _ zs _ _ _ _ _ _ q rfl hw2 hk2 rfl hzl hbs ?_)
    intro v' w3 hw3 hb3 _;have hB3:=hb3 _ _ hB2 (GM _);clear hw2 hk2 hb3 hB2 a0 a1 a2 a3 a4 a5;go_wp2;go_roundw;case rel=>exact⟨i+1,zs++[q],by go_num,by omega,hw3,hB3,HT.out⟩
    case measure=>simp[intOf];omega
   ·have hbad:allC l=none:=AF hi (by rw[<-HS.out];exact gK hz);have HT:=GF hbad;clear hz hbad hcell hown;unfold iA;go_wp2;refine Kh (v:=.tuple #[.slice none 0 0,.bool false]) (by simp[results,Tryz.results129,go_sem]) rfl ⟨_,_,rfl,Or.inr ⟨HT.out,rfl,rfl⟩,hB1.trans ((au w1 _).mono hB1.size)⟩
  ·have hin':i=l.length:=by omega
   subst hin';clear hi;have hp:=hown.isP;have HT:=hall.out;rw[He] at HT;go_wp2;refine Kh (v:=.tuple #[_,.bool true]) (by simp[results,Tryz.results129,go_sem]) rfl ⟨_,_,rfl,Or.inl ⟨zs,HT,rfl,hp⟩,hbr⟩
theorem Eh (v:Value) (z:CQ) (w:World) (hk:IsK w v z) :
  Calls Tryz.prog 131 #[v] w fun e w'=>∃ u,e=.returned (.tuple #[u,.bool (decide (z.im=0))])/\IsQ w' u z.re/\Below w.heap.size w w':=by
 obtain⟨a,b,c,d,e,f,rfl,hax,hay⟩:=id hk.v;go_enter Tryz.func131,Tryz.ntmps131;go_upto_region 1 with fail
 have q1:=cE.new w a b c d e f 110;have m1:=au w (.cells #[a,b,c,d,e,f] 110);have z1:=size_alloc w (.cells #[a,b,c,d,e,f] 110);generalize w.alloc (.cells #[a,b,c,d,e,f] 110)=w1 at *
 have q3:=cI.new w1 (.bool false) (.slice none 0 0) (.slice none 0 0) nofun nofun nofun;have m3:=au w1 (.cells #[.bool false,.slice none 0 0,.slice none 0 0] 106);generalize w1.alloc (.cells #[.bool false,.slice none 0 0,.slice none 0 0] 106)=w3 at *
 have m4:Below w3.heap.size w3 w3.drew:=(Ki _ _).drew;rw[z1] at q3;refine aB (fun w'=>∃ x:aL (w.heap.size+1) w3.drew,w'=x.w) (fun i=>i == 3||i == 4) (by kernel_rfl) (by kernel_rfl) ⟨⟨_,Ki _ _⟩,rfl⟩ ?_;generalize w3.drew=wd at *
 have hB0:Below wd.heap.size wd wd:=Ki _ _;have M13:=m1.trans (m3.mono m1.size);have MD:=GF (M13.trans (m4.mono M13.size));have B1:=(q1.below m3).below m4;have B3:=GF (q3.below m4);have hz:w.heap.size+1<=wd.heap.size:=by have:=B3.out.lt;omega
 have e1:=fun x:aL (w.heap.size+1) wd=>B1.at x.h (by omega);have a0:=fun x=>(e1 x).c0;have a01:=fun x=>(e1 x).c1;have a02:=fun x=>(e1 x).c2;have a03:=fun x=>(e1 x).c3;have a04:=fun x=>(e1 x).c4;have a05:=fun x=>(e1 x).c5;have HK:=GF (hk.below MD.out);have HX:=GF (hax.below MD.out);clear e1 q1 q3 m1 m3 m4 z1 M13 hax hay B1 hk;refine aq 3 0 _ _ _ (by kernel_rfl) ?_;simp only[GP,GS,GQ,GR];repeat (go_big_quiet_step (fail))
 refine wpQuiet_nil ?_;refine ar rfl rfl (fun K hK=>?_);go_simp;refine (eW _ _ _ HK.out.v).mono ?_;rintro e w4 ⟨rfl,hb4⟩;refine hK _ _ ⟨⟨_,hb4.mono hz⟩,rfl⟩ ?_;clear hK K;try simp only[Act.put,GJ,GI,GH,GG,GL,GK]
 have hv4:=HX.out.below hb4;obtain⟨xm,xp,xl,xc,xq,xk,xd,hxe⟩:=hv4.form;obtain⟨rfl,rfl,rfl⟩:a=.bool xm/\b=.slice xp xl xc/\c=.slice xq xk xd:=by simpa using hxe
 clear hxe;have B8:=B3.out.below hb4;have k0:=B8.c0;have k1:=B8.c1;have k2:=B8.c2;have f0:=B8.fr 0;have f1:=B8.fr 1;have f2:=B8.fr 2;have P:=GF (B8.putR hv4);refine ar rfl rfl (fun K hK=>?_);go_simp;refine hK undef _ ⟨⟨_,P.out.2.2 _ _ (hb4.mono hz) (GM _)⟩,rfl⟩ ?_;clear hK K;try simp only[Act.put,GJ,GI,GH,GG,GL,GK]
 refine aq 1 5 _ _ _ (by kernel_rfl) ?_;simp only[GP,GS,GQ,GR];repeat (go_big_quiet_step (fail))
 refine wpQuiet_nil ?_;refine aH ?_;have M8:=GF (P.out.2.2 _ w (MD.out.trans (hb4.mono MD.out.size)) (by omega));have HS:=GF HK.out.s.x;have hd:decide ((ct z).y.n=0)=decide (z.im=0):=by show decide ((rt z.im).n=0)=_;simp only[bk]
 have HD:=GF hd;clear hd;go_wp2_with fail
 have q0:=P.out.1.c0;have q1:=P.out.1.c1;have q2:=P.out.1.c2;refine Kh (v:=.tuple #[.agg #[.bool xm,.slice xp xl xc,.slice xq xk xd],.bool (decide ((ct z).y.n=0))]) (by simp[uA] at q0 q1 q2 |-;simp[results,Tryz.results131,go_sem,q0,q1,q2]) rfl ⟨_,by rw[HD.out],⟨P.out.2.1,HS.out⟩,M8.out⟩
def kj (zs:List CQ):Option (List Rat):=if zs.all (fun z=>decide (z.im=0)) then some (zs.map CQ.re) else none
theorem DE (v:Value) (zs:List CQ) (w:World) (hl:IsP w v zs) (hlen:zs.length<1000000000) :
  Calls Tryz.prog 130 #[v,.func (.func 131) #[] #[]] w fun e w'=>∃ v' ok,e=.returned (.tuple #[v',.bool ok])/\((∃ qs,kj zs=some qs/\ok=true/\IsL w' v' qs)\/(kj zs=none/\ok=false/\v'=.slice none 0 0))/\Below w.heap.size w w':=by
 obtain⟨p,c,rfl,hc1,hc2⟩:=hl.form;have HL:=GF hl;clear hl;go_enter Tryz.func130,Tryz.ntmps130;go_wp2;go_loopw [6,13] (fun s6 s13 wr=>∃ (i:Nat),s13=.int .i64 i/\i<=zs.length/\mV wr w.heap.size s6 ((zs.map CQ.re).take i)/\Below w.heap.size w wr/\Hid ((zs.take i).all (fun z=>decide (z.im=0))=true)) (fun _ s13 _=>zs.length-(intOf s13).toNat)
 case atStart=>exact⟨0,rfl,GY _,mV.nil _ _,Ki _ _,rfl⟩
 case round =>
  obtain⟨i,rfl,hin,hown,hbr,hall⟩:=hrel;by_cases hi:i<zs.length
  ·obtain⟨b,o,rfl,hbl,xm,xp,xl,xc,xq,xk,xd,ym,yp,yl,yc,yq,yk,yd,hk,c0,c1,c2,c3,c4,c5⟩:=(HL.out.below hbr).get hi;obtain⟨z,hz⟩:∃ z,z=zs[i]:=⟨_,rfl⟩;rw[<-hz] at hk;have HZ:=GF hz;clear hz;go_upto_region 5 with fail
   have q1:=cE.new wr (.bool xm) (.slice xp xl xc) (.slice xq xk xd) (.bool ym) (.slice yp yl yc) (.slice yq yk yd) 110;have m1:=au wr (.cells #[.bool xm,.slice xp xl xc,.slice xq xk xd,.bool ym,.slice yp yl yc,.slice yq yk yd] 110);generalize wr.alloc (.cells #[.bool xm,.slice xp xl xc,.slice xq xk xd,.bool ym,.slice yp yl yc,.slice yq yk yd] 110)=w2 at *
   have a0:=q1.c0;have a1:=q1.c1;have a2:=q1.c2;have a3:=q1.c3;have a4:=q1.c4;have a5:=q1.c5;have hB2:=hbr.trans (m1.mono hbr.size);have hk2:=hk.below m1;have hw2:=hown.below m1;clear q1 m1 hbr hk hown c0 c1 c2 c3 c4 c5;go_wp2_with fail
   refine (Eh _ z w2 hk2).mono ?_;rintro e w3 ⟨u,rfl,hu,hb3⟩;have hB3:=hB2.trans (hb3.mono hB2.size);have hw3:=hw2.below hb3;obtain⟨um,up,ul,uc,uq,uk,ud,rfl⟩:=hu.forms;clear hb3 hB2 hk2 hw2 a0 a1 a2 a3 a4 a5;by_cases him:z.im=0
   ·have hstep:(zs.take (i+1)).all (fun z=>decide (z.im=0))=true:=by
     rw[show zs.take (i+1)=zs.take i++[zs[i]] from (GZ hi).symm,IF,hall.out,<-HZ.out];simp[him]
    have hmap:(zs.map CQ.re).take (i+1)=(zs.map CQ.re).take i++[z.re]:=by
     rw[show (zs.map CQ.re).take (i+1)=(zs.map CQ.re).take i++[(zs.map CQ.re)[i]'(by simpa using hi)] from (GZ _).symm,Ie,<-HZ.out]
    have HT:=GF hstep;have HM:=GF hmap;rw[decide_eq_true him];clear hstep hmap him hall;go_upto_region 6 with fail
    have q1:=cI.new w3 (.bool um) (.slice up ul uc) (.slice uq uk ud) nofun nofun nofun;have m1:=au w3 (.cells #[.bool um,.slice up ul uc,.slice uq uk ud] 106);generalize w3.alloc (.cells #[.bool um,.slice up ul uc,.slice uq uk ud] 106)=w4 at *
    have a0:=q1.c0;have a1:=q1.c1;have a2:=q1.c2;have hB4:=hB3.trans (m1.mono hB3.size);have hu4:=hu.below m1;have hw4:=hw3.below m1;have hbs:=hB4.size;have hzl:((zs.map CQ.re).take i).length<1000000000:=by simp;omega
    clear q1 m1 hB3 hu hw3;go_wp2_with (at_builtin;refine m_ 118 Tryz.underlying118 rfl (.tmp 25) (.tmp 27) rfl w.heap.size _ _ _ _ _ z.re rfl hw4 hu4 rfl hzl hbs ?_)
    intro v' w5 hw5 hb5 _;have hB5:=hb5 _ _ hB4 (GM _);rw[<-HM.out] at hw5;clear hw4 hu4 hb5 hB4 a0 a1 a2;go_wp2;go_roundw;case rel=>exact⟨i+1,by go_num,by omega,hw5,hB5,HT.out⟩
    case measure=>simp[intOf];omega
   ·have hbad:kj zs=none:=by
     unfold kj;rw[if_neg];rw[Bool.not_eq_true,Je];exact⟨zs[i],G7 hi,by rw[<-HZ.out];simpa using him⟩
    have HT:=GF hbad;rw[decide_eq_false him];clear hbad him hall hw3;go_wp2;refine Kh (v:=.tuple #[.slice none 0 0,.bool false]) (by simp[results,Tryz.results130,go_sem]) rfl ⟨_,_,rfl,Or.inr ⟨HT.out,rfl,rfl⟩,hB3.trans ((au w3 _).mono hB3.size)⟩
  ·have hin':i=zs.length:=by omega
   subst hin';clear hi;have hp:=hown.isL;have HT:=hall.out;rw[He] at HT;rw[show zs.length=(zs.map CQ.re).length by simp,He] at hp;go_wp2;refine Kh (v:=.tuple #[_,.bool true]) (by simp[results,Tryz.results130,go_sem]) rfl ⟨_,_,rfl,Or.inl ⟨zs.map CQ.re,by unfold kj;rw[if_pos HT],rfl,hp⟩,hbr⟩
end Go.Proofs.YtmakbmhlemhgeaaGreatDoor
