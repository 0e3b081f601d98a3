/- L -/
import Derived.Test.YtgakllaobooabaaGreatDoorXRBase
import Derived.Test.YtgakllaobooabaaGreatDoorXB
set_option linter.all false
set_option maxRecDepth 100000
set_option maxHeartbeats 8000000
namespace Go.Proofs.YtgakllaobooabaaGreatDoor
open Go.RowKit Dg
structure GAt (G:FuncId) (f:CQ->CQ->CQ):Prop where
 en:∀ (args:Array Value) (w:World),(callFunc G args).run Tryz.prog w=.ok (.enter G args) w
 on:∀ (x y:Value) (a b:CQ) (w:World),IsK w x a->IsK w y b->Calls Tryz.prog G #[x,y] w fun e w'=>∃ v,e=.returned v/\IsV w' v (ct (f a b))/\Below w.heap.size w w'
theorem yZ:GAt 63 CQ.add :=
 ⟨aZ Tryz.func63 rfl (by kernel_rfl),fun x y a b w ha hb=>by
  rw[<-cW]
  exact nI _ _ _ _ _ ha.v hb.v (ha.s.x.fewR hb.s.x (by decide)) (ha.s.y.fewR hb.s.y (by decide))⟩
theorem yV:GAt 79 CQ.sub :=
 ⟨aZ Tryz.func79 rfl (by kernel_rfl),fun x y a b w ha hb=>by
  rw[<-ld]
  exact vM _ _ _ _ _ ha.v hb.v (ha.s.x.fewR hb.s.x.neg (by decide)) (ha.s.y.fewR hb.s.y.neg (by decide))⟩
theorem zS:GAt 64 CQ.mul :=
 ⟨aZ Tryz.func64 rfl (by kernel_rfl),fun x y a b w ha hb=>by
  rw[<-a6]
  exact ff _ _ _ _ _ ha.v hb.v (ha.s.fewV hb.s (by decide))⟩
theorem xh {G:FuncId}{f:CQ->CQ->CQ} (hG:GAt G f) (k:Nat) (w:World) (hc:w.cell? ⟨k,0,none⟩=some (.func (.func G) #[] #[])) (hk:k<w.heap.size) :
  sP 108 #[.pointer (some ⟨k,0,none⟩)] (eh f) w:=by
 refine⟨aZ Tryz.func108 rfl (by kernel_rfl),fun x y a b w0 hw ha hb=>?_⟩;have hc0:=(hw.cell (p:=⟨k,0,none⟩) hk).trans hc;have hk0:=AD hk hw.size;have EN:=hG.en;obtain⟨p1,p2,p3,p4,p5,p6,rfl,hax,hay⟩:=id ha.v;obtain⟨r1,r2,r3,r4,r5,r6,rfl,hbx,hby⟩:=id hb.v
 show Calls _ _ #[_,_,.pointer (some ⟨k,0,none⟩)] _ _
 go_enter Tryz.func108,Tryz.ntmps108;go_upto_region 1 with fail
 have E:=qG w0 p1 p2 p3 p4 p5 p6 r1 r2 r3 r4 r5 r6;unfold qg at E;generalize ((w0.alloc (.cells #[p1,p2,p3,p4,p5,p6] 65)).alloc (.cells #[r1,r2,r3,r4,r5,r6] 65)).alloc (.cells #[.bool false,.slice none 0 0,.slice none 0 0,.bool false,.slice none 0 0,.slice none 0 0] 65)=w3 at *
 obtain⟨q1,q2,q3,MD⟩:=E;have c0:=(MD.cell (p:=⟨k,0,none⟩) hk0).trans hc0;have HC:=At (hG.on _ _ a b w3 (ha.below MD) (hb.below MD));have B3:=At q3;have MD:=At MD;have a0:=q1.c0;have a1:=q1.c1;have a2:=q1.c2;have a3:=q1.c3;have a4:=q1.c4;have a5:=q1.c5;have b0:=q2.c0;have b1:=q2.c1;have b2:=q2.c2;have b3:=q2.c3;have b4:=q2.c4;have b5:=q2.c5;clear q1 q2 q3 hax hay hbx hby ha hb hc0 hc;go_wp2_with fail
 refine HC.out.mono ?_;rintro e w4 ⟨v4,rfl,hv4,hb4⟩;obtain⟨x1,x2,x3,y1,y2,y3,rfl,hx,hy⟩:=hv4;obtain⟨xm,xp,xl,xc,xq,xk,xd,hxe⟩:=hx.form;obtain⟨ym,yp,yl,yc,yq,yk,yd,hye⟩:=hy.form;obtain⟨rfl,rfl,rfl⟩:=cH hxe;obtain⟨rfl,rfl,rfl⟩:=cH hye;have B8:=B3.out.below hb4;have k0:=B8.cell 0;have k1:=B8.cell 1;have k2:=B8.cell 2;have k3:=B8.cell 3;have k4:=B8.cell 4;have k5:=B8.cell 5;have f0:=B8.fr 0;have f1:=B8.fr 1;have f2:=B8.fr 2;have f3:=B8.fr 3;have f4:=B8.fr 4;have f5:=B8.fr 5;have P:=At (B8.putV hx hy);have M8:=At (P.out.2.2 _ _ (MD.out.trans (hb4.mono MD.out.size)) (by omega));clear hx hy hxe hye B8;go_wp2_with fail
 have q0:=P.out.1.cell 0;have q1:=P.out.1.cell 1;have q2:=P.out.1.cell 2;have q3:=P.out.1.cell 3;have q4:=P.out.1.cell 4;have q5:=P.out.1.cell 5;refine Du (v:=.tuple #[.agg #[.bool xm,.slice xp xl xc,.slice xq xk xd,.bool ym,.slice yp yl yc,.slice yq yk yd],.int .i64 0]) (by simp[results,Tryz.results108,go_sem,cP] at q0 q1 q2 q3 q4 q5 |-;simp[results,Tryz.results108,go_sem,q0,q1,q2,q3,q4,q5]) rfl ⟨_,_,rfl,P.out.2.1,fun _=>rfl,M8.out⟩
theorem divN (w:World):sP 76 #[] oG w:=by
 refine⟨aZ Tryz.func76 rfl (by kernel_rfl),fun x y a b w0 hw ha hb=>?_⟩;obtain⟨p1,p2,p3,p4,p5,p6,rfl,hax,hay⟩:=id ha.v;obtain⟨r1,r2,r3,r4,r5,r6,rfl,hbx,hby⟩:=id hb.v
 show Calls _ _ #[_,_] _ _
 go_enter Tryz.func76,Tryz.ntmps76;go_upto_region 1 with fail
 have E:=qG w0 p1 p2 p3 p4 p5 p6 r1 r2 r3 r4 r5 r6;unfold qg at E;generalize ((w0.alloc (.cells #[p1,p2,p3,p4,p5,p6] 65)).alloc (.cells #[r1,r2,r3,r4,r5,r6] 65)).alloc (.cells #[.bool false,.slice none 0 0,.slice none 0 0,.bool false,.slice none 0 0,.slice none 0 0] 65)=w3 at *
 obtain⟨q1,q2,q3,MD⟩:=E;have HA:=At (ha.below MD);have HB:=At (hb.below MD);have HZ:=At (xC _ _ _ HB.out.v);have B1:=At q1;have B2:=At q2;have B3:=At q3;have MD:=At MD;have a0:=q1.c0;have a1:=q1.c1;have a2:=q1.c2;have a3:=q1.c3;have a4:=q1.c4;have a5:=q1.c5;have b0:=q2.c0;have b1:=q2.c1;have b2:=q2.c2;have b3:=q2.c3;have b4:=q2.c4;have b5:=q2.c5;clear q1 q2 q3 hax hay hbx hby ha hb
 have hiff:((ct b).x.n=0/\(ct b).y.n=0)↔b=⟨0,0⟩:=by
  show ((rt b.re).n=0/\(rt b.im).n=0)↔_
  rw[aP,aP];constructor
  ·rintro⟨h1,h2⟩;cases b;simp only at h1 h2;rw[h1,h2]
  ·intro h;rw[h];exact⟨rfl,rfl⟩
 by_cases hbz:b=⟨0,0⟩
 ·rw[decide_eq_true (hiff.2 hbz)] at HZ;have hd:oG a b=(⟨0,0⟩,12):=if_pos hbz;have HD:=At hd;clear hd;go_wp2_with fail
  refine HZ.out.mono ?_;rintro e w4 ⟨rfl,hb4⟩;have B8:=B3.out.below hb4;have k0:=B8.cell 0;have k1:=B8.cell 1;have k2:=B8.cell 2;have k3:=B8.cell 3;have k4:=B8.cell 4;have k5:=B8.cell 5;have f0:=B8.fr 0;have f1:=B8.fr 1;have f2:=B8.fr 2;have f3:=B8.fr 3;have f4:=B8.fr 4;have f5:=B8.fr 5;have P:=At (B8.put (a':=.bool false) (b':=.slice none 0 0) (c':=.slice none 0 0) (d':=.bool false) (e':=.slice none 0 0) (f':=.slice none 0 0) nofun nofun nofun nofun nofun nofun);have M8:=At (P.out.2.2 _ (MD.out.trans (hb4.mono MD.out.size)) (by omega));clear B8;go_wp2_with fail
  have q0:=P.out.1.cell 0;have q1:=P.out.1.cell 1;have q2:=P.out.1.cell 2;have q3:=P.out.1.cell 3;have q4:=P.out.1.cell 4;have q5:=P.out.1.cell 5;have hn:=vK;have hf0:Few 0:=ez (by decide);refine Du (v:=.tuple #[fh,.int .i64 12]) (by simp[results,Tryz.results76,go_sem,cP,fh] at q0 q1 q2 q3 q4 q5 |-;simp[results,Tryz.results76,go_sem,q0,q1,q2,q3,q4,q5]) rfl ⟨_,⟨⟨false,0,0⟩,⟨false,0,0⟩⟩,by rw[HD.out];rfl,⟨_,_,_,_,_,_,rfl,⟨_,_,rfl,hn _,hn _,hf0,hf0⟩,⟨_,_,rfl,hn _,hn _,hf0,hf0⟩⟩,fun h=>by rw[HD.out] at h;simp at h,M8.out⟩
 ·rw[decide_eq_false (fun h=>hbz (hiff.1 h))] at HZ;have hd:oG a b=(a.div b,0):=if_neg hbz;have HD:=At hd;clear hd;go_wp2_with fail
  refine HZ.out.mono ?_;rintro e w4 ⟨rfl,hb4⟩;clear a0 a1 a2 a3 a4 a5 b0 b1 b2 b3 b4 b5;have q1:=B1.out.below hb4;have q2:=B2.out.below hb4;have a0:=q1.c0;have a1:=q1.c1;have a2:=q1.c2;have a3:=q1.c3;have a4:=q1.c4;have a5:=q1.c5;have b0:=q2.c0;have b1:=q2.c1;have b2:=q2.c2;have b3:=q2.c3;have b4:=q2.c4;have b5:=q2.c5;clear q1 q2
  have h0:0<(jY (ct b)).n:=by
   rw[lg];exact Cp fun h=>hbz (jI ((aP _).1 h))
  have HC:=At (nG _ _ _ _ 10000 10000 w4 (HA.out.v.below hb4) (HB.out.v.below hb4) HA.out.s HB.out.s h0 (by decide));rw[gQ hbz] at HC;go_wp2_with fail
  refine HC.out.mono ?_;rintro e w5 ⟨v5,rfl,hv5,hb5⟩;have hB5:=hb4.trans (hb5.mono hb4.size);obtain⟨x1,x2,x3,y1,y2,y3,rfl,hx,hy⟩:=hv5;obtain⟨xm,xp,xl,xc,xq,xk,xd,hxe⟩:=hx.form;obtain⟨ym,yp,yl,yc,yq,yk,yd,hye⟩:=hy.form;obtain⟨rfl,rfl,rfl⟩:=cH hxe;obtain⟨rfl,rfl,rfl⟩:=cH hye;have B8:=B3.out.below hB5;have k0:=B8.cell 0;have k1:=B8.cell 1;have k2:=B8.cell 2;have k3:=B8.cell 3;have k4:=B8.cell 4;have k5:=B8.cell 5;have f0:=B8.fr 0;have f1:=B8.fr 1;have f2:=B8.fr 2;have f3:=B8.fr 3;have f4:=B8.fr 4;have f5:=B8.fr 5;have P:=At (B8.putV hx hy);have M8:=At (P.out.2.2 _ _ (MD.out.trans (hB5.mono MD.out.size)) (by omega));clear hx hy hxe hye B8;go_wp2_with fail
  have q0:=P.out.1.cell 0;have q1:=P.out.1.cell 1;have q2:=P.out.1.cell 2;have q3:=P.out.1.cell 3;have q4:=P.out.1.cell 4;have q5:=P.out.1.cell 5;refine Du (v:=.tuple #[.agg #[.bool xm,.slice xp xl xc,.slice xq xk xd,.bool ym,.slice yp yl yc,.slice yq yk yd],.int .i64 0]) (by simp[results,Tryz.results76,go_sem,cP] at q0 q1 q2 q3 q4 q5 |-;simp[results,Tryz.results76,go_sem,q0,q1,q2,q3,q4,q5]) rfl ⟨_,_,by rw[HD.out],P.out.2.1,fun _=>by rw[HD.out],M8.out⟩
theorem xg (G:FuncId) (w:World) :
  Calls Tryz.prog 75 #[.func (.func G) #[] #[]] w fun e w'=>∃ k,e=.returned (.func (.func 108) #[] #[.pointer (some ⟨k,0,none⟩)])/\k<w'.heap.size/\w'.cell? ⟨k,0,none⟩=some (.func (.func G) #[] #[])/\Below w.heap.size w w':=by
 go_enter Tryz.func75,Tryz.ntmps75;go_wp2;go_ret;exact⟨_,rfl,by rw[size_alloc];omega,ap _ _ _ _ _ rfl,ac _ _⟩
theorem zD (s t:ByteArray) (w:World) (hG:Gw w) :
  Calls Tryz.prog 39 #[.string s,.string t] w fun e w'=>e=.returned (.tuple #[.string (bM (eh CQ.add) s t).1,.int .i64 (bM (eh CQ.add) s t).2])/\Below w.heap.size w w':=by
 obtain⟨r,hr⟩:∃ r,r=bM (eh CQ.add) s t:=⟨_,rfl⟩;rw[<-hr];have HR:=At hr;clear hr;go_enter Tryz.func39,Tryz.ntmps39;go_wp2_with fail
 refine (xg _ w).mono ?_;rintro e w1 ⟨k,rfl,hk,hc,hb1⟩;have hp:=rK 108 _ _ s t w1 (hG.below hb1) (xh yZ k w1 hc hk);rw[<-HR.out] at hp;go_wp2_with fail
 refine hp.mono ?_;clear hp;rintro e w2 ⟨rfl,hb2⟩;go_wp2;refine Du (v:=.tuple #[.string r.1,.int .i64 r.2]) (by simp[results,Tryz.results39,go_sem]) rfl ⟨rfl,hb1.trans (hb2.mono hb1.size)⟩
theorem zH (s t:ByteArray) (w:World) (hG:Gw w) :
  Calls Tryz.prog 42 #[.string s,.string t] w fun e w'=>e=.returned (.tuple #[.string (bM (eh CQ.sub) s t).1,.int .i64 (bM (eh CQ.sub) s t).2])/\Below w.heap.size w w':=by
 obtain⟨r,hr⟩:∃ r,r=bM (eh CQ.sub) s t:=⟨_,rfl⟩;rw[<-hr];have HR:=At hr;clear hr;go_enter Tryz.func42,Tryz.ntmps42;go_wp2_with fail
 refine (xg _ w).mono ?_;rintro e w1 ⟨k,rfl,hk,hc,hb1⟩;have hp:=rK 108 _ _ s t w1 (hG.below hb1) (xh yV k w1 hc hk);rw[<-HR.out] at hp;go_wp2_with fail
 refine hp.mono ?_;clear hp;rintro e w2 ⟨rfl,hb2⟩;go_wp2;refine Du (v:=.tuple #[.string r.1,.int .i64 r.2]) (by simp[results,Tryz.results42,go_sem]) rfl ⟨rfl,hb1.trans (hb2.mono hb1.size)⟩
theorem zG (s t:ByteArray) (w:World) (hG:Gw w) :
  Calls Tryz.prog 41 #[.string s,.string t] w fun e w'=>e=.returned (.tuple #[.string (bM (eh CQ.mul) s t).1,.int .i64 (bM (eh CQ.mul) s t).2])/\Below w.heap.size w w':=by
 obtain⟨r,hr⟩:∃ r,r=bM (eh CQ.mul) s t:=⟨_,rfl⟩;rw[<-hr];have HR:=At hr;clear hr;go_enter Tryz.func41,Tryz.ntmps41;go_wp2_with fail
 refine (xg _ w).mono ?_;rintro e w1 ⟨k,rfl,hk,hc,hb1⟩;have hp:=rK 108 _ _ s t w1 (hG.below hb1) (xh zS k w1 hc hk);rw[<-HR.out] at hp;go_wp2_with fail
 refine hp.mono ?_;clear hp;rintro e w2 ⟨rfl,hb2⟩;go_wp2;refine Du (v:=.tuple #[.string r.1,.int .i64 r.2]) (by simp[results,Tryz.results41,go_sem]) rfl ⟨rfl,hb1.trans (hb2.mono hb1.size)⟩
theorem zE (s t:ByteArray) (w:World) (hG:Gw w) :
  Calls Tryz.prog 40 #[.string s,.string t] w fun e w'=>e=.returned (.tuple #[.string (bM oG s t).1,.int .i64 (bM oG s t).2])/\Below w.heap.size w w':=by
 obtain⟨r,hr⟩:∃ r,r=bM oG s t:=⟨_,rfl⟩;have hp:=rK 76 _ _ s t w hG (divN w);rw[<-hr] at hp |-;have HP:=At hp;clear hr hp;go_enter Tryz.func40,Tryz.ntmps40;go_wp2_with fail
 refine HP.out.mono ?_;rintro e w2 ⟨rfl,hb2⟩;go_wp2;refine Du (v:=.tuple #[.string r.1,.int .i64 r.2]) (by simp[results,Tryz.results40,go_sem]) rfl ⟨rfl,hb2⟩
theorem ji (s t:ByteArray) (w:World) (hG:Gw w) :
  Calls Tryz.prog 13 #[.string s,.string t] w fun e w'=>e=.returned (.string (eX s t))/\Below w.heap.size w w':=by
 unfold eX;have HP:=At (zD s t w hG);go_enter Tryz.func13,Tryz.ntmps13;go_wp2_with fail
 refine HP.out.mono ?_;rintro e w2 ⟨rfl,hb2⟩;go_wp2;go_ret;exact⟨rfl,hb2⟩
theorem jk (s t:ByteArray) (w:World) (hG:Gw w) :
  Calls Tryz.prog 16 #[.string s,.string t] w fun e w'=>e=.returned (.string (fj s t))/\Below w.heap.size w w':=by
 unfold fj;have HP:=At (zH s t w hG);go_enter Tryz.func16,Tryz.ntmps16;go_wp2_with fail
 refine HP.out.mono ?_;rintro e w2 ⟨rfl,hb2⟩;go_wp2;go_ret;exact⟨rfl,hb2⟩
theorem dN (s t:ByteArray) (w:World) (hG:Gw w) :
  Calls Tryz.prog 15 #[.string s,.string t] w fun e w'=>e=.returned (.string (cw s t))/\Below w.heap.size w w':=by
 unfold cw;have HP:=At (zG s t w hG);go_enter Tryz.func15,Tryz.ntmps15;go_wp2_with fail
 refine HP.out.mono ?_;rintro e w2 ⟨rfl,hb2⟩;go_wp2;go_ret;exact⟨rfl,hb2⟩
theorem ej (s t:ByteArray) (w:World) (hG:Gw w) :
  Calls Tryz.prog 14 #[.string s,.string t] w fun e w'=>e=.returned (.string (bE s t))/\Below w.heap.size w w':=by
 unfold bE;have HP:=At (zE s t w hG);go_enter Tryz.func14,Tryz.ntmps14;go_wp2_with fail
 refine HP.out.mono ?_;rintro e w2 ⟨rfl,hb2⟩;go_wp2;go_ret;exact⟨rfl,hb2⟩
def cellsOf:Value->List Value
 | .agg a=>a.toList
 | v=>[v]
def dW (es:List Value):List Value:=es.flatMap cellsOf
theorem jz (es:List Value) (x:Value):dW (es++[x])=dW es++cellsOf x:=by simp[dW]
theorem kS {k:Nat}:∀ {es:List Value},(∀ e∈es,(cellsOf e).length=k)->(dW es).length=es.length*k
 | [],_=>by simp[dW]
 | e :: es,h=>by
  have h1:=h e (by simp);have h2:=kS (es:=es) fun x hx=>h x (by simp[hx]);simp only[dW,Cs,AO,A2] at h2 |-;rw[h1,h2,Cz,CZ]
theorem kR {k:Nat}:∀ {es:List Value}{i j:Nat} (_:∀ e∈es,(cellsOf e).length=k) (hi:i<es.length) (_:j<k),(dW es)[i*k+j]?=(cellsOf es[i])[j]?
 | e :: es,0,j,h,_,hj=>by
  have h1:=h e (by simp);simp only[dW,Cs,BR,Bp,Av];rw[BU (by omega)]
 | e :: es,i+1,j,h,hi,hj=>by
  have h1:=h e (by simp);have h2:=kR (es:=es) (i:=i) (j:=j) (fun x hx=>h x (by simp[hx])) (by simpa using hi) hj;simp only[dW,Cs,Aw] at h2 |-;rw[BA (by rw[h1,Cz];omega),h1,<-h2];congr 1;rw[Cz];omega
def rH (w:World) (p:Option Addr) (k:Nat) (es:List Value):Prop :=
 0<es.length->∃ b o,p=some ⟨b,o,none⟩/\b<w.heap.size/\∀ i (h:i<es.length) j u,(cellsOf es[i])[j]?=some u->w.cell? ⟨b,o+i*k+j,none⟩=some u
theorem rH.below {w w':World}{p:Option Addr}{k:Nat}{es:List Value} (h:rH w p k es) (hb:Below w.heap.size w w'):rH w' p k es:=fun hl=>by
 obtain⟨b,o,e,hlt,hc⟩:=h hl;exact⟨b,o,e,AD hlt hb.size,fun i hi j u hu=>(hb.cell (p:=⟨b,o+i*k+j,none⟩) hlt).trans (hc i hi j u hu)⟩
def d_ (w:World) (k:Nat) (v:Value) (es:List Value):Prop:=∃ p cap,v=.slice p es.length cap/\es.length<=cap/\cap<=maxLen/\rH w p k es
theorem d_.below {w w':World}{k:Nat}{v:Value}{es:List Value} (h:d_ w k v es) (hb:Below w.heap.size w w'):d_ w' k v es:=by
 obtain⟨p,cap,e,h1,h2,h3⟩:=h;exact⟨p,cap,e,h1,h2,h3.below hb⟩
theorem d_.nil (w:World) (k:Nat):d_ w k (.slice none 0 0) []:=⟨none,0,rfl,AA _,by simp[maxLen],fun h=>by simp at h⟩
theorem eS {w:World}{base:Nat}{T:TypeId}{k:Nat}{v:Value}{es:List Value} (hk:∀ e∈es,(cellsOf e).length=k) (h:w.ownsRow base T k v es.length (dW es)):d_ w k v es:=by
 obtain⟨hlen,h⟩:=h;rcases h with ⟨rfl,h0⟩ | ⟨g,cap,cur,rfl,hg,hh,hn,hm,hs,ht⟩
 ·refine⟨none,0,by rw[h0],by omega,by simp[maxLen],fun hp=>by omega⟩
 ·refine⟨some ⟨g,0,none⟩,cap,rfl,hn,hm,fun _=>⟨g,0,rfl,(AE.1 hh).1,fun i hi j u hu=>?_⟩⟩
  have hj:j<k:=by
   have:=(Bv.1 hu).1
   rwa [hk _ (AR hi)] at this
  have hb:i*k+j<es.length*k:=by
   have:=AJ k (show i+1<=es.length from hi);rw[Cz] at this;omega
  rw[World.cell?,hh];simp only[Bp,Bj,AU,if_false];rw[<-Cu,<-List.getElem?_take_of_lt hb,ht,kR hk hi hj,hu]
def IsS (w:World) (v:Value) (l:List ByteArray):Prop:=d_ w 1 v (l.map .string)
def bU (w:World) (base:Nat) (v:Value) (l:List ByteArray):Prop:=w.ownsRow base 25 1 v l.length (l.map .string)
theorem IsS.below {w w':World}{v:Value}{l:List ByteArray} (h:IsS w v l) (hb:Below w.heap.size w w'):IsS w' v l:=d_.below h hb
theorem je:∀ l:List ByteArray,dW (l.map .string)=l.map .string
 | []=>rfl
 | s :: l=>by
  have:=je l;simp only[dW,C_,Cs] at this |-;rw[this];rfl
theorem lK (l:List ByteArray):∀ e∈l.map Value.string,(cellsOf e).length=1:=by
 intro e he;obtain⟨s,-,rfl⟩:=CV.1 he;rfl
theorem bU.isS {w:World}{base:Nat}{v:Value}{l:List ByteArray} (h:bU w base v l):IsS w v l:=by
 refine eS (lK l) (T:=25) (base:=base) ?_;rw[AY,je];exact h
theorem eC {w w':World}{base:Nat}{T:TypeId}{k:Nat}{v:Value}{n:Nat}{xs:List Value} (h:w.ownsRow base T k v n xs) (hb:Below w.heap.size w w'):w'.ownsRow base T k v n xs:=by
 obtain⟨hlen,h⟩:=h;refine⟨hlen,?_⟩;rcases h with h | ⟨g,cap,cur,rfl,hg,hh,r⟩
 ·exact Or.inl h
 ·exact Or.inr ⟨g,cap,cur,rfl,hg,by rw[hb.block g (AE.1 hh).1];exact hh,r⟩
theorem bU.below {w w':World}{base:Nat}{v:Value}{l:List ByteArray} (h:bU w base v l) (hb:Below w.heap.size w w'):bU w' base v l:=eC h hb
theorem bU.nil (w:World) (base:Nat):bU w base (.slice none 0 0) []:=World.ownsRow_nil _ _ _ _
theorem IsS.get {w:World}{p:Option Addr}{n c:Nat}{l:List ByteArray} (h:IsS w (.slice p n c) l) {i:Nat} (hi:i<l.length):∃ b o,p=some ⟨b,o,none⟩/\b<w.heap.size/\w.cell? ⟨b,o+i,none⟩=some (.string l[i]):=by
 obtain⟨p',cap,e,h1,h2,h3⟩:=h;obtain⟨rfl,-,-⟩:p=p'/\n=(l.map Value.string).length/\c=cap:=by simpa using e
 obtain⟨b,o,e2,hlt,hc⟩:=h3 (by rw[AY];omega);refine⟨b,o,e2,hlt,?_⟩;have:=hc i (by rw[AY];exact hi) 0 (.string l[i]) (by simp[cellsOf]);simpa using this
theorem IsS.form {w:World}{v:Value}{l:List ByteArray} (h:IsS w v l):∃ p c,v=.slice p l.length c/\l.length<=c/\c<=maxLen:=by
 obtain⟨p,c,e,h1,h2,-⟩:=h;rw[AY] at e h1;exact⟨p,c,e,h1,h2⟩
def IsP (w:World) (v:Value) (zs:List CQ):Prop:=∃ es:List Value,es.length=zs.length/\d_ w 6 v es/\∀ i (h:i<es.length) (h':i<zs.length),IsK w es[i] zs[i]
def m0 (w:World) (base:Nat) (v:Value) (zs:List CQ):Prop:=∃ es:List Value,es.length=zs.length/\w.ownsRow base 65 6 v es.length (dW es)/\∀ i (h:i<es.length) (h':i<zs.length),IsK w es[i] zs[i]
theorem IsK.len {w:World}{v:Value}{z:CQ} (h:IsK w v z):(cellsOf v).length=6:=by
 obtain⟨a,b,c,d,e,f,rfl,-⟩:=h.v;rfl
theorem IsK.forms {w:World}{v:Value}{z:CQ} (h:IsK w v z):∃ xm xp xl xc xq xk xd ym yp yl yc yq yk yd,v=.agg #[.bool xm,.slice xp xl xc,.slice xq xk xd,.bool ym,.slice yp yl yc,.slice yq yk yd]:=by
 obtain⟨_,_,_,_,_,_,rfl,hx0,hy0⟩:=h.v;obtain⟨xm,xp,xl,xc,xq,xk,xd,hxe⟩:=hx0.form;obtain⟨ym,yp,yl,yc,yq,yk,yd,hye⟩:=hy0.form;obtain⟨rfl,rfl,rfl⟩:=cH hxe;obtain⟨rfl,rfl,rfl⟩:=cH hye;exact⟨_,_,_,_,_,_,_,_,_,_,_,_,_,_,rfl⟩
theorem iZ {w:World}{es:List Value}{zs:List CQ} (hl:es.length=zs.length) (h:∀ i (h:i<es.length) (h':i<zs.length),IsK w es[i] zs[i]):∀ e∈es,(cellsOf e).length=6:=by
 intro e he;obtain⟨i,hi,rfl⟩:=A_ he;exact (h i hi (by omega)).len
theorem IsP.below {w w':World}{v:Value}{zs:List CQ} (h:IsP w v zs) (hb:Below w.heap.size w w'):IsP w' v zs:=by
 obtain⟨es,h1,h2,h3⟩:=h;exact⟨es,h1,h2.below hb,fun i hi hi'=>(h3 i hi hi').below hb⟩
theorem m0.below {w w':World}{base:Nat}{v:Value}{zs:List CQ} (h:m0 w base v zs) (hb:Below w.heap.size w w'):m0 w' base v zs:=by
 obtain⟨es,h1,h2,h3⟩:=h;exact⟨es,h1,eC h2 hb,fun i hi hi'=>(h3 i hi hi').below hb⟩
theorem m0.isP {w:World}{base:Nat}{v:Value}{zs:List CQ} (h:m0 w base v zs):IsP w v zs:=by
 obtain⟨es,h1,h2,h3⟩:=h;exact⟨es,h1,eS (iZ h1 h3) h2,h3⟩
theorem m0.nil (w:World) (base:Nat):m0 w base (.slice none 0 0) []:=⟨[],rfl,World.ownsRow_nil _ _ _ _,fun i h=>by simp at h⟩
theorem IsP.form {w:World}{v:Value}{zs:List CQ} (h:IsP w v zs):∃ p c,v=.slice p zs.length c/\zs.length<=c/\c<=maxLen:=by
 obtain⟨es,h1,⟨p,c,e,h2,h3,-⟩,-⟩:=h;rw[h1] at e h2;exact⟨p,c,e,h2,h3⟩
theorem IsP.get {w:World}{p:Option Addr}{n c:Nat}{zs:List CQ} (h:IsP w (.slice p n c) zs) {i:Nat} (hi:i<zs.length) :
  ∃ B o,p=some ⟨B,o,none⟩/\B<w.heap.size/\∃ xm xp xl xc xq xk xd ym yp yl yc yq yk yd,IsK w (.agg #[.bool xm,.slice xp xl xc,.slice xq xk xd,.bool ym,.slice yp yl yc,.slice yq yk yd]) zs[i] /\
   w.cell? ⟨B,o+i*6,none⟩=some (.bool xm)/\w.cell? ⟨B,o+i*6+1,none⟩=some (.slice xp xl xc)/\w.cell? ⟨B,o+i*6+2,none⟩=some (.slice xq xk xd) /\
   w.cell? ⟨B,o+i*6+3,none⟩=some (.bool ym)/\w.cell? ⟨B,o+i*6+4,none⟩=some (.slice yp yl yc)/\w.cell? ⟨B,o+i*6+5,none⟩=some (.slice yq yk yd):=by
 obtain⟨es,h1,⟨p',cap,e,h2,h3,h4⟩,h5⟩:=h;obtain⟨rfl,-,-⟩:p=p'/\n=es.length/\c=cap:=by simpa using e
 obtain⟨b,o,e2,hlt,hc⟩:=h4 (by omega);have hk:=h5 i (by omega) hi;obtain⟨xm,xp,xl,xc,xq,xk,xd,ym,yp,yl,yc,yq,yk,yd,he⟩:=hk.forms;have hc:=hc i (by omega);rw[he] at hk hc;exact⟨b,o,e2,hlt,_,_,_,_,_,_,_,_,_,_,_,_,_,_,hk,hc 0 _ rfl,hc 1 _ rfl,hc 2 _ rfl,hc 3 _ rfl,hc 4 _ rfl,hc 5 _ rfl⟩
end Go.Proofs.YtgakllaobooabaaGreatDoor
