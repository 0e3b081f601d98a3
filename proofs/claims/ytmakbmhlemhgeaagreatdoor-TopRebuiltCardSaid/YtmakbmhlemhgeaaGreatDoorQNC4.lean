/- L -/
import Derived.Test.YtmakbmhlemhgeaaGreatDoorQNC1
import Derived.Test.YtmakbmhlemhgeaaGreatDoorQB
set_option linter.all false
set_option maxRecDepth 100000
set_option maxHeartbeats 8000000
namespace Go.Proofs.YtmakbmhlemhgeaaGreatDoor
open Go.RowKit Dg
structure GAt (G:FuncId) (f:CQ->CQ->CQ):Prop where
 en:∀ (args:Array Value) (w:World),(callFunc G args).run Tryz.prog w=.ok (.enter G args) w
 on:∀ (x y:Value) (a b:CQ) (w:World),IsK w x a->IsK w y b->Calls Tryz.prog G #[x,y] w fun e w'=>∃ v,e=.returned v/\IsV w' v (ct (f a b))/\Below w.heap.size w w'
theorem q_:GAt 156 CQ.add :=
 ⟨bE Tryz.func156 rfl (by kernel_rfl),fun x y a b w ha hb=>by
  rw[<-j0]
  exact nH _ _ _ _ _ ha.v hb.v (ha.s.x.fewR hb.s.x (by decide)) (ha.s.y.fewR hb.s.y (by decide))⟩
theorem qW:GAt 177 CQ.sub :=
 ⟨bE Tryz.func177 rfl (by kernel_rfl),fun x y a b w ha hb=>by
  rw[<-nr]
  exact qo _ _ _ _ _ ha.v hb.v (ha.s.x.fewR hb.s.x.neg (by decide)) (ha.s.y.fewR hb.s.y.neg (by decide))⟩
theorem qH:GAt 155 CQ.mul :=
 ⟨bE Tryz.func155 rfl (by kernel_rfl),fun x y a b w ha hb=>by
  rw[<-fk]
  exact jd _ _ _ _ _ ha.v hb.v (ha.s.fewV hb.s (by decide))⟩
theorem oh {G:FuncId}{f:CQ->CQ->CQ} (hG:GAt G f) (k:Nat) (w:World) (hc:w.cell? ⟨k,0,none⟩=some (.func (.func G) #[] #[])) (hk:k<w.heap.size) :
  pW 221 #[.pointer (some ⟨k,0,none⟩)] (ce f) w:=by
 refine⟨bE Tryz.func221 rfl (by kernel_rfl),fun x y a b w0 hw ha hb=>?_⟩;have hc0:=(hw.cell (p:=⟨k,0,none⟩) hk).trans hc;have hk0:=rA hk hw.size;have EN:=hG.en;obtain⟨p1,p2,p3,p4,p5,p6,rfl,hax,hay⟩:=id ha.v;obtain⟨r1,r2,r3,r4,r5,r6,rfl,hbx,hby⟩:=id hb.v
 show Calls _ _ #[_,_,.pointer (some ⟨k,0,none⟩)] _ _
 go_enter Tryz.func221,Tryz.ntmps221;go_upto_region 1 with fail
 have E:=kE w0 p1 p2 p3 p4 p5 p6 r1 r2 r3 r4 r5 r6;unfold kq at E;generalize ((w0.alloc (.cells #[p1,p2,p3,p4,p5,p6] 110)).alloc (.cells #[r1,r2,r3,r4,r5,r6] 110)).alloc (.cells #[.bool false,.slice none 0 0,.slice none 0 0,.bool false,.slice none 0 0,.slice none 0 0] 110)=w3 at *
 obtain⟨q1,q2,q3,MD⟩:=E;have c0:=(MD.cell (p:=⟨k,0,none⟩) hk0).trans hc0;have HC:=ri (hG.on _ _ a b w3 (ha.below MD) (hb.below MD));have B3:=ri q3;have MD:=ri MD;have a0:=q1.c0;have a1:=q1.c1;have a2:=q1.c2;have a3:=q1.c3;have a4:=q1.c4;have a5:=q1.c5;have b0:=q2.c0;have b1:=q2.c1;have b2:=q2.c2;have b3:=q2.c3;have b4:=q2.c4;have b5:=q2.c5;clear q1 q2 q3 hax hay hbx hby ha hb hc0 hc;go_wp2_with fail
 refine HC.out.mono ?_;rintro e w4 ⟨v4,rfl,hv4,hb4⟩;obtain⟨x1,x2,x3,y1,y2,y3,rfl,hx,hy⟩:=hv4;obtain⟨xm,xp,xl,xc,xq,xk,xd,hxe⟩:=hx.form;obtain⟨ym,yp,yl,yc,yq,yk,yd,hye⟩:=hy.form;obtain⟨rfl,rfl,rfl⟩:=eN hxe;obtain⟨rfl,rfl,rfl⟩:=eN hye;have B8:=B3.out.below hb4;have k0:=B8.cell 0;have k1:=B8.cell 1;have k2:=B8.cell 2;have k3:=B8.cell 3;have k4:=B8.cell 4;have k5:=B8.cell 5;have f0:=B8.fr 0;have f1:=B8.fr 1;have f2:=B8.fr 2;have f3:=B8.fr 3;have f4:=B8.fr 4;have f5:=B8.fr 5;have P:=ri (B8.putV hx hy);have M8:=ri (P.out.2.2 _ _ (MD.out.trans (hb4.mono MD.out.size)) (by omega));clear hx hy hxe hye B8;go_wp2_with fail
 have q0:=P.out.1.cell 0;have q1:=P.out.1.cell 1;have q2:=P.out.1.cell 2;have q3:=P.out.1.cell 3;have q4:=P.out.1.cell 4;have q5:=P.out.1.cell 5;refine t8 (v:=.tuple #[.agg #[.bool xm,.slice xp xl xc,.slice xq xk xd,.bool ym,.slice yp yl yc,.slice yq yk yd],.int .i64 0]) (by simp[results,Tryz.results221,go_sem,bM] at q0 q1 q2 q3 q4 q5 |-;simp[results,Tryz.results221,go_sem,q0,q1,q2,q3,q4,q5]) rfl ⟨_,_,rfl,P.out.2.1,fun _=>rfl,M8.out⟩
theorem divN (w:World):pW 151 #[] jx w:=by
 refine⟨bE Tryz.func151 rfl (by kernel_rfl),fun x y a b w0 hw ha hb=>?_⟩;obtain⟨p1,p2,p3,p4,p5,p6,rfl,hax,hay⟩:=id ha.v;obtain⟨r1,r2,r3,r4,r5,r6,rfl,hbx,hby⟩:=id hb.v
 show Calls _ _ #[_,_] _ _
 go_enter Tryz.func151,Tryz.ntmps151;go_upto_region 1 with fail
 have E:=kE w0 p1 p2 p3 p4 p5 p6 r1 r2 r3 r4 r5 r6;unfold kq at E;generalize ((w0.alloc (.cells #[p1,p2,p3,p4,p5,p6] 110)).alloc (.cells #[r1,r2,r3,r4,r5,r6] 110)).alloc (.cells #[.bool false,.slice none 0 0,.slice none 0 0,.bool false,.slice none 0 0,.slice none 0 0] 110)=w3 at *
 obtain⟨q1,q2,q3,MD⟩:=E;have HA:=ri (ha.below MD);have HB:=ri (hb.below MD);have HZ:=ri (rg _ _ _ HB.out.v);have B1:=ri q1;have B2:=ri q2;have B3:=ri q3;have MD:=ri MD;have a0:=q1.c0;have a1:=q1.c1;have a2:=q1.c2;have a3:=q1.c3;have a4:=q1.c4;have a5:=q1.c5;have b0:=q2.c0;have b1:=q2.c1;have b2:=q2.c2;have b3:=q2.c3;have b4:=q2.c4;have b5:=q2.c5;clear q1 q2 q3 hax hay hbx hby ha hb
 have hiff:((ct b).x.n=0/\(ct b).y.n=0)↔b=⟨0,0⟩:=by
  show ((rt b.re).n=0/\(rt b.im).n=0)↔_
  rw[br,br];constructor
  ·rintro⟨h1,h2⟩;cases b;simp only at h1 h2;rw[h1,h2]
  ·intro h;rw[h];exact⟨rfl,rfl⟩
 by_cases hbz:b=⟨0,0⟩
 ·rw[decide_eq_true (hiff.2 hbz)] at HZ;have hd:jx a b=(⟨0,0⟩,12):=if_pos hbz;have HD:=ri hd;clear hd;go_wp2_with fail
  refine HZ.out.mono ?_;rintro e w4 ⟨rfl,hb4⟩;have B8:=B3.out.below hb4;have k0:=B8.cell 0;have k1:=B8.cell 1;have k2:=B8.cell 2;have k3:=B8.cell 3;have k4:=B8.cell 4;have k5:=B8.cell 5;have f0:=B8.fr 0;have f1:=B8.fr 1;have f2:=B8.fr 2;have f3:=B8.fr 3;have f4:=B8.fr 4;have f5:=B8.fr 5;have P:=ri (B8.put (a':=.bool false) (b':=.slice none 0 0) (c':=.slice none 0 0) (d':=.bool false) (e':=.slice none 0 0) (f':=.slice none 0 0) nofun nofun nofun nofun nofun nofun);have M8:=ri (P.out.2.2 _ (MD.out.trans (hb4.mono MD.out.size)) (by omega));clear B8;go_wp2_with fail
  have q0:=P.out.1.cell 0;have q1:=P.out.1.cell 1;have q2:=P.out.1.cell 2;have q3:=P.out.1.cell 3;have q4:=P.out.1.cell 4;have q5:=P.out.1.cell 5;have hn:=nl;have hf0:Few 0:=cj (by decide);refine t8 (v:=.tuple #[di,.int .i64 12]) (by simp[results,Tryz.results151,go_sem,bM,di] at q0 q1 q2 q3 q4 q5 |-;simp[results,Tryz.results151,go_sem,q0,q1,q2,q3,q4,q5]) rfl ⟨_,⟨⟨false,0,0⟩,⟨false,0,0⟩⟩,by rw[HD.out];rfl,⟨_,_,_,_,_,_,rfl,⟨_,_,rfl,hn _,hn _,hf0,hf0⟩,⟨_,_,rfl,hn _,hn _,hf0,hf0⟩⟩,fun h=>by rw[HD.out] at h;simp at h,M8.out⟩
 ·rw[decide_eq_false (fun h=>hbz (hiff.1 h))] at HZ;have hd:jx a b=(a.div b,0):=if_neg hbz;have HD:=ri hd;clear hd;go_wp2_with fail
  refine HZ.out.mono ?_;rintro e w4 ⟨rfl,hb4⟩;clear a0 a1 a2 a3 a4 a5 b0 b1 b2 b3 b4 b5;have q1:=B1.out.below hb4;have q2:=B2.out.below hb4;have a0:=q1.c0;have a1:=q1.c1;have a2:=q1.c2;have a3:=q1.c3;have a4:=q1.c4;have a5:=q1.c5;have b0:=q2.c0;have b1:=q2.c1;have b2:=q2.c2;have b3:=q2.c3;have b4:=q2.c4;have b5:=q2.c5;clear q1 q2
  have h0:0<(iu (ct b)).n:=by
   rw[jT];exact tb fun h=>hbz (iv ((br _).1 h))
  have HC:=ri (qA _ _ _ _ 10000 10000 w4 (HA.out.v.below hb4) (HB.out.v.below hb4) HA.out.s HB.out.s h0 (by decide));rw[nF hbz] at HC;go_wp2_with fail
  refine HC.out.mono ?_;rintro e w5 ⟨v5,rfl,hv5,hb5⟩;have hB5:=hb4.trans (hb5.mono hb4.size);obtain⟨x1,x2,x3,y1,y2,y3,rfl,hx,hy⟩:=hv5;obtain⟨xm,xp,xl,xc,xq,xk,xd,hxe⟩:=hx.form;obtain⟨ym,yp,yl,yc,yq,yk,yd,hye⟩:=hy.form;obtain⟨rfl,rfl,rfl⟩:=eN hxe;obtain⟨rfl,rfl,rfl⟩:=eN hye;have B8:=B3.out.below hB5;have k0:=B8.cell 0;have k1:=B8.cell 1;have k2:=B8.cell 2;have k3:=B8.cell 3;have k4:=B8.cell 4;have k5:=B8.cell 5;have f0:=B8.fr 0;have f1:=B8.fr 1;have f2:=B8.fr 2;have f3:=B8.fr 3;have f4:=B8.fr 4;have f5:=B8.fr 5;have P:=ri (B8.putV hx hy);have M8:=ri (P.out.2.2 _ _ (MD.out.trans (hB5.mono MD.out.size)) (by omega));clear hx hy hxe hye B8;go_wp2_with fail
  have q0:=P.out.1.cell 0;have q1:=P.out.1.cell 1;have q2:=P.out.1.cell 2;have q3:=P.out.1.cell 3;have q4:=P.out.1.cell 4;have q5:=P.out.1.cell 5;refine t8 (v:=.tuple #[.agg #[.bool xm,.slice xp xl xc,.slice xq xk xd,.bool ym,.slice yp yl yc,.slice yq yk yd],.int .i64 0]) (by simp[results,Tryz.results151,go_sem,bM] at q0 q1 q2 q3 q4 q5 |-;simp[results,Tryz.results151,go_sem,q0,q1,q2,q3,q4,q5]) rfl ⟨_,_,by rw[HD.out],P.out.2.1,fun _=>by rw[HD.out],M8.out⟩
theorem og (G:FuncId) (w:World) :
  Calls Tryz.prog 176 #[.func (.func G) #[] #[]] w fun e w'=>∃ k,e=.returned (.func (.func 221) #[] #[.pointer (some ⟨k,0,none⟩)])/\k<w'.heap.size/\w'.cell? ⟨k,0,none⟩=some (.func (.func G) #[] #[])/\Below w.heap.size w w':=by
 go_enter Tryz.func176,Tryz.ntmps176;go_wp2;go_ret;exact⟨_,rfl,by rw[af];omega,ah _ _ _ _ _ rfl,ae _ _⟩
theorem qv (s t:ByteArray) (w:World) (hG:Gw w) :
  Calls Tryz.prog 126 #[.string s,.string t] w fun e w'=>e=.returned (.tuple #[.string (aO (ce CQ.add) s t).1,.int .i64 (aO (ce CQ.add) s t).2])/\Below w.heap.size w w':=by
 obtain⟨r,hr⟩:∃ r,r=aO (ce CQ.add) s t:=⟨_,rfl⟩;rw[<-hr];have HR:=ri hr;clear hr;go_enter Tryz.func126,Tryz.ntmps126;go_wp2_with fail
 refine (og _ w).mono ?_;rintro e w1 ⟨k,rfl,hk,hc,hb1⟩;have hp:=k8 221 _ _ s t w1 (hG.below hb1) (oh q_ k w1 hc hk);rw[<-HR.out] at hp;go_wp2_with fail
 refine hp.mono ?_;clear hp;rintro e w2 ⟨rfl,hb2⟩;go_wp2;refine t8 (v:=.tuple #[.string r.1,.int .i64 r.2]) (by simp[results,Tryz.results126,go_sem]) rfl ⟨rfl,hb1.trans (hb2.mono hb1.size)⟩
theorem qz (s t:ByteArray) (w:World) (hG:Gw w) :
  Calls Tryz.prog 128 #[.string s,.string t] w fun e w'=>e=.returned (.tuple #[.string (aO (ce CQ.sub) s t).1,.int .i64 (aO (ce CQ.sub) s t).2])/\Below w.heap.size w w':=by
 obtain⟨r,hr⟩:∃ r,r=aO (ce CQ.sub) s t:=⟨_,rfl⟩;rw[<-hr];have HR:=ri hr;clear hr;go_enter Tryz.func128,Tryz.ntmps128;go_wp2_with fail
 refine (og _ w).mono ?_;rintro e w1 ⟨k,rfl,hk,hc,hb1⟩;have hp:=k8 221 _ _ s t w1 (hG.below hb1) (oh qW k w1 hc hk);rw[<-HR.out] at hp;go_wp2_with fail
 refine hp.mono ?_;clear hp;rintro e w2 ⟨rfl,hb2⟩;go_wp2;refine t8 (v:=.tuple #[.string r.1,.int .i64 r.2]) (by simp[results,Tryz.results128,go_sem]) rfl ⟨rfl,hb1.trans (hb2.mono hb1.size)⟩
theorem qy (s t:ByteArray) (w:World) (hG:Gw w) :
  Calls Tryz.prog 127 #[.string s,.string t] w fun e w'=>e=.returned (.tuple #[.string (aO (ce CQ.mul) s t).1,.int .i64 (aO (ce CQ.mul) s t).2])/\Below w.heap.size w w':=by
 obtain⟨r,hr⟩:∃ r,r=aO (ce CQ.mul) s t:=⟨_,rfl⟩;rw[<-hr];have HR:=ri hr;clear hr;go_enter Tryz.func127,Tryz.ntmps127;go_wp2_with fail
 refine (og _ w).mono ?_;rintro e w1 ⟨k,rfl,hk,hc,hb1⟩;have hp:=k8 221 _ _ s t w1 (hG.below hb1) (oh qH k w1 hc hk);rw[<-HR.out] at hp;go_wp2_with fail
 refine hp.mono ?_;clear hp;rintro e w2 ⟨rfl,hb2⟩;go_wp2;refine t8 (v:=.tuple #[.string r.1,.int .i64 r.2]) (by simp[results,Tryz.results127,go_sem]) rfl ⟨rfl,hb1.trans (hb2.mono hb1.size)⟩
theorem qw (s t:ByteArray) (w:World) (hG:Gw w) :
  Calls Tryz.prog 97 #[.string s,.string t] w fun e w'=>e=.returned (.tuple #[.string (aO jx s t).1,.int .i64 (aO jx s t).2])/\Below w.heap.size w w':=by
 obtain⟨r,hr⟩:∃ r,r=aO jx s t:=⟨_,rfl⟩;have hp:=k8 151 _ _ s t w hG (divN w);rw[<-hr] at hp |-;have HP:=ri hp;clear hr hp;go_enter Tryz.func97,Tryz.ntmps97;go_wp2_with fail
 refine HP.out.mono ?_;rintro e w2 ⟨rfl,hb2⟩;go_wp2;refine t8 (v:=.tuple #[.string r.1,.int .i64 r.2]) (by simp[results,Tryz.results97,go_sem]) rfl ⟨rfl,hb2⟩
theorem iW (s t:ByteArray) (w:World) (hG:Gw w) :
  Calls Tryz.prog 68 #[.string s,.string t] w fun e w'=>e=.returned (.string (fJ s t))/\Below w.heap.size w w':=by
 unfold fJ;have HP:=ri (qv s t w hG);go_enter Tryz.func68,Tryz.ntmps68;go_wp2_with fail
 refine HP.out.mono ?_;rintro e w2 ⟨rfl,hb2⟩;go_wp2;go_ret;exact⟨rfl,hb2⟩
theorem pf (s t:ByteArray) (w:World) (hG:Gw w) :
  Calls Tryz.prog 70 #[.string s,.string t] w fun e w'=>e=.returned (.string (mo s t))/\Below w.heap.size w w':=by
 unfold mo;have HP:=ri (qz s t w hG);go_enter Tryz.func70,Tryz.ntmps70;go_wp2_with fail
 refine HP.out.mono ?_;rintro e w2 ⟨rfl,hb2⟩;go_wp2;go_ret;exact⟨rfl,hb2⟩
theorem lp (s t:ByteArray) (w:World) (hG:Gw w) :
  Calls Tryz.prog 69 #[.string s,.string t] w fun e w'=>e=.returned (.string (jM s t))/\Below w.heap.size w w':=by
 unfold jM;have HP:=ri (qy s t w hG);go_enter Tryz.func69,Tryz.ntmps69;go_wp2_with fail
 refine HP.out.mono ?_;rintro e w2 ⟨rfl,hb2⟩;go_wp2;go_ret;exact⟨rfl,hb2⟩
theorem pc (s t:ByteArray) (w:World) (hG:Gw w) :
  Calls Tryz.prog 49 #[.string s,.string t] w fun e w'=>e=.returned (.string (eS s t))/\Below w.heap.size w w':=by
 unfold eS;have HP:=ri (qw s t w hG);go_enter Tryz.func49,Tryz.ntmps49;go_wp2_with fail
 refine HP.out.mono ?_;rintro e w2 ⟨rfl,hb2⟩;go_wp2;go_ret;exact⟨rfl,hb2⟩
def cellsOf:Value->List Value
 | .agg a=>a.toList
 | v=>[v]
def cM (es:List Value):List Value:=es.flatMap cellsOf
theorem eU (es:List Value) (x:Value):cM (es++[x])=cM es++cellsOf x:=by simp[cM]
theorem gp {k:Nat}:∀ {es:List Value}{i j:Nat} (_:∀ e∈es,(cellsOf e).length=k) (hi:i<es.length) (_:j<k),(cM es)[i*k+j]?=(cellsOf es[i])[j]?
 | e :: es,0,j,h,_,hj=>by
  have h1:=h e (by simp);simp only[cM,tz,th,sk,rk];rw[su (by omega)]
 | e :: es,i+1,j,h,hi,hj=>by
  have h1:=h e (by simp);have h2:=gp (es:=es) (i:=i) (j:=j) (fun x hx=>h x (by simp[hx])) (by simpa using hi) hj;simp only[cM,tz,rl] at h2 |-;rw[sI (by rw[h1,tQ];omega),h1,<-h2];congr 1;rw[tQ];omega
def kW (w:World) (p:Option Addr) (k:Nat) (es:List Value):Prop :=
 0<es.length->∃ b o,p=some ⟨b,o,none⟩/\b<w.heap.size/\∀ i (h:i<es.length) j u,(cellsOf es[i])[j]?=some u->w.cell? ⟨b,o+i*k+j,none⟩=some u
theorem kW.below {w w':World}{p:Option Addr}{k:Nat}{es:List Value} (h:kW w p k es) (hb:Below w.heap.size w w'):kW w' p k es:=fun hl=>by
 obtain⟨b,o,e,hlt,hc⟩:=h hl;exact⟨b,o,e,rA hlt hb.size,fun i hi j u hu=>(hb.cell (p:=⟨b,o+i*k+j,none⟩) hlt).trans (hc i hi j u hu)⟩
def bT (w:World) (k:Nat) (v:Value) (es:List Value):Prop:=∃ p cap,v=.slice p es.length cap/\es.length<=cap/\cap<=maxLen/\kW w p k es
theorem bT.below {w w':World}{k:Nat}{v:Value}{es:List Value} (h:bT w k v es) (hb:Below w.heap.size w w'):bT w' k v es:=by
 obtain⟨p,cap,e,h1,h2,h3⟩:=h;exact⟨p,cap,e,h1,h2,h3.below hb⟩
theorem bT.nil (w:World) (k:Nat):bT w k (.slice none 0 0) []:=⟨none,0,rfl,rp _,by simp[maxLen],fun h=>by simp at h⟩
theorem cC {w:World}{base:Nat}{T:TypeId}{k:Nat}{v:Value}{es:List Value} (hk:∀ e∈es,(cellsOf e).length=k) (h:w.ownsRow base T k v es.length (cM es)):bT w k v es:=by
 obtain⟨hlen,h⟩:=h;rcases h with ⟨rfl,h0⟩ | ⟨g,cap,cur,rfl,hg,hh,hn,hm,hs,ht⟩
 ·refine⟨none,0,by rw[h0],by omega,by simp[maxLen],fun hp=>by omega⟩
 ·refine⟨some ⟨g,0,none⟩,cap,rfl,hn,hm,fun _=>⟨g,0,rfl,(rD.1 hh).1,fun i hi j u hu=>?_⟩⟩
  have hj:j<k:=by
   have:=(tl.1 hu).1
   rwa [hk _ (rU hi)] at this
  have hb:i*k+j<es.length*k:=by
   have:=rx k (show i+1<=es.length from hi);rw[tQ] at this;omega
  rw[World.cell?,hh];simp only[sk,tv,so,if_false];rw[<-td,<-List.getElem?_take_of_lt hb,ht,gp hk hi hj,hu]
def IsS (w:World) (v:Value) (l:List ByteArray):Prop:=bT w 1 v (l.map .string)
def cm (w:World) (base:Nat) (v:Value) (l:List ByteArray):Prop:=w.ownsRow base 32 1 v l.length (l.map .string)
theorem IsS.below {w w':World}{v:Value}{l:List ByteArray} (h:IsS w v l) (hb:Below w.heap.size w w'):IsS w' v l:=bT.below h hb
theorem db:∀ l:List ByteArray,cM (l.map .string)=l.map .string
 | []=>rfl
 | s :: l=>by
  have:=db l;simp only[cM,sT,tz] at this |-;rw[this];rfl
theorem gW (l:List ByteArray):∀ e∈l.map Value.string,(cellsOf e).length=1:=by
 intro e he;obtain⟨s,-,rfl⟩:=si.1 he;rfl
theorem cm.isS {w:World}{base:Nat}{v:Value}{l:List ByteArray} (h:cm w base v l):IsS w v l:=by
 refine cC (gW l) (T:=32) (base:=base) ?_;rw[rJ,db];exact h
theorem cU {w w':World}{base:Nat}{T:TypeId}{k:Nat}{v:Value}{n:Nat}{xs:List Value} (h:w.ownsRow base T k v n xs) (hb:Below w.heap.size w w'):w'.ownsRow base T k v n xs:=by
 obtain⟨hlen,h⟩:=h;refine⟨hlen,?_⟩;rcases h with h | ⟨g,cap,cur,rfl,hg,hh,r⟩
 ·exact Or.inl h
 ·exact Or.inr ⟨g,cap,cur,rfl,hg,by rw[hb.block g (rD.1 hh).1];exact hh,r⟩
theorem cm.below {w w':World}{base:Nat}{v:Value}{l:List ByteArray} (h:cm w base v l) (hb:Below w.heap.size w w'):cm w' base v l:=cU h hb
theorem cm.nil (w:World) (base:Nat):cm w base (.slice none 0 0) []:=World.ownsRow_nil _ _ _ _
theorem IsS.get {w:World}{p:Option Addr}{n c:Nat}{l:List ByteArray} (h:IsS w (.slice p n c) l) {i:Nat} (hi:i<l.length):∃ b o,p=some ⟨b,o,none⟩/\b<w.heap.size/\w.cell? ⟨b,o+i,none⟩=some (.string l[i]):=by
 obtain⟨p',cap,e,h1,h2,h3⟩:=h;obtain⟨rfl,-,-⟩:p=p'/\n=(l.map Value.string).length/\c=cap:=by simpa using e
 obtain⟨b,o,e2,hlt,hc⟩:=h3 (by rw[rJ];omega);refine⟨b,o,e2,hlt,?_⟩;have:=hc i (by rw[rJ];exact hi) 0 (.string l[i]) (by simp[cellsOf]);simpa using this
theorem IsS.form {w:World}{v:Value}{l:List ByteArray} (h:IsS w v l):∃ p c,v=.slice p l.length c/\l.length<=c/\c<=maxLen:=by
 obtain⟨p,c,e,h1,h2,-⟩:=h;rw[rJ] at e h1;exact⟨p,c,e,h1,h2⟩
def IsP (w:World) (v:Value) (zs:List CQ):Prop:=∃ es:List Value,es.length=zs.length/\bT w 6 v es/\∀ i (h:i<es.length) (h':i<zs.length),IsK w es[i] zs[i]
def iO (w:World) (base:Nat) (v:Value) (zs:List CQ):Prop:=∃ es:List Value,es.length=zs.length/\w.ownsRow base 110 6 v es.length (cM es)/\∀ i (h:i<es.length) (h':i<zs.length),IsK w es[i] zs[i]
theorem IsK.len {w:World}{v:Value}{z:CQ} (h:IsK w v z):(cellsOf v).length=6:=by
 obtain⟨a,b,c,d,e,f,rfl,-⟩:=h.v;rfl
theorem IsK.forms {w:World}{v:Value}{z:CQ} (h:IsK w v z):∃ xm xp xl xc xq xk xd ym yp yl yc yq yk yd,v=.agg #[.bool xm,.slice xp xl xc,.slice xq xk xd,.bool ym,.slice yp yl yc,.slice yq yk yd]:=by
 obtain⟨_,_,_,_,_,_,rfl,hx0,hy0⟩:=h.v;obtain⟨xm,xp,xl,xc,xq,xk,xd,hxe⟩:=hx0.form;obtain⟨ym,yp,yl,yc,yq,yk,yd,hye⟩:=hy0.form;obtain⟨rfl,rfl,rfl⟩:=eN hxe;obtain⟨rfl,rfl,rfl⟩:=eN hye;exact⟨_,_,_,_,_,_,_,_,_,_,_,_,_,_,rfl⟩
theorem oM {w:World}{es:List Value}{zs:List CQ} (hl:es.length=zs.length) (h:∀ i (h:i<es.length) (h':i<zs.length),IsK w es[i] zs[i]):∀ e∈es,(cellsOf e).length=6:=by
 intro e he;obtain⟨i,hi,rfl⟩:=sR he;exact (h i hi (by omega)).len
theorem IsP.below {w w':World}{v:Value}{zs:List CQ} (h:IsP w v zs) (hb:Below w.heap.size w w'):IsP w' v zs:=by
 obtain⟨es,h1,h2,h3⟩:=h;exact⟨es,h1,h2.below hb,fun i hi hi'=>(h3 i hi hi').below hb⟩
theorem iO.below {w w':World}{base:Nat}{v:Value}{zs:List CQ} (h:iO w base v zs) (hb:Below w.heap.size w w'):iO w' base v zs:=by
 obtain⟨es,h1,h2,h3⟩:=h;exact⟨es,h1,cU h2 hb,fun i hi hi'=>(h3 i hi hi').below hb⟩
theorem iO.isP {w:World}{base:Nat}{v:Value}{zs:List CQ} (h:iO w base v zs):IsP w v zs:=by
 obtain⟨es,h1,h2,h3⟩:=h;exact⟨es,h1,cC (oM h1 h3) h2,h3⟩
theorem iO.nil (w:World) (base:Nat):iO w base (.slice none 0 0) []:=⟨[],rfl,World.ownsRow_nil _ _ _ _,fun i h=>by simp at h⟩
theorem IsP.form {w:World}{v:Value}{zs:List CQ} (h:IsP w v zs):∃ p c,v=.slice p zs.length c/\zs.length<=c/\c<=maxLen:=by
 obtain⟨es,h1,⟨p,c,e,h2,h3,-⟩,-⟩:=h;rw[h1] at e h2;exact⟨p,c,e,h2,h3⟩
theorem IsP.get {w:World}{p:Option Addr}{n c:Nat}{zs:List CQ} (h:IsP w (.slice p n c) zs) {i:Nat} (hi:i<zs.length) :
  ∃ B o,p=some ⟨B,o,none⟩/\B<w.heap.size/\∃ xm xp xl xc xq xk xd ym yp yl yc yq yk yd,IsK w (.agg #[.bool xm,.slice xp xl xc,.slice xq xk xd,.bool ym,.slice yp yl yc,.slice yq yk yd]) zs[i] /\
   w.cell? ⟨B,o+i*6,none⟩=some (.bool xm)/\w.cell? ⟨B,o+i*6+1,none⟩=some (.slice xp xl xc)/\w.cell? ⟨B,o+i*6+2,none⟩=some (.slice xq xk xd) /\
   w.cell? ⟨B,o+i*6+3,none⟩=some (.bool ym)/\w.cell? ⟨B,o+i*6+4,none⟩=some (.slice yp yl yc)/\w.cell? ⟨B,o+i*6+5,none⟩=some (.slice yq yk yd):=by
 obtain⟨es,h1,⟨p',cap,e,h2,h3,h4⟩,h5⟩:=h;obtain⟨rfl,-,-⟩:p=p'/\n=es.length/\c=cap:=by simpa using e
 obtain⟨b,o,e2,hlt,hc⟩:=h4 (by omega);have hk:=h5 i (by omega) hi;obtain⟨xm,xp,xl,xc,xq,xk,xd,ym,yp,yl,yc,yq,yk,yd,he⟩:=hk.forms;have hc:=hc i (by omega);rw[he] at hk hc;exact⟨b,o,e2,hlt,_,_,_,_,_,_,_,_,_,_,_,_,_,_,hk,hc 0 _ rfl,hc 1 _ rfl,hc 2 _ rfl,hc 3 _ rfl,hc 4 _ rfl,hc 5 _ rfl⟩
end Go.Proofs.YtmakbmhlemhgeaaGreatDoor
