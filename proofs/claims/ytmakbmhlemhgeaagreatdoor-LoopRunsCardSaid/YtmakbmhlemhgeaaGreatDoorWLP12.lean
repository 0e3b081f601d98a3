/- L -/
import Derived.Test.YtmakbmhlemhgeaaGreatDoorWCoef
import Derived.Test.YtmakbmhlemhgeaaGreatDoorWNC8
import Derived.Test.YtmakbmhlemhgeaaGreatDoorWLP9
import Derived.Test.YtmakbmhlemhgeaaGreatDoorWB
set_option linter.all false
set_option maxRecDepth 100000
set_option maxHeartbeats 8000000
namespace Go.Proofs.YtmakbmhlemhgeaaGreatDoor
open Go.RowKit Dg
structure Av (F:FuncId) (cap:Array Value) (φ:CQ->CQ) (w:World):Prop where
 en:∀ (args:Array Value) (w:World),(callFunc F args).run Tryz.prog w=.ok (.enter F args) w
 on:∀ (x:Value) (a:CQ) (w':World),Below w.heap.size w w'->IsK w' x a->Calls Tryz.prog F (#[x]++cap) w' fun e w''=>∃ v,e=.returned v/\IsV w'' v (ct (φ a))/\Below w'.heap.size w' w''
def ofC (φ:CQ->CQ) (s:ByteArray):ByteArray×Int:=match fz s with | some a=>dY (φ a) | none=>(⟨#[]⟩,10)
theorem EP (F:FuncId) (cap:Array Value) (φ:CQ->CQ) (s:ByteArray) (w:World) (hG:Gw w) (hF:Av F cap φ w) :
  Calls Tryz.prog 99 #[.string s,.func (.func F) #[] cap] w fun e w'=>e=.returned (.tuple #[.string (ofC φ s).1,.int .i64 (ofC φ s).2])/\Below w.heap.size w w':=by
 have HF:=GF hF;have EN:=hF.en;clear hF;go_enter Tryz.func99,Tryz.ntmps99;go_wp2_with fail
 refine (kx s w hG).mono ?_;rintro e w1 ⟨v,ok,rfl,hcase,hb1⟩;rcases hcase with ⟨z,hz,rfl,hv⟩ | ⟨hz,rfl,rfl⟩
 ·obtain⟨p,rfl,hp1,hp2,-,-⟩:=jr hz;have HP1:=GF (show ofC φ s=dY (φ p) by unfold ofC;rw[hp1]);clear hz hp1;have hk:IsK w1 v p:=⟨hv,hp2.mono (by decide)⟩
  obtain⟨xm,xp,xl,xc,xq,xk,xd,ym,yp,yl,yc,yq,yk,yd,rfl⟩:∃ xm xp xl xc xq xk xd ym yp yl yc yq yk yd,v=.agg #[.bool xm,.slice xp xl xc,.slice xq xk xd,.bool ym,.slice yp yl yc,.slice yq yk yd]:=by
   obtain⟨_,_,_,_,_,_,rfl,hx0,hy0⟩:=hk.v;obtain⟨xm,xp,xl,xc,xq,xk,xd,hxe⟩:=hx0.form;obtain⟨ym,yp,yl,yc,yq,yk,yd,hye⟩:=hy0.form;obtain⟨rfl,rfl,rfl⟩:=eU hxe;obtain⟨rfl,rfl,rfl⟩:=eU hye;exact⟨_,_,_,_,_,_,_,_,_,_,_,_,_,_,rfl⟩
  go_upto_region 2 with fail
  have q1:=cE.new w1 (.bool xm) (.slice xp xl xc) (.slice xq xk xd) (.bool ym) (.slice yp yl yc) (.slice yq yk yd) 110;have m1:=au w1 (.cells #[.bool xm,.slice xp xl xc,.slice xq xk xd,.bool ym,.slice yp yl yc,.slice yq yk yd] 110);generalize w1.alloc (.cells #[.bool xm,.slice xp xl xc,.slice xq xk xd,.bool ym,.slice yp yl yc,.slice yq yk yd] 110)=w2 at *
  have a0:=q1.c0;have a1:=q1.c1;have a2:=q1.c2;have a3:=q1.c3;have a4:=q1.c4;have a5:=q1.c5;have hB2:=hb1.trans (m1.mono hb1.size);have HC:=GF (HF.out.on _ _ w2 hB2 (hk.below m1));have HG:=GF (hG.below hB2);clear q1 m1 hk hv hb1 HF;go_wp2_with fail
  refine HC.out.mono ?_;rintro e w3 ⟨v3,rfl,hv3,hb3⟩;have hB3:=hB2.trans (hb3.mono hB2.size);go_wp2_with fail
  refine (Cl _ _ _ hv3 (HG.out.below hb3)).mono ?_;rintro e w4 ⟨rfl,hb4⟩;go_wp2;refine Kh (v:=.tuple #[.string (dY (φ p)).1,.int .i64 (dY (φ p)).2]) (by simp[results,Tryz.results99,go_sem]) rfl ⟨by rw[HP1.out],hB3.trans (hb4.mono hB3.size)⟩
 ·have HE:=GF (show ofC φ s=(⟨#[]⟩,10) by unfold ofC;rw[gK hz]);clear hz;unfold iA;go_wp2;refine Kh (v:=.tuple #[.string ⟨#[]⟩,.int .i64 10]) (by simp[results,Tryz.results99,go_sem]) rfl ⟨by rw[HE.out],hb1.trans ((au w1 _).mono hb1.size)⟩
theorem reF (w:World):Av 148 #[] (fun z=>CQ.real z.re) w:=by
 refine⟨cD Tryz.func148 rfl (by kernel_rfl),fun x z w0 hw hk=>?_⟩;obtain⟨a,b,c,d,e,f,rfl,hax,hay⟩:=id hk.v
 show Calls _ _ #[_] _ _
 go_enter Tryz.func148,Tryz.ntmps148;go_upto_region 1 with fail
 have q1:=cE.new w0 a b c d e f 110;have m1:=au w0 (.cells #[a,b,c,d,e,f] 110);have z1:=size_alloc w0 (.cells #[a,b,c,d,e,f] 110);generalize w0.alloc (.cells #[a,b,c,d,e,f] 110)=w1 at *
 have q3:=dj.new w1 (.bool false) (.slice none 0 0) (.slice none 0 0) (.bool false) (.slice none 0 0) (.slice none 0 0) nofun nofun nofun nofun nofun nofun;have m3:=au w1 (.cells #[.bool false,.slice none 0 0,.slice none 0 0,.bool false,.slice none 0 0,.slice none 0 0] 110);generalize w1.alloc (.cells #[.bool false,.slice none 0 0,.slice none 0 0,.bool false,.slice none 0 0,.slice none 0 0] 110)=w3 at *
 rw[z1] at q3;have q1:=q1.below m3;have a0:=q1.c0;have a1:=q1.c1;have a2:=q1.c2;have a3:=q1.c3;have a4:=q1.c4;have a5:=q1.c5;have MD:=GF (m1.trans (m3.mono m1.size));have B3:=GF q3;have HX:=GF (hax.below MD.out);clear q1 q3 m1 m3 z1 hax hay hk;go_wp2_with fail
 refine (ft _ _ _ HX.out).mono ?_;rintro e w4 ⟨v4,rfl,hv4,hb4⟩;have hv4:IsV w4 v4 (ct (CQ.real z.re)):=by rw[<-dP];exact hv4
 obtain⟨x1,x2,x3,y1,y2,y3,rfl,hx,hy⟩:=hv4;obtain⟨xm,xp,xl,xc,xq,xk,xd,hxe⟩:=hx.form;obtain⟨ym,yp,yl,yc,yq,yk,yd,hye⟩:=hy.form;obtain⟨rfl,rfl,rfl⟩:=eU hxe;obtain⟨rfl,rfl,rfl⟩:=eU hye;have B8:=B3.out.below hb4;have k0:=B8.cell 0;have k1:=B8.cell 1;have k2:=B8.cell 2;have k3:=B8.cell 3;have k4:=B8.cell 4;have k5:=B8.cell 5;have f0:=B8.fr 0;have f1:=B8.fr 1;have f2:=B8.fr 2;have f3:=B8.fr 3;have f4:=B8.fr 4;have f5:=B8.fr 5;have P:=GF (B8.putV hx hy);have M8:=GF (P.out.2.2 _ _ (MD.out.trans (hb4.mono MD.out.size)) (by omega));clear hx hy hxe hye B8;go_wp2_with fail
 have q0:=P.out.1.cell 0;have q1:=P.out.1.cell 1;have q2:=P.out.1.cell 2;have q3:=P.out.1.cell 3;have q4:=P.out.1.cell 4;have q5:=P.out.1.cell 5;refine Kh (v:=.agg #[.bool xm,.slice xp xl xc,.slice xq xk xd,.bool ym,.slice yp yl yc,.slice yq yk yd]) (by simp[results,Tryz.results148,go_sem,eC] at q0 q1 q2 q3 q4 q5 |-;simp[results,Tryz.results148,go_sem,q0,q1,q2,q3,q4,q5]) rfl ⟨_,rfl,P.out.2.1,M8.out⟩
theorem imF (w:World):Av 149 #[] (fun z=>CQ.real z.im) w:=by
 refine⟨cD Tryz.func149 rfl (by kernel_rfl),fun x z w0 hw hk=>?_⟩;obtain⟨a,b,c,d,e,f,rfl,hax,hay⟩:=id hk.v
 show Calls _ _ #[_] _ _
 go_enter Tryz.func149,Tryz.ntmps149;go_upto_region 1 with fail
 have q1:=cE.new w0 a b c d e f 110;have m1:=au w0 (.cells #[a,b,c,d,e,f] 110);have z1:=size_alloc w0 (.cells #[a,b,c,d,e,f] 110);generalize w0.alloc (.cells #[a,b,c,d,e,f] 110)=w1 at *
 have q3:=dj.new w1 (.bool false) (.slice none 0 0) (.slice none 0 0) (.bool false) (.slice none 0 0) (.slice none 0 0) nofun nofun nofun nofun nofun nofun;have m3:=au w1 (.cells #[.bool false,.slice none 0 0,.slice none 0 0,.bool false,.slice none 0 0,.slice none 0 0] 110);generalize w1.alloc (.cells #[.bool false,.slice none 0 0,.slice none 0 0,.bool false,.slice none 0 0,.slice none 0 0] 110)=w3 at *
 rw[z1] at q3;have q1:=q1.below m3;have a0:=q1.c0;have a1:=q1.c1;have a2:=q1.c2;have a3:=q1.c3;have a4:=q1.c4;have a5:=q1.c5;have MD:=GF (m1.trans (m3.mono m1.size));have B3:=GF q3;have HX:=GF (hay.below MD.out);clear q1 q3 m1 m3 z1 hax hay hk;go_wp2_with fail
 refine (ft _ _ _ HX.out).mono ?_;rintro e w4 ⟨v4,rfl,hv4,hb4⟩;have hv4:IsV w4 v4 (ct (CQ.real z.im)):=by rw[<-dP];exact hv4
 obtain⟨x1,x2,x3,y1,y2,y3,rfl,hx,hy⟩:=hv4;obtain⟨xm,xp,xl,xc,xq,xk,xd,hxe⟩:=hx.form;obtain⟨ym,yp,yl,yc,yq,yk,yd,hye⟩:=hy.form;obtain⟨rfl,rfl,rfl⟩:=eU hxe;obtain⟨rfl,rfl,rfl⟩:=eU hye;have B8:=B3.out.below hb4;have k0:=B8.cell 0;have k1:=B8.cell 1;have k2:=B8.cell 2;have k3:=B8.cell 3;have k4:=B8.cell 4;have k5:=B8.cell 5;have f0:=B8.fr 0;have f1:=B8.fr 1;have f2:=B8.fr 2;have f3:=B8.fr 3;have f4:=B8.fr 4;have f5:=B8.fr 5;have P:=GF (B8.putV hx hy);have M8:=GF (P.out.2.2 _ _ (MD.out.trans (hb4.mono MD.out.size)) (by omega));clear hx hy hxe hye B8;go_wp2_with fail
 have q0:=P.out.1.cell 0;have q1:=P.out.1.cell 1;have q2:=P.out.1.cell 2;have q3:=P.out.1.cell 3;have q4:=P.out.1.cell 4;have q5:=P.out.1.cell 5;refine Kh (v:=.agg #[.bool xm,.slice xp xl xc,.slice xq xk xd,.bool ym,.slice yp yl yc,.slice yq yk yd]) (by simp[results,Tryz.results149,go_sem,eC] at q0 q1 q2 q3 q4 q5 |-;simp[results,Tryz.results149,go_sem,q0,q1,q2,q3,q4,q5]) rfl ⟨_,rfl,P.out.2.1,M8.out⟩
theorem Gy (s:ByteArray) (w:World) (hG:Gw w) :
  Calls Tryz.prog 95 #[.string s] w fun e w'=>e=.returned (.tuple #[.string (ofC (fun z=>CQ.real z.re) s).1,.int .i64 (ofC (fun z=>CQ.real z.re) s).2])/\Below w.heap.size w w':=by
 have HP:=GF (EP 148 #[] _ s w hG (reF w));go_enter Tryz.func95,Tryz.ntmps95;go_wp2_with fail
 refine HP.out.mono ?_;rintro e w2 ⟨rfl,hb2⟩;go_wp2;refine Kh (v:=.tuple #[.string (ofC (fun z=>CQ.real z.re) s).1,.int .i64 (ofC (fun z=>CQ.real z.re) s).2]) (by simp[results,Tryz.results95,go_sem]) rfl ⟨rfl,hb2⟩
theorem Gu (s:ByteArray) (w:World) (hG:Gw w) :
  Calls Tryz.prog 96 #[.string s] w fun e w'=>e=.returned (.tuple #[.string (ofC (fun z=>CQ.real z.im) s).1,.int .i64 (ofC (fun z=>CQ.real z.im) s).2])/\Below w.heap.size w w':=by
 have HP:=GF (EP 149 #[] _ s w hG (imF w));go_enter Tryz.func96,Tryz.ntmps96;go_wp2_with fail
 refine HP.out.mono ?_;rintro e w2 ⟨rfl,hb2⟩;go_wp2;refine Kh (v:=.tuple #[.string (ofC (fun z=>CQ.real z.im) s).1,.int .i64 (ofC (fun z=>CQ.real z.im) s).2]) (by simp[results,Tryz.results96,go_sem]) rfl ⟨rfl,hb2⟩
def d8 (s:ByteArray):Bool:=decide ((ofC (fun z=>CQ.real z.re) s).2=0)&&decide ((ofC (fun z=>CQ.real z.im) s).2=0)&&eZ (ofC (fun z=>CQ.real z.re) s).1.data.toList&&eZ (ofC (fun z=>CQ.real z.im) s).1.data.toList
structure MkAt (M:FuncId) (fa fb ga gb:List ByteArray) (k:ByteArray) (n:Int) (r:Except Int (List ByteArray×List ByteArray)) (w:World):Prop where
 en:∀ (args:Array Value) (w:World),(callFunc M args).run Tryz.prog w=.ok (.enter M args) w
 on:∀ (v:Value) (w':World),Below w.heap.size w w'->mU w' v fa fb ga gb k n->aI fa fb=true->aI ga gb=true->Calls Tryz.prog M #[v] w' (lj r w')
def EM:Except Int (List ByteArray×List ByteArray)->(List ByteArray×List ByteArray)×Int
 | .error n=>(([],[]),n)
 | .ok (a,b)=>if 7<a.length\/7<b.length then (([],[]),3) else if aI a b=false then (([],[]),8) else ((a,b),0)
def dx (fa fb ga gb:List ByteArray) (r:Except Int (List ByteArray×List ByteArray)):(List ByteArray×List ByteArray)×Int :=
 if aI fa fb=false then (([],[]),30) else if aI ga gb=false then (([],[]),30) else EM r
def jL (r:(List ByteArray×List ByteArray)×Int) (w:World) (e:Ending) (w':World):Prop :=
 ∃ v,e=.returned (.tuple #[v,.int .i64 r.2])/\E5 w.heap.size w' v r.1.1 r.1.2/\Below w.heap.size w w'
theorem qA (B:Nat) (w:World):E5 B w (.agg #[.slice none 0 0,.slice none 0 0]) [] [] :=
 ⟨⟨none,0,none,0,rfl,fB.nil _ _,fB.nil _ _,(fun g h=>by cases h),(fun g h=>by cases h)⟩⟩
theorem sW (M:FuncId) (v:Value) (fa fb ga gb:List ByteArray) (k:ByteArray) (n:Int) (r:Except Int (List ByteArray×List ByteArray)) (w:World) (hP:mU w v fa fb ga gb k n) (hM:MkAt M fa fb ga gb k n r w) (hG:Gx w) :
  Calls Tryz.prog 21 #[.func (.func M) #[] #[],v] w (jL (dx fa fb ga gb r) w):=by
 obtain⟨p,c,q,d,p',c',q',d',rfl,hfa,hfb,hga,hgb⟩:=id hP.ex;have EN:=hM.en;have HM:=GF hM;have hmf:∀ (fn:Fn) (first cap:Array Value) (w:World),(Instr.makeFunc fn first cap).run Tryz.prog w=.ok (.func fn first cap) w:=fun _ _ _ _=>rfl
 go_enter_defers Tryz.func21,Tryz.ntmps21
 go_upto_region 1 with fail
 have m1:=au w (.cells #[.slice p fa.length c,.slice q fb.length d,.slice p' ga.length c',.slice q' gb.length d',.string k,.int .i64 n] 58);have z1:=size_alloc w (.cells #[.slice p fa.length c,.slice q fb.length d,.slice p' ga.length c',.slice q' gb.length d',.string k,.int .i64 n] 58);have a0:=fun j u h=>aR w #[.slice p fa.length c,.slice q fb.length d,.slice p' ga.length c',.slice q' gb.length d',.string k,.int .i64 n] 58 j u h;generalize w.alloc (.cells #[.slice p fa.length c,.slice q fb.length d,.slice p' ga.length c',.slice q' gb.length d',.string k,.int .i64 n] 58)=w1 at *
 have q2:(w1.alloc (.cells #[.slice none 0 0,.slice none 0 0] 34)).heap[w1.heap.size]?=some (.cells #[.slice none 0 0,.slice none 0 0] 34 (0,0)):=heap_alloc_new w1 _;have m2:=au w1 (.cells #[.slice none 0 0,.slice none 0 0] 34);have z2:=size_alloc w1 (.cells #[.slice none 0 0,.slice none 0 0] 34);generalize w1.alloc (.cells #[.slice none 0 0,.slice none 0 0] 34)=w2 at *
 have q3:(w2.alloc (.cells #[.int .i64 0] 35)).heap[w2.heap.size]?=some (.cells #[.int .i64 0] 35 (0,0)):=heap_alloc_new w2 _;have m3:=au w2 (.cells #[.int .i64 0] 35);have z3:=size_alloc w2 (.cells #[.int .i64 0] 35);generalize w2.alloc (.cells #[.int .i64 0] 35)=w3 at *
 have q2:=(m3.block _ (show w1.heap.size<w2.heap.size by omega)).trans q2;rw[z1] at q2 z2;rw[z2] at q3 z3;have hb13:=m2.trans (m3.mono m2.size);have hlt:w.heap.size<w1.heap.size:=by omega
 have b0:=aj hb13 hlt (a0 0 _ rfl);have b1:=aj hb13 hlt (a0 1 _ rfl);have b2:=aj hb13 hlt (a0 2 _ rfl);have b3:=aj hb13 hlt (a0 3 _ rfl);have b4:=aj hb13 hlt (a0 4 _ rfl);have b5:=aj hb13 hlt (a0 5 _ rfl);have M3:=GF (m1.trans (hb13.mono m1.size));have HP:=GF (hP.below M3.out);have HG:=GF (hG.below M3.out);have hGx:=fun {wx:World} (h:Below w.heap.size w wx)=>hG.below h;have HF:=GF (show IsF w3 (.agg #[.slice p fa.length c,.slice q fb.length d]) fa fb from⟨⟨p,c,q,d,rfl,hfa.below M3.out,hfb.below M3.out⟩⟩);have HGG:=GF (show IsF w3 (.agg #[.slice p' ga.length c',.slice q' gb.length d']) ga gb from⟨⟨p',c',q',d',rfl,hga.below M3.out,hgb.below M3.out⟩⟩);have HC1:=GF (fD _ fa fb w3 HF.out HG.out);have hz3:w.heap.size+3=w3.heap.size:=by omega
 clear m1 z1 a0 m2 z2 m3 z3 hb13 hlt hfa hfb hga hgb hP hG hM;by_cases hck:aI fa fb=true
 ·have hce:aG fa fb=0:=by unfold aG;rw[if_pos hck]
  rw[hce] at HC1;have HK1:=GF hck;clear hce hck;go_wp2_with fail
  refine HC1.out.mono ?_;rintro e w4 ⟨rfl,hb4⟩;have HC2:=GF (fD _ ga gb w4 (HGG.out.below hb4) (HG.out.below hb4));have d0:=aj hb4 (show w.heap.size<w3.heap.size by omega) b0;have d1:=aj hb4 (show w.heap.size<w3.heap.size by omega) b1;have d2:=aj hb4 (show w.heap.size<w3.heap.size by omega) b2;have d3:=aj hb4 (show w.heap.size<w3.heap.size by omega) b3;have d4:=aj hb4 (show w.heap.size<w3.heap.size by omega) b4;have d5:=aj hb4 (show w.heap.size<w3.heap.size by omega) b5;clear b0 b1 b2 b3 b4 b5;by_cases hck:aI ga gb=true
  ·have hce:aG ga gb=0:=by unfold aG;rw[if_pos hck]
   rw[hce] at HC2;have HCT0:=GF (show dx fa fb ga gb r=EM r by unfold dx;rw[if_neg (by rw[HK1.out];decide),if_neg (by rw[hck];decide)]);have HK2:=GF hck;clear hce hck;go_wp2_with fail
   refine HC2.out.mono ?_;rintro e w5 ⟨rfl,hb5⟩;have hB5:=hb4.trans (hb5.mono hb4.size);have hz5:=hB5.size;have e0:=aj hb5 (show w.heap.size<w4.heap.size from by have:=hb4.size;omega) d0;have e1:=aj hb5 (show w.heap.size<w4.heap.size from by have:=hb4.size;omega) d1;have e2:=aj hb5 (show w.heap.size<w4.heap.size from by have:=hb4.size;omega) d2;have e3:=aj hb5 (show w.heap.size<w4.heap.size from by have:=hb4.size;omega) d3;have e4:=aj hb5 (show w.heap.size<w4.heap.size from by have:=hb4.size;omega) d4;have e5:=aj hb5 (show w.heap.size<w4.heap.size from by have:=hb4.size;omega) d5;have HMK:=GF (HM.out.on _ w5 (M3.out.trans (hB5.mono M3.out.size)) (HP.out.below hB5) HK1.out HK2.out);have r2:=(hB5.block (w.heap.size+1) (by omega)).trans q2;have r3:=(hB5.block (w.heap.size+1+1) (by omega)).trans q3;have M5:=GF (M3.out.trans (hB5.mono M3.out.size));have HG5:=GF (HG.out.below hB5);clear d0 d1 d2 d3 d4 d5 q2 q3 hb4 hb5 HC1 HC2 HM HP HF HGG;go_wp2_with fail
   refine HMK.out.mono ?_;rintro e w6 ⟨hb6,hr⟩;have hz6:=hb6.size;have s2:=(hb6.block (w.heap.size+1) (by omega)).trans r2;have s3:=(hb6.block (w.heap.size+1+1) (by omega)).trans r3;have M6:=GF (M5.out.trans (hb6.mono M5.out.size))
   cases r with
   | error m =>
    simp only at hr;subst hr;have HCT:=GF (show dx fa fb ga gb (.error m)=(([],[]),m) from HCT0.out);refine leaves_cons (f:=64) (args:=#[.pointer (some ⟨w.heap.size+1,0,none⟩),.pointer (some ⟨w.heap.size+1+1,0,none⟩)]) (by simp) (by simp[go_sem]) ?_;refine (kt (w.heap.size+1) (w.heap.size+1+1) (.slice none 0 0) (.slice none 0 0) (.int .i64 0) (m) _ s2 s3).mono ?_;rintro e u' w'' ⟨rfl,rfl,hBB,g1,g2⟩;have y0:=az g1 0;have y1:=az g1 1;have y2:w''.cell? ⟨w.heap.size+1+1,0,none⟩=some (.int .i64 (m)):=by rw[World.cell?,g2];rfl
    have M9:=hBB _ _ (M6.out) (by omega) (by omega);refine⟨.tuple #[.agg #[.slice none 0 0,.slice none 0 0],.int .i64 (m)],by simp at y0 y1;simp[results,Tryz.results21,go_sem,y0,y1,y2],?_⟩;refine⟨_,by rw[HCT.out],?_,M9⟩;rw[HCT.out];exact qA _ _
   | ok ab =>
    obtain⟨L1,L2⟩:=ab;simp only at hr;obtain⟨u,rfl,hu⟩:=hr;obtain⟨p1,c1,p2,c2,rfl,g1,g2,o1,o2⟩:=hu.ex;have hn1:Value.ownBlock (.slice p1 L1.length c1)≠some (w.heap.size+1):=fun e=>by have:=o1 _ e;omega
    have hn2:Value.ownBlock (.slice p2 L2.length c2)≠some (w.heap.size+1):=fun e=>by have:=o2 _ e;omega
    have k0:=az s2 0;have k1:=az s2 1;have f0:=aZ s2 0;have f1:=aZ s2 1;have R1:=GF ((g1.other hn1 0 (.slice p1 L1.length c1)).other hn1 1 (.slice p2 L2.length c2));have R2:=GF ((g2.other hn2 0 (.slice p1 L1.length c1)).other hn2 1 (.slice p2 L2.length c2));have O1:=GF (show ∀ g,Value.ownBlock (.slice p1 L1.length c1)=some g->w.heap.size<=g from fun g e=>by have:=o1 _ e;omega);have O2:=GF (show ∀ g,Value.ownBlock (.slice p2 L2.length c2)=some g->w.heap.size<=g from fun g e=>by have:=o2 _ e;omega);have O1':=GF (show ∀ g,Value.ownBlock (.slice p1 L1.length c1)=some g->w3.heap.size<=g from fun g e=>by have:=o1 _ e;omega);have O2':=GF (show ∀ g,Value.ownBlock (.slice p2 L2.length c2)=some g->w3.heap.size<=g from fun g e=>by have:=o2 _ e;omega);have M7:=GF ((M6.out.setCell (p:=⟨w.heap.size+1,0,none⟩) (Ho _) (.slice p1 L1.length c1)).setCell (p:=⟨w.heap.size+1,1,none⟩) (Ho _) (.slice p2 L2.length c2));have t2:=dW s2 (.slice p1 L1.length c1) (.slice p2 L2.length c2);have hne:w.heap.size+1+1≠w.heap.size+1:=by omega
    have t3:=((Below.heap_setCell (w6.setCell ⟨w.heap.size+1,0,none⟩ (.slice p1 L1.length c1)) ⟨w.heap.size+1,1,none⟩ (.slice p2 L2.length c2) _ hne).trans (Below.heap_setCell w6 ⟨w.heap.size+1,0,none⟩ (.slice p1 L1.length c1) _ hne)).trans s3;have HG7:=GF (hGx M7.out);have hs7:((w6.setCell ⟨w.heap.size+1,0,none⟩ (.slice p1 L1.length c1)).setCell ⟨w.heap.size+1,1,none⟩ (.slice p2 L2.length c2)).heap.size=w6.heap.size:=by simp[World.setCell]
    clear hn1 hn2 g1 g2 o1 o2 s2 s3 r2 r3 hb6 HMK hu e0 e1 e2 e3 e4 e5;go_upto_region 9 with fail
    generalize (w6.setCell ⟨w.heap.size+1,0,none⟩ (.slice p1 L1.length c1)).setCell ⟨w.heap.size+1,1,none⟩ (.slice p2 L2.length c2)=w7 at *
    clear k0 k1 f0 f1;have k0:=az t2 0;have k1:=az t2 1;have f0:=aZ t2 0;have f1:=aZ t2 1;by_cases h7:7<L1.length
    ·have hd:decide ((7:Int)<(L1.length:Int))=true:=by simp;omega
     have hdn:decide (7<L1.length)=true:=decide_eq_true h7;have HCT:=GF (show dx fa fb ga gb (.ok (L1,L2))=(([],[]),3) by rw[HCT0.out];show (if 7<L1.length\/7<L2.length then _ else _)=_;rw[if_pos (Or.inl h7)]);clear h7;go_wp2;refine leaves_cons (f:=64) (args:=#[.pointer (some ⟨w.heap.size+1,0,none⟩),.pointer (some ⟨w.heap.size+1+1,0,none⟩)]) (by simp) (by simp[go_sem]) ?_;refine (kt (w.heap.size+1) (w.heap.size+1+1) (.slice p1 L1.length c1) (.slice p2 L2.length c2) (.int .i64 0) (3) _ t2 t3).mono ?_;rintro e u' w'' ⟨rfl,rfl,hBB,g1,g2⟩;have y0:=az g1 0;have y1:=az g1 1;have y2:w''.cell? ⟨w.heap.size+1+1,0,none⟩=some (.int .i64 (3)):=by rw[World.cell?,g2];rfl
     have M9:=hBB _ _ (M7.out) (by omega) (by omega);refine⟨.tuple #[.agg #[.slice none 0 0,.slice none 0 0],.int .i64 (3)],by simp at y0 y1;simp[results,Tryz.results21,go_sem,y0,y1,y2],?_⟩;refine⟨_,by rw[HCT.out],?_,M9⟩;rw[HCT.out];exact qA _ _
    ·have hd:decide ((7:Int)<(L1.length:Int))=false:=by simp;omega
     have hdn:decide (7<L1.length)=false:=decide_eq_false h7;by_cases h72:7<L2.length
     ·have hd2:decide ((7:Int)<(L2.length:Int))=true:=by simp;omega
      have hdn2:decide (7<L2.length)=true:=decide_eq_true h72;have HCT:=GF (show dx fa fb ga gb (.ok (L1,L2))=(([],[]),3) by rw[HCT0.out];show (if 7<L1.length\/7<L2.length then _ else _)=_;rw[if_pos (Or.inr h72)]);clear h72 h7;go_wp2;refine leaves_cons (f:=64) (args:=#[.pointer (some ⟨w.heap.size+1,0,none⟩),.pointer (some ⟨w.heap.size+1+1,0,none⟩)]) (by simp) (by simp[go_sem]) ?_;refine (kt (w.heap.size+1) (w.heap.size+1+1) (.slice p1 L1.length c1) (.slice p2 L2.length c2) (.int .i64 0) (3) _ t2 t3).mono ?_;rintro e u' w'' ⟨rfl,rfl,hBB,g1,g2⟩;have y0:=az g1 0;have y1:=az g1 1;have y2:w''.cell? ⟨w.heap.size+1+1,0,none⟩=some (.int .i64 (3)):=by rw[World.cell?,g2];rfl
      have M9:=hBB _ _ (M7.out) (by omega) (by omega);refine⟨.tuple #[.agg #[.slice none 0 0,.slice none 0 0],.int .i64 (3)],by simp at y0 y1;simp[results,Tryz.results21,go_sem,y0,y1,y2],?_⟩;refine⟨_,by rw[HCT.out],?_,M9⟩;rw[HCT.out];exact qA _ _
     ·have hd2:decide ((7:Int)<(L2.length:Int))=false:=by simp;omega
      have hdn2:decide (7<L2.length)=false:=decide_eq_false h72;have HF7:=GF (show IsF w7 (.agg #[.slice p1 L1.length c1,.slice p2 L2.length c2]) L1 L2 from⟨⟨p1,c1,p2,c2,rfl,R1.out,R2.out⟩⟩);have HC3:=GF (fD _ L1 L2 w7 HF7.out HG7.out);have HCT1:=GF (show dx fa fb ga gb (.ok (L1,L2))=if aI L1 L2=false then (([],[]),8) else ((L1,L2),0) by rw[HCT0.out];show (if 7<L1.length\/7<L2.length then _ else _)=_;rw[if_neg (by omega)]);clear h72 h7;by_cases hck:aI L1 L2=true
      ·have hce:aG L1 L2=0:=by unfold aG;rw[if_pos hck]
       rw[hce] at HC3;have HCT:=GF (show dx fa fb ga gb (.ok (L1,L2))=((L1,L2),0) by rw[HCT1.out,if_neg (by rw[hck];decide)]);clear hce hck;go_wp2_with fail
       refine HC3.out.mono ?_;rintro e w8 ⟨rfl,hb8⟩;have u2:=(hb8.block (w.heap.size+1) (by omega)).trans t2;have u3:=(hb8.block (w.heap.size+1+1) (by omega)).trans t3;clear k0 k1 f0 f1;have k0:=az u2 0;have k1:=az u2 1;have f0:=aZ u2 0;have f1:=aZ u2 1;have x0:w8.cell? ⟨w.heap.size+1+1,0,none⟩=some (.int .i64 0):=by rw[World.cell?,u3];rfl
       have x1:w8.frozen? ⟨w.heap.size+1+1,0,none⟩=false:=by rw[World.frozen?,u3];simp
       have M9:=GF ((((M7.out.trans (hb8.mono M7.out.size)).setCell (p:=⟨w.heap.size+1,0,none⟩) (Ho _) (.slice p1 L1.length c1)).setCell (p:=⟨w.heap.size+1,1,none⟩) (Ho _) (.slice p2 L2.length c2)).setCell (p:=⟨w.heap.size+1+1,0,none⟩) (by show w.heap.size<=w.heap.size+1+1;omega) (.int .i64 0));have n1:Value.ownBlock (.slice p1 L1.length c1)≠some (w.heap.size+1):=fun e=>by have:=O1'.out _ e;omega
       have n2:Value.ownBlock (.slice p2 L2.length c2)≠some (w.heap.size+1):=fun e=>by have:=O2'.out _ e;omega
       have n3:Value.ownBlock (.slice p1 L1.length c1)≠some (w.heap.size+1+1):=fun e=>by have:=O1'.out _ e;omega
       have n4:Value.ownBlock (.slice p2 L2.length c2)≠some (w.heap.size+1+1):=fun e=>by have:=O2'.out _ e;omega
       have S1:=GF ((((R1.out.below hb8).other n1 0 (.slice p1 L1.length c1)).other n1 1 (.slice p2 L2.length c2)).other n3 0 (.int .i64 0));have S2:=GF ((((R2.out.below hb8).other n2 0 (.slice p1 L1.length c1)).other n2 1 (.slice p2 L2.length c2)).other n4 0 (.int .i64 0));have g0:=dW u2 (.slice p1 L1.length c1) (.slice p2 L2.length c2);have hne':w.heap.size+1≠w.heap.size+1+1:=by omega
       have g1:=(Below.heap_setCell ((w8.setCell ⟨w.heap.size+1,0,none⟩ (.slice p1 L1.length c1)).setCell ⟨w.heap.size+1,1,none⟩ (.slice p2 L2.length c2)) ⟨w.heap.size+1+1,0,none⟩ (.int .i64 0) (w.heap.size+1) hne').trans g0;have y0:=az g1 0;have y1:=az g1 1;clear n1 n2 n3 n4 u2 u3 g0 t2 t3 hb8;go_wp2;refine leaves_cons (f:=64) (args:=#[.pointer (some ⟨w.heap.size+1,0,none⟩),.pointer (some ⟨w.heap.size+1+1,0,none⟩)]) (by simp) (by simp[go_sem]) ?_;refine (yP (w.heap.size+1) (w.heap.size+1+1) _).mono ?_;rintro e u' w'' ⟨rfl,rfl,rfl⟩;refine⟨.tuple #[.agg #[.slice p1 L1.length c1,.slice p2 L2.length c2],.int .i64 0],by simp at y0 y1;simp[results,Tryz.results21,go_sem,y0,y1,x0],?_⟩;refine⟨_,by rw[HCT.out],?_,M9.out⟩;rw[HCT.out];exact⟨⟨p1,c1,p2,c2,rfl,S1.out,S2.out,O1.out,O2.out⟩⟩
      ·have hck':aI L1 L2=false:=by simpa using hck
       have hce:aG L1 L2=30:=by unfold aG;rw[if_neg hck]
       rw[hce] at HC3;have HCT:=GF (show dx fa fb ga gb (.ok (L1,L2))=(([],[]),8) by rw[HCT1.out,if_pos hck']);clear hce hck hck';go_wp2_with fail
       refine HC3.out.mono ?_;rintro e w8 ⟨rfl,hb8⟩;have u2:=(hb8.block (w.heap.size+1) (by omega)).trans t2;have u3:=(hb8.block (w.heap.size+1+1) (by omega)).trans t3;have M8:=GF (M7.out.trans (hb8.mono M7.out.size));clear k0 k1 f0 f1;go_wp2;refine leaves_cons (f:=64) (args:=#[.pointer (some ⟨w.heap.size+1,0,none⟩),.pointer (some ⟨w.heap.size+1+1,0,none⟩)]) (by simp) (by simp[go_sem]) ?_;refine (kt (w.heap.size+1) (w.heap.size+1+1) (.slice p1 L1.length c1) (.slice p2 L2.length c2) (.int .i64 0) (8) _ u2 u3).mono ?_;rintro e u' w'' ⟨rfl,rfl,hBB,g1,g2⟩;have y0:=az g1 0;have y1:=az g1 1;have y2:w''.cell? ⟨w.heap.size+1+1,0,none⟩=some (.int .i64 (8)):=by rw[World.cell?,g2];rfl
       have M9:=hBB _ _ (M8.out) (by omega) (by omega);refine⟨.tuple #[.agg #[.slice none 0 0,.slice none 0 0],.int .i64 (8)],by simp at y0 y1;simp[results,Tryz.results21,go_sem,y0,y1,y2],?_⟩;refine⟨_,by rw[HCT.out],?_,M9⟩;rw[HCT.out];exact qA _ _
  ·have hce:aG ga gb=30:=by unfold aG;rw[if_neg hck]
   rw[hce] at HC2;have hct:dx fa fb ga gb r=(([],[]),30):=by unfold dx;rw[if_neg (by rw[HK1.out];decide),if_pos (by simpa using hck)]
   have HCT:=GF hct;clear hce hck hct;go_wp2_with fail
   refine HC2.out.mono ?_;rintro e w5 ⟨rfl,hb5⟩;have hB5:=hb4.trans (hb5.mono hb4.size);have hz4:=hB5.size;have r2:=(hB5.block (w.heap.size+1) (by omega)).trans q2;have r3:=(hB5.block (w.heap.size+1+1) (by omega)).trans q3;have k0:=az r2 0;have k1:=az r2 1;have f0:=aZ r2 0;have f1:=aZ r2 1;have x0:w5.cell? ⟨w.heap.size+1+1,0,none⟩=some (.int .i64 0):=by rw[World.cell?,r3];rfl
   have x1:w5.frozen? ⟨w.heap.size+1+1,0,none⟩=false:=by rw[World.frozen?,r3];simp
   have g0:=dW r2 (.slice none 0 0) (.slice none 0 0);have M9:=GF ((((M3.out.trans (hB5.mono M3.out.size)).setCell (p:=⟨w.heap.size+1,0,none⟩) (Ho _) (.slice none 0 0)).setCell (p:=⟨w.heap.size+1,1,none⟩) (Ho _) (.slice none 0 0)).setCell (p:=⟨w.heap.size+1+1,0,none⟩) (by show w.heap.size<=w.heap.size+1+1;omega) (.int .i64 30));have hne:w.heap.size+1≠w.heap.size+1+1:=by omega
   have g1:=(Below.heap_setCell ((w5.setCell ⟨w.heap.size+1,0,none⟩ (.slice none 0 0)).setCell ⟨w.heap.size+1,1,none⟩ (.slice none 0 0)) ⟨w.heap.size+1+1,0,none⟩ (.int .i64 30) (w.heap.size+1) hne).trans g0;have y0:=az g1 0;have y1:=az g1 1;go_wp2;refine⟨.tuple #[.agg #[.slice none 0 0,.slice none 0 0],.int .i64 30],by simp at y0 y1;simp[results,Tryz.results21,go_sem,y0,y1,x0],?_⟩;refine⟨_,by rw[HCT.out],?_,M9.out⟩;rw[HCT.out];exact qA _ _
 ·have hce:aG fa fb=30:=by unfold aG;rw[if_neg hck]
  rw[hce] at HC1;have hct:dx fa fb ga gb r=(([],[]),30):=by unfold dx;rw[if_pos (by simpa using hck)]
  have HCT:=GF hct;clear hce hck hct;go_wp2_with fail
  refine HC1.out.mono ?_;rintro e w4 ⟨rfl,hb4⟩;have hz4:=hb4.size;have r2:=(hb4.block (w.heap.size+1) (by omega)).trans q2;have r3:=(hb4.block (w.heap.size+1+1) (by omega)).trans q3;have k0:=az r2 0;have k1:=az r2 1;have f0:=aZ r2 0;have f1:=aZ r2 1;have x0:w4.cell? ⟨w.heap.size+1+1,0,none⟩=some (.int .i64 0):=by rw[World.cell?,r3];rfl
  have x1:w4.frozen? ⟨w.heap.size+1+1,0,none⟩=false:=by rw[World.frozen?,r3];simp
  have g0:=dW r2 (.slice none 0 0) (.slice none 0 0);have M9:=GF ((((M3.out.trans (hb4.mono M3.out.size)).setCell (p:=⟨w.heap.size+1,0,none⟩) (Ho _) (.slice none 0 0)).setCell (p:=⟨w.heap.size+1,1,none⟩) (Ho _) (.slice none 0 0)).setCell (p:=⟨w.heap.size+1+1,0,none⟩) (by show w.heap.size<=w.heap.size+1+1;omega) (.int .i64 30));have hne:w.heap.size+1≠w.heap.size+1+1:=by omega
  have g1:=(Below.heap_setCell ((w4.setCell ⟨w.heap.size+1,0,none⟩ (.slice none 0 0)).setCell ⟨w.heap.size+1,1,none⟩ (.slice none 0 0)) ⟨w.heap.size+1+1,0,none⟩ (.int .i64 30) (w.heap.size+1) hne).trans g0;have y0:=az g1 0;have y1:=az g1 1;go_wp2;refine⟨.tuple #[.agg #[.slice none 0 0,.slice none 0 0],.int .i64 30],by simp at y0 y1;simp[results,Tryz.results21,go_sem,y0,y1,x0],?_⟩;refine⟨_,by rw[HCT.out],?_,M9.out⟩;rw[HCT.out];exact qA _ _
def lh (a b:List ByteArray):(List ByteArray×List ByteArray)×Int:=dx a b a b (gP a a b)
def sC (a b:List ByteArray):(List ByteArray×List ByteArray)×Int:=dx a b a b (gP b a b)
theorem AN (w:World) (a b:List ByteArray) (v:Value) (hP:mU w v a b a b ⟨#[]⟩ 0) (hG:Gx w):Calls Tryz.prog 21 #[.func (.func 23) #[] #[],v] w (jL (lh a b) w):=by
 refine sW 23 v a b a b ⟨#[]⟩ 0 _ w hP ⟨cD Tryz.func23 rfl (by kernel_rfl),fun v' w' hw' hP' hc hc2=>?_⟩ hG;obtain⟨ob1,ob7,oa1,oa7,-⟩:=bv hc;exact DI v' a b a b ⟨#[]⟩ 0 w' hP' oa1 (by omega) (by omega) (hG.below hw').g
theorem Fx (w:World) (a b:List ByteArray) (v:Value) (hP:mU w v a b a b ⟨#[]⟩ 0) (hG:Gx w):Calls Tryz.prog 21 #[.func (.func 22) #[] #[],v] w (jL (sC a b) w):=by
 refine sW 22 v a b a b ⟨#[]⟩ 0 _ w hP ⟨cD Tryz.func22 rfl (by kernel_rfl),fun v' w' hw' hP' hc hc2=>?_⟩ hG;obtain⟨ob1,ob7,oa1,oa7,-⟩:=bv hc;exact Gq v' a b a b ⟨#[]⟩ 0 w' hP' oa1 (by omega) (by omega) (hG.below hw').g
theorem Dp (v:Value) (a b:List ByteArray) (w:World) (hF:IsF w v a b) (hG:Gx w) :
  Calls Tryz.prog 8 #[v] w (jL (lh a b) w):=by
 obtain⟨p,c,q,d,rfl,hfa,hfb⟩:=id hF.ex;go_enter Tryz.func8,Tryz.ntmps8;go_upto_region 1 with fail
 have cc:=aU w (.slice p a.length c) (.slice q b.length d);have m1:=au w (.cells #[.slice p a.length c,.slice q b.length d] 34);have z1:=size_alloc w (.cells #[.slice p a.length c,.slice q b.length d] 34);generalize w.alloc (.cells #[.slice p a.length c,.slice q b.length d] 34)=w1 at *
 have q2:(w1.alloc (.cells #[.slice none 0 0,.slice none 0 0] 34)).heap[w1.heap.size]?=some (.cells #[.slice none 0 0,.slice none 0 0] 34 (0,0)):=heap_alloc_new w1 _;have m2:=au w1 (.cells #[.slice none 0 0,.slice none 0 0] 34);have z2:=size_alloc w1 (.cells #[.slice none 0 0,.slice none 0 0] 34);have c0:=aj m2 (show w.heap.size<w1.heap.size by omega) cc.1;have c1:=aj m2 (show w.heap.size<w1.heap.size by omega) cc.2;generalize w1.alloc (.cells #[.slice none 0 0,.slice none 0 0] 34)=w2 at *
 rw[z1] at q2;have M2:=GF (m1.trans (m2.mono m1.size));have hz2:w.heap.size+2=w2.heap.size:=by omega
 have hP:mU w2 (.agg #[.slice p a.length c,.slice q b.length d,.slice p a.length c,.slice q b.length d,.string ⟨#[]⟩,.int .i64 0]) a b a b ⟨#[]⟩ 0 :=
  ⟨⟨p,c,q,d,p,c,q,d,rfl,hfa.below M2.out,hfb.below M2.out,hfa.below M2.out,hfb.below M2.out⟩⟩
 have HC:=GF (AN w2 a b _ hP (hG.below M2.out));clear m1 z1 m2 z2 cc hfa hfb hG hF hP;go_wp2_with fail
 refine HC.out.mono ?_;rintro e w3 ⟨u,rfl,hu,hb3⟩;obtain⟨r,hr⟩:∃ r,r=lh a b:=⟨_,rfl⟩;rw[show lh a b=r from hr.symm] at hu |-;obtain⟨⟨L1,L2⟩,er⟩:=r;have HR:=GF hr;simp only at hu |-;obtain⟨p1,c1',p2,c2,rfl,g1,g2,o1,o2⟩:=hu.ex;have hn1:Value.ownBlock (.slice p1 L1.length c1')≠some (w.heap.size+1):=fun e=>by have:=o1 _ e;omega
 have hn2:Value.ownBlock (.slice p2 L2.length c2)≠some (w.heap.size+1):=fun e=>by have:=o2 _ e;omega
 have q3:=(hb3.block (w.heap.size+1) (by omega)).trans q2;have k0:=az q3 0;have k1:=az q3 1;have f0:=aZ q3 0;have f1:=aZ q3 1;have R1:=GF ((g1.other hn1 0 (.slice p1 L1.length c1')).other hn1 1 (.slice p2 L2.length c2));have R2:=GF ((g2.other hn2 0 (.slice p1 L1.length c1')).other hn2 1 (.slice p2 L2.length c2));have O1:=GF (show ∀ g,Value.ownBlock (.slice p1 L1.length c1')=some g->w.heap.size<=g from fun g e=>by have:=o1 _ e;omega);have O2:=GF (show ∀ g,Value.ownBlock (.slice p2 L2.length c2)=some g->w.heap.size<=g from fun g e=>by have:=o2 _ e;omega);have M7:=GF (((M2.out.trans (hb3.mono M2.out.size)).setCell (p:=⟨w.heap.size+1,0,none⟩) (Ho _) (.slice p1 L1.length c1')).setCell (p:=⟨w.heap.size+1,1,none⟩) (Ho _) (.slice p2 L2.length c2));have g0:=dW q3 (.slice p1 L1.length c1') (.slice p2 L2.length c2);have x0:=az g0 0;have x1:=az g0 1;clear hn1 hn2 g1 g2 o1 o2 q2 q3 hb3 HC hu hr;go_wp2;refine Kh (v:=.tuple #[.agg #[.slice p1 L1.length c1',.slice p2 L2.length c2],.int .i64 er]) (by simp at x0 x1;simp[results,Tryz.results8,go_sem,x0,x1]) rfl ⟨_,by rw[<-HR.out],?_,M7.out⟩;rw[<-HR.out];exact⟨⟨p1,c1',p2,c2,rfl,R1.out,R2.out,O1.out,O2.out⟩⟩
theorem Gc (v:Value) (a b:List ByteArray) (w:World) (hF:IsF w v a b) (hG:Gx w) :
  Calls Tryz.prog 7 #[v] w (jL (sC a b) w):=by
 obtain⟨p,c,q,d,rfl,hfa,hfb⟩:=id hF.ex;go_enter Tryz.func7,Tryz.ntmps7;go_upto_region 1 with fail
 have cc:=aU w (.slice p a.length c) (.slice q b.length d);have m1:=au w (.cells #[.slice p a.length c,.slice q b.length d] 34);have z1:=size_alloc w (.cells #[.slice p a.length c,.slice q b.length d] 34);generalize w.alloc (.cells #[.slice p a.length c,.slice q b.length d] 34)=w1 at *
 have q2:(w1.alloc (.cells #[.slice none 0 0,.slice none 0 0] 34)).heap[w1.heap.size]?=some (.cells #[.slice none 0 0,.slice none 0 0] 34 (0,0)):=heap_alloc_new w1 _;have m2:=au w1 (.cells #[.slice none 0 0,.slice none 0 0] 34);have z2:=size_alloc w1 (.cells #[.slice none 0 0,.slice none 0 0] 34);have c0:=aj m2 (show w.heap.size<w1.heap.size by omega) cc.1;have c1:=aj m2 (show w.heap.size<w1.heap.size by omega) cc.2;generalize w1.alloc (.cells #[.slice none 0 0,.slice none 0 0] 34)=w2 at *
 rw[z1] at q2;have M2:=GF (m1.trans (m2.mono m1.size));have hz2:w.heap.size+2=w2.heap.size:=by omega
 have hP:mU w2 (.agg #[.slice p a.length c,.slice q b.length d,.slice p a.length c,.slice q b.length d,.string ⟨#[]⟩,.int .i64 0]) a b a b ⟨#[]⟩ 0 :=
  ⟨⟨p,c,q,d,p,c,q,d,rfl,hfa.below M2.out,hfb.below M2.out,hfa.below M2.out,hfb.below M2.out⟩⟩
 have HC:=GF (Fx w2 a b _ hP (hG.below M2.out));clear m1 z1 m2 z2 cc hfa hfb hG hF hP;go_wp2_with fail
 refine HC.out.mono ?_;rintro e w3 ⟨u,rfl,hu,hb3⟩;obtain⟨r,hr⟩:∃ r,r=sC a b:=⟨_,rfl⟩;rw[show sC a b=r from hr.symm] at hu |-;obtain⟨⟨L1,L2⟩,er⟩:=r;have HR:=GF hr;simp only at hu |-;obtain⟨p1,c1',p2,c2,rfl,g1,g2,o1,o2⟩:=hu.ex;have hn1:Value.ownBlock (.slice p1 L1.length c1')≠some (w.heap.size+1):=fun e=>by have:=o1 _ e;omega
 have hn2:Value.ownBlock (.slice p2 L2.length c2)≠some (w.heap.size+1):=fun e=>by have:=o2 _ e;omega
 have q3:=(hb3.block (w.heap.size+1) (by omega)).trans q2;have k0:=az q3 0;have k1:=az q3 1;have f0:=aZ q3 0;have f1:=aZ q3 1;have R1:=GF ((g1.other hn1 0 (.slice p1 L1.length c1')).other hn1 1 (.slice p2 L2.length c2));have R2:=GF ((g2.other hn2 0 (.slice p1 L1.length c1')).other hn2 1 (.slice p2 L2.length c2));have O1:=GF (show ∀ g,Value.ownBlock (.slice p1 L1.length c1')=some g->w.heap.size<=g from fun g e=>by have:=o1 _ e;omega);have O2:=GF (show ∀ g,Value.ownBlock (.slice p2 L2.length c2)=some g->w.heap.size<=g from fun g e=>by have:=o2 _ e;omega);have M7:=GF (((M2.out.trans (hb3.mono M2.out.size)).setCell (p:=⟨w.heap.size+1,0,none⟩) (Ho _) (.slice p1 L1.length c1')).setCell (p:=⟨w.heap.size+1,1,none⟩) (Ho _) (.slice p2 L2.length c2));have g0:=dW q3 (.slice p1 L1.length c1') (.slice p2 L2.length c2);have x0:=az g0 0;have x1:=az g0 1;clear hn1 hn2 g1 g2 o1 o2 q2 q3 hb3 HC hu hr;go_wp2;refine Kh (v:=.tuple #[.agg #[.slice p1 L1.length c1',.slice p2 L2.length c2],.int .i64 er]) (by simp at x0 x1;simp[results,Tryz.results7,go_sem,x0,x1]) rfl ⟨_,by rw[<-HR.out],?_,M7.out⟩;rw[<-HR.out];exact⟨⟨p1,c1',p2,c2,rfl,R1.out,R2.out,O1.out,O2.out⟩⟩
theorem zU (q:Rat):(dY (CQ.real q)).1.size<100000:=by
 unfold dY
 cases h:dE (CQ.real q)
 ·simp only[G8,if_false];have h1:b8 (rt q)=false:=by unfold dE CQ.real at h;simp only[If] at h;exact h.1
  have e:bE (ct (CQ.real q))=aJ (rt q):=cz (z:=ct (CQ.real q)) (by show (rt 0).n=0;rw[dU]);have hr:=le ((uo (aJ (rt q))).1.2 ⟨_,jm q,h1,rfl⟩);unfold txt;rw[e]
  show (aJ (rt q)).toArray.size<100000
  simp;omega
 ·simp only[if_true];decide
theorem tU (X:CQ->Rat) (s:ByteArray):(ofC (fun z=>CQ.real (X z)) s).1.size<100000:=by
 unfold ofC
 split
 ·exact zU _
 ·decide
theorem FT (s:ByteArray) (w:World) (hG:Gx w) :
  Calls Tryz.prog 48 #[.string s] w fun e w'=>e=.returned (.bool (d8 s))/\Below w.heap.size w w':=by
 have HG:=GF hG;obtain⟨x,hx⟩:∃ x,x=(ofC (fun z=>CQ.real z.re) s).1:=⟨_,rfl⟩;obtain⟨d,hd⟩:∃ d,d=(ofC (fun z=>CQ.real z.re) s).2:=⟨_,rfl⟩;obtain⟨y,hy⟩:∃ y,y=(ofC (fun z=>CQ.real z.im) s).1:=⟨_,rfl⟩;obtain⟨e,he⟩:∃ e,e=(ofC (fun z=>CQ.real z.im) s).2:=⟨_,rfl⟩;have hxs:x.size<100000:=hx ▸ tU _ s;have hys:y.size<100000:=hy ▸ tU _ s;have H1:=GF (Gy s w hG.g);have H2:=GF (fun wx (hw:Below w.heap.size w wx)=>Gu s wx (hG.g.below hw));rw[<-hx,<-hd] at H1;rw[<-hy,<-he] at H2;have HS:=GF (show d8 s=(decide (d=0)&&decide (e=0)&&eZ x.data.toList&&eZ y.data.toList) by unfold d8;rw[hx,hd,hy,he]);clear hx hd hy he hG;go_enter Tryz.func48,Tryz.ntmps48;go_wp2_with fail
 refine H1.out.mono ?_;rintro r w1 ⟨rfl,hb1⟩;go_wp2_with fail
 refine (H2.out w1 hb1).mono ?_;rintro r w2 ⟨rfl,hb2⟩;have hB2:=hb1.trans (hb2.mono hb1.size);clear hb1 hb2 H1 H2;by_cases h1:d=0
 ·subst h1;by_cases h2:e=0
  ·subst h2;go_wp2_with fail
   refine (wI x w2 hxs (HG.out.below hB2)).mono ?_;rintro r w3 ⟨b,rfl,hb,hb3⟩;have hB3:=hB2.trans (hb3.mono hB2.size);clear hb3 hB2
   cases b
   ·have HB:=GF hb.out;clear hb;go_wp2;go_ret;exact⟨by rw[HS.out,HB.out];simp,hB3⟩
   ·have HB:=GF hb.out;clear hb;go_wp2_with fail
    refine (wI y w3 hys (HG.out.below hB3)).mono ?_;rintro r w4 ⟨b,rfl,hb,hb4⟩;have HB2:=GF hb.out;clear hb;go_wp2;go_ret;exact⟨by rw[HS.out,HB.out,HB2.out];simp,hB3.trans (hb4.mono hB3.size)⟩
  ·have hde:decide (e=0)=false:=decide_eq_false h2;go_wp2;go_ret;exact⟨by rw[HS.out];simp[h2],hB2⟩
 ·have hdd:decide (d=0)=false:=decide_eq_false h1;go_wp2;go_ret;exact⟨by rw[HS.out];simp[h1],hB2⟩
end Go.Proofs.YtmakbmhlemhgeaaGreatDoor
