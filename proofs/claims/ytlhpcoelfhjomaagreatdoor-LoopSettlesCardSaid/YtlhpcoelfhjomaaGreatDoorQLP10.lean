/- L -/
import Derived.Recover
import Derived.Test.YtlhpcoelfhjomaaGreatDoorQCoef
import Derived.Test.YtlhpcoelfhjomaaGreatDoorQLP1
import Derived.Test.YtlhpcoelfhjomaaGreatDoorQLP3
set_option linter.all false
set_option maxRecDepth 100000
set_option maxHeartbeats 8000000
namespace Go.Proofs.YtlhpcoelfhjomaaGreatDoor
open Go.RowKit Dg
structure Cl (F:FuncId) (cap:Array Value) (φ:CQ->CQ) (w:World):Prop where
 en:∀ (args:Array Value) (w:World),(callFunc F args).run Tryz.prog w=.ok (.enter F args) w
 on:∀ (x:Value) (a:CQ) (w':World),Below w.heap.size w w'->IsK w' x a->Calls Tryz.prog F (#[x]++cap) w' fun e w''=>∃ v,e=.returned v/\IsV w'' v (ct (φ a))/\Below w'.heap.size w' w''
def ofC (φ:CQ->CQ) (s:ByteArray):ByteArray×Int:=match gJ s with | some a=>eB (φ a) | none=>(⟨#[]⟩,10)
theorem Gl (F:FuncId) (cap:Array Value) (φ:CQ->CQ) (s:ByteArray) (w:World) (hG:Gw w) (hF:Cl F cap φ w) :
  Calls Tryz.prog 125 #[.string s,.func (.func F) #[] cap] w fun e w'=>e=.returned (.tuple #[.string (ofC φ s).1,.int .i64 (ofC φ s).2])/\Below w.heap.size w w':=by
 have HF:=Ip hF;have EN:=hF.en;clear hF;go_enter Tryz.func125,Tryz.ntmps125;go_wp2_with fail
 refine (kU s w hG).mono ?_;rintro e w1 ⟨v,ok,rfl,hcase,hb1⟩;rcases hcase with ⟨z,hz,rfl,hv⟩ | ⟨hz,rfl,rfl⟩
 ·obtain⟨p,rfl,hp1,hp2,-,-⟩:=jD hz;have HP1:=Ip (show ofC φ s=eB (φ p) by unfold ofC;rw[hp1]);clear hz hp1;have hk:IsK w1 v p:=⟨hv,hp2.mono (by decide)⟩
  obtain⟨xm,xp,xl,xc,xq,xk,xd,ym,yp,yl,yc,yq,yk,yd,rfl⟩:∃ xm xp xl xc xq xk xd ym yp yl yc yq yk yd,v=.agg #[.bool xm,.slice xp xl xc,.slice xq xk xd,.bool ym,.slice yp yl yc,.slice yq yk yd]:=by
   obtain⟨_,_,_,_,_,_,rfl,hx0,hy0⟩:=hk.v;obtain⟨xm,xp,xl,xc,xq,xk,xd,hxe⟩:=hx0.form;obtain⟨ym,yp,yl,yc,yq,yk,yd,hye⟩:=hy0.form;obtain⟨rfl,rfl,rfl⟩:=fh hxe;obtain⟨rfl,rfl,rfl⟩:=fh hye;exact⟨_,_,_,_,_,_,_,_,_,_,_,_,_,_,rfl⟩
  go_upto_region 2 with fail
  have q1:=cC.new w1 (.bool xm) (.slice xp xl xc) (.slice xq xk xd) (.bool ym) (.slice yp yl yc) (.slice yq yk yd) 93;have m1:=aj w1 (.cells #[.bool xm,.slice xp xl xc,.slice xq xk xd,.bool ym,.slice yp yl yc,.slice yq yk yd] 93);generalize w1.alloc (.cells #[.bool xm,.slice xp xl xc,.slice xq xk xd,.bool ym,.slice yp yl yc,.slice yq yk yd] 93)=w2 at *
  have a0:=q1.c0;have a1:=q1.c1;have a2:=q1.c2;have a3:=q1.c3;have a4:=q1.c4;have a5:=q1.c5;have hB2:=LK hb1 m1;have HC:=Ip (HF.out.on _ _ w2 hB2 (hk.below m1));have HG:=Ip (hG.below hB2);clear q1 m1 hk hv hb1 HF;go_wp2_with fail
  refine HC.out.mono ?_;rintro e w3 ⟨v3,rfl,hv3,hb3⟩;have hB3:=LK hB2 hb3;go_wp2_with fail
  refine (D7 _ _ _ hv3 (HG.out.below hb3)).mono ?_;rintro e w4 ⟨rfl,hb4⟩;go_wp2;refine LM (v:=.tuple #[.string (eB (φ p)).1,.int .i64 (eB (φ p)).2]) (by simp[results,Tryz.results125,go_sem]) rfl ⟨by rw[HP1.out],LK hB3 hb4⟩
 ·have HE:=Ip (show ofC φ s=(⟨#[]⟩,10) by unfold ofC;rw[ig hz]);clear hz;unfold iX;go_wp2;refine LM (v:=.tuple #[.string ⟨#[]⟩,.int .i64 10]) (by simp[results,Tryz.results125,go_sem]) rfl ⟨by rw[HE.out],LK hb1 (aj w1 _)⟩
theorem reF (w:World):Cl 168 #[] (fun z=>CQ.real z.re) w:=by
 refine⟨cA Tryz.func168 rfl (by kernel_rfl),fun x z w0 hw hk=>?_⟩;obtain⟨a,b,c,d,e,f,rfl,hax,hay⟩:=id hk.v
 show Calls _ _ #[_] _ _
 go_enter Tryz.func168,Tryz.ntmps168;go_upto_region 1 with fail
 have q1:=cC.new w0 a b c d e f 93;have m1:=aj w0 (.cells #[a,b,c,d,e,f] 93);have z1:=size_alloc w0 (.cells #[a,b,c,d,e,f] 93);generalize w0.alloc (.cells #[a,b,c,d,e,f] 93)=w1 at *
 have q3:=du.new w1 (.bool false) (.slice none 0 0) (.slice none 0 0) (.bool false) (.slice none 0 0) (.slice none 0 0) nofun nofun nofun nofun nofun nofun;have m3:=aj w1 (.cells #[.bool false,.slice none 0 0,.slice none 0 0,.bool false,.slice none 0 0,.slice none 0 0] 93);generalize w1.alloc (.cells #[.bool false,.slice none 0 0,.slice none 0 0,.bool false,.slice none 0 0,.slice none 0 0] 93)=w3 at *
 rw[z1] at q3;have q1:=q1.below m3;have a0:=q1.c0;have a1:=q1.c1;have a2:=q1.c2;have a3:=q1.c3;have a4:=q1.c4;have a5:=q1.c5;have MD:=Ip (LK m1 m3);have B3:=Ip q3;have HX:=Ip (hax.below MD.out);clear q1 q3 m1 m3 z1 hax hay hk;go_wp2_with fail
 refine (fI _ _ _ HX.out).mono ?_;rintro e w4 ⟨v4,rfl,hv4,hb4⟩;have hv4:IsV w4 v4 (ct (CQ.real z.re)):=by rw[<-dX];exact hv4
 obtain⟨x1,x2,x3,y1,y2,y3,rfl,hx,hy⟩:=hv4;obtain⟨xm,xp,xl,xc,xq,xk,xd,hxe⟩:=hx.form;obtain⟨ym,yp,yl,yc,yq,yk,yd,hye⟩:=hy.form;obtain⟨rfl,rfl,rfl⟩:=fh hxe;obtain⟨rfl,rfl,rfl⟩:=fh hye;have B8:=B3.out.below hb4;have k0:=B8.cell 0;have k1:=B8.cell 1;have k2:=B8.cell 2;have k3:=B8.cell 3;have k4:=B8.cell 4;have k5:=B8.cell 5;have f0:=B8.fr 0;have f1:=B8.fr 1;have f2:=B8.fr 2;have f3:=B8.fr 3;have f4:=B8.fr 4;have f5:=B8.fr 5;have P:=Ip (B8.putV hx hy);have M8:=Ip (P.out.2.2 _ _ (LK MD.out hb4) (by omega));clear hx hy hxe hye B8;go_wp2_with fail
 have q0:=P.out.1.cell 0;have q1:=P.out.1.cell 1;have q2:=P.out.1.cell 2;have q3:=P.out.1.cell 3;have q4:=P.out.1.cell 4;have q5:=P.out.1.cell 5;refine LM (v:=.agg #[.bool xm,.slice xp xl xc,.slice xq xk xd,.bool ym,.slice yp yl yc,.slice yq yk yd]) (by simp[results,Tryz.results168,go_sem,eU] at q0 q1 q2 q3 q4 q5 |-;simp[results,Tryz.results168,go_sem,q0,q1,q2,q3,q4,q5]) rfl ⟨_,rfl,P.out.2.1,M8.out⟩
theorem imF (w:World):Cl 169 #[] (fun z=>CQ.real z.im) w:=by
 refine⟨cA Tryz.func169 rfl (by kernel_rfl),fun x z w0 hw hk=>?_⟩;obtain⟨a,b,c,d,e,f,rfl,hax,hay⟩:=id hk.v
 show Calls _ _ #[_] _ _
 go_enter Tryz.func169,Tryz.ntmps169;go_upto_region 1 with fail
 have q1:=cC.new w0 a b c d e f 93;have m1:=aj w0 (.cells #[a,b,c,d,e,f] 93);have z1:=size_alloc w0 (.cells #[a,b,c,d,e,f] 93);generalize w0.alloc (.cells #[a,b,c,d,e,f] 93)=w1 at *
 have q3:=du.new w1 (.bool false) (.slice none 0 0) (.slice none 0 0) (.bool false) (.slice none 0 0) (.slice none 0 0) nofun nofun nofun nofun nofun nofun;have m3:=aj w1 (.cells #[.bool false,.slice none 0 0,.slice none 0 0,.bool false,.slice none 0 0,.slice none 0 0] 93);generalize w1.alloc (.cells #[.bool false,.slice none 0 0,.slice none 0 0,.bool false,.slice none 0 0,.slice none 0 0] 93)=w3 at *
 rw[z1] at q3;have q1:=q1.below m3;have a0:=q1.c0;have a1:=q1.c1;have a2:=q1.c2;have a3:=q1.c3;have a4:=q1.c4;have a5:=q1.c5;have MD:=Ip (LK m1 m3);have B3:=Ip q3;have HX:=Ip (hay.below MD.out);clear q1 q3 m1 m3 z1 hax hay hk;go_wp2_with fail
 refine (fI _ _ _ HX.out).mono ?_;rintro e w4 ⟨v4,rfl,hv4,hb4⟩;have hv4:IsV w4 v4 (ct (CQ.real z.im)):=by rw[<-dX];exact hv4
 obtain⟨x1,x2,x3,y1,y2,y3,rfl,hx,hy⟩:=hv4;obtain⟨xm,xp,xl,xc,xq,xk,xd,hxe⟩:=hx.form;obtain⟨ym,yp,yl,yc,yq,yk,yd,hye⟩:=hy.form;obtain⟨rfl,rfl,rfl⟩:=fh hxe;obtain⟨rfl,rfl,rfl⟩:=fh hye;have B8:=B3.out.below hb4;have k0:=B8.cell 0;have k1:=B8.cell 1;have k2:=B8.cell 2;have k3:=B8.cell 3;have k4:=B8.cell 4;have k5:=B8.cell 5;have f0:=B8.fr 0;have f1:=B8.fr 1;have f2:=B8.fr 2;have f3:=B8.fr 3;have f4:=B8.fr 4;have f5:=B8.fr 5;have P:=Ip (B8.putV hx hy);have M8:=Ip (P.out.2.2 _ _ (LK MD.out hb4) (by omega));clear hx hy hxe hye B8;go_wp2_with fail
 have q0:=P.out.1.cell 0;have q1:=P.out.1.cell 1;have q2:=P.out.1.cell 2;have q3:=P.out.1.cell 3;have q4:=P.out.1.cell 4;have q5:=P.out.1.cell 5;refine LM (v:=.agg #[.bool xm,.slice xp xl xc,.slice xq xk xd,.bool ym,.slice yp yl yc,.slice yq yk yd]) (by simp[results,Tryz.results169,go_sem,eU] at q0 q1 q2 q3 q4 q5 |-;simp[results,Tryz.results169,go_sem,q0,q1,q2,q3,q4,q5]) rfl ⟨_,rfl,P.out.2.1,M8.out⟩
theorem Ij (s:ByteArray) (w:World) (hG:Gw w) :
  Calls Tryz.prog 122 #[.string s] w fun e w'=>e=.returned (.tuple #[.string (ofC (fun z=>CQ.real z.re) s).1,.int .i64 (ofC (fun z=>CQ.real z.re) s).2])/\Below w.heap.size w w':=by
 have HP:=Ip (Gl 168 #[] _ s w hG (reF w));go_enter Tryz.func122,Tryz.ntmps122;go_wp2_with fail
 refine HP.out.mono ?_;rintro e w2 ⟨rfl,hb2⟩;go_wp2;refine LM (v:=.tuple #[.string (ofC (fun z=>CQ.real z.re) s).1,.int .i64 (ofC (fun z=>CQ.real z.re) s).2]) (by simp[results,Tryz.results122,go_sem]) rfl ⟨rfl,hb2⟩
theorem Ih (s:ByteArray) (w:World) (hG:Gw w) :
  Calls Tryz.prog 123 #[.string s] w fun e w'=>e=.returned (.tuple #[.string (ofC (fun z=>CQ.real z.im) s).1,.int .i64 (ofC (fun z=>CQ.real z.im) s).2])/\Below w.heap.size w w':=by
 have HP:=Ip (Gl 169 #[] _ s w hG (imF w));go_enter Tryz.func123,Tryz.ntmps123;go_wp2_with fail
 refine HP.out.mono ?_;rintro e w2 ⟨rfl,hb2⟩;go_wp2;refine LM (v:=.tuple #[.string (ofC (fun z=>CQ.real z.im) s).1,.int .i64 (ofC (fun z=>CQ.real z.im) s).2]) (by simp[results,Tryz.results123,go_sem]) rfl ⟨rfl,hb2⟩
def nI (s:ByteArray):Bool:=decide ((ofC (fun z=>CQ.real z.re) s).2=0)&&decide ((ofC (fun z=>CQ.real z.im) s).2=0)&&iD (ofC (fun z=>CQ.real z.re) s).1.data.toList&&iD (ofC (fun z=>CQ.real z.im) s).1.data.toList
theorem Fc (v:Value) (fa fb ga gb:List ByteArray) (k:ByteArray) (n:Int) (w:World) (hP:oF w v fa fb ga gb k n) (h0:0<fa.length) (h2:fa.length<1000) (h3:fb.length<1000) (hG:Gw w) :
  Calls Tryz.prog 82 #[v] w (lY (iq fa fa fb) w):=by
 obtain⟨p,c,q,d,p',c',q',d',rfl,hfa,hfb,-,-⟩:=id hP.ex;go_enter Tryz.func82,Tryz.ntmps82;go_upto_region 1 with fail
 have m1:=aj w (.cells #[.slice p fa.length c,.slice q fb.length d,.slice p' ga.length c',.slice q' gb.length d',.string k,.int .i64 n] 111);have z1:=size_alloc w (.cells #[.slice p fa.length c,.slice q fb.length d,.slice p' ga.length c',.slice q' gb.length d',.string k,.int .i64 n] 111);have a0:=fun j u h=>aI w #[.slice p fa.length c,.slice q fb.length d,.slice p' ga.length c',.slice q' gb.length d',.string k,.int .i64 n] 111 j u h;generalize w.alloc (.cells #[.slice p fa.length c,.slice q fb.length d,.slice p' ga.length c',.slice q' gb.length d',.string k,.int .i64 n] 111)=w1 at *
 have q2:(w1.alloc (.cells #[.slice none 0 0,.slice none 0 0] 24)).heap[w1.heap.size]?=some (.cells #[.slice none 0 0,.slice none 0 0] 24 (0,0)):=heap_alloc_new w1 _;have m2:=aj w1 (.cells #[.slice none 0 0,.slice none 0 0] 24);have z2:=size_alloc w1 (.cells #[.slice none 0 0,.slice none 0 0] 24);have hlt:w.heap.size<w1.heap.size:=by omega
 have b0:=ag m2 hlt (a0 0 _ rfl);have b1:=ag m2 hlt (a0 1 _ rfl);have b2:=ag m2 hlt (a0 2 _ rfl);have b3:=ag m2 hlt (a0 3 _ rfl);have b4:=ag m2 hlt (a0 4 _ rfl);have b5:=ag m2 hlt (a0 5 _ rfl);generalize w1.alloc (.cells #[.slice none 0 0,.slice none 0 0] 24)=w2 at *
 rw[z1] at q2;have M2:=Ip (LK m1 m2);have hz2:w.heap.size+1<w2.heap.size:=by omega
 have HC:=Ip (uW _ _ fa fa fb ga gb k n w2 (hP.below M2.out) (hfa.below M2.out) (by omega) h0 h2 h3 (hG.below M2.out));clear m1 z1 a0 m2 z2 hfa hfb hG hP hlt;go_wp2_with fail
 refine HC.out.mono ?_;rintro e w3 ⟨hb3,hr⟩
 cases hct:iq fa fa fb with
 | error m =>
  rw[hct] at hr;simp only at hr;subst hr;exact⟨rfl,LK M2.out hb3,by simp only⟩
 | ok ab =>
  obtain⟨L1,L2⟩:=ab;rw[hct] at hr;simp only at hr;obtain⟨u,rfl,hu⟩:=hr;obtain⟨p1,c1,p2,c2,rfl,g1,g2,o1,o2⟩:=hu.ex;have hn1:Value.ownBlock (.slice p1 L1.length c1)≠some (w.heap.size+1):=fun e=>by have:=o1 _ e;omega
  have hn2:Value.ownBlock (.slice p2 L2.length c2)≠some (w.heap.size+1):=fun e=>by have:=o2 _ e;omega
  have q3:=(hb3.block (w.heap.size+1) hz2).trans q2;have k0:=au q3 0;have k1:=au q3 1;have f0:=aU q3 0;have f1:=aU q3 1;have R1:=Ip ((g1.other hn1 0 (.slice p1 L1.length c1)).other hn1 1 (.slice p2 L2.length c2));have R2:=Ip ((g2.other hn2 0 (.slice p1 L1.length c1)).other hn2 1 (.slice p2 L2.length c2));have O1:=Ip (show ∀ g,Value.ownBlock (.slice p1 L1.length c1)=some g->w.heap.size<=g from fun g e=>by have:=o1 _ e;omega);have O2:=Ip (show ∀ g,Value.ownBlock (.slice p2 L2.length c2)=some g->w.heap.size<=g from fun g e=>by have:=o2 _ e;omega);have M7:=Ip (((LK M2.out hb3).setCell (p:=⟨w.heap.size+1,0,none⟩) (I1 _) (.slice p1 L1.length c1)).setCell (p:=⟨w.heap.size+1,1,none⟩) (I1 _) (.slice p2 L2.length c2));have g0:=el q3 (.slice p1 L1.length c1) (.slice p2 L2.length c2);have x0:=au g0 0;have x1:=au g0 1;have HCT:=Ip hct;clear hn1 hn2 g1 g2 o1 o2 q2 q3 hb3 HC hu hct;go_wp2;refine LM (v:=.agg #[.slice p1 L1.length c1,.slice p2 L2.length c2]) (by simp at x0 x1;simp[results,Tryz.results82,go_sem,x0,x1]) rfl ⟨M7.out,?_⟩;rw[HCT.out];exact⟨_,rfl,⟨p1,c1,p2,c2,rfl,R1.out,R2.out,O1.out,O2.out⟩⟩
theorem Id (v:Value) (fa fb ga gb:List ByteArray) (k:ByteArray) (n:Int) (w:World) (hP:oF w v fa fb ga gb k n) (h0:0<fa.length) (h2:fa.length<1000) (h3:fb.length<1000) (hG:Gw w) :
  Calls Tryz.prog 83 #[v] w (lY (iq fb fa fb) w):=by
 obtain⟨p,c,q,d,p',c',q',d',rfl,hfa,hfb,-,-⟩:=id hP.ex;go_enter Tryz.func83,Tryz.ntmps83;go_upto_region 1 with fail
 have m1:=aj w (.cells #[.slice p fa.length c,.slice q fb.length d,.slice p' ga.length c',.slice q' gb.length d',.string k,.int .i64 n] 111);have z1:=size_alloc w (.cells #[.slice p fa.length c,.slice q fb.length d,.slice p' ga.length c',.slice q' gb.length d',.string k,.int .i64 n] 111);have a0:=fun j u h=>aI w #[.slice p fa.length c,.slice q fb.length d,.slice p' ga.length c',.slice q' gb.length d',.string k,.int .i64 n] 111 j u h;generalize w.alloc (.cells #[.slice p fa.length c,.slice q fb.length d,.slice p' ga.length c',.slice q' gb.length d',.string k,.int .i64 n] 111)=w1 at *
 have q2:(w1.alloc (.cells #[.slice none 0 0,.slice none 0 0] 24)).heap[w1.heap.size]?=some (.cells #[.slice none 0 0,.slice none 0 0] 24 (0,0)):=heap_alloc_new w1 _;have m2:=aj w1 (.cells #[.slice none 0 0,.slice none 0 0] 24);have z2:=size_alloc w1 (.cells #[.slice none 0 0,.slice none 0 0] 24);have hlt:w.heap.size<w1.heap.size:=by omega
 have b0:=ag m2 hlt (a0 0 _ rfl);have b1:=ag m2 hlt (a0 1 _ rfl);have b2:=ag m2 hlt (a0 2 _ rfl);have b3:=ag m2 hlt (a0 3 _ rfl);have b4:=ag m2 hlt (a0 4 _ rfl);have b5:=ag m2 hlt (a0 5 _ rfl);generalize w1.alloc (.cells #[.slice none 0 0,.slice none 0 0] 24)=w2 at *
 rw[z1] at q2;have M2:=Ip (LK m1 m2);have hz2:w.heap.size+1<w2.heap.size:=by omega
 have HC:=Ip (uW _ _ fb fa fb ga gb k n w2 (hP.below M2.out) (hfb.below M2.out) (by omega) h0 h2 h3 (hG.below M2.out));clear m1 z1 a0 m2 z2 hfa hfb hG hP hlt;go_wp2_with fail
 refine HC.out.mono ?_;rintro e w3 ⟨hb3,hr⟩
 cases hct:iq fb fa fb with
 | error m =>
  rw[hct] at hr;simp only at hr;subst hr;exact⟨rfl,LK M2.out hb3,by simp only⟩
 | ok ab =>
  obtain⟨L1,L2⟩:=ab;rw[hct] at hr;simp only at hr;obtain⟨u,rfl,hu⟩:=hr;obtain⟨p1,c1,p2,c2,rfl,g1,g2,o1,o2⟩:=hu.ex;have hn1:Value.ownBlock (.slice p1 L1.length c1)≠some (w.heap.size+1):=fun e=>by have:=o1 _ e;omega
  have hn2:Value.ownBlock (.slice p2 L2.length c2)≠some (w.heap.size+1):=fun e=>by have:=o2 _ e;omega
  have q3:=(hb3.block (w.heap.size+1) hz2).trans q2;have k0:=au q3 0;have k1:=au q3 1;have f0:=aU q3 0;have f1:=aU q3 1;have R1:=Ip ((g1.other hn1 0 (.slice p1 L1.length c1)).other hn1 1 (.slice p2 L2.length c2));have R2:=Ip ((g2.other hn2 0 (.slice p1 L1.length c1)).other hn2 1 (.slice p2 L2.length c2));have O1:=Ip (show ∀ g,Value.ownBlock (.slice p1 L1.length c1)=some g->w.heap.size<=g from fun g e=>by have:=o1 _ e;omega);have O2:=Ip (show ∀ g,Value.ownBlock (.slice p2 L2.length c2)=some g->w.heap.size<=g from fun g e=>by have:=o2 _ e;omega);have M7:=Ip (((LK M2.out hb3).setCell (p:=⟨w.heap.size+1,0,none⟩) (I1 _) (.slice p1 L1.length c1)).setCell (p:=⟨w.heap.size+1,1,none⟩) (I1 _) (.slice p2 L2.length c2));have g0:=el q3 (.slice p1 L1.length c1) (.slice p2 L2.length c2);have x0:=au g0 0;have x1:=au g0 1;have HCT:=Ip hct;clear hn1 hn2 g1 g2 o1 o2 q2 q3 hb3 HC hu hct;go_wp2;refine LM (v:=.agg #[.slice p1 L1.length c1,.slice p2 L2.length c2]) (by simp at x0 x1;simp[results,Tryz.results83,go_sem,x0,x1]) rfl ⟨M7.out,?_⟩;rw[HCT.out];exact⟨_,rfl,⟨p1,c1,p2,c2,rfl,R1.out,R2.out,O1.out,O2.out⟩⟩
theorem Av {P:Program}{c:Code}{Q:Exit->Act->List Frame->World->Prop}{a:Act}{cs:List Frame}{w:World} (b:Act) (hb:a=b) (h:∀ Q':Exit->Act->World->Prop,Hid (∀ e a' w',Q e a' cs w'->Q' e a' w')->c.wp P Q' b w):c.wpS P Q a cs w:=by
 subst hb;exact wpS_of_wp (h _ (Ip fun _ _ _ h=>h))
structure Has (p:Addr) (v:Value) where
 w:World
 h:w.cell? p=some v
theorem F6 (v:Value) (w:World):(Instr.typeAssert (.iface 155 v) 20 155 true).run Tryz.prog w=.ok (.tuple #[v,.bool true]) w:=by
 unfold Instr.typeAssert;rw[Sem.run_bind,run_underlying Tryz.underlying155];rfl
theorem kO (kf ke:Nat) (x y z:Value) (n:Int) (w:World) (hf:w.heap[kf]?=some (.cells #[x,y] 24 (0,0))) (he:w.heap[ke]?=some (.cells #[z] 26 (0,0))) :
  CallsD Tryz.prog 127 #[.pointer (some ⟨kf,0,none⟩),.pointer (some ⟨ke,0,none⟩)] (.panicking (DB n)) w fun e u' w' =>
   e=.returned (.tuple #[])/\u'=.panicking [{ v:=.iface 155 (.agg #[.int .i64 n]),recovered:=true }] /\
   (∀ B w0,Below B w0 w->B<=kf->B<=ke->Below B w0 w')/\w'.heap[kf]?=some (.cells #[.slice none 0 0,.slice none 0 0] 24 (0,0))/\w'.heap[ke]?=some (.cells #[.int .i64 n] 26 (0,0)):=by
 refine callsD_of_wpS Tryz.func127 rfl fun c₀ cs hu=>?_
 apply wpS_seq
 apply wpS_region
 unfold DB at hu;simp[wpOpsS,go_sem,recoverD,hu,Tryz.ntmps127,Exit.thenS];refine Av { tmps:=#[.pointer (some ⟨kf,0,none⟩),.pointer (some ⟨ke,0,none⟩),.iface 155 (.agg #[.int .i64 n]),undef,undef,.iface 155 (.agg #[.int .i64 n]),undef,undef,undef,undef,undef,undef,undef,undef,undef,undef,undef,undef,undef],defers:=[] } rfl fun Q' HQ=>?_;have k0:=au hf 0;have k1:=au hf 1;have f0:=aU hf 0;have f1:=aU hf 1;have TA:=F6;go_upto_region 5 with fail
 have hfl:kf<w.heap.size:=(ID.1 hf).1;have hel:ke<w.heap.size:=(ID.1 he).1
 have hne:kf≠ke:=fun e=>by
  subst e;rw[hf] at he;simp at he
 have m1:=aj w (.cells #[.int .i64 n] 155);have c0:(w.alloc (.cells #[.int .i64 n] 155)).drew.cell? ⟨w.heap.size,0,none⟩=some (.int .i64 n):=aI w _ _ 0 _ rfl;have hf1:=(m1.drew.block kf hfl).trans hf;have he1:=(m1.drew.block ke hel).trans he;have hB:=Ip (fun B w0 (h:Below B w0 w) (h1:B<=kf)=>(h.trans ((m1.drew).mono (show B<=w.heap.size by omega))))
 haveI:Nonempty (Has ⟨w.heap.size,0,none⟩ (.int .i64 n)):=⟨⟨_,c0⟩⟩
 refine av (fun w'=>∃ x:Has ⟨w.heap.size,0,none⟩ (.int .i64 n),w'=x.w) (fun i=>i == 3||i == 4) (by kernel_rfl) (by kernel_rfl) ⟨⟨_,c0⟩,rfl⟩ ?_;have hh:=fun x:Has ⟨w.heap.size,0,none⟩ (.int .i64 n)=>x.h;clear m1 hf he k0 k1 f0 f1;generalize (w.alloc (.cells #[.int .i64 n] 155)).drew=w1 at *
 refine ak 3 0 _ _ _ (by kernel_rfl) ?_;simp only[Ix,IC,Iy,IA];repeat (go_big_quiet_step (fail))
 refine wpQuiet_nil ?_;have k0:=au hf1 0;have k1:=au hf1 1;have f0:=aU hf1 0;have f1:=aU hf1 1;clear hh;refine ap rfl rfl (fun K hK=>?_);go_simp;have g0:=el hf1 (.slice none 0 0) (.slice none 0 0)
 have c1:((w1.setCell ⟨kf,0,none⟩ (.slice none 0 0)).setCell ⟨kf,1,none⟩ (.slice none 0 0)).cell? ⟨w.heap.size,0,none⟩=some (.int .i64 n):=by
  rw[World.cell?_setCell_other _ _ _ _ (by intro e;have:=congrArg Addr.block e;simp at this;omega),World.cell?_setCell_other _ _ _ _ (by intro e;have:=congrArg Addr.block e;simp at this;omega)];exact c0
 have he2:((w1.setCell ⟨kf,0,none⟩ (.slice none 0 0)).setCell ⟨kf,1,none⟩ (.slice none 0 0)).heap[ke]?=some (.cells #[z] 26 (0,0)) :=
  ((Below.heap_setCell _ ⟨kf,1,none⟩ _ ke (Ne.symm hne)).trans (Below.heap_setCell _ ⟨kf,0,none⟩ _ ke (Ne.symm hne))).trans he1
 refine hK undef _ ⟨⟨_,c1⟩,rfl⟩ ?_;clear hK K;try simp only[Act.put,It,Is,Ir,Iq,Iu,Iv]
 have hB2:=Ip (fun B w0 (h:Below B w0 w) (h1:B<=kf)=>((hB.out B w0 h h1).setCell (p:=⟨kf,0,none⟩) h1 (.slice none 0 0)).setCell (p:=⟨kf,1,none⟩) h1 (.slice none 0 0));clear k0 k1 f0 f1 hf1 he1 hB c0;generalize (w1.setCell ⟨kf,0,none⟩ (.slice none 0 0)).setCell ⟨kf,1,none⟩ (.slice none 0 0)=w2 at *
 have k0:w2.cell? ⟨ke,0,none⟩=some z:=by rw[World.cell?,he2];rfl
 have f0:w2.frozen? ⟨ke,0,none⟩=false:=by rw[World.frozen?,he2];simp
 refine ap rfl rfl (fun K hK=>?_);go_simp
 have c2:(w2.setCell ⟨ke,0,none⟩ (.int .i64 n)).cell? ⟨w.heap.size,0,none⟩=some (.int .i64 n):=by
  rw[World.cell?_setCell_other _ _ _ _ (by intro e;have:=congrArg Addr.block e;simp at this;omega)];exact c1
 refine hK undef _ ⟨⟨_,c2⟩,rfl⟩ ?_;clear hK K;try simp only[Act.put,It,Is,Ir,Iq,Iu,Iv]
 refine aE ?_;refine HQ.out _ _ _ ?_;have e1:=heap_setCell_same w2 ke 0 #[z] _ (.int .i64 n) he2;have e2:(w2.setCell ⟨ke,0,none⟩ (.int .i64 n)).heap[kf]?=some (.cells #[.slice none 0 0,.slice none 0 0] 24 (0,0)):=(Below.heap_setCell _ ⟨ke,0,none⟩ _ kf hne).trans g0;have e3:=fun B w0 (h:Below B w0 w) (h1:B<=kf) (h2:B<=ke)=>(hB2.out B w0 h h1).setCell (p:=⟨ke,0,none⟩) h2 (.int .i64 n);have e1':(w2.setCell ⟨ke,0,none⟩ (.int .i64 n)).heap[ke]?=some (.cells #[.int .i64 n] 26 (0,0)):=e1;clear e1 c2 c1 k0 f0 he2 g0 hB2 HQ TA;simp[bodyPostS,results,Tryz.results127];exact⟨e3,e2,e1'⟩
theorem AL (kf ke:Nat) (w:World) :
  CallsD Tryz.prog 127 #[.pointer (some ⟨kf,0,none⟩),.pointer (some ⟨ke,0,none⟩)] .returning w fun e u' w'=>e=.returned (.tuple #[])/\u'=.returning/\w'=w:=by
 refine callsD_of_wpS Tryz.func127 rfl fun c₀ cs hu=>?_
 apply wpS_seq
 apply wpS_region
 simp[wpOpsS,go_sem,recoverD,hu,Tryz.ntmps127,Exit.thenS];refine Av { tmps:=#[.pointer (some ⟨kf,0,none⟩),.pointer (some ⟨ke,0,none⟩),.nilIface,undef,undef,.nilIface,undef,undef,undef,undef,undef,undef,undef,undef,undef,undef,undef,undef,undef],defers:=[] } rfl fun Q' HQ=>?_;go_wp2;refine HQ.out _ _ _ ?_
 cases c₀
 simp_all [bodyPostS,results,Tryz.results127]
structure MkAt (M:FuncId) (fa fb ga gb:List ByteArray) (k:ByteArray) (n:Int) (r:Except Int (List ByteArray×List ByteArray)) (w:World):Prop where
 en:∀ (args:Array Value) (w:World),(callFunc M args).run Tryz.prog w=.ok (.enter M args) w
 on:∀ (v:Value) (w':World),Below w.heap.size w w'->oF w' v fa fb ga gb k n->aC fa fb=true->aC ga gb=true->Calls Tryz.prog M #[v] w' (lY r w')
def Gj:Except Int (List ByteArray×List ByteArray)->(List ByteArray×List ByteArray)×Int
 | .error n=>(([],[]),n)
 | .ok (a,b)=>if 7<a.length\/7<b.length then (([],[]),3) else if aC a b=false then (([],[]),8) else ((a,b),0)
def dD (fa fb ga gb:List ByteArray) (r:Except Int (List ByteArray×List ByteArray)):(List ByteArray×List ByteArray)×Int :=
 if aC fa fb=false then (([],[]),30) else if aC ga gb=false then (([],[]),30) else Gj r
def j0 (r:(List ByteArray×List ByteArray)×Int) (w:World) (e:Ending) (w':World):Prop :=
 ∃ v,e=.returned (.tuple #[v,.int .i64 r.2])/\Gv w.heap.size w' v r.1.1 r.1.2/\Below w.heap.size w w'
theorem sE (B:Nat) (w:World):Gv B w (.agg #[.slice none 0 0,.slice none 0 0]) [] [] :=
 ⟨⟨none,0,none,0,rfl,gy.nil _ _,gy.nil _ _,(fun g h=>by cases h),(fun g h=>by cases h)⟩⟩
theorem u_ (M:FuncId) (v:Value) (fa fb ga gb:List ByteArray) (k:ByteArray) (n:Int) (r:Except Int (List ByteArray×List ByteArray)) (w:World) (hP:oF w v fa fb ga gb k n) (hM:MkAt M fa fb ga gb k n r w) (hG:Gx w) :
  Calls Tryz.prog 81 #[.func (.func M) #[] #[],v] w (j0 (dD fa fb ga gb r) w):=by
 obtain⟨p,c,q,d,p',c',q',d',rfl,hfa,hfb,hga,hgb⟩:=id hP.ex;have EN:=hM.en;have HM:=Ip hM;have hmf:∀ (fn:Fn) (first cap:Array Value) (w:World),(Instr.makeFunc fn first cap).run Tryz.prog w=.ok (.func fn first cap) w:=fun _ _ _ _=>rfl
 go_enter_defers Tryz.func81,Tryz.ntmps81
 go_upto_region 1 with fail
 have m1:=aj w (.cells #[.slice p fa.length c,.slice q fb.length d,.slice p' ga.length c',.slice q' gb.length d',.string k,.int .i64 n] 111);have z1:=size_alloc w (.cells #[.slice p fa.length c,.slice q fb.length d,.slice p' ga.length c',.slice q' gb.length d',.string k,.int .i64 n] 111);have a0:=fun j u h=>aI w #[.slice p fa.length c,.slice q fb.length d,.slice p' ga.length c',.slice q' gb.length d',.string k,.int .i64 n] 111 j u h;generalize w.alloc (.cells #[.slice p fa.length c,.slice q fb.length d,.slice p' ga.length c',.slice q' gb.length d',.string k,.int .i64 n] 111)=w1 at *
 have q2:(w1.alloc (.cells #[.slice none 0 0,.slice none 0 0] 24)).heap[w1.heap.size]?=some (.cells #[.slice none 0 0,.slice none 0 0] 24 (0,0)):=heap_alloc_new w1 _;have m2:=aj w1 (.cells #[.slice none 0 0,.slice none 0 0] 24);have z2:=size_alloc w1 (.cells #[.slice none 0 0,.slice none 0 0] 24);generalize w1.alloc (.cells #[.slice none 0 0,.slice none 0 0] 24)=w2 at *
 have q3:(w2.alloc (.cells #[.int .i64 0] 26)).heap[w2.heap.size]?=some (.cells #[.int .i64 0] 26 (0,0)):=heap_alloc_new w2 _;have m3:=aj w2 (.cells #[.int .i64 0] 26);have z3:=size_alloc w2 (.cells #[.int .i64 0] 26);generalize w2.alloc (.cells #[.int .i64 0] 26)=w3 at *
 have q2:=(m3.block _ (show w1.heap.size<w2.heap.size by omega)).trans q2;rw[z1] at q2 z2;rw[z2] at q3 z3;have hb13:=LK m2 m3;have hlt:w.heap.size<w1.heap.size:=by omega
 have b0:=ag hb13 hlt (a0 0 _ rfl);have b1:=ag hb13 hlt (a0 1 _ rfl);have b2:=ag hb13 hlt (a0 2 _ rfl);have b3:=ag hb13 hlt (a0 3 _ rfl);have b4:=ag hb13 hlt (a0 4 _ rfl);have b5:=ag hb13 hlt (a0 5 _ rfl);have M3:=Ip (LK m1 hb13);have HP:=Ip (hP.below M3.out);have HG:=Ip (hG.below M3.out);have hGx:=fun {wx:World} (h:Below w.heap.size w wx)=>hG.below h;have HF:=Ip (show IsF w3 (.agg #[.slice p fa.length c,.slice q fb.length d]) fa fb from⟨⟨p,c,q,d,rfl,hfa.below M3.out,hfb.below M3.out⟩⟩);have HGG:=Ip (show IsF w3 (.agg #[.slice p' ga.length c',.slice q' gb.length d']) ga gb from⟨⟨p',c',q',d',rfl,hga.below M3.out,hgb.below M3.out⟩⟩);have HC1:=Ip (fP _ fa fb w3 HF.out HG.out);have hz3:w.heap.size+3=w3.heap.size:=by omega
 clear m1 z1 a0 m2 z2 m3 z3 hb13 hlt hfa hfb hga hgb hP hG hM;by_cases hck:aC fa fb=true
 ·have hce:aB fa fb=0:=by unfold aB;rw[if_pos hck]
  rw[hce] at HC1;have HK1:=Ip hck;clear hce hck;go_wp2_with fail
  refine HC1.out.mono ?_;rintro e w4 ⟨rfl,hb4⟩;have HC2:=Ip (fP _ ga gb w4 (HGG.out.below hb4) (HG.out.below hb4));have d0:=ag hb4 (show w.heap.size<w3.heap.size by omega) b0;have d1:=ag hb4 (show w.heap.size<w3.heap.size by omega) b1;have d2:=ag hb4 (show w.heap.size<w3.heap.size by omega) b2;have d3:=ag hb4 (show w.heap.size<w3.heap.size by omega) b3;have d4:=ag hb4 (show w.heap.size<w3.heap.size by omega) b4;have d5:=ag hb4 (show w.heap.size<w3.heap.size by omega) b5;clear b0 b1 b2 b3 b4 b5;by_cases hck:aC ga gb=true
  ·have hce:aB ga gb=0:=by unfold aB;rw[if_pos hck]
   rw[hce] at HC2;have HCT0:=Ip (show dD fa fb ga gb r=Gj r by unfold dD;rw[if_neg (by rw[HK1.out];decide),if_neg (by rw[hck];decide)]);have HK2:=Ip hck;clear hce hck;go_wp2_with fail
   refine HC2.out.mono ?_;rintro e w5 ⟨rfl,hb5⟩;have hB5:=LK hb4 hb5;have hz5:=hB5.size;have e0:=ag hb5 (show w.heap.size<w4.heap.size from by have:=hb4.size;omega) d0;have e1:=ag hb5 (show w.heap.size<w4.heap.size from by have:=hb4.size;omega) d1;have e2:=ag hb5 (show w.heap.size<w4.heap.size from by have:=hb4.size;omega) d2;have e3:=ag hb5 (show w.heap.size<w4.heap.size from by have:=hb4.size;omega) d3;have e4:=ag hb5 (show w.heap.size<w4.heap.size from by have:=hb4.size;omega) d4;have e5:=ag hb5 (show w.heap.size<w4.heap.size from by have:=hb4.size;omega) d5;have HMK:=Ip (HM.out.on _ w5 (LK M3.out hB5) (HP.out.below hB5) HK1.out HK2.out);have r2:=(hB5.block (w.heap.size+1) (by omega)).trans q2;have r3:=(hB5.block (w.heap.size+1+1) (by omega)).trans q3;have M5:=Ip (LK M3.out hB5);have HG5:=Ip (HG.out.below hB5);clear d0 d1 d2 d3 d4 d5 q2 q3 hb4 hb5 HC1 HC2 HM HP HF HGG;go_wp2_with fail
   refine HMK.out.mono ?_;rintro e w6 ⟨hb6,hr⟩;have hz6:=hb6.size;have s2:=(hb6.block (w.heap.size+1) (by omega)).trans r2;have s3:=(hb6.block (w.heap.size+1+1) (by omega)).trans r3;have M6:=Ip (LK M5.out hb6)
   cases r with
   | error m =>
    simp only at hr;subst hr;have HCT:=Ip (show dD fa fb ga gb (.error m)=(([],[]),m) from HCT0.out);refine leaves_cons (f:=127) (args:=#[.pointer (some ⟨w.heap.size+1,0,none⟩),.pointer (some ⟨w.heap.size+1+1,0,none⟩)]) (by simp) (by simp[go_sem]) ?_;refine (kO (w.heap.size+1) (w.heap.size+1+1) (.slice none 0 0) (.slice none 0 0) (.int .i64 0) (m) _ s2 s3).mono ?_;rintro e u' w'' ⟨rfl,rfl,hBB,g1,g2⟩;have y0:=au g1 0;have y1:=au g1 1;have y2:w''.cell? ⟨w.heap.size+1+1,0,none⟩=some (.int .i64 (m)):=by rw[World.cell?,g2];rfl
    have M9:=hBB _ _ (M6.out) (by omega) (by omega);refine⟨.tuple #[.agg #[.slice none 0 0,.slice none 0 0],.int .i64 (m)],by simp at y0 y1;simp[results,Tryz.results81,go_sem,y0,y1,y2],?_⟩;refine⟨_,by rw[HCT.out],?_,M9⟩;rw[HCT.out];exact sE _ _
   | ok ab =>
    obtain⟨L1,L2⟩:=ab;simp only at hr;obtain⟨u,rfl,hu⟩:=hr;obtain⟨p1,c1,p2,c2,rfl,g1,g2,o1,o2⟩:=hu.ex;have hn1:Value.ownBlock (.slice p1 L1.length c1)≠some (w.heap.size+1):=fun e=>by have:=o1 _ e;omega
    have hn2:Value.ownBlock (.slice p2 L2.length c2)≠some (w.heap.size+1):=fun e=>by have:=o2 _ e;omega
    have k0:=au s2 0;have k1:=au s2 1;have f0:=aU s2 0;have f1:=aU s2 1;have R1:=Ip ((g1.other hn1 0 (.slice p1 L1.length c1)).other hn1 1 (.slice p2 L2.length c2));have R2:=Ip ((g2.other hn2 0 (.slice p1 L1.length c1)).other hn2 1 (.slice p2 L2.length c2));have O1:=Ip (show ∀ g,Value.ownBlock (.slice p1 L1.length c1)=some g->w.heap.size<=g from fun g e=>by have:=o1 _ e;omega);have O2:=Ip (show ∀ g,Value.ownBlock (.slice p2 L2.length c2)=some g->w.heap.size<=g from fun g e=>by have:=o2 _ e;omega);have O1':=Ip (show ∀ g,Value.ownBlock (.slice p1 L1.length c1)=some g->w3.heap.size<=g from fun g e=>by have:=o1 _ e;omega);have O2':=Ip (show ∀ g,Value.ownBlock (.slice p2 L2.length c2)=some g->w3.heap.size<=g from fun g e=>by have:=o2 _ e;omega);have M7:=Ip ((M6.out.setCell (p:=⟨w.heap.size+1,0,none⟩) (I1 _) (.slice p1 L1.length c1)).setCell (p:=⟨w.heap.size+1,1,none⟩) (I1 _) (.slice p2 L2.length c2));have t2:=el s2 (.slice p1 L1.length c1) (.slice p2 L2.length c2);have hne:w.heap.size+1+1≠w.heap.size+1:=by omega
    have t3:=((Below.heap_setCell (w6.setCell ⟨w.heap.size+1,0,none⟩ (.slice p1 L1.length c1)) ⟨w.heap.size+1,1,none⟩ (.slice p2 L2.length c2) _ hne).trans (Below.heap_setCell w6 ⟨w.heap.size+1,0,none⟩ (.slice p1 L1.length c1) _ hne)).trans s3;have HG7:=Ip (hGx M7.out);have hs7:((w6.setCell ⟨w.heap.size+1,0,none⟩ (.slice p1 L1.length c1)).setCell ⟨w.heap.size+1,1,none⟩ (.slice p2 L2.length c2)).heap.size=w6.heap.size:=by simp[World.setCell]
    clear hn1 hn2 g1 g2 o1 o2 s2 s3 r2 r3 hb6 HMK hu e0 e1 e2 e3 e4 e5;go_upto_region 9 with fail
    generalize (w6.setCell ⟨w.heap.size+1,0,none⟩ (.slice p1 L1.length c1)).setCell ⟨w.heap.size+1,1,none⟩ (.slice p2 L2.length c2)=w7 at *
    clear k0 k1 f0 f1;have k0:=au t2 0;have k1:=au t2 1;have f0:=aU t2 0;have f1:=aU t2 1;by_cases h7:7<L1.length
    ·have hd:decide ((7:Int)<(L1.length:Int))=true:=by simp;omega
     have hdn:decide (7<L1.length)=true:=decide_eq_true h7;have HCT:=Ip (show dD fa fb ga gb (.ok (L1,L2))=(([],[]),3) by rw[HCT0.out];show (if 7<L1.length\/7<L2.length then _ else _)=_;rw[if_pos (Or.inl h7)]);clear h7;go_wp2;refine leaves_cons (f:=127) (args:=#[.pointer (some ⟨w.heap.size+1,0,none⟩),.pointer (some ⟨w.heap.size+1+1,0,none⟩)]) (by simp) (by simp[go_sem]) ?_;refine (kO (w.heap.size+1) (w.heap.size+1+1) (.slice p1 L1.length c1) (.slice p2 L2.length c2) (.int .i64 0) (3) _ t2 t3).mono ?_;rintro e u' w'' ⟨rfl,rfl,hBB,g1,g2⟩;have y0:=au g1 0;have y1:=au g1 1;have y2:w''.cell? ⟨w.heap.size+1+1,0,none⟩=some (.int .i64 (3)):=by rw[World.cell?,g2];rfl
     have M9:=hBB _ _ (M7.out) (by omega) (by omega);refine⟨.tuple #[.agg #[.slice none 0 0,.slice none 0 0],.int .i64 (3)],by simp at y0 y1;simp[results,Tryz.results81,go_sem,y0,y1,y2],?_⟩;refine⟨_,by rw[HCT.out],?_,M9⟩;rw[HCT.out];exact sE _ _
    ·have hd:decide ((7:Int)<(L1.length:Int))=false:=by simp;omega
     have hdn:decide (7<L1.length)=false:=decide_eq_false h7;by_cases h72:7<L2.length
     ·have hd2:decide ((7:Int)<(L2.length:Int))=true:=by simp;omega
      have hdn2:decide (7<L2.length)=true:=decide_eq_true h72;have HCT:=Ip (show dD fa fb ga gb (.ok (L1,L2))=(([],[]),3) by rw[HCT0.out];show (if 7<L1.length\/7<L2.length then _ else _)=_;rw[if_pos (Or.inr h72)]);clear h72 h7;go_wp2;refine leaves_cons (f:=127) (args:=#[.pointer (some ⟨w.heap.size+1,0,none⟩),.pointer (some ⟨w.heap.size+1+1,0,none⟩)]) (by simp) (by simp[go_sem]) ?_;refine (kO (w.heap.size+1) (w.heap.size+1+1) (.slice p1 L1.length c1) (.slice p2 L2.length c2) (.int .i64 0) (3) _ t2 t3).mono ?_;rintro e u' w'' ⟨rfl,rfl,hBB,g1,g2⟩;have y0:=au g1 0;have y1:=au g1 1;have y2:w''.cell? ⟨w.heap.size+1+1,0,none⟩=some (.int .i64 (3)):=by rw[World.cell?,g2];rfl
      have M9:=hBB _ _ (M7.out) (by omega) (by omega);refine⟨.tuple #[.agg #[.slice none 0 0,.slice none 0 0],.int .i64 (3)],by simp at y0 y1;simp[results,Tryz.results81,go_sem,y0,y1,y2],?_⟩;refine⟨_,by rw[HCT.out],?_,M9⟩;rw[HCT.out];exact sE _ _
     ·have hd2:decide ((7:Int)<(L2.length:Int))=false:=by simp;omega
      have hdn2:decide (7<L2.length)=false:=decide_eq_false h72;have HF7:=Ip (show IsF w7 (.agg #[.slice p1 L1.length c1,.slice p2 L2.length c2]) L1 L2 from⟨⟨p1,c1,p2,c2,rfl,R1.out,R2.out⟩⟩);have HC3:=Ip (fP _ L1 L2 w7 HF7.out HG7.out);have HCT1:=Ip (show dD fa fb ga gb (.ok (L1,L2))=if aC L1 L2=false then (([],[]),8) else ((L1,L2),0) by rw[HCT0.out];show (if 7<L1.length\/7<L2.length then _ else _)=_;rw[if_neg (by omega)]);clear h72 h7;by_cases hck:aC L1 L2=true
      ·have hce:aB L1 L2=0:=by unfold aB;rw[if_pos hck]
       rw[hce] at HC3;have HCT:=Ip (show dD fa fb ga gb (.ok (L1,L2))=((L1,L2),0) by rw[HCT1.out,if_neg (by rw[hck];decide)]);clear hce hck;go_wp2_with fail
       refine HC3.out.mono ?_;rintro e w8 ⟨rfl,hb8⟩;have u2:=(hb8.block (w.heap.size+1) (by omega)).trans t2;have u3:=(hb8.block (w.heap.size+1+1) (by omega)).trans t3;clear k0 k1 f0 f1;have k0:=au u2 0;have k1:=au u2 1;have f0:=aU u2 0;have f1:=aU u2 1;have x0:w8.cell? ⟨w.heap.size+1+1,0,none⟩=some (.int .i64 0):=by rw[World.cell?,u3];rfl
       have x1:w8.frozen? ⟨w.heap.size+1+1,0,none⟩=false:=by rw[World.frozen?,u3];simp
       have M9:=Ip ((((LK M7.out hb8).setCell (p:=⟨w.heap.size+1,0,none⟩) (I1 _) (.slice p1 L1.length c1)).setCell (p:=⟨w.heap.size+1,1,none⟩) (I1 _) (.slice p2 L2.length c2)).setCell (p:=⟨w.heap.size+1+1,0,none⟩) (by show w.heap.size<=w.heap.size+1+1;omega) (.int .i64 0));have n1:Value.ownBlock (.slice p1 L1.length c1)≠some (w.heap.size+1):=fun e=>by have:=O1'.out _ e;omega
       have n2:Value.ownBlock (.slice p2 L2.length c2)≠some (w.heap.size+1):=fun e=>by have:=O2'.out _ e;omega
       have n3:Value.ownBlock (.slice p1 L1.length c1)≠some (w.heap.size+1+1):=fun e=>by have:=O1'.out _ e;omega
       have n4:Value.ownBlock (.slice p2 L2.length c2)≠some (w.heap.size+1+1):=fun e=>by have:=O2'.out _ e;omega
       have S1:=Ip ((((R1.out.below hb8).other n1 0 (.slice p1 L1.length c1)).other n1 1 (.slice p2 L2.length c2)).other n3 0 (.int .i64 0));have S2:=Ip ((((R2.out.below hb8).other n2 0 (.slice p1 L1.length c1)).other n2 1 (.slice p2 L2.length c2)).other n4 0 (.int .i64 0));have g0:=el u2 (.slice p1 L1.length c1) (.slice p2 L2.length c2);have hne':w.heap.size+1≠w.heap.size+1+1:=by omega
       have g1:=(Below.heap_setCell ((w8.setCell ⟨w.heap.size+1,0,none⟩ (.slice p1 L1.length c1)).setCell ⟨w.heap.size+1,1,none⟩ (.slice p2 L2.length c2)) ⟨w.heap.size+1+1,0,none⟩ (.int .i64 0) (w.heap.size+1) hne').trans g0;have y0:=au g1 0;have y1:=au g1 1;clear n1 n2 n3 n4 u2 u3 g0 t2 t3 hb8;go_wp2;refine leaves_cons (f:=127) (args:=#[.pointer (some ⟨w.heap.size+1,0,none⟩),.pointer (some ⟨w.heap.size+1+1,0,none⟩)]) (by simp) (by simp[go_sem]) ?_;refine (AL (w.heap.size+1) (w.heap.size+1+1) _).mono ?_;rintro e u' w'' ⟨rfl,rfl,rfl⟩;refine⟨.tuple #[.agg #[.slice p1 L1.length c1,.slice p2 L2.length c2],.int .i64 0],by simp at y0 y1;simp[results,Tryz.results81,go_sem,y0,y1,x0],?_⟩;refine⟨_,by rw[HCT.out],?_,M9.out⟩;rw[HCT.out];exact⟨⟨p1,c1,p2,c2,rfl,S1.out,S2.out,O1.out,O2.out⟩⟩
      ·have hck':aC L1 L2=false:=by simpa using hck
       have hce:aB L1 L2=30:=by unfold aB;rw[if_neg hck]
       rw[hce] at HC3;have HCT:=Ip (show dD fa fb ga gb (.ok (L1,L2))=(([],[]),8) by rw[HCT1.out,if_pos hck']);clear hce hck hck';go_wp2_with fail
       refine HC3.out.mono ?_;rintro e w8 ⟨rfl,hb8⟩;have u2:=(hb8.block (w.heap.size+1) (by omega)).trans t2;have u3:=(hb8.block (w.heap.size+1+1) (by omega)).trans t3;have M8:=Ip (LK M7.out hb8);clear k0 k1 f0 f1;go_wp2;refine leaves_cons (f:=127) (args:=#[.pointer (some ⟨w.heap.size+1,0,none⟩),.pointer (some ⟨w.heap.size+1+1,0,none⟩)]) (by simp) (by simp[go_sem]) ?_;refine (kO (w.heap.size+1) (w.heap.size+1+1) (.slice p1 L1.length c1) (.slice p2 L2.length c2) (.int .i64 0) (8) _ u2 u3).mono ?_;rintro e u' w'' ⟨rfl,rfl,hBB,g1,g2⟩;have y0:=au g1 0;have y1:=au g1 1;have y2:w''.cell? ⟨w.heap.size+1+1,0,none⟩=some (.int .i64 (8)):=by rw[World.cell?,g2];rfl
       have M9:=hBB _ _ (M8.out) (by omega) (by omega);refine⟨.tuple #[.agg #[.slice none 0 0,.slice none 0 0],.int .i64 (8)],by simp at y0 y1;simp[results,Tryz.results81,go_sem,y0,y1,y2],?_⟩;refine⟨_,by rw[HCT.out],?_,M9⟩;rw[HCT.out];exact sE _ _
  ·have hce:aB ga gb=30:=by unfold aB;rw[if_neg hck]
   rw[hce] at HC2;have hct:dD fa fb ga gb r=(([],[]),30):=by unfold dD;rw[if_neg (by rw[HK1.out];decide),if_pos (by simpa using hck)]
   have HCT:=Ip hct;clear hce hck hct;go_wp2_with fail
   refine HC2.out.mono ?_;rintro e w5 ⟨rfl,hb5⟩;have hB5:=LK hb4 hb5;have hz4:=hB5.size;have r2:=(hB5.block (w.heap.size+1) (by omega)).trans q2;have r3:=(hB5.block (w.heap.size+1+1) (by omega)).trans q3;have k0:=au r2 0;have k1:=au r2 1;have f0:=aU r2 0;have f1:=aU r2 1;have x0:w5.cell? ⟨w.heap.size+1+1,0,none⟩=some (.int .i64 0):=by rw[World.cell?,r3];rfl
   have x1:w5.frozen? ⟨w.heap.size+1+1,0,none⟩=false:=by rw[World.frozen?,r3];simp
   have g0:=el r2 (.slice none 0 0) (.slice none 0 0);have M9:=Ip ((((LK M3.out hB5).setCell (p:=⟨w.heap.size+1,0,none⟩) (I1 _) (.slice none 0 0)).setCell (p:=⟨w.heap.size+1,1,none⟩) (I1 _) (.slice none 0 0)).setCell (p:=⟨w.heap.size+1+1,0,none⟩) (by show w.heap.size<=w.heap.size+1+1;omega) (.int .i64 30));have hne:w.heap.size+1≠w.heap.size+1+1:=by omega
   have g1:=(Below.heap_setCell ((w5.setCell ⟨w.heap.size+1,0,none⟩ (.slice none 0 0)).setCell ⟨w.heap.size+1,1,none⟩ (.slice none 0 0)) ⟨w.heap.size+1+1,0,none⟩ (.int .i64 30) (w.heap.size+1) hne).trans g0;have y0:=au g1 0;have y1:=au g1 1;go_wp2;refine⟨.tuple #[.agg #[.slice none 0 0,.slice none 0 0],.int .i64 30],by simp at y0 y1;simp[results,Tryz.results81,go_sem,y0,y1,x0],?_⟩;refine⟨_,by rw[HCT.out],?_,M9.out⟩;rw[HCT.out];exact sE _ _
 ·have hce:aB fa fb=30:=by unfold aB;rw[if_neg hck]
  rw[hce] at HC1;have hct:dD fa fb ga gb r=(([],[]),30):=by unfold dD;rw[if_pos (by simpa using hck)]
  have HCT:=Ip hct;clear hce hck hct;go_wp2_with fail
  refine HC1.out.mono ?_;rintro e w4 ⟨rfl,hb4⟩;have hz4:=hb4.size;have r2:=(hb4.block (w.heap.size+1) (by omega)).trans q2;have r3:=(hb4.block (w.heap.size+1+1) (by omega)).trans q3;have k0:=au r2 0;have k1:=au r2 1;have f0:=aU r2 0;have f1:=aU r2 1;have x0:w4.cell? ⟨w.heap.size+1+1,0,none⟩=some (.int .i64 0):=by rw[World.cell?,r3];rfl
  have x1:w4.frozen? ⟨w.heap.size+1+1,0,none⟩=false:=by rw[World.frozen?,r3];simp
  have g0:=el r2 (.slice none 0 0) (.slice none 0 0);have M9:=Ip ((((LK M3.out hb4).setCell (p:=⟨w.heap.size+1,0,none⟩) (I1 _) (.slice none 0 0)).setCell (p:=⟨w.heap.size+1,1,none⟩) (I1 _) (.slice none 0 0)).setCell (p:=⟨w.heap.size+1+1,0,none⟩) (by show w.heap.size<=w.heap.size+1+1;omega) (.int .i64 30));have hne:w.heap.size+1≠w.heap.size+1+1:=by omega
  have g1:=(Below.heap_setCell ((w4.setCell ⟨w.heap.size+1,0,none⟩ (.slice none 0 0)).setCell ⟨w.heap.size+1,1,none⟩ (.slice none 0 0)) ⟨w.heap.size+1+1,0,none⟩ (.int .i64 30) (w.heap.size+1) hne).trans g0;have y0:=au g1 0;have y1:=au g1 1;go_wp2;refine⟨.tuple #[.agg #[.slice none 0 0,.slice none 0 0],.int .i64 30],by simp at y0 y1;simp[results,Tryz.results81,go_sem,y0,y1,x0],?_⟩;refine⟨_,by rw[HCT.out],?_,M9.out⟩;rw[HCT.out];exact sE _ _
def lW (a b:List ByteArray):(List ByteArray×List ByteArray)×Int:=dD a b a b (iq a a b)
def uK (a b:List ByteArray):(List ByteArray×List ByteArray)×Int:=dD a b a b (iq b a b)
theorem CE (w:World) (a b:List ByteArray) (v:Value) (hP:oF w v a b a b ⟨#[]⟩ 0) (hG:Gx w):Calls Tryz.prog 81 #[.func (.func 82) #[] #[],v] w (j0 (lW a b) w):=by
 refine u_ 82 v a b a b ⟨#[]⟩ 0 _ w hP ⟨cA Tryz.func82 rfl (by kernel_rfl),fun v' w' hw' hP' hc hc2=>?_⟩ hG;obtain⟨ob1,ob7,oa1,oa7,-⟩:=bv hc;exact Fc v' a b a b ⟨#[]⟩ 0 w' hP' oa1 (by omega) (by omega) (hG.below hw').g
theorem GY (w:World) (a b:List ByteArray) (v:Value) (hP:oF w v a b a b ⟨#[]⟩ 0) (hG:Gx w):Calls Tryz.prog 81 #[.func (.func 83) #[] #[],v] w (j0 (uK a b) w):=by
 refine u_ 83 v a b a b ⟨#[]⟩ 0 _ w hP ⟨cA Tryz.func83 rfl (by kernel_rfl),fun v' w' hw' hP' hc hc2=>?_⟩ hG;obtain⟨ob1,ob7,oa1,oa7,-⟩:=bv hc;exact Id v' a b a b ⟨#[]⟩ 0 w' hP' oa1 (by omega) (by omega) (hG.below hw').g
theorem EZ (v:Value) (a b:List ByteArray) (w:World) (hF:IsF w v a b) (hG:Gx w) :
  Calls Tryz.prog 41 #[v] w (j0 (lW a b) w):=by
 obtain⟨p,c,q,d,rfl,hfa,hfb⟩:=id hF.ex;go_enter Tryz.func41,Tryz.ntmps41;go_upto_region 1 with fail
 have cc:=aG w (.slice p a.length c) (.slice q b.length d);have m1:=aj w (.cells #[.slice p a.length c,.slice q b.length d] 24);have z1:=size_alloc w (.cells #[.slice p a.length c,.slice q b.length d] 24);generalize w.alloc (.cells #[.slice p a.length c,.slice q b.length d] 24)=w1 at *
 have q2:(w1.alloc (.cells #[.slice none 0 0,.slice none 0 0] 24)).heap[w1.heap.size]?=some (.cells #[.slice none 0 0,.slice none 0 0] 24 (0,0)):=heap_alloc_new w1 _;have m2:=aj w1 (.cells #[.slice none 0 0,.slice none 0 0] 24);have z2:=size_alloc w1 (.cells #[.slice none 0 0,.slice none 0 0] 24);have c0:=ag m2 (show w.heap.size<w1.heap.size by omega) cc.1;have c1:=ag m2 (show w.heap.size<w1.heap.size by omega) cc.2;generalize w1.alloc (.cells #[.slice none 0 0,.slice none 0 0] 24)=w2 at *
 rw[z1] at q2;have M2:=Ip (LK m1 m2);have hz2:w.heap.size+2=w2.heap.size:=by omega
 have hP:oF w2 (.agg #[.slice p a.length c,.slice q b.length d,.slice p a.length c,.slice q b.length d,.string ⟨#[]⟩,.int .i64 0]) a b a b ⟨#[]⟩ 0 :=
  ⟨⟨p,c,q,d,p,c,q,d,rfl,hfa.below M2.out,hfb.below M2.out,hfa.below M2.out,hfb.below M2.out⟩⟩
 have HC:=Ip (CE w2 a b _ hP (hG.below M2.out));clear m1 z1 m2 z2 cc hfa hfb hG hF hP;go_wp2_with fail
 refine HC.out.mono ?_;rintro e w3 ⟨u,rfl,hu,hb3⟩;obtain⟨r,hr⟩:∃ r,r=lW a b:=⟨_,rfl⟩;rw[show lW a b=r from hr.symm] at hu |-;obtain⟨⟨L1,L2⟩,er⟩:=r;have HR:=Ip hr;simp only at hu |-;obtain⟨p1,c1',p2,c2,rfl,g1,g2,o1,o2⟩:=hu.ex;have hn1:Value.ownBlock (.slice p1 L1.length c1')≠some (w.heap.size+1):=fun e=>by have:=o1 _ e;omega
 have hn2:Value.ownBlock (.slice p2 L2.length c2)≠some (w.heap.size+1):=fun e=>by have:=o2 _ e;omega
 have q3:=(hb3.block (w.heap.size+1) (by omega)).trans q2;have k0:=au q3 0;have k1:=au q3 1;have f0:=aU q3 0;have f1:=aU q3 1;have R1:=Ip ((g1.other hn1 0 (.slice p1 L1.length c1')).other hn1 1 (.slice p2 L2.length c2));have R2:=Ip ((g2.other hn2 0 (.slice p1 L1.length c1')).other hn2 1 (.slice p2 L2.length c2));have O1:=Ip (show ∀ g,Value.ownBlock (.slice p1 L1.length c1')=some g->w.heap.size<=g from fun g e=>by have:=o1 _ e;omega);have O2:=Ip (show ∀ g,Value.ownBlock (.slice p2 L2.length c2)=some g->w.heap.size<=g from fun g e=>by have:=o2 _ e;omega);have M7:=Ip (((LK M2.out hb3).setCell (p:=⟨w.heap.size+1,0,none⟩) (I1 _) (.slice p1 L1.length c1')).setCell (p:=⟨w.heap.size+1,1,none⟩) (I1 _) (.slice p2 L2.length c2));have g0:=el q3 (.slice p1 L1.length c1') (.slice p2 L2.length c2);have x0:=au g0 0;have x1:=au g0 1;clear hn1 hn2 g1 g2 o1 o2 q2 q3 hb3 HC hu hr;go_wp2;refine LM (v:=.tuple #[.agg #[.slice p1 L1.length c1',.slice p2 L2.length c2],.int .i64 er]) (by simp at x0 x1;simp[results,Tryz.results41,go_sem,x0,x1]) rfl ⟨_,by rw[<-HR.out],?_,M7.out⟩;rw[<-HR.out];exact⟨⟨p1,c1',p2,c2,rfl,R1.out,R2.out,O1.out,O2.out⟩⟩
theorem Hv (v:Value) (a b:List ByteArray) (w:World) (hF:IsF w v a b) (hG:Gx w) :
  Calls Tryz.prog 42 #[v] w (j0 (uK a b) w):=by
 obtain⟨p,c,q,d,rfl,hfa,hfb⟩:=id hF.ex;go_enter Tryz.func42,Tryz.ntmps42;go_upto_region 1 with fail
 have cc:=aG w (.slice p a.length c) (.slice q b.length d);have m1:=aj w (.cells #[.slice p a.length c,.slice q b.length d] 24);have z1:=size_alloc w (.cells #[.slice p a.length c,.slice q b.length d] 24);generalize w.alloc (.cells #[.slice p a.length c,.slice q b.length d] 24)=w1 at *
 have q2:(w1.alloc (.cells #[.slice none 0 0,.slice none 0 0] 24)).heap[w1.heap.size]?=some (.cells #[.slice none 0 0,.slice none 0 0] 24 (0,0)):=heap_alloc_new w1 _;have m2:=aj w1 (.cells #[.slice none 0 0,.slice none 0 0] 24);have z2:=size_alloc w1 (.cells #[.slice none 0 0,.slice none 0 0] 24);have c0:=ag m2 (show w.heap.size<w1.heap.size by omega) cc.1;have c1:=ag m2 (show w.heap.size<w1.heap.size by omega) cc.2;generalize w1.alloc (.cells #[.slice none 0 0,.slice none 0 0] 24)=w2 at *
 rw[z1] at q2;have M2:=Ip (LK m1 m2);have hz2:w.heap.size+2=w2.heap.size:=by omega
 have hP:oF w2 (.agg #[.slice p a.length c,.slice q b.length d,.slice p a.length c,.slice q b.length d,.string ⟨#[]⟩,.int .i64 0]) a b a b ⟨#[]⟩ 0 :=
  ⟨⟨p,c,q,d,p,c,q,d,rfl,hfa.below M2.out,hfb.below M2.out,hfa.below M2.out,hfb.below M2.out⟩⟩
 have HC:=Ip (GY w2 a b _ hP (hG.below M2.out));clear m1 z1 m2 z2 cc hfa hfb hG hF hP;go_wp2_with fail
 refine HC.out.mono ?_;rintro e w3 ⟨u,rfl,hu,hb3⟩;obtain⟨r,hr⟩:∃ r,r=uK a b:=⟨_,rfl⟩;rw[show uK a b=r from hr.symm] at hu |-;obtain⟨⟨L1,L2⟩,er⟩:=r;have HR:=Ip hr;simp only at hu |-;obtain⟨p1,c1',p2,c2,rfl,g1,g2,o1,o2⟩:=hu.ex;have hn1:Value.ownBlock (.slice p1 L1.length c1')≠some (w.heap.size+1):=fun e=>by have:=o1 _ e;omega
 have hn2:Value.ownBlock (.slice p2 L2.length c2)≠some (w.heap.size+1):=fun e=>by have:=o2 _ e;omega
 have q3:=(hb3.block (w.heap.size+1) (by omega)).trans q2;have k0:=au q3 0;have k1:=au q3 1;have f0:=aU q3 0;have f1:=aU q3 1;have R1:=Ip ((g1.other hn1 0 (.slice p1 L1.length c1')).other hn1 1 (.slice p2 L2.length c2));have R2:=Ip ((g2.other hn2 0 (.slice p1 L1.length c1')).other hn2 1 (.slice p2 L2.length c2));have O1:=Ip (show ∀ g,Value.ownBlock (.slice p1 L1.length c1')=some g->w.heap.size<=g from fun g e=>by have:=o1 _ e;omega);have O2:=Ip (show ∀ g,Value.ownBlock (.slice p2 L2.length c2)=some g->w.heap.size<=g from fun g e=>by have:=o2 _ e;omega);have M7:=Ip (((LK M2.out hb3).setCell (p:=⟨w.heap.size+1,0,none⟩) (I1 _) (.slice p1 L1.length c1')).setCell (p:=⟨w.heap.size+1,1,none⟩) (I1 _) (.slice p2 L2.length c2));have g0:=el q3 (.slice p1 L1.length c1') (.slice p2 L2.length c2);have x0:=au g0 0;have x1:=au g0 1;clear hn1 hn2 g1 g2 o1 o2 q2 q3 hb3 HC hu hr;go_wp2;refine LM (v:=.tuple #[.agg #[.slice p1 L1.length c1',.slice p2 L2.length c2],.int .i64 er]) (by simp at x0 x1;simp[results,Tryz.results42,go_sem,x0,x1]) rfl ⟨_,by rw[<-HR.out],?_,M7.out⟩;rw[<-HR.out];exact⟨⟨p1,c1',p2,c2,rfl,R1.out,R2.out,O1.out,O2.out⟩⟩
theorem BC (q:Rat):(eB (CQ.real q)).1.size<100000:=by
 unfold eB
 cases h:eK (CQ.real q)
 ·simp only[IW,if_false];have h1:dt (rt q)=false:=by unfold eK CQ.real at h;simp only[J2] at h;exact h.1
  have e:bX (ct (CQ.real q))=aK (rt q):=dE (z:=ct (CQ.real q)) (by show (rt 0).n=0;rw[eQ]);have hr:=qO ((wL (aK (rt q))).1.2 ⟨_,l8 q,h1,rfl⟩);unfold txt;rw[e]
  show (aK (rt q)).toArray.size<100000
  simp;omega
 ·simp only[if_true];decide
theorem ws (X:CQ->Rat) (s:ByteArray):(ofC (fun z=>CQ.real (X z)) s).1.size<100000:=by
 unfold ofC
 split
 ·exact BC _
 ·decide
theorem Hi (s:ByteArray) (w:World) (hG:Gx w) :
  Calls Tryz.prog 79 #[.string s] w fun e w'=>e=.returned (.bool (nI s))/\Below w.heap.size w w':=by
 have HG:=Ip hG;obtain⟨x,hx⟩:∃ x,x=(ofC (fun z=>CQ.real z.re) s).1:=⟨_,rfl⟩;obtain⟨d,hd⟩:∃ d,d=(ofC (fun z=>CQ.real z.re) s).2:=⟨_,rfl⟩;obtain⟨y,hy⟩:∃ y,y=(ofC (fun z=>CQ.real z.im) s).1:=⟨_,rfl⟩;obtain⟨e,he⟩:∃ e,e=(ofC (fun z=>CQ.real z.im) s).2:=⟨_,rfl⟩;have hxs:x.size<100000:=hx ▸ ws _ s;have hys:y.size<100000:=hy ▸ ws _ s;have H1:=Ip (Ij s w hG.g);have H2:=Ip (fun wx (hw:Below w.heap.size w wx)=>Ih s wx (hG.g.below hw));rw[<-hx,<-hd] at H1;rw[<-hy,<-he] at H2;have HS:=Ip (show nI s=(decide (d=0)&&decide (e=0)&&iD x.data.toList&&iD y.data.toList) by unfold nI;rw[hx,hd,hy,he]);clear hx hd hy he hG;go_enter Tryz.func79,Tryz.ntmps79;go_wp2_with fail
 refine H1.out.mono ?_;rintro r w1 ⟨rfl,hb1⟩;go_wp2_with fail
 refine (H2.out w1 hb1).mono ?_;rintro r w2 ⟨rfl,hb2⟩;have hB2:=LK hb1 hb2;clear hb1 hb2 H1 H2;by_cases h1:d=0
 ·subst h1;by_cases h2:e=0
  ·subst h2;go_wp2_with fail
   refine (yV x w2 hxs (HG.out.below hB2)).mono ?_;rintro r w3 ⟨b,rfl,hb,hb3⟩;have hB3:=LK hB2 hb3;clear hb3 hB2
   cases b
   ·have HB:=Ip hb.out;clear hb;go_wp2;go_ret;exact⟨by rw[HS.out,HB.out];simp,hB3⟩
   ·have HB:=Ip hb.out;clear hb;go_wp2_with fail
    refine (yV y w3 hys (HG.out.below hB3)).mono ?_;rintro r w4 ⟨b,rfl,hb,hb4⟩;have HB2:=Ip hb.out;clear hb;go_wp2;go_ret;exact⟨by rw[HS.out,HB.out,HB2.out];simp,LK hB3 hb4⟩
  ·have hde:decide (e=0)=false:=decide_eq_false h2;go_wp2;go_ret;exact⟨by rw[HS.out];simp[h2],hB2⟩
 ·have hdd:decide (d=0)=false:=decide_eq_false h1;go_wp2;go_ret;exact⟨by rw[HS.out];simp[h1],hB2⟩
end Go.Proofs.YtlhpcoelfhjomaaGreatDoor
