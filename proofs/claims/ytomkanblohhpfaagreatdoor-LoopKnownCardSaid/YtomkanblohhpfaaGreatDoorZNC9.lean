/- Lemmas of this claim. -/
import Derived.Test.YtomkanblohhpfaaGreatDoorZCoef
import Derived.Test.YtomkanblohhpfaaGreatDoorZLP1
import Derived.Test.YtomkanblohhpfaaGreatDoorZLP10
set_option linter.all false
set_option maxRecDepth 100000
set_option maxHeartbeats 8000000
namespace Go.Proofs.YtomkanblohhpfaaGreatDoor
open Go.RowKit Dg
structure rP (F:FuncId) (cap:Array Value) (φ:CQ→CQ) (w:World):Prop where
 en:∀ (args:Array Value) (w:World),(callFunc F args).run Tryz.prog w=.ok (.enter F args) w
 on:∀ (x:Value) (a:CQ) (w':World),Below w.heap.size w w'→IsK w' x a→Calls Tryz.prog F (#[x]++cap) w' fun e w''=>∃ v,e=.returned v∧IsV w'' v (ct (φ a))∧Below w'.heap.size w' w''
def ofC (φ:CQ→CQ) (s:ByteArray):ByteArray×Int:=match el s with | some a=>ci (φ a) | none=>(⟨#[]⟩,10)
theorem vz (F:FuncId) (cap:Array Value) (φ:CQ→CQ) (s:ByteArray) (w:World) (hG:Gw w) (hF:rP F cap φ w) :
  Calls Tryz.prog 97 #[.string s,.func (.func F) #[] cap] w fun e w'=>e=.returned (.tuple #[.string (ofC φ s).1,.int .i64 (ofC φ s).2])∧Below w.heap.size w w':=by
 have HF:=xo hF
 have EN:=hF.en
 clear hF
 go_enter Tryz.func97,Tryz.ntmps97
 go_wp2_with fail
 refine (gp s w hG).mono ?_
 rintro e w1 ⟨v,ok,rfl,hcase,hb1⟩
 rcases hcase with ⟨z,hz,rfl,hv⟩ | ⟨hz,rfl,rfl⟩
 ·obtain⟨p,rfl,hp1,hp2,-,-⟩:=fg hz
  have HP1:=xo (show ofC φ s=ci (φ p) by unfold ofC;rw[hp1])
  clear hz hp1
  have hk:IsK w1 v p:=⟨hv,hp2.mono (by decide)⟩
  obtain⟨xm,xp,xl,xc,xq,xk,xd,ym,yp,yl,yc,yq,yk,yd,rfl⟩:∃ xm xp xl xc xq xk xd ym yp yl yc yq yk yd,v=.agg #[.bool xm,.slice xp xl xc,.slice xq xk xd,.bool ym,.slice yp yl yc,.slice yq yk yd]:=by
   obtain⟨_,_,_,_,_,_,rfl,hx0,hy0⟩:=hk.v
   obtain⟨xm,xp,xl,xc,xq,xk,xd,hxe⟩:=hx0.form
   obtain⟨ym,yp,yl,yc,yq,yk,yd,hye⟩:=hy0.form
   obtain⟨rfl,rfl,rfl⟩:=cI hxe
   obtain⟨rfl,rfl,rfl⟩:=cI hye
   exact⟨_,_,_,_,_,_,_,_,_,_,_,_,_,_,rfl⟩
  go_upto_region 2 with fail
  have q1:=aV.new w1 (.bool xm) (.slice xp xl xc) (.slice xq xk xd) (.bool ym) (.slice yp yl yc) (.slice yq yk yd) 83
  have m1:=ac w1 (.cells #[.bool xm,.slice xp xl xc,.slice xq xk xd,.bool ym,.slice yp yl yc,.slice yq yk yd] 83)
  generalize w1.alloc (.cells #[.bool xm,.slice xp xl xc,.slice xq xk xd,.bool ym,.slice yp yl yc,.slice yq yk yd] 83)=w2 at *
  have a0:=q1.c0;have a1:=q1.c1;have a2:=q1.c2;have a3:=q1.c3;have a4:=q1.c4;have a5:=q1.c5
  have hB2:=hb1.trans (m1.mono hb1.size)
  have HC:=xo (HF.out.on _ _ w2 hB2 (hk.below m1))
  have HG:=xo (hG.below hB2)
  clear q1 m1 hk hv hb1 HF
  go_wp2_with fail
  refine HC.out.mono ?_
  rintro e w3 ⟨v3,rfl,hv3,hb3⟩
  have hB3:=hB2.trans (hb3.mono hB2.size)
  go_wp2_with fail
  refine (tr _ _ _ hv3 (HG.out.below hb3)).mono ?_
  rintro e w4 ⟨rfl,hb4⟩
  go_wp2
  refine bodyPost_ret (v:=.tuple #[.string (ci (φ p)).1,.int .i64 (ci (φ p)).2]) (by simp[results,Tryz.results97,go_sem]) rfl ⟨by rw[HP1.out],hB3.trans (hb4.mono hB3.size)⟩
 ·have HE:=xo (show ofC φ s=(⟨#[]⟩,10) by unfold ofC;rw[dR hz])
  clear hz
  unfold eC
  go_wp2
  refine bodyPost_ret (v:=.tuple #[.string ⟨#[]⟩,.int .i64 10]) (by simp[results,Tryz.results97,go_sem]) rfl ⟨by rw[HE.out],hb1.trans ((ac w1 _).mono hb1.size)⟩
theorem reF (w:World):rP 133 #[] (fun z=>CQ.real z.re) w:=by
 refine⟨aH Tryz.func133 rfl (by kernel_rfl),fun x z w0 hw hk=>?_⟩
 obtain⟨a,b,c,d,e,f,rfl,hax,hay⟩:=id hk.v
 show Calls _ _ #[_] _ _
 go_enter Tryz.func133,Tryz.ntmps133
 go_upto_region 1 with fail
 have q1:=aV.new w0 a b c d e f 83
 have m1:=ac w0 (.cells #[a,b,c,d,e,f] 83)
 have z1:=size_alloc w0 (.cells #[a,b,c,d,e,f] 83)
 generalize w0.alloc (.cells #[a,b,c,d,e,f] 83)=w1 at *
 have q3:=bo.new w1 (.bool false) (.slice none 0 0) (.slice none 0 0) (.bool false) (.slice none 0 0) (.slice none 0 0) (by intro z e;cases e) (by intro z e;cases e) (by intro z e;cases e) (by intro z e;cases e) (by intro z e;cases e) (by intro z e;cases e)
 have m3:=ac w1 (.cells #[.bool false,.slice none 0 0,.slice none 0 0,.bool false,.slice none 0 0,.slice none 0 0] 83)
 generalize w1.alloc (.cells #[.bool false,.slice none 0 0,.slice none 0 0,.bool false,.slice none 0 0,.slice none 0 0] 83)=w3 at *
 rw[z1] at q3
 have q1:=q1.below m3
 have a0:=q1.c0;have a1:=q1.c1;have a2:=q1.c2;have a3:=q1.c3;have a4:=q1.c4;have a5:=q1.c5
 have MD:=xo (m1.trans (m3.mono m1.size))
 have B3:=xo q3
 have HX:=xo ((hax).below MD.out)
 clear q1 q3 m1 m3 z1 hax hay hk
 go_wp2_with fail
 refine (c_ _ _ _ HX.out).mono ?_
 rintro e w4 ⟨v4,rfl,hv4,hb4⟩
 have hv4:IsV w4 v4 (ct (CQ.real z.re)):=by rw[←bS];exact hv4
 obtain⟨x1,x2,x3,y1,y2,y3,rfl,hx,hy⟩:=hv4
 obtain⟨xm,xp,xl,xc,xq,xk,xd,hxe⟩:=hx.form
 obtain⟨ym,yp,yl,yc,yq,yk,yd,hye⟩:=hy.form
 obtain⟨rfl,rfl,rfl⟩:=cI hxe
 obtain⟨rfl,rfl,rfl⟩:=cI hye
 have B8:=B3.out.below hb4
 have k0:=B8.cell 0;have k1:=B8.cell 1;have k2:=B8.cell 2;have k3:=B8.cell 3;have k4:=B8.cell 4;have k5:=B8.cell 5
 have f0:=B8.fr 0;have f1:=B8.fr 1;have f2:=B8.fr 2;have f3:=B8.fr 3;have f4:=B8.fr 4;have f5:=B8.fr 5
 have P:=xo (B8.putV hx hy)
 have M8:=xo (P.out.2.2 _ _ (MD.out.trans (hb4.mono MD.out.size)) (by omega))
 clear hx hy hxe hye B8
 go_wp2_with fail
 have q0:=P.out.1.cell 0;have q1:=P.out.1.cell 1;have q2:=P.out.1.cell 2;have q3:=P.out.1.cell 3;have q4:=P.out.1.cell 4;have q5:=P.out.1.cell 5
 refine bodyPost_ret (v:=.agg #[.bool xm,.slice xp xl xc,.slice xq xk xd,.bool ym,.slice yp yl yc,.slice yq yk yd]) (by simp[results,Tryz.results133,go_sem,cE] at q0 q1 q2 q3 q4 q5 ⊢;simp[results,Tryz.results133,go_sem,q0,q1,q2,q3,q4,q5]) rfl ⟨_,rfl,P.out.2.1,M8.out⟩
theorem imF (w:World):rP 134 #[] (fun z=>CQ.real z.im) w:=by
 refine⟨aH Tryz.func134 rfl (by kernel_rfl),fun x z w0 hw hk=>?_⟩
 obtain⟨a,b,c,d,e,f,rfl,hax,hay⟩:=id hk.v
 show Calls _ _ #[_] _ _
 go_enter Tryz.func134,Tryz.ntmps134
 go_upto_region 1 with fail
 have q1:=aV.new w0 a b c d e f 83
 have m1:=ac w0 (.cells #[a,b,c,d,e,f] 83)
 have z1:=size_alloc w0 (.cells #[a,b,c,d,e,f] 83)
 generalize w0.alloc (.cells #[a,b,c,d,e,f] 83)=w1 at *
 have q3:=bo.new w1 (.bool false) (.slice none 0 0) (.slice none 0 0) (.bool false) (.slice none 0 0) (.slice none 0 0) (by intro z e;cases e) (by intro z e;cases e) (by intro z e;cases e) (by intro z e;cases e) (by intro z e;cases e) (by intro z e;cases e)
 have m3:=ac w1 (.cells #[.bool false,.slice none 0 0,.slice none 0 0,.bool false,.slice none 0 0,.slice none 0 0] 83)
 generalize w1.alloc (.cells #[.bool false,.slice none 0 0,.slice none 0 0,.bool false,.slice none 0 0,.slice none 0 0] 83)=w3 at *
 rw[z1] at q3
 have q1:=q1.below m3
 have a0:=q1.c0;have a1:=q1.c1;have a2:=q1.c2;have a3:=q1.c3;have a4:=q1.c4;have a5:=q1.c5
 have MD:=xo (m1.trans (m3.mono m1.size))
 have B3:=xo q3
 have HX:=xo ((hay).below MD.out)
 clear q1 q3 m1 m3 z1 hax hay hk
 go_wp2_with fail
 refine (c_ _ _ _ HX.out).mono ?_
 rintro e w4 ⟨v4,rfl,hv4,hb4⟩
 have hv4:IsV w4 v4 (ct (CQ.real z.im)):=by rw[←bS];exact hv4
 obtain⟨x1,x2,x3,y1,y2,y3,rfl,hx,hy⟩:=hv4
 obtain⟨xm,xp,xl,xc,xq,xk,xd,hxe⟩:=hx.form
 obtain⟨ym,yp,yl,yc,yq,yk,yd,hye⟩:=hy.form
 obtain⟨rfl,rfl,rfl⟩:=cI hxe
 obtain⟨rfl,rfl,rfl⟩:=cI hye
 have B8:=B3.out.below hb4
 have k0:=B8.cell 0;have k1:=B8.cell 1;have k2:=B8.cell 2;have k3:=B8.cell 3;have k4:=B8.cell 4;have k5:=B8.cell 5
 have f0:=B8.fr 0;have f1:=B8.fr 1;have f2:=B8.fr 2;have f3:=B8.fr 3;have f4:=B8.fr 4;have f5:=B8.fr 5
 have P:=xo (B8.putV hx hy)
 have M8:=xo (P.out.2.2 _ _ (MD.out.trans (hb4.mono MD.out.size)) (by omega))
 clear hx hy hxe hye B8
 go_wp2_with fail
 have q0:=P.out.1.cell 0;have q1:=P.out.1.cell 1;have q2:=P.out.1.cell 2;have q3:=P.out.1.cell 3;have q4:=P.out.1.cell 4;have q5:=P.out.1.cell 5
 refine bodyPost_ret (v:=.agg #[.bool xm,.slice xp xl xc,.slice xq xk xd,.bool ym,.slice yp yl yc,.slice yq yk yd]) (by simp[results,Tryz.results134,go_sem,cE] at q0 q1 q2 q3 q4 q5 ⊢;simp[results,Tryz.results134,go_sem,q0,q1,q2,q3,q4,q5]) rfl ⟨_,rfl,P.out.2.1,M8.out⟩
theorem xf (s:ByteArray) (w:World) (hG:Gw w) :
  Calls Tryz.prog 93 #[.string s] w fun e w'=>e=.returned (.tuple #[.string (ofC (fun z=>CQ.real z.re) s).1,.int .i64 (ofC (fun z=>CQ.real z.re) s).2])∧Below w.heap.size w w':=by
 have HP:=xo (vz 133 #[] _ s w hG (reF w))
 go_enter Tryz.func93,Tryz.ntmps93
 go_wp2_with fail
 refine HP.out.mono ?_
 rintro e w2 ⟨rfl,hb2⟩
 go_wp2
 refine bodyPost_ret (v:=.tuple #[.string (ofC (fun z=>CQ.real z.re) s).1,.int .i64 (ofC (fun z=>CQ.real z.re) s).2]) (by simp[results,Tryz.results93,go_sem]) rfl ⟨rfl,hb2⟩
theorem w_ (s:ByteArray) (w:World) (hG:Gw w) :
  Calls Tryz.prog 94 #[.string s] w fun e w'=>e=.returned (.tuple #[.string (ofC (fun z=>CQ.real z.im) s).1,.int .i64 (ofC (fun z=>CQ.real z.im) s).2])∧Below w.heap.size w w':=by
 have HP:=xo (vz 134 #[] _ s w hG (imF w))
 go_enter Tryz.func94,Tryz.ntmps94
 go_wp2_with fail
 refine HP.out.mono ?_
 rintro e w2 ⟨rfl,hb2⟩
 go_wp2
 refine bodyPost_ret (v:=.tuple #[.string (ofC (fun z=>CQ.real z.im) s).1,.int .i64 (ofC (fun z=>CQ.real z.im) s).2]) (by simp[results,Tryz.results94,go_sem]) rfl ⟨rfl,hb2⟩
def iV (s:ByteArray):Bool:=decide ((ofC (fun z=>CQ.real z.re) s).2=0)&&decide ((ofC (fun z=>CQ.real z.im) s).2=0)&&fp (ofC (fun z=>CQ.real z.re) s).1.data.toList&&fp (ofC (fun z=>CQ.real z.im) s).1.data.toList
def f9 (a b:List ByteArray):(List ByteArray×List ByteArray)×Int:=aR a b a b (dY a a b)
def l_ (a b:List ByteArray):(List ByteArray×List ByteArray)×Int:=aR a b a b (dY b a b)
theorem r8 (w:World) (a b:List ByteArray) (v:Value) (hP:fB w v a b a b ⟨#[]⟩ 0) (hG:Gx w):Calls Tryz.prog 53 #[.func (.func 62) #[] #[],v] w (cS (f9 a b) w):=by
 refine ij 62 v a b a b ⟨#[]⟩ 0 _ w hP ⟨aH Tryz.func62 rfl (by kernel_rfl),fun v' w' hw' hP' hc hc2=>?_⟩ hG
 obtain⟨ob1,ob7,oa1,oa7,-⟩:=aB hc
 exact uv v' a b a b ⟨#[]⟩ 0 w' hP' oa1 (by omega) (by omega) (hG.below hw').g
theorem vY (w:World) (a b:List ByteArray) (v:Value) (hP:fB w v a b a b ⟨#[]⟩ 0) (hG:Gx w):Calls Tryz.prog 53 #[.func (.func 54) #[] #[],v] w (cS (l_ a b) w):=by
 refine ij 54 v a b a b ⟨#[]⟩ 0 _ w hP ⟨aH Tryz.func54 rfl (by kernel_rfl),fun v' w' hw' hP' hc hc2=>?_⟩ hG
 obtain⟨ob1,ob7,oa1,oa7,-⟩:=aB hc
 exact wX v' a b a b ⟨#[]⟩ 0 w' hP' oa1 (by omega) (by omega) (hG.below hw').g
theorem oQ (v:Value) (a b:List ByteArray) (w:World) (hF:IsF w v a b) (hG:Gx w) :
  Calls Tryz.prog 21 #[v] w (cS (f9 a b) w):=by
 obtain⟨p,c,q,d,rfl,hfa,hfb⟩:=id hF.ex
 go_enter Tryz.func21,Tryz.ntmps21
 go_upto_region 1 with fail
 have cc:=ar w (.slice p a.length c) (.slice q b.length d)
 have m1:=ac w (.cells #[.slice p a.length c,.slice q b.length d] 24)
 have z1:=size_alloc w (.cells #[.slice p a.length c,.slice q b.length d] 24)
 generalize w.alloc (.cells #[.slice p a.length c,.slice q b.length d] 24)=w1 at *
 have q2:(w1.alloc (.cells #[.slice none 0 0,.slice none 0 0] 24)).heap[w1.heap.size]?=some (.cells #[.slice none 0 0,.slice none 0 0] 24 (0,0)):=heap_alloc_new w1 _
 have m2:=ac w1 (.cells #[.slice none 0 0,.slice none 0 0] 24)
 have z2:=size_alloc w1 (.cells #[.slice none 0 0,.slice none 0 0] 24)
 have c0:=aa m2 (show w.heap.size<w1.heap.size by omega) cc.1
 have c1:=aa m2 (show w.heap.size<w1.heap.size by omega) cc.2
 generalize w1.alloc (.cells #[.slice none 0 0,.slice none 0 0] 24)=w2 at *
 rw[z1] at q2
 have M2:=xo (m1.trans (m2.mono m1.size))
 have hz2:w.heap.size+2=w2.heap.size:=by omega
 have hP:fB w2 (.agg #[.slice p a.length c,.slice q b.length d,.slice p a.length c,.slice q b.length d,.string ⟨#[]⟩,.int .i64 0]) a b a b ⟨#[]⟩ 0 :=
  ⟨⟨p,c,q,d,p,c,q,d,rfl,hfa.below M2.out,hfb.below M2.out,hfa.below M2.out,hfb.below M2.out⟩⟩
 have HC:=xo (r8 w2 a b _ hP (hG.below M2.out))
 clear m1 z1 m2 z2 cc hfa hfb hG hF hP
 go_wp2_with fail
 refine HC.out.mono ?_
 rintro e w3 ⟨u,rfl,hu,hb3⟩
 obtain⟨r,hr⟩:∃ r,r=f9 a b:=⟨_,rfl⟩
 rw[show f9 a b=r from hr.symm] at hu ⊢
 obtain⟨⟨L1,L2⟩,er⟩:=r
 have HR:=xo hr
 simp only at hu ⊢
 obtain⟨p1,c1',p2,c2,rfl,g1,g2,o1,o2⟩:=hu.ex
 have hn1:Value.ownBlock (.slice p1 L1.length c1')≠some (w.heap.size+1):=fun e=>by have:=o1 _ e;omega
 have hn2:Value.ownBlock (.slice p2 L2.length c2)≠some (w.heap.size+1):=fun e=>by have:=o2 _ e;omega
 have q3:=(hb3.block (w.heap.size+1) (by omega)).trans q2
 have k0:=af q3 0
 have k1:=af q3 1
 have f0:=ak q3 0
 have f1:=ak q3 1
 have R1:=xo ((g1.other hn1 0 (.slice p1 L1.length c1')).other hn1 1 (.slice p2 L2.length c2))
 have R2:=xo ((g2.other hn2 0 (.slice p1 L1.length c1')).other hn2 1 (.slice p2 L2.length c2))
 have O1:=xo (show ∀ g,Value.ownBlock (.slice p1 L1.length c1')=some g→w.heap.size≤g from fun g e=>by have:=o1 _ e;omega)
 have O2:=xo (show ∀ g,Value.ownBlock (.slice p2 L2.length c2)=some g→w.heap.size≤g from fun g e=>by have:=o2 _ e;omega)
 have M7:=xo (((M2.out.trans (hb3.mono M2.out.size)).setCell (p:=⟨w.heap.size+1,0,none⟩) (xQ _) (.slice p1 L1.length c1')).setCell (p:=⟨w.heap.size+1,1,none⟩) (xQ _) (.slice p2 L2.length c2))
 have g0:=bd q3 (.slice p1 L1.length c1') (.slice p2 L2.length c2)
 have x0:=af g0 0
 have x1:=af g0 1
 clear hn1 hn2 g1 g2 o1 o2 q2 q3 hb3 HC hu hr
 go_wp2
 refine bodyPost_ret (v:=.tuple #[.agg #[.slice p1 L1.length c1',.slice p2 L2.length c2],.int .i64 er]) (by simp at x0 x1;simp[results,Tryz.results21,go_sem,x0,x1]) rfl ⟨_,by rw[←HR.out],?_,M7.out⟩
 rw[←HR.out]
 exact⟨⟨p1,c1',p2,c2,rfl,R1.out,R2.out,O1.out,O2.out⟩⟩
theorem wM (v:Value) (a b:List ByteArray) (w:World) (hF:IsF w v a b) (hG:Gx w) :
  Calls Tryz.prog 17 #[v] w (cS (l_ a b) w):=by
 obtain⟨p,c,q,d,rfl,hfa,hfb⟩:=id hF.ex
 go_enter Tryz.func17,Tryz.ntmps17
 go_upto_region 1 with fail
 have cc:=ar w (.slice p a.length c) (.slice q b.length d)
 have m1:=ac w (.cells #[.slice p a.length c,.slice q b.length d] 24)
 have z1:=size_alloc w (.cells #[.slice p a.length c,.slice q b.length d] 24)
 generalize w.alloc (.cells #[.slice p a.length c,.slice q b.length d] 24)=w1 at *
 have q2:(w1.alloc (.cells #[.slice none 0 0,.slice none 0 0] 24)).heap[w1.heap.size]?=some (.cells #[.slice none 0 0,.slice none 0 0] 24 (0,0)):=heap_alloc_new w1 _
 have m2:=ac w1 (.cells #[.slice none 0 0,.slice none 0 0] 24)
 have z2:=size_alloc w1 (.cells #[.slice none 0 0,.slice none 0 0] 24)
 have c0:=aa m2 (show w.heap.size<w1.heap.size by omega) cc.1
 have c1:=aa m2 (show w.heap.size<w1.heap.size by omega) cc.2
 generalize w1.alloc (.cells #[.slice none 0 0,.slice none 0 0] 24)=w2 at *
 rw[z1] at q2
 have M2:=xo (m1.trans (m2.mono m1.size))
 have hz2:w.heap.size+2=w2.heap.size:=by omega
 have hP:fB w2 (.agg #[.slice p a.length c,.slice q b.length d,.slice p a.length c,.slice q b.length d,.string ⟨#[]⟩,.int .i64 0]) a b a b ⟨#[]⟩ 0 :=
  ⟨⟨p,c,q,d,p,c,q,d,rfl,hfa.below M2.out,hfb.below M2.out,hfa.below M2.out,hfb.below M2.out⟩⟩
 have HC:=xo (vY w2 a b _ hP (hG.below M2.out))
 clear m1 z1 m2 z2 cc hfa hfb hG hF hP
 go_wp2_with fail
 refine HC.out.mono ?_
 rintro e w3 ⟨u,rfl,hu,hb3⟩
 obtain⟨r,hr⟩:∃ r,r=l_ a b:=⟨_,rfl⟩
 rw[show l_ a b=r from hr.symm] at hu ⊢
 obtain⟨⟨L1,L2⟩,er⟩:=r
 have HR:=xo hr
 simp only at hu ⊢
 obtain⟨p1,c1',p2,c2,rfl,g1,g2,o1,o2⟩:=hu.ex
 have hn1:Value.ownBlock (.slice p1 L1.length c1')≠some (w.heap.size+1):=fun e=>by have:=o1 _ e;omega
 have hn2:Value.ownBlock (.slice p2 L2.length c2)≠some (w.heap.size+1):=fun e=>by have:=o2 _ e;omega
 have q3:=(hb3.block (w.heap.size+1) (by omega)).trans q2
 have k0:=af q3 0
 have k1:=af q3 1
 have f0:=ak q3 0
 have f1:=ak q3 1
 have R1:=xo ((g1.other hn1 0 (.slice p1 L1.length c1')).other hn1 1 (.slice p2 L2.length c2))
 have R2:=xo ((g2.other hn2 0 (.slice p1 L1.length c1')).other hn2 1 (.slice p2 L2.length c2))
 have O1:=xo (show ∀ g,Value.ownBlock (.slice p1 L1.length c1')=some g→w.heap.size≤g from fun g e=>by have:=o1 _ e;omega)
 have O2:=xo (show ∀ g,Value.ownBlock (.slice p2 L2.length c2)=some g→w.heap.size≤g from fun g e=>by have:=o2 _ e;omega)
 have M7:=xo (((M2.out.trans (hb3.mono M2.out.size)).setCell (p:=⟨w.heap.size+1,0,none⟩) (xQ _) (.slice p1 L1.length c1')).setCell (p:=⟨w.heap.size+1,1,none⟩) (xQ _) (.slice p2 L2.length c2))
 have g0:=bd q3 (.slice p1 L1.length c1') (.slice p2 L2.length c2)
 have x0:=af g0 0
 have x1:=af g0 1
 clear hn1 hn2 g1 g2 o1 o2 q2 q3 hb3 HC hu hr
 go_wp2
 refine bodyPost_ret (v:=.tuple #[.agg #[.slice p1 L1.length c1',.slice p2 L2.length c2],.int .i64 er]) (by simp at x0 x1;simp[results,Tryz.results17,go_sem,x0,x1]) rfl ⟨_,by rw[←HR.out],?_,M7.out⟩
 rw[←HR.out]
 exact⟨⟨p1,c1',p2,c2,rfl,R1.out,R2.out,O1.out,O2.out⟩⟩
theorem rb (q:Rat):(ci (CQ.real q)).1.size<100000:=by
 unfold ci
 cases h:dV (CQ.real q)
 ·simp only[xO,if_false]
  have h1:cw (rt q)=false:=by unfold dV CQ.real at h;simp only[yV] at h;exact h.1
  have e:de (ct (CQ.real q))=a7 (rt q):=cO (z:=ct (CQ.real q)) (by show (rt 0).n=0;rw[iz])
  have hr:=kg ((tA (a7 (rt q))).1.2 ⟨_,o9 q,h1,rfl⟩)
  unfold txt
  rw[e]
  show (a7 (rt q)).toArray.size<100000
  simp;omega
 ·simp only[if_true];decide
theorem m7 (X:CQ→Rat) (s:ByteArray):(ofC (fun z=>CQ.real (X z)) s).1.size<100000:=by
 unfold ofC
 split
 ·exact rb _
 ·decide
theorem wG (s:ByteArray) (w:World) (hG:Gx w) :
  Calls Tryz.prog 56 #[.string s] w fun e w'=>e=.returned (.bool (iV s))∧Below w.heap.size w w':=by
 have HG:=xo hG
 obtain⟨x,hx⟩:∃ x,x=(ofC (fun z=>CQ.real z.re) s).1:=⟨_,rfl⟩
 obtain⟨d,hd⟩:∃ d,d=(ofC (fun z=>CQ.real z.re) s).2:=⟨_,rfl⟩
 obtain⟨y,hy⟩:∃ y,y=(ofC (fun z=>CQ.real z.im) s).1:=⟨_,rfl⟩
 obtain⟨e,he⟩:∃ e,e=(ofC (fun z=>CQ.real z.im) s).2:=⟨_,rfl⟩
 have hxs:x.size<100000:=hx ▸ m7 _ s
 have hys:y.size<100000:=hy ▸ m7 _ s
 have H1:=xo (xf s w hG.g)
 have H2:=xo (fun wx (hw:Below w.heap.size w wx)=>w_ s wx (hG.g.below hw))
 rw[←hx,←hd] at H1
 rw[←hy,←he] at H2
 have HS:=xo (show iV s=(decide (d=0)&&decide (e=0)&&fp x.data.toList&&fp y.data.toList) by unfold iV;rw[hx,hd,hy,he])
 clear hx hd hy he hG
 go_enter Tryz.func56,Tryz.ntmps56
 go_wp2_with fail
 refine H1.out.mono ?_
 rintro r w1 ⟨rfl,hb1⟩
 go_wp2_with fail
 refine (H2.out w1 hb1).mono ?_
 rintro r w2 ⟨rfl,hb2⟩
 have hB2:=hb1.trans (hb2.mono hb1.size)
 clear hb1 hb2 H1 H2
 by_cases h1:d=0
 ·subst h1
  by_cases h2:e=0
  ·subst h2
   go_wp2_with fail
   refine (oI x w2 hxs (HG.out.below hB2)).mono ?_
   rintro r w3 ⟨b,rfl,hb,hb3⟩
   have hB3:=hB2.trans (hb3.mono hB2.size)
   clear hb3 hB2
   cases b
   ·have HB:=xo hb.out
    clear hb
    go_wp2
    go_ret
    exact⟨by rw[HS.out,HB.out];simp,hB3⟩
   ·have HB:=xo hb.out
    clear hb
    go_wp2_with fail
    refine (oI y w3 hys (HG.out.below hB3)).mono ?_
    rintro r w4 ⟨b,rfl,hb,hb4⟩
    have HB2:=xo hb.out
    clear hb
    go_wp2
    go_ret
    exact⟨by rw[HS.out,HB.out,HB2.out];simp,hB3.trans (hb4.mono hB3.size)⟩
  ·have hde:decide (e=0)=false:=decide_eq_false h2
   go_wp2
   go_ret
   exact⟨by rw[HS.out];simp[h2],hB2⟩
 ·have hdd:decide (d=0)=false:=decide_eq_false h1
  go_wp2
  go_ret
  exact⟨by rw[HS.out];simp[h1],hB2⟩
end Go.Proofs.YtomkanblohhpfaaGreatDoor
