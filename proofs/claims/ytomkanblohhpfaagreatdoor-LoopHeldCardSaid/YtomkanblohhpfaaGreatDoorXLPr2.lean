/- Lemmas of this claim. -/
import Derived.Test.YtomkanblohhpfaaGreatDoorXLP13
import Derived.Test.YtomkanblohhpfaaGreatDoorXPD1
import Derived.Test.YtomkanblohhpfaaGreatDoorXLH1
set_option linter.all false
set_option maxRecDepth 100000
set_option maxHeartbeats 8000000
namespace Go.Proofs.YtomkanblohhpfaaGreatDoor
open Go.RowKit Dg
def ng (fa fb ga gb:List ByteArray):Except Int (List ByteArray×List ByteArray):=.ok (b9 fa ga,b9 fb gb)
def jx (fa fb ga gb:List ByteArray):Except Int (List ByteArray×List ByteArray):=.ok (cH (b9 fa gb) (b9 ga fb),b9 fb gb)
theorem mc (a b:List ByteArray):(b9 a b).length=a.length+b.length-1:=ii a b _
theorem ou (v:Value) (fa fb ga gb:List ByteArray) (k:ByteArray) (n:Int) (w:World) (hP:gj w v fa fb ga gb k n) (h0:0<fa.length) (h1:0<fb.length) (h2:0<ga.length) (h3:0<gb.length) (k0':fa.length<100) (k1':fb.length<100) (k2':ga.length<100) (k3':gb.length<100) (hG:Gx w) :
  Calls Tryz.prog 55 #[v] w (fj (ng fa fb ga gb) w):=by
 obtain⟨p,c,q,d,p',c',q',d',rfl,hfa,hfb,hga,hgb⟩:=id hP.ex
 go_enter Tryz.func55,Tryz.ntmps55
 go_upto_region 1 with fail
 have m1:=ae w (.cells #[.slice p fa.length c,.slice q fb.length d,.slice p' ga.length c',.slice q' gb.length d',.string k,.int .i64 n] 91)
 have z1:=size_alloc w (.cells #[.slice p fa.length c,.slice q fb.length d,.slice p' ga.length c',.slice q' gb.length d',.string k,.int .i64 n] 91)
 have a0:=fun j u h=>ar w #[.slice p fa.length c,.slice q fb.length d,.slice p' ga.length c',.slice q' gb.length d',.string k,.int .i64 n] 91 j u h
 generalize w.alloc (.cells #[.slice p fa.length c,.slice q fb.length d,.slice p' ga.length c',.slice q' gb.length d',.string k,.int .i64 n] 91)=w1 at *
 have q2:(w1.alloc (.cells #[.slice none 0 0,.slice none 0 0] 24)).heap[w1.heap.size]?=some (.cells #[.slice none 0 0,.slice none 0 0] 24 (0,0)):=heap_alloc_new w1 _
 have m2:=ae w1 (.cells #[.slice none 0 0,.slice none 0 0] 24)
 have z2:=size_alloc w1 (.cells #[.slice none 0 0,.slice none 0 0] 24)
 have hlt:w.heap.size<w1.heap.size:=by omega
 have b0:=aa m2 hlt (a0 0 _ rfl)
 have b1:=aa m2 hlt (a0 1 _ rfl)
 have b2:=aa m2 hlt (a0 2 _ rfl)
 have b3:=aa m2 hlt (a0 3 _ rfl)
 generalize w1.alloc (.cells #[.slice none 0 0,.slice none 0 0] 24)=w2 at *
 rw[z1] at q2
 have M2:=yX (m1.trans (m2.mono m1.size))
 have HZ2:=yX (show w.heap.size+2=w2.heap.size by omega)
 have hl2:w.heap.size<w2.heap.size:=by omega
 have HQ2:=yX q2
 have HFA:=yX (hfa.below M2.out)
 have HFB:=yX (hfb.below M2.out)
 have HGA:=yX (hga.below M2.out)
 have HGB:=yX (hgb.below M2.out)
 have HG:=yX (hG.below M2.out).g
 clear m1 z1 a0 m2 z2 hfa hfb hga hgb hP hG hlt q2
 have HR:=yX (show ng fa fb ga gb=.ok (b9 fa ga,b9 fb gb) from rfl)
 have hbd:Below w2.heap.size w2 w2.drew:=(Below.refl _ _).drew
 refine ak (fun w'=>∃ x:Off (w.heap.size+1) w2,w'=x.w) (fun j=>j == 6||j == 13||j == 15) (by kernel_rfl) (by kernel_rfl) (Off.below hbd) ?_
 have c0:=fun x:Off (w.heap.size+1) w2=>x.cell hl2 (by omega) b0
 have c1:=fun x:Off (w.heap.size+1) w2=>x.cell hl2 (by omega) b1
 have c2:=fun x:Off (w.heap.size+1) w2=>x.cell hl2 (by omega) b2
 have c3:=fun x:Off (w.heap.size+1) w2=>x.cell hl2 (by omega) b3
 clear b0 b1 b2 b3
 generalize w2.drew=wd at *
 have HC1:=yX (gO _ _ fa ga wd (HFA.out.below hbd) (HGA.out.below hbd) h0 h2 (by omega) (by omega) (HG.out.below hbd))
 refine af 6 0 _ _ _ (by kernel_rfl) ?_
 simp only[zb,ze,za,zd]
 repeat (go_big_quiet_step (fail))
 refine wpQuiet_nil ?_
 refine ag rfl rfl (fun K hK=>?_)
 go_simp
 refine HC1.out.mono ?_
 rintro e w4 ⟨u1,rfl,hu1,hb4⟩
 have hB4:=hbd.trans (hb4.mono hbd.size)
 refine hK _ _ (Off.below hB4) ?_
 clear hK K HC1
 try simp only[Act.put,y6,y5,yZ,yY,y7,y8]
 have HC2:=yX (gO _ _ fb gb w4 (HFB.out.below hB4) (HGB.out.below hB4) h1 h3 (by omega) (by omega) (HG.out.below hB4))
 have hu1b:bj w4 w2.heap.size u1 (b9 fa ga):=hu1.lowerS hbd.size
 obtain⟨L1,hL1⟩:∃ L,L=b9 fa ga:=⟨_,rfl⟩
 obtain⟨L2,hL2⟩:∃ L,L=b9 fb gb:=⟨_,rfl⟩
 rw[←hL1] at hu1b
 rw[←hL1,←hL2] at HR
 rw[←hL2] at HC2
 clear hb4 hbd hu1 hL1 hL2
 refine af 6 7 _ _ _ (by kernel_rfl) ?_
 simp only[zb,ze,za,zd]
 repeat (go_big_quiet_step (fail))
 refine wpQuiet_nil ?_
 refine ag rfl rfl (fun K hK=>?_)
 go_simp
 refine HC2.out.mono ?_
 rintro e w6 ⟨u2,rfl,hu2,hb6⟩
 have hB6:=hB4.trans (hb6.mono hB4.size)
 refine hK _ _ (Off.below hB6) ?_
 clear hK K
 try simp only[Act.put,y6,y5,yZ,yY,y7,y8]
 have hk1:bj w6 w2.heap.size u1 L1:=hu1b.below hb6
 have hs2:=HZ2.out
 have hs4:=hB4.size
 obtain⟨p1,c1',rfl,-⟩:=id hk1.isS.form
 obtain⟨p2,c2',rfl,-⟩:=id hu2.isS.form
 have hn1:Value.ownBlock (.slice p1 L1.length c1')≠some (w.heap.size+1):=fun e=>by have:=(World.ownsRow.lt hk1 _ e).1;omega
 have hn2:Value.ownBlock (.slice p2 L2.length c2')≠some (w.heap.size+1):=fun e=>by have:=(World.ownsRow.lt hu2 _ e).1;omega
 have O1:=yX (show ∀ g,Value.ownBlock (.slice p1 L1.length c1')=some g→w.heap.size≤g from fun g e=>by have:=(World.ownsRow.lt hk1 _ e).1;omega)
 have O2:=yX (show ∀ g,Value.ownBlock (.slice p2 L2.length c2')=some g→w.heap.size≤g from fun g e=>by have:=(World.ownsRow.lt hu2 _ e).1;omega)
 have q7:=(hB6.block (w.heap.size+1) (by omega)).trans HQ2.out
 have k0:=ah q7 0
 have k1:=ah q7 1
 have f0:=av q7 0
 have f1:=av q7 1
 have R1:=yX ((hk1.isS.other hn1 0 (.slice p1 L1.length c1')).other hn1 1 (.slice p2 L2.length c2'))
 have R2:=yX ((hu2.isS.other hn2 0 (.slice p1 L1.length c1')).other hn2 1 (.slice p2 L2.length c2'))
 have M7:=yX (((M2.out.trans (hB6.mono M2.out.size)).setCell (p:=⟨w.heap.size+1,0,none⟩) (zP _) (.slice p1 L1.length c1')).setCell (p:=⟨w.heap.size+1,1,none⟩) (zP _) (.slice p2 L2.length c2'))
 have hOff:=Off.set (g:=w.heap.size+1) (Off.set (g:=w.heap.size+1) (Off.below hB6) 0 (.slice p1 L1.length c1')) 1 (.slice p2 L2.length c2')
 have g0:=bv q7 (.slice p1 L1.length c1') (.slice p2 L2.length c2')
 clear hn1 hn2 hk1 hu2 q7 hB6 hb6 hu1b hB4 hs2 hs4
 refine af 1 14 _ _ _ (by kernel_rfl) ?_
 simp only[zb,ze,za,zd]
 repeat (go_big_quiet_step (fail))
 refine wpQuiet_nil ?_
 refine ag rfl rfl (fun K hK=>?_)
 go_simp
 refine hK undef _ hOff ?_
 clear hK K
 try simp only[Act.put,y6,y5,yZ,yY,y7,y8]
 refine aw ?_
 have x0:=ah g0 0
 have x1:=ah g0 1
 go_wp2_with fail
 refine bodyPost_ret (v:=.agg #[.slice p1 L1.length c1',.slice p2 L2.length c2']) (by simp at x0 x1;simp[results,Tryz.results55,go_sem,x0,x1]) rfl ⟨M7.out,?_⟩
 rw[HR.out]
 exact⟨_,rfl,⟨p1,c1',p2,c2',rfl,R1.out,R2.out,O1.out,O2.out⟩⟩
theorem lC (v:Value) (fa fb ga gb:List ByteArray) (k:ByteArray) (n:Int) (w:World) (hP:gj w v fa fb ga gb k n) (h0:0<fa.length) (h1:0<fb.length) (h2:0<ga.length) (h3:0<gb.length) (k0':fa.length<100) (k1':fb.length<100) (k2':ga.length<100) (k3':gb.length<100) (hG:Gx w) :
  Calls Tryz.prog 73 #[v] w (fj (jx fa fb ga gb) w):=by
 obtain⟨p,c,q,d,p',c',q',d',rfl,hfa,hfb,hga,hgb⟩:=id hP.ex
 go_enter Tryz.func73,Tryz.ntmps73
 go_upto_region 1 with fail
 have m1:=ae w (.cells #[.slice p fa.length c,.slice q fb.length d,.slice p' ga.length c',.slice q' gb.length d',.string k,.int .i64 n] 91)
 have z1:=size_alloc w (.cells #[.slice p fa.length c,.slice q fb.length d,.slice p' ga.length c',.slice q' gb.length d',.string k,.int .i64 n] 91)
 have a0:=fun j u h=>ar w #[.slice p fa.length c,.slice q fb.length d,.slice p' ga.length c',.slice q' gb.length d',.string k,.int .i64 n] 91 j u h
 generalize w.alloc (.cells #[.slice p fa.length c,.slice q fb.length d,.slice p' ga.length c',.slice q' gb.length d',.string k,.int .i64 n] 91)=w1 at *
 have q2:(w1.alloc (.cells #[.slice none 0 0,.slice none 0 0] 24)).heap[w1.heap.size]?=some (.cells #[.slice none 0 0,.slice none 0 0] 24 (0,0)):=heap_alloc_new w1 _
 have m2:=ae w1 (.cells #[.slice none 0 0,.slice none 0 0] 24)
 have z2:=size_alloc w1 (.cells #[.slice none 0 0,.slice none 0 0] 24)
 have hlt:w.heap.size<w1.heap.size:=by omega
 have b0:=aa m2 hlt (a0 0 _ rfl)
 have b1:=aa m2 hlt (a0 1 _ rfl)
 have b2:=aa m2 hlt (a0 2 _ rfl)
 have b3:=aa m2 hlt (a0 3 _ rfl)
 generalize w1.alloc (.cells #[.slice none 0 0,.slice none 0 0] 24)=w2 at *
 rw[z1] at q2
 have M2:=yX (m1.trans (m2.mono m1.size))
 have HZ2:=yX (show w.heap.size+2=w2.heap.size by omega)
 have hl2:w.heap.size<w2.heap.size:=by omega
 have HQ2:=yX q2
 have HFA:=yX (hfa.below M2.out)
 have HFB:=yX (hfb.below M2.out)
 have HGA:=yX (hga.below M2.out)
 have HGB:=yX (hgb.below M2.out)
 have HG:=yX (hG.below M2.out).g
 clear m1 z1 a0 m2 z2 hfa hfb hga hgb hP hG hlt q2
 have HR:=yX (show jx fa fb ga gb=.ok (cH (b9 fa gb) (b9 ga fb),b9 fb gb) from rfl)
 have hbd:Below w2.heap.size w2 w2.drew:=(Below.refl _ _).drew
 refine ak (fun w'=>∃ x:Off (w.heap.size+1) w2,w'=x.w) (fun j=>j == 6||j == 13) (by kernel_rfl) (by kernel_rfl) (Off.below hbd) ?_
 have c0:=fun x:Off (w.heap.size+1) w2=>x.cell hl2 (by omega) b0
 have c1:=fun x:Off (w.heap.size+1) w2=>x.cell hl2 (by omega) b1
 have c2:=fun x:Off (w.heap.size+1) w2=>x.cell hl2 (by omega) b2
 have c3:=fun x:Off (w.heap.size+1) w2=>x.cell hl2 (by omega) b3
 clear b0 b1 b2 b3
 generalize w2.drew=wd at *
 have HC1:=yX (gO _ _ fa gb wd (HFA.out.below hbd) (HGB.out.below hbd) h0 h3 (by omega) (by omega) (HG.out.below hbd))
 refine af 6 0 _ _ _ (by kernel_rfl) ?_
 simp only[zb,ze,za,zd]
 repeat (go_big_quiet_step (fail))
 refine wpQuiet_nil ?_
 refine ag rfl rfl (fun K hK=>?_)
 go_simp
 refine HC1.out.mono ?_
 rintro e w4 ⟨u1,rfl,hu1,hb4⟩
 have hB4:=hbd.trans (hb4.mono hbd.size)
 refine hK _ _ (Off.below hB4) ?_
 clear hK K HC1
 try simp only[Act.put,y6,y5,yZ,yY,y7,y8]
 have HC2:=yX (gO _ _ ga fb w4 (HGA.out.below hB4) (HFB.out.below hB4) h2 h1 (by omega) (by omega) (HG.out.below hB4))
 clear hbd
 refine af 6 7 _ _ _ (by kernel_rfl) ?_
 simp only[zb,ze,za,zd]
 repeat (go_big_quiet_step (fail))
 refine wpQuiet_nil ?_
 refine ag rfl rfl (fun K hK=>?_)
 go_simp
 refine HC2.out.mono ?_
 rintro e w6 ⟨u2,rfl,hu2,hb6⟩
 have hB6:=hB4.trans (hb6.mono hB4.size)
 refine hK _ _ (Off.below hB6) ?_
 clear hK K HC2
 try simp only[Act.put,y6,y5,yZ,yY,y7,y8]
 have hu1b:=hu1.below hb6
 clear hu1 hb4 hb6 hB4
 refine af 2 14 _ _ _ (by kernel_rfl) ?_
 simp only[zb,ze,za,zd]
 repeat (go_big_quiet_step (fail))
 refine wpQuiet_nil ?_
 refine aw ?_
 obtain⟨L3,hL3⟩:∃ L,L=b9 fa gb:=⟨_,rfl⟩
 obtain⟨L4,hL4⟩:∃ L,L=b9 ga fb:=⟨_,rfl⟩
 have l3:L3.length<1000:=by rw[hL3,mc];omega
 have l4:L4.length<1000:=by rw[hL4,mc];omega
 rw[←hL3] at hu1b
 rw[←hL4] at hu2
 rw[←hL3,←hL4] at HR
 have HU1:=yX hu1b.isS
 have HU2:=yX hu2.isS
 clear hL3 hL4 hu1b hu2
 go_upto_region 2 with fail
 have hbd:=hB6.drew
 have hd6:Below w6.heap.size w6 w6.drew:=(Below.refl _ _).drew
 refine ak (fun w'=>∃ x:Off (w.heap.size+1) w2,w'=x.w) (fun j=>j == 2||j == 9||j == 11) (by kernel_rfl) (by kernel_rfl) (Off.below hbd) ?_
 have HC1:=yX (yB _ _ L3 L4 w6.drew (HU1.out.below hd6) (HU2.out.below hd6) (by omega) (by omega) (HG.out.below hbd))
 clear HU1 HU2 hB6 hd6 l3 l4
 generalize w6.drew=wd2 at *
 refine af 2 0 _ _ _ (by kernel_rfl) ?_
 simp only[zb,ze,za,zd]
 repeat (go_big_quiet_step (fail))
 refine wpQuiet_nil ?_
 refine ag rfl rfl (fun K hK=>?_)
 go_simp
 refine HC1.out.mono ?_
 rintro e w7 ⟨u3,rfl,hu3,hb7⟩
 have hB4:=hbd.trans (hb7.mono hbd.size)
 refine hK _ _ (Off.below hB4) ?_
 clear hK K HC1
 try simp only[Act.put,y6,y5,yZ,yY,y7,y8]
 have HC2:=yX (gO _ _ fb gb w7 (HFB.out.below hB4) (HGB.out.below hB4) h1 h3 (by omega) (by omega) (HG.out.below hB4))
 have hu1b:bj w7 w2.heap.size u3 (cH L3 L4):=hu3.lowerS hbd.size
 obtain⟨L1,hL1⟩:∃ L,L=cH L3 L4:=⟨_,rfl⟩
 obtain⟨L2,hL2⟩:∃ L,L=b9 fb gb:=⟨_,rfl⟩
 rw[←hL1] at hu1b
 rw[←hL1,←hL2] at HR
 rw[←hL2] at HC2
 clear hb7 hbd hu3 hL1 hL2
 refine af 6 3 _ _ _ (by kernel_rfl) ?_
 simp only[zb,ze,za,zd]
 repeat (go_big_quiet_step (fail))
 refine wpQuiet_nil ?_
 refine ag rfl rfl (fun K hK=>?_)
 go_simp
 refine HC2.out.mono ?_
 rintro e w6 ⟨u2,rfl,hu2,hb6⟩
 have hB6:=hB4.trans (hb6.mono hB4.size)
 refine hK _ _ (Off.below hB6) ?_
 clear hK K
 try simp only[Act.put,y6,y5,yZ,yY,y7,y8]
 have hk1:bj w6 w2.heap.size u3 L1:=hu1b.below hb6
 have hs2:=HZ2.out
 have hs4:=hB4.size
 obtain⟨p1,c1',rfl,-⟩:=id hk1.isS.form
 obtain⟨p2,c2',rfl,-⟩:=id hu2.isS.form
 have hn1:Value.ownBlock (.slice p1 L1.length c1')≠some (w.heap.size+1):=fun e=>by have:=(World.ownsRow.lt hk1 _ e).1;omega
 have hn2:Value.ownBlock (.slice p2 L2.length c2')≠some (w.heap.size+1):=fun e=>by have:=(World.ownsRow.lt hu2 _ e).1;omega
 have O1:=yX (show ∀ g,Value.ownBlock (.slice p1 L1.length c1')=some g→w.heap.size≤g from fun g e=>by have:=(World.ownsRow.lt hk1 _ e).1;omega)
 have O2:=yX (show ∀ g,Value.ownBlock (.slice p2 L2.length c2')=some g→w.heap.size≤g from fun g e=>by have:=(World.ownsRow.lt hu2 _ e).1;omega)
 have q7:=(hB6.block (w.heap.size+1) (by omega)).trans HQ2.out
 have k0:=ah q7 0
 have k1:=ah q7 1
 have f0:=av q7 0
 have f1:=av q7 1
 have R1:=yX ((hk1.isS.other hn1 0 (.slice p1 L1.length c1')).other hn1 1 (.slice p2 L2.length c2'))
 have R2:=yX ((hu2.isS.other hn2 0 (.slice p1 L1.length c1')).other hn2 1 (.slice p2 L2.length c2'))
 have M7:=yX (((M2.out.trans (hB6.mono M2.out.size)).setCell (p:=⟨w.heap.size+1,0,none⟩) (zP _) (.slice p1 L1.length c1')).setCell (p:=⟨w.heap.size+1,1,none⟩) (zP _) (.slice p2 L2.length c2'))
 have hOff:=Off.set (g:=w.heap.size+1) (Off.set (g:=w.heap.size+1) (Off.below hB6) 0 (.slice p1 L1.length c1')) 1 (.slice p2 L2.length c2')
 have g0:=bv q7 (.slice p1 L1.length c1') (.slice p2 L2.length c2')
 clear hn1 hn2 hk1 hu2 q7 hB6 hb6 hu1b hB4 hs2 hs4
 refine af 1 10 _ _ _ (by kernel_rfl) ?_
 simp only[zb,ze,za,zd]
 repeat (go_big_quiet_step (fail))
 refine wpQuiet_nil ?_
 refine ag rfl rfl (fun K hK=>?_)
 go_simp
 refine hK undef _ hOff ?_
 clear hK K
 try simp only[Act.put,y6,y5,yZ,yY,y7,y8]
 refine aw ?_
 have x0:=ah g0 0
 have x1:=ah g0 1
 go_wp2_with fail
 refine bodyPost_ret (v:=.agg #[.slice p1 L1.length c1',.slice p2 L2.length c2']) (by simp at x0 x1;simp[results,Tryz.results73,go_sem,x0,x1]) rfl ⟨M7.out,?_⟩
 rw[HR.out]
 exact⟨_,rfl,⟨p1,c1',p2,c2',rfl,R1.out,R2.out,O1.out,O2.out⟩⟩
def di (a b a' b':List ByteArray):(List ByteArray×List ByteArray)×Int:=aE a b a' b' (ng a b a' b')
theorem vC (w:World) (a b a' b':List ByteArray) (v:Value) (hP:gj w v a b a' b' ⟨#[]⟩ 0) (hG:Gx w):Calls Tryz.prog 53 #[.func (.func 55) #[] #[],v] w (dh (di a b a' b') w):=by
 refine iT 55 v a b a' b' ⟨#[]⟩ 0 _ w hP ⟨aJ Tryz.func55 rfl (by kernel_rfl),fun u w' hw' hP' hc hc2=>?_⟩ hG
 obtain⟨ob1,ob7,oa1,oa7,-⟩:=aC hc
 obtain⟨pb1,pb7,pa1,pa7,-⟩:=aC hc2
 exact ou u a b a' b' ⟨#[]⟩ 0 w' hP' (by omega) (by omega) (by omega) (by omega) (by omega) (by omega) (by omega) (by omega) (hG.below hw')
theorem wB (v v':Value) (a b a' b':List ByteArray) (w:World) (hF:IsF w v a b) (hF':IsF w v' a' b') (hG:Gx w) :
  Calls Tryz.prog 18 #[v,v'] w (dh (di a b a' b') w):=by
 obtain⟨p,c,q,d,rfl,hfa,hfb⟩:=id hF.ex
 obtain⟨p',c',q',d',rfl,hga,hgb⟩:=id hF'.ex
 go_enter Tryz.func18,Tryz.ntmps18
 go_upto_region 1 with fail
 have cc:=am w (.slice p a.length c) (.slice q b.length d)
 have m1:=ae w (.cells #[.slice p a.length c,.slice q b.length d] 24)
 have z1:=size_alloc w (.cells #[.slice p a.length c,.slice q b.length d] 24)
 generalize w.alloc (.cells #[.slice p a.length c,.slice q b.length d] 24)=w1 at *
 have cc':=am w1 (.slice p' a'.length c') (.slice q' b'.length d')
 have m1':=ae w1 (.cells #[.slice p' a'.length c',.slice q' b'.length d'] 24)
 have z1':=size_alloc w1 (.cells #[.slice p' a'.length c',.slice q' b'.length d'] 24)
 have e0:=aa m1' (show w.heap.size<w1.heap.size by omega) cc.1
 have e1:=aa m1' (show w.heap.size<w1.heap.size by omega) cc.2
 generalize w1.alloc (.cells #[.slice p' a'.length c',.slice q' b'.length d'] 24)=w1' at *
 have q2:(w1'.alloc (.cells #[.slice none 0 0,.slice none 0 0] 24)).heap[w1'.heap.size]?=some (.cells #[.slice none 0 0,.slice none 0 0] 24 (0,0)):=heap_alloc_new w1' _
 have m2:=ae w1' (.cells #[.slice none 0 0,.slice none 0 0] 24)
 have z2:=size_alloc w1' (.cells #[.slice none 0 0,.slice none 0 0] 24)
 have c0:=aa m2 (show w.heap.size<w1'.heap.size by omega) e0
 have c1:=aa m2 (show w.heap.size<w1'.heap.size by omega) e1
 have c2:=aa m2 (show w1.heap.size<w1'.heap.size by omega) cc'.1
 have c3:=aa m2 (show w1.heap.size<w1'.heap.size by omega) cc'.2
 generalize w1'.alloc (.cells #[.slice none 0 0,.slice none 0 0] 24)=w2 at *
 rw[z1',z1] at q2
 rw[z1] at c2 c3
 have mm:=m1.trans (m1'.mono m1.size)
 have M2:=yX (mm.trans (m2.mono mm.size))
 have hz2:w.heap.size+3=w2.heap.size:=by omega
 have hP:gj w2 (.agg #[.slice p a.length c,.slice q b.length d,.slice p' a'.length c',.slice q' b'.length d',.string ⟨#[]⟩,.int .i64 0]) a b a' b' ⟨#[]⟩ 0 :=
  ⟨⟨p,c,q,d,p',c',q',d',rfl,hfa.below M2.out,hfb.below M2.out,hga.below M2.out,hgb.below M2.out⟩⟩
 have HC:=yX (vC w2 a b a' b' _ hP (hG.below M2.out))
 clear m1 z1 m1' z1' m2 z2 mm cc cc' e0 e1 hfa hfb hga hgb hG hF hF' hP
 go_wp2_with fail
 refine HC.out.mono ?_
 rintro e w3 ⟨u,rfl,hu,hb3⟩
 obtain⟨r,hr⟩:∃ r,r=di a b a' b':=⟨_,rfl⟩
 rw[show di a b a' b'=r from hr.symm] at hu ⊢
 obtain⟨⟨L1,L2⟩,er⟩:=r
 have HR:=yX hr
 simp only at hu ⊢
 obtain⟨p1,e1,p2,e2,rfl,g1,g2,o1,o2⟩:=hu.ex
 have hn1:Value.ownBlock (.slice p1 L1.length e1)≠some (w.heap.size+2):=fun e=>by have:=o1 _ e;omega
 have hn2:Value.ownBlock (.slice p2 L2.length e2)≠some (w.heap.size+2):=fun e=>by have:=o2 _ e;omega
 have q3:=(hb3.block (w.heap.size+2) (by omega)).trans q2
 have k0:=ah q3 0
 have k1:=ah q3 1
 have f0:=av q3 0
 have f1:=av q3 1
 have R1:=yX ((g1.other hn1 0 (.slice p1 L1.length e1)).other hn1 1 (.slice p2 L2.length e2))
 have R2:=yX ((g2.other hn2 0 (.slice p1 L1.length e1)).other hn2 1 (.slice p2 L2.length e2))
 have O1:=yX (show ∀ g,Value.ownBlock (.slice p1 L1.length e1)=some g→w.heap.size≤g from fun g e=>by have:=o1 _ e;omega)
 have O2:=yX (show ∀ g,Value.ownBlock (.slice p2 L2.length e2)=some g→w.heap.size≤g from fun g e=>by have:=o2 _ e;omega)
 have M7:=yX (((M2.out.trans (hb3.mono M2.out.size)).setCell (p:=⟨w.heap.size+2,0,none⟩) (by show w.heap.size≤w.heap.size+2;omega) (.slice p1 L1.length e1)).setCell (p:=⟨w.heap.size+2,1,none⟩) (by show w.heap.size≤w.heap.size+2;omega) (.slice p2 L2.length e2))
 have g0:=bv q3 (.slice p1 L1.length e1) (.slice p2 L2.length e2)
 have x0:=ah g0 0
 have x1:=ah g0 1
 clear hn1 hn2 g1 g2 o1 o2 q2 q3 hb3 HC hu hr
 go_wp2
 refine bodyPost_ret (v:=.tuple #[.agg #[.slice p1 L1.length e1,.slice p2 L2.length e2],.int .i64 er]) (by simp at x0 x1;simp[results,Tryz.results18,go_sem,x0,x1]) rfl ⟨_,by rw[←HR.out],?_,M7.out⟩
 rw[←HR.out]
 exact⟨⟨p1,e1,p2,e2,rfl,R1.out,R2.out,O1.out,O2.out⟩⟩
def cD (a b a' b':List ByteArray):(List ByteArray×List ByteArray)×Int:=aE a b a' b' (jx a b a' b')
theorem pR (w:World) (a b a' b':List ByteArray) (v:Value) (hP:gj w v a b a' b' ⟨#[]⟩ 0) (hG:Gx w):Calls Tryz.prog 53 #[.func (.func 73) #[] #[],v] w (dh (cD a b a' b') w):=by
 refine iT 73 v a b a' b' ⟨#[]⟩ 0 _ w hP ⟨aJ Tryz.func73 rfl (by kernel_rfl),fun u w' hw' hP' hc hc2=>?_⟩ hG
 obtain⟨ob1,ob7,oa1,oa7,-⟩:=aC hc
 obtain⟨pb1,pb7,pa1,pa7,-⟩:=aC hc2
 exact lC u a b a' b' ⟨#[]⟩ 0 w' hP' (by omega) (by omega) (by omega) (by omega) (by omega) (by omega) (by omega) (by omega) (hG.below hw')
theorem rQ (v v':Value) (a b a' b':List ByteArray) (w:World) (hF:IsF w v a b) (hF':IsF w v' a' b') (hG:Gx w) :
  Calls Tryz.prog 32 #[v,v'] w (dh (cD a b a' b') w):=by
 obtain⟨p,c,q,d,rfl,hfa,hfb⟩:=id hF.ex
 obtain⟨p',c',q',d',rfl,hga,hgb⟩:=id hF'.ex
 go_enter Tryz.func32,Tryz.ntmps32
 go_upto_region 1 with fail
 have cc:=am w (.slice p a.length c) (.slice q b.length d)
 have m1:=ae w (.cells #[.slice p a.length c,.slice q b.length d] 24)
 have z1:=size_alloc w (.cells #[.slice p a.length c,.slice q b.length d] 24)
 generalize w.alloc (.cells #[.slice p a.length c,.slice q b.length d] 24)=w1 at *
 have cc':=am w1 (.slice p' a'.length c') (.slice q' b'.length d')
 have m1':=ae w1 (.cells #[.slice p' a'.length c',.slice q' b'.length d'] 24)
 have z1':=size_alloc w1 (.cells #[.slice p' a'.length c',.slice q' b'.length d'] 24)
 have e0:=aa m1' (show w.heap.size<w1.heap.size by omega) cc.1
 have e1:=aa m1' (show w.heap.size<w1.heap.size by omega) cc.2
 generalize w1.alloc (.cells #[.slice p' a'.length c',.slice q' b'.length d'] 24)=w1' at *
 have q2:(w1'.alloc (.cells #[.slice none 0 0,.slice none 0 0] 24)).heap[w1'.heap.size]?=some (.cells #[.slice none 0 0,.slice none 0 0] 24 (0,0)):=heap_alloc_new w1' _
 have m2:=ae w1' (.cells #[.slice none 0 0,.slice none 0 0] 24)
 have z2:=size_alloc w1' (.cells #[.slice none 0 0,.slice none 0 0] 24)
 have c0:=aa m2 (show w.heap.size<w1'.heap.size by omega) e0
 have c1:=aa m2 (show w.heap.size<w1'.heap.size by omega) e1
 have c2:=aa m2 (show w1.heap.size<w1'.heap.size by omega) cc'.1
 have c3:=aa m2 (show w1.heap.size<w1'.heap.size by omega) cc'.2
 generalize w1'.alloc (.cells #[.slice none 0 0,.slice none 0 0] 24)=w2 at *
 rw[z1',z1] at q2
 rw[z1] at c2 c3
 have mm:=m1.trans (m1'.mono m1.size)
 have M2:=yX (mm.trans (m2.mono mm.size))
 have hz2:w.heap.size+3=w2.heap.size:=by omega
 have hP:gj w2 (.agg #[.slice p a.length c,.slice q b.length d,.slice p' a'.length c',.slice q' b'.length d',.string ⟨#[]⟩,.int .i64 0]) a b a' b' ⟨#[]⟩ 0 :=
  ⟨⟨p,c,q,d,p',c',q',d',rfl,hfa.below M2.out,hfb.below M2.out,hga.below M2.out,hgb.below M2.out⟩⟩
 have HC:=yX (pR w2 a b a' b' _ hP (hG.below M2.out))
 clear m1 z1 m1' z1' m2 z2 mm cc cc' e0 e1 hfa hfb hga hgb hG hF hF' hP
 go_wp2_with fail
 refine HC.out.mono ?_
 rintro e w3 ⟨u,rfl,hu,hb3⟩
 obtain⟨r,hr⟩:∃ r,r=cD a b a' b':=⟨_,rfl⟩
 rw[show cD a b a' b'=r from hr.symm] at hu ⊢
 obtain⟨⟨L1,L2⟩,er⟩:=r
 have HR:=yX hr
 simp only at hu ⊢
 obtain⟨p1,e1,p2,e2,rfl,g1,g2,o1,o2⟩:=hu.ex
 have hn1:Value.ownBlock (.slice p1 L1.length e1)≠some (w.heap.size+2):=fun e=>by have:=o1 _ e;omega
 have hn2:Value.ownBlock (.slice p2 L2.length e2)≠some (w.heap.size+2):=fun e=>by have:=o2 _ e;omega
 have q3:=(hb3.block (w.heap.size+2) (by omega)).trans q2
 have k0:=ah q3 0
 have k1:=ah q3 1
 have f0:=av q3 0
 have f1:=av q3 1
 have R1:=yX ((g1.other hn1 0 (.slice p1 L1.length e1)).other hn1 1 (.slice p2 L2.length e2))
 have R2:=yX ((g2.other hn2 0 (.slice p1 L1.length e1)).other hn2 1 (.slice p2 L2.length e2))
 have O1:=yX (show ∀ g,Value.ownBlock (.slice p1 L1.length e1)=some g→w.heap.size≤g from fun g e=>by have:=o1 _ e;omega)
 have O2:=yX (show ∀ g,Value.ownBlock (.slice p2 L2.length e2)=some g→w.heap.size≤g from fun g e=>by have:=o2 _ e;omega)
 have M7:=yX (((M2.out.trans (hb3.mono M2.out.size)).setCell (p:=⟨w.heap.size+2,0,none⟩) (by show w.heap.size≤w.heap.size+2;omega) (.slice p1 L1.length e1)).setCell (p:=⟨w.heap.size+2,1,none⟩) (by show w.heap.size≤w.heap.size+2;omega) (.slice p2 L2.length e2))
 have g0:=bv q3 (.slice p1 L1.length e1) (.slice p2 L2.length e2)
 have x0:=ah g0 0
 have x1:=ah g0 1
 clear hn1 hn2 g1 g2 o1 o2 q2 q3 hb3 HC hu hr
 go_wp2
 refine bodyPost_ret (v:=.tuple #[.agg #[.slice p1 L1.length e1,.slice p2 L2.length e2],.int .i64 er]) (by simp at x0 x1;simp[results,Tryz.results32,go_sem,x0,x1]) rfl ⟨_,by rw[←HR.out],?_,M7.out⟩
 rw[←HR.out]
 exact⟨⟨p1,e1,p2,e2,rfl,R1.out,R2.out,O1.out,O2.out⟩⟩
open Go.RowKit Dg Dc
def gn (w:CQ):Nat→CQ
 | 0=>CQ.real 1
 | j+1=>(gn w j).mul w
theorem CQ.add_zero (a:CQ):a.add ⟨0,0⟩=a:=by
 obtain⟨x,y⟩:=a
 unfold CQ.add;congr 1<;>grind
theorem CQ.zero_mul (a:CQ):(⟨0,0⟩:CQ).mul a=⟨0,0⟩:=by
 obtain⟨x,y⟩:=a
 unfold CQ.mul;congr 1<;>grind
theorem sX (e w:CQ) (q c:Rat):(e.mul w).add (CQ.real (q+c))=((e.mul w).add (CQ.real q)).add ((CQ.real c).mul (CQ.real 1)):=by
 obtain⟨x,y⟩:=e;obtain⟨u,v⟩:=w
 simp only[CQ.add,CQ.mul,CQ.real,CQ.mk.injEq]
 constructor<;>grind
theorem mj (e w p:CQ) (q c:Rat):((e.add ((CQ.real c).mul p)).mul w).add (CQ.real q)=((e.mul w).add (CQ.real q)).add ((CQ.real c).mul (p.mul w)):=by
 obtain⟨x,y⟩:=e;obtain⟨u,v⟩:=w;obtain⟨s,t⟩:=p
 simp only[CQ.add,CQ.mul,CQ.real,CQ.mk.injEq]
 constructor<;>grind
theorem cX (w:CQ) (q:Rat) (l:List Rat):evQ w (q :: l)=((evQ w l).mul w).add (CQ.real q):=rfl
theorem ug (w:CQ) (c:Rat):∀ (l:List Rat) (j:Nat),j<l.length→evQ w (l.set j (l.getD j 0+c))=(evQ w l).add ((CQ.real c).mul (gn w j))
 | [],_,h=>by simp at h
 | q :: l,0,_=>by
  rw[y7,cX,cX]
  exact sX _ _ _ _
 | q :: l,j+1,h=>by
  rw[y8,cX,cX,show (q :: l).getD (j+1) 0=l.getD j 0 from by simp,ug w c l j (by simpa using h)]
  exact mj _ _ _ _ _
theorem mP (w:CQ) (c:Rat):∀ l:List Rat,evQ w (l++[c])=(evQ w l).add ((CQ.real c).mul (gn w l.length))
 | []=>by
  show (((⟨0,0⟩:CQ).mul w).add (CQ.real c))=(⟨0,0⟩:CQ).add ((CQ.real c).mul (CQ.real 1))
  obtain⟨u,v⟩:=w
  simp only[CQ.add,CQ.mul,CQ.real,CQ.mk.injEq]
  constructor<;>grind
 | q :: l=>by
  rw[zO,cX,cX,mP w c l]
  exact mj _ _ _ _ _
theorem pow_add (w:CQ) (i:Nat):∀ k,gn w (i+k)=(gn w i).mul (gn w k)
 | 0=>by
  show gn w i=(gn w i).mul (CQ.real 1)
  rw[CQ.mul_one]
 | k+1=>by
  show (gn w (i+k)).mul w=(gn w i).mul ((gn w k).mul w)
  rw[pow_add w i k]
  generalize gn w i=p
  generalize gn w k=q
  obtain⟨x,y⟩:=p;obtain⟨u,v⟩:=w;obtain⟨s,t⟩:=q
  simp only[CQ.mul,CQ.mk.injEq]
  constructor<;>grind
def io (out:List Rat) (x:Rat) (b:List Rat) (i:Nat):Nat→List Rat
 | 0=>out
 | k+1=>(io out x b i k).set (i+k) ((io out x b i k).getD (i+k) 0+x*b.getD k 0)
def fd (a b:List Rat):Nat→List Rat
 | 0=>List.replicate (a.length+b.length-1) 0
 | i+1=>io (fd a b i) (a.getD i 0) b i b.length
theorem jc (out:List Rat) (x:Rat) (b:List Rat) (i:Nat):∀ k,(io out x b i k).length=out.length
 | 0=>rfl
 | k+1=>by rw[io,Au,jc out x b i k]
theorem jz (a b:List Rat):∀ i,(fd a b i).length=a.length+b.length-1
 | 0=>by simp[fd]
 | i+1=>by rw[fd,jc,jz a b i]
theorem nP (w:CQ):∀ n,evQ w (List.replicate n 0)=⟨0,0⟩
 | 0=>rfl
 | n+1=>by
  rw[Am,cX,nP w n]
  exact mv w
theorem uf (w:CQ) (out:List Rat) (x:Rat) (b:List Rat) (i:Nat):∀ k,k≤b.length→i+k≤out.length→evQ w (io out x b i k)=(evQ w out).add (((CQ.real x).mul (gn w i)).mul (evQ w (b.take k)))
 | 0,_,_=>by
  rw[io,ze]
  show evQ w out=(evQ w out).add ((_:CQ).mul ⟨0,0⟩)
  generalize evQ w out=e
  generalize (CQ.real x).mul (gn w i)=p
  obtain⟨s,t⟩:=e;obtain⟨u,v⟩:=p
  simp only[CQ.add,CQ.mul,CQ.mk.injEq]
  constructor<;>grind
 | k+1,hk,hl=>by
  have hkb:k<b.length:=by omega
  rw[io,ug w _ _ _ (by rw[jc];omega),uf w out x b i k (by omega) (by omega),show b.take (k+1)=b.take k++[b.getD k 0] from by
   rw[zN,zm hkb]
   exact (zi hkb).symm,mP,zK,zZ (by omega),pow_add]
  generalize evQ w out=e
  generalize evQ w (b.take k)=f
  generalize gn w i=p
  generalize gn w k=q
  generalize b.getD k 0=c
  obtain⟨s,t⟩:=e;obtain⟨u,v⟩:=p;obtain⟨m,n⟩:=q;obtain⟨g,h⟩:=f
  simp only[CQ.add,CQ.mul,CQ.real,CQ.mk.injEq]
  constructor<;>grind
theorem qJ (w:CQ) (a b:List Rat) (hb:0<b.length):∀ i,i≤a.length→evQ w (fd a b i)=(evQ w (a.take i)).mul (evQ w b)
 | 0,_=>by
  rw[fd,nP,ze]
  exact (CQ.zero_mul _).symm
 | i+1,hi=>by
  have hia:i<a.length:=by omega
  rw[fd,uf w _ _ _ _ _ (y9 _) (by rw[jz];omega),zD,qJ w a b hb i (by omega),show a.take (i+1)=a.take i++[a.getD i 0] from by
   rw[zN,zm hia]
   exact (zi hia).symm,mP,zK,zZ (by omega)]
  generalize evQ w (a.take i)=e
  generalize evQ w b=f
  generalize gn w i=p
  generalize a.getD i 0=c
  obtain⟨s,t⟩:=e;obtain⟨u,v⟩:=p;obtain⟨g,h⟩:=f
  simp only[CQ.add,CQ.mul,CQ.real,CQ.mk.injEq]
  constructor<;>grind
theorem kg {l:List Rat}{j:Nat} (h:j<l.length):aq (l.map tq) j=tq (l.getD j 0):=by
 rw[←eo (l:=l.map tq) (by simpa using h),Af,zN,zm h];rfl
theorem vz {D E M N c:Nat}{out b:List Rat}{x:Rat}{i:Nat} (hD:0<D) (hE:0<E) (hx:Ov D M x) (hxo:okQ x) (hb:∀ q∈b,Ov E N q∧okQ q) (ho:∀ q∈out,Ov (D*E) (c*(M*N)) q) (hDE:D*E<10 ^ 2000) :
  ∀ k,k≤b.length→i+k≤out.length→(c+k+1)*(M*N)<10 ^ 2000→le (out.map tq) (tq x) (b.map tq) i k=(io out x b i k).map tq∧∀ q∈io out x b i k,Ov (D*E) ((c+k)*(M*N)) q
 | 0,_,_,_=>⟨rfl,by simpa[io] using ho⟩
 | k+1,hk,hl,hs=>by
  have hDp:=z7 hD hE
  obtain⟨h1,h2⟩:=vz (i:=i) hD hE hx hxo hb ho hDE k (by omega) (by omega) (zE (zg _ (by omega)) hs)
  have hkb:k<b.length:=by omega
  have hjl:i+k<(io out x b i k).length:=by rw[jc];omega
  have hbk:b.getD k 0∈b:=by rw[zN,zm hkb];exact zn hkb
  have hoj:(io out x b i k).getD (i+k) 0∈io out x b i k:=by rw[zN,zm hjl];exact zn hjl
  have o1:=h2 _ hoj
  have o2:=hx.mul (hb _ hbk).1 hD hE
  have o3:=o1.add o2
  have e3:(c+k)*(M*N)+M*N=(c+(k+1))*(M*N):=by rw[←AC,zT (c+k) 1,AG]
  rw[e3] at o3
  have s3:(c+(k+1))*(M*N)<10 ^ 2000:=zE (zg _ (by omega)) hs
  have s1:(c+k)*(M*N)<10 ^ 2000:=zE (zg _ (by omega)) s3
  have s2:M*N<10 ^ 2000:=zE (Nat.le_mul_of_pos_left _ (by omega)) s3
  refine⟨?_,fun q hq=>?_⟩
  ·rw[le,io,h1,kg hjl,kg hkb,ra hxo (hb _ hbk).2 (o2.ok hDp hDE s2),qx (o1.ok hDp hDE s1) (o2.ok hDp hDE s2) (o3.ok hDp hDE s3),List.map_set]
  ·rw[io] at hq
   rcases AF hq with h | h
   ·exact (h2 q h).mono (by rw[←e3];exact Nat.le_add_right _ _)
   ·rw[h];exact o3
theorem ry {D E M N:Nat}{a b:List Rat} (hD:0<D) (hE:0<E) (ha:∀ q∈a,Ov D M q∧okQ q) (hb:∀ q∈b,Ov E N q∧okQ q) (hb0:0<b.length) (hDE:D*E<10 ^ 2000) (hs:(a.length*b.length+1)*(M*N)<10 ^ 2000) :
  ∀ i,i≤a.length→ed (a.map tq) (b.map tq) i=(fd a b i).map tq∧∀ q∈fd a b i,Ov (D*E) (i*b.length*(M*N)) q
 | 0,_=>by
  refine⟨?_,fun q hq=>?_⟩
  ·rw[ed,fd,List.map_replicate,zA,zA,show tq 0=⟨#[48]⟩ from gU]
  ·rw[fd] at hq
   rw[At hq]
   exact (Ov.zero _).mono (zj _)
 | i+1,hi=>by
  obtain⟨h1,h2⟩:=ry hD hE ha hb hb0 hDE hs i (by omega)
  have hia:i<a.length:=by omega
  have hai:a.getD i 0∈a:=by rw[zN,zm hia];exact zn hia
  have hs2:(i*b.length+b.length+1)*(M*N)<10 ^ 2000:=by
   refine zE (zg _ ?_) hs
   have:(i+1)*b.length≤a.length*b.length:=zg _ hi
   rw[zT,AG] at this
   omega
  obtain⟨h3,h4⟩:=vz (i:=i) hD hE (ha _ hai).1 (ha _ hai).2 hb h2 hDE b.length (y9 _) (by rw[jz];omega) hs2
  refine⟨?_,fun q hq=>?_⟩
  ·rw[ed,fd,h1,kg hia,zA,h3]
  ·rw[zT i 1,AG]
   exact h4 q hq
structure gr (l:List ByteArray) (qs:List Rat):Prop where
 e:l=qs.map tq
 ov:∃ D,0<D∧D≤2 ^ 84∧∀ q∈qs,Ov D (2 ^ 96) q
 ok:∀ q∈qs,okQ q
 len:qs.length≤7
theorem oA {l:List ByteArray} (hl:l.length≤7) (h:∀ s∈l,bm s.data.toList=true):∃ qs,gr l qs:=by
 obtain⟨qs,D,e,hD,hDl,hall⟩:=kz l h
 have h7:(4096:Nat) ^ l.length≤4096 ^ 7:=zo (by decide) hl
 have e7:(4096:Nat) ^ 7=2 ^ 84:=by decide
 refine⟨qs,e,⟨D,hD,by omega,fun q hq=>(hall q hq).1.mono ?_⟩,fun q hq=>(hall q hq).2,by rw[e,zA] at hl;exact hl⟩
 have:4096*4096 ^ l.length≤4096*4096 ^ 7:=zp _ h7
 rw[e7] at this
 exact zq this (by decide)
theorem gr.allC {l:List ByteArray}{qs:List Rat} (h:gr l qs):bY l=.ok (bB (qs.map CQ.real)):=by
 have hl:l.length≤7:=by rw[h.e,zA];exact h.len
 unfold bY
 rw[if_neg (by omega),h.e,qB qs h.ok]
structure WV (z:ByteArray) (w:CQ):Prop where
 t:aY ⟨#[49]⟩ z=txt w
 ok:cF w=false
 ov:∃ E,E≤2 ^ 49∧OvC E (2 ^ 49) w
theorem pow_cut {a b c : Nat} (h : a + b = c) : (2 : Nat) ^ a * 2 ^ b = 2 ^ c := by rw [← h, Nat.pow_add]
theorem pow_dup {a b c d : Nat} (h : a + b = c) (h2 : c + 1 = d) : (2 : Nat) * (2 ^ a * 2 ^ b) = 2 ^ d := by rw [pow_cut h, ← h2, Nat.pow_succ, Nat.mul_comm]
theorem pow_two {a b : Nat} (h : a + 1 = b) : (2 : Nat) ^ b = 2 ^ a + 2 ^ a := by rw [← h, Nat.pow_succ, Nat.mul_two]
theorem two_le {a b : Nat} (h : a ≤ b) : (2 : Nat) ^ a ≤ 2 ^ b := Nat.pow_le_pow_right (by decide) h
theorem le_cut {x a b c : Nat} (h : x ≤ 2 ^ a * 2 ^ b) (hc : a + b = c) : x ≤ 2 ^ c := by rw [← hc, Nat.pow_add]; exact h
theorem le_mul {x y a b c : Nat} (h1 : x ≤ 2 ^ a) (h2 : y ≤ 2 ^ b) (hc : a + b = c) : x * y ≤ 2 ^ c := le_cut (Nat.mul_le_mul h1 h2) hc
theorem le_cut2 {x a b c d e : Nat} (h : x ≤ 2 ^ a * (2 ^ b * 2 ^ c)) (hd : b + c = d) (he : a + d = e) : x ≤ 2 ^ e := le_cut (by rw [← hd, Nat.pow_add]; exact h) he
theorem le_pow {E e k n m : Nat} (hE : E ≤ 2 ^ e) (hk : k ≤ n) (hm : e * n = m) : E ^ k ≤ 2 ^ m := by
  rw [← hm, Nat.pow_mul]
  exact Nat.le_trans (Nat.pow_le_pow_left hE k) (Nat.pow_le_pow_right (Nat.pow_pos (by decide)) hk)
theorem le_dup {F D N a b c d e f : Nat} (hF : F ≤ D * (2 * (2 ^ a * 2 ^ b))) (hD : D ≤ 2 ^ e) (hc : a + b = c) (hd : c + 1 = d) (hf : e + d ≤ f) (hN : N = F) : N ≤ 2 ^ f := by
  rw [hN]
  have h1 : F ≤ D * 2 ^ d := by rw [← pow_dup hc hd]; exact hF
  have h2 := Nat.mul_le_mul_right (2 ^ d) hD
  rw [← Nat.pow_add] at h2
  exact Nat.le_trans h1 (Nat.le_trans h2 (Nat.pow_le_pow_right (by decide) hf))
theorem le_dup2 {D a b c d e f : Nat} (hD : D ≤ 2 ^ e) (hc : a + b = c) (hd : c + 1 = d) (hf : d + e ≤ f) : 2 * (2 ^ a * 2 ^ b) * D ≤ 2 ^ f := by
  rw [pow_dup hc hd]
  have h2 := Nat.mul_le_mul_left (2 ^ d) hD
  rw [← Nat.pow_add] at h2
  exact Nat.le_trans h2 (Nat.pow_le_pow_right (by decide) hf)
theorem two_sum {D E a b c d : Nat} (hD : D ≤ 2 ^ b) (hE : E ≤ 2 ^ b) (hc : a + b = c) (hd : c + 1 = d) : 2 ^ a * E + 2 ^ a * D ≤ 2 ^ d := by
  rw [pow_two hd, ← hc, Nat.pow_add]
  exact Nat.add_le_add (Nat.mul_le_mul_left _ hE) (Nat.mul_le_mul_left _ hD)
theorem two_lt (n : Nat) : (2 : Nat) ^ (3 * n) < 10 ^ (n + 1) := by
  rw [Nat.pow_mul]
  have h1 : ((2 : Nat) ^ 3) ^ n ≤ 10 ^ n := Nat.pow_le_pow_left (by decide) n
  have h2 : (10 : Nat) ^ n < 10 ^ (n + 1) := Nat.pow_lt_pow_right (by decide) (Nat.lt_succ_self n)
  exact Nat.lt_of_le_of_lt h1 h2
theorem lt_gen {n k m t : Nat} (h : n ≤ 2 ^ k) (hk : k ≤ 3 * m) (ht : m + 1 = t) : n < 10 ^ t := by
  subst ht
  exact Nat.lt_of_le_of_lt (Nat.le_trans h (Nat.pow_le_pow_right (by decide) hk)) (two_lt m)
theorem bJ {n k : Nat} (h : n ≤ 2 ^ k) (hk : k ≤ 5997) : n < 10 ^ 2000 := lt_gen (m := 1999) (t := 2000) h (by omega) (by omega)
theorem yE {z:ByteArray} (hs:eU z=true) (hz:z≠⟨#[48]⟩):∃ w,WV z w:=by
 obtain⟨zc,D,M,hg,ho,hD,hM⟩:=sV hs
 have hne:zc≠⟨0,0⟩:=by
  rintro rfl
  obtain⟨-,h2,-⟩:=iX hg
  exact hz (by rw[←h2,gU])
 have h1:OvC 1 1 (CQ.real 1):=OvC.real ⟨1,by decide +kernel,by decide⟩ (by decide)
 obtain⟨F,hF,ho2⟩:=h1.div ho hne
 have hMM:M*M≤2 ^ 24*2 ^ 24:=zw hM hM
 have hF2:F≤2 ^ 49:=by
  have e:(2:Nat)*(2 ^ 24*2 ^ 24)=2 ^ 49:=by decide
  omega
 have ho3:OvC F (2 ^ 49) ((CQ.real 1).div zc):=ho2.mono (by
  have:=zw hM hD
  have e:(2:Nat)*(2 ^ 24*2 ^ 24)=2 ^ 49:=by decide
  rw[AG,AN]
  omega)
 have hok:=ho3.ok (bJ hF2 (by decide)) (bJ (y9 _) (by decide))
 refine⟨(CQ.real 1).div zc,?_,hok,F,hF2,ho3⟩
 unfold aY aM kC
 rw[←ln,ff ic,hg]
 simp only[if_neg hne,if_true]
 rw[i_ hok]
theorem ph {l:List ByteArray}{qs:List Rat}{z:ByteArray}{w:CQ} (h:gr l qs) (hw:WV z w) :
  ∃ D,D≤2 ^ 427∧OvC D (2 ^ 449) (evQ w qs)∧cF (evQ w qs)=false∧atT l (aY ⟨#[49]⟩ z)=(txt (evQ w qs),0):=by
 obtain⟨D,hD,hDl,hq⟩:=h.ov
 obtain⟨E,hE,ho⟩:=hw.ov
 have h1:=qI ho hE hD qs hq
 have hlen:=h.len
 have b1 : D * E ^ qs.length ≤ 2 ^ 427 := le_mul (x := D) (y := E ^ qs.length) (a := 84) (b := 343) (c := 427) hDl (le_pow (E := E) (e := 49) (k := qs.length) (n := 7) (m := 343) hE hlen rfl) rfl
 have b2 : qs.length * (2 ^ 96 * 2 ^ (50 * qs.length)) ≤ 2 ^ 449 := by
  have k1 : (2 : Nat) ^ (50 * qs.length) ≤ 2 ^ 350 := two_le (a := 50 * qs.length) (b := 350) (by omega)
  have k2 : 2 ^ 96 * 2 ^ (50 * qs.length) ≤ 2 ^ 446 := le_mul (x := 2 ^ 96) (y := 2 ^ (50 * qs.length)) (a := 96) (b := 350) (c := 446) (Nat.le_refl _) k1 rfl
  exact le_mul (x := qs.length) (y := 2 ^ 96 * 2 ^ (50 * qs.length)) (a := 3) (b := 446) (c := 449) (by omega) k2 rfl
 have h2:=h1.mono b2
 have hok:=h2.ok (bJ b1 (by decide)) (bJ (y9 _) (by decide))
 refine⟨_,b1,h2,hok,?_⟩
 unfold atT
 rw[h.allC,hw.t]
 simp only
 unfold ofC
 rw[dl hw.ok]
 simp only
 rw[xX,i_ hok]
theorem de {a b:List ByteArray}{qa qb:List Rat}{z:ByteArray}{w:CQ} (hc:au a b=true) (hs:eU z=true) (hz:z≠⟨#[48]⟩) (ha:gr a qa) (hb:gr b qb) (hw:WV z w) (hne:evQ w qb≠⟨0,0⟩) :
  aG a b z=(txt ((evQ w qa).div (evQ w qb)),0)∧∃ D,D≤2 ^ 1327∧OvC D (2 ^ 1327) ((evQ w qa).div (evQ w qb)):=by
 obtain⟨D1,hD1,o1,k1,e1⟩:=ph ha hw
 obtain⟨D2,hD2,o2,k2,e2⟩:=ph hb hw
 obtain⟨F,hF,o3⟩:=o1.div o2 hne
 have bF : F ≤ 2 ^ 1327 := le_dup (F := F) (D := D1) (N := F) (a := 449) (b := 449) (c := 898) (d := 899) (e := 427) (f := 1327) hF hD1 rfl rfl (by decide) rfl
 have bN : 2 * (2 ^ 449 * 2 ^ 449) * D2 ≤ 2 ^ 1327 := le_dup2 (D := D2) (a := 449) (b := 449) (c := 898) (d := 899) (e := 427) (f := 1327) hD2 rfl rfl (by decide)
 have o4:=o3.mono bN
 have hok:=o4.ok (bJ bF (by decide)) (bJ (y9 _) (by decide))
 refine⟨?_,F,bF,o4⟩
 have hne2:txt (evQ w qb)≠⟨#[48]⟩:=fun e=>hne (rH k2 xx (by rw[e,gU]))
 unfold aG
 rw[if_pos hc,if_pos hs,if_neg hz,e1,e2]
 simp only
 rw[if_neg hne2]
 unfold aY aM kC
 rw[dl k1,dl k2]
 simp only[if_neg hne,if_true]
 rw[i_ hok]
theorem fJ {a b:List ByteArray}{z:ByteArray} (h:(aG a b z).2=0):au a b=true∧eU z=true∧z≠⟨#[48]⟩∧∀ (qb:List Rat) (w:CQ),gr b qb→WV z w→evQ w qb≠⟨0,0⟩:=by
 unfold aG at h
 split at h
 ·rename_i hc
  split at h
  ·rename_i hs
   split at h
   ·cases h
   ·rename_i hz
    split at h
    ·cases h
    ·rename_i hn
     refine⟨hc,hs,hz,fun qb w hb hw e=>hn ?_⟩
     obtain⟨D2,hD2,o2,k2,e2⟩:=ph hb hw
     rw[e2,e,gU]
  ·cases h
 ·cases h
end Go.Proofs.YtomkanblohhpfaaGreatDoor
