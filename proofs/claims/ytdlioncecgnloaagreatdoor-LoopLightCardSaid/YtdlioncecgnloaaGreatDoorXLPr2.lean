/- Lemmas of this claim. -/
import Derived.Test.YtdlioncecgnloaaGreatDoorXLP13
import Derived.Test.YtdlioncecgnloaaGreatDoorXLH1
set_option linter.all false
set_option maxRecDepth 100000
set_option maxHeartbeats 8000000
namespace Go.Proofs.YtdlioncecgnloaaGreatDoor
open Go.RowKit Dg
def pK (fa fb ga gb:List ByteArray):Except Int (List ByteArray×List ByteArray):=.ok (bU fa ga,bU fb gb)
def d7 (fa fb ga gb:List ByteArray):Except Int (List ByteArray×List ByteArray):=.ok (cT (bU fa gb) (bU ga fb),bU fb gb)
theorem nU (a b:List ByteArray):(bU a b).length=a.length+b.length-1:=iU a b _
theorem rh (v:Value) (fa fb ga gb:List ByteArray) (k:ByteArray) (n:Int) (w:World) (hP:g9 w v fa fb ga gb k n) (h0:0<fa.length) (h1:0<fb.length) (h2:0<ga.length) (h3:0<gb.length) (k0':fa.length<100) (k1':fb.length<100) (k2':ga.length<100) (k3':gb.length<100) (hG:Gx w) :
  Calls Tryz.prog 126 #[v] w (fR (pK fa fb ga gb) w):=by
 obtain⟨p,c,q,d,p',c',q',d',rfl,hfa,hfb,hga,hgb⟩:=id hP.ex
 go_enter Tryz.func126,Tryz.ntmps126
 go_upto_region 1 with fail
 have m1:=ae w (.cells #[.slice p fa.length c,.slice q fb.length d,.slice p' ga.length c',.slice q' gb.length d',.string k,.int .i64 n] 147)
 have z1:=size_alloc w (.cells #[.slice p fa.length c,.slice q fb.length d,.slice p' ga.length c',.slice q' gb.length d',.string k,.int .i64 n] 147)
 have a0:=fun j u h=>am w #[.slice p fa.length c,.slice q fb.length d,.slice p' ga.length c',.slice q' gb.length d',.string k,.int .i64 n] 147 j u h
 generalize w.alloc (.cells #[.slice p fa.length c,.slice q fb.length d,.slice p' ga.length c',.slice q' gb.length d',.string k,.int .i64 n] 147)=w1 at *
 have q2:(w1.alloc (.cells #[.slice none 0 0,.slice none 0 0] 28)).heap[w1.heap.size]?=some (.cells #[.slice none 0 0,.slice none 0 0] 28 (0,0)):=heap_alloc_new w1 _
 have m2:=ae w1 (.cells #[.slice none 0 0,.slice none 0 0] 28)
 have z2:=size_alloc w1 (.cells #[.slice none 0 0,.slice none 0 0] 28)
 have hlt:w.heap.size<w1.heap.size:=by omega
 have b0:=aa m2 hlt (a0 0 _ rfl)
 have b1:=aa m2 hlt (a0 1 _ rfl)
 have b2:=aa m2 hlt (a0 2 _ rfl)
 have b3:=aa m2 hlt (a0 3 _ rfl)
 generalize w1.alloc (.cells #[.slice none 0 0,.slice none 0 0] 28)=w2 at *
 rw[z1] at q2
 have M2:=BZ (m1.trans (m2.mono m1.size))
 have HZ2:=BZ (show w.heap.size+2=w2.heap.size by omega)
 have hl2:w.heap.size<w2.heap.size:=by omega
 have HQ2:=BZ q2
 have HFA:=BZ (hfa.below M2.out)
 have HFB:=BZ (hfb.below M2.out)
 have HGA:=BZ (hga.below M2.out)
 have HGB:=BZ (hgb.below M2.out)
 have HG:=BZ (hG.below M2.out).g
 clear m1 z1 a0 m2 z2 hfa hfb hga hgb hP hG hlt q2
 have HR:=BZ (show pK fa fb ga gb=.ok (bU fa ga,bU fb gb) from rfl)
 have hbd:Below w2.heap.size w2 w2.drew:=(Below.refl _ _).drew
 refine ak (fun w'=>∃ x:Off (w.heap.size+1) w2,w'=x.w) (fun j=>j == 6||j == 13||j == 15) (by kernel_rfl) (by kernel_rfl) (Off.below hbd) ?_
 have c0:=fun x:Off (w.heap.size+1) w2=>x.cell hl2 (by omega) b0
 have c1:=fun x:Off (w.heap.size+1) w2=>x.cell hl2 (by omega) b1
 have c2:=fun x:Off (w.heap.size+1) w2=>x.cell hl2 (by omega) b2
 have c3:=fun x:Off (w.heap.size+1) w2=>x.cell hl2 (by omega) b3
 clear b0 b1 b2 b3
 generalize w2.drew=wd at *
 have HC1:=BZ (iy _ _ fa ga wd (HFA.out.below hbd) (HGA.out.below hbd) h0 h2 (by omega) (by omega) (HG.out.below hbd))
 refine af 6 0 _ _ _ (by kernel_rfl) ?_
 simp only[Cf,Ch,Ce,Ci]
 repeat (go_big_quiet_step (fail))
 refine wpQuiet_nil ?_
 refine ag rfl rfl (fun K hK=>?_)
 go_simp
 refine HC1.out.mono ?_
 rintro e w4 ⟨u1,rfl,hu1,hb4⟩
 have hB4:=hbd.trans (hb4.mono hbd.size)
 refine hK _ _ (Off.below hB4) ?_
 clear hK K HC1
 try simp only[Act.put,Ca,B_,B9,B4,Cb,Cc]
 have HC2:=BZ (iy _ _ fb gb w4 (HFB.out.below hB4) (HGB.out.below hB4) h1 h3 (by omega) (by omega) (HG.out.below hB4))
 have hu1b:aZ w4 w2.heap.size u1 (bU fa ga):=hu1.lowerS hbd.size
 obtain⟨L1,hL1⟩:∃ L,L=bU fa ga:=⟨_,rfl⟩
 obtain⟨L2,hL2⟩:∃ L,L=bU fb gb:=⟨_,rfl⟩
 rw[←hL1] at hu1b
 rw[←hL1,←hL2] at HR
 rw[←hL2] at HC2
 clear hb4 hbd hu1 hL1 hL2
 refine af 6 7 _ _ _ (by kernel_rfl) ?_
 simp only[Cf,Ch,Ce,Ci]
 repeat (go_big_quiet_step (fail))
 refine wpQuiet_nil ?_
 refine ag rfl rfl (fun K hK=>?_)
 go_simp
 refine HC2.out.mono ?_
 rintro e w6 ⟨u2,rfl,hu2,hb6⟩
 have hB6:=hB4.trans (hb6.mono hB4.size)
 refine hK _ _ (Off.below hB6) ?_
 clear hK K
 try simp only[Act.put,Ca,B_,B9,B4,Cb,Cc]
 have hk1:aZ w6 w2.heap.size u1 L1:=hu1b.below hb6
 have hs2:=HZ2.out
 have hs4:=hB4.size
 obtain⟨p1,c1',rfl,-⟩:=id hk1.isS.form
 obtain⟨p2,c2',rfl,-⟩:=id hu2.isS.form
 have hn1:Value.ownBlock (.slice p1 L1.length c1')≠some (w.heap.size+1):=fun e=>by have:=(World.ownsRow.lt hk1 _ e).1;omega
 have hn2:Value.ownBlock (.slice p2 L2.length c2')≠some (w.heap.size+1):=fun e=>by have:=(World.ownsRow.lt hu2 _ e).1;omega
 have O1:=BZ (show ∀ g,Value.ownBlock (.slice p1 L1.length c1')=some g→w.heap.size≤g from fun g e=>by have:=(World.ownsRow.lt hk1 _ e).1;omega)
 have O2:=BZ (show ∀ g,Value.ownBlock (.slice p2 L2.length c2')=some g→w.heap.size≤g from fun g e=>by have:=(World.ownsRow.lt hu2 _ e).1;omega)
 have q7:=(hB6.block (w.heap.size+1) (by omega)).trans HQ2.out
 have k0:=ah q7 0
 have k1:=ah q7 1
 have f0:=ay q7 0
 have f1:=ay q7 1
 have R1:=BZ ((hk1.isS.other hn1 0 (.slice p1 L1.length c1')).other hn1 1 (.slice p2 L2.length c2'))
 have R2:=BZ ((hu2.isS.other hn2 0 (.slice p1 L1.length c1')).other hn2 1 (.slice p2 L2.length c2'))
 have M7:=BZ (((M2.out.trans (hB6.mono M2.out.size)).setCell (p:=⟨w.heap.size+1,0,none⟩) (CI _) (.slice p1 L1.length c1')).setCell (p:=⟨w.heap.size+1,1,none⟩) (CI _) (.slice p2 L2.length c2'))
 have hOff:=Off.set (g:=w.heap.size+1) (Off.set (g:=w.heap.size+1) (Off.below hB6) 0 (.slice p1 L1.length c1')) 1 (.slice p2 L2.length c2')
 have g0:=bJ q7 (.slice p1 L1.length c1') (.slice p2 L2.length c2')
 clear hn1 hn2 hk1 hu2 q7 hB6 hb6 hu1b hB4 hs2 hs4
 refine af 1 14 _ _ _ (by kernel_rfl) ?_
 simp only[Cf,Ch,Ce,Ci]
 repeat (go_big_quiet_step (fail))
 refine wpQuiet_nil ?_
 refine ag rfl rfl (fun K hK=>?_)
 go_simp
 refine hK undef _ hOff ?_
 clear hK K
 try simp only[Act.put,Ca,B_,B9,B4,Cb,Cc]
 refine av ?_
 have x0:=ah g0 0
 have x1:=ah g0 1
 go_wp2_with fail
 refine bodyPost_ret (v:=.agg #[.slice p1 L1.length c1',.slice p2 L2.length c2']) (by simp at x0 x1;simp[results,Tryz.results126,go_sem,x0,x1]) rfl ⟨M7.out,?_⟩
 rw[HR.out]
 exact⟨_,rfl,⟨p1,c1',p2,c2',rfl,R1.out,R2.out,O1.out,O2.out⟩⟩
theorem ng (v:Value) (fa fb ga gb:List ByteArray) (k:ByteArray) (n:Int) (w:World) (hP:g9 w v fa fb ga gb k n) (h0:0<fa.length) (h1:0<fb.length) (h2:0<ga.length) (h3:0<gb.length) (k0':fa.length<100) (k1':fb.length<100) (k2':ga.length<100) (k3':gb.length<100) (hG:Gx w) :
  Calls Tryz.prog 130 #[v] w (fR (d7 fa fb ga gb) w):=by
 obtain⟨p,c,q,d,p',c',q',d',rfl,hfa,hfb,hga,hgb⟩:=id hP.ex
 go_enter Tryz.func130,Tryz.ntmps130
 go_upto_region 1 with fail
 have m1:=ae w (.cells #[.slice p fa.length c,.slice q fb.length d,.slice p' ga.length c',.slice q' gb.length d',.string k,.int .i64 n] 147)
 have z1:=size_alloc w (.cells #[.slice p fa.length c,.slice q fb.length d,.slice p' ga.length c',.slice q' gb.length d',.string k,.int .i64 n] 147)
 have a0:=fun j u h=>am w #[.slice p fa.length c,.slice q fb.length d,.slice p' ga.length c',.slice q' gb.length d',.string k,.int .i64 n] 147 j u h
 generalize w.alloc (.cells #[.slice p fa.length c,.slice q fb.length d,.slice p' ga.length c',.slice q' gb.length d',.string k,.int .i64 n] 147)=w1 at *
 have q2:(w1.alloc (.cells #[.slice none 0 0,.slice none 0 0] 28)).heap[w1.heap.size]?=some (.cells #[.slice none 0 0,.slice none 0 0] 28 (0,0)):=heap_alloc_new w1 _
 have m2:=ae w1 (.cells #[.slice none 0 0,.slice none 0 0] 28)
 have z2:=size_alloc w1 (.cells #[.slice none 0 0,.slice none 0 0] 28)
 have hlt:w.heap.size<w1.heap.size:=by omega
 have b0:=aa m2 hlt (a0 0 _ rfl)
 have b1:=aa m2 hlt (a0 1 _ rfl)
 have b2:=aa m2 hlt (a0 2 _ rfl)
 have b3:=aa m2 hlt (a0 3 _ rfl)
 generalize w1.alloc (.cells #[.slice none 0 0,.slice none 0 0] 28)=w2 at *
 rw[z1] at q2
 have M2:=BZ (m1.trans (m2.mono m1.size))
 have HZ2:=BZ (show w.heap.size+2=w2.heap.size by omega)
 have hl2:w.heap.size<w2.heap.size:=by omega
 have HQ2:=BZ q2
 have HFA:=BZ (hfa.below M2.out)
 have HFB:=BZ (hfb.below M2.out)
 have HGA:=BZ (hga.below M2.out)
 have HGB:=BZ (hgb.below M2.out)
 have HG:=BZ (hG.below M2.out).g
 clear m1 z1 a0 m2 z2 hfa hfb hga hgb hP hG hlt q2
 have HR:=BZ (show d7 fa fb ga gb=.ok (cT (bU fa gb) (bU ga fb),bU fb gb) from rfl)
 have hbd:Below w2.heap.size w2 w2.drew:=(Below.refl _ _).drew
 refine ak (fun w'=>∃ x:Off (w.heap.size+1) w2,w'=x.w) (fun j=>j == 6||j == 13) (by kernel_rfl) (by kernel_rfl) (Off.below hbd) ?_
 have c0:=fun x:Off (w.heap.size+1) w2=>x.cell hl2 (by omega) b0
 have c1:=fun x:Off (w.heap.size+1) w2=>x.cell hl2 (by omega) b1
 have c2:=fun x:Off (w.heap.size+1) w2=>x.cell hl2 (by omega) b2
 have c3:=fun x:Off (w.heap.size+1) w2=>x.cell hl2 (by omega) b3
 clear b0 b1 b2 b3
 generalize w2.drew=wd at *
 have HC1:=BZ (iy _ _ fa gb wd (HFA.out.below hbd) (HGB.out.below hbd) h0 h3 (by omega) (by omega) (HG.out.below hbd))
 refine af 6 0 _ _ _ (by kernel_rfl) ?_
 simp only[Cf,Ch,Ce,Ci]
 repeat (go_big_quiet_step (fail))
 refine wpQuiet_nil ?_
 refine ag rfl rfl (fun K hK=>?_)
 go_simp
 refine HC1.out.mono ?_
 rintro e w4 ⟨u1,rfl,hu1,hb4⟩
 have hB4:=hbd.trans (hb4.mono hbd.size)
 refine hK _ _ (Off.below hB4) ?_
 clear hK K HC1
 try simp only[Act.put,Ca,B_,B9,B4,Cb,Cc]
 have HC2:=BZ (iy _ _ ga fb w4 (HGA.out.below hB4) (HFB.out.below hB4) h2 h1 (by omega) (by omega) (HG.out.below hB4))
 clear hbd
 refine af 6 7 _ _ _ (by kernel_rfl) ?_
 simp only[Cf,Ch,Ce,Ci]
 repeat (go_big_quiet_step (fail))
 refine wpQuiet_nil ?_
 refine ag rfl rfl (fun K hK=>?_)
 go_simp
 refine HC2.out.mono ?_
 rintro e w6 ⟨u2,rfl,hu2,hb6⟩
 have hB6:=hB4.trans (hb6.mono hB4.size)
 refine hK _ _ (Off.below hB6) ?_
 clear hK K HC2
 try simp only[Act.put,Ca,B_,B9,B4,Cb,Cc]
 have hu1b:=hu1.below hb6
 clear hu1 hb4 hb6 hB4
 refine af 2 14 _ _ _ (by kernel_rfl) ?_
 simp only[Cf,Ch,Ce,Ci]
 repeat (go_big_quiet_step (fail))
 refine wpQuiet_nil ?_
 refine av ?_
 obtain⟨L3,hL3⟩:∃ L,L=bU fa gb:=⟨_,rfl⟩
 obtain⟨L4,hL4⟩:∃ L,L=bU ga fb:=⟨_,rfl⟩
 have l3:L3.length<1000:=by rw[hL3,nU];omega
 have l4:L4.length<1000:=by rw[hL4,nU];omega
 rw[←hL3] at hu1b
 rw[←hL4] at hu2
 rw[←hL3,←hL4] at HR
 have HU1:=BZ hu1b.isS
 have HU2:=BZ hu2.isS
 clear hL3 hL4 hu1b hu2
 go_upto_region 2 with fail
 have hbd:=hB6.drew
 have hd6:Below w6.heap.size w6 w6.drew:=(Below.refl _ _).drew
 refine ak (fun w'=>∃ x:Off (w.heap.size+1) w2,w'=x.w) (fun j=>j == 2||j == 9||j == 11) (by kernel_rfl) (by kernel_rfl) (Off.below hbd) ?_
 have HC1:=BZ (Bv _ _ L3 L4 w6.drew (HU1.out.below hd6) (HU2.out.below hd6) (by omega) (by omega) (HG.out.below hbd))
 clear HU1 HU2 hB6 hd6 l3 l4
 generalize w6.drew=wd2 at *
 refine af 2 0 _ _ _ (by kernel_rfl) ?_
 simp only[Cf,Ch,Ce,Ci]
 repeat (go_big_quiet_step (fail))
 refine wpQuiet_nil ?_
 refine ag rfl rfl (fun K hK=>?_)
 go_simp
 refine HC1.out.mono ?_
 rintro e w7 ⟨u3,rfl,hu3,hb7⟩
 have hB4:=hbd.trans (hb7.mono hbd.size)
 refine hK _ _ (Off.below hB4) ?_
 clear hK K HC1
 try simp only[Act.put,Ca,B_,B9,B4,Cb,Cc]
 have HC2:=BZ (iy _ _ fb gb w7 (HFB.out.below hB4) (HGB.out.below hB4) h1 h3 (by omega) (by omega) (HG.out.below hB4))
 have hu1b:aZ w7 w2.heap.size u3 (cT L3 L4):=hu3.lowerS hbd.size
 obtain⟨L1,hL1⟩:∃ L,L=cT L3 L4:=⟨_,rfl⟩
 obtain⟨L2,hL2⟩:∃ L,L=bU fb gb:=⟨_,rfl⟩
 rw[←hL1] at hu1b
 rw[←hL1,←hL2] at HR
 rw[←hL2] at HC2
 clear hb7 hbd hu3 hL1 hL2
 refine af 6 3 _ _ _ (by kernel_rfl) ?_
 simp only[Cf,Ch,Ce,Ci]
 repeat (go_big_quiet_step (fail))
 refine wpQuiet_nil ?_
 refine ag rfl rfl (fun K hK=>?_)
 go_simp
 refine HC2.out.mono ?_
 rintro e w6 ⟨u2,rfl,hu2,hb6⟩
 have hB6:=hB4.trans (hb6.mono hB4.size)
 refine hK _ _ (Off.below hB6) ?_
 clear hK K
 try simp only[Act.put,Ca,B_,B9,B4,Cb,Cc]
 have hk1:aZ w6 w2.heap.size u3 L1:=hu1b.below hb6
 have hs2:=HZ2.out
 have hs4:=hB4.size
 obtain⟨p1,c1',rfl,-⟩:=id hk1.isS.form
 obtain⟨p2,c2',rfl,-⟩:=id hu2.isS.form
 have hn1:Value.ownBlock (.slice p1 L1.length c1')≠some (w.heap.size+1):=fun e=>by have:=(World.ownsRow.lt hk1 _ e).1;omega
 have hn2:Value.ownBlock (.slice p2 L2.length c2')≠some (w.heap.size+1):=fun e=>by have:=(World.ownsRow.lt hu2 _ e).1;omega
 have O1:=BZ (show ∀ g,Value.ownBlock (.slice p1 L1.length c1')=some g→w.heap.size≤g from fun g e=>by have:=(World.ownsRow.lt hk1 _ e).1;omega)
 have O2:=BZ (show ∀ g,Value.ownBlock (.slice p2 L2.length c2')=some g→w.heap.size≤g from fun g e=>by have:=(World.ownsRow.lt hu2 _ e).1;omega)
 have q7:=(hB6.block (w.heap.size+1) (by omega)).trans HQ2.out
 have k0:=ah q7 0
 have k1:=ah q7 1
 have f0:=ay q7 0
 have f1:=ay q7 1
 have R1:=BZ ((hk1.isS.other hn1 0 (.slice p1 L1.length c1')).other hn1 1 (.slice p2 L2.length c2'))
 have R2:=BZ ((hu2.isS.other hn2 0 (.slice p1 L1.length c1')).other hn2 1 (.slice p2 L2.length c2'))
 have M7:=BZ (((M2.out.trans (hB6.mono M2.out.size)).setCell (p:=⟨w.heap.size+1,0,none⟩) (CI _) (.slice p1 L1.length c1')).setCell (p:=⟨w.heap.size+1,1,none⟩) (CI _) (.slice p2 L2.length c2'))
 have hOff:=Off.set (g:=w.heap.size+1) (Off.set (g:=w.heap.size+1) (Off.below hB6) 0 (.slice p1 L1.length c1')) 1 (.slice p2 L2.length c2')
 have g0:=bJ q7 (.slice p1 L1.length c1') (.slice p2 L2.length c2')
 clear hn1 hn2 hk1 hu2 q7 hB6 hb6 hu1b hB4 hs2 hs4
 refine af 1 10 _ _ _ (by kernel_rfl) ?_
 simp only[Cf,Ch,Ce,Ci]
 repeat (go_big_quiet_step (fail))
 refine wpQuiet_nil ?_
 refine ag rfl rfl (fun K hK=>?_)
 go_simp
 refine hK undef _ hOff ?_
 clear hK K
 try simp only[Act.put,Ca,B_,B9,B4,Cb,Cc]
 refine av ?_
 have x0:=ah g0 0
 have x1:=ah g0 1
 go_wp2_with fail
 refine bodyPost_ret (v:=.agg #[.slice p1 L1.length c1',.slice p2 L2.length c2']) (by simp at x0 x1;simp[results,Tryz.results130,go_sem,x0,x1]) rfl ⟨M7.out,?_⟩
 rw[HR.out]
 exact⟨_,rfl,⟨p1,c1',p2,c2',rfl,R1.out,R2.out,O1.out,O2.out⟩⟩
def lq (a b a' b':List ByteArray):(List ByteArray×List ByteArray)×Int:=aB a b a' b' (pK a b a' b')
theorem y9 (w:World) (a b a' b':List ByteArray) (v:Value) (hP:g9 w v a b a' b' ⟨#[]⟩ 0) (hG:Gx w):Calls Tryz.prog 117 #[.func (.func 126) #[] #[],v] w (dJ (lq a b a' b') w):=by
 refine jM 126 v a b a' b' ⟨#[]⟩ 0 _ w hP ⟨aP Tryz.func126 rfl (by kernel_rfl),fun u w' hw' hP' hc hc2=>?_⟩ hG
 obtain⟨ob1,ob7,oa1,oa7,-⟩:=aD hc
 obtain⟨pb1,pb7,pa1,pa7,-⟩:=aD hc2
 exact rh u a b a' b' ⟨#[]⟩ 0 w' hP' (by omega) (by omega) (by omega) (by omega) (by omega) (by omega) (by omega) (by omega) (hG.below hw')
theorem BX (v v':Value) (a b a' b':List ByteArray) (w:World) (hF:IsF w v a b) (hF':IsF w v' a' b') (hG:Gx w) :
  Calls Tryz.prog 52 #[v,v'] w (dJ (lq a b a' b') w):=by
 obtain⟨p,c,q,d,rfl,hfa,hfb⟩:=id hF.ex
 obtain⟨p',c',q',d',rfl,hga,hgb⟩:=id hF'.ex
 go_enter Tryz.func52,Tryz.ntmps52
 go_upto_region 1 with fail
 have cc:=ap w (.slice p a.length c) (.slice q b.length d)
 have m1:=ae w (.cells #[.slice p a.length c,.slice q b.length d] 28)
 have z1:=size_alloc w (.cells #[.slice p a.length c,.slice q b.length d] 28)
 generalize w.alloc (.cells #[.slice p a.length c,.slice q b.length d] 28)=w1 at *
 have cc':=ap w1 (.slice p' a'.length c') (.slice q' b'.length d')
 have m1':=ae w1 (.cells #[.slice p' a'.length c',.slice q' b'.length d'] 28)
 have z1':=size_alloc w1 (.cells #[.slice p' a'.length c',.slice q' b'.length d'] 28)
 have e0:=aa m1' (show w.heap.size<w1.heap.size by omega) cc.1
 have e1:=aa m1' (show w.heap.size<w1.heap.size by omega) cc.2
 generalize w1.alloc (.cells #[.slice p' a'.length c',.slice q' b'.length d'] 28)=w1' at *
 have q2:(w1'.alloc (.cells #[.slice none 0 0,.slice none 0 0] 28)).heap[w1'.heap.size]?=some (.cells #[.slice none 0 0,.slice none 0 0] 28 (0,0)):=heap_alloc_new w1' _
 have m2:=ae w1' (.cells #[.slice none 0 0,.slice none 0 0] 28)
 have z2:=size_alloc w1' (.cells #[.slice none 0 0,.slice none 0 0] 28)
 have c0:=aa m2 (show w.heap.size<w1'.heap.size by omega) e0
 have c1:=aa m2 (show w.heap.size<w1'.heap.size by omega) e1
 have c2:=aa m2 (show w1.heap.size<w1'.heap.size by omega) cc'.1
 have c3:=aa m2 (show w1.heap.size<w1'.heap.size by omega) cc'.2
 generalize w1'.alloc (.cells #[.slice none 0 0,.slice none 0 0] 28)=w2 at *
 rw[z1',z1] at q2
 rw[z1] at c2 c3
 have mm:=m1.trans (m1'.mono m1.size)
 have M2:=BZ (mm.trans (m2.mono mm.size))
 have hz2:w.heap.size+3=w2.heap.size:=by omega
 have hP:g9 w2 (.agg #[.slice p a.length c,.slice q b.length d,.slice p' a'.length c',.slice q' b'.length d',.string ⟨#[]⟩,.int .i64 0]) a b a' b' ⟨#[]⟩ 0 :=
  ⟨⟨p,c,q,d,p',c',q',d',rfl,hfa.below M2.out,hfb.below M2.out,hga.below M2.out,hgb.below M2.out⟩⟩
 have HC:=BZ (y9 w2 a b a' b' _ hP (hG.below M2.out))
 clear m1 z1 m1' z1' m2 z2 mm cc cc' e0 e1 hfa hfb hga hgb hG hF hF' hP
 go_wp2_with fail
 refine HC.out.mono ?_
 rintro e w3 ⟨u,rfl,hu,hb3⟩
 obtain⟨r,hr⟩:∃ r,r=lq a b a' b':=⟨_,rfl⟩
 rw[show lq a b a' b'=r from hr.symm] at hu ⊢
 obtain⟨⟨L1,L2⟩,er⟩:=r
 have HR:=BZ hr
 simp only at hu ⊢
 obtain⟨p1,e1,p2,e2,rfl,g1,g2,o1,o2⟩:=hu.ex
 have hn1:Value.ownBlock (.slice p1 L1.length e1)≠some (w.heap.size+2):=fun e=>by have:=o1 _ e;omega
 have hn2:Value.ownBlock (.slice p2 L2.length e2)≠some (w.heap.size+2):=fun e=>by have:=o2 _ e;omega
 have q3:=(hb3.block (w.heap.size+2) (by omega)).trans q2
 have k0:=ah q3 0
 have k1:=ah q3 1
 have f0:=ay q3 0
 have f1:=ay q3 1
 have R1:=BZ ((g1.other hn1 0 (.slice p1 L1.length e1)).other hn1 1 (.slice p2 L2.length e2))
 have R2:=BZ ((g2.other hn2 0 (.slice p1 L1.length e1)).other hn2 1 (.slice p2 L2.length e2))
 have O1:=BZ (show ∀ g,Value.ownBlock (.slice p1 L1.length e1)=some g→w.heap.size≤g from fun g e=>by have:=o1 _ e;omega)
 have O2:=BZ (show ∀ g,Value.ownBlock (.slice p2 L2.length e2)=some g→w.heap.size≤g from fun g e=>by have:=o2 _ e;omega)
 have M7:=BZ (((M2.out.trans (hb3.mono M2.out.size)).setCell (p:=⟨w.heap.size+2,0,none⟩) (by show w.heap.size≤w.heap.size+2;omega) (.slice p1 L1.length e1)).setCell (p:=⟨w.heap.size+2,1,none⟩) (by show w.heap.size≤w.heap.size+2;omega) (.slice p2 L2.length e2))
 have g0:=bJ q3 (.slice p1 L1.length e1) (.slice p2 L2.length e2)
 have x0:=ah g0 0
 have x1:=ah g0 1
 clear hn1 hn2 g1 g2 o1 o2 q2 q3 hb3 HC hu hr
 go_wp2
 refine bodyPost_ret (v:=.tuple #[.agg #[.slice p1 L1.length e1,.slice p2 L2.length e2],.int .i64 er]) (by simp at x0 x1;simp[results,Tryz.results52,go_sem,x0,x1]) rfl ⟨_,by rw[←HR.out],?_,M7.out⟩
 rw[←HR.out]
 exact⟨⟨p1,e1,p2,e2,rfl,R1.out,R2.out,O1.out,O2.out⟩⟩
def bo (a b a' b':List ByteArray):(List ByteArray×List ByteArray)×Int:=aB a b a' b' (d7 a b a' b')
theorem sT (w:World) (a b a' b':List ByteArray) (v:Value) (hP:g9 w v a b a' b' ⟨#[]⟩ 0) (hG:Gx w):Calls Tryz.prog 117 #[.func (.func 130) #[] #[],v] w (dJ (bo a b a' b') w):=by
 refine jM 130 v a b a' b' ⟨#[]⟩ 0 _ w hP ⟨aP Tryz.func130 rfl (by kernel_rfl),fun u w' hw' hP' hc hc2=>?_⟩ hG
 obtain⟨ob1,ob7,oa1,oa7,-⟩:=aD hc
 obtain⟨pb1,pb7,pa1,pa7,-⟩:=aD hc2
 exact ng u a b a' b' ⟨#[]⟩ 0 w' hP' (by omega) (by omega) (by omega) (by omega) (by omega) (by omega) (by omega) (by omega) (hG.below hw')
theorem uU (v v':Value) (a b a' b':List ByteArray) (w:World) (hF:IsF w v a b) (hF':IsF w v' a' b') (hG:Gx w) :
  Calls Tryz.prog 54 #[v,v'] w (dJ (bo a b a' b') w):=by
 obtain⟨p,c,q,d,rfl,hfa,hfb⟩:=id hF.ex
 obtain⟨p',c',q',d',rfl,hga,hgb⟩:=id hF'.ex
 go_enter Tryz.func54,Tryz.ntmps54
 go_upto_region 1 with fail
 have cc:=ap w (.slice p a.length c) (.slice q b.length d)
 have m1:=ae w (.cells #[.slice p a.length c,.slice q b.length d] 28)
 have z1:=size_alloc w (.cells #[.slice p a.length c,.slice q b.length d] 28)
 generalize w.alloc (.cells #[.slice p a.length c,.slice q b.length d] 28)=w1 at *
 have cc':=ap w1 (.slice p' a'.length c') (.slice q' b'.length d')
 have m1':=ae w1 (.cells #[.slice p' a'.length c',.slice q' b'.length d'] 28)
 have z1':=size_alloc w1 (.cells #[.slice p' a'.length c',.slice q' b'.length d'] 28)
 have e0:=aa m1' (show w.heap.size<w1.heap.size by omega) cc.1
 have e1:=aa m1' (show w.heap.size<w1.heap.size by omega) cc.2
 generalize w1.alloc (.cells #[.slice p' a'.length c',.slice q' b'.length d'] 28)=w1' at *
 have q2:(w1'.alloc (.cells #[.slice none 0 0,.slice none 0 0] 28)).heap[w1'.heap.size]?=some (.cells #[.slice none 0 0,.slice none 0 0] 28 (0,0)):=heap_alloc_new w1' _
 have m2:=ae w1' (.cells #[.slice none 0 0,.slice none 0 0] 28)
 have z2:=size_alloc w1' (.cells #[.slice none 0 0,.slice none 0 0] 28)
 have c0:=aa m2 (show w.heap.size<w1'.heap.size by omega) e0
 have c1:=aa m2 (show w.heap.size<w1'.heap.size by omega) e1
 have c2:=aa m2 (show w1.heap.size<w1'.heap.size by omega) cc'.1
 have c3:=aa m2 (show w1.heap.size<w1'.heap.size by omega) cc'.2
 generalize w1'.alloc (.cells #[.slice none 0 0,.slice none 0 0] 28)=w2 at *
 rw[z1',z1] at q2
 rw[z1] at c2 c3
 have mm:=m1.trans (m1'.mono m1.size)
 have M2:=BZ (mm.trans (m2.mono mm.size))
 have hz2:w.heap.size+3=w2.heap.size:=by omega
 have hP:g9 w2 (.agg #[.slice p a.length c,.slice q b.length d,.slice p' a'.length c',.slice q' b'.length d',.string ⟨#[]⟩,.int .i64 0]) a b a' b' ⟨#[]⟩ 0 :=
  ⟨⟨p,c,q,d,p',c',q',d',rfl,hfa.below M2.out,hfb.below M2.out,hga.below M2.out,hgb.below M2.out⟩⟩
 have HC:=BZ (sT w2 a b a' b' _ hP (hG.below M2.out))
 clear m1 z1 m1' z1' m2 z2 mm cc cc' e0 e1 hfa hfb hga hgb hG hF hF' hP
 go_wp2_with fail
 refine HC.out.mono ?_
 rintro e w3 ⟨u,rfl,hu,hb3⟩
 obtain⟨r,hr⟩:∃ r,r=bo a b a' b':=⟨_,rfl⟩
 rw[show bo a b a' b'=r from hr.symm] at hu ⊢
 obtain⟨⟨L1,L2⟩,er⟩:=r
 have HR:=BZ hr
 simp only at hu ⊢
 obtain⟨p1,e1,p2,e2,rfl,g1,g2,o1,o2⟩:=hu.ex
 have hn1:Value.ownBlock (.slice p1 L1.length e1)≠some (w.heap.size+2):=fun e=>by have:=o1 _ e;omega
 have hn2:Value.ownBlock (.slice p2 L2.length e2)≠some (w.heap.size+2):=fun e=>by have:=o2 _ e;omega
 have q3:=(hb3.block (w.heap.size+2) (by omega)).trans q2
 have k0:=ah q3 0
 have k1:=ah q3 1
 have f0:=ay q3 0
 have f1:=ay q3 1
 have R1:=BZ ((g1.other hn1 0 (.slice p1 L1.length e1)).other hn1 1 (.slice p2 L2.length e2))
 have R2:=BZ ((g2.other hn2 0 (.slice p1 L1.length e1)).other hn2 1 (.slice p2 L2.length e2))
 have O1:=BZ (show ∀ g,Value.ownBlock (.slice p1 L1.length e1)=some g→w.heap.size≤g from fun g e=>by have:=o1 _ e;omega)
 have O2:=BZ (show ∀ g,Value.ownBlock (.slice p2 L2.length e2)=some g→w.heap.size≤g from fun g e=>by have:=o2 _ e;omega)
 have M7:=BZ (((M2.out.trans (hb3.mono M2.out.size)).setCell (p:=⟨w.heap.size+2,0,none⟩) (by show w.heap.size≤w.heap.size+2;omega) (.slice p1 L1.length e1)).setCell (p:=⟨w.heap.size+2,1,none⟩) (by show w.heap.size≤w.heap.size+2;omega) (.slice p2 L2.length e2))
 have g0:=bJ q3 (.slice p1 L1.length e1) (.slice p2 L2.length e2)
 have x0:=ah g0 0
 have x1:=ah g0 1
 clear hn1 hn2 g1 g2 o1 o2 q2 q3 hb3 HC hu hr
 go_wp2
 refine bodyPost_ret (v:=.tuple #[.agg #[.slice p1 L1.length e1,.slice p2 L2.length e2],.int .i64 er]) (by simp at x0 x1;simp[results,Tryz.results54,go_sem,x0,x1]) rfl ⟨_,by rw[←HR.out],?_,M7.out⟩
 rw[←HR.out]
 exact⟨⟨p1,e1,p2,e2,rfl,R1.out,R2.out,O1.out,O2.out⟩⟩
end Go.Proofs.YtdlioncecgnloaaGreatDoor
