/- Lemmas of this claim. -/
import Derived.Test.YtbnkpcfjechfiaaGreatDoorYPM2
import Derived.Test.YtbnkpcfjechfiaaGreatDoorYPD1
import Derived.Test.YtbnkpcfjechfiaaGreatDoorYLH1
set_option linter.all false
set_option maxRecDepth 100000
set_option maxHeartbeats 8000000
namespace Go.Proofs.YtbnkpcfjechfiaaGreatDoor
open Go.RowKit Dg
def nj (fa fb ga gb:List ByteArray):Except Int (List ByteArray×List ByteArray):=.ok (dB fa ga,dB fb gb)
def j0 (fa fb ga gb:List ByteArray):Except Int (List ByteArray×List ByteArray):=.ok (gF (dB fa gb) (dB ga fb),dB fb gb)
theorem qm (a b:List ByteArray):(dB a b).length=a.length+b.length-1:=j4 a b _
theorem tE (v:Value) (fa fb ga gb:List ByteArray) (k:ByteArray) (n:Int) (w:World) (hP:i_ w v fa fb ga gb k n) (h0:0<fa.length) (h1:0<fb.length) (h2:0<ga.length) (h3:0<gb.length) (k0':fa.length<100) (k1':fb.length<100) (k2':ga.length<100) (k3':gb.length<100) (hG:Gx w) :
  Calls Tryz.prog 82 #[v] w (g9 (nj fa fb ga gb) w):=by
 obtain⟨p,c,q,d,p',c',q',d',rfl,hfa,hfb,hga,hgb⟩:=id hP.ex;go_enter Tryz.func82,Tryz.ntmps82;go_upto_region 1 with fail
 have m1:=aq w (.cells #[.slice p fa.length c,.slice q fb.length d,.slice p' ga.length c',.slice q' gb.length d',.string k,.int .i64 n] 97);have z1:=size_alloc w (.cells #[.slice p fa.length c,.slice q fb.length d,.slice p' ga.length c',.slice q' gb.length d',.string k,.int .i64 n] 97);have a0:=fun j u h=>aE w #[.slice p fa.length c,.slice q fb.length d,.slice p' ga.length c',.slice q' gb.length d',.string k,.int .i64 n] 97 j u h;generalize w.alloc (.cells #[.slice p fa.length c,.slice q fb.length d,.slice p' ga.length c',.slice q' gb.length d',.string k,.int .i64 n] 97)=w1 at *
 have q2:(w1.alloc (.cells #[.slice none 0 0,.slice none 0 0] 24)).heap[w1.heap.size]?=some (.cells #[.slice none 0 0,.slice none 0 0] 24 (0,0)):=heap_alloc_new w1 _;have m2:=aq w1 (.cells #[.slice none 0 0,.slice none 0 0] 24);have z2:=size_alloc w1 (.cells #[.slice none 0 0,.slice none 0 0] 24);have hlt:w.heap.size<w1.heap.size:=by omega
 have b0:=ag m2 hlt (a0 0 _ rfl);have b1:=ag m2 hlt (a0 1 _ rfl);have b2:=ag m2 hlt (a0 2 _ rfl);have b3:=ag m2 hlt (a0 3 _ rfl);generalize w1.alloc (.cells #[.slice none 0 0,.slice none 0 0] 24)=w2 at *
 rw[z1] at q2;have M2:=Fi (m1.trans (m2.mono m1.size));have HZ2:=Fi (show w.heap.size+2=w2.heap.size by omega);have hl2:w.heap.size<w2.heap.size:=by omega
 have HQ2:=Fi q2;have HFA:=Fi (hfa.below M2.out);have HFB:=Fi (hfb.below M2.out);have HGA:=Fi (hga.below M2.out);have HGB:=Fi (hgb.below M2.out);have HG:=Fi (hG.below M2.out).g;clear m1 z1 a0 m2 z2 hfa hfb hga hgb hP hG hlt q2;have HR:=Fi (show nj fa fb ga gb=.ok (dB fa ga,dB fb gb) from rfl);have hbd:Below w2.heap.size w2 w2.drew:=(Below.refl _ _).drew;refine aw (fun w'=>∃ x:Off (w.heap.size+1) w2,w'=x.w) (fun j=>j == 6||j == 13||j == 15) (by kernel_rfl) (by kernel_rfl) (Off.below hbd) ?_;have c0:=fun x:Off (w.heap.size+1) w2=>x.cell hl2 (by omega) b0;have c1:=fun x:Off (w.heap.size+1) w2=>x.cell hl2 (by omega) b1;have c2:=fun x:Off (w.heap.size+1) w2=>x.cell hl2 (by omega) b2;have c3:=fun x:Off (w.heap.size+1) w2=>x.cell hl2 (by omega) b3;clear b0 b1 b2 b3;generalize w2.drew=wd at *
 have HC1:=Fi (jA _ _ fa ga wd (HFA.out.below hbd) (HGA.out.below hbd) h0 h2 (by omega) (by omega) (HG.out.below hbd));refine ak 6 0 _ _ _ (by kernel_rfl) ?_;simp only[Fr,Fv,Fs,Fu];repeat (go_big_quiet_step (fail))
 refine wpQuiet_nil ?_;refine ap rfl rfl (fun K hK=>?_);go_simp;refine HC1.out.mono ?_;rintro e w4 ⟨u1,rfl,hu1,hb4⟩;have hB4:=hbd.trans (hb4.mono hbd.size);refine hK _ _ (Off.below hB4) ?_;clear hK K HC1;try simp only[Act.put,Fm,Fl,Fk,Fj,Fo,Fp]
 have HC2:=Fi (jA _ _ fb gb w4 (HFB.out.below hB4) (HGB.out.below hB4) h1 h3 (by omega) (by omega) (HG.out.below hB4));have hu1b:bW w4 w2.heap.size u1 (dB fa ga):=hu1.lowerS hbd.size;obtain⟨L1,hL1⟩:∃ L,L=dB fa ga:=⟨_,rfl⟩;obtain⟨L2,hL2⟩:∃ L,L=dB fb gb:=⟨_,rfl⟩;rw[←hL1] at hu1b;rw[←hL1,←hL2] at HR;rw[←hL2] at HC2;clear hb4 hbd hu1 hL1 hL2;refine ak 6 7 _ _ _ (by kernel_rfl) ?_;simp only[Fr,Fv,Fs,Fu];repeat (go_big_quiet_step (fail))
 refine wpQuiet_nil ?_;refine ap rfl rfl (fun K hK=>?_);go_simp;refine HC2.out.mono ?_;rintro e w6 ⟨u2,rfl,hu2,hb6⟩;have hB6:=hB4.trans (hb6.mono hB4.size);refine hK _ _ (Off.below hB6) ?_;clear hK K;try simp only[Act.put,Fm,Fl,Fk,Fj,Fo,Fp]
 have hk1:bW w6 w2.heap.size u1 L1:=hu1b.below hb6;have hs2:=HZ2.out;have hs4:=hB4.size;obtain⟨p1,c1',rfl,-⟩:=id hk1.isS.form;obtain⟨p2,c2',rfl,-⟩:=id hu2.isS.form;have hn1:Value.ownBlock (.slice p1 L1.length c1')≠some (w.heap.size+1):=fun e=>by have:=(World.ownsRow.lt hk1 _ e).1;omega
 have hn2:Value.ownBlock (.slice p2 L2.length c2')≠some (w.heap.size+1):=fun e=>by have:=(World.ownsRow.lt hu2 _ e).1;omega
 have O1:=Fi (show ∀ g,Value.ownBlock (.slice p1 L1.length c1')=some g→w.heap.size≤g from fun g e=>by have:=(World.ownsRow.lt hk1 _ e).1;omega);have O2:=Fi (show ∀ g,Value.ownBlock (.slice p2 L2.length c2')=some g→w.heap.size≤g from fun g e=>by have:=(World.ownsRow.lt hu2 _ e).1;omega);have q7:=(hB6.block (w.heap.size+1) (by omega)).trans HQ2.out;have k0:=ah q7 0;have k1:=ah q7 1;have f0:=av q7 0;have f1:=av q7 1;have R1:=Fi ((hk1.isS.other hn1 0 (.slice p1 L1.length c1')).other hn1 1 (.slice p2 L2.length c2'));have R2:=Fi ((hu2.isS.other hn2 0 (.slice p1 L1.length c1')).other hn2 1 (.slice p2 L2.length c2'));have M7:=Fi (((M2.out.trans (hB6.mono M2.out.size)).setCell (p:=⟨w.heap.size+1,0,none⟩) (FS _) (.slice p1 L1.length c1')).setCell (p:=⟨w.heap.size+1,1,none⟩) (FS _) (.slice p2 L2.length c2'));have hOff:=Off.set (g:=w.heap.size+1) (Off.set (g:=w.heap.size+1) (Off.below hB6) 0 (.slice p1 L1.length c1')) 1 (.slice p2 L2.length c2');have g0:=aT q7 (.slice p1 L1.length c1') (.slice p2 L2.length c2');clear hn1 hn2 hk1 hu2 q7 hB6 hb6 hu1b hB4 hs2 hs4;refine ak 1 14 _ _ _ (by kernel_rfl) ?_;simp only[Fr,Fv,Fs,Fu];repeat (go_big_quiet_step (fail))
 refine wpQuiet_nil ?_;refine ap rfl rfl (fun K hK=>?_);go_simp;refine hK undef _ hOff ?_;clear hK K;try simp only[Act.put,Fm,Fl,Fk,Fj,Fo,Fp]
 refine aD ?_;have x0:=ah g0 0;have x1:=ah g0 1;go_wp2_with fail
 refine bodyPost_ret (v:=.agg #[.slice p1 L1.length c1',.slice p2 L2.length c2']) (by simp at x0 x1;simp[results,Tryz.results82,go_sem,x0,x1]) rfl ⟨M7.out,?_⟩;rw[HR.out];exact⟨_,rfl,⟨p1,c1',p2,c2',rfl,R1.out,R2.out,O1.out,O2.out⟩⟩
theorem pt (v:Value) (fa fb ga gb:List ByteArray) (k:ByteArray) (n:Int) (w:World) (hP:i_ w v fa fb ga gb k n) (h0:0<fa.length) (h1:0<fb.length) (h2:0<ga.length) (h3:0<gb.length) (k0':fa.length<100) (k1':fb.length<100) (k2':ga.length<100) (k3':gb.length<100) (hG:Gx w) :
  Calls Tryz.prog 86 #[v] w (g9 (j0 fa fb ga gb) w):=by
 obtain⟨p,c,q,d,p',c',q',d',rfl,hfa,hfb,hga,hgb⟩:=id hP.ex;go_enter Tryz.func86,Tryz.ntmps86;go_upto_region 1 with fail
 have m1:=aq w (.cells #[.slice p fa.length c,.slice q fb.length d,.slice p' ga.length c',.slice q' gb.length d',.string k,.int .i64 n] 97);have z1:=size_alloc w (.cells #[.slice p fa.length c,.slice q fb.length d,.slice p' ga.length c',.slice q' gb.length d',.string k,.int .i64 n] 97);have a0:=fun j u h=>aE w #[.slice p fa.length c,.slice q fb.length d,.slice p' ga.length c',.slice q' gb.length d',.string k,.int .i64 n] 97 j u h;generalize w.alloc (.cells #[.slice p fa.length c,.slice q fb.length d,.slice p' ga.length c',.slice q' gb.length d',.string k,.int .i64 n] 97)=w1 at *
 have q2:(w1.alloc (.cells #[.slice none 0 0,.slice none 0 0] 24)).heap[w1.heap.size]?=some (.cells #[.slice none 0 0,.slice none 0 0] 24 (0,0)):=heap_alloc_new w1 _;have m2:=aq w1 (.cells #[.slice none 0 0,.slice none 0 0] 24);have z2:=size_alloc w1 (.cells #[.slice none 0 0,.slice none 0 0] 24);have hlt:w.heap.size<w1.heap.size:=by omega
 have b0:=ag m2 hlt (a0 0 _ rfl);have b1:=ag m2 hlt (a0 1 _ rfl);have b2:=ag m2 hlt (a0 2 _ rfl);have b3:=ag m2 hlt (a0 3 _ rfl);generalize w1.alloc (.cells #[.slice none 0 0,.slice none 0 0] 24)=w2 at *
 rw[z1] at q2;have M2:=Fi (m1.trans (m2.mono m1.size));have HZ2:=Fi (show w.heap.size+2=w2.heap.size by omega);have hl2:w.heap.size<w2.heap.size:=by omega
 have HQ2:=Fi q2;have HFA:=Fi (hfa.below M2.out);have HFB:=Fi (hfb.below M2.out);have HGA:=Fi (hga.below M2.out);have HGB:=Fi (hgb.below M2.out);have HG:=Fi (hG.below M2.out).g;clear m1 z1 a0 m2 z2 hfa hfb hga hgb hP hG hlt q2;have HR:=Fi (show j0 fa fb ga gb=.ok (gF (dB fa gb) (dB ga fb),dB fb gb) from rfl);have hbd:Below w2.heap.size w2 w2.drew:=(Below.refl _ _).drew;refine aw (fun w'=>∃ x:Off (w.heap.size+1) w2,w'=x.w) (fun j=>j == 6||j == 13) (by kernel_rfl) (by kernel_rfl) (Off.below hbd) ?_;have c0:=fun x:Off (w.heap.size+1) w2=>x.cell hl2 (by omega) b0;have c1:=fun x:Off (w.heap.size+1) w2=>x.cell hl2 (by omega) b1;have c2:=fun x:Off (w.heap.size+1) w2=>x.cell hl2 (by omega) b2;have c3:=fun x:Off (w.heap.size+1) w2=>x.cell hl2 (by omega) b3;clear b0 b1 b2 b3;generalize w2.drew=wd at *
 have HC1:=Fi (jA _ _ fa gb wd (HFA.out.below hbd) (HGB.out.below hbd) h0 h3 (by omega) (by omega) (HG.out.below hbd));refine ak 6 0 _ _ _ (by kernel_rfl) ?_;simp only[Fr,Fv,Fs,Fu];repeat (go_big_quiet_step (fail))
 refine wpQuiet_nil ?_;refine ap rfl rfl (fun K hK=>?_);go_simp;refine HC1.out.mono ?_;rintro e w4 ⟨u1,rfl,hu1,hb4⟩;have hB4:=hbd.trans (hb4.mono hbd.size);refine hK _ _ (Off.below hB4) ?_;clear hK K HC1;try simp only[Act.put,Fm,Fl,Fk,Fj,Fo,Fp]
 have HC2:=Fi (jA _ _ ga fb w4 (HGA.out.below hB4) (HFB.out.below hB4) h2 h1 (by omega) (by omega) (HG.out.below hB4));clear hbd;refine ak 6 7 _ _ _ (by kernel_rfl) ?_;simp only[Fr,Fv,Fs,Fu];repeat (go_big_quiet_step (fail))
 refine wpQuiet_nil ?_;refine ap rfl rfl (fun K hK=>?_);go_simp;refine HC2.out.mono ?_;rintro e w6 ⟨u2,rfl,hu2,hb6⟩;have hB6:=hB4.trans (hb6.mono hB4.size);refine hK _ _ (Off.below hB6) ?_;clear hK K HC2;try simp only[Act.put,Fm,Fl,Fk,Fj,Fo,Fp]
 have hu1b:=hu1.below hb6;clear hu1 hb4 hb6 hB4;refine ak 2 14 _ _ _ (by kernel_rfl) ?_;simp only[Fr,Fv,Fs,Fu];repeat (go_big_quiet_step (fail))
 refine wpQuiet_nil ?_;refine aD ?_;obtain⟨L3,hL3⟩:∃ L,L=dB fa gb:=⟨_,rfl⟩;obtain⟨L4,hL4⟩:∃ L,L=dB ga fb:=⟨_,rfl⟩;have l3:L3.length<1000:=by rw[hL3,qm];omega
 have l4:L4.length<1000:=by rw[hL4,qm];omega
 rw[←hL3] at hu1b;rw[←hL4] at hu2;rw[←hL3,←hL4] at HR;have HU1:=Fi hu1b.isS;have HU2:=Fi hu2.isS;clear hL3 hL4 hu1b hu2;go_upto_region 2 with fail
 have hbd:=hB6.drew;have hd6:Below w6.heap.size w6 w6.drew:=(Below.refl _ _).drew;refine aw (fun w'=>∃ x:Off (w.heap.size+1) w2,w'=x.w) (fun j=>j == 2||j == 9||j == 11) (by kernel_rfl) (by kernel_rfl) (Off.below hbd) ?_;have HC1:=Fi (EE _ _ L3 L4 w6.drew (HU1.out.below hd6) (HU2.out.below hd6) (by omega) (by omega) (HG.out.below hbd));clear HU1 HU2 hB6 hd6 l3 l4;generalize w6.drew=wd2 at *
 refine ak 2 0 _ _ _ (by kernel_rfl) ?_;simp only[Fr,Fv,Fs,Fu];repeat (go_big_quiet_step (fail))
 refine wpQuiet_nil ?_;refine ap rfl rfl (fun K hK=>?_);go_simp;refine HC1.out.mono ?_;rintro e w7 ⟨u3,rfl,hu3,hb7⟩;have hB4:=hbd.trans (hb7.mono hbd.size);refine hK _ _ (Off.below hB4) ?_;clear hK K HC1;try simp only[Act.put,Fm,Fl,Fk,Fj,Fo,Fp]
 have HC2:=Fi (jA _ _ fb gb w7 (HFB.out.below hB4) (HGB.out.below hB4) h1 h3 (by omega) (by omega) (HG.out.below hB4));have hu1b:bW w7 w2.heap.size u3 (gF L3 L4):=hu3.lowerS hbd.size;obtain⟨L1,hL1⟩:∃ L,L=gF L3 L4:=⟨_,rfl⟩;obtain⟨L2,hL2⟩:∃ L,L=dB fb gb:=⟨_,rfl⟩;rw[←hL1] at hu1b;rw[←hL1,←hL2] at HR;rw[←hL2] at HC2;clear hb7 hbd hu3 hL1 hL2;refine ak 6 3 _ _ _ (by kernel_rfl) ?_;simp only[Fr,Fv,Fs,Fu];repeat (go_big_quiet_step (fail))
 refine wpQuiet_nil ?_;refine ap rfl rfl (fun K hK=>?_);go_simp;refine HC2.out.mono ?_;rintro e w6 ⟨u2,rfl,hu2,hb6⟩;have hB6:=hB4.trans (hb6.mono hB4.size);refine hK _ _ (Off.below hB6) ?_;clear hK K;try simp only[Act.put,Fm,Fl,Fk,Fj,Fo,Fp]
 have hk1:bW w6 w2.heap.size u3 L1:=hu1b.below hb6;have hs2:=HZ2.out;have hs4:=hB4.size;obtain⟨p1,c1',rfl,-⟩:=id hk1.isS.form;obtain⟨p2,c2',rfl,-⟩:=id hu2.isS.form;have hn1:Value.ownBlock (.slice p1 L1.length c1')≠some (w.heap.size+1):=fun e=>by have:=(World.ownsRow.lt hk1 _ e).1;omega
 have hn2:Value.ownBlock (.slice p2 L2.length c2')≠some (w.heap.size+1):=fun e=>by have:=(World.ownsRow.lt hu2 _ e).1;omega
 have O1:=Fi (show ∀ g,Value.ownBlock (.slice p1 L1.length c1')=some g→w.heap.size≤g from fun g e=>by have:=(World.ownsRow.lt hk1 _ e).1;omega);have O2:=Fi (show ∀ g,Value.ownBlock (.slice p2 L2.length c2')=some g→w.heap.size≤g from fun g e=>by have:=(World.ownsRow.lt hu2 _ e).1;omega);have q7:=(hB6.block (w.heap.size+1) (by omega)).trans HQ2.out;have k0:=ah q7 0;have k1:=ah q7 1;have f0:=av q7 0;have f1:=av q7 1;have R1:=Fi ((hk1.isS.other hn1 0 (.slice p1 L1.length c1')).other hn1 1 (.slice p2 L2.length c2'));have R2:=Fi ((hu2.isS.other hn2 0 (.slice p1 L1.length c1')).other hn2 1 (.slice p2 L2.length c2'));have M7:=Fi (((M2.out.trans (hB6.mono M2.out.size)).setCell (p:=⟨w.heap.size+1,0,none⟩) (FS _) (.slice p1 L1.length c1')).setCell (p:=⟨w.heap.size+1,1,none⟩) (FS _) (.slice p2 L2.length c2'));have hOff:=Off.set (g:=w.heap.size+1) (Off.set (g:=w.heap.size+1) (Off.below hB6) 0 (.slice p1 L1.length c1')) 1 (.slice p2 L2.length c2');have g0:=aT q7 (.slice p1 L1.length c1') (.slice p2 L2.length c2');clear hn1 hn2 hk1 hu2 q7 hB6 hb6 hu1b hB4 hs2 hs4;refine ak 1 10 _ _ _ (by kernel_rfl) ?_;simp only[Fr,Fv,Fs,Fu];repeat (go_big_quiet_step (fail))
 refine wpQuiet_nil ?_;refine ap rfl rfl (fun K hK=>?_);go_simp;refine hK undef _ hOff ?_;clear hK K;try simp only[Act.put,Fm,Fl,Fk,Fj,Fo,Fp]
 refine aD ?_;have x0:=ah g0 0;have x1:=ah g0 1;go_wp2_with fail
 refine bodyPost_ret (v:=.agg #[.slice p1 L1.length c1',.slice p2 L2.length c2']) (by simp at x0 x1;simp[results,Tryz.results86,go_sem,x0,x1]) rfl ⟨M7.out,?_⟩;rw[HR.out];exact⟨_,rfl,⟨p1,c1',p2,c2',rfl,R1.out,R2.out,O1.out,O2.out⟩⟩
def d_ (a b a' b':List ByteArray):(List ByteArray×List ByteArray)×Int:=a6 a b a' b' (nj a b a' b')
theorem BR (w:World) (a b a' b':List ByteArray) (v:Value) (hP:i_ w v a b a' b' ⟨#[]⟩ 0) (hG:Gx w):Calls Tryz.prog 71 #[.func (.func 82) #[] #[],v] w (eF (d_ a b a' b') w):=by
 refine kR 82 v a b a' b' ⟨#[]⟩ 0 _ w hP ⟨bj Tryz.func82 rfl (by kernel_rfl),fun u w' hw' hP' hc hc2=>?_⟩ hG;obtain⟨ob1,ob7,oa1,oa7,-⟩:=aZ hc;obtain⟨pb1,pb7,pa1,pa7,-⟩:=aZ hc2;exact tE u a b a' b' ⟨#[]⟩ 0 w' hP' (by omega) (by omega) (by omega) (by omega) (by omega) (by omega) (by omega) (by omega) (hG.below hw')
theorem Cy (v v':Value) (a b a' b':List ByteArray) (w:World) (hF:IsF w v a b) (hF':IsF w v' a' b') (hG:Gx w) :
  Calls Tryz.prog 32 #[v,v'] w (eF (d_ a b a' b') w):=by
 obtain⟨p,c,q,d,rfl,hfa,hfb⟩:=id hF.ex;obtain⟨p',c',q',d',rfl,hga,hgb⟩:=id hF'.ex;go_enter Tryz.func32,Tryz.ntmps32;go_upto_region 1 with fail
 have cc:=aG w (.slice p a.length c) (.slice q b.length d);have m1:=aq w (.cells #[.slice p a.length c,.slice q b.length d] 24);have z1:=size_alloc w (.cells #[.slice p a.length c,.slice q b.length d] 24);generalize w.alloc (.cells #[.slice p a.length c,.slice q b.length d] 24)=w1 at *
 have cc':=aG w1 (.slice p' a'.length c') (.slice q' b'.length d');have m1':=aq w1 (.cells #[.slice p' a'.length c',.slice q' b'.length d'] 24);have z1':=size_alloc w1 (.cells #[.slice p' a'.length c',.slice q' b'.length d'] 24);have e0:=ag m1' (show w.heap.size<w1.heap.size by omega) cc.1;have e1:=ag m1' (show w.heap.size<w1.heap.size by omega) cc.2;generalize w1.alloc (.cells #[.slice p' a'.length c',.slice q' b'.length d'] 24)=w1' at *
 have q2:(w1'.alloc (.cells #[.slice none 0 0,.slice none 0 0] 24)).heap[w1'.heap.size]?=some (.cells #[.slice none 0 0,.slice none 0 0] 24 (0,0)):=heap_alloc_new w1' _;have m2:=aq w1' (.cells #[.slice none 0 0,.slice none 0 0] 24);have z2:=size_alloc w1' (.cells #[.slice none 0 0,.slice none 0 0] 24);have c0:=ag m2 (show w.heap.size<w1'.heap.size by omega) e0;have c1:=ag m2 (show w.heap.size<w1'.heap.size by omega) e1;have c2:=ag m2 (show w1.heap.size<w1'.heap.size by omega) cc'.1;have c3:=ag m2 (show w1.heap.size<w1'.heap.size by omega) cc'.2;generalize w1'.alloc (.cells #[.slice none 0 0,.slice none 0 0] 24)=w2 at *
 rw[z1',z1] at q2;rw[z1] at c2 c3;have mm:=m1.trans (m1'.mono m1.size);have M2:=Fi (mm.trans (m2.mono mm.size));have hz2:w.heap.size+3=w2.heap.size:=by omega
 have hP:i_ w2 (.agg #[.slice p a.length c,.slice q b.length d,.slice p' a'.length c',.slice q' b'.length d',.string ⟨#[]⟩,.int .i64 0]) a b a' b' ⟨#[]⟩ 0 :=
  ⟨⟨p,c,q,d,p',c',q',d',rfl,hfa.below M2.out,hfb.below M2.out,hga.below M2.out,hgb.below M2.out⟩⟩
 have HC:=Fi (BR w2 a b a' b' _ hP (hG.below M2.out));clear m1 z1 m1' z1' m2 z2 mm cc cc' e0 e1 hfa hfb hga hgb hG hF hF' hP;go_wp2_with fail
 refine HC.out.mono ?_;rintro e w3 ⟨u,rfl,hu,hb3⟩;obtain⟨r,hr⟩:∃ r,r=d_ a b a' b':=⟨_,rfl⟩;rw[show d_ a b a' b'=r from hr.symm] at hu ⊢;obtain⟨⟨L1,L2⟩,er⟩:=r;have HR:=Fi hr;simp only at hu ⊢;obtain⟨p1,e1,p2,e2,rfl,g1,g2,o1,o2⟩:=hu.ex;have hn1:Value.ownBlock (.slice p1 L1.length e1)≠some (w.heap.size+2):=fun e=>by have:=o1 _ e;omega
 have hn2:Value.ownBlock (.slice p2 L2.length e2)≠some (w.heap.size+2):=fun e=>by have:=o2 _ e;omega
 have q3:=(hb3.block (w.heap.size+2) (by omega)).trans q2;have k0:=ah q3 0;have k1:=ah q3 1;have f0:=av q3 0;have f1:=av q3 1;have R1:=Fi ((g1.other hn1 0 (.slice p1 L1.length e1)).other hn1 1 (.slice p2 L2.length e2));have R2:=Fi ((g2.other hn2 0 (.slice p1 L1.length e1)).other hn2 1 (.slice p2 L2.length e2));have O1:=Fi (show ∀ g,Value.ownBlock (.slice p1 L1.length e1)=some g→w.heap.size≤g from fun g e=>by have:=o1 _ e;omega);have O2:=Fi (show ∀ g,Value.ownBlock (.slice p2 L2.length e2)=some g→w.heap.size≤g from fun g e=>by have:=o2 _ e;omega);have M7:=Fi (((M2.out.trans (hb3.mono M2.out.size)).setCell (p:=⟨w.heap.size+2,0,none⟩) (by show w.heap.size≤w.heap.size+2;omega) (.slice p1 L1.length e1)).setCell (p:=⟨w.heap.size+2,1,none⟩) (by show w.heap.size≤w.heap.size+2;omega) (.slice p2 L2.length e2));have g0:=aT q3 (.slice p1 L1.length e1) (.slice p2 L2.length e2);have x0:=ah g0 0;have x1:=ah g0 1;clear hn1 hn2 g1 g2 o1 o2 q2 q3 hb3 HC hu hr;go_wp2;refine bodyPost_ret (v:=.tuple #[.agg #[.slice p1 L1.length e1,.slice p2 L2.length e2],.int .i64 er]) (by simp at x0 x1;simp[results,Tryz.results32,go_sem,x0,x1]) rfl ⟨_,by rw[←HR.out],?_,M7.out⟩;rw[←HR.out];exact⟨⟨p1,e1,p2,e2,rfl,R1.out,R2.out,O1.out,O2.out⟩⟩
def cZ (a b a' b':List ByteArray):(List ByteArray×List ByteArray)×Int:=a6 a b a' b' (j0 a b a' b')
theorem vh (w:World) (a b a' b':List ByteArray) (v:Value) (hP:i_ w v a b a' b' ⟨#[]⟩ 0) (hG:Gx w):Calls Tryz.prog 71 #[.func (.func 86) #[] #[],v] w (eF (cZ a b a' b') w):=by
 refine kR 86 v a b a' b' ⟨#[]⟩ 0 _ w hP ⟨bj Tryz.func86 rfl (by kernel_rfl),fun u w' hw' hP' hc hc2=>?_⟩ hG;obtain⟨ob1,ob7,oa1,oa7,-⟩:=aZ hc;obtain⟨pb1,pb7,pa1,pa7,-⟩:=aZ hc2;exact pt u a b a' b' ⟨#[]⟩ 0 w' hP' (by omega) (by omega) (by omega) (by omega) (by omega) (by omega) (by omega) (by omega) (hG.below hw')
theorem xI (v v':Value) (a b a' b':List ByteArray) (w:World) (hF:IsF w v a b) (hF':IsF w v' a' b') (hG:Gx w) :
  Calls Tryz.prog 34 #[v,v'] w (eF (cZ a b a' b') w):=by
 obtain⟨p,c,q,d,rfl,hfa,hfb⟩:=id hF.ex;obtain⟨p',c',q',d',rfl,hga,hgb⟩:=id hF'.ex;go_enter Tryz.func34,Tryz.ntmps34;go_upto_region 1 with fail
 have cc:=aG w (.slice p a.length c) (.slice q b.length d);have m1:=aq w (.cells #[.slice p a.length c,.slice q b.length d] 24);have z1:=size_alloc w (.cells #[.slice p a.length c,.slice q b.length d] 24);generalize w.alloc (.cells #[.slice p a.length c,.slice q b.length d] 24)=w1 at *
 have cc':=aG w1 (.slice p' a'.length c') (.slice q' b'.length d');have m1':=aq w1 (.cells #[.slice p' a'.length c',.slice q' b'.length d'] 24);have z1':=size_alloc w1 (.cells #[.slice p' a'.length c',.slice q' b'.length d'] 24);have e0:=ag m1' (show w.heap.size<w1.heap.size by omega) cc.1;have e1:=ag m1' (show w.heap.size<w1.heap.size by omega) cc.2;generalize w1.alloc (.cells #[.slice p' a'.length c',.slice q' b'.length d'] 24)=w1' at *
 have q2:(w1'.alloc (.cells #[.slice none 0 0,.slice none 0 0] 24)).heap[w1'.heap.size]?=some (.cells #[.slice none 0 0,.slice none 0 0] 24 (0,0)):=heap_alloc_new w1' _;have m2:=aq w1' (.cells #[.slice none 0 0,.slice none 0 0] 24);have z2:=size_alloc w1' (.cells #[.slice none 0 0,.slice none 0 0] 24);have c0:=ag m2 (show w.heap.size<w1'.heap.size by omega) e0;have c1:=ag m2 (show w.heap.size<w1'.heap.size by omega) e1;have c2:=ag m2 (show w1.heap.size<w1'.heap.size by omega) cc'.1;have c3:=ag m2 (show w1.heap.size<w1'.heap.size by omega) cc'.2;generalize w1'.alloc (.cells #[.slice none 0 0,.slice none 0 0] 24)=w2 at *
 rw[z1',z1] at q2;rw[z1] at c2 c3;have mm:=m1.trans (m1'.mono m1.size);have M2:=Fi (mm.trans (m2.mono mm.size));have hz2:w.heap.size+3=w2.heap.size:=by omega
 have hP:i_ w2 (.agg #[.slice p a.length c,.slice q b.length d,.slice p' a'.length c',.slice q' b'.length d',.string ⟨#[]⟩,.int .i64 0]) a b a' b' ⟨#[]⟩ 0 :=
  ⟨⟨p,c,q,d,p',c',q',d',rfl,hfa.below M2.out,hfb.below M2.out,hga.below M2.out,hgb.below M2.out⟩⟩
 have HC:=Fi (vh w2 a b a' b' _ hP (hG.below M2.out));clear m1 z1 m1' z1' m2 z2 mm cc cc' e0 e1 hfa hfb hga hgb hG hF hF' hP;go_wp2_with fail
 refine HC.out.mono ?_;rintro e w3 ⟨u,rfl,hu,hb3⟩;obtain⟨r,hr⟩:∃ r,r=cZ a b a' b':=⟨_,rfl⟩;rw[show cZ a b a' b'=r from hr.symm] at hu ⊢;obtain⟨⟨L1,L2⟩,er⟩:=r;have HR:=Fi hr;simp only at hu ⊢;obtain⟨p1,e1,p2,e2,rfl,g1,g2,o1,o2⟩:=hu.ex;have hn1:Value.ownBlock (.slice p1 L1.length e1)≠some (w.heap.size+2):=fun e=>by have:=o1 _ e;omega
 have hn2:Value.ownBlock (.slice p2 L2.length e2)≠some (w.heap.size+2):=fun e=>by have:=o2 _ e;omega
 have q3:=(hb3.block (w.heap.size+2) (by omega)).trans q2;have k0:=ah q3 0;have k1:=ah q3 1;have f0:=av q3 0;have f1:=av q3 1;have R1:=Fi ((g1.other hn1 0 (.slice p1 L1.length e1)).other hn1 1 (.slice p2 L2.length e2));have R2:=Fi ((g2.other hn2 0 (.slice p1 L1.length e1)).other hn2 1 (.slice p2 L2.length e2));have O1:=Fi (show ∀ g,Value.ownBlock (.slice p1 L1.length e1)=some g→w.heap.size≤g from fun g e=>by have:=o1 _ e;omega);have O2:=Fi (show ∀ g,Value.ownBlock (.slice p2 L2.length e2)=some g→w.heap.size≤g from fun g e=>by have:=o2 _ e;omega);have M7:=Fi (((M2.out.trans (hb3.mono M2.out.size)).setCell (p:=⟨w.heap.size+2,0,none⟩) (by show w.heap.size≤w.heap.size+2;omega) (.slice p1 L1.length e1)).setCell (p:=⟨w.heap.size+2,1,none⟩) (by show w.heap.size≤w.heap.size+2;omega) (.slice p2 L2.length e2));have g0:=aT q3 (.slice p1 L1.length e1) (.slice p2 L2.length e2);have x0:=ah g0 0;have x1:=ah g0 1;clear hn1 hn2 g1 g2 o1 o2 q2 q3 hb3 HC hu hr;go_wp2;refine bodyPost_ret (v:=.tuple #[.agg #[.slice p1 L1.length e1,.slice p2 L2.length e2],.int .i64 er]) (by simp at x0 x1;simp[results,Tryz.results34,go_sem,x0,x1]) rfl ⟨_,by rw[←HR.out],?_,M7.out⟩;rw[←HR.out];exact⟨⟨p1,e1,p2,e2,rfl,R1.out,R2.out,O1.out,O2.out⟩⟩
open Go.RowKit Dg Dc
def ja (w:CQ):Nat→CQ
 | 0=>CQ.real 1
 | j+1=>(ja w j).mul w
theorem CQ.zero_mul (a:CQ):(⟨0,0⟩:CQ).mul a=⟨0,0⟩:=by
 obtain⟨x,y⟩:=a;unfold CQ.mul;congr 1<;>grind
theorem zl (e w:CQ) (q c:Rat):(e.mul w).add (CQ.real (q+c))=((e.mul w).add (CQ.real q)).add ((CQ.real c).mul (CQ.real 1)):=by
 obtain⟨x,y⟩:=e;obtain⟨u,v⟩:=w;simp only[CQ.add,CQ.mul,CQ.real,CQ.mk.injEq];constructor<;>grind
theorem qx (e w p:CQ) (q c:Rat):((e.add ((CQ.real c).mul p)).mul w).add (CQ.real q)=((e.mul w).add (CQ.real q)).add ((CQ.real c).mul (p.mul w)):=by
 obtain⟨x,y⟩:=e;obtain⟨u,v⟩:=w;obtain⟨s,t⟩:=p;simp only[CQ.add,CQ.mul,CQ.real,CQ.mk.injEq];constructor<;>grind
theorem gP (w:CQ) (q:Rat) (l:List Rat):evQ w (q :: l)=((evQ w l).mul w).add (CQ.real q):=rfl
theorem Ay (w:CQ) (c:Rat):∀ (l:List Rat) (j:Nat),j<l.length→evQ w (l.set j (l.getD j 0+c))=(evQ w l).add ((CQ.real c).mul (ja w j))
 | [],_,h=>by simp at h
 | q :: l,0,_=>by
  rw[Fo,gP,gP];exact zl _ _ _ _
 | q :: l,j+1,h=>by
  rw[Fp,gP,gP,show (q :: l).getD (j+1) 0=l.getD j 0 from by simp,Ay w c l j (by simpa using h)];exact qx _ _ _ _ _
theorem qW (w:CQ) (c:Rat):∀ l:List Rat,evQ w (l++[c])=(evQ w l).add ((CQ.real c).mul (ja w l.length))
 | []=>by
  show (((⟨0,0⟩:CQ).mul w).add (CQ.real c))=(⟨0,0⟩:CQ).add ((CQ.real c).mul (CQ.real 1))
  obtain⟨u,v⟩:=w;simp only[CQ.add,CQ.mul,CQ.real,CQ.mk.injEq];constructor<;>grind
 | q :: l=>by
  rw[Gc,gP,gP,qW w c l];exact qx _ _ _ _ _
theorem pow_add (w:CQ) (i:Nat):∀ k,ja w (i+k)=(ja w i).mul (ja w k)
 | 0=>by
  show ja w i=(ja w i).mul (CQ.real 1)
  rw[CQ.mul_one]
 | k+1=>by
  show (ja w (i+k)).mul w=(ja w i).mul ((ja w k).mul w)
  rw[pow_add w i k];generalize ja w i=p;generalize ja w k=q;obtain⟨x,y⟩:=p;obtain⟨u,v⟩:=w;obtain⟨s,t⟩:=q;simp only[CQ.mul,CQ.mk.injEq];constructor<;>grind
def gY (out:List Rat) (x:Rat) (b:List Rat) (i:Nat):Nat→List Rat
 | 0=>out
 | k+1=>(gY out x b i k).set (i+k) ((gY out x b i k).getD (i+k) 0+x*b.getD k 0)
def dy (a b:List Rat):Nat→List Rat
 | 0=>List.replicate (a.length+b.length-1) 0
 | i+1=>gY (dy a b i) (a.getD i 0) b i b.length
theorem jE (out:List Rat) (x:Rat) (b:List Rat) (i:Nat):∀ k,(gY out x b i k).length=out.length
 | 0=>rfl
 | k+1=>by rw[gY,GA,jE out x b i k]
theorem iq (a b:List Rat):∀ i,(dy a b i).length=a.length+b.length-1
 | 0=>by simp[dy]
 | i+1=>by rw[dy,jE,iq a b i]
theorem sP (w:CQ):∀ n,evQ w (List.replicate n 0)=⟨0,0⟩
 | 0=>rfl
 | n+1=>by
  rw[GK,gP,sP w n];exact zA w
theorem Ax (w:CQ) (out:List Rat) (x:Rat) (b:List Rat) (i:Nat):∀ k,k≤b.length→i+k≤out.length→evQ w (gY out x b i k)=(evQ w out).add (((CQ.real x).mul (ja w i)).mul (evQ w (b.take k)))
 | 0,_,_=>by
  rw[gY,Fv]
  show evQ w out=(evQ w out).add ((_:CQ).mul ⟨0,0⟩)
  generalize evQ w out=e;generalize (CQ.real x).mul (ja w i)=p;obtain⟨s,t⟩:=e;obtain⟨u,v⟩:=p;simp only[CQ.add,CQ.mul,CQ.mk.injEq];constructor<;>grind
 | k+1,hk,hl=>by
  have hkb:k<b.length:=by omega
  rw[gY,Ay w _ _ _ (by rw[jE];omega),Ax w out x b i k (by omega) (by omega),show b.take (k+1)=b.take k++[b.getD k 0] from by
   rw[FF,FC hkb]
   exact (FD hkb).symm,qW,FM,Gf (by omega),pow_add]
  generalize evQ w out=e;generalize evQ w (b.take k)=f;generalize ja w i=p;generalize ja w k=q;generalize b.getD k 0=c;obtain⟨s,t⟩:=e;obtain⟨u,v⟩:=p;obtain⟨m,n⟩:=q;obtain⟨g,h⟩:=f;simp only[CQ.add,CQ.mul,CQ.real,CQ.mk.injEq];constructor<;>grind
theorem wt (w:CQ) (a b:List Rat) (hb:0<b.length):∀ i,i≤a.length→evQ w (dy a b i)=(evQ w (a.take i)).mul (evQ w b)
 | 0,_=>by
  rw[dy,sP,Fv];exact (CQ.zero_mul _).symm
 | i+1,hi=>by
  have hia:i<a.length:=by omega
  rw[dy,Ax w _ _ _ _ _ (Fq _) (by rw[iq];omega),FQ,wt w a b hb i (by omega),show a.take (i+1)=a.take i++[a.getD i 0] from by
   rw[FF,FC hia]
   exact (FD hia).symm,qW,FM,Gf (by omega)]
  generalize evQ w (a.take i)=e;generalize evQ w b=f;generalize ja w i=p;generalize a.getD i 0=c;obtain⟨s,t⟩:=e;obtain⟨u,v⟩:=p;obtain⟨g,h⟩:=f;simp only[CQ.add,CQ.mul,CQ.real,CQ.mk.injEq];constructor<;>grind
theorem rA {l:List Rat}{j:Nat} (h:j<l.length):aF (l.map tq) j=tq (l.getD j 0):=by
 rw[←ek (l:=l.map tq) (by simpa using h),Gu,FF,FC h];rfl
theorem BM {D E M N c:Nat}{out b:List Rat}{x:Rat}{i:Nat} (hD:0<D) (hE:0<E) (hx:Ov D M x) (hxo:okQ x) (hb:∀ q∈b,Ov E N q∧okQ q) (ho:∀ q∈out,Ov (D*E) (c*(M*N)) q) (hDE:D*E<10 ^ 2000) :
  ∀ k,k≤b.length→i+k≤out.length→(c+k+1)*(M*N)<10 ^ 2000→oF (out.map tq) (tq x) (b.map tq) i k=(gY out x b i k).map tq∧∀ q∈gY out x b i k,Ov (D*E) ((c+k)*(M*N)) q
 | 0,_,_,_=>⟨rfl,by simpa[gY] using ho⟩
 | k+1,hk,hl,hs=>by
  have hDp:=GJ hD hE;obtain⟨h1,h2⟩:=BM (i:=i) hD hE hx hxo hb ho hDE k (by omega) (by omega) (FO (Fy _ (by omega)) hs);have hkb:k<b.length:=by omega
  have hjl:i+k<(gY out x b i k).length:=by rw[jE];omega
  have hbk:b.getD k 0∈b:=by rw[FF,FC hkb];exact FG hkb
  have hoj:(gY out x b i k).getD (i+k) 0∈gY out x b i k:=by rw[FF,FC hjl];exact FG hjl
  have o1:=h2 _ hoj;have o2:=hx.mul (hb _ hbk).1 hD hE;have o3:=o1.add o2;have e3:(c+k)*(M*N)+M*N=(c+(k+1))*(M*N):=by rw[←GP,Ga (c+k) 1,G2]
  rw[e3] at o3;have s3:(c+(k+1))*(M*N)<10 ^ 2000:=FO (Fy _ (by omega)) hs;have s1:(c+k)*(M*N)<10 ^ 2000:=FO (Fy _ (by omega)) s3;have s2:M*N<10 ^ 2000:=FO (Nat.le_mul_of_pos_left _ (by omega)) s3;refine⟨?_,fun q hq=>?_⟩
  ·rw[oF,gY,h1,rA hjl,rA hkb,wS hxo (hb _ hbk).2 (o2.ok hDp hDE s2),vW (o1.ok hDp hDE s1) (o2.ok hDp hDE s2) (o3.ok hDp hDE s3),Ir]
  ·rw[gY] at hq;rcases GZ hq with h | h
   ·exact (h2 q h).mono (by rw[←e3];exact Ge _ _)
   ·rw[h];exact o3
theorem wZ {D E M N:Nat}{a b:List Rat} (hD:0<D) (hE:0<E) (ha:∀ q∈a,Ov D M q∧okQ q) (hb:∀ q∈b,Ov E N q∧okQ q) (hb0:0<b.length) (hDE:D*E<10 ^ 2000) (hs:(a.length*b.length+1)*(M*N)<10 ^ 2000) :
  ∀ i,i≤a.length→fO (a.map tq) (b.map tq) i=(dy a b i).map tq∧∀ q∈dy a b i,Ov (D*E) (i*b.length*(M*N)) q
 | 0,_=>by
  refine⟨?_,fun q hq=>?_⟩
  ·rw[fO,dy,List.map_replicate,FJ,FJ,show tq 0=⟨#[48]⟩ from Ch]
  ·rw[dy] at hq;rw[Gd hq];exact (Ov.zero _).mono (Fz _)
 | i+1,hi=>by
  obtain⟨h1,h2⟩:=wZ hD hE ha hb hb0 hDE hs i (by omega);have hia:i<a.length:=by omega
  have hai:a.getD i 0∈a:=by rw[FF,FC hia];exact FG hia
  have hs2:(i*b.length+b.length+1)*(M*N)<10 ^ 2000:=by
   refine FO (Fy _ ?_) hs;have:(i+1)*b.length≤a.length*b.length:=Fy _ hi;rw[Ga,G2] at this;omega
  obtain⟨h3,h4⟩:=BM (i:=i) hD hE (ha _ hai).1 (ha _ hai).2 hb h2 hDE b.length (Fq _) (by rw[iq];omega) hs2;refine⟨?_,fun q hq=>?_⟩
  ·rw[fO,dy,h1,rA hia,FJ,h3]
  ·rw[Ga i 1,G2];exact h4 q hq
end Go.Proofs.YtbnkpcfjechfiaaGreatDoor
