/- L -/
import Derived.Recover
import Derived.Test.YtmakbmhlemhgeaaGreatDoorWNT2
import Derived.Test.YtmakbmhlemhgeaaGreatDoorWB
set_option linter.all false
set_option maxRecDepth 100000
set_option maxHeartbeats 8000000
namespace Go.Proofs.YtmakbmhlemhgeaaGreatDoor
open Go.RowKit Dg
structure Off (g:Nat) (wa:World) where
 w:World
 s:wa.heap.size<=w.heap.size
 h:∀ k,k<wa.heap.size->k≠g->w.heap[k]?=wa.heap[k]?
instance instOff (g:Nat) (wa:World):Nonempty (Off g wa):=⟨⟨wa,GM _,fun _ _ _=>rfl⟩⟩
theorem Off.cell {g:Nat}{wa:World} (x:Off g wa) {b o:Nat}{v:Value} (hb:b<wa.heap.size) (hne:b≠g) (hc:wa.cell? ⟨b,o,none⟩=some v):x.w.cell? ⟨b,o,none⟩=some v :=
 (World.cell?_of_block (w:=wa) (a:=⟨b,o,none⟩) (x.h b hb hne)).trans hc
theorem Off.below {g:Nat}{wa w':World} (h:Below wa.heap.size wa w'):∃ x:Off g wa,w'=x.w:=⟨⟨w',h.size,fun k hk _=>h.block k hk⟩,rfl⟩
theorem Off.set {g:Nat}{wa w':World} (h:∃ x:Off g wa,w'=x.w) (j:Nat) (u:Value):∃ x:Off g wa,w'.setCell ⟨g,j,none⟩ u=x.w:=by
 obtain⟨x,rfl⟩:=h;exact⟨⟨x.w.setCell ⟨g,j,none⟩ u,by simpa[World.setCell] using x.s,fun k hk hne=>(Below.heap_setCell x.w ⟨g,j,none⟩ u k hne).trans (x.h k hk hne)⟩,rfl⟩
structure mU (w:World) (v:Value) (fa fb ga gb:List ByteArray) (k:ByteArray) (n:Int):Prop where
 ex:∃ p c q d p' c' q' d',v=.agg #[.slice p fa.length c,.slice q fb.length d,.slice p' ga.length c',.slice q' gb.length d',.string k,.int .i64 n] /\
  IsS w (.slice p fa.length c) fa/\IsS w (.slice q fb.length d) fb/\IsS w (.slice p' ga.length c') ga/\IsS w (.slice q' gb.length d') gb
theorem mU.below {w w':World}{v:Value}{fa fb ga gb:List ByteArray}{k:ByteArray}{n:Int} (h:mU w v fa fb ga gb k n) (hb:Below w.heap.size w w'):mU w' v fa fb ga gb k n:=by
 obtain⟨p,c,q,d,p',c',q',d',e,h1,h2,h3,h4⟩:=h.ex;exact⟨⟨p,c,q,d,p',c',q',d',e,h1.below hb,h2.below hb,h3.below hb,h4.below hb⟩⟩
theorem az {w:World}{g:Nat}{a b:Value}{T:TypeId} (h:w.heap[g]?=some (.cells #[a,b] T (0,0))) (j:Nat):w.cell? ⟨g,j,none⟩=#[a,b][j]?:=by rw[World.cell?,h];rfl
theorem aZ {w:World}{g:Nat}{a b:Value}{T:TypeId} (h:w.heap[g]?=some (.cells #[a,b] T (0,0))) (j:Nat):w.frozen? ⟨g,j,none⟩=false:=by rw[World.frozen?,h];simp
theorem dW {w:World}{g:Nat}{a b:Value}{T:TypeId} (h:w.heap[g]?=some (.cells #[a,b] T (0,0))) (x y:Value):((w.setCell ⟨g,0,none⟩ x).setCell ⟨g,1,none⟩ y).heap[g]?=some (.cells #[x,y] T (0,0)):=by
 have h1:=heap_setCell_same w g 0 #[a,b] T x h;exact heap_setCell_same _ g 1 #[x,b] T y h1
theorem AJ (s:List ByteArray) (h0:0<s.length) (k:Nat) (p:Option Addr) (n c:Nat) (w:World) (hs:IsS w (.slice p n c) s) (hn:n=s.length) (hc:w.cell? ⟨k,0,none⟩=some (.slice p n c)) (hk:k<w.heap.size) (hG:Gw w) :
  FnT 119 #[.pointer (some ⟨k,0,none⟩)] (fun a=>cX a (aT s 0)) w:=by
 refine⟨cD Tryz.func119 rfl (by kernel_rfl),fun x w0 hw=>?_⟩;obtain⟨b,o,rfl,hlt,hcs⟩:=hs.all h0;have c0:=aj hw hk hc;have c1:w0.cell? ⟨b,o,none⟩=some (.string (aT s 0)):=by simpa using aj hw hlt (hcs 0 h0)
 have HD:=GF (gx x (aT s 0) w0 (hG.below hw));have hnp:0<n:=by omega
 clear hcs hs hn
 show Calls _ _ #[_,.pointer (some ⟨k,0,none⟩)] _ _
 go_enter Tryz.func119,Tryz.ntmps119;go_wp2_with fail
 refine HD.out.mono ?_;rintro e w1 ⟨rfl,hb1⟩;go_wp2;go_ret;exact⟨rfl,hb1⟩
structure E5 (B:Nat) (w:World) (v:Value) (a b:List ByteArray):Prop where
 ex:∃ p c q d,v=.agg #[.slice p a.length c,.slice q b.length d]/\IsS w (.slice p a.length c) a/\IsS w (.slice q b.length d) b /\
  (∀ g,Value.ownBlock (.slice p a.length c)=some g->B<=g)/\(∀ g,Value.ownBlock (.slice q b.length d)=some g->B<=g)
def BL (e:Int):List PanicEntry:=[{ v:=.iface 114 (.agg #[.int .i64 e]),recovered:=false }]
def lj (r:Except Int (List ByteArray×List ByteArray)) (w:World) (e:Ending) (w':World):Prop :=
 Below w.heap.size w w'/\match r with
 | .ok (a,b)=>∃ v,e=.returned v/\E5 w.heap.size w' v a b
 | .error n=>e=.panicked (BL n)
def gP (l fa fb:List ByteArray):Except Int (List ByteArray×List ByteArray) :=
 if aT (kM fa fb) 0=⟨#[48]⟩ then .error 33 else .ok (l.map (fun a=>cX a (aT (kM fa fb) 0)),(kM fa fb).map (fun a=>cX a (aT (kM fa fb) 0)))
theorem sT (v vl:Value) (l fa fb ga gb:List ByteArray) (k:ByteArray) (n:Int) (w:World) (hP:mU w v fa fb ga gb k n) (hl:IsS w vl l) (hll:l.length<1000) (h1:0<fa.length) (h2:fa.length<1000) (h3:fb.length<1000) (hG:Gw w) :
  Calls Tryz.prog 65 #[v,vl] w (lj (gP l fa fb) w):=by
 obtain⟨p,c,q,d,p',c',q',d',rfl,hfa,hfb,-,-⟩:=id hP.ex;obtain⟨pl,cl,rfl,-⟩:=id hl.form;go_enter Tryz.func65,Tryz.ntmps65;go_upto_region 1 with fail
 have m1:=au w (.cells #[.slice p fa.length c,.slice q fb.length d,.slice p' ga.length c',.slice q' gb.length d',.string k,.int .i64 n] 58);have z1:=size_alloc w (.cells #[.slice p fa.length c,.slice q fb.length d,.slice p' ga.length c',.slice q' gb.length d',.string k,.int .i64 n] 58);have a0:=aR w #[.slice p fa.length c,.slice q fb.length d,.slice p' ga.length c',.slice q' gb.length d',.string k,.int .i64 n] 58 0 _ rfl;have a1:=aR w #[.slice p fa.length c,.slice q fb.length d,.slice p' ga.length c',.slice q' gb.length d',.string k,.int .i64 n] 58 1 _ rfl;generalize w.alloc (.cells #[.slice p fa.length c,.slice q fb.length d,.slice p' ga.length c',.slice q' gb.length d',.string k,.int .i64 n] 58)=w1 at *
 have q2:(w1.alloc (.cells #[.slice none 0 0,.slice none 0 0] 34)).heap[w1.heap.size]?=some (.cells #[.slice none 0 0,.slice none 0 0] 34 (0,0)):=heap_alloc_new w1 _;have m2:=au w1 (.cells #[.slice none 0 0,.slice none 0 0] 34);have z2:=size_alloc w1 (.cells #[.slice none 0 0,.slice none 0 0] 34);have b0:=aj m2 (show w.heap.size<w1.heap.size by omega) a0;have b1:=aj m2 (show w.heap.size<w1.heap.size by omega) a1;generalize w1.alloc (.cells #[.slice none 0 0,.slice none 0 0] 34)=w2 at *
 rw[z1] at q2;have M2:=GF (m1.trans (m2.mono m1.size));have hz2:w.heap.size+1<w2.heap.size:=by omega
 have HS:=GF (sumN _ _ fa fb w2 (hfa.below M2.out) (hfb.below M2.out) (by omega) (by omega) (hG.below M2.out));have HL:=GF (hl.below M2.out);have HG:=GF (hG.below M2.out);have hsl:0<(kM fa fb).length:=by rw[ph];omega
 have hsl2:(kM fa fb).length<1000:=by rw[ph];omega
 obtain⟨s,hs⟩:∃ s,s=kM fa fb:=⟨_,rfl⟩;rw[<-hs] at HS hsl hsl2;have HSE:=GF hs;clear m1 z1 a0 a1 m2 z2 hfa hfb hl hG hP hs;go_wp2_with fail
 refine HS.out.mono ?_;rintro e w3 ⟨u,rfl,hu,hb3⟩
 obtain⟨b,o,hue,hub,hcs⟩:∃ b o,(∃ cu,u=.slice (some ⟨b,o,none⟩) s.length cu)/\b<w3.heap.size/\w3.cell? ⟨b,o,none⟩=some (.string (aT s 0)):=by
  obtain⟨pu,cu,rfl,-⟩:=id hu.isS.form;obtain⟨b,o,rfl,hlt,hc⟩:=hu.isS.all hsl;exact⟨b,o,⟨cu,rfl⟩,hlt,hc 0 hsl⟩
 obtain⟨cu,rfl⟩:=hue;have hIS:=hu.isS;clear hu;go_upto_region 2 with fail
 have a5:(w3.alloc (.cells #[.slice (some ⟨b,o,none⟩) s.length cu] 29)).cell? ⟨w3.heap.size,0,none⟩=some (.slice (some ⟨b,o,none⟩) s.length cu):=aR w3 _ _ 0 _ rfl;have m3:=au w3 (.cells #[.slice (some ⟨b,o,none⟩) s.length cu] 29);have z3:=size_alloc w3 (.cells #[.slice (some ⟨b,o,none⟩) s.length cu] 29);generalize w3.alloc (.cells #[.slice (some ⟨b,o,none⟩) s.length cu] 29)=w4 at *
 have hcs4:=aj m3 hub hcs;have hb4:=hb3.trans (m3.mono hb3.size);have M4:=GF (M2.out.trans (hb4.mono M2.out.size));have HIS:=GF (hIS.below m3);have hw34:w3.heap.size<w4.heap.size:=by omega
 have hw23:w2.heap.size<=w3.heap.size:=hb3.size;have q4:=(hb4.block (w.heap.size+1) hz2).trans q2;have HL4:=GF (HL.out.below hb4);have HG4:=GF (HG.out.below hb4);clear HS hcs hIS q2 hb3 b0 b1 HL HG m3 z3;obtain⟨x,hx⟩:∃ x,x=aT s 0:=⟨_,rfl⟩;rw[<-hx] at hcs4;have HX:=GF hx;clear hx;by_cases heq:x=⟨#[48]⟩
 ·have hd:(x.toList == [48])=true:=by rw[heq,aC];rfl
  have HC:=GF (show gP l fa fb=.error 33 by unfold gP;rw[<-HSE.out,if_pos (by rw[<-HX.out];exact heq)]);clear heq;go_wp2_with fail
  refine⟨rfl,M4.out,?_⟩;rw[HC.out];rfl
 ·have hd:(x.toList == [48])=false:=by
   rw[Hx];intro h;refine heq (jl ?_);rw[<-aC];simpa using h
  have HC:=GF (show gP l fa fb=.ok (l.map (fun a=>cX a (aT s 0)),s.map (fun a=>cX a (aT s 0))) by unfold gP;rw[<-HSE.out,if_neg (by rw[<-HX.out];exact heq)]);clear heq;go_upto_region 5 with fail
  have m5:Below w4.heap.size w4 w4.drew:=(Ki _ _).drew;have HFn:=GF ((AJ s hsl w3.heap.size (some ⟨b,o,none⟩) s.length cu w4 HIS.out rfl a5 hw34 HG4.out).below m5);refine aB (fun w'=>∃ x:Off (w.heap.size+1) w4.drew,w'=x.w) (fun i=>i == 2||i == 5||i == 7) (by kernel_rfl) (by kernel_rfl) ⟨⟨_,GM _,fun _ _ _=>rfl⟩,rfl⟩ ?_;have c5:=fun x:Off (w.heap.size+1) w4.drew=>x.cell (show w3.heap.size<w4.heap.size from hw34) (by omega) a5;have q5:=(m5.block (w.heap.size+1) (by omega)).trans q4;have M5:=GF (M4.out.trans (m5.mono M4.out.size));have HL5:=GF (HL4.out.below m5);have HI5:=GF (HIS.out.below m5);have hw5:w3.heap.size<w4.drew.heap.size:=hw34;clear m5 a5 hcs4 HIS HL4 q4;generalize w4.drew=wd at *
  refine aq 2 0 _ _ _ (by kernel_rfl) ?_;simp only[GP,GS,GQ,GR];repeat (go_big_quiet_step (fail))
  refine wpQuiet_nil ?_;refine ar rfl rfl (fun K hK=>?_);go_simp;refine (xo _ l _ _ _ wd HL5.out (by omega) HFn.out).mono ?_;rintro e w6 ⟨u1,rfl,hu1,hb6⟩;obtain⟨L1,hL1⟩:∃ L,L=l.map (fun a=>cX a (aT s 0)):=⟨_,rfl⟩;rw[<-hL1] at hu1;have HL1:=GF hL1;clear hL1;refine hK _ _ (Off.below hb6) ?_;clear hK K;try simp only[Act.put,GJ,GI,GH,GG,GL,GK]
  refine aq 2 3 _ _ _ (by kernel_rfl) ?_;simp only[GP,GS,GQ,GR];repeat (go_big_quiet_step (fail))
  refine wpQuiet_nil ?_;refine ar rfl rfl (fun K hK=>?_);go_simp;refine (xo _ s _ _ _ w6 (HI5.out.below hb6) (by omega) (HFn.out.below hb6)).mono ?_;rintro e w7 ⟨u2,rfl,hu2,hb7⟩;obtain⟨L2,hL2⟩:∃ L,L=s.map (fun a=>cX a (aT s 0)):=⟨_,rfl⟩;rw[<-hL2] at hu2;have HL2:=GF hL2;clear hL2;have hB7:=hb6.trans (hb7.mono hb6.size);refine hK _ _ (Off.below hB7) ?_;clear hK K;try simp only[Act.put,GJ,GI,GH,GG,GL,GK]
  have hk1:=hu1.below hb7;obtain⟨p1,c1,rfl,-⟩:=id hk1.isS.form;obtain⟨p2,c2,rfl,-⟩:=id hu2.isS.form;have hn1:Value.ownBlock (.slice p1 L1.length c1)≠some (w.heap.size+1):=fun e=>by have:=(World.ownsRow.lt hk1 _ e).1;omega
  have hn2:Value.ownBlock (.slice p2 L2.length c2)≠some (w.heap.size+1):=fun e=>by have:=(World.ownsRow.lt hu2 _ e).1;have:=hb6.size;omega
  have o1:=GF (show ∀ g,Value.ownBlock (.slice p1 L1.length c1)=some g->w.heap.size<=g from fun g e=>by have:=(World.ownsRow.lt hk1 _ e).1;omega);have o2:=GF (show ∀ g,Value.ownBlock (.slice p2 L2.length c2)=some g->w.heap.size<=g from fun g e=>by have:=(World.ownsRow.lt hu2 _ e).1;have:=hb6.size;omega);have q7:=(hB7.block (w.heap.size+1) (by omega)).trans q5;have k0:=az q7 0;have k1:=az q7 1;have f0:=aZ q7 0;have f1:=aZ q7 1;have r1:=(hk1.isS.other hn1 0 (.slice p1 L1.length c1)).other hn1 1 (.slice p2 L2.length c2);have r2:=(hu2.isS.other hn2 0 (.slice p1 L1.length c1)).other hn2 1 (.slice p2 L2.length c2);have R1:=GF r1;have R2:=GF r2;have M7:=GF (((M5.out.trans (hB7.mono M5.out.size)).setCell (p:=⟨w.heap.size+1,0,none⟩) (Ho _) (.slice p1 L1.length c1)).setCell (p:=⟨w.heap.size+1,1,none⟩) (Ho _) (.slice p2 L2.length c2));have hOff:=Off.set (g:=w.heap.size+1) (Off.set (g:=w.heap.size+1) (Off.below hB7) 0 (.slice p1 L1.length c1)) 1 (.slice p2 L2.length c2);have g0:=dW q7 (.slice p1 L1.length c1) (.slice p2 L2.length c2);clear r1 r2 hn1 hn2 hk1 hu2 q7 q5 hB7 hb7 hb6 hu1;refine aq 1 6 _ _ _ (by kernel_rfl) ?_;simp only[GP,GS,GQ,GR];repeat (go_big_quiet_step (fail))
  refine wpQuiet_nil ?_;refine ar rfl rfl (fun K hK=>?_);go_simp;refine hK undef _ hOff ?_;clear hK K;try simp only[Act.put,GJ,GI,GH,GG,GL,GK]
  refine aH ?_;have x0:=az g0 0;have x1:=az g0 1;go_wp2_with fail
  refine Kh (v:=.agg #[.slice p1 L1.length c1,.slice p2 L2.length c2]) (by simp at x0 x1;simp[results,Tryz.results65,go_sem,x0,x1]) rfl ⟨M7.out,?_⟩;rw[HC.out,<-HL1.out,<-HL2.out];exact⟨_,rfl,⟨p1,c1,p2,c2,rfl,R1.out,R2.out,o1.out,o2.out⟩⟩
theorem DI (v:Value) (fa fb ga gb:List ByteArray) (k:ByteArray) (n:Int) (w:World) (hP:mU w v fa fb ga gb k n) (h0:0<fa.length) (h2:fa.length<1000) (h3:fb.length<1000) (hG:Gw w) :
  Calls Tryz.prog 23 #[v] w (lj (gP fa fa fb) w):=by
 obtain⟨p,c,q,d,p',c',q',d',rfl,hfa,hfb,-,-⟩:=id hP.ex;go_enter Tryz.func23,Tryz.ntmps23;go_upto_region 1 with fail
 have m1:=au w (.cells #[.slice p fa.length c,.slice q fb.length d,.slice p' ga.length c',.slice q' gb.length d',.string k,.int .i64 n] 58);have z1:=size_alloc w (.cells #[.slice p fa.length c,.slice q fb.length d,.slice p' ga.length c',.slice q' gb.length d',.string k,.int .i64 n] 58);have a0:=fun j u h=>aR w #[.slice p fa.length c,.slice q fb.length d,.slice p' ga.length c',.slice q' gb.length d',.string k,.int .i64 n] 58 j u h;generalize w.alloc (.cells #[.slice p fa.length c,.slice q fb.length d,.slice p' ga.length c',.slice q' gb.length d',.string k,.int .i64 n] 58)=w1 at *
 have q2:(w1.alloc (.cells #[.slice none 0 0,.slice none 0 0] 34)).heap[w1.heap.size]?=some (.cells #[.slice none 0 0,.slice none 0 0] 34 (0,0)):=heap_alloc_new w1 _;have m2:=au w1 (.cells #[.slice none 0 0,.slice none 0 0] 34);have z2:=size_alloc w1 (.cells #[.slice none 0 0,.slice none 0 0] 34);have hlt:w.heap.size<w1.heap.size:=by omega
 have b0:=aj m2 hlt (a0 0 _ rfl);have b1:=aj m2 hlt (a0 1 _ rfl);have b2:=aj m2 hlt (a0 2 _ rfl);have b3:=aj m2 hlt (a0 3 _ rfl);have b4:=aj m2 hlt (a0 4 _ rfl);have b5:=aj m2 hlt (a0 5 _ rfl);generalize w1.alloc (.cells #[.slice none 0 0,.slice none 0 0] 34)=w2 at *
 rw[z1] at q2;have M2:=GF (m1.trans (m2.mono m1.size));have hz2:w.heap.size+1<w2.heap.size:=by omega
 have HC:=GF (sT _ _ fa fa fb ga gb k n w2 (hP.below M2.out) (hfa.below M2.out) (by omega) h0 h2 h3 (hG.below M2.out));clear m1 z1 a0 m2 z2 hfa hfb hG hP hlt;go_wp2_with fail
 refine HC.out.mono ?_;rintro e w3 ⟨hb3,hr⟩
 cases hct:gP fa fa fb with
 | error m =>
  rw[hct] at hr;simp only at hr;subst hr;exact⟨rfl,M2.out.trans (hb3.mono M2.out.size),by simp only⟩
 | ok ab =>
  obtain⟨L1,L2⟩:=ab;rw[hct] at hr;simp only at hr;obtain⟨u,rfl,hu⟩:=hr;obtain⟨p1,c1,p2,c2,rfl,g1,g2,o1,o2⟩:=hu.ex;have hn1:Value.ownBlock (.slice p1 L1.length c1)≠some (w.heap.size+1):=fun e=>by have:=o1 _ e;omega
  have hn2:Value.ownBlock (.slice p2 L2.length c2)≠some (w.heap.size+1):=fun e=>by have:=o2 _ e;omega
  have q3:=(hb3.block (w.heap.size+1) hz2).trans q2;have k0:=az q3 0;have k1:=az q3 1;have f0:=aZ q3 0;have f1:=aZ q3 1;have R1:=GF ((g1.other hn1 0 (.slice p1 L1.length c1)).other hn1 1 (.slice p2 L2.length c2));have R2:=GF ((g2.other hn2 0 (.slice p1 L1.length c1)).other hn2 1 (.slice p2 L2.length c2));have O1:=GF (show ∀ g,Value.ownBlock (.slice p1 L1.length c1)=some g->w.heap.size<=g from fun g e=>by have:=o1 _ e;omega);have O2:=GF (show ∀ g,Value.ownBlock (.slice p2 L2.length c2)=some g->w.heap.size<=g from fun g e=>by have:=o2 _ e;omega);have M7:=GF (((M2.out.trans (hb3.mono M2.out.size)).setCell (p:=⟨w.heap.size+1,0,none⟩) (Ho _) (.slice p1 L1.length c1)).setCell (p:=⟨w.heap.size+1,1,none⟩) (Ho _) (.slice p2 L2.length c2));have g0:=dW q3 (.slice p1 L1.length c1) (.slice p2 L2.length c2);have x0:=az g0 0;have x1:=az g0 1;have HCT:=GF hct;clear hn1 hn2 g1 g2 o1 o2 q2 q3 hb3 HC hu hct;go_wp2;refine Kh (v:=.agg #[.slice p1 L1.length c1,.slice p2 L2.length c2]) (by simp at x0 x1;simp[results,Tryz.results23,go_sem,x0,x1]) rfl ⟨M7.out,?_⟩;rw[HCT.out];exact⟨_,rfl,⟨p1,c1,p2,c2,rfl,R1.out,R2.out,O1.out,O2.out⟩⟩
theorem Gq (v:Value) (fa fb ga gb:List ByteArray) (k:ByteArray) (n:Int) (w:World) (hP:mU w v fa fb ga gb k n) (h0:0<fa.length) (h2:fa.length<1000) (h3:fb.length<1000) (hG:Gw w) :
  Calls Tryz.prog 22 #[v] w (lj (gP fb fa fb) w):=by
 obtain⟨p,c,q,d,p',c',q',d',rfl,hfa,hfb,-,-⟩:=id hP.ex;go_enter Tryz.func22,Tryz.ntmps22;go_upto_region 1 with fail
 have m1:=au w (.cells #[.slice p fa.length c,.slice q fb.length d,.slice p' ga.length c',.slice q' gb.length d',.string k,.int .i64 n] 58);have z1:=size_alloc w (.cells #[.slice p fa.length c,.slice q fb.length d,.slice p' ga.length c',.slice q' gb.length d',.string k,.int .i64 n] 58);have a0:=fun j u h=>aR w #[.slice p fa.length c,.slice q fb.length d,.slice p' ga.length c',.slice q' gb.length d',.string k,.int .i64 n] 58 j u h;generalize w.alloc (.cells #[.slice p fa.length c,.slice q fb.length d,.slice p' ga.length c',.slice q' gb.length d',.string k,.int .i64 n] 58)=w1 at *
 have q2:(w1.alloc (.cells #[.slice none 0 0,.slice none 0 0] 34)).heap[w1.heap.size]?=some (.cells #[.slice none 0 0,.slice none 0 0] 34 (0,0)):=heap_alloc_new w1 _;have m2:=au w1 (.cells #[.slice none 0 0,.slice none 0 0] 34);have z2:=size_alloc w1 (.cells #[.slice none 0 0,.slice none 0 0] 34);have hlt:w.heap.size<w1.heap.size:=by omega
 have b0:=aj m2 hlt (a0 0 _ rfl);have b1:=aj m2 hlt (a0 1 _ rfl);have b2:=aj m2 hlt (a0 2 _ rfl);have b3:=aj m2 hlt (a0 3 _ rfl);have b4:=aj m2 hlt (a0 4 _ rfl);have b5:=aj m2 hlt (a0 5 _ rfl);generalize w1.alloc (.cells #[.slice none 0 0,.slice none 0 0] 34)=w2 at *
 rw[z1] at q2;have M2:=GF (m1.trans (m2.mono m1.size));have hz2:w.heap.size+1<w2.heap.size:=by omega
 have HC:=GF (sT _ _ fb fa fb ga gb k n w2 (hP.below M2.out) (hfb.below M2.out) (by omega) h0 h2 h3 (hG.below M2.out));clear m1 z1 a0 m2 z2 hfa hfb hG hP hlt;go_wp2_with fail
 refine HC.out.mono ?_;rintro e w3 ⟨hb3,hr⟩
 cases hct:gP fb fa fb with
 | error m =>
  rw[hct] at hr;simp only at hr;subst hr;exact⟨rfl,M2.out.trans (hb3.mono M2.out.size),by simp only⟩
 | ok ab =>
  obtain⟨L1,L2⟩:=ab;rw[hct] at hr;simp only at hr;obtain⟨u,rfl,hu⟩:=hr;obtain⟨p1,c1,p2,c2,rfl,g1,g2,o1,o2⟩:=hu.ex;have hn1:Value.ownBlock (.slice p1 L1.length c1)≠some (w.heap.size+1):=fun e=>by have:=o1 _ e;omega
  have hn2:Value.ownBlock (.slice p2 L2.length c2)≠some (w.heap.size+1):=fun e=>by have:=o2 _ e;omega
  have q3:=(hb3.block (w.heap.size+1) hz2).trans q2;have k0:=az q3 0;have k1:=az q3 1;have f0:=aZ q3 0;have f1:=aZ q3 1;have R1:=GF ((g1.other hn1 0 (.slice p1 L1.length c1)).other hn1 1 (.slice p2 L2.length c2));have R2:=GF ((g2.other hn2 0 (.slice p1 L1.length c1)).other hn2 1 (.slice p2 L2.length c2));have O1:=GF (show ∀ g,Value.ownBlock (.slice p1 L1.length c1)=some g->w.heap.size<=g from fun g e=>by have:=o1 _ e;omega);have O2:=GF (show ∀ g,Value.ownBlock (.slice p2 L2.length c2)=some g->w.heap.size<=g from fun g e=>by have:=o2 _ e;omega);have M7:=GF (((M2.out.trans (hb3.mono M2.out.size)).setCell (p:=⟨w.heap.size+1,0,none⟩) (Ho _) (.slice p1 L1.length c1)).setCell (p:=⟨w.heap.size+1,1,none⟩) (Ho _) (.slice p2 L2.length c2));have g0:=dW q3 (.slice p1 L1.length c1) (.slice p2 L2.length c2);have x0:=az g0 0;have x1:=az g0 1;have HCT:=GF hct;clear hn1 hn2 g1 g2 o1 o2 q2 q3 hb3 HC hu hct;go_wp2;refine Kh (v:=.agg #[.slice p1 L1.length c1,.slice p2 L2.length c2]) (by simp at x0 x1;simp[results,Tryz.results22,go_sem,x0,x1]) rfl ⟨M7.out,?_⟩;rw[HCT.out];exact⟨_,rfl,⟨p1,c1,p2,c2,rfl,R1.out,R2.out,O1.out,O2.out⟩⟩
theorem yz {P:Program}{c:Code}{Q:Exit->Act->List Frame->World->Prop}{a:Act}{cs:List Frame}{w:World} (b:Act) (hb:a=b) (h:∀ Q':Exit->Act->World->Prop,Hid (∀ e a' w',Q e a' cs w'->Q' e a' w')->c.wp P Q' b w):c.wpS P Q a cs w:=by
 subst hb;exact wpS_of_wp (h _ (GF fun _ _ _ h=>h))
structure Has (p:Addr) (v:Value) where
 w:World
 h:w.cell? p=some v
theorem Ey (v:Value) (w:World):(Instr.typeAssert (.iface 114 v) 20 114 true).run Tryz.prog w=.ok (.tuple #[v,.bool true]) w:=by
 unfold Instr.typeAssert;rw[Sem.run_bind,run_underlying Tryz.underlying114];rfl
theorem kt (kf ke:Nat) (x y z:Value) (n:Int) (w:World) (hf:w.heap[kf]?=some (.cells #[x,y] 34 (0,0))) (he:w.heap[ke]?=some (.cells #[z] 35 (0,0))) :
  CallsD Tryz.prog 64 #[.pointer (some ⟨kf,0,none⟩),.pointer (some ⟨ke,0,none⟩)] (.panicking (BL n)) w fun e u' w' =>
   e=.returned (.tuple #[])/\u'=.panicking [{ v:=.iface 114 (.agg #[.int .i64 n]),recovered:=true }] /\
   (∀ B w0,Below B w0 w->B<=kf->B<=ke->Below B w0 w')/\w'.heap[kf]?=some (.cells #[.slice none 0 0,.slice none 0 0] 34 (0,0))/\w'.heap[ke]?=some (.cells #[.int .i64 n] 35 (0,0)):=by
 refine callsD_of_wpS Tryz.func64 rfl fun c₀ cs hu=>?_
 apply wpS_seq
 apply wpS_region
 unfold BL at hu;simp[wpOpsS,go_sem,recoverD,hu,Tryz.ntmps64,Exit.thenS];refine yz { tmps:=#[.pointer (some ⟨kf,0,none⟩),.pointer (some ⟨ke,0,none⟩),.iface 114 (.agg #[.int .i64 n]),undef,undef,.iface 114 (.agg #[.int .i64 n]),undef,undef,undef,undef,undef,undef,undef,undef,undef,undef,undef,undef,undef],defers:=[] } rfl fun Q' HQ=>?_;have k0:=az hf 0;have k1:=az hf 1;have f0:=aZ hf 0;have f1:=aZ hf 1;have TA:=Ey;go_upto_region 5 with fail
 have hfl:kf<w.heap.size:=(GT.1 hf).1;have hel:ke<w.heap.size:=(GT.1 he).1
 have hne:kf≠ke:=fun e=>by
  subst e;rw[hf] at he;simp at he
 have m1:=au w (.cells #[.int .i64 n] 114);have c0:(w.alloc (.cells #[.int .i64 n] 114)).drew.cell? ⟨w.heap.size,0,none⟩=some (.int .i64 n):=aR w _ _ 0 _ rfl;have hf1:=(m1.drew.block kf hfl).trans hf;have he1:=(m1.drew.block ke hel).trans he;have hB:=GF (fun B w0 (h:Below B w0 w) (h1:B<=kf)=>(h.trans ((m1.drew).mono (show B<=w.heap.size by omega))))
 haveI:Nonempty (Has ⟨w.heap.size,0,none⟩ (.int .i64 n)):=⟨⟨_,c0⟩⟩
 refine aB (fun w'=>∃ x:Has ⟨w.heap.size,0,none⟩ (.int .i64 n),w'=x.w) (fun i=>i == 3||i == 4) (by kernel_rfl) (by kernel_rfl) ⟨⟨_,c0⟩,rfl⟩ ?_;have hh:=fun x:Has ⟨w.heap.size,0,none⟩ (.int .i64 n)=>x.h;clear m1 hf he k0 k1 f0 f1;generalize (w.alloc (.cells #[.int .i64 n] 114)).drew=w1 at *
 refine aq 3 0 _ _ _ (by kernel_rfl) ?_;simp only[GP,GS,GQ,GR];repeat (go_big_quiet_step (fail))
 refine wpQuiet_nil ?_;have k0:=az hf1 0;have k1:=az hf1 1;have f0:=aZ hf1 0;have f1:=aZ hf1 1;clear hh;refine ar rfl rfl (fun K hK=>?_);go_simp;have g0:=dW hf1 (.slice none 0 0) (.slice none 0 0)
 have c1:((w1.setCell ⟨kf,0,none⟩ (.slice none 0 0)).setCell ⟨kf,1,none⟩ (.slice none 0 0)).cell? ⟨w.heap.size,0,none⟩=some (.int .i64 n):=by
  rw[World.cell?_setCell_other _ _ _ _ (by intro e;have:=congrArg Addr.block e;simp at this;omega),World.cell?_setCell_other _ _ _ _ (by intro e;have:=congrArg Addr.block e;simp at this;omega)];exact c0
 have he2:((w1.setCell ⟨kf,0,none⟩ (.slice none 0 0)).setCell ⟨kf,1,none⟩ (.slice none 0 0)).heap[ke]?=some (.cells #[z] 35 (0,0)) :=
  ((Below.heap_setCell _ ⟨kf,1,none⟩ _ ke (Ne.symm hne)).trans (Below.heap_setCell _ ⟨kf,0,none⟩ _ ke (Ne.symm hne))).trans he1
 refine hK undef _ ⟨⟨_,c1⟩,rfl⟩ ?_;clear hK K;try simp only[Act.put,GJ,GI,GH,GG,GL,GK]
 have hB2:=GF (fun B w0 (h:Below B w0 w) (h1:B<=kf)=>((hB.out B w0 h h1).setCell (p:=⟨kf,0,none⟩) h1 (.slice none 0 0)).setCell (p:=⟨kf,1,none⟩) h1 (.slice none 0 0));clear k0 k1 f0 f1 hf1 he1 hB c0;generalize (w1.setCell ⟨kf,0,none⟩ (.slice none 0 0)).setCell ⟨kf,1,none⟩ (.slice none 0 0)=w2 at *
 have k0:w2.cell? ⟨ke,0,none⟩=some z:=by rw[World.cell?,he2];rfl
 have f0:w2.frozen? ⟨ke,0,none⟩=false:=by rw[World.frozen?,he2];simp
 refine ar rfl rfl (fun K hK=>?_);go_simp
 have c2:(w2.setCell ⟨ke,0,none⟩ (.int .i64 n)).cell? ⟨w.heap.size,0,none⟩=some (.int .i64 n):=by
  rw[World.cell?_setCell_other _ _ _ _ (by intro e;have:=congrArg Addr.block e;simp at this;omega)];exact c1
 refine hK undef _ ⟨⟨_,c2⟩,rfl⟩ ?_;clear hK K;try simp only[Act.put,GJ,GI,GH,GG,GL,GK]
 refine aH ?_;refine HQ.out _ _ _ ?_;have e1:=heap_setCell_same w2 ke 0 #[z] _ (.int .i64 n) he2;have e2:(w2.setCell ⟨ke,0,none⟩ (.int .i64 n)).heap[kf]?=some (.cells #[.slice none 0 0,.slice none 0 0] 34 (0,0)):=(Below.heap_setCell _ ⟨ke,0,none⟩ _ kf hne).trans g0;have e3:=fun B w0 (h:Below B w0 w) (h1:B<=kf) (h2:B<=ke)=>(hB2.out B w0 h h1).setCell (p:=⟨ke,0,none⟩) h2 (.int .i64 n);have e1':(w2.setCell ⟨ke,0,none⟩ (.int .i64 n)).heap[ke]?=some (.cells #[.int .i64 n] 35 (0,0)):=e1;clear e1 c2 c1 k0 f0 he2 g0 hB2 HQ TA;simp[bodyPostS,results,Tryz.results64];exact⟨e3,e2,e1'⟩
theorem yP (kf ke:Nat) (w:World) :
  CallsD Tryz.prog 64 #[.pointer (some ⟨kf,0,none⟩),.pointer (some ⟨ke,0,none⟩)] .returning w fun e u' w'=>e=.returned (.tuple #[])/\u'=.returning/\w'=w:=by
 refine callsD_of_wpS Tryz.func64 rfl fun c₀ cs hu=>?_
 apply wpS_seq
 apply wpS_region
 simp[wpOpsS,go_sem,recoverD,hu,Tryz.ntmps64,Exit.thenS];refine yz { tmps:=#[.pointer (some ⟨kf,0,none⟩),.pointer (some ⟨ke,0,none⟩),.nilIface,undef,undef,.nilIface,undef,undef,undef,undef,undef,undef,undef,undef,undef,undef,undef,undef,undef],defers:=[] } rfl fun Q' HQ=>?_;go_wp2;refine HQ.out _ _ _ ?_
 cases c₀
 simp_all [bodyPostS,results,Tryz.results64]
end Go.Proofs.YtmakbmhlemhgeaaGreatDoor
