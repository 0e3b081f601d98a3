/- Lemmas of this claim. -/
import Derived.Test.YtomkanblohhpfaaGreatDoorYLP10
set_option linter.all false
set_option maxRecDepth 100000
set_option maxHeartbeats 8000000
namespace Go.Proofs.YtomkanblohhpfaaGreatDoor
open Go.RowKit Dg
structure MkAt (M:FuncId) (fa fb ga gb:List ByteArray) (k:ByteArray) (n:Int) (r:Except Int (List ByteArray×List ByteArray)) (w:World):Prop where
 en:∀ (args:Array Value) (w:World),(callFunc M args).run Tryz.prog w=.ok (.enter M args) w
 on:∀ (v:Value) (w':World),Below w.heap.size w w'→iT w' v fa fb ga gb k n→ar fa fb=true→ar ga gb=true→Calls Tryz.prog M #[v] w' (gJ r w')
def ur:Except Int (List ByteArray×List ByteArray)→(List ByteArray×List ByteArray)×Int
 | .error n=>(([],[]),n)
 | .ok (a,b)=>if 7<a.length∨7<b.length then (([],[]),3) else if ar a b=false then (([],[]),8) else ((a,b),0)
def bm (fa fb ga gb:List ByteArray) (r:Except Int (List ByteArray×List ByteArray)):(List ByteArray×List ByteArray)×Int :=
 if ar fa fb=false then (([],[]),30) else if ar ga gb=false then (([],[]),30) else ur r
def fk (r:(List ByteArray×List ByteArray)×Int) (w:World) (e:Ending) (w':World):Prop :=
 ∃ v,e=.returned (.tuple #[v,.int .i64 r.2])∧uC w.heap.size w' v r.1.1 r.1.2∧Below w.heap.size w w'
theorem kw (B:Nat) (w:World):uC B w (.agg #[.slice none 0 0,.slice none 0 0]) [] [] :=
 ⟨⟨none,0,none,0,rfl,dB.nil _ _,dB.nil _ _,(fun g h=>by cases h),(fun g h=>by cases h)⟩⟩
theorem lR (M:FuncId) (v:Value) (fa fb ga gb:List ByteArray) (k:ByteArray) (n:Int) (r:Except Int (List ByteArray×List ByteArray)) (w:World) (hP:iT w v fa fb ga gb k n) (hM:MkAt M fa fb ga gb k n r w) (hG:Gx w) :
  Calls Tryz.prog 53 #[.func (.func M) #[] #[],v] w (fk (bm fa fb ga gb r) w):=by
 obtain⟨p,c,q,d,p',c',q',d',rfl,hfa,hfb,hga,hgb⟩:=id hP.ex
 have EN:=hM.en
 have HM:=vL hM
 have hmf:∀ (fn:Fn) (first cap:Array Value) (w:World),(Instr.makeFunc fn first cap).run Tryz.prog w=.ok (.func fn first cap) w:=fun _ _ _ _=>rfl
 go_enter_defers Tryz.func53,Tryz.ntmps53
 go_upto_region 1 with fail
 have m1:=ac w (.cells #[.slice p fa.length c,.slice q fb.length d,.slice p' ga.length c',.slice q' gb.length d',.string k,.int .i64 n] 91)
 have z1:=size_alloc w (.cells #[.slice p fa.length c,.slice q fb.length d,.slice p' ga.length c',.slice q' gb.length d',.string k,.int .i64 n] 91)
 have a0:=fun j u h=>ap w #[.slice p fa.length c,.slice q fb.length d,.slice p' ga.length c',.slice q' gb.length d',.string k,.int .i64 n] 91 j u h
 generalize w.alloc (.cells #[.slice p fa.length c,.slice q fb.length d,.slice p' ga.length c',.slice q' gb.length d',.string k,.int .i64 n] 91)=w1 at *
 have q2:(w1.alloc (.cells #[.slice none 0 0,.slice none 0 0] 24)).heap[w1.heap.size]?=some (.cells #[.slice none 0 0,.slice none 0 0] 24 (0,0)):=heap_alloc_new w1 _
 have m2:=ac w1 (.cells #[.slice none 0 0,.slice none 0 0] 24)
 have z2:=size_alloc w1 (.cells #[.slice none 0 0,.slice none 0 0] 24)
 generalize w1.alloc (.cells #[.slice none 0 0,.slice none 0 0] 24)=w2 at *
 have q3:(w2.alloc (.cells #[.int .i64 0] 25)).heap[w2.heap.size]?=some (.cells #[.int .i64 0] 25 (0,0)):=heap_alloc_new w2 _
 have m3:=ac w2 (.cells #[.int .i64 0] 25)
 have z3:=size_alloc w2 (.cells #[.int .i64 0] 25)
 generalize w2.alloc (.cells #[.int .i64 0] 25)=w3 at *
 have q2:=(m3.block _ (show w1.heap.size<w2.heap.size by omega)).trans q2
 rw[z1] at q2 z2
 rw[z2] at q3 z3
 have hb13:=m2.trans (m3.mono m2.size)
 have hlt:w.heap.size<w1.heap.size:=by omega
 have b0:=aa hb13 hlt (a0 0 _ rfl)
 have b1:=aa hb13 hlt (a0 1 _ rfl)
 have b2:=aa hb13 hlt (a0 2 _ rfl)
 have b3:=aa hb13 hlt (a0 3 _ rfl)
 have b4:=aa hb13 hlt (a0 4 _ rfl)
 have b5:=aa hb13 hlt (a0 5 _ rfl)
 have M3:=vL (m1.trans (hb13.mono m1.size))
 have HP:=vL (hP.below M3.out)
 have HG:=vL (hG.below M3.out)
 have hGx:=fun {wx:World} (h:Below w.heap.size w wx)=>hG.below h
 have HF:=vL (show IsF w3 (.agg #[.slice p fa.length c,.slice q fb.length d]) fa fb from⟨⟨p,c,q,d,rfl,hfa.below M3.out,hfb.below M3.out⟩⟩)
 have HGG:=vL (show IsF w3 (.agg #[.slice p' ga.length c',.slice q' gb.length d']) ga gb from⟨⟨p',c',q',d',rfl,hga.below M3.out,hgb.below M3.out⟩⟩)
 have HC1:=vL (cL _ fa fb w3 HF.out HG.out)
 have hz3:w.heap.size+3=w3.heap.size:=by omega
 clear m1 z1 a0 m2 z2 m3 z3 hb13 hlt hfa hfb hga hgb hP hG hM
 by_cases hck:ar fa fb=true
 ·have hce:am fa fb=0:=by unfold am;rw[if_pos hck]
  rw[hce] at HC1
  have HK1:=vL hck
  clear hce hck
  go_wp2_with fail
  refine HC1.out.mono ?_
  rintro e w4 ⟨rfl,hb4⟩
  have HC2:=vL (cL _ ga gb w4 (HGG.out.below hb4) (HG.out.below hb4))
  have d0:=aa hb4 (show w.heap.size<w3.heap.size by omega) b0
  have d1:=aa hb4 (show w.heap.size<w3.heap.size by omega) b1
  have d2:=aa hb4 (show w.heap.size<w3.heap.size by omega) b2
  have d3:=aa hb4 (show w.heap.size<w3.heap.size by omega) b3
  have d4:=aa hb4 (show w.heap.size<w3.heap.size by omega) b4
  have d5:=aa hb4 (show w.heap.size<w3.heap.size by omega) b5
  clear b0 b1 b2 b3 b4 b5
  by_cases hck:ar ga gb=true
  ·have hce:am ga gb=0:=by unfold am;rw[if_pos hck]
   rw[hce] at HC2
   have HCT0:=vL (show bm fa fb ga gb r=ur r by unfold bm;rw[if_neg (by rw[HK1.out];decide),if_neg (by rw[hck];decide)])
   have HK2:=vL hck
   clear hce hck
   go_wp2_with fail
   refine HC2.out.mono ?_
   rintro e w5 ⟨rfl,hb5⟩
   have hB5:=hb4.trans (hb5.mono hb4.size)
   have hz5:=hB5.size
   have e0:=aa hb5 (show w.heap.size<w4.heap.size from by have:=hb4.size;omega) d0
   have e1:=aa hb5 (show w.heap.size<w4.heap.size from by have:=hb4.size;omega) d1
   have e2:=aa hb5 (show w.heap.size<w4.heap.size from by have:=hb4.size;omega) d2
   have e3:=aa hb5 (show w.heap.size<w4.heap.size from by have:=hb4.size;omega) d3
   have e4:=aa hb5 (show w.heap.size<w4.heap.size from by have:=hb4.size;omega) d4
   have e5:=aa hb5 (show w.heap.size<w4.heap.size from by have:=hb4.size;omega) d5
   have HMK:=vL (HM.out.on _ w5 (M3.out.trans (hB5.mono M3.out.size)) (HP.out.below hB5) HK1.out HK2.out)
   have r2:=(hB5.block (w.heap.size+1) (by omega)).trans q2
   have r3:=(hB5.block (w.heap.size+1+1) (by omega)).trans q3
   have M5:=vL (M3.out.trans (hB5.mono M3.out.size))
   have HG5:=vL (HG.out.below hB5)
   clear d0 d1 d2 d3 d4 d5 q2 q3 hb4 hb5 HC1 HC2 HM HP HF HGG
   go_wp2_with fail
   refine HMK.out.mono ?_
   rintro e w6 ⟨hb6,hr⟩
   have hz6:=hb6.size
   have s2:=(hb6.block (w.heap.size+1) (by omega)).trans r2
   have s3:=(hb6.block (w.heap.size+1+1) (by omega)).trans r3
   have M6:=vL (M5.out.trans (hb6.mono M5.out.size))
   cases r with
   | error m =>
    simp only at hr
    subst hr
    have HCT:=vL (show bm fa fb ga gb (.error m)=(([],[]),m) from HCT0.out)
    refine leaves_cons (f:=90) (args:=#[.pointer (some ⟨w.heap.size+1,0,none⟩),.pointer (some ⟨w.heap.size+1+1,0,none⟩)]) (by simp) (by simp[go_sem]) ?_
    refine (fQ (w.heap.size+1) (w.heap.size+1+1) (.slice none 0 0) (.slice none 0 0) (.int .i64 0) (m) _ s2 s3).mono ?_
    rintro e u' w'' ⟨rfl,rfl,hBB,g1,g2⟩
    have y0:=ah g1 0
    have y1:=ah g1 1
    have y2:w''.cell? ⟨w.heap.size+1+1,0,none⟩=some (.int .i64 (m)):=by rw[World.cell?,g2];rfl
    have M9:=hBB _ _ (M6.out) (by omega) (by omega)
    refine⟨.tuple #[.agg #[.slice none 0 0,.slice none 0 0],.int .i64 (m)],by simp at y0 y1;simp[results,Tryz.results53,go_sem,y0,y1,y2],?_⟩
    refine⟨_,by rw[HCT.out],?_,M9⟩
    rw[HCT.out];exact kw _ _
   | ok ab =>
    obtain⟨L1,L2⟩:=ab
    simp only at hr
    obtain⟨u,rfl,hu⟩:=hr
    obtain⟨p1,c1,p2,c2,rfl,g1,g2,o1,o2⟩:=hu.ex
    have hn1:Value.ownBlock (.slice p1 L1.length c1)≠some (w.heap.size+1):=fun e=>by have:=o1 _ e;omega
    have hn2:Value.ownBlock (.slice p2 L2.length c2)≠some (w.heap.size+1):=fun e=>by have:=o2 _ e;omega
    have k0:=ah s2 0
    have k1:=ah s2 1
    have f0:=ay s2 0
    have f1:=ay s2 1
    have R1:=vL ((g1.other hn1 0 (.slice p1 L1.length c1)).other hn1 1 (.slice p2 L2.length c2))
    have R2:=vL ((g2.other hn2 0 (.slice p1 L1.length c1)).other hn2 1 (.slice p2 L2.length c2))
    have O1:=vL (show ∀ g,Value.ownBlock (.slice p1 L1.length c1)=some g→w.heap.size≤g from fun g e=>by have:=o1 _ e;omega)
    have O2:=vL (show ∀ g,Value.ownBlock (.slice p2 L2.length c2)=some g→w.heap.size≤g from fun g e=>by have:=o2 _ e;omega)
    have O1':=vL (show ∀ g,Value.ownBlock (.slice p1 L1.length c1)=some g→w3.heap.size≤g from fun g e=>by have:=o1 _ e;omega)
    have O2':=vL (show ∀ g,Value.ownBlock (.slice p2 L2.length c2)=some g→w3.heap.size≤g from fun g e=>by have:=o2 _ e;omega)
    have M7:=vL ((M6.out.setCell (p:=⟨w.heap.size+1,0,none⟩) (wM _) (.slice p1 L1.length c1)).setCell (p:=⟨w.heap.size+1,1,none⟩) (wM _) (.slice p2 L2.length c2))
    have t2:=bT s2 (.slice p1 L1.length c1) (.slice p2 L2.length c2)
    have hne:w.heap.size+1+1≠w.heap.size+1:=by omega
    have t3:=((Below.heap_setCell (w6.setCell ⟨w.heap.size+1,0,none⟩ (.slice p1 L1.length c1)) ⟨w.heap.size+1,1,none⟩ (.slice p2 L2.length c2) _ hne).trans (Below.heap_setCell w6 ⟨w.heap.size+1,0,none⟩ (.slice p1 L1.length c1) _ hne)).trans s3
    have HG7:=vL (hGx M7.out)
    have hs7:((w6.setCell ⟨w.heap.size+1,0,none⟩ (.slice p1 L1.length c1)).setCell ⟨w.heap.size+1,1,none⟩ (.slice p2 L2.length c2)).heap.size=w6.heap.size:=by simp[World.setCell]
    clear hn1 hn2 g1 g2 o1 o2 s2 s3 r2 r3 hb6 HMK hu e0 e1 e2 e3 e4 e5
    go_upto_region 9 with fail
    generalize (w6.setCell ⟨w.heap.size+1,0,none⟩ (.slice p1 L1.length c1)).setCell ⟨w.heap.size+1,1,none⟩ (.slice p2 L2.length c2)=w7 at *
    clear k0 k1 f0 f1
    have k0:=ah t2 0
    have k1:=ah t2 1
    have f0:=ay t2 0
    have f1:=ay t2 1
    by_cases h7:7<L1.length
    ·have hd:decide ((7:Int)<(L1.length:Int))=true:=by simp;omega
     have hdn:decide (7<L1.length)=true:=decide_eq_true h7
     have HCT:=vL (show bm fa fb ga gb (.ok (L1,L2))=(([],[]),3) by rw[HCT0.out];show (if 7<L1.length∨7<L2.length then _ else _)=_;rw[if_pos (Or.inl h7)])
     clear h7
     go_wp2
     refine leaves_cons (f:=90) (args:=#[.pointer (some ⟨w.heap.size+1,0,none⟩),.pointer (some ⟨w.heap.size+1+1,0,none⟩)]) (by simp) (by simp[go_sem]) ?_
     refine (fQ (w.heap.size+1) (w.heap.size+1+1) (.slice p1 L1.length c1) (.slice p2 L2.length c2) (.int .i64 0) (3) _ t2 t3).mono ?_
     rintro e u' w'' ⟨rfl,rfl,hBB,g1,g2⟩
     have y0:=ah g1 0
     have y1:=ah g1 1
     have y2:w''.cell? ⟨w.heap.size+1+1,0,none⟩=some (.int .i64 (3)):=by rw[World.cell?,g2];rfl
     have M9:=hBB _ _ (M7.out) (by omega) (by omega)
     refine⟨.tuple #[.agg #[.slice none 0 0,.slice none 0 0],.int .i64 (3)],by simp at y0 y1;simp[results,Tryz.results53,go_sem,y0,y1,y2],?_⟩
     refine⟨_,by rw[HCT.out],?_,M9⟩
     rw[HCT.out];exact kw _ _
    ·have hd:decide ((7:Int)<(L1.length:Int))=false:=by simp;omega
     have hdn:decide (7<L1.length)=false:=decide_eq_false h7
     by_cases h72:7<L2.length
     ·have hd2:decide ((7:Int)<(L2.length:Int))=true:=by simp;omega
      have hdn2:decide (7<L2.length)=true:=decide_eq_true h72
      have HCT:=vL (show bm fa fb ga gb (.ok (L1,L2))=(([],[]),3) by rw[HCT0.out];show (if 7<L1.length∨7<L2.length then _ else _)=_;rw[if_pos (Or.inr h72)])
      clear h72 h7
      go_wp2
      refine leaves_cons (f:=90) (args:=#[.pointer (some ⟨w.heap.size+1,0,none⟩),.pointer (some ⟨w.heap.size+1+1,0,none⟩)]) (by simp) (by simp[go_sem]) ?_
      refine (fQ (w.heap.size+1) (w.heap.size+1+1) (.slice p1 L1.length c1) (.slice p2 L2.length c2) (.int .i64 0) (3) _ t2 t3).mono ?_
      rintro e u' w'' ⟨rfl,rfl,hBB,g1,g2⟩
      have y0:=ah g1 0
      have y1:=ah g1 1
      have y2:w''.cell? ⟨w.heap.size+1+1,0,none⟩=some (.int .i64 (3)):=by rw[World.cell?,g2];rfl
      have M9:=hBB _ _ (M7.out) (by omega) (by omega)
      refine⟨.tuple #[.agg #[.slice none 0 0,.slice none 0 0],.int .i64 (3)],by simp at y0 y1;simp[results,Tryz.results53,go_sem,y0,y1,y2],?_⟩
      refine⟨_,by rw[HCT.out],?_,M9⟩
      rw[HCT.out];exact kw _ _
     ·have hd2:decide ((7:Int)<(L2.length:Int))=false:=by simp;omega
      have hdn2:decide (7<L2.length)=false:=decide_eq_false h72
      have HF7:=vL (show IsF w7 (.agg #[.slice p1 L1.length c1,.slice p2 L2.length c2]) L1 L2 from⟨⟨p1,c1,p2,c2,rfl,R1.out,R2.out⟩⟩)
      have HC3:=vL (cL _ L1 L2 w7 HF7.out HG7.out)
      have HCT1:=vL (show bm fa fb ga gb (.ok (L1,L2))=if ar L1 L2=false then (([],[]),8) else ((L1,L2),0) by rw[HCT0.out];show (if 7<L1.length∨7<L2.length then _ else _)=_;rw[if_neg (by omega)])
      clear h72 h7
      by_cases hck:ar L1 L2=true
      ·have hce:am L1 L2=0:=by unfold am;rw[if_pos hck]
       rw[hce] at HC3
       have HCT:=vL (show bm fa fb ga gb (.ok (L1,L2))=((L1,L2),0) by rw[HCT1.out,if_neg (by rw[hck];decide)])
       clear hce hck
       go_wp2_with fail
       refine HC3.out.mono ?_
       rintro e w8 ⟨rfl,hb8⟩
       have u2:=(hb8.block (w.heap.size+1) (by omega)).trans t2
       have u3:=(hb8.block (w.heap.size+1+1) (by omega)).trans t3
       clear k0 k1 f0 f1
       have k0:=ah u2 0
       have k1:=ah u2 1
       have f0:=ay u2 0
       have f1:=ay u2 1
       have x0:w8.cell? ⟨w.heap.size+1+1,0,none⟩=some (.int .i64 0):=by rw[World.cell?,u3];rfl
       have x1:w8.frozen? ⟨w.heap.size+1+1,0,none⟩=false:=by rw[World.frozen?,u3];simp
       have M9:=vL ((((M7.out.trans (hb8.mono M7.out.size)).setCell (p:=⟨w.heap.size+1,0,none⟩) (wM _) (.slice p1 L1.length c1)).setCell (p:=⟨w.heap.size+1,1,none⟩) (wM _) (.slice p2 L2.length c2)).setCell (p:=⟨w.heap.size+1+1,0,none⟩) (by show w.heap.size≤w.heap.size+1+1;omega) (.int .i64 0))
       have n1:Value.ownBlock (.slice p1 L1.length c1)≠some (w.heap.size+1):=fun e=>by have:=O1'.out _ e;omega
       have n2:Value.ownBlock (.slice p2 L2.length c2)≠some (w.heap.size+1):=fun e=>by have:=O2'.out _ e;omega
       have n3:Value.ownBlock (.slice p1 L1.length c1)≠some (w.heap.size+1+1):=fun e=>by have:=O1'.out _ e;omega
       have n4:Value.ownBlock (.slice p2 L2.length c2)≠some (w.heap.size+1+1):=fun e=>by have:=O2'.out _ e;omega
       have S1:=vL ((((R1.out.below hb8).other n1 0 (.slice p1 L1.length c1)).other n1 1 (.slice p2 L2.length c2)).other n3 0 (.int .i64 0))
       have S2:=vL ((((R2.out.below hb8).other n2 0 (.slice p1 L1.length c1)).other n2 1 (.slice p2 L2.length c2)).other n4 0 (.int .i64 0))
       have g0:=bT u2 (.slice p1 L1.length c1) (.slice p2 L2.length c2)
       have hne':w.heap.size+1≠w.heap.size+1+1:=by omega
       have g1:=(Below.heap_setCell ((w8.setCell ⟨w.heap.size+1,0,none⟩ (.slice p1 L1.length c1)).setCell ⟨w.heap.size+1,1,none⟩ (.slice p2 L2.length c2)) ⟨w.heap.size+1+1,0,none⟩ (.int .i64 0) (w.heap.size+1) hne').trans g0
       have y0:=ah g1 0
       have y1:=ah g1 1
       clear n1 n2 n3 n4 u2 u3 g0 t2 t3 hb8
       go_wp2
       refine leaves_cons (f:=90) (args:=#[.pointer (some ⟨w.heap.size+1,0,none⟩),.pointer (some ⟨w.heap.size+1+1,0,none⟩)]) (by simp) (by simp[go_sem]) ?_
       refine (pr (w.heap.size+1) (w.heap.size+1+1) _).mono ?_
       rintro e u' w'' ⟨rfl,rfl,rfl⟩
       refine⟨.tuple #[.agg #[.slice p1 L1.length c1,.slice p2 L2.length c2],.int .i64 0],by simp at y0 y1;simp[results,Tryz.results53,go_sem,y0,y1,x0],?_⟩
       refine⟨_,by rw[HCT.out],?_,M9.out⟩
       rw[HCT.out];exact⟨⟨p1,c1,p2,c2,rfl,S1.out,S2.out,O1.out,O2.out⟩⟩
      ·have hck':ar L1 L2=false:=by simpa using hck
       have hce:am L1 L2=30:=by unfold am;rw[if_neg hck]
       rw[hce] at HC3
       have HCT:=vL (show bm fa fb ga gb (.ok (L1,L2))=(([],[]),8) by rw[HCT1.out,if_pos hck'])
       clear hce hck hck'
       go_wp2_with fail
       refine HC3.out.mono ?_
       rintro e w8 ⟨rfl,hb8⟩
       have u2:=(hb8.block (w.heap.size+1) (by omega)).trans t2
       have u3:=(hb8.block (w.heap.size+1+1) (by omega)).trans t3
       have M8:=vL (M7.out.trans (hb8.mono M7.out.size))
       clear k0 k1 f0 f1
       go_wp2
       refine leaves_cons (f:=90) (args:=#[.pointer (some ⟨w.heap.size+1,0,none⟩),.pointer (some ⟨w.heap.size+1+1,0,none⟩)]) (by simp) (by simp[go_sem]) ?_
       refine (fQ (w.heap.size+1) (w.heap.size+1+1) (.slice p1 L1.length c1) (.slice p2 L2.length c2) (.int .i64 0) (8) _ u2 u3).mono ?_
       rintro e u' w'' ⟨rfl,rfl,hBB,g1,g2⟩
       have y0:=ah g1 0
       have y1:=ah g1 1
       have y2:w''.cell? ⟨w.heap.size+1+1,0,none⟩=some (.int .i64 (8)):=by rw[World.cell?,g2];rfl
       have M9:=hBB _ _ (M8.out) (by omega) (by omega)
       refine⟨.tuple #[.agg #[.slice none 0 0,.slice none 0 0],.int .i64 (8)],by simp at y0 y1;simp[results,Tryz.results53,go_sem,y0,y1,y2],?_⟩
       refine⟨_,by rw[HCT.out],?_,M9⟩
       rw[HCT.out];exact kw _ _
  ·have hce:am ga gb=30:=by unfold am;rw[if_neg hck]
   rw[hce] at HC2
   have hct:bm fa fb ga gb r=(([],[]),30):=by unfold bm;rw[if_neg (by rw[HK1.out];decide),if_pos (by simpa using hck)]
   have HCT:=vL hct
   clear hce hck hct
   go_wp2_with fail
   refine HC2.out.mono ?_
   rintro e w5 ⟨rfl,hb5⟩
   have hB5:=hb4.trans (hb5.mono hb4.size)
   have hz4:=(hB5).size
   have r2:=((hB5).block (w.heap.size+1) (by omega)).trans q2
   have r3:=((hB5).block (w.heap.size+1+1) (by omega)).trans q3
   have k0:=ah r2 0
   have k1:=ah r2 1
   have f0:=ay r2 0
   have f1:=ay r2 1
   have x0:(w5).cell? ⟨w.heap.size+1+1,0,none⟩=some (.int .i64 0):=by rw[World.cell?,r3];rfl
   have x1:(w5).frozen? ⟨w.heap.size+1+1,0,none⟩=false:=by rw[World.frozen?,r3];simp
   have g0:=bT r2 (.slice none 0 0) (.slice none 0 0)
   have M9:=vL ((((M3.out.trans ((hB5).mono M3.out.size)).setCell (p:=⟨w.heap.size+1,0,none⟩) (wM _) (.slice none 0 0)).setCell (p:=⟨w.heap.size+1,1,none⟩) (wM _) (.slice none 0 0)).setCell (p:=⟨w.heap.size+1+1,0,none⟩) (by show w.heap.size≤w.heap.size+1+1;omega) (.int .i64 30))
   have hne:w.heap.size+1≠w.heap.size+1+1:=by omega
   have g1:=(Below.heap_setCell (((w5).setCell ⟨w.heap.size+1,0,none⟩ (.slice none 0 0)).setCell ⟨w.heap.size+1,1,none⟩ (.slice none 0 0)) ⟨w.heap.size+1+1,0,none⟩ (.int .i64 30) (w.heap.size+1) hne).trans g0
   have y0:=ah g1 0
   have y1:=ah g1 1
   go_wp2
   refine⟨.tuple #[.agg #[.slice none 0 0,.slice none 0 0],.int .i64 30],by simp at y0 y1;simp[results,Tryz.results53,go_sem,y0,y1,x0],?_⟩
   refine⟨_,by rw[HCT.out],?_,M9.out⟩
   rw[HCT.out];exact kw _ _
 ·have hce:am fa fb=30:=by unfold am;rw[if_neg hck]
  rw[hce] at HC1
  have hct:bm fa fb ga gb r=(([],[]),30):=by unfold bm;rw[if_pos (by simpa using hck)]
  have HCT:=vL hct
  clear hce hck hct
  go_wp2_with fail
  refine HC1.out.mono ?_
  rintro e w4 ⟨rfl,hb4⟩
  have hz4:=(hb4).size
  have r2:=((hb4).block (w.heap.size+1) (by omega)).trans q2
  have r3:=((hb4).block (w.heap.size+1+1) (by omega)).trans q3
  have k0:=ah r2 0
  have k1:=ah r2 1
  have f0:=ay r2 0
  have f1:=ay r2 1
  have x0:(w4).cell? ⟨w.heap.size+1+1,0,none⟩=some (.int .i64 0):=by rw[World.cell?,r3];rfl
  have x1:(w4).frozen? ⟨w.heap.size+1+1,0,none⟩=false:=by rw[World.frozen?,r3];simp
  have g0:=bT r2 (.slice none 0 0) (.slice none 0 0)
  have M9:=vL ((((M3.out.trans ((hb4).mono M3.out.size)).setCell (p:=⟨w.heap.size+1,0,none⟩) (wM _) (.slice none 0 0)).setCell (p:=⟨w.heap.size+1,1,none⟩) (wM _) (.slice none 0 0)).setCell (p:=⟨w.heap.size+1+1,0,none⟩) (by show w.heap.size≤w.heap.size+1+1;omega) (.int .i64 30))
  have hne:w.heap.size+1≠w.heap.size+1+1:=by omega
  have g1:=(Below.heap_setCell (((w4).setCell ⟨w.heap.size+1,0,none⟩ (.slice none 0 0)).setCell ⟨w.heap.size+1,1,none⟩ (.slice none 0 0)) ⟨w.heap.size+1+1,0,none⟩ (.int .i64 30) (w.heap.size+1) hne).trans g0
  have y0:=ah g1 0
  have y1:=ah g1 1
  go_wp2
  refine⟨.tuple #[.agg #[.slice none 0 0,.slice none 0 0],.int .i64 30],by simp at y0 y1;simp[results,Tryz.results53,go_sem,y0,y1,x0],?_⟩
  refine⟨_,by rw[HCT.out],?_,M9.out⟩
  rw[HCT.out];exact kw _ _
end Go.Proofs.YtomkanblohhpfaaGreatDoor
