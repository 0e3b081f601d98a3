/- L -/
import Derived.Recover
import Derived.Test.YtmakbmhlemhgeaaGreatDoorQLP8
import Derived.Test.YtmakbmhlemhgeaaGreatDoorQB
set_option linter.all false
set_option maxRecDepth 100000
set_option maxHeartbeats 8000000
namespace Go.Proofs.YtmakbmhlemhgeaaGreatDoor
open Go.RowKit Dg
theorem oO (v:Value) (fa fb ga gb:List ByteArray) (k:ByteArray) (n:Int) (w:World) (hP:fI w v fa fb ga gb k n) (h0:0<fa.length) (h2:fa.length<1000) (h3:fb.length<1000) (hG:Gw w) :
  Calls Tryz.prog 23 #[v] w (el (bJ fa fa fb) w):=by
 obtain⟨p,c,q,d,p',c',q',d',rfl,hfa,hfb,-,-⟩:=id hP.ex;go_enter Tryz.func23,Tryz.ntmps23;go_upto_region 1 with fail
 have m1:=ae w (.cells #[.slice p fa.length c,.slice q fb.length d,.slice p' ga.length c',.slice q' gb.length d',.string k,.int .i64 n] 58);have z1:=af w (.cells #[.slice p fa.length c,.slice q fb.length d,.slice p' ga.length c',.slice q' gb.length d',.string k,.int .i64 n] 58);have a0:=fun j u h=>ah w #[.slice p fa.length c,.slice q fb.length d,.slice p' ga.length c',.slice q' gb.length d',.string k,.int .i64 n] 58 j u h;generalize w.alloc (.cells #[.slice p fa.length c,.slice q fb.length d,.slice p' ga.length c',.slice q' gb.length d',.string k,.int .i64 n] 58)=w1 at *
 have q2:(w1.alloc (.cells #[.slice none 0 0,.slice none 0 0] 34)).heap[w1.heap.size]?=some (.cells #[.slice none 0 0,.slice none 0 0] 34 (0,0)):=heap_alloc_new w1 _;have m2:=ae w1 (.cells #[.slice none 0 0,.slice none 0 0] 34);have z2:=af w1 (.cells #[.slice none 0 0,.slice none 0 0] 34);have hlt:w.heap.size<w1.heap.size:=by omega
 have b0:=ac m2 hlt (a0 0 _ rfl);have b1:=ac m2 hlt (a0 1 _ rfl);have b2:=ac m2 hlt (a0 2 _ rfl);have b3:=ac m2 hlt (a0 3 _ rfl);have b4:=ac m2 hlt (a0 4 _ rfl);have b5:=ac m2 hlt (a0 5 _ rfl);generalize w1.alloc (.cells #[.slice none 0 0,.slice none 0 0] 34)=w2 at *
 rw[z1] at q2;have M2:=ri (m1.trans (m2.mono m1.size));have hz2:w.heap.size+1<w2.heap.size:=by omega
 have HC:=ri (jp _ _ fa fa fb ga gb k n w2 (hP.below M2.out) (hfa.below M2.out) (by omega) h0 h2 h3 (hG.below M2.out));clear m1 z1 a0 m2 z2 hfa hfb hG hP hlt;go_wp2_with fail
 refine HC.out.mono ?_;rintro e w3 ⟨hb3,hr⟩
 cases hct:bJ fa fa fb with
 | error m =>
  rw[hct] at hr;simp only at hr;subst hr;exact⟨rfl,M2.out.trans (hb3.mono M2.out.size),by simp only⟩
 | ok ab =>
  obtain⟨L1,L2⟩:=ab;rw[hct] at hr;simp only at hr;obtain⟨u,rfl,hu⟩:=hr;obtain⟨p1,c1,p2,c2,rfl,g1,g2,o1,o2⟩:=hu.ex;have hn1:Value.ownBlock (.slice p1 L1.length c1)≠some (w.heap.size+1):=fun e=>by have:=o1 _ e;omega
  have hn2:Value.ownBlock (.slice p2 L2.length c2)≠some (w.heap.size+1):=fun e=>by have:=o2 _ e;omega
  have q3:=(hb3.block (w.heap.size+1) hz2).trans q2;have k0:=ag q3 0;have k1:=ag q3 1;have f0:=an q3 0;have f1:=an q3 1;have R1:=ri ((g1.other hn1 0 (.slice p1 L1.length c1)).other hn1 1 (.slice p2 L2.length c2));have R2:=ri ((g2.other hn2 0 (.slice p1 L1.length c1)).other hn2 1 (.slice p2 L2.length c2));have O1:=ri (show ∀ g,Value.ownBlock (.slice p1 L1.length c1)=some g->w.heap.size<=g from fun g e=>by have:=o1 _ e;omega);have O2:=ri (show ∀ g,Value.ownBlock (.slice p2 L2.length c2)=some g->w.heap.size<=g from fun g e=>by have:=o2 _ e;omega);have M7:=ri (((M2.out.trans (hb3.mono M2.out.size)).setCell (p:=⟨w.heap.size+1,0,none⟩) (rT _) (.slice p1 L1.length c1)).setCell (p:=⟨w.heap.size+1,1,none⟩) (rT _) (.slice p2 L2.length c2));have g0:=bz q3 (.slice p1 L1.length c1) (.slice p2 L2.length c2);have x0:=ag g0 0;have x1:=ag g0 1;have HCT:=ri hct;clear hn1 hn2 g1 g2 o1 o2 q2 q3 hb3 HC hu hct;go_wp2;refine t8 (v:=.agg #[.slice p1 L1.length c1,.slice p2 L2.length c2]) (by simp at x0 x1;simp[results,Tryz.results23,go_sem,x0,x1]) rfl ⟨M7.out,?_⟩;rw[HCT.out];exact⟨_,rfl,⟨p1,c1,p2,c2,rfl,R1.out,R2.out,O1.out,O2.out⟩⟩
theorem qV (v:Value) (fa fb ga gb:List ByteArray) (k:ByteArray) (n:Int) (w:World) (hP:fI w v fa fb ga gb k n) (h0:0<fa.length) (h2:fa.length<1000) (h3:fb.length<1000) (hG:Gw w) :
  Calls Tryz.prog 22 #[v] w (el (bJ fb fa fb) w):=by
 obtain⟨p,c,q,d,p',c',q',d',rfl,hfa,hfb,-,-⟩:=id hP.ex;go_enter Tryz.func22,Tryz.ntmps22;go_upto_region 1 with fail
 have m1:=ae w (.cells #[.slice p fa.length c,.slice q fb.length d,.slice p' ga.length c',.slice q' gb.length d',.string k,.int .i64 n] 58);have z1:=af w (.cells #[.slice p fa.length c,.slice q fb.length d,.slice p' ga.length c',.slice q' gb.length d',.string k,.int .i64 n] 58);have a0:=fun j u h=>ah w #[.slice p fa.length c,.slice q fb.length d,.slice p' ga.length c',.slice q' gb.length d',.string k,.int .i64 n] 58 j u h;generalize w.alloc (.cells #[.slice p fa.length c,.slice q fb.length d,.slice p' ga.length c',.slice q' gb.length d',.string k,.int .i64 n] 58)=w1 at *
 have q2:(w1.alloc (.cells #[.slice none 0 0,.slice none 0 0] 34)).heap[w1.heap.size]?=some (.cells #[.slice none 0 0,.slice none 0 0] 34 (0,0)):=heap_alloc_new w1 _;have m2:=ae w1 (.cells #[.slice none 0 0,.slice none 0 0] 34);have z2:=af w1 (.cells #[.slice none 0 0,.slice none 0 0] 34);have hlt:w.heap.size<w1.heap.size:=by omega
 have b0:=ac m2 hlt (a0 0 _ rfl);have b1:=ac m2 hlt (a0 1 _ rfl);have b2:=ac m2 hlt (a0 2 _ rfl);have b3:=ac m2 hlt (a0 3 _ rfl);have b4:=ac m2 hlt (a0 4 _ rfl);have b5:=ac m2 hlt (a0 5 _ rfl);generalize w1.alloc (.cells #[.slice none 0 0,.slice none 0 0] 34)=w2 at *
 rw[z1] at q2;have M2:=ri (m1.trans (m2.mono m1.size));have hz2:w.heap.size+1<w2.heap.size:=by omega
 have HC:=ri (jp _ _ fb fa fb ga gb k n w2 (hP.below M2.out) (hfb.below M2.out) (by omega) h0 h2 h3 (hG.below M2.out));clear m1 z1 a0 m2 z2 hfa hfb hG hP hlt;go_wp2_with fail
 refine HC.out.mono ?_;rintro e w3 ⟨hb3,hr⟩
 cases hct:bJ fb fa fb with
 | error m =>
  rw[hct] at hr;simp only at hr;subst hr;exact⟨rfl,M2.out.trans (hb3.mono M2.out.size),by simp only⟩
 | ok ab =>
  obtain⟨L1,L2⟩:=ab;rw[hct] at hr;simp only at hr;obtain⟨u,rfl,hu⟩:=hr;obtain⟨p1,c1,p2,c2,rfl,g1,g2,o1,o2⟩:=hu.ex;have hn1:Value.ownBlock (.slice p1 L1.length c1)≠some (w.heap.size+1):=fun e=>by have:=o1 _ e;omega
  have hn2:Value.ownBlock (.slice p2 L2.length c2)≠some (w.heap.size+1):=fun e=>by have:=o2 _ e;omega
  have q3:=(hb3.block (w.heap.size+1) hz2).trans q2;have k0:=ag q3 0;have k1:=ag q3 1;have f0:=an q3 0;have f1:=an q3 1;have R1:=ri ((g1.other hn1 0 (.slice p1 L1.length c1)).other hn1 1 (.slice p2 L2.length c2));have R2:=ri ((g2.other hn2 0 (.slice p1 L1.length c1)).other hn2 1 (.slice p2 L2.length c2));have O1:=ri (show ∀ g,Value.ownBlock (.slice p1 L1.length c1)=some g->w.heap.size<=g from fun g e=>by have:=o1 _ e;omega);have O2:=ri (show ∀ g,Value.ownBlock (.slice p2 L2.length c2)=some g->w.heap.size<=g from fun g e=>by have:=o2 _ e;omega);have M7:=ri (((M2.out.trans (hb3.mono M2.out.size)).setCell (p:=⟨w.heap.size+1,0,none⟩) (rT _) (.slice p1 L1.length c1)).setCell (p:=⟨w.heap.size+1,1,none⟩) (rT _) (.slice p2 L2.length c2));have g0:=bz q3 (.slice p1 L1.length c1) (.slice p2 L2.length c2);have x0:=ag g0 0;have x1:=ag g0 1;have HCT:=ri hct;clear hn1 hn2 g1 g2 o1 o2 q2 q3 hb3 HC hu hct;go_wp2;refine t8 (v:=.agg #[.slice p1 L1.length c1,.slice p2 L2.length c2]) (by simp at x0 x1;simp[results,Tryz.results22,go_sem,x0,x1]) rfl ⟨M7.out,?_⟩;rw[HCT.out];exact⟨_,rfl,⟨p1,c1,p2,c2,rfl,R1.out,R2.out,O1.out,O2.out⟩⟩
theorem lK {P:Program}{c:Code}{Q:Exit->Act->List Frame->World->Prop}{a:Act}{cs:List Frame}{w:World} (b:Act) (hb:a=b) (h:∀ Q':Exit->Act->World->Prop,Hid (∀ e a' w',Q e a' cs w'->Q' e a' w')->c.wp P Q' b w):c.wpS P Q a cs w:=by
 subst hb;exact wpS_of_wp (h _ (ri fun _ _ _ h=>h))
structure Has (p:Addr) (v:Value) where
 w:World
 h:w.cell? p=some v
theorem pJ (v:Value) (w:World):(Instr.typeAssert (.iface 114 v) 20 114 true).run Tryz.prog w=.ok (.tuple #[v,.bool true]) w:=by
 unfold Instr.typeAssert;rw[Sem.run_bind,run_underlying Tryz.underlying114];rfl
theorem dN (kf ke:Nat) (x y z:Value) (n:Int) (w:World) (hf:w.heap[kf]?=some (.cells #[x,y] 34 (0,0))) (he:w.heap[ke]?=some (.cells #[z] 35 (0,0))) :
  CallsD Tryz.prog 64 #[.pointer (some ⟨kf,0,none⟩),.pointer (some ⟨ke,0,none⟩)] (.panicking (ns n)) w fun e u' w' =>
   e=.returned (.tuple #[])/\u'=.panicking [{ v:=.iface 114 (.agg #[.int .i64 n]),recovered:=true }] /\
   (∀ B w0,Below B w0 w->B<=kf->B<=ke->Below B w0 w')/\w'.heap[kf]?=some (.cells #[.slice none 0 0,.slice none 0 0] 34 (0,0))/\w'.heap[ke]?=some (.cells #[.int .i64 n] 35 (0,0)):=by
 refine callsD_of_wpS Tryz.func64 rfl fun c₀ cs hu=>?_
 apply wpS_seq
 apply wpS_region
 unfold ns at hu;simp[wpOpsS,go_sem,recoverD,hu,Tryz.ntmps64,Exit.thenS];refine lK { tmps:=#[.pointer (some ⟨kf,0,none⟩),.pointer (some ⟨ke,0,none⟩),.iface 114 (.agg #[.int .i64 n]),undef,undef,.iface 114 (.agg #[.int .i64 n]),undef,undef,undef,undef,undef,undef,undef,undef,undef,undef,undef,undef,undef],defers:=[] } rfl fun Q' HQ=>?_;have k0:=ag hf 0;have k1:=ag hf 1;have f0:=an hf 0;have f1:=an hf 1;have TA:=pJ;go_upto_region 5 with fail
 have hfl:kf<w.heap.size:=(rD.1 hf).1;have hel:ke<w.heap.size:=(rD.1 he).1
 have hne:kf≠ke:=fun e=>by
  subst e;rw[hf] at he;simp at he
 have m1:=ae w (.cells #[.int .i64 n] 114);have c0:(w.alloc (.cells #[.int .i64 n] 114)).drew.cell? ⟨w.heap.size,0,none⟩=some (.int .i64 n):=ah w _ _ 0 _ rfl;have hf1:=(m1.drew.block kf hfl).trans hf;have he1:=(m1.drew.block ke hel).trans he;have hB:=ri (fun B w0 (h:Below B w0 w) (h1:B<=kf)=>(h.trans ((m1.drew).mono (show B<=w.heap.size by omega))))
 haveI:Nonempty (Has ⟨w.heap.size,0,none⟩ (.int .i64 n)):=⟨⟨_,c0⟩⟩
 refine aq (fun w'=>∃ x:Has ⟨w.heap.size,0,none⟩ (.int .i64 n),w'=x.w) (fun i=>i == 3||i == 4) (by kernel_rfl) (by kernel_rfl) ⟨⟨_,c0⟩,rfl⟩ ?_;have hh:=fun x:Has ⟨w.heap.size,0,none⟩ (.int .i64 n)=>x.h;clear m1 hf he k0 k1 f0 f1;generalize (w.alloc (.cells #[.int .i64 n] 114)).drew=w1 at *
 refine aj 3 0 _ _ _ (by kernel_rfl) ?_;simp only[rC,rG,rB,rF];repeat (go_big_quiet_step (fail))
 refine wpQuiet_nil ?_;have k0:=ag hf1 0;have k1:=ag hf1 1;have f0:=an hf1 0;have f1:=an hf1 1;clear hh;refine ai rfl rfl (fun K hK=>?_);go_simp;have g0:=bz hf1 (.slice none 0 0) (.slice none 0 0)
 have c1:((w1.setCell ⟨kf,0,none⟩ (.slice none 0 0)).setCell ⟨kf,1,none⟩ (.slice none 0 0)).cell? ⟨w.heap.size,0,none⟩=some (.int .i64 n):=by
  rw[World.cell?_setCell_other _ _ _ _ (by intro e;have:=congrArg Addr.block e;simp at this;omega),World.cell?_setCell_other _ _ _ _ (by intro e;have:=congrArg Addr.block e;simp at this;omega)];exact c0
 have he2:((w1.setCell ⟨kf,0,none⟩ (.slice none 0 0)).setCell ⟨kf,1,none⟩ (.slice none 0 0)).heap[ke]?=some (.cells #[z] 35 (0,0)) :=
  ((Below.heap_setCell _ ⟨kf,1,none⟩ _ ke (Ne.symm hne)).trans (Below.heap_setCell _ ⟨kf,0,none⟩ _ ke (Ne.symm hne))).trans he1
 refine hK undef _ ⟨⟨_,c1⟩,rfl⟩ ?_;clear hK K;try simp only[Act.put,rm,rl,rk,rj,rr,rq]
 have hB2:=ri (fun B w0 (h:Below B w0 w) (h1:B<=kf)=>((hB.out B w0 h h1).setCell (p:=⟨kf,0,none⟩) h1 (.slice none 0 0)).setCell (p:=⟨kf,1,none⟩) h1 (.slice none 0 0));clear k0 k1 f0 f1 hf1 he1 hB c0;generalize (w1.setCell ⟨kf,0,none⟩ (.slice none 0 0)).setCell ⟨kf,1,none⟩ (.slice none 0 0)=w2 at *
 have k0:w2.cell? ⟨ke,0,none⟩=some z:=by rw[World.cell?,he2];rfl
 have f0:w2.frozen? ⟨ke,0,none⟩=false:=by rw[World.frozen?,he2];simp
 refine ai rfl rfl (fun K hK=>?_);go_simp
 have c2:(w2.setCell ⟨ke,0,none⟩ (.int .i64 n)).cell? ⟨w.heap.size,0,none⟩=some (.int .i64 n):=by
  rw[World.cell?_setCell_other _ _ _ _ (by intro e;have:=congrArg Addr.block e;simp at this;omega)];exact c1
 refine hK undef _ ⟨⟨_,c2⟩,rfl⟩ ?_;clear hK K;try simp only[Act.put,rm,rl,rk,rj,rr,rq]
 refine aP ?_;refine HQ.out _ _ _ ?_;have e1:=heap_setCell_same w2 ke 0 #[z] _ (.int .i64 n) he2;have e2:(w2.setCell ⟨ke,0,none⟩ (.int .i64 n)).heap[kf]?=some (.cells #[.slice none 0 0,.slice none 0 0] 34 (0,0)):=(Below.heap_setCell _ ⟨ke,0,none⟩ _ kf hne).trans g0;have e3:=fun B w0 (h:Below B w0 w) (h1:B<=kf) (h2:B<=ke)=>(hB2.out B w0 h h1).setCell (p:=⟨ke,0,none⟩) h2 (.int .i64 n);have e1':(w2.setCell ⟨ke,0,none⟩ (.int .i64 n)).heap[ke]?=some (.cells #[.int .i64 n] 35 (0,0)):=e1;clear e1 c2 c1 k0 f0 he2 g0 hB2 HQ TA;simp[bodyPostS,results,Tryz.results64];exact⟨e3,e2,e1'⟩
theorem lS (kf ke:Nat) (w:World) :
  CallsD Tryz.prog 64 #[.pointer (some ⟨kf,0,none⟩),.pointer (some ⟨ke,0,none⟩)] .returning w fun e u' w'=>e=.returned (.tuple #[])/\u'=.returning/\w'=w:=by
 refine callsD_of_wpS Tryz.func64 rfl fun c₀ cs hu=>?_
 apply wpS_seq
 apply wpS_region
 simp[wpOpsS,go_sem,recoverD,hu,Tryz.ntmps64,Exit.thenS];refine lK { tmps:=#[.pointer (some ⟨kf,0,none⟩),.pointer (some ⟨ke,0,none⟩),.nilIface,undef,undef,.nilIface,undef,undef,undef,undef,undef,undef,undef,undef,undef,undef,undef,undef,undef],defers:=[] } rfl fun Q' HQ=>?_;go_wp2;refine HQ.out _ _ _ ?_
 cases c₀
 simp_all [bodyPostS,results,Tryz.results64]
end Go.Proofs.YtmakbmhlemhgeaaGreatDoor
