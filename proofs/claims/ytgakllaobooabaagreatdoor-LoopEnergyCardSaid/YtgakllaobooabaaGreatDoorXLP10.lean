/- L -/
import Derived.Recover
import Derived.Test.YtgakllaobooabaaGreatDoorXLP8
import Derived.Test.YtgakllaobooabaaGreatDoorXB
set_option linter.all false
set_option maxRecDepth 100000
set_option maxHeartbeats 8000000
namespace Go.Proofs.YtgakllaobooabaaGreatDoor
open Go.RowKit Dg
theorem xQ (v:Value) (fa fb ga gb:List ByteArray) (k:ByteArray) (n:Int) (w:World) (hP:j_ w v fa fb ga gb k n) (h0:0<fa.length) (h2:fa.length<1000) (h3:fb.length<1000) (hG:Gw w) :
  Calls Tryz.prog 50 #[v] w (iU (eG fa fa fb) w):=by
 obtain⟨p,c,q,d,p',c',q',d',rfl,hfa,hfb,-,-⟩:=id hP.ex;go_enter Tryz.func50,Tryz.ntmps50;go_upto_region 1 with fail
 have m1:=ac w (.cells #[.slice p fa.length c,.slice q fb.length d,.slice p' ga.length c',.slice q' gb.length d',.string k,.int .i64 n] 87);have z1:=size_alloc w (.cells #[.slice p fa.length c,.slice q fb.length d,.slice p' ga.length c',.slice q' gb.length d',.string k,.int .i64 n] 87);have a0:=fun j u h=>ap w #[.slice p fa.length c,.slice q fb.length d,.slice p' ga.length c',.slice q' gb.length d',.string k,.int .i64 n] 87 j u h;generalize w.alloc (.cells #[.slice p fa.length c,.slice q fb.length d,.slice p' ga.length c',.slice q' gb.length d',.string k,.int .i64 n] 87)=w1 at *
 have q2:(w1.alloc (.cells #[.slice none 0 0,.slice none 0 0] 24)).heap[w1.heap.size]?=some (.cells #[.slice none 0 0,.slice none 0 0] 24 (0,0)):=heap_alloc_new w1 _;have m2:=ac w1 (.cells #[.slice none 0 0,.slice none 0 0] 24);have z2:=size_alloc w1 (.cells #[.slice none 0 0,.slice none 0 0] 24);have hlt:w.heap.size<w1.heap.size:=by omega
 have b0:=aa m2 hlt (a0 0 _ rfl);have b1:=aa m2 hlt (a0 1 _ rfl);have b2:=aa m2 hlt (a0 2 _ rfl);have b3:=aa m2 hlt (a0 3 _ rfl);have b4:=aa m2 hlt (a0 4 _ rfl);have b5:=aa m2 hlt (a0 5 _ rfl);generalize w1.alloc (.cells #[.slice none 0 0,.slice none 0 0] 24)=w2 at *
 rw[z1] at q2;have M2:=At (m1.trans (m2.mono m1.size));have hz2:w.heap.size+1<w2.heap.size:=by omega
 have HC:=At (ol _ _ fa fa fb ga gb k n w2 (hP.below M2.out) (hfa.below M2.out) (by omega) h0 h2 h3 (hG.below M2.out));clear m1 z1 a0 m2 z2 hfa hfb hG hP hlt;go_wp2_with fail
 refine HC.out.mono ?_;rintro e w3 ⟨hb3,hr⟩
 cases hct:eG fa fa fb with
 | error m =>
  rw[hct] at hr;simp only at hr;subst hr;exact⟨rfl,M2.out.trans (hb3.mono M2.out.size),by simp only⟩
 | ok ab =>
  obtain⟨L1,L2⟩:=ab;rw[hct] at hr;simp only at hr;obtain⟨u,rfl,hu⟩:=hr;obtain⟨p1,c1,p2,c2,rfl,g1,g2,o1,o2⟩:=hu.ex;have hn1:Value.ownBlock (.slice p1 L1.length c1)≠some (w.heap.size+1):=fun e=>by have:=o1 _ e;omega
  have hn2:Value.ownBlock (.slice p2 L2.length c2)≠some (w.heap.size+1):=fun e=>by have:=o2 _ e;omega
  have q3:=(hb3.block (w.heap.size+1) hz2).trans q2;have k0:=ah q3 0;have k1:=ah q3 1;have f0:=ay q3 0;have f1:=ay q3 1;have R1:=At ((g1.other hn1 0 (.slice p1 L1.length c1)).other hn1 1 (.slice p2 L2.length c2));have R2:=At ((g2.other hn2 0 (.slice p1 L1.length c1)).other hn2 1 (.slice p2 L2.length c2));have O1:=At (show ∀ g,Value.ownBlock (.slice p1 L1.length c1)=some g->w.heap.size<=g from fun g e=>by have:=o1 _ e;omega);have O2:=At (show ∀ g,Value.ownBlock (.slice p2 L2.length c2)=some g->w.heap.size<=g from fun g e=>by have:=o2 _ e;omega);have M7:=At (((M2.out.trans (hb3.mono M2.out.size)).setCell (p:=⟨w.heap.size+1,0,none⟩) (Bg _) (.slice p1 L1.length c1)).setCell (p:=⟨w.heap.size+1,1,none⟩) (Bg _) (.slice p2 L2.length c2));have g0:=cD q3 (.slice p1 L1.length c1) (.slice p2 L2.length c2);have x0:=ah g0 0;have x1:=ah g0 1;have HCT:=At hct;clear hn1 hn2 g1 g2 o1 o2 q2 q3 hb3 HC hu hct;go_wp2;refine Du (v:=.agg #[.slice p1 L1.length c1,.slice p2 L2.length c2]) (by simp at x0 x1;simp[results,Tryz.results50,go_sem,x0,x1]) rfl ⟨M7.out,?_⟩;rw[HCT.out];exact⟨_,rfl,⟨p1,c1,p2,c2,rfl,R1.out,R2.out,O1.out,O2.out⟩⟩
theorem Ae (v:Value) (fa fb ga gb:List ByteArray) (k:ByteArray) (n:Int) (w:World) (hP:j_ w v fa fb ga gb k n) (h0:0<fa.length) (h2:fa.length<1000) (h3:fb.length<1000) (hG:Gw w) :
  Calls Tryz.prog 51 #[v] w (iU (eG fb fa fb) w):=by
 obtain⟨p,c,q,d,p',c',q',d',rfl,hfa,hfb,-,-⟩:=id hP.ex;go_enter Tryz.func51,Tryz.ntmps51;go_upto_region 1 with fail
 have m1:=ac w (.cells #[.slice p fa.length c,.slice q fb.length d,.slice p' ga.length c',.slice q' gb.length d',.string k,.int .i64 n] 87);have z1:=size_alloc w (.cells #[.slice p fa.length c,.slice q fb.length d,.slice p' ga.length c',.slice q' gb.length d',.string k,.int .i64 n] 87);have a0:=fun j u h=>ap w #[.slice p fa.length c,.slice q fb.length d,.slice p' ga.length c',.slice q' gb.length d',.string k,.int .i64 n] 87 j u h;generalize w.alloc (.cells #[.slice p fa.length c,.slice q fb.length d,.slice p' ga.length c',.slice q' gb.length d',.string k,.int .i64 n] 87)=w1 at *
 have q2:(w1.alloc (.cells #[.slice none 0 0,.slice none 0 0] 24)).heap[w1.heap.size]?=some (.cells #[.slice none 0 0,.slice none 0 0] 24 (0,0)):=heap_alloc_new w1 _;have m2:=ac w1 (.cells #[.slice none 0 0,.slice none 0 0] 24);have z2:=size_alloc w1 (.cells #[.slice none 0 0,.slice none 0 0] 24);have hlt:w.heap.size<w1.heap.size:=by omega
 have b0:=aa m2 hlt (a0 0 _ rfl);have b1:=aa m2 hlt (a0 1 _ rfl);have b2:=aa m2 hlt (a0 2 _ rfl);have b3:=aa m2 hlt (a0 3 _ rfl);have b4:=aa m2 hlt (a0 4 _ rfl);have b5:=aa m2 hlt (a0 5 _ rfl);generalize w1.alloc (.cells #[.slice none 0 0,.slice none 0 0] 24)=w2 at *
 rw[z1] at q2;have M2:=At (m1.trans (m2.mono m1.size));have hz2:w.heap.size+1<w2.heap.size:=by omega
 have HC:=At (ol _ _ fb fa fb ga gb k n w2 (hP.below M2.out) (hfb.below M2.out) (by omega) h0 h2 h3 (hG.below M2.out));clear m1 z1 a0 m2 z2 hfa hfb hG hP hlt;go_wp2_with fail
 refine HC.out.mono ?_;rintro e w3 ⟨hb3,hr⟩
 cases hct:eG fb fa fb with
 | error m =>
  rw[hct] at hr;simp only at hr;subst hr;exact⟨rfl,M2.out.trans (hb3.mono M2.out.size),by simp only⟩
 | ok ab =>
  obtain⟨L1,L2⟩:=ab;rw[hct] at hr;simp only at hr;obtain⟨u,rfl,hu⟩:=hr;obtain⟨p1,c1,p2,c2,rfl,g1,g2,o1,o2⟩:=hu.ex;have hn1:Value.ownBlock (.slice p1 L1.length c1)≠some (w.heap.size+1):=fun e=>by have:=o1 _ e;omega
  have hn2:Value.ownBlock (.slice p2 L2.length c2)≠some (w.heap.size+1):=fun e=>by have:=o2 _ e;omega
  have q3:=(hb3.block (w.heap.size+1) hz2).trans q2;have k0:=ah q3 0;have k1:=ah q3 1;have f0:=ay q3 0;have f1:=ay q3 1;have R1:=At ((g1.other hn1 0 (.slice p1 L1.length c1)).other hn1 1 (.slice p2 L2.length c2));have R2:=At ((g2.other hn2 0 (.slice p1 L1.length c1)).other hn2 1 (.slice p2 L2.length c2));have O1:=At (show ∀ g,Value.ownBlock (.slice p1 L1.length c1)=some g->w.heap.size<=g from fun g e=>by have:=o1 _ e;omega);have O2:=At (show ∀ g,Value.ownBlock (.slice p2 L2.length c2)=some g->w.heap.size<=g from fun g e=>by have:=o2 _ e;omega);have M7:=At (((M2.out.trans (hb3.mono M2.out.size)).setCell (p:=⟨w.heap.size+1,0,none⟩) (Bg _) (.slice p1 L1.length c1)).setCell (p:=⟨w.heap.size+1,1,none⟩) (Bg _) (.slice p2 L2.length c2));have g0:=cD q3 (.slice p1 L1.length c1) (.slice p2 L2.length c2);have x0:=ah g0 0;have x1:=ah g0 1;have HCT:=At hct;clear hn1 hn2 g1 g2 o1 o2 q2 q3 hb3 HC hu hct;go_wp2;refine Du (v:=.agg #[.slice p1 L1.length c1,.slice p2 L2.length c2]) (by simp at x0 x1;simp[results,Tryz.results51,go_sem,x0,x1]) rfl ⟨M7.out,?_⟩;rw[HCT.out];exact⟨_,rfl,⟨p1,c1,p2,c2,rfl,R1.out,R2.out,O1.out,O2.out⟩⟩
theorem sJ {P:Program}{c:Code}{Q:Exit->Act->List Frame->World->Prop}{a:Act}{cs:List Frame}{w:World} (b:Act) (hb:a=b) (h:∀ Q':Exit->Act->World->Prop,Hid (∀ e a' w',Q e a' cs w'->Q' e a' w')->c.wp P Q' b w):c.wpS P Q a cs w:=by
 subst hb;exact wpS_of_wp (h _ (At fun _ _ _ h=>h))
structure Has (p:Addr) (v:Value) where
 w:World
 h:w.cell? p=some v
theorem yF (v:Value) (w:World):(Instr.typeAssert (.iface 118 v) 20 118 true).run Tryz.prog w=.ok (.tuple #[v,.bool true]) w:=by
 unfold Instr.typeAssert;rw[Sem.run_bind,run_underlying Tryz.underlying118];rfl
theorem hO (kf ke:Nat) (x y z:Value) (n:Int) (w:World) (hf:w.heap[kf]?=some (.cells #[x,y] 24 (0,0))) (he:w.heap[ke]?=some (.cells #[z] 26 (0,0))) :
  CallsD Tryz.prog 87 #[.pointer (some ⟨kf,0,none⟩),.pointer (some ⟨ke,0,none⟩)] (.panicking (vN n)) w fun e u' w' =>
   e=.returned (.tuple #[])/\u'=.panicking [{ v:=.iface 118 (.agg #[.int .i64 n]),recovered:=true }] /\
   (∀ B w0,Below B w0 w->B<=kf->B<=ke->Below B w0 w')/\w'.heap[kf]?=some (.cells #[.slice none 0 0,.slice none 0 0] 24 (0,0))/\w'.heap[ke]?=some (.cells #[.int .i64 n] 26 (0,0)):=by
 refine callsD_of_wpS Tryz.func87 rfl fun c₀ cs hu=>?_
 apply wpS_seq
 apply wpS_region
 unfold vN at hu;simp[wpOpsS,go_sem,recoverD,hu,Tryz.ntmps87,Exit.thenS];refine sJ { tmps:=#[.pointer (some ⟨kf,0,none⟩),.pointer (some ⟨ke,0,none⟩),.iface 118 (.agg #[.int .i64 n]),undef,undef,.iface 118 (.agg #[.int .i64 n]),undef,undef,undef,undef,undef,undef,undef,undef,undef,undef,undef,undef,undef],defers:=[] } rfl fun Q' HQ=>?_;have k0:=ah hf 0;have k1:=ah hf 1;have f0:=ay hf 0;have f1:=ay hf 1;have TA:=yF;go_upto_region 5 with fail
 have hfl:kf<w.heap.size:=(AE.1 hf).1;have hel:ke<w.heap.size:=(AE.1 he).1
 have hne:kf≠ke:=fun e=>by
  subst e;rw[hf] at he;simp at he
 have m1:=ac w (.cells #[.int .i64 n] 118);have c0:(w.alloc (.cells #[.int .i64 n] 118)).drew.cell? ⟨w.heap.size,0,none⟩=some (.int .i64 n):=ap w _ _ 0 _ rfl;have hf1:=(m1.drew.block kf hfl).trans hf;have he1:=(m1.drew.block ke hel).trans he;have hB:=At (fun B w0 (h:Below B w0 w) (h1:B<=kf)=>(h.trans ((m1.drew).mono (show B<=w.heap.size by omega))))
 haveI:Nonempty (Has ⟨w.heap.size,0,none⟩ (.int .i64 n)):=⟨⟨_,c0⟩⟩
 refine ai (fun w'=>∃ x:Has ⟨w.heap.size,0,none⟩ (.int .i64 n),w'=x.w) (fun i=>i == 3||i == 4) (by kernel_rfl) (by kernel_rfl) ⟨⟨_,c0⟩,rfl⟩ ?_;have hh:=fun x:Has ⟨w.heap.size,0,none⟩ (.int .i64 n)=>x.h;clear m1 hf he k0 k1 f0 f1;generalize (w.alloc (.cells #[.int .i64 n] 118)).drew=w1 at *
 refine ae 3 0 _ _ _ (by kernel_rfl) ?_;simp only[AC,AG,AB,AF];repeat (go_big_quiet_step (fail))
 refine wpQuiet_nil ?_;have k0:=ah hf1 0;have k1:=ah hf1 1;have f0:=ay hf1 0;have f1:=ay hf1 1;clear hh;refine af rfl rfl (fun K hK=>?_);go_simp;have g0:=cD hf1 (.slice none 0 0) (.slice none 0 0)
 have c1:((w1.setCell ⟨kf,0,none⟩ (.slice none 0 0)).setCell ⟨kf,1,none⟩ (.slice none 0 0)).cell? ⟨w.heap.size,0,none⟩=some (.int .i64 n):=by
  rw[World.cell?_setCell_other _ _ _ _ (by intro e;have:=congrArg Addr.block e;simp at this;omega),World.cell?_setCell_other _ _ _ _ (by intro e;have:=congrArg Addr.block e;simp at this;omega)];exact c0
 have he2:((w1.setCell ⟨kf,0,none⟩ (.slice none 0 0)).setCell ⟨kf,1,none⟩ (.slice none 0 0)).heap[ke]?=some (.cells #[z] 26 (0,0)) :=
  ((Below.heap_setCell _ ⟨kf,1,none⟩ _ ke (Ne.symm hne)).trans (Below.heap_setCell _ ⟨kf,0,none⟩ _ ke (Ne.symm hne))).trans he1
 refine hK undef _ ⟨⟨_,c1⟩,rfl⟩ ?_;clear hK K;try simp only[Act.put,Ax,Aw,Av,Au,Ay,Az]
 have hB2:=At (fun B w0 (h:Below B w0 w) (h1:B<=kf)=>((hB.out B w0 h h1).setCell (p:=⟨kf,0,none⟩) h1 (.slice none 0 0)).setCell (p:=⟨kf,1,none⟩) h1 (.slice none 0 0));clear k0 k1 f0 f1 hf1 he1 hB c0;generalize (w1.setCell ⟨kf,0,none⟩ (.slice none 0 0)).setCell ⟨kf,1,none⟩ (.slice none 0 0)=w2 at *
 have k0:w2.cell? ⟨ke,0,none⟩=some z:=by rw[World.cell?,he2];rfl
 have f0:w2.frozen? ⟨ke,0,none⟩=false:=by rw[World.frozen?,he2];simp
 refine af rfl rfl (fun K hK=>?_);go_simp
 have c2:(w2.setCell ⟨ke,0,none⟩ (.int .i64 n)).cell? ⟨w.heap.size,0,none⟩=some (.int .i64 n):=by
  rw[World.cell?_setCell_other _ _ _ _ (by intro e;have:=congrArg Addr.block e;simp at this;omega)];exact c1
 refine hK undef _ ⟨⟨_,c2⟩,rfl⟩ ?_;clear hK K;try simp only[Act.put,Ax,Aw,Av,Au,Ay,Az]
 refine av ?_;refine HQ.out _ _ _ ?_;have e1:=heap_setCell_same w2 ke 0 #[z] _ (.int .i64 n) he2;have e2:(w2.setCell ⟨ke,0,none⟩ (.int .i64 n)).heap[kf]?=some (.cells #[.slice none 0 0,.slice none 0 0] 24 (0,0)):=(Below.heap_setCell _ ⟨ke,0,none⟩ _ kf hne).trans g0;have e3:=fun B w0 (h:Below B w0 w) (h1:B<=kf) (h2:B<=ke)=>(hB2.out B w0 h h1).setCell (p:=⟨ke,0,none⟩) h2 (.int .i64 n);have e1':(w2.setCell ⟨ke,0,none⟩ (.int .i64 n)).heap[ke]?=some (.cells #[.int .i64 n] 26 (0,0)):=e1;clear e1 c2 c1 k0 f0 he2 g0 hB2 HQ TA;simp[bodyPostS,results,Tryz.results87];exact⟨e3,e2,e1'⟩
theorem sX (kf ke:Nat) (w:World) :
  CallsD Tryz.prog 87 #[.pointer (some ⟨kf,0,none⟩),.pointer (some ⟨ke,0,none⟩)] .returning w fun e u' w'=>e=.returned (.tuple #[])/\u'=.returning/\w'=w:=by
 refine callsD_of_wpS Tryz.func87 rfl fun c₀ cs hu=>?_
 apply wpS_seq
 apply wpS_region
 simp[wpOpsS,go_sem,recoverD,hu,Tryz.ntmps87,Exit.thenS];refine sJ { tmps:=#[.pointer (some ⟨kf,0,none⟩),.pointer (some ⟨ke,0,none⟩),.nilIface,undef,undef,.nilIface,undef,undef,undef,undef,undef,undef,undef,undef,undef,undef,undef,undef,undef],defers:=[] } rfl fun Q' HQ=>?_;go_wp2;refine HQ.out _ _ _ ?_
 cases c₀
 simp_all [bodyPostS,results,Tryz.results87]
structure MkAt (M:FuncId) (fa fb ga gb:List ByteArray) (k:ByteArray) (n:Int) (r:Except Int (List ByteArray×List ByteArray)) (w:World):Prop where
 en:∀ (args:Array Value) (w:World),(callFunc M args).run Tryz.prog w=.ok (.enter M args) w
 on:∀ (v:Value) (w':World),Below w.heap.size w w'->j_ w' v fa fb ga gb k n->aq fa fb=true->aq ga gb=true->Calls Tryz.prog M #[v] w' (iU r w')
def yW:Except Int (List ByteArray×List ByteArray)->(List ByteArray×List ByteArray)×Int
 | .error n=>(([],[]),n)
 | .ok (a,b)=>if 7<a.length\/7<b.length then (([],[]),3) else if aq a b=false then (([],[]),8) else ((a,b),0)
def bJ (fa fb ga gb:List ByteArray) (r:Except Int (List ByteArray×List ByteArray)):(List ByteArray×List ByteArray)×Int :=
 if aq fa fb=false then (([],[]),30) else if aq ga gb=false then (([],[]),30) else yW r
def gz (r:(List ByteArray×List ByteArray)×Int) (w:World) (e:Ending) (w':World):Prop :=
 ∃ v,e=.returned (.tuple #[v,.int .i64 r.2])/\y_ w.heap.size w' v r.1.1 r.1.2/\Below w.heap.size w w'
theorem mB (B:Nat) (w:World):y_ B w (.agg #[.slice none 0 0,.slice none 0 0]) [] [] :=
 ⟨⟨none,0,none,0,rfl,d_.nil _ _,d_.nil _ _,(fun g h=>by cases h),(fun g h=>by cases h)⟩⟩
theorem ow (M:FuncId) (v:Value) (fa fb ga gb:List ByteArray) (k:ByteArray) (n:Int) (r:Except Int (List ByteArray×List ByteArray)) (w:World) (hP:j_ w v fa fb ga gb k n) (hM:MkAt M fa fb ga gb k n r w) (hG:Gx w) :
  Calls Tryz.prog 49 #[.func (.func M) #[] #[],v] w (gz (bJ fa fb ga gb r) w):=by
 obtain⟨p,c,q,d,p',c',q',d',rfl,hfa,hfb,hga,hgb⟩:=id hP.ex;have EN:=hM.en;have HM:=At hM;have hmf:∀ (fn:Fn) (first cap:Array Value) (w:World),(Instr.makeFunc fn first cap).run Tryz.prog w=.ok (.func fn first cap) w:=fun _ _ _ _=>rfl
 go_enter_defers Tryz.func49,Tryz.ntmps49
 go_upto_region 1 with fail
 have m1:=ac w (.cells #[.slice p fa.length c,.slice q fb.length d,.slice p' ga.length c',.slice q' gb.length d',.string k,.int .i64 n] 87);have z1:=size_alloc w (.cells #[.slice p fa.length c,.slice q fb.length d,.slice p' ga.length c',.slice q' gb.length d',.string k,.int .i64 n] 87);have a0:=fun j u h=>ap w #[.slice p fa.length c,.slice q fb.length d,.slice p' ga.length c',.slice q' gb.length d',.string k,.int .i64 n] 87 j u h;generalize w.alloc (.cells #[.slice p fa.length c,.slice q fb.length d,.slice p' ga.length c',.slice q' gb.length d',.string k,.int .i64 n] 87)=w1 at *
 have q2:(w1.alloc (.cells #[.slice none 0 0,.slice none 0 0] 24)).heap[w1.heap.size]?=some (.cells #[.slice none 0 0,.slice none 0 0] 24 (0,0)):=heap_alloc_new w1 _;have m2:=ac w1 (.cells #[.slice none 0 0,.slice none 0 0] 24);have z2:=size_alloc w1 (.cells #[.slice none 0 0,.slice none 0 0] 24);generalize w1.alloc (.cells #[.slice none 0 0,.slice none 0 0] 24)=w2 at *
 have q3:(w2.alloc (.cells #[.int .i64 0] 26)).heap[w2.heap.size]?=some (.cells #[.int .i64 0] 26 (0,0)):=heap_alloc_new w2 _;have m3:=ac w2 (.cells #[.int .i64 0] 26);have z3:=size_alloc w2 (.cells #[.int .i64 0] 26);generalize w2.alloc (.cells #[.int .i64 0] 26)=w3 at *
 have q2:=(m3.block _ (show w1.heap.size<w2.heap.size by omega)).trans q2;rw[z1] at q2 z2;rw[z2] at q3 z3;have hb13:=m2.trans (m3.mono m2.size);have hlt:w.heap.size<w1.heap.size:=by omega
 have b0:=aa hb13 hlt (a0 0 _ rfl);have b1:=aa hb13 hlt (a0 1 _ rfl);have b2:=aa hb13 hlt (a0 2 _ rfl);have b3:=aa hb13 hlt (a0 3 _ rfl);have b4:=aa hb13 hlt (a0 4 _ rfl);have b5:=aa hb13 hlt (a0 5 _ rfl);have M3:=At (m1.trans (hb13.mono m1.size));have HP:=At (hP.below M3.out);have HG:=At (hG.below M3.out);have hGx:=fun {wx:World} (h:Below w.heap.size w wx)=>hG.below h;have HF:=At (show IsF w3 (.agg #[.slice p fa.length c,.slice q fb.length d]) fa fb from⟨⟨p,c,q,d,rfl,hfa.below M3.out,hfb.below M3.out⟩⟩);have HGG:=At (show IsF w3 (.agg #[.slice p' ga.length c',.slice q' gb.length d']) ga gb from⟨⟨p',c',q',d',rfl,hga.below M3.out,hgb.below M3.out⟩⟩);have HC1:=At (dC _ fa fb w3 HF.out HG.out);have hz3:w.heap.size+3=w3.heap.size:=by omega
 clear m1 z1 a0 m2 z2 m3 z3 hb13 hlt hfa hfb hga hgb hP hG hM;by_cases hck:aq fa fb=true
 ·have hce:au fa fb=0:=by unfold au;rw[if_pos hck]
  rw[hce] at HC1;have HK1:=At hck;clear hce hck;go_wp2_with fail
  refine HC1.out.mono ?_;rintro e w4 ⟨rfl,hb4⟩;have HC2:=At (dC _ ga gb w4 (HGG.out.below hb4) (HG.out.below hb4));have d0:=aa hb4 (show w.heap.size<w3.heap.size by omega) b0;have d1:=aa hb4 (show w.heap.size<w3.heap.size by omega) b1;have d2:=aa hb4 (show w.heap.size<w3.heap.size by omega) b2;have d3:=aa hb4 (show w.heap.size<w3.heap.size by omega) b3;have d4:=aa hb4 (show w.heap.size<w3.heap.size by omega) b4;have d5:=aa hb4 (show w.heap.size<w3.heap.size by omega) b5;clear b0 b1 b2 b3 b4 b5;by_cases hck:aq ga gb=true
  ·have hce:au ga gb=0:=by unfold au;rw[if_pos hck]
   rw[hce] at HC2;have HCT0:=At (show bJ fa fb ga gb r=yW r by unfold bJ;rw[if_neg (by rw[HK1.out];decide),if_neg (by rw[hck];decide)]);have HK2:=At hck;clear hce hck;go_wp2_with fail
   refine HC2.out.mono ?_;rintro e w5 ⟨rfl,hb5⟩;have hB5:=hb4.trans (hb5.mono hb4.size);have hz5:=hB5.size;have e0:=aa hb5 (show w.heap.size<w4.heap.size from by have:=hb4.size;omega) d0;have e1:=aa hb5 (show w.heap.size<w4.heap.size from by have:=hb4.size;omega) d1;have e2:=aa hb5 (show w.heap.size<w4.heap.size from by have:=hb4.size;omega) d2;have e3:=aa hb5 (show w.heap.size<w4.heap.size from by have:=hb4.size;omega) d3;have e4:=aa hb5 (show w.heap.size<w4.heap.size from by have:=hb4.size;omega) d4;have e5:=aa hb5 (show w.heap.size<w4.heap.size from by have:=hb4.size;omega) d5;have HMK:=At (HM.out.on _ w5 (M3.out.trans (hB5.mono M3.out.size)) (HP.out.below hB5) HK1.out HK2.out);have r2:=(hB5.block (w.heap.size+1) (by omega)).trans q2;have r3:=(hB5.block (w.heap.size+1+1) (by omega)).trans q3;have M5:=At (M3.out.trans (hB5.mono M3.out.size));have HG5:=At (HG.out.below hB5);clear d0 d1 d2 d3 d4 d5 q2 q3 hb4 hb5 HC1 HC2 HM HP HF HGG;go_wp2_with fail
   refine HMK.out.mono ?_;rintro e w6 ⟨hb6,hr⟩;have hz6:=hb6.size;have s2:=(hb6.block (w.heap.size+1) (by omega)).trans r2;have s3:=(hb6.block (w.heap.size+1+1) (by omega)).trans r3;have M6:=At (M5.out.trans (hb6.mono M5.out.size))
   cases r with
   | error m =>
    simp only at hr;subst hr;have HCT:=At (show bJ fa fb ga gb (.error m)=(([],[]),m) from HCT0.out);refine leaves_cons (f:=87) (args:=#[.pointer (some ⟨w.heap.size+1,0,none⟩),.pointer (some ⟨w.heap.size+1+1,0,none⟩)]) (by simp) (by simp[go_sem]) ?_;refine (hO (w.heap.size+1) (w.heap.size+1+1) (.slice none 0 0) (.slice none 0 0) (.int .i64 0) (m) _ s2 s3).mono ?_;rintro e u' w'' ⟨rfl,rfl,hBB,g1,g2⟩;have y0:=ah g1 0;have y1:=ah g1 1;have y2:w''.cell? ⟨w.heap.size+1+1,0,none⟩=some (.int .i64 (m)):=by rw[World.cell?,g2];rfl
    have M9:=hBB _ _ (M6.out) (by omega) (by omega);refine⟨.tuple #[.agg #[.slice none 0 0,.slice none 0 0],.int .i64 (m)],by simp at y0 y1;simp[results,Tryz.results49,go_sem,y0,y1,y2],?_⟩;refine⟨_,by rw[HCT.out],?_,M9⟩;rw[HCT.out];exact mB _ _
   | ok ab =>
    obtain⟨L1,L2⟩:=ab;simp only at hr;obtain⟨u,rfl,hu⟩:=hr;obtain⟨p1,c1,p2,c2,rfl,g1,g2,o1,o2⟩:=hu.ex;have hn1:Value.ownBlock (.slice p1 L1.length c1)≠some (w.heap.size+1):=fun e=>by have:=o1 _ e;omega
    have hn2:Value.ownBlock (.slice p2 L2.length c2)≠some (w.heap.size+1):=fun e=>by have:=o2 _ e;omega
    have k0:=ah s2 0;have k1:=ah s2 1;have f0:=ay s2 0;have f1:=ay s2 1;have R1:=At ((g1.other hn1 0 (.slice p1 L1.length c1)).other hn1 1 (.slice p2 L2.length c2));have R2:=At ((g2.other hn2 0 (.slice p1 L1.length c1)).other hn2 1 (.slice p2 L2.length c2));have O1:=At (show ∀ g,Value.ownBlock (.slice p1 L1.length c1)=some g->w.heap.size<=g from fun g e=>by have:=o1 _ e;omega);have O2:=At (show ∀ g,Value.ownBlock (.slice p2 L2.length c2)=some g->w.heap.size<=g from fun g e=>by have:=o2 _ e;omega);have O1':=At (show ∀ g,Value.ownBlock (.slice p1 L1.length c1)=some g->w3.heap.size<=g from fun g e=>by have:=o1 _ e;omega);have O2':=At (show ∀ g,Value.ownBlock (.slice p2 L2.length c2)=some g->w3.heap.size<=g from fun g e=>by have:=o2 _ e;omega);have M7:=At ((M6.out.setCell (p:=⟨w.heap.size+1,0,none⟩) (Bg _) (.slice p1 L1.length c1)).setCell (p:=⟨w.heap.size+1,1,none⟩) (Bg _) (.slice p2 L2.length c2));have t2:=cD s2 (.slice p1 L1.length c1) (.slice p2 L2.length c2);have hne:w.heap.size+1+1≠w.heap.size+1:=by omega
    have t3:=((Below.heap_setCell (w6.setCell ⟨w.heap.size+1,0,none⟩ (.slice p1 L1.length c1)) ⟨w.heap.size+1,1,none⟩ (.slice p2 L2.length c2) _ hne).trans (Below.heap_setCell w6 ⟨w.heap.size+1,0,none⟩ (.slice p1 L1.length c1) _ hne)).trans s3;have HG7:=At (hGx M7.out);have hs7:((w6.setCell ⟨w.heap.size+1,0,none⟩ (.slice p1 L1.length c1)).setCell ⟨w.heap.size+1,1,none⟩ (.slice p2 L2.length c2)).heap.size=w6.heap.size:=by simp[World.setCell]
    clear hn1 hn2 g1 g2 o1 o2 s2 s3 r2 r3 hb6 HMK hu e0 e1 e2 e3 e4 e5;go_upto_region 9 with fail
    generalize (w6.setCell ⟨w.heap.size+1,0,none⟩ (.slice p1 L1.length c1)).setCell ⟨w.heap.size+1,1,none⟩ (.slice p2 L2.length c2)=w7 at *
    clear k0 k1 f0 f1;have k0:=ah t2 0;have k1:=ah t2 1;have f0:=ay t2 0;have f1:=ay t2 1;by_cases h7:7<L1.length
    ·have hd:decide ((7:Int)<(L1.length:Int))=true:=by simp;omega
     have hdn:decide (7<L1.length)=true:=decide_eq_true h7;have HCT:=At (show bJ fa fb ga gb (.ok (L1,L2))=(([],[]),3) by rw[HCT0.out];show (if 7<L1.length\/7<L2.length then _ else _)=_;rw[if_pos (Or.inl h7)]);clear h7;go_wp2;refine leaves_cons (f:=87) (args:=#[.pointer (some ⟨w.heap.size+1,0,none⟩),.pointer (some ⟨w.heap.size+1+1,0,none⟩)]) (by simp) (by simp[go_sem]) ?_;refine (hO (w.heap.size+1) (w.heap.size+1+1) (.slice p1 L1.length c1) (.slice p2 L2.length c2) (.int .i64 0) (3) _ t2 t3).mono ?_;rintro e u' w'' ⟨rfl,rfl,hBB,g1,g2⟩;have y0:=ah g1 0;have y1:=ah g1 1;have y2:w''.cell? ⟨w.heap.size+1+1,0,none⟩=some (.int .i64 (3)):=by rw[World.cell?,g2];rfl
     have M9:=hBB _ _ (M7.out) (by omega) (by omega);refine⟨.tuple #[.agg #[.slice none 0 0,.slice none 0 0],.int .i64 (3)],by simp at y0 y1;simp[results,Tryz.results49,go_sem,y0,y1,y2],?_⟩;refine⟨_,by rw[HCT.out],?_,M9⟩;rw[HCT.out];exact mB _ _
    ·have hd:decide ((7:Int)<(L1.length:Int))=false:=by simp;omega
     have hdn:decide (7<L1.length)=false:=decide_eq_false h7;by_cases h72:7<L2.length
     ·have hd2:decide ((7:Int)<(L2.length:Int))=true:=by simp;omega
      have hdn2:decide (7<L2.length)=true:=decide_eq_true h72;have HCT:=At (show bJ fa fb ga gb (.ok (L1,L2))=(([],[]),3) by rw[HCT0.out];show (if 7<L1.length\/7<L2.length then _ else _)=_;rw[if_pos (Or.inr h72)]);clear h72 h7;go_wp2;refine leaves_cons (f:=87) (args:=#[.pointer (some ⟨w.heap.size+1,0,none⟩),.pointer (some ⟨w.heap.size+1+1,0,none⟩)]) (by simp) (by simp[go_sem]) ?_;refine (hO (w.heap.size+1) (w.heap.size+1+1) (.slice p1 L1.length c1) (.slice p2 L2.length c2) (.int .i64 0) (3) _ t2 t3).mono ?_;rintro e u' w'' ⟨rfl,rfl,hBB,g1,g2⟩;have y0:=ah g1 0;have y1:=ah g1 1;have y2:w''.cell? ⟨w.heap.size+1+1,0,none⟩=some (.int .i64 (3)):=by rw[World.cell?,g2];rfl
      have M9:=hBB _ _ (M7.out) (by omega) (by omega);refine⟨.tuple #[.agg #[.slice none 0 0,.slice none 0 0],.int .i64 (3)],by simp at y0 y1;simp[results,Tryz.results49,go_sem,y0,y1,y2],?_⟩;refine⟨_,by rw[HCT.out],?_,M9⟩;rw[HCT.out];exact mB _ _
     ·have hd2:decide ((7:Int)<(L2.length:Int))=false:=by simp;omega
      have hdn2:decide (7<L2.length)=false:=decide_eq_false h72;have HF7:=At (show IsF w7 (.agg #[.slice p1 L1.length c1,.slice p2 L2.length c2]) L1 L2 from⟨⟨p1,c1,p2,c2,rfl,R1.out,R2.out⟩⟩);have HC3:=At (dC _ L1 L2 w7 HF7.out HG7.out);have HCT1:=At (show bJ fa fb ga gb (.ok (L1,L2))=if aq L1 L2=false then (([],[]),8) else ((L1,L2),0) by rw[HCT0.out];show (if 7<L1.length\/7<L2.length then _ else _)=_;rw[if_neg (by omega)]);clear h72 h7;by_cases hck:aq L1 L2=true
      ·have hce:au L1 L2=0:=by unfold au;rw[if_pos hck]
       rw[hce] at HC3;have HCT:=At (show bJ fa fb ga gb (.ok (L1,L2))=((L1,L2),0) by rw[HCT1.out,if_neg (by rw[hck];decide)]);clear hce hck;go_wp2_with fail
       refine HC3.out.mono ?_;rintro e w8 ⟨rfl,hb8⟩;have u2:=(hb8.block (w.heap.size+1) (by omega)).trans t2;have u3:=(hb8.block (w.heap.size+1+1) (by omega)).trans t3;clear k0 k1 f0 f1;have k0:=ah u2 0;have k1:=ah u2 1;have f0:=ay u2 0;have f1:=ay u2 1;have x0:w8.cell? ⟨w.heap.size+1+1,0,none⟩=some (.int .i64 0):=by rw[World.cell?,u3];rfl
       have x1:w8.frozen? ⟨w.heap.size+1+1,0,none⟩=false:=by rw[World.frozen?,u3];simp
       have M9:=At ((((M7.out.trans (hb8.mono M7.out.size)).setCell (p:=⟨w.heap.size+1,0,none⟩) (Bg _) (.slice p1 L1.length c1)).setCell (p:=⟨w.heap.size+1,1,none⟩) (Bg _) (.slice p2 L2.length c2)).setCell (p:=⟨w.heap.size+1+1,0,none⟩) (by show w.heap.size<=w.heap.size+1+1;omega) (.int .i64 0));have n1:Value.ownBlock (.slice p1 L1.length c1)≠some (w.heap.size+1):=fun e=>by have:=O1'.out _ e;omega
       have n2:Value.ownBlock (.slice p2 L2.length c2)≠some (w.heap.size+1):=fun e=>by have:=O2'.out _ e;omega
       have n3:Value.ownBlock (.slice p1 L1.length c1)≠some (w.heap.size+1+1):=fun e=>by have:=O1'.out _ e;omega
       have n4:Value.ownBlock (.slice p2 L2.length c2)≠some (w.heap.size+1+1):=fun e=>by have:=O2'.out _ e;omega
       have S1:=At ((((R1.out.below hb8).other n1 0 (.slice p1 L1.length c1)).other n1 1 (.slice p2 L2.length c2)).other n3 0 (.int .i64 0));have S2:=At ((((R2.out.below hb8).other n2 0 (.slice p1 L1.length c1)).other n2 1 (.slice p2 L2.length c2)).other n4 0 (.int .i64 0));have g0:=cD u2 (.slice p1 L1.length c1) (.slice p2 L2.length c2);have hne':w.heap.size+1≠w.heap.size+1+1:=by omega
       have g1:=(Below.heap_setCell ((w8.setCell ⟨w.heap.size+1,0,none⟩ (.slice p1 L1.length c1)).setCell ⟨w.heap.size+1,1,none⟩ (.slice p2 L2.length c2)) ⟨w.heap.size+1+1,0,none⟩ (.int .i64 0) (w.heap.size+1) hne').trans g0;have y0:=ah g1 0;have y1:=ah g1 1;clear n1 n2 n3 n4 u2 u3 g0 t2 t3 hb8;go_wp2;refine leaves_cons (f:=87) (args:=#[.pointer (some ⟨w.heap.size+1,0,none⟩),.pointer (some ⟨w.heap.size+1+1,0,none⟩)]) (by simp) (by simp[go_sem]) ?_;refine (sX (w.heap.size+1) (w.heap.size+1+1) _).mono ?_;rintro e u' w'' ⟨rfl,rfl,rfl⟩;refine⟨.tuple #[.agg #[.slice p1 L1.length c1,.slice p2 L2.length c2],.int .i64 0],by simp at y0 y1;simp[results,Tryz.results49,go_sem,y0,y1,x0],?_⟩;refine⟨_,by rw[HCT.out],?_,M9.out⟩;rw[HCT.out];exact⟨⟨p1,c1,p2,c2,rfl,S1.out,S2.out,O1.out,O2.out⟩⟩
      ·have hck':aq L1 L2=false:=by simpa using hck
       have hce:au L1 L2=30:=by unfold au;rw[if_neg hck]
       rw[hce] at HC3;have HCT:=At (show bJ fa fb ga gb (.ok (L1,L2))=(([],[]),8) by rw[HCT1.out,if_pos hck']);clear hce hck hck';go_wp2_with fail
       refine HC3.out.mono ?_;rintro e w8 ⟨rfl,hb8⟩;have u2:=(hb8.block (w.heap.size+1) (by omega)).trans t2;have u3:=(hb8.block (w.heap.size+1+1) (by omega)).trans t3;have M8:=At (M7.out.trans (hb8.mono M7.out.size));clear k0 k1 f0 f1;go_wp2;refine leaves_cons (f:=87) (args:=#[.pointer (some ⟨w.heap.size+1,0,none⟩),.pointer (some ⟨w.heap.size+1+1,0,none⟩)]) (by simp) (by simp[go_sem]) ?_;refine (hO (w.heap.size+1) (w.heap.size+1+1) (.slice p1 L1.length c1) (.slice p2 L2.length c2) (.int .i64 0) (8) _ u2 u3).mono ?_;rintro e u' w'' ⟨rfl,rfl,hBB,g1,g2⟩;have y0:=ah g1 0;have y1:=ah g1 1;have y2:w''.cell? ⟨w.heap.size+1+1,0,none⟩=some (.int .i64 (8)):=by rw[World.cell?,g2];rfl
       have M9:=hBB _ _ (M8.out) (by omega) (by omega);refine⟨.tuple #[.agg #[.slice none 0 0,.slice none 0 0],.int .i64 (8)],by simp at y0 y1;simp[results,Tryz.results49,go_sem,y0,y1,y2],?_⟩;refine⟨_,by rw[HCT.out],?_,M9⟩;rw[HCT.out];exact mB _ _
  ·have hce:au ga gb=30:=by unfold au;rw[if_neg hck]
   rw[hce] at HC2;have hct:bJ fa fb ga gb r=(([],[]),30):=by unfold bJ;rw[if_neg (by rw[HK1.out];decide),if_pos (by simpa using hck)]
   have HCT:=At hct;clear hce hck hct;go_wp2_with fail
   refine HC2.out.mono ?_;rintro e w5 ⟨rfl,hb5⟩;have hB5:=hb4.trans (hb5.mono hb4.size);have hz4:=hB5.size;have r2:=(hB5.block (w.heap.size+1) (by omega)).trans q2;have r3:=(hB5.block (w.heap.size+1+1) (by omega)).trans q3;have k0:=ah r2 0;have k1:=ah r2 1;have f0:=ay r2 0;have f1:=ay r2 1;have x0:w5.cell? ⟨w.heap.size+1+1,0,none⟩=some (.int .i64 0):=by rw[World.cell?,r3];rfl
   have x1:w5.frozen? ⟨w.heap.size+1+1,0,none⟩=false:=by rw[World.frozen?,r3];simp
   have g0:=cD r2 (.slice none 0 0) (.slice none 0 0);have M9:=At ((((M3.out.trans (hB5.mono M3.out.size)).setCell (p:=⟨w.heap.size+1,0,none⟩) (Bg _) (.slice none 0 0)).setCell (p:=⟨w.heap.size+1,1,none⟩) (Bg _) (.slice none 0 0)).setCell (p:=⟨w.heap.size+1+1,0,none⟩) (by show w.heap.size<=w.heap.size+1+1;omega) (.int .i64 30));have hne:w.heap.size+1≠w.heap.size+1+1:=by omega
   have g1:=(Below.heap_setCell ((w5.setCell ⟨w.heap.size+1,0,none⟩ (.slice none 0 0)).setCell ⟨w.heap.size+1,1,none⟩ (.slice none 0 0)) ⟨w.heap.size+1+1,0,none⟩ (.int .i64 30) (w.heap.size+1) hne).trans g0;have y0:=ah g1 0;have y1:=ah g1 1;go_wp2;refine⟨.tuple #[.agg #[.slice none 0 0,.slice none 0 0],.int .i64 30],by simp at y0 y1;simp[results,Tryz.results49,go_sem,y0,y1,x0],?_⟩;refine⟨_,by rw[HCT.out],?_,M9.out⟩;rw[HCT.out];exact mB _ _
 ·have hce:au fa fb=30:=by unfold au;rw[if_neg hck]
  rw[hce] at HC1;have hct:bJ fa fb ga gb r=(([],[]),30):=by unfold bJ;rw[if_pos (by simpa using hck)]
  have HCT:=At hct;clear hce hck hct;go_wp2_with fail
  refine HC1.out.mono ?_;rintro e w4 ⟨rfl,hb4⟩;have hz4:=hb4.size;have r2:=(hb4.block (w.heap.size+1) (by omega)).trans q2;have r3:=(hb4.block (w.heap.size+1+1) (by omega)).trans q3;have k0:=ah r2 0;have k1:=ah r2 1;have f0:=ay r2 0;have f1:=ay r2 1;have x0:w4.cell? ⟨w.heap.size+1+1,0,none⟩=some (.int .i64 0):=by rw[World.cell?,r3];rfl
  have x1:w4.frozen? ⟨w.heap.size+1+1,0,none⟩=false:=by rw[World.frozen?,r3];simp
  have g0:=cD r2 (.slice none 0 0) (.slice none 0 0);have M9:=At ((((M3.out.trans (hb4.mono M3.out.size)).setCell (p:=⟨w.heap.size+1,0,none⟩) (Bg _) (.slice none 0 0)).setCell (p:=⟨w.heap.size+1,1,none⟩) (Bg _) (.slice none 0 0)).setCell (p:=⟨w.heap.size+1+1,0,none⟩) (by show w.heap.size<=w.heap.size+1+1;omega) (.int .i64 30));have hne:w.heap.size+1≠w.heap.size+1+1:=by omega
  have g1:=(Below.heap_setCell ((w4.setCell ⟨w.heap.size+1,0,none⟩ (.slice none 0 0)).setCell ⟨w.heap.size+1,1,none⟩ (.slice none 0 0)) ⟨w.heap.size+1+1,0,none⟩ (.int .i64 30) (w.heap.size+1) hne).trans g0;have y0:=ah g1 0;have y1:=ah g1 1;go_wp2;refine⟨.tuple #[.agg #[.slice none 0 0,.slice none 0 0],.int .i64 30],by simp at y0 y1;simp[results,Tryz.results49,go_sem,y0,y1,x0],?_⟩;refine⟨_,by rw[HCT.out],?_,M9.out⟩;rw[HCT.out];exact mB _ _
end Go.Proofs.YtgakllaobooabaaGreatDoor
