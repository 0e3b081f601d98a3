/- L -/
import Derived.BigQuiet
import Derived.OrdersHeld
import Derived.Deep.AppendLies
import Derived.Test.YtgakllaobooabaaGreatDoorXMach
import Derived.Test.YtgakllaobooabaaGreatDoorXNAdd
import Derived.Test.YtgakllaobooabaaGreatDoorXGet
import Derived.Test.YtgakllaobooabaaGreatDoorXB
set_option linter.all false
set_option maxRecDepth 100000
set_option maxHeartbeats 8000000
namespace Go.Proofs.YtgakllaobooabaaGreatDoor
open Go.RowKit
structure aM (wa:World) where
 w:World
 h:Below wa.heap.size wa w
instance instBeyond (wa:World):Nonempty (aM wa):=⟨⟨wa,Dv _ _⟩⟩
theorem aM.step {wa:World} (x:aM wa) {w':World} (h:Below x.w.heap.size x.w w'):Below wa.heap.size wa w':=x.h.trans (h.mono x.h.size)
theorem aM.cell {wa:World} (x:aM wa) {p:Addr} (hp:p.block<wa.heap.size):x.w.cell? p=wa.cell? p:=x.h.cell hp
theorem aM.calls {P:Program}{f:FuncId}{args:Array Value}{wa:World}{v:Value}{x:aM wa} (h:Calls P f args x.w fun e w'=>e=.returned v/\Below x.w.heap.size x.w w') :
  Calls P f args x.w fun e w''=>e=.returned v/\∃ y:aM wa,w''=y.w :=
 h.mono fun _ _ ⟨he,hb⟩=>⟨he,⟨_,x.step hb⟩,rfl⟩
theorem cR {P:Program}{id:Nat}{Q:Exit->Act->World->Prop}{a:Act}{w:World}{l:List Oper} (hm:P.follows .mixedOrders=true) (hB:Region.lexB .any l.toArray=true)
  (h:wpQuiet P l.toArray (fun w'=>∃ x:aM w,w'=x.w) (fun a'=>∀ w',(∃ x:aM w,w'=x.w)->Q .normal a' w') l a):(Code.region id l.toArray true).wp P Q a w :=
 wp_region_quiet (C:=fun w'=>∃ x:aM w,w'=x.w) hm hB ⟨⟨_,below_drewN (Dv _ _) 1⟩,rfl⟩ (by simpa using h)
abbrev mX (wa:World) (f:FuncId) (l:Array Value) (v:Value):Prop:=∀ x:aM wa,Calls Tryz.prog f l x.w fun e w''=>e=.returned v/\∃ y:aM wa,w''=y.w
section
variable {P : Program} {ops : Array Oper} {Q : Exit -> Act -> World -> Prop} {md : Region.Mode} {S : World -> Prop} {late : Nat -> Bool}
def dq (P:Program) (md:Region.Mode) (ops:Array Oper) (Q:Exit->Act->World->Prop) (S:World->Prop) (late:Nat->Bool):Nat->Array Bool->Act->World->Prop
 | 0,listed,a,w=>Region.ready md ops listed=[]/\Q .normal a w
 | fuel+1,listed,a,w=>(Region.ready md ops listed=[]->Q .normal a w) /\
  ∀ i∈Region.ready md ops listed,wpOp P ops Q i (fun a' w'=>(late i=false->S w->S w')/\dq P md ops Q S late fuel (listed.setIfInBounds i true) a' w') a w
theorem iI:∀ (fuel:Nat) (listed:Array Bool) (a:Act) (w:World),dq P md ops Q S late fuel listed a w->wpAny P md ops Q fuel listed a w
 | 0,_,_,_,h=>h
 | fuel+1,_,_,_,h=>⟨h.1,fun i hi=>wpOp_mono (fun a' w' h'=>iI fuel _ a' w' h'.2) (h.2 i hi)⟩
def yT (md:Region.Mode) (ops:Array Oper) (late:Nat->Bool) (i:Nat):Bool :=
 (List.range ops.size).all fun j=>!late j||match ops[j]? with | some o=>o.after.any (fun e=>Region.binds md e&&decide (e.on=i)) | none=>true
theorem qL {i j:Nat}{oj:Oper} (h:yT md ops late i=true) (hj:ops[j]?=some oj) (hl:late j=true):∃ e∈oj.after,Region.binds md e=true/\e.on=i:=by
 have hlt:=(AE.1 hj).1;have h1:=A5.1 h j (BM.2 hlt);rw[hl,hj] at h1;simp only[Bool.not_true,Bool.false_or] at h1;obtain⟨n,hn,h2⟩:=Array.any_eq_true.1 h1;simp only[AV,decide_eq_true_eq] at h2;exact⟨_,Da hn,h2.1,h2.2⟩
theorem jv {S':World->Prop}{i:Nat}{oi:Oper}{v:Value} (hi:ops[i]?=some oi) (hsel:∀ (j:Nat) (o:Oper) cs b,ops[j]?=some o->o.op≠.select cs b)
  (hQ:∀ c a w,Q (.panic c) (a.put oi.dst v) w->Q (.panic c) a w)
  (hk:∀ (j:Nat) (oj:Oper) (w w':World),ops[j]?=some oj->(∀ e∈oj.after,Region.binds md e=true->e.on≠i)->S' w->(late j=false->S w->S w')->S' w') :
  ∀ (fuel:Nat) (listed:Array Bool) (a:Act) (w:World),
   (∀ j oj,ops[j]?=some oj->j≠i->listed.getD j true=false->(∀ e∈oj.after,Region.binds md e=true->e.on≠i)->oi.apart ops oj=true) ->
   i∈Region.ready md ops listed->YieldsIf P ops S' oi v a->S' w ->
   dq P md ops Q S late fuel (listed.setIfInBounds i true) (a.put oi.dst v) w->dq P md ops Q S late (fuel+1) listed a w:=by
 have own:∀ (listed:Array Bool),i∈Region.ready md ops listed->∀ (j:Nat) (oj:Oper),ops[j]?=some oj->(∀ e∈oj.after,Region.binds md e=true->listed.getD e.on false=true)->∀ e∈oj.after,Region.binds md e=true->e.on≠i:=by
  intro listed hr j oj _ hall e he hb heq;have h1:=hall e he hb;have h0:=(mem_ready.1 hr).1;rw[heq] at h1;rcases BK i listed.size with h' | h'
  ·simp[h'] at h0 h1;rw[h0] at h1;cases h1
  ·simp[Cq h'] at h1
 intro fuel
 induction fuel with
 | zero =>
  intro listed a w _ hr hy hS H;refine⟨fun h=>(by rw[h] at hr;cases hr),fun j hj=>?_⟩;by_cases hji:j=i
  ·subst hji;exact hy.wpOp hi hS ⟨fun _ h=>h,H⟩
  ·have:=ready_mono hj hji;rw[H.1] at this
   cases this
 | succ fuel ih =>
  intro listed a w hfree hr hy hS H;refine⟨fun h=>(by rw[h] at hr;cases hr),fun j hj=>?_⟩;by_cases hji:j=i
  ·subst hji;exact hy.wpOp hi hS ⟨fun _ h=>h,H⟩
  ·have h1:=H.2 j (ready_mono hj hji);obtain⟨hjun,oj,hoj,hall⟩:=mem_ready.1 hj;have hnot:=own listed hr j oj hoj hall;have h2:=wpOp_putIf hoj (hfree j oj hoj hji hjun hnot) (fun cs b=>hsel i oi cs b hi) (fun cs b=>hsel j oj cs b hoj) hQ hy h1;refine wpOp_mono (fun a' w' h3=>⟨h3.2.1,ih (listed.setIfInBounds j true) a' w' (fun k ok hk2 hki hun hno=>?_) (ready_mono hr (Ne.symm hji)) h3.1 (hk j oj w w' hoj hnot hS h3.2.1) ?_⟩) h2
   ·refine hfree k ok hk2 hki ?_ hno;by_cases hjk:j=k
    ·subst hjk;exact hjun
    ·rw[getD_set_ne true hjk] at hun;exact hun
   ·rw[Cg _ _ hji];exact h3.2.2
theorem aB {i:Nat}{oi:Oper}{v:Value}{fuel:Nat}{listed:Array Bool}{a:Act}{w:World} (hi:ops[i]?=some oi)
  (hs:(Region.noSelect ops&&Region.free md ops listed i&&(Region.ready md ops listed).contains i&&yT md ops late i)=true)
  (hQ:∀ c a w,Q (.panic c) (a.put oi.dst v) w->Q (.panic c) a w) (hg:oi.guard=none) (hS:S w) (hy:∀ w,S w->(execOp a.eval oi).run P w=.ok (.value v) w)
  (h:dq P md ops Q S late fuel (listed.setIfInBounds i true) (a.put oi.dst v) w):dq P md ops Q S late (fuel+1) listed a w:=by
 simp only[AV] at hs;obtain⟨⟨⟨h1,h2⟩,h3⟩,h4⟩:=hs;refine jv (S':=S) hi (Region.noSelect_spec h1) hQ (fun j oj w w' hoj hnot hSw hk=>?_) fuel listed a w (Region.free_spec hi h2) (by simpa using h3) (Or.inl ⟨by simp[Region.wanted,hg],hy⟩) hS h
 cases hl:late j
 ·exact hk hl hSw
 ·obtain⟨e,he,hb,heq⟩:=qL h4 hoj hl;exact absurd heq (hnot e he hb)
theorem aj {i:Nat}{oi:Oper}{v:Value}{fuel:Nat}{listed:Array Bool}{a:Act}{w:World} (hi:ops[i]?=some oi)
  (hs:(Region.noSelect ops&&Region.free md ops listed i&&(Region.ready md ops listed).contains i)=true)
  (hQ:∀ c a w,Q (.panic c) (a.put oi.dst v) w->Q (.panic c) a w) (hg:oi.guard=none) (hy:∀ w,(execOp a.eval oi).run P w=.ok (.value v) w)
  (h:dq P md ops Q S late fuel (listed.setIfInBounds i true) (a.put oi.dst v) w):dq P md ops Q S late (fuel+1) listed a w:=by
 simp only[AV] at hs;obtain⟨⟨h1,h2⟩,h3⟩:=hs;exact jv (S':=fun _=>True) hi (Region.noSelect_spec h1) hQ (fun _ _ _ _ _ _ _ _=>trivial) fuel listed a w (Region.free_spec hi h2) (by simpa using h3) (Or.inl ⟨by simp[Region.wanted,hg],fun w _=>hy w⟩) trivial h
theorem Ds (i:Nat){oi:Oper}{v:Value}{fuel:Nat}{listed:Array Bool}{a:Act}{w:World} (hi:ops[i]?=some oi:=by rfl)
  (hs:(Region.noSelect ops&&Region.free md ops listed i&&(Region.ready md ops listed).contains i)=true:=by kernel_rfl)
  (hQ:∀ c a w,Q (.panic c) (a.put oi.dst v) w->Q (.panic c) a w:=by exact fun _ _ _ h=>h) (hg:oi.guard=none:=by rfl) (hy:∀ w,(execOp a.eval oi).run P w=.ok (.value v) w:=by intro wy;go_simp;try with_reducible rfl)
  (r:dq P md ops Q S late fuel (listed.setIfInBounds i true) (a.put oi.dst v) w):dq P md ops Q S late (fuel+1) listed a w:=aj hi hs hQ hg hy r
theorem aC {i:Nat}{oi:Oper}{fuel:Nat}{listed:Array Bool}{a:Act}{w:World} (hi:ops[i]?=some oi) (hr:Region.ready md ops listed=[i]) (hg:oi.guard=none)
  (h:∀ K:Act->World->Prop,(∀ a' w',(late i=false->S w->S w')->dq P md ops Q S late fuel (listed.setIfInBounds i true) a' w'->K a' w')->Oper.wp P oi a w K Q):dq P md ops Q S late (fuel+1) listed a w:=by
 refine⟨fun h0=>(by rw[hr] at h0;cases h0),fun j hj=>?_⟩;rw[hr] at hj;obtain rfl:j=i:=by simpa using hj
 unfold wpOp;simp only[hi];rw[if_pos (by simp[Region.wanted,hg])];exact Or.inl (h _ (fun a' w' h1 h2=>⟨h1,h2⟩))
theorem kC {i i':Nat}{oi oi':Oper}{fuel:Nat}{listed:Array Bool}{a:Act}{w:World} (hi:ops[i]?=some oi) (hi':ops[i']?=some oi') (hr:Region.ready md ops listed=[i,i']) (hg:oi.guard=none) (hg':oi'.guard=none)
  (h:∀ K:Act->World->Prop,(∀ a' w',(late i=false->S w->S w')->dq P md ops Q S late fuel (listed.setIfInBounds i true) a' w'->K a' w')->Oper.wp P oi a w K Q)
  (h':∀ K:Act->World->Prop,(∀ a' w',(late i'=false->S w->S w')->dq P md ops Q S late fuel (listed.setIfInBounds i' true) a' w'->K a' w')->Oper.wp P oi' a w K Q):dq P md ops Q S late (fuel+1) listed a w:=by
 refine⟨fun h0=>(by rw[hr] at h0;cases h0),fun j hj=>?_⟩;rw[hr] at hj;simp only[Bm,CG,or_false] at hj;rcases hj with rfl | rfl
 ·unfold wpOp;simp only[hi];rw[if_pos (by simp[Region.wanted,hg])];exact Or.inl (h _ (fun a' w' h1 h2=>⟨h1,h2⟩))
 ·unfold wpOp;simp only[hi'];rw[if_pos (by simp[Region.wanted,hg'])];exact Or.inl (h' _ (fun a' w' h1 h2=>⟨h1,h2⟩))
theorem bC {listed:Array Bool}{a:Act}{w:World} (hr:Region.ready md ops listed=[]) (h:Q .normal a w):∀ fuel,dq P md ops Q S late fuel listed a w
 | 0=>⟨hr,h⟩
 | _+1=>⟨fun _=>h,by rw[hr];simp⟩
theorem aH {id:Nat}{a:Act}{w:World} (S:World->Prop) (late:Nat->Bool) (hm:P.follows .mixedOrders=true)
  (h:dq P .any ops Q S late ops.size (Array.replicate ops.size false) a w.drew):(Code.region id ops true).wp P Q a w :=
 wp_region_any hm (iI _ _ _ _ h)
end
open Go.RowKit
def ci (Q:Exit->Act->World->Prop):Exit->Act->World->Prop
 | .normal,a,w=>Q .normal a w
 | _,_,_=>False
theorem cL {Q:Exit->Act->World->Prop}{e:Exit}{a:Act}{w:World} (h:ci Q e a w):Q e a w:=by
 cases e<;>first | exact h | exact h.elim
theorem aZ {P:Program}{f:FuncId}{fn:Func} (hf:P.funcs[f]?=some fn) (hb:fn.body.isNone=false) (hn:(fn.name == "runtime.NumGoroutine")=false) (args:Array Value) (w:World):(callFunc f args).run P w=.ok (.enter f args) w:=by
 have hb':¬ fn.body=none:=fun e=>by rw[e] at hb;cases hb
 have hn':¬ fn.name = "runtime.NumGoroutine" := fun e=>by rw[e] at hn;exact absurd hn (by decide)
 simp[callFunc,go_sem,hf,hb',hn']
open Go.RowKit Dg
def bZ (r s:Rt):Rt:=cT (kH r.minus (r.n*s.d) s.minus (s.n*r.d)).1 (kH r.minus (r.n*s.d) s.minus (s.n*r.d)).2 (r.d*s.d)
theorem rI (m:Bool) (a:Nat) (k:Bool) (b:Nat):(kH m a k b).2<=a+b:=by
 unfold kH
 split
 ·exact AA _
 ·split<;>(simp only;omega)
theorem iE (va vb:Value) (r s:Rt) (w:World) (ha:IsR w va r) (hb:IsR w vb s) (h0:0<r.d) (h1:0<s.d)
  (hf1:Few (r.n*s.d)) (hf2:Few (s.n*r.d)) (hf3:Few (r.n*s.d+s.n*r.d)) (hf4:Few (r.d*s.d)) :
  Calls Tryz.prog 68 #[va,vb] w fun e w'=>∃ v,e=.returned v/\IsR w' v (bZ r s)/\Below w.heap.size w w':=by
 obtain⟨vn,vd,rfl,hn,hd,hfn,hfd⟩:=ha;obtain⟨un,ud,rfl,kn,kd,gfn,gfd⟩:=hb;obtain⟨z,hz⟩:∃ z,z=bZ r s:=⟨_,rfl⟩;rw[<-hz];have HZ:=At hz;clear hz;go_enter Tryz.func68,Tryz.ntmps68;go_upto_region 1 with fail
 have q1:=a_.new w (.bool r.minus) vn vd nofun (IsU.not_int hn) (IsU.not_int hd);have m1:Below w.heap.size w (w.alloc (.cells #[.bool r.minus,vn,vd] 63)):=(Dv _ _).alloc (AA _) _;have z1:(w.alloc (.cells #[.bool r.minus,vn,vd] 63)).heap.size=w.heap.size+1:=by show (Array.push _ _).size=_;exact A7 _
 generalize w.alloc (.cells #[.bool r.minus,vn,vd] 63)=w1 at *
 have q2:=a_.new w1 (.bool s.minus) un ud nofun (IsU.not_int kn) (IsU.not_int kd);have m2:Below w1.heap.size w1 (w1.alloc (.cells #[.bool s.minus,un,ud] 63)):=(Dv _ _).alloc (AA _) _;have z2:(w1.alloc (.cells #[.bool s.minus,un,ud] 63)).heap.size=w1.heap.size+1:=by show (Array.push _ _).size=_;exact A7 _
 generalize w1.alloc (.cells #[.bool s.minus,un,ud] 63)=w2 at *
 have q3:=a_.new w2 (.bool false) (.slice none 0 0) (.slice none 0 0) nofun nofun nofun;have m3:Below w2.heap.size w2 (w2.alloc (.cells #[.bool false,.slice none 0 0,.slice none 0 0] 63)):=(Dv _ _).alloc (AA _) _;generalize w2.alloc (.cells #[.bool false,.slice none 0 0,.slice none 0 0] 63)=w3 at *
 have m4:Below w3.heap.size w3 w3.drew:=(Dv _ _).drew;rw[z2,z1] at q3;rw[z1] at q2;refine wp_mono (aH (Q:=ci _) (fun wx:World=>Below w3.drew.heap.size w3.drew wx) (fun i=>false) (by kernel_rfl) ?_) (fun _ _ _ h=>cL h);generalize w3.drew=wd at *
 have hS:Below wd.heap.size wd wd:=Dv _ _;have M12:=m1.trans (m2.mono m1.size);have M13:=M12.trans (m3.mono M12.size);have MD:=At (M13.trans (m4.mono M13.size));have B1:=At (((q1.below m2).below m3).below m4);have B2:=At ((q2.below m3).below m4);have B3:=At (q3.below m4);have HN:=At (hn.below MD.out);have HD:=At (hd.below MD.out);have KN:=At (kn.below MD.out);have KD:=At (kd.below MD.out);clear q1 q2 q3 m1 m2 m3 m4 z1 z2 M12 M13 hn hd kn kd;refine Ds 0 (r:=?_)
 try simp only[Act.put,Ax,Aw,Av,Au,Ay,Az]
 refine aB (i:=1) (v:=?vv1) rfl (by kernel_rfl) (fun _ _ _ h=>h) rfl hS ?hy1 ?rest1
 case hy1 =>
  intro wy hy;have e1:=B1.out.below hy;have e2:=B2.out.below hy;have a0:=e1.c0;have a1:=e1.c1;have a2:=e1.c2;have b0:=e2.c0;have b1:=e2.c1;have b2:=e2.c2;clear e1 e2 hy;go_simp;try with_reducible rfl
 try simp only[Act.put,Ax,Aw,Av,Au,Ay,Az]
 refine Ds 2 (r:=?_)
 try simp only[Act.put,Ax,Aw,Av,Au,Ay,Az]
 refine aB (i:=3) (v:=?vv3) rfl (by kernel_rfl) (fun _ _ _ h=>h) rfl hS ?hy3 ?rest3
 case hy3 =>
  intro wy hy;have e1:=B1.out.below hy;have e2:=B2.out.below hy;have a0:=e1.c0;have a1:=e1.c1;have a2:=e1.c2;have b0:=e2.c0;have b1:=e2.c1;have b2:=e2.c2;clear e1 e2 hy;go_simp;try with_reducible rfl
 try simp only[Act.put,Ax,Aw,Av,Au,Ay,Az]
 refine Ds 4 (r:=?_)
 try simp only[Act.put,Ax,Aw,Av,Au,Ay,Az]
 refine aB (i:=5) (v:=?vv5) rfl (by kernel_rfl) (fun _ _ _ h=>h) rfl hS ?hy5 ?rest5
 case hy5 =>
  intro wy hy;have e1:=B1.out.below hy;have e2:=B2.out.below hy;have a0:=e1.c0;have a1:=e1.c1;have a2:=e1.c2;have b0:=e2.c0;have b1:=e2.c1;have b2:=e2.c2;clear e1 e2 hy;go_simp;try with_reducible rfl
 try simp only[Act.put,Ax,Aw,Av,Au,Ay,Az]
 refine Ds 7 (r:=?_)
 try simp only[Act.put,Ax,Aw,Av,Au,Ay,Az]
 refine aB (i:=8) (v:=?vv8) rfl (by kernel_rfl) (fun _ _ _ h=>h) rfl hS ?hy8 ?rest8
 case hy8 =>
  intro wy hy;have e1:=B1.out.below hy;have e2:=B2.out.below hy;have a0:=e1.c0;have a1:=e1.c1;have a2:=e1.c2;have b0:=e2.c0;have b1:=e2.c1;have b2:=e2.c2;clear e1 e2 hy;go_simp;try with_reducible rfl
 try simp only[Act.put,Ax,Aw,Av,Au,Ay,Az]
 refine Ds 9 (r:=?_)
 try simp only[Act.put,Ax,Aw,Av,Au,Ay,Az]
 refine aB (i:=10) (v:=?vv10) rfl (by kernel_rfl) (fun _ _ _ h=>h) rfl hS ?hy10 ?rest10
 case hy10 =>
  intro wy hy;have e1:=B1.out.below hy;have e2:=B2.out.below hy;have a0:=e1.c0;have a1:=e1.c1;have a2:=e1.c2;have b0:=e2.c0;have b1:=e2.c1;have b2:=e2.c2;clear e1 e2 hy;go_simp;try with_reducible rfl
 try simp only[Act.put,Ax,Aw,Av,Au,Ay,Az]
 refine Ds 11 (r:=?_)
 try simp only[Act.put,Ax,Aw,Av,Au,Ay,Az]
 refine aB (i:=12) (v:=?vv12) rfl (by kernel_rfl) (fun _ _ _ h=>h) rfl hS ?hy12 ?rest12
 case hy12 =>
  intro wy hy;have e1:=B1.out.below hy;have e2:=B2.out.below hy;have a0:=e1.c0;have a1:=e1.c1;have a2:=e1.c2;have b0:=e2.c0;have b1:=e2.c1;have b2:=e2.c2;clear e1 e2 hy;go_simp;try with_reducible rfl
 try simp only[Act.put,Ax,Aw,Av,Au,Ay,Az]
 refine aC (i:=6) rfl (by kernel_rfl) rfl (fun K hK=>?_);go_simp;refine (lC _ _ r.n s.d _ HN.out KD.out hfn gfd).mono ?_;rintro e w4 ⟨v4,rfl,hv4,hb4⟩;refine hK _ _ (fun _ _=>hb4) ?_;clear hK K;try simp only[Act.put,Ax,Aw,Av,Au,Ay,Az]
 refine aC (i:=13) rfl (by kernel_rfl) rfl (fun K hK=>?_);go_simp;refine (lC _ _ s.n r.d _ (KN.out.below hb4) (HD.out.below hb4) gfn hfd).mono ?_;rintro e w5 ⟨v5,rfl,hv5,hb5⟩;have hB5:=hb4.trans (hb5.mono hb4.size);refine hK _ _ (fun _ _=>hB5) ?_;clear hK K;try simp only[Act.put,Ax,Aw,Av,Au,Ay,Az]
 refine aC (i:=14) rfl (by kernel_rfl) rfl (fun K hK=>?_);go_simp;refine (zd r.minus s.minus _ _ _ _ _ (hv4.below hb5) hv5 hf1 hf2).mono ?_;rintro e w6 ⟨v6,rfl,hv6,hb6⟩;have hB6:=hB5.trans (hb6.mono hB5.size);refine hK _ _ (fun _ _=>hB6) ?_;clear hK K;try simp only[Act.put,Ax,Aw,Av,Au,Ay,Az]
 refine Ds 15 (r:=?_)
 try simp only[Act.put,Ax,Aw,Av,Au,Ay,Az]
 refine Ds 16 (r:=?_)
 try simp only[Act.put,Ax,Aw,Av,Au,Ay,Az]
 refine Ds 17 (r:=?_)
 try simp only[Act.put,Ax,Aw,Av,Au,Ay,Az]
 refine Ds 18 (r:=?_)
 try simp only[Act.put,Ax,Aw,Av,Au,Ay,Az]
 refine Ds 19 (r:=?_)
 try simp only[Act.put,Ax,Aw,Av,Au,Ay,Az]
 refine bC (by kernel_rfl) ?_ _;simp only[ci];have e1:=B1.out.below hB6;have e2:=B2.out.below hB6;have a2:=e1.c2;have b2:=e2.c2;have B3:=At (B3.out.below hB6);have HD6:=At (HD.out.below hB6);have KD6:=At (KD.out.below hB6);have HV6:=At hv6;have MD6:=At (MD.out.trans (hB6.mono MD.out.size));clear e1 e2 B1 B2 HN HD KN KD hS hv4 hv5 hv6 hb4 hb5 hb6 hB5 hB6 MD;go_wp2_with fail
 have HV6':=HV6.out;refine (lC _ _ r.d s.d _ HD6.out KD6.out hfd gfd).mono ?_;rintro e w7 ⟨v7,rfl,hv7,hb7⟩;have HV7:=At (HV6.out.below hb7);have HW7:=At hv7;have B7:=At (B3.out.below hb7);have M7:=At (MD6.out.trans (hb7.mono MD6.out.size));clear HV6 HV6' hv7 hb7 B3 MD6 HD6 KD6 a2 b2;go_wp2_with fail
 have hred:Calls Tryz.prog 81 #[.bool (kH r.minus (r.n*s.d) s.minus (s.n*r.d)).1,v6,v7] w7 fun e w'=>∃ v,e=.returned v/\IsR w' v z/\Below w7.heap.size w7 w':=by rw[HZ.out];exact dU _ v6 v7 _ _ w7 HV7.out HW7.out (Few.mono hf3 (rI _ _ _ _)) hf4 (AN h0 h1)
 refine hred.mono ?_;clear hred;rintro e w8 ⟨v8,rfl,⟨xn,xd,rfl,hx1,hx2,hx3,hx4⟩,hb8⟩;obtain⟨pn,cn,rfl,-,-,-⟩:=id hx1;obtain⟨pd,cd,rfl,-,-,-⟩:=id hx2;have B8:=B7.out.below hb8;have k0:=B8.c0;have k1:=B8.c1;have k2:=B8.c2;have f0:=B8.fr 0;have f1:=B8.fr 1;have f2:=B8.fr 2;have P:=At (B8.put (a':=.bool z.minus) (b':=.slice pn _ cn) (c':=.slice pd _ cd) nofun (IsU.not_int hx1) (IsU.not_int hx2));have M8:=At (M7.out.trans (hb8.mono M7.out.size));have HX:=At (And.intro hx1 (And.intro hx2 (And.intro hx3 hx4)));clear B7 M7 HV7 HW7 hb8 hx1 hx2 hx3 hx4 B8;go_wp2;have q0:=P.out.1.c0;have q1:=P.out.1.c1;have q2:=P.out.1.c2;refine Du (v:=.agg #[.bool z.minus,.slice pn (ag BB z.n).length cn,.slice pd (ag BB z.d).length cd]) (by simp[results,Tryz.results68,go_sem,q0,q1,q2]) rfl ⟨_,rfl,⟨_,_,rfl,P.out.2.1 _ _ HX.out.1,P.out.2.1 _ _ HX.out.2.1,HX.out.2.2.1,HX.out.2.2.2⟩,P.out.2.2 w M8.out ?_⟩;omega
def dy (r:Rt):Rt:=⟨!r.minus&&decide (0<r.n),r.n,r.d⟩
theorem digs_pos (n:Nat):(0<(ag BB n).length)↔0<n:=by
 rw[A3];constructor
 ·intro h;rcases BJ n with rfl | h1
  ·exact absurd (bn BB) h
  ·exact h1
 ·intro h e;have:=(bP aw).1 e;omega
theorem qQ (va:Value) (r:Rt) (w:World) (ha:IsR w va r) :
  Calls Tryz.prog 69 #[va] w fun e w'=>∃ v,e=.returned v/\IsR w' v (dy r)/\Below w.heap.size w w':=by
 obtain⟨m,n,d⟩:=r;obtain⟨vn,vd,rfl,hn,hd,hfn,hfd⟩:=ha;have hp:=digs_pos n;obtain⟨pn,cn,rfl,-,-,-⟩:=id hn;obtain⟨pd,cd,rfl,-,-,-⟩:=id hd
 cases m
 ·go_enter Tryz.func69,Tryz.ntmps69;go_wp2;have m1:Below w.heap.size w (w.alloc (.cells #[.bool false,.slice pn (ag BB n).length cn,.slice pd (ag BB d).length cd] 63)):=(Dv _ _).alloc (AA _) _;have z1:(w.alloc (.cells #[.bool false,.slice pn (ag BB n).length cn,.slice pd (ag BB d).length cd] 63)).heap.size=w.heap.size+1:=by show (Array.push _ _).size=_;exact A7 _
  generalize w.alloc (.cells #[.bool false,.slice pn (ag BB n).length cn,.slice pd (ag BB d).length cd] 63)=w1 at *
  have b2:=a_.new w1 (.bool (decide (0<n))) (.slice pn (ag BB n).length cn) (.slice pd (ag BB d).length cd) nofun (IsU.not_int hn) (IsU.not_int hd);have m2:=m1.alloc m1.size (.cells #[.bool (decide (0<n)),.slice pn (ag BB n).length cn,.slice pd (ag BB d).length cd] 63);rw[z1] at b2;have q0:=b2.c0;have q1:=b2.c1;have q2:=b2.c2;refine Du (v:=.agg #[.bool (decide (0<n)),.slice pn (ag BB n).length cn,.slice pd (ag BB d).length cd]) (by simp[results,Tryz.results69,go_sem,q0,q1,q2]) rfl ⟨_,rfl,⟨_,_,rfl,hn.below m2,hd.below m2,hfn,hfd⟩,m2⟩
 ·go_enter Tryz.func69,Tryz.ntmps69;go_wp2;have m1:Below w.heap.size w (w.alloc (.cells #[.bool true,.slice pn (ag BB n).length cn,.slice pd (ag BB d).length cd] 63)):=(Dv _ _).alloc (AA _) _;have z1:(w.alloc (.cells #[.bool true,.slice pn (ag BB n).length cn,.slice pd (ag BB d).length cd] 63)).heap.size=w.heap.size+1:=by show (Array.push _ _).size=_;exact A7 _
  generalize w.alloc (.cells #[.bool true,.slice pn (ag BB n).length cn,.slice pd (ag BB d).length cd] 63)=w1 at *
  have b2:=a_.new w1 (.bool (false)) (.slice pn (ag BB n).length cn) (.slice pd (ag BB d).length cd) nofun (IsU.not_int hn) (IsU.not_int hd);have m2:=m1.alloc m1.size (.cells #[.bool (false),.slice pn (ag BB n).length cn,.slice pd (ag BB d).length cd] 63);rw[z1] at b2;have q0:=b2.c0;have q1:=b2.c1;have q2:=b2.c2;refine Du (v:=.agg #[.bool (false),.slice pn (ag BB n).length cn,.slice pd (ag BB d).length cd]) (by simp[results,Tryz.results69,go_sem,q0,q1,q2]) rfl ⟨_,rfl,⟨_,_,rfl,hn.below m2,hd.below m2,hfn,hfd⟩,m2⟩
end Go.Proofs.YtgakllaobooabaaGreatDoor
