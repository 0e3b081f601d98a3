/- L -/
import Derived.BigQuiet
import Derived.OrdersHeld
import Derived.Deep.AppendLies
import Derived.Test.YtlhpcoelfhjomaaGreatDoorQMach
import Derived.Test.YtlhpcoelfhjomaaGreatDoorQFmt
import Derived.Test.YtlhpcoelfhjomaaGreatDoorQRed
import Derived.Test.YtlhpcoelfhjomaaGreatDoorQGet
set_option linter.all false
set_option maxRecDepth 100000
set_option maxHeartbeats 8000000
namespace Go.Proofs.YtlhpcoelfhjomaaGreatDoor
open Go.RowKit
structure bh (wa:World) where
 w:World
 h:Below wa.heap.size wa w
instance instBeyond (wa:World):Nonempty (bh wa):=⟨⟨wa,LN _ _⟩⟩
theorem bh.step {wa:World} (x:bh wa) {w':World} (h:Below x.w.heap.size x.w w'):Below wa.heap.size wa w':=x.h.trans (h.mono x.h.size)
theorem bh.cell {wa:World} (x:bh wa) {p:Addr} (hp:p.block<wa.heap.size):x.w.cell? p=wa.cell? p:=x.h.cell hp
theorem bh.calls {P:Program}{f:FuncId}{args:Array Value}{wa:World}{v:Value}{x:bh wa} (h:Calls P f args x.w fun e w'=>e=.returned v/\Below x.w.heap.size x.w w') :
  Calls P f args x.w fun e w''=>e=.returned v/\∃ y:bh wa,w''=y.w :=
 h.mono fun _ _ ⟨he,hb⟩=>⟨he,⟨_,x.step hb⟩,rfl⟩
theorem dB {P:Program}{id:Nat}{Q:Exit->Act->World->Prop}{a:Act}{w:World}{l:List Oper} (hm:P.follows .mixedOrders=true) (hB:Region.lexB .any l.toArray=true)
  (h:wpQuiet P l.toArray (fun w'=>∃ x:bh w,w'=x.w) (fun a'=>∀ w',(∃ x:bh w,w'=x.w)->Q .normal a' w') l a):(Code.region id l.toArray true).wp P Q a w :=
 wp_region_quiet (C:=fun w'=>∃ x:bh w,w'=x.w) hm hB ⟨⟨_,below_drewN (LN _ _) 1⟩,rfl⟩ (by simpa using h)
abbrev nh (wa:World) (f:FuncId) (l:Array Value) (v:Value):Prop:=∀ x:bh wa,Calls Tryz.prog f l x.w fun e w''=>e=.returned v/\∃ y:bh wa,w''=y.w
section
variable {P : Program} {ops : Array Oper} {Q : Exit -> Act -> World -> Prop} {md : Region.Mode} {S : World -> Prop} {late : Nat -> Bool}
def df (P:Program) (md:Region.Mode) (ops:Array Oper) (Q:Exit->Act->World->Prop) (S:World->Prop) (late:Nat->Bool):Nat->Array Bool->Act->World->Prop
 | 0,listed,a,w=>Region.ready md ops listed=[]/\Q .normal a w
 | fuel+1,listed,a,w=>(Region.ready md ops listed=[]->Q .normal a w) /\
  ∀ i∈Region.ready md ops listed,wpOp P ops Q i (fun a' w'=>(late i=false->S w->S w')/\df P md ops Q S late fuel (listed.setIfInBounds i true) a' w') a w
theorem lE:∀ (fuel:Nat) (listed:Array Bool) (a:Act) (w:World),df P md ops Q S late fuel listed a w->wpAny P md ops Q fuel listed a w
 | 0,_,_,_,h=>h
 | fuel+1,_,_,_,h=>⟨h.1,fun i hi=>wpOp_mono (fun a' w' h'=>lE fuel _ a' w' h'.2) (h.2 i hi)⟩
def Dy (md:Region.Mode) (ops:Array Oper) (late:Nat->Bool) (i:Nat):Bool :=
 (List.range ops.size).all fun j=>!late j||match ops[j]? with | some o=>o.after.any (fun e=>Region.binds md e&&decide (e.on=i)) | none=>true
theorem qf {i j:Nat}{oj:Oper} (h:Dy md ops late i=true) (hj:ops[j]?=some oj) (hl:late j=true):∃ e∈oj.after,Region.binds md e=true/\e.on=i:=by
 have hlt:=(ID.1 hj).1;have h1:=I5.1 h j (JG.2 hlt);rw[hl,hj] at h1;simp only[Bool.not_true,Bool.false_or] at h1;obtain⟨n,hn,h2⟩:=Array.any_eq_true.1 h1;simp only[IR,decide_eq_true_eq] at h2;exact⟨_,Lv hn,h2.1,h2.2⟩
theorem gY {S':World->Prop}{i:Nat}{oi:Oper}{v:Value} (hi:ops[i]?=some oi) (hsel:∀ (j:Nat) (o:Oper) cs b,ops[j]?=some o->o.op≠.select cs b)
  (hQ:∀ c a w,Q (.panic c) (a.put oi.dst v) w->Q (.panic c) a w)
  (hk:∀ (j:Nat) (oj:Oper) (w w':World),ops[j]?=some oj->(∀ e∈oj.after,Region.binds md e=true->e.on≠i)->S' w->(late j=false->S w->S w')->S' w') :
  ∀ (fuel:Nat) (listed:Array Bool) (a:Act) (w:World),
   (∀ j oj,ops[j]?=some oj->j≠i->listed.getD j true=false->(∀ e∈oj.after,Region.binds md e=true->e.on≠i)->oi.apart ops oj=true) ->
   i∈Region.ready md ops listed->YieldsIf P ops S' oi v a->S' w ->
   df P md ops Q S late fuel (listed.setIfInBounds i true) (a.put oi.dst v) w->df P md ops Q S late (fuel+1) listed a w:=by
 have own:∀ (listed:Array Bool),i∈Region.ready md ops listed->∀ (j:Nat) (oj:Oper),ops[j]?=some oj->(∀ e∈oj.after,Region.binds md e=true->listed.getD e.on false=true)->∀ e∈oj.after,Region.binds md e=true->e.on≠i:=by
  intro listed hr j oj _ hall e he hb heq;have h1:=hall e he hb;have h0:=(mem_ready.1 hr).1;rw[heq] at h1;rcases JD i listed.size with h' | h'
  ·simp[h'] at h0 h1;rw[h0] at h1;cases h1
  ·simp[Km h'] at h1
 intro fuel
 induction fuel with
 | zero =>
  intro listed a w _ hr hy hS H;refine⟨fun h=>(by rw[h] at hr;cases hr),fun j hj=>?_⟩;by_cases hji:j=i
  ·subst hji;exact hy.wpOp hi hS ⟨fun _ h=>h,H⟩
  ·have:=ready_mono hj hji;rw[H.1] at this
   cases this
 | succ fuel ih =>
  intro listed a w hfree hr hy hS H;refine⟨fun h=>(by rw[h] at hr;cases hr),fun j hj=>?_⟩;by_cases hji:j=i
  ·subst hji;exact hy.wpOp hi hS ⟨fun _ h=>h,H⟩
  ·have h1:=H.2 j (ready_mono hj hji);obtain⟨hjun,oj,hoj,hall⟩:=mem_ready.1 hj;have hnot:=own listed hr j oj hoj hall;have h2:=wpOp_putIf hoj (hfree j oj hoj hji hjun hnot) (fun cs b=>hsel i oi cs b hi) (fun cs b=>hsel j oj cs b hoj) hQ hy h1;refine wpOp_mono (fun a' w' h3=>⟨h3.2.1,ih (listed.setIfInBounds j true) a' w' (fun k ok hk2 hki hun hno=>?_) (ready_mono hr (Ne.symm hji)) h3.1 (hk j oj w w' hoj hnot hS h3.2.1) ?_⟩) h2
   ·refine hfree k ok hk2 hki ?_ hno;by_cases hjk:j=k
    ·subst hjk;exact hjun
    ·rw[getD_set_ne true hjk] at hun;exact hun
   ·rw[Kh _ _ hji];exact h3.2.2
theorem ay {i:Nat}{oi:Oper}{v:Value}{fuel:Nat}{listed:Array Bool}{a:Act}{w:World} (hi:ops[i]?=some oi)
  (hs:(Region.noSelect ops&&Region.free md ops listed i&&(Region.ready md ops listed).contains i&&Dy md ops late i)=true)
  (hQ:∀ c a w,Q (.panic c) (a.put oi.dst v) w->Q (.panic c) a w) (hg:oi.guard=none) (hS:S w) (hy:∀ w,S w->(execOp a.eval oi).run P w=.ok (.value v) w)
  (h:df P md ops Q S late fuel (listed.setIfInBounds i true) (a.put oi.dst v) w):df P md ops Q S late (fuel+1) listed a w:=by
 simp only[IR] at hs;obtain⟨⟨⟨h1,h2⟩,h3⟩,h4⟩:=hs;refine gY (S':=S) hi (Region.noSelect_spec h1) hQ (fun j oj w w' hoj hnot hSw hk=>?_) fuel listed a w (Region.free_spec hi h2) (by simpa using h3) (Or.inl ⟨by simp[Region.wanted,hg],hy⟩) hS h
 cases hl:late j
 ·exact hk hl hSw
 ·obtain⟨e,he,hb,heq⟩:=qf h4 hoj hl;exact absurd heq (hnot e he hb)
theorem ai {i:Nat}{oi:Oper}{v:Value}{fuel:Nat}{listed:Array Bool}{a:Act}{w:World} (hi:ops[i]?=some oi)
  (hs:(Region.noSelect ops&&Region.free md ops listed i&&(Region.ready md ops listed).contains i)=true)
  (hQ:∀ c a w,Q (.panic c) (a.put oi.dst v) w->Q (.panic c) a w) (hg:oi.guard=none) (hy:∀ w,(execOp a.eval oi).run P w=.ok (.value v) w)
  (h:df P md ops Q S late fuel (listed.setIfInBounds i true) (a.put oi.dst v) w):df P md ops Q S late (fuel+1) listed a w:=by
 simp only[IR] at hs;obtain⟨⟨h1,h2⟩,h3⟩:=hs;exact gY (S':=fun _=>True) hi (Region.noSelect_spec h1) hQ (fun _ _ _ _ _ _ _ _=>trivial) fuel listed a w (Region.free_spec hi h2) (by simpa using h3) (Or.inl ⟨by simp[Region.wanted,hg],fun w _=>hy w⟩) trivial h
theorem LJ (i:Nat){oi:Oper}{v:Value}{fuel:Nat}{listed:Array Bool}{a:Act}{w:World} (hi:ops[i]?=some oi:=by rfl)
  (hs:(Region.noSelect ops&&Region.free md ops listed i&&(Region.ready md ops listed).contains i)=true:=by kernel_rfl)
  (hQ:∀ c a w,Q (.panic c) (a.put oi.dst v) w->Q (.panic c) a w:=by exact fun _ _ _ h=>h) (hg:oi.guard=none:=by rfl) (hy:∀ w,(execOp a.eval oi).run P w=.ok (.value v) w:=by intro wy;go_simp;try with_reducible rfl)
  (r:df P md ops Q S late fuel (listed.setIfInBounds i true) (a.put oi.dst v) w):df P md ops Q S late (fuel+1) listed a w:=ai hi hs hQ hg hy r
theorem ar {i:Nat}{oi:Oper}{fuel:Nat}{listed:Array Bool}{a:Act}{w:World} (hi:ops[i]?=some oi) (hr:Region.ready md ops listed=[i]) (hg:oi.guard=none)
  (h:∀ K:Act->World->Prop,(∀ a' w',(late i=false->S w->S w')->df P md ops Q S late fuel (listed.setIfInBounds i true) a' w'->K a' w')->Oper.wp P oi a w K Q):df P md ops Q S late (fuel+1) listed a w:=by
 refine⟨fun h0=>(by rw[hr] at h0;cases h0),fun j hj=>?_⟩;rw[hr] at hj;obtain rfl:j=i:=by simpa using hj
 unfold wpOp;simp only[hi];rw[if_pos (by simp[Region.wanted,hg])];exact Or.inl (h _ (fun a' w' h1 h2=>⟨h1,h2⟩))
theorem dN {i i':Nat}{oi oi':Oper}{fuel:Nat}{listed:Array Bool}{a:Act}{w:World} (hi:ops[i]?=some oi) (hi':ops[i']?=some oi') (hr:Region.ready md ops listed=[i,i']) (hg:oi.guard=none) (hg':oi'.guard=none)
  (h:∀ K:Act->World->Prop,(∀ a' w',(late i=false->S w->S w')->df P md ops Q S late fuel (listed.setIfInBounds i true) a' w'->K a' w')->Oper.wp P oi a w K Q)
  (h':∀ K:Act->World->Prop,(∀ a' w',(late i'=false->S w->S w')->df P md ops Q S late fuel (listed.setIfInBounds i' true) a' w'->K a' w')->Oper.wp P oi' a w K Q):df P md ops Q S late (fuel+1) listed a w:=by
 refine⟨fun h0=>(by rw[hr] at h0;cases h0),fun j hj=>?_⟩;rw[hr] at hj;simp only[Jv,Ki,or_false] at hj;rcases hj with rfl | rfl
 ·unfold wpOp;simp only[hi];rw[if_pos (by simp[Region.wanted,hg])];exact Or.inl (h _ (fun a' w' h1 h2=>⟨h1,h2⟩))
 ·unfold wpOp;simp only[hi'];rw[if_pos (by simp[Region.wanted,hg'])];exact Or.inl (h' _ (fun a' w' h1 h2=>⟨h1,h2⟩))
theorem aF {listed:Array Bool}{a:Act}{w:World} (hr:Region.ready md ops listed=[]) (h:Q .normal a w):∀ fuel,df P md ops Q S late fuel listed a w
 | 0=>⟨hr,h⟩
 | _+1=>⟨fun _=>h,by rw[hr];simp⟩
theorem ax {id:Nat}{a:Act}{w:World} (S:World->Prop) (late:Nat->Bool) (hm:P.follows .mixedOrders=true)
  (h:df P .any ops Q S late ops.size (Array.replicate ops.size false) a w.drew):(Code.region id ops true).wp P Q a w :=
 wp_region_any hm (lE _ _ _ _ h)
end
open Go.RowKit
def aP (Q:Exit->Act->World->Prop):Exit->Act->World->Prop
 | .normal,a,w=>Q .normal a w
 | _,_,_=>False
theorem aY {Q:Exit->Act->World->Prop}{e:Exit}{a:Act}{w:World} (h:aP Q e a w):Q e a w:=by
 cases e<;>first | exact h | exact h.elim
theorem cA {P:Program}{f:FuncId}{fn:Func} (hf:P.funcs[f]?=some fn) (hb:fn.body.isNone=false) (hn:(fn.name == "runtime.NumGoroutine")=false) (args:Array Value) (w:World):(callFunc f args).run P w=.ok (.enter f args) w:=by
 have hb':¬ fn.body=none:=fun e=>by rw[e] at hb;cases hb
 have hn':¬ fn.name = "runtime.NumGoroutine" := fun e=>by rw[e] at hn;exact absurd hn (by decide)
 simp[callFunc,go_sem,hf,hb',hn']
open Go.RowKit Dg
def dS (r s:Rt):Rt:=dP (pi r.minus (r.n*s.d) s.minus (s.n*r.d)).1 (pi r.minus (r.n*s.d) s.minus (s.n*r.d)).2 (r.d*s.d)
theorem zj (m:Bool) (a:Nat) (k:Bool) (b:Nat):(pi m a k b).2<=a+b:=by
 unfold pi
 split
 ·exact Iw _
 ·split<;>(simp only;omega)
theorem lA (va vb:Value) (r s:Rt) (w:World) (ha:IsR w va r) (hb:IsR w vb s) (h0:0<r.d) (h1:0<s.d)
  (hf1:Few (r.n*s.d)) (hf2:Few (s.n*r.d)) (hf3:Few (r.n*s.d+s.n*r.d)) (hf4:Few (r.d*s.d)) :
  Calls Tryz.prog 144 #[va,vb] w fun e w'=>∃ v,e=.returned v/\IsR w' v (dS r s)/\Below w.heap.size w w':=by
 obtain⟨vn,vd,rfl,hn,hd,hfn,hfd⟩:=ha;obtain⟨un,ud,rfl,kn,kd,gfn,gfd⟩:=hb;obtain⟨z,hz⟩:∃ z,z=dS r s:=⟨_,rfl⟩;rw[<-hz];have HZ:=Ip hz;clear hz;go_enter Tryz.func144,Tryz.ntmps144;go_upto_region 1 with fail
 have q1:=cJ.new w (.bool r.minus) vn vd nofun (IsU.not_int hn) (IsU.not_int hd);have m1:Below w.heap.size w (w.alloc (.cells #[.bool r.minus,vn,vd] 89)):=(LN _ _).alloc (Iw _) _;have z1:(w.alloc (.cells #[.bool r.minus,vn,vd] 89)).heap.size=w.heap.size+1:=by show (Array.push _ _).size=_;exact Ja _
 generalize w.alloc (.cells #[.bool r.minus,vn,vd] 89)=w1 at *
 have q2:=cJ.new w1 (.bool s.minus) un ud nofun (IsU.not_int kn) (IsU.not_int kd);have m2:Below w1.heap.size w1 (w1.alloc (.cells #[.bool s.minus,un,ud] 89)):=(LN _ _).alloc (Iw _) _;have z2:(w1.alloc (.cells #[.bool s.minus,un,ud] 89)).heap.size=w1.heap.size+1:=by show (Array.push _ _).size=_;exact Ja _
 generalize w1.alloc (.cells #[.bool s.minus,un,ud] 89)=w2 at *
 have q3:=cJ.new w2 (.bool false) (.slice none 0 0) (.slice none 0 0) nofun nofun nofun;have m3:Below w2.heap.size w2 (w2.alloc (.cells #[.bool false,.slice none 0 0,.slice none 0 0] 89)):=(LN _ _).alloc (Iw _) _;generalize w2.alloc (.cells #[.bool false,.slice none 0 0,.slice none 0 0] 89)=w3 at *
 have m4:Below w3.heap.size w3 w3.drew:=(LN _ _).drew;rw[z2,z1] at q3;rw[z1] at q2;refine wp_mono (ax (Q:=aP _) (fun wx:World=>Below w3.drew.heap.size w3.drew wx) (fun i=>false) (by kernel_rfl) ?_) (fun _ _ _ h=>aY h);generalize w3.drew=wd at *
 have hS:Below wd.heap.size wd wd:=LN _ _;have M12:=LK m1 m2;have M13:=LK M12 m3;have MD:=Ip (LK M13 m4);have B1:=Ip (((q1.below m2).below m3).below m4);have B2:=Ip ((q2.below m3).below m4);have B3:=Ip (q3.below m4);have HN:=Ip (hn.below MD.out);have HD:=Ip (hd.below MD.out);have KN:=Ip (kn.below MD.out);have KD:=Ip (kd.below MD.out);clear q1 q2 q3 m1 m2 m3 m4 z1 z2 M12 M13 hn hd kn kd;refine LJ 0 (r:=?_)
 refine ay (i:=1) (v:=?vv1) rfl (by kernel_rfl) (fun _ _ _ h=>h) rfl hS ?hy1 ?rest1
 case hy1 =>
  intro wy hy;have e1:=B1.out.below hy;have e2:=B2.out.below hy;have a0:=e1.c0;have a1:=e1.c1;have a2:=e1.c2;have b0:=e2.c0;have b1:=e2.c1;have b2:=e2.c2;clear e1 e2 hy;go_simp;try with_reducible rfl
 refine LJ 2 (r:=?_)
 refine ay (i:=3) (v:=?vv3) rfl (by kernel_rfl) (fun _ _ _ h=>h) rfl hS ?hy3 ?rest3
 case hy3 =>
  intro wy hy;have e1:=B1.out.below hy;have e2:=B2.out.below hy;have a0:=e1.c0;have a1:=e1.c1;have a2:=e1.c2;have b0:=e2.c0;have b1:=e2.c1;have b2:=e2.c2;clear e1 e2 hy;go_simp;try with_reducible rfl
 refine LJ 4 (r:=?_)
 refine ay (i:=5) (v:=?vv5) rfl (by kernel_rfl) (fun _ _ _ h=>h) rfl hS ?hy5 ?rest5
 case hy5 =>
  intro wy hy;have e1:=B1.out.below hy;have e2:=B2.out.below hy;have a0:=e1.c0;have a1:=e1.c1;have a2:=e1.c2;have b0:=e2.c0;have b1:=e2.c1;have b2:=e2.c2;clear e1 e2 hy;go_simp;try with_reducible rfl
 refine LJ 7 (r:=?_)
 refine ay (i:=8) (v:=?vv8) rfl (by kernel_rfl) (fun _ _ _ h=>h) rfl hS ?hy8 ?rest8
 case hy8 =>
  intro wy hy;have e1:=B1.out.below hy;have e2:=B2.out.below hy;have a0:=e1.c0;have a1:=e1.c1;have a2:=e1.c2;have b0:=e2.c0;have b1:=e2.c1;have b2:=e2.c2;clear e1 e2 hy;go_simp;try with_reducible rfl
 refine LJ 9 (r:=?_)
 refine ay (i:=10) (v:=?vv10) rfl (by kernel_rfl) (fun _ _ _ h=>h) rfl hS ?hy10 ?rest10
 case hy10 =>
  intro wy hy;have e1:=B1.out.below hy;have e2:=B2.out.below hy;have a0:=e1.c0;have a1:=e1.c1;have a2:=e1.c2;have b0:=e2.c0;have b1:=e2.c1;have b2:=e2.c2;clear e1 e2 hy;go_simp;try with_reducible rfl
 refine LJ 11 (r:=?_)
 refine ay (i:=12) (v:=?vv12) rfl (by kernel_rfl) (fun _ _ _ h=>h) rfl hS ?hy12 ?rest12
 case hy12 =>
  intro wy hy;have e1:=B1.out.below hy;have e2:=B2.out.below hy;have a0:=e1.c0;have a1:=e1.c1;have a2:=e1.c2;have b0:=e2.c0;have b1:=e2.c1;have b2:=e2.c2;clear e1 e2 hy;go_simp;try with_reducible rfl
 try simp only[Act.put,It,Is,Ir,Iq,Iu,Iv]
 refine ar (i:=6) rfl (by kernel_rfl) rfl (fun K hK=>?_);go_simp;refine (rh _ _ r.n s.d _ HN.out KD.out hfn gfd).mono ?_;rintro e w4 ⟨v4,rfl,hv4,hb4⟩;refine hK _ _ (fun _ _=>hb4) ?_;clear hK K;try simp only[Act.put,It,Is,Ir,Iq,Iu,Iv]
 refine ar (i:=13) rfl (by kernel_rfl) rfl (fun K hK=>?_);go_simp;refine (rh _ _ s.n r.d _ (KN.out.below hb4) (HD.out.below hb4) gfn hfd).mono ?_;rintro e w5 ⟨v5,rfl,hv5,hb5⟩;have hB5:=LK hb4 hb5;refine hK _ _ (fun _ _=>hB5) ?_;clear hK K;try simp only[Act.put,It,Is,Ir,Iq,Iu,Iv]
 refine ar (i:=14) rfl (by kernel_rfl) rfl (fun K hK=>?_);go_simp;refine (GC r.minus s.minus _ _ _ _ _ (hv4.below hb5) hv5 hf1 hf2).mono ?_;rintro e w6 ⟨v6,rfl,hv6,hb6⟩;have hB6:=LK hB5 hb6;refine hK _ _ (fun _ _=>hB6) ?_;clear hK K;refine LJ 15 (r:=?_)
 refine LJ 16 (r:=?_)
 refine LJ 17 (r:=?_)
 refine LJ 18 (r:=?_)
 refine LJ 19 (r:=?_)
 try simp only[Act.put,It,Is,Ir,Iq,Iu,Iv]
 refine aF (by kernel_rfl) ?_ _;simp only[aP];have e1:=B1.out.below hB6;have e2:=B2.out.below hB6;have a2:=e1.c2;have b2:=e2.c2;have B3:=Ip (B3.out.below hB6);have HD6:=Ip (HD.out.below hB6);have KD6:=Ip (KD.out.below hB6);have HV6:=Ip hv6;have MD6:=Ip (LK MD.out hB6);clear e1 e2 B1 B2 HN HD KN KD hS hv4 hv5 hv6 hb4 hb5 hb6 hB5 hB6 MD;go_wp2_with fail
 have HV6':=HV6.out;refine (rh _ _ r.d s.d _ HD6.out KD6.out hfd gfd).mono ?_;rintro e w7 ⟨v7,rfl,hv7,hb7⟩;have HV7:=Ip (HV6.out.below hb7);have HW7:=Ip hv7;have B7:=Ip (B3.out.below hb7);have M7:=Ip (LK MD6.out hb7);clear HV6 HV6' hv7 hb7 B3 MD6 HD6 KD6 a2 b2;go_wp2_with fail
 have hred:Calls Tryz.prog 63 #[.bool (pi r.minus (r.n*s.d) s.minus (s.n*r.d)).1,v6,v7] w7 fun e w'=>∃ v,e=.returned v/\IsR w' v z/\Below w7.heap.size w7 w':=by rw[HZ.out];exact gG _ v6 v7 _ _ w7 HV7.out HW7.out (Few.mono hf3 (zj _ _ _ _)) hf4 (IH h0 h1)
 refine hred.mono ?_;clear hred;rintro e w8 ⟨v8,rfl,⟨xn,xd,rfl,hx1,hx2,hx3,hx4⟩,hb8⟩;obtain⟨pn,cn,rfl,-,-,-⟩:=id hx1;obtain⟨pd,cd,rfl,-,-,-⟩:=id hx2;have B8:=B7.out.below hb8;have k0:=B8.c0;have k1:=B8.c1;have k2:=B8.c2;have f0:=B8.fr 0;have f1:=B8.fr 1;have f2:=B8.fr 2;have P:=Ip (B8.put (a':=.bool z.minus) (b':=.slice pn _ cn) (c':=.slice pd _ cd) nofun (IsU.not_int hx1) (IsU.not_int hx2));have M8:=Ip (LK M7.out hb8);have HX:=Ip (And.intro hx1 (And.intro hx2 (And.intro hx3 hx4)));clear B7 M7 HV7 HW7 hb8 hx1 hx2 hx3 hx4 B8;go_wp2;have q0:=P.out.1.c0;have q1:=P.out.1.c1;have q2:=P.out.1.c2;refine LM (v:=.agg #[.bool z.minus,.slice pn (aq BB z.n).length cn,.slice pd (aq BB z.d).length cd]) (by simp[results,Tryz.results144,go_sem,q0,q1,q2]) rfl ⟨_,rfl,⟨_,_,rfl,P.out.2.1 _ _ HX.out.1,P.out.2.1 _ _ HX.out.2.1,HX.out.2.2.1,HX.out.2.2.2⟩,P.out.2.2 w M8.out ?_⟩;omega
def de (r s:Rt):Rt:=dP (r.minus != s.minus) (r.n*s.n) (r.d*s.d)
theorem iE (va vb:Value) (r s:Rt) (w:World) (ha:IsR w va r) (hb:IsR w vb s) (h0:0<r.d) (h1:0<s.d)
  (hf3:Few (r.n*s.n)) (hf4:Few (r.d*s.d)) :
  Calls Tryz.prog 166 #[va,vb] w fun e w'=>∃ v,e=.returned v/\IsR w' v (de r s)/\Below w.heap.size w w':=by
 obtain⟨vn,vd,rfl,hn,hd,hfn,hfd⟩:=ha;obtain⟨un,ud,rfl,kn,kd,gfn,gfd⟩:=hb;obtain⟨z,hz⟩:∃ z,z=de r s:=⟨_,rfl⟩;rw[<-hz];have HZ:=Ip hz;clear hz;go_enter Tryz.func166,Tryz.ntmps166;go_upto_region 1 with fail
 have q1:=cJ.new w (.bool r.minus) vn vd nofun (IsU.not_int hn) (IsU.not_int hd);have m1:Below w.heap.size w (w.alloc (.cells #[.bool r.minus,vn,vd] 89)):=(LN _ _).alloc (Iw _) _;have z1:(w.alloc (.cells #[.bool r.minus,vn,vd] 89)).heap.size=w.heap.size+1:=by show (Array.push _ _).size=_;exact Ja _
 generalize w.alloc (.cells #[.bool r.minus,vn,vd] 89)=w1 at *
 have q2:=cJ.new w1 (.bool s.minus) un ud nofun (IsU.not_int kn) (IsU.not_int kd);have m2:Below w1.heap.size w1 (w1.alloc (.cells #[.bool s.minus,un,ud] 89)):=(LN _ _).alloc (Iw _) _;have z2:(w1.alloc (.cells #[.bool s.minus,un,ud] 89)).heap.size=w1.heap.size+1:=by show (Array.push _ _).size=_;exact Ja _
 generalize w1.alloc (.cells #[.bool s.minus,un,ud] 89)=w2 at *
 have q3:=cJ.new w2 (.bool false) (.slice none 0 0) (.slice none 0 0) nofun nofun nofun;have m3:Below w2.heap.size w2 (w2.alloc (.cells #[.bool false,.slice none 0 0,.slice none 0 0] 89)):=(LN _ _).alloc (Iw _) _;generalize w2.alloc (.cells #[.bool false,.slice none 0 0,.slice none 0 0] 89)=w3 at *
 have m4:Below w3.heap.size w3 w3.drew:=(LN _ _).drew;rw[z2,z1] at q3;rw[z1] at q2;refine wp_mono (ax (Q:=aP _) (fun wx:World=>Below w3.drew.heap.size w3.drew wx) (fun i=>i == 16) (by kernel_rfl) ?_) (fun _ _ _ h=>aY h);generalize w3.drew=wd at *
 have hS:Below wd.heap.size wd wd:=LN _ _;have M12:=LK m1 m2;have M13:=LK M12 m3;have MD:=Ip (LK M13 m4);have B1:=Ip (((q1.below m2).below m3).below m4);have B2:=Ip ((q2.below m3).below m4);have B3:=Ip (q3.below m4);have HN:=Ip (hn.below MD.out);have HD:=Ip (hd.below MD.out);have KN:=Ip (kn.below MD.out);have KD:=Ip (kd.below MD.out);clear q1 q2 q3 m1 m2 m3 m4 z1 z2 M12 M13 hn hd kn kd;refine LJ 0 (r:=?_)
 refine ay (i:=1) (v:=?vv1) rfl (by kernel_rfl) (fun _ _ _ h=>h) rfl hS ?hy1 ?rest1
 case hy1 =>
  intro wy hy;have e1:=B1.out.below hy;have e2:=B2.out.below hy;have a0:=e1.c0;have a1:=e1.c1;have a2:=e1.c2;have b0:=e2.c0;have b1:=e2.c1;have b2:=e2.c2;clear e1 e2 hy;go_simp;try with_reducible rfl
 refine LJ 2 (r:=?_)
 refine ay (i:=3) (v:=?vv3) rfl (by kernel_rfl) (fun _ _ _ h=>h) rfl hS ?hy3 ?rest3
 case hy3 =>
  intro wy hy;have e1:=B1.out.below hy;have e2:=B2.out.below hy;have a0:=e1.c0;have a1:=e1.c1;have a2:=e1.c2;have b0:=e2.c0;have b1:=e2.c1;have b2:=e2.c2;clear e1 e2 hy;go_simp;try with_reducible rfl
 refine LJ 4 (r:=?_)
 refine LJ 5 (r:=?_)
 refine ay (i:=6) (v:=?vv6) rfl (by kernel_rfl) (fun _ _ _ h=>h) rfl hS ?hy6 ?rest6
 case hy6 =>
  intro wy hy;have e1:=B1.out.below hy;have e2:=B2.out.below hy;have a0:=e1.c0;have a1:=e1.c1;have a2:=e1.c2;have b0:=e2.c0;have b1:=e2.c1;have b2:=e2.c2;clear e1 e2 hy;go_simp;try with_reducible rfl
 refine LJ 7 (r:=?_)
 refine ay (i:=8) (v:=?vv8) rfl (by kernel_rfl) (fun _ _ _ h=>h) rfl hS ?hy8 ?rest8
 case hy8 =>
  intro wy hy;have e1:=B1.out.below hy;have e2:=B2.out.below hy;have a0:=e1.c0;have a1:=e1.c1;have a2:=e1.c2;have b0:=e2.c0;have b1:=e2.c1;have b2:=e2.c2;clear e1 e2 hy;go_simp;try with_reducible rfl
 refine LJ 10 (r:=?_)
 refine ay (i:=11) (v:=?vv11) rfl (by kernel_rfl) (fun _ _ _ h=>h) rfl hS ?hy11 ?rest11
 case hy11 =>
  intro wy hy;have e1:=B1.out.below hy;have e2:=B2.out.below hy;have a0:=e1.c0;have a1:=e1.c1;have a2:=e1.c2;have b0:=e2.c0;have b1:=e2.c1;have b2:=e2.c2;clear e1 e2 hy;go_simp;try with_reducible rfl
 refine LJ 12 (r:=?_)
 refine ay (i:=13) (v:=?vv13) rfl (by kernel_rfl) (fun _ _ _ h=>h) rfl hS ?hy13 ?rest13
 case hy13 =>
  intro wy hy;have e1:=B1.out.below hy;have e2:=B2.out.below hy;have a0:=e1.c0;have a1:=e1.c1;have a2:=e1.c2;have b0:=e2.c0;have b1:=e2.c1;have b2:=e2.c2;clear e1 e2 hy;go_simp;try with_reducible rfl
 try simp only[Act.put,It,Is,Ir,Iq,Iu,Iv]
 refine ar (i:=9) rfl (by kernel_rfl) rfl (fun K hK=>?_);go_simp;refine (rh _ _ r.n s.n _ HN.out KN.out hfn gfn).mono ?_;rintro e w4 ⟨v4,rfl,hv4,hb4⟩;refine hK _ _ (fun _ _=>hb4) ?_;clear hK K;try simp only[Act.put,It,Is,Ir,Iq,Iu,Iv]
 refine ar (i:=14) rfl (by kernel_rfl) rfl (fun K hK=>?_);go_simp;refine (rh _ _ r.d s.d _ (HD.out.below hb4) (KD.out.below hb4) hfd gfd).mono ?_;rintro e w5 ⟨v5,rfl,hv5,hb5⟩;have hB5:=LK hb4 hb5;refine hK _ _ (fun _ _=>hB5) ?_;clear hK K;try simp only[Act.put,It,Is,Ir,Iq,Iu,Iv]
 refine ar (i:=15) rfl (by kernel_rfl) rfl (fun K hK=>?_);go_simp;have hred:Calls Tryz.prog 63 #[.bool (r.minus != s.minus),v4,v5] w5 fun e w'=>∃ v,e=.returned v/\IsR w' v z/\Below w5.heap.size w5 w':=by rw[HZ.out];exact gG _ v4 v5 _ _ w5 (hv4.below hb5) hv5 hf3 hf4 (IH h0 h1)
 refine hred.mono ?_;clear hred;rintro e w8 ⟨v8,rfl,⟨xn,xd,rfl,hx1,hx2,hx3,hx4⟩,hb8⟩;obtain⟨pn,cn,rfl,-,-,-⟩:=id hx1;obtain⟨pd,cd,rfl,-,-,-⟩:=id hx2;have hB8:=LK hB5 hb8;refine hK _ _ (fun _ _=>hB8) ?_;clear hK K;try simp only[Act.put,It,Is,Ir,Iq,Iu,Iv]
 have B8:=B3.out.below hB8;have k0:=B8.c0;have k1:=B8.c1;have k2:=B8.c2;have f0:=B8.fr 0;have f1:=B8.fr 1;have f2:=B8.fr 2;have P:=Ip (B8.put (a':=.bool z.minus) (b':=.slice pn _ cn) (c':=.slice pd _ cd) nofun (IsU.not_int hx1) (IsU.not_int hx2));have M8:=Ip (LK MD.out hB8);have HX:=Ip (And.intro hx1 (And.intro hx2 (And.intro hx3 hx4)));clear hx1 hx2 hx3 hx4 B8 B1 B2 B3 HN HD KN KD hS hv4 hv5 hb4 hb5 hB5 hb8 hB8 MD;refine ar (i:=16) rfl (by kernel_rfl) rfl (fun K hK=>?_);go_simp;refine hK _ _ (fun h _=>by simp at h) ?_;clear hK K;try simp only[Act.put,It,Is,Ir,Iq,Iu,Iv]
 refine aF (by kernel_rfl) ?_ _;simp only[aP];go_wp2_with fail
 have q0:=P.out.1.c0;have q1:=P.out.1.c1;have q2:=P.out.1.c2;refine LM (v:=.agg #[.bool z.minus,.slice pn (aq BB z.n).length cn,.slice pd (aq BB z.d).length cd]) (by simp[results,Tryz.results166,go_sem,q0,q1,q2]) rfl ⟨_,rfl,⟨_,_,rfl,P.out.2.1 _ _ HX.out.1,P.out.2.1 _ _ HX.out.2.1,HX.out.2.2.1,HX.out.2.2.2⟩,P.out.2.2 w M8.out ?_⟩;omega
def fx (r:Rt):Rt:=⟨!r.minus&&decide (0<r.n),r.n,r.d⟩
theorem digs_pos (n:Nat):(0<(aq BB n).length)↔0<n:=by
 rw[IU];constructor
 ·intro h;rcases Jd n with rfl | h1
  ·exact absurd (cz BB) h
  ·exact h1
 ·intro h e;have:=(dy aT).1 e;omega
theorem yu (va:Value) (r:Rt) (w:World) (ha:IsR w va r) :
  Calls Tryz.prog 145 #[va] w fun e w'=>∃ v,e=.returned v/\IsR w' v (fx r)/\Below w.heap.size w w':=by
 obtain⟨m,n,d⟩:=r;obtain⟨vn,vd,rfl,hn,hd,hfn,hfd⟩:=ha;have hp:=digs_pos n;obtain⟨pn,cn,rfl,-,-,-⟩:=id hn;obtain⟨pd,cd,rfl,-,-,-⟩:=id hd
 cases m
 ·go_enter Tryz.func145,Tryz.ntmps145;go_wp2;have m1:Below w.heap.size w (w.alloc (.cells #[.bool false,.slice pn (aq BB n).length cn,.slice pd (aq BB d).length cd] 89)):=(LN _ _).alloc (Iw _) _;have z1:(w.alloc (.cells #[.bool false,.slice pn (aq BB n).length cn,.slice pd (aq BB d).length cd] 89)).heap.size=w.heap.size+1:=by show (Array.push _ _).size=_;exact Ja _
  generalize w.alloc (.cells #[.bool false,.slice pn (aq BB n).length cn,.slice pd (aq BB d).length cd] 89)=w1 at *
  have b2:=cJ.new w1 (.bool (decide (0<n))) (.slice pn (aq BB n).length cn) (.slice pd (aq BB d).length cd) nofun (IsU.not_int hn) (IsU.not_int hd);have m2:=m1.alloc m1.size (.cells #[.bool (decide (0<n)),.slice pn (aq BB n).length cn,.slice pd (aq BB d).length cd] 89);rw[z1] at b2;have q0:=b2.c0;have q1:=b2.c1;have q2:=b2.c2;refine LM (v:=.agg #[.bool (decide (0<n)),.slice pn (aq BB n).length cn,.slice pd (aq BB d).length cd]) (by simp[results,Tryz.results145,go_sem,q0,q1,q2]) rfl ⟨_,rfl,⟨_,_,rfl,hn.below m2,hd.below m2,hfn,hfd⟩,m2⟩
 ·go_enter Tryz.func145,Tryz.ntmps145;go_wp2;have m1:Below w.heap.size w (w.alloc (.cells #[.bool true,.slice pn (aq BB n).length cn,.slice pd (aq BB d).length cd] 89)):=(LN _ _).alloc (Iw _) _;have z1:(w.alloc (.cells #[.bool true,.slice pn (aq BB n).length cn,.slice pd (aq BB d).length cd] 89)).heap.size=w.heap.size+1:=by show (Array.push _ _).size=_;exact Ja _
  generalize w.alloc (.cells #[.bool true,.slice pn (aq BB n).length cn,.slice pd (aq BB d).length cd] 89)=w1 at *
  have b2:=cJ.new w1 (.bool (false)) (.slice pn (aq BB n).length cn) (.slice pd (aq BB d).length cd) nofun (IsU.not_int hn) (IsU.not_int hd);have m2:=m1.alloc m1.size (.cells #[.bool (false),.slice pn (aq BB n).length cn,.slice pd (aq BB d).length cd] 89);rw[z1] at b2;have q0:=b2.c0;have q1:=b2.c1;have q2:=b2.c2;refine LM (v:=.agg #[.bool (false),.slice pn (aq BB n).length cn,.slice pd (aq BB d).length cd]) (by simp[results,Tryz.results145,go_sem,q0,q1,q2]) rfl ⟨_,rfl,⟨_,_,rfl,hn.below m2,hd.below m2,hfn,hfd⟩,m2⟩
def Fd (r s:Rt):Int:=if (dS r (fx s)).n=0 then 0 else if (dS r (fx s)).minus then -1 else 1
theorem pF (va vb:Value) (r s:Rt) (w:World) (ha:IsR w va r) (hb:IsR w vb s) (h0:0<r.d) (h1:0<s.d)
  (hf1:Few (r.n*s.d)) (hf2:Few (s.n*r.d)) (hf3:Few (r.n*s.d+s.n*r.d)) (hf4:Few (r.d*s.d)) :
  Calls Tryz.prog 93 #[va,vb] w fun e w'=>e=.returned (.int .i64 (Fd r s))/\Below w.heap.size w w':=by
 have HA0:=Ip ha;have HB0:=Ip hb;obtain⟨vn,vd,rfl,hn,hd,hfn,hfd⟩:=ha;obtain⟨un,ud,rfl,kn,kd,gfn,gfd⟩:=hb;obtain⟨z,hz⟩:∃ z,z=dS r (fx s):=⟨_,rfl⟩;unfold Fd;rw[<-hz];have HZ:=Ip hz;clear hz;go_enter Tryz.func93,Tryz.ntmps93;go_upto_region 1 with fail
 have q1:=cJ.new w (.bool r.minus) vn vd nofun (IsU.not_int hn) (IsU.not_int hd);have m1:Below w.heap.size w (w.alloc (.cells #[.bool r.minus,vn,vd] 89)):=(LN _ _).alloc (Iw _) _;have z1:(w.alloc (.cells #[.bool r.minus,vn,vd] 89)).heap.size=w.heap.size+1:=by show (Array.push _ _).size=_;exact Ja _
 generalize w.alloc (.cells #[.bool r.minus,vn,vd] 89)=w1 at *
 have q2:=cJ.new w1 (.bool s.minus) un ud nofun (IsU.not_int kn) (IsU.not_int kd);have m2:Below w1.heap.size w1 (w1.alloc (.cells #[.bool s.minus,un,ud] 89)):=(LN _ _).alloc (Iw _) _;have z2:(w1.alloc (.cells #[.bool s.minus,un,ud] 89)).heap.size=w1.heap.size+1:=by show (Array.push _ _).size=_;exact Ja _
 generalize w1.alloc (.cells #[.bool s.minus,un,ud] 89)=w2 at *
 have m4:Below w2.heap.size w2 w2.drew:=(LN _ _).drew;rw[z1] at q2;refine wp_mono (ax (Q:=aP _) (fun wx:World=>Below w2.drew.heap.size w2.drew wx) (fun i=>i == 5) (by kernel_rfl) ?_) (fun _ _ _ h=>aY h);generalize w2.drew=wd at *
 have hS:Below wd.heap.size wd wd:=LN _ _;have M12:=LK m1 m2;have MD:=Ip (LK M12 m4);have B1:=Ip ((q1.below m2).below m4);have B2:=Ip (q2.below m4);have HA:=Ip (HA0.out.below MD.out);have HB:=Ip (HB0.out.below MD.out);clear q1 q2 m1 m2 m4 z1 z2 M12 hn hd kn kd HA0 HB0;refine ay (i:=0) (v:=?vv0) rfl (by kernel_rfl) (fun _ _ _ h=>h) rfl hS ?hy0 ?rest0
 case hy0 =>
  intro wy hy;have e1:=B1.out.below hy;have e2:=B2.out.below hy;have a0:=e1.c0;have a1:=e1.c1;have a2:=e1.c2;have b0:=e2.c0;have b1:=e2.c1;have b2:=e2.c2;clear e1 e2 hy;go_simp;try with_reducible rfl
 refine ay (i:=1) (v:=?vv1) rfl (by kernel_rfl) (fun _ _ _ h=>h) rfl hS ?hy1 ?rest1
 case hy1 =>
  intro wy hy;have e1:=B1.out.below hy;have e2:=B2.out.below hy;have a0:=e1.c0;have a1:=e1.c1;have a2:=e1.c2;have b0:=e2.c0;have b1:=e2.c1;have b2:=e2.c2;clear e1 e2 hy;go_simp;try with_reducible rfl
 try simp only[Act.put,It,Is,Ir,Iq,Iu,Iv]
 refine dN (i:=2) (i':=4) rfl rfl (by kernel_rfl) rfl rfl (fun K hK=>?_) (fun K hK=>?_)
 ·go_simp;refine (yu _ s _ (HB.out.below hS)).mono ?_;rintro e w4 ⟨v4,rfl,hv4,hb4⟩;have hB4:=Below.trans hS (hb4.mono (Below.size hS));refine hK _ _ (fun _ _=>hB4) ?_;clear hK K;try simp only[Act.put,It,Is,Ir,Iq,Iu,Iv]
  refine dN (i:=3) (i':=4) rfl rfl (by kernel_rfl) rfl rfl (fun K hK=>?_) (fun K hK=>?_)
  ·go_simp;have hpl:Calls Tryz.prog 144 #[.agg #[.bool r.minus,vn,vd],v4] w4 fun e w'=>∃ v,e=.returned v/\IsR w' v z/\Below w4.heap.size w4 w':=by rw[HZ.out];exact lA _ _ r (fx s) _ (HA.out.below hB4) hv4 h0 h1 hf1 hf2 hf3 hf4
   refine hpl.mono ?_;clear hpl;rintro e w5 ⟨v5,rfl,⟨xn,xd,rfl,hx1,hx2,hx3,hx4⟩,hb5⟩;obtain⟨pn,cn,rfl,-,-,-⟩:=id hx1;obtain⟨pd,cd,rfl,-,-,-⟩:=id hx2;have hB5:=Below.trans hB4 (hb5.mono (Below.size hB4));refine hK _ _ (fun _ _=>hB5) ?_;clear hK K;try simp only[Act.put,It,Is,Ir,Iq,Iu,Iv]
   refine ar (i:=4) rfl (by kernel_rfl) rfl (fun K hK=>?_);go_simp;have B3:=cJ.new w5 (.bool false) (.slice none 0 0) (.slice none 0 0) nofun nofun nofun;have mA:Below w5.heap.size w5 (w5.alloc (.cells #[.bool false,.slice none 0 0,.slice none 0 0] 89)):=(LN _ _).alloc (Iw _) _;have hC:=Below.trans hB5 (mA.mono (Below.size hB5));refine hK _ _ (fun _ _=>hC) ?_;clear hK K;try simp only[Act.put,It,Is,Ir,Iq,Iu,Iv]
   generalize w5.alloc (.cells #[.bool false,.slice none 0 0,.slice none 0 0] 89)=wc at *
   have hx1:=hx1.below mA;have hx2:=hx2.below mA;have B8:=B3;have hk:=hB5.size;have k0:=B8.c0;have k1:=B8.c1;have k2:=B8.c2;have f0:=B8.fr 0;have f1:=B8.fr 1;have f2:=B8.fr 2;have P:=Ip (B8.put (a':=.bool z.minus) (b':=.slice pn _ cn) (c':=.slice pd _ cd) nofun (IsU.not_int hx1) (IsU.not_int hx2));have M8:=Ip (MD.out.trans (Below.mono hC MD.out.size));have hk0:w.heap.size<=w5.heap.size:=IB MD.out.size hk;have HX:=Ip (show IsR _ (.agg #[.bool z.minus,.slice pn _ cn,.slice pd _ cd]) z from⟨_,_,rfl,P.out.2.1 _ _ hx1,P.out.2.1 _ _ hx2,hx3,hx4⟩);have MF:=Ip (P.out.2.2 w M8.out hk0);have PB:=Ip P.out.1;clear P M8 hx1 hx2 hx3 hx4 B8 B1 B2 HA HB MD;refine ar (i:=5) rfl (by kernel_rfl) rfl (fun K hK=>?_);go_simp;refine hK _ _ (fun h _=>by simp at h) ?_;clear hK K k0 k1 k2 f0 f1 f2;try simp only[Act.put,It,Is,Ir,Iq,Iu,Iv]
   refine aF (by kernel_rfl) ?_ _;simp only[aP];generalize World.setCell _ _ _=wf at *
   have q0:=PB.out.c0;have q1:=PB.out.c1;have q2:=PB.out.c2;go_wp2_with (go_at_call 136;refine (iG _ z _ HX.out).mono ?_;rintro e w9 ⟨rfl,hb9⟩;have q3:=(PB.out.below hb9).c0;have MG:=LK MF.out hb9;clear hb9 q0 q1 q2)
   all_goals
    go_ret;exact⟨rfl,MG⟩
  ·go_simp;have B3:=cJ.new w4 (.bool false) (.slice none 0 0) (.slice none 0 0) nofun nofun nofun;have mA:Below w4.heap.size w4 (w4.alloc (.cells #[.bool false,.slice none 0 0,.slice none 0 0] 89)):=(LN _ _).alloc (Iw _) _;have hC:=Below.trans hB4 (mA.mono (Below.size hB4));refine hK _ _ (fun _ _=>hC) ?_;clear hK K;try simp only[Act.put,It,Is,Ir,Iq,Iu,Iv]
   generalize w4.alloc (.cells #[.bool false,.slice none 0 0,.slice none 0 0] 89)=wc at *
   have hv5:=hv4.below mA;refine ar (i:=3) rfl (by kernel_rfl) rfl (fun K hK=>?_);go_simp;have hpl:Calls Tryz.prog 144 #[.agg #[.bool r.minus,vn,vd],v4] wc fun e w'=>∃ v,e=.returned v/\IsR w' v z/\Below wc.heap.size wc w':=by rw[HZ.out];exact lA _ _ r (fx s) _ (HA.out.below hC) hv5 h0 h1 hf1 hf2 hf3 hf4
   refine hpl.mono ?_;clear hpl;rintro e w5 ⟨v5,rfl,⟨xn,xd,rfl,hx1,hx2,hx3,hx4⟩,hb5⟩;obtain⟨pn,cn,rfl,-,-,-⟩:=id hx1;obtain⟨pd,cd,rfl,-,-,-⟩:=id hx2;have hB5:=Below.trans hC (hb5.mono (Below.size hC));refine hK _ _ (fun _ _=>hB5) ?_;clear hK K;try simp only[Act.put,It,Is,Ir,Iq,Iu,Iv]
   have B8:=B3.below hb5;have hk:=hB4.size;have k0:=B8.c0;have k1:=B8.c1;have k2:=B8.c2;have f0:=B8.fr 0;have f1:=B8.fr 1;have f2:=B8.fr 2;have P:=Ip (B8.put (a':=.bool z.minus) (b':=.slice pn _ cn) (c':=.slice pd _ cd) nofun (IsU.not_int hx1) (IsU.not_int hx2));have M8:=Ip (MD.out.trans (Below.mono hB5 MD.out.size));have hk0:w.heap.size<=w4.heap.size:=IB MD.out.size hk;have HX:=Ip (show IsR _ (.agg #[.bool z.minus,.slice pn _ cn,.slice pd _ cd]) z from⟨_,_,rfl,P.out.2.1 _ _ hx1,P.out.2.1 _ _ hx2,hx3,hx4⟩);have MF:=Ip (P.out.2.2 w M8.out hk0);have PB:=Ip P.out.1;clear P M8 hx1 hx2 hx3 hx4 B8 B1 B2 HA HB MD;refine ar (i:=5) rfl (by kernel_rfl) rfl (fun K hK=>?_);go_simp;refine hK _ _ (fun h _=>by simp at h) ?_;clear hK K k0 k1 k2 f0 f1 f2;try simp only[Act.put,It,Is,Ir,Iq,Iu,Iv]
   refine aF (by kernel_rfl) ?_ _;simp only[aP];generalize World.setCell _ _ _=wf at *
   have q0:=PB.out.c0;have q1:=PB.out.c1;have q2:=PB.out.c2;go_wp2_with (go_at_call 136;refine (iG _ z _ HX.out).mono ?_;rintro e w9 ⟨rfl,hb9⟩;have q3:=(PB.out.below hb9).c0;have MG:=LK MF.out hb9;clear hb9 q0 q1 q2)
   all_goals
    go_ret;exact⟨rfl,MG⟩
 ·go_simp;have B3:=cJ.new wd (.bool false) (.slice none 0 0) (.slice none 0 0) nofun nofun nofun;have mA:Below wd.heap.size wd (wd.alloc (.cells #[.bool false,.slice none 0 0,.slice none 0 0] 89)):=(LN _ _).alloc (Iw _) _;have hC:=Below.trans hS (mA.mono (Below.size hS));refine hK _ _ (fun _ _=>hC) ?_;clear hK K;try simp only[Act.put,It,Is,Ir,Iq,Iu,Iv]
  generalize wd.alloc (.cells #[.bool false,.slice none 0 0,.slice none 0 0] 89)=wc at *
  refine ar (i:=2) rfl (by kernel_rfl) rfl (fun K hK=>?_);go_simp;refine (yu _ s _ (HB.out.below hC)).mono ?_;rintro e w4 ⟨v4,rfl,hv4,hb4⟩;have hB4:=Below.trans hC (hb4.mono (Below.size hC));refine hK _ _ (fun _ _=>hB4) ?_;clear hK K;try simp only[Act.put,It,Is,Ir,Iq,Iu,Iv]
  refine ar (i:=3) rfl (by kernel_rfl) rfl (fun K hK=>?_);go_simp;have hpl:Calls Tryz.prog 144 #[.agg #[.bool r.minus,vn,vd],v4] w4 fun e w'=>∃ v,e=.returned v/\IsR w' v z/\Below w4.heap.size w4 w':=by rw[HZ.out];exact lA _ _ r (fx s) _ (HA.out.below hB4) hv4 h0 h1 hf1 hf2 hf3 hf4
  refine hpl.mono ?_;clear hpl;rintro e w5 ⟨v5,rfl,⟨xn,xd,rfl,hx1,hx2,hx3,hx4⟩,hb5⟩;obtain⟨pn,cn,rfl,-,-,-⟩:=id hx1;obtain⟨pd,cd,rfl,-,-,-⟩:=id hx2;have hB5:=Below.trans hB4 (hb5.mono (Below.size hB4));refine hK _ _ (fun _ _=>hB5) ?_;clear hK K;try simp only[Act.put,It,Is,Ir,Iq,Iu,Iv]
  have B8:=(B3.below hb4).below hb5;have hk:=Iw wd.heap.size;have k0:=B8.c0;have k1:=B8.c1;have k2:=B8.c2;have f0:=B8.fr 0;have f1:=B8.fr 1;have f2:=B8.fr 2;have P:=Ip (B8.put (a':=.bool z.minus) (b':=.slice pn _ cn) (c':=.slice pd _ cd) nofun (IsU.not_int hx1) (IsU.not_int hx2));have M8:=Ip (MD.out.trans (Below.mono hB5 MD.out.size));have hk0:w.heap.size<=wd.heap.size:=IB MD.out.size hk;have HX:=Ip (show IsR _ (.agg #[.bool z.minus,.slice pn _ cn,.slice pd _ cd]) z from⟨_,_,rfl,P.out.2.1 _ _ hx1,P.out.2.1 _ _ hx2,hx3,hx4⟩);have MF:=Ip (P.out.2.2 w M8.out hk0);have PB:=Ip P.out.1;clear P M8 hx1 hx2 hx3 hx4 B8 B1 B2 HA HB MD;refine ar (i:=5) rfl (by kernel_rfl) rfl (fun K hK=>?_);go_simp;refine hK _ _ (fun h _=>by simp at h) ?_;clear hK K k0 k1 k2 f0 f1 f2;try simp only[Act.put,It,Is,Ir,Iq,Iu,Iv]
  refine aF (by kernel_rfl) ?_ _;simp only[aP];generalize World.setCell _ _ _=wf at *
  have q0:=PB.out.c0;have q1:=PB.out.c1;have q2:=PB.out.c2;go_wp2_with (go_at_call 136;refine (iG _ z _ HX.out).mono ?_;rintro e w9 ⟨rfl,hb9⟩;have q3:=(PB.out.below hb9).c0;have MG:=LK MF.out hb9;clear hb9 q0 q1 q2)
  all_goals
   go_ret;exact⟨rfl,MG⟩
section
variable {P : Program} {ops : Array Oper} {Q : Exit -> Act -> World -> Prop} {md : Region.Mode} {S : World -> Prop} {late : Nat -> Bool}
theorem bY {i:Nat}{oi:Oper}{v:Value}{fuel:Nat}{listed:Array Bool}{a:Act}{w:World} (hi:ops[i]?=some oi)
  (hs:(Region.noSelect ops&&Region.free md ops listed i&&(Region.ready md ops listed).contains i&&Dy md ops late i)=true)
  (hQ:∀ c a w,Q (.panic c) (a.put oi.dst v) w->Q (.panic c) a w) (hw:Region.wanted oi (yielded ops a.tmps)=true) (hS:S w) (hy:∀ w,S w->(execOp a.eval oi).run P w=.ok (.value v) w)
  (h:df P md ops Q S late fuel (listed.setIfInBounds i true) (a.put oi.dst v) w):df P md ops Q S late (fuel+1) listed a w:=by
 simp only[IR] at hs;obtain⟨⟨⟨h1,h2⟩,h3⟩,h4⟩:=hs;refine gY (S':=S) hi (Region.noSelect_spec h1) hQ (fun j oj w w' hoj hnot hSw hk=>?_) fuel listed a w (Region.free_spec hi h2) (by simpa using h3) (Or.inl ⟨hw,hy⟩) hS h
 cases hl:late j
 ·exact hk hl hSw
 ·obtain⟨e,he,hb,heq⟩:=qf h4 hoj hl;exact absurd heq (hnot e he hb)
theorem a6 {i:Nat}{oi:Oper}{fuel:Nat}{listed:Array Bool}{a:Act}{w:World} (hi:ops[i]?=some oi)
  (hs:(Region.noSelect ops&&Region.free md ops listed i&&(Region.ready md ops listed).contains i)=true)
  (hQ:∀ c a w,Q (.panic c) (a.put oi.dst undef) w->Q (.panic c) a w) (hw:Region.wanted oi (yielded ops a.tmps)=false)
  (h:df P md ops Q S late fuel (listed.setIfInBounds i true) (a.put oi.dst undef) w):df P md ops Q S late (fuel+1) listed a w:=by
 simp only[IR] at hs;obtain⟨⟨h1,h2⟩,h3⟩:=hs;exact gY (S':=fun _=>True) hi (Region.noSelect_spec h1) hQ (fun _ _ _ _ _ _ _ _=>trivial) fuel listed a w (Region.free_spec hi h2) (by simpa using h3) (Or.inr ⟨hw,rfl⟩) trivial h
theorem fL {i:Nat}{oi:Oper}{fuel:Nat}{listed:Array Bool}{a:Act}{w:World} (hi:ops[i]?=some oi) (hr:Region.ready md ops listed=[i]) (hw:Region.wanted oi (yielded ops a.tmps)=true)
  (h:∀ K:Act->World->Prop,(∀ a' w',(late i=false->S w->S w')->df P md ops Q S late fuel (listed.setIfInBounds i true) a' w'->K a' w')->Oper.wp P oi a w K Q):df P md ops Q S late (fuel+1) listed a w:=by
 refine⟨fun h0=>(by rw[hr] at h0;cases h0),fun j hj=>?_⟩;rw[hr] at hj;obtain rfl:j=i:=by simpa using hj
 unfold wpOp;simp only[hi];rw[if_pos hw];exact Or.inl (h _ (fun a' w' h1 h2=>⟨h1,h2⟩))
end
end Go.Proofs.YtlhpcoelfhjomaaGreatDoor
