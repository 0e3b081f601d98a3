/- Lemmas of this claim. -/
import Derived.BigQuiet
import Derived.OrdersHeld
import Derived.Deep.AppendLies
import Derived.Test.YtlkniohhalnjjaaGreatDoorKMach
set_option linter.all false
set_option maxRecDepth 100000
set_option maxHeartbeats 8000000
namespace Go.Proofs.YtlkniohhalnjjaaGreatDoor
open Go.RowKit
structure ay (wa:World) where
 w:World
 h:Below wa.heap.size wa w
instance instBeyond (wa:World):Nonempty (ay wa):=⟨⟨wa,Below.refl _ _⟩⟩
theorem ay.step {wa:World} (x:ay wa) {w':World} (h:Below x.w.heap.size x.w w'):Below wa.heap.size wa w':=x.h.trans (h.mono x.h.size)
theorem ay.cell {wa:World} (x:ay wa) {p:Addr} (hp:p.block<wa.heap.size):x.w.cell? p=wa.cell? p:=x.h.cell hp
theorem ay.calls {P:Program}{f:FuncId}{args:Array Value}{wa:World}{v:Value}{x:ay wa} (h:Calls P f args x.w fun e w'=>e=.returned v∧Below x.w.heap.size x.w w') :
  Calls P f args x.w fun e w''=>e=.returned v∧∃ y:ay wa,w''=y.w :=
 h.mono fun _ _ ⟨he,hb⟩=>⟨he,⟨_,x.step hb⟩,rfl⟩
theorem ai {P:Program}{id:Nat}{Q:Exit→Act→World→Prop}{a:Act}{w:World}{l:List Oper} (hm:P.follows .mixedOrders=true) (hB:Region.lexB .any l.toArray=true)
  (h:wpQuiet P l.toArray (fun w'=>∃ x:ay w,w'=x.w) (fun a'=>∀ w',(∃ x:ay w,w'=x.w)→Q .normal a' w') l a):(Code.region id l.toArray true).wp P Q a w :=
 wp_region_quiet (C:=fun w'=>∃ x:ay w,w'=x.w) hm hB ⟨⟨_,below_drewN (Below.refl _ _) 1⟩,rfl⟩ (by simpa using h)
theorem am {wa:World}{b o:Nat}{v:Value} (h:b<wa.heap.size) (e:wa.cell? ⟨b,o,none⟩=some v):∀ x:ay wa,x.w.cell? ⟨b,o,none⟩=some v:=fun x=>(x.cell (p:=⟨b,o,none⟩) h).trans e
abbrev aM (wa:World) (f:FuncId) (l:Array Value) (v:Value):Prop:=∀ x:ay wa,Calls Tryz.prog f l x.w fun e w''=>e=.returned v∧∃ y:ay wa,w''=y.w
section
variable {P : Program} {ops : Array Oper} {Q : Exit → Act → World → Prop} {md : Region.Mode} {S : World → Prop} {late : Nat → Bool}
def bY (P:Program) (md:Region.Mode) (ops:Array Oper) (Q:Exit→Act→World→Prop) (S:World→Prop) (late:Nat→Bool):Nat→Array Bool→Act→World→Prop
 | 0,listed,a,w=>Region.ready md ops listed=[]∧Q .normal a w
 | fuel+1,listed,a,w=>(Region.ready md ops listed=[]→Q .normal a w) ∧
  ∀ i∈Region.ready md ops listed,wpOp P ops Q i (fun a' w'=>(late i=false→S w→S w')∧bY P md ops Q S late fuel (listed.setIfInBounds i true) a' w') a w
theorem f9:∀ (fuel:Nat) (listed:Array Bool) (a:Act) (w:World),bY P md ops Q S late fuel listed a w→wpAny P md ops Q fuel listed a w
 | 0,_,_,_,h=>h
 | fuel+1,_,_,_,h=>⟨h.1,fun i hi=>wpOp_mono (fun a' w' h'=>f9 fuel _ a' w' h'.2) (h.2 i hi)⟩
def sT (md:Region.Mode) (ops:Array Oper) (late:Nat→Bool) (i:Nat):Bool :=
 (List.range ops.size).all fun j=>!late j||match ops[j]? with | some o=>o.after.any (fun e=>Region.binds md e&&decide (e.on=i)) | none=>true
theorem m5 {i j:Nat}{oj:Oper} (h:sT md ops late i=true) (hj:ops[j]?=some oj) (hl:late j=true):∃ e∈oj.after,Region.binds md e=true∧e.on=i:=by
 have hlt:=(uw.1 hj).1
 have h1:=uM.1 h j (uL.2 hlt)
 rw[hl,hj] at h1
 simp only[Bool.not_true,Bool.false_or] at h1
 obtain⟨n,hn,h2⟩:=Array.any_eq_true.1 h1
 simp only[uz,decide_eq_true_eq] at h2
 exact⟨_,Array.getElem_mem hn,h2.1,h2.2⟩
theorem gZ {S':World→Prop}{i:Nat}{oi:Oper}{v:Value} (hi:ops[i]?=some oi) (hsel:∀ (j:Nat) (o:Oper) cs b,ops[j]?=some o→o.op≠.select cs b)
  (hQ:∀ c a w,Q (.panic c) (a.put oi.dst v) w→Q (.panic c) a w)
  (hk:∀ (j:Nat) (oj:Oper) (w w':World),ops[j]?=some oj→(∀ e∈oj.after,Region.binds md e=true→e.on≠i)→S' w→(late j=false→S w→S w')→S' w') :
  ∀ (fuel:Nat) (listed:Array Bool) (a:Act) (w:World),
   (∀ j oj,ops[j]?=some oj→j≠i→listed.getD j true=false→(∀ e∈oj.after,Region.binds md e=true→e.on≠i)→oi.apart ops oj=true) →
   i∈Region.ready md ops listed→YieldsIf P ops S' oi v a→S' w →
   bY P md ops Q S late fuel (listed.setIfInBounds i true) (a.put oi.dst v) w→bY P md ops Q S late (fuel+1) listed a w:=by
 have own:∀ (listed:Array Bool),i∈Region.ready md ops listed→∀ (j:Nat) (oj:Oper),ops[j]?=some oj→(∀ e∈oj.after,Region.binds md e=true→listed.getD e.on false=true)→∀ e∈oj.after,Region.binds md e=true→e.on≠i:=by
  intro listed hr j oj _ hall e he hb heq
  have h1:=hall e he hb
  have h0:=(mem_ready.1 hr).1
  rw[heq] at h1
  rcases vf i listed.size with h' | h'
  ·simp[h'] at h0 h1;rw[h0] at h1;cases h1
  ·simp[Array.getElem?_eq_none h'] at h1
 intro fuel
 induction fuel with
 | zero =>
  intro listed a w _ hr hy hS H
  refine⟨fun h=>(by rw[h] at hr;cases hr),fun j hj=>?_⟩
  by_cases hji:j=i
  ·subst hji;exact hy.wpOp hi hS ⟨fun _ h=>h,H⟩
  ·have:=ready_mono hj hji
   rw[H.1] at this
   cases this
 | succ fuel ih =>
  intro listed a w hfree hr hy hS H
  refine⟨fun h=>(by rw[h] at hr;cases hr),fun j hj=>?_⟩
  by_cases hji:j=i
  ·subst hji;exact hy.wpOp hi hS ⟨fun _ h=>h,H⟩
  ·have h1:=H.2 j (ready_mono hj hji)
   obtain⟨hjun,oj,hoj,hall⟩:=mem_ready.1 hj
   have hnot:=own listed hr j oj hoj hall
   have h2:=wpOp_putIf hoj (hfree j oj hoj hji hjun hnot) (fun cs b=>hsel i oi cs b hi) (fun cs b=>hsel j oj cs b hoj) hQ hy h1
   refine wpOp_mono (fun a' w' h3=>⟨h3.2.1,ih (listed.setIfInBounds j true) a' w' (fun k ok hk2 hki hun hno=>?_) (ready_mono hr (Ne.symm hji)) h3.1 (hk j oj w w' hoj hnot hS h3.2.1) ?_⟩) h2
   ·refine hfree k ok hk2 hki ?_ hno
    by_cases hjk:j=k
    ·subst hjk;exact hjun
    ·rw[getD_set_ne true hjk] at hun;exact hun
   ·rw[Array.setIfInBounds_comm _ _ hji]
    exact h3.2.2
theorem ak {i:Nat}{oi:Oper}{v:Value}{fuel:Nat}{listed:Array Bool}{a:Act}{w:World} (hi:ops[i]?=some oi)
  (hs:(Region.noSelect ops&&Region.free md ops listed i&&(Region.ready md ops listed).contains i&&sT md ops late i)=true)
  (hQ:∀ c a w,Q (.panic c) (a.put oi.dst v) w→Q (.panic c) a w) (hg:oi.guard=none) (hS:S w) (hy:∀ w,S w→(execOp a.eval oi).run P w=.ok (.value v) w)
  (h:bY P md ops Q S late fuel (listed.setIfInBounds i true) (a.put oi.dst v) w):bY P md ops Q S late (fuel+1) listed a w:=by
 simp only[uz] at hs
 obtain⟨⟨⟨h1,h2⟩,h3⟩,h4⟩:=hs
 refine gZ (S':=S) hi (Region.noSelect_spec h1) hQ (fun j oj w w' hoj hnot hSw hk=>?_) fuel listed a w (Region.free_spec hi h2) (by simpa using h3) (Or.inl ⟨by simp[Region.wanted,hg],hy⟩) hS h
 cases hl:late j
 ·exact hk hl hSw
 ·obtain⟨e,he,hb,heq⟩:=m5 h4 hoj hl
  exact absurd heq (hnot e he hb)
theorem ae {i:Nat}{oi:Oper}{v:Value}{fuel:Nat}{listed:Array Bool}{a:Act}{w:World} (hi:ops[i]?=some oi)
  (hs:(Region.noSelect ops&&Region.free md ops listed i&&(Region.ready md ops listed).contains i)=true)
  (hQ:∀ c a w,Q (.panic c) (a.put oi.dst v) w→Q (.panic c) a w) (hg:oi.guard=none) (hy:∀ w,(execOp a.eval oi).run P w=.ok (.value v) w)
  (h:bY P md ops Q S late fuel (listed.setIfInBounds i true) (a.put oi.dst v) w):bY P md ops Q S late (fuel+1) listed a w:=by
 simp only[uz] at hs
 obtain⟨⟨h1,h2⟩,h3⟩:=hs
 exact gZ (S':=fun _=>True) hi (Region.noSelect_spec h1) hQ (fun _ _ _ _ _ _ _ _=>trivial) fuel listed a w (Region.free_spec hi h2) (by simpa using h3) (Or.inl ⟨by simp[Region.wanted,hg],fun w _=>hy w⟩) trivial h
theorem an {i:Nat}{oi:Oper}{fuel:Nat}{listed:Array Bool}{a:Act}{w:World} (hi:ops[i]?=some oi) (hr:Region.ready md ops listed=[i]) (hg:oi.guard=none)
  (h:∀ K:Act→World→Prop,(∀ a' w',(late i=false→S w→S w')→bY P md ops Q S late fuel (listed.setIfInBounds i true) a' w'→K a' w')→Oper.wp P oi a w K Q):bY P md ops Q S late (fuel+1) listed a w:=by
 refine⟨fun h0=>(by rw[hr] at h0;cases h0),fun j hj=>?_⟩
 rw[hr] at hj
 obtain rfl:j=i:=by simpa using hj
 unfold wpOp
 simp only[hi]
 rw[if_pos (by simp[Region.wanted,hg])]
 exact Or.inl (h _ (fun a' w' h1 h2=>⟨h1,h2⟩))
theorem kV {i i':Nat}{oi oi':Oper}{fuel:Nat}{listed:Array Bool}{a:Act}{w:World} (hi:ops[i]?=some oi) (hi':ops[i']?=some oi') (hr:Region.ready md ops listed=[i,i']) (hg:oi.guard=none) (hg':oi'.guard=none)
  (h:∀ K:Act→World→Prop,(∀ a' w',(late i=false→S w→S w')→bY P md ops Q S late fuel (listed.setIfInBounds i true) a' w'→K a' w')→Oper.wp P oi a w K Q)
  (h':∀ K:Act→World→Prop,(∀ a' w',(late i'=false→S w→S w')→bY P md ops Q S late fuel (listed.setIfInBounds i' true) a' w'→K a' w')→Oper.wp P oi' a w K Q):bY P md ops Q S late (fuel+1) listed a w:=by
 refine⟨fun h0=>(by rw[hr] at h0;cases h0),fun j hj=>?_⟩
 rw[hr] at hj
 simp only[uy,ux,or_false] at hj
 rcases hj with rfl | rfl
 ·unfold wpOp
  simp only[hi]
  rw[if_pos (by simp[Region.wanted,hg])]
  exact Or.inl (h _ (fun a' w' h1 h2=>⟨h1,h2⟩))
 ·unfold wpOp
  simp only[hi']
  rw[if_pos (by simp[Region.wanted,hg'])]
  exact Or.inl (h' _ (fun a' w' h1 h2=>⟨h1,h2⟩))
theorem aW {listed:Array Bool}{a:Act}{w:World} (hr:Region.ready md ops listed=[]) (h:Q .normal a w):∀ fuel,bY P md ops Q S late fuel listed a w
 | 0=>⟨hr,h⟩
 | _+1=>⟨fun _=>h,by rw[hr];simp⟩
theorem ax {id:Nat}{a:Act}{w:World} (S:World→Prop) (late:Nat→Bool) (hm:P.follows .mixedOrders=true)
  (h:bY P .any ops Q S late ops.size (Array.replicate ops.size false) a w.drew):(Code.region id ops true).wp P Q a w :=
 wp_region_any hm (f9 _ _ _ _ h)
end
end Go.Proofs.YtlkniohhalnjjaaGreatDoor
