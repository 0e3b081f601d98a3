/- L -/
import Derived.OrdersHeld
import Derived.Test.YtgakllaobooabaaGreatDoorXReg
import Derived.Test.YtgakllaobooabaaGreatDoorXB
set_option linter.all false
set_option maxRecDepth 100000
set_option maxHeartbeats 8000000
namespace Go.Proofs.YtgakllaobooabaaGreatDoor
open Go.RowKit
section
variable {P : Program} {ops : Array Oper} {md : Region.Mode} {S : World -> Prop} {sq : Nat -> Bool} {Q : Act -> World -> Prop}
def noQ:Exit->Act->World->Prop:=fun _ _ _=>False
def gl:Op->Bool
 | .move _ | .assign _ | .pick _ _ _ | .load _ _ | .binOp _ _ _ _ _ | .unOp _ _ _ | .convert _ _ _ | .slice _ _ _ _ _ | .fieldAddr _ _ _ | .field _ _ _ | .indexAddr _ _ _ | .index _ _ _ | .extract _ _ | .makeFunc _ _ _ | .lookup _ _ _ _ | .makeInterface _ _ | .build _ _=>true
 | .call c=>match c.callee with
  | .builtin .len | .builtin .cap | .builtin .max | .builtin .min=>true
  | _=>false
 | _=>false
theorem jN {α:Type} (s:Sem α) (g:α->Value) (P:Program) (w:World):(∃ v w',((do pure (Next.value (g (<-s)))):Sem Next).run P w=.ok (.value v) w')\/∃ x w',((do pure (Next.value (g (<-s)))):Sem Next).run P w=.halt x w':=by
 rw[Sem.run_bind]
 cases s.run P w with
 | ok v w'=>exact .inl ⟨g v,w',rfl⟩
 | halt x w'=>exact .inr ⟨x,w',rfl⟩
theorem qf {ρ:Operand->Value}{o:Oper} (h:gl o.op=true) (w:World):(∃ v w',(execOp ρ o).run P w=.ok (.value v) w')\/∃ x w',(execOp ρ o).run P w=.halt x w':=by
 unfold execOp
 cases hop:o.op<;>rw[hop] at h<;>first
  | (simp[gl] at h;done)
  | exact .inl ⟨_,_,rfl⟩
  | exact jN _ id _ _
  | exact jN (asBool _) (fun b=>if b=true then _ else _) _ _
  | skip
 rename_i c
 cases hc:c.callee with
 | value f=>simp[gl,hc] at h
 | invoke r n=>simp[gl,hc] at h
 | builtin b =>
  cases b<;>first
   | (simp[gl,hc] at h;done)
   | (simp only[resolve,hc];exact jN _ id _ _)
def g9 (P:Program) (ops:Array Oper) (S:World->Prop) (sq:Nat->Bool) (i:Nat) (K:Act->World->Prop) (a:Act) (w:World):Prop :=
 match ops[i]? with
 | none=>False
 | some o =>
  if Region.wanted o (yielded ops a.tmps)=true then
   if sq i=true then o.wp P a w (fun a' w'=>(∃ v,a'=a.put o.dst v)/\S w'/\K a' w') noQ
   else ∃ v,(∀ w,S w->(execOp a.eval o).run P w=.ok (.value v) w)/\K (a.put o.dst v) w
  else K (a.put o.dst undef) w
def wpX (P:Program) (md:Region.Mode) (ops:Array Oper) (S:World->Prop) (sq:Nat->Bool) (Q:Act->World->Prop):Nat->Array Bool->Act->World->Prop
 | 0,listed,a,w=>Region.ready md ops listed=[]/\Q a w
 | fuel+1,listed,a,w=>(Region.ready md ops listed=[]->Q a w)/\∀ i∈Region.ready md ops listed,g9 P ops S sq i (wpX P md ops S sq Q fuel (listed.setIfInBounds i true)) a w
theorem jw {o:Oper}{a b:Act}{w:World}{K K':Act->World->Prop}{Q':Exit->Act->World->Prop} (he:execOp b.eval o=execOp a.eval o) (h:o.wp P a w K noQ) (hk:∀ v w',K (a.put o.dst v) w'->K' (b.put o.dst v) w') (hd:∀ a' w',K a' w'->∃ v,a'=a.put o.dst v):o.wp P b w K' Q':=by
 unfold Oper.wp at *
 rw[he];generalize (execOp a.eval o).run P w=r at *
 cases r with
 | ok n w' =>
  cases n<;>simp only[Oper.upon] at h |-
  case value u=>exact hk _ _ h
  case skip=>exact hk _ _ h
  case defer d =>
   obtain⟨v,hv⟩:=hd _ _ h;have:=congrArg Act.defers hv
   cases hdst:o.dst<;>simp[Act.put,hdst] at this
  case enter f args =>
   refine Calls.mono h fun e w'' he=>?_
   cases e with
   | returned u=>exact hk _ _ he
   | panicked c=>exact he.elim
   | outgrown=>obtain⟨_,_,h'⟩:=he;exact h'.elim
  case row row args=>exact Rows.mono h fun u w'' he=>hk _ _ he
 | halt x w' =>
  cases x<;>simp only[Oper.upon] at h |-
  case panic u=>exact h.elim
theorem xB {o:Oper}{a:Act}{w:World}{K:Act->World->Prop} (h:o.wp P a w K noQ):∃ a' w',K a' w':=by
 unfold Oper.wp at h;generalize (execOp a.eval o).run P w=r at *
 cases r with
 | ok n w' =>
  cases n<;>simp only[Oper.upon] at h
  case value u=>exact⟨_,_,h⟩
  case skip=>exact⟨_,_,h⟩
  case defer d=>exact⟨_,_,h⟩
  case enter f args =>
   obtain⟨e,w',fr,he,-⟩:=h []
   cases e with
   | returned u=>exact⟨_,_,he⟩
   | panicked c=>exact he.elim
   | outgrown=>obtain⟨_,_,h'⟩:=he;exact h'.elim
  case row row args =>
   obtain⟨v,w',he,-⟩:=h default [];exact⟨_,_,he⟩
 | halt x w' =>
  cases x<;>simp only[Oper.upon] at h
  case panic u=>exact h.elim
theorem uo {i:Nat}{a:Act}{w:World}{K K':Act->World->Prop}{Q':Exit->Act->World->Prop} (hS:S w) (h:∀ a w,S w->K a w->K' a w) (hh:g9 P ops S sq i K a w):wpOp P ops Q' i K' a w:=by
 unfold g9 at hh;unfold wpOp
 cases ho:ops[i]? with
 | none=>simp only[ho] at hh
 | some o =>
  simp only[ho] at hh |-
  split
  ·rename_i hw
   rw[if_pos hw] at hh;refine .inl ?_
   split at hh
   ·exact jw rfl hh (fun v w' h'=>h _ _ h'.2.1 h'.2.2) (fun a' w' h'=>h'.1)
   ·obtain⟨v,h1,h2⟩:=hh;unfold Oper.wp;rw[h1 w hS];exact h _ _ hS h2
  ·rename_i hw
   rw[if_neg hw] at hh;exact h _ _ hS hh
theorem lH {Q':Exit->Act->World->Prop} (hQ:∀ a w,Q a w->Q' .normal a w):∀ (fuel:Nat) (listed:Array Bool) (a:Act) (w:World),S w->wpX P md ops S sq Q fuel listed a w->wpAny P md ops Q' fuel listed a w
 | 0,_,_,_,_,h=>⟨h.1,hQ _ _ h.2⟩
 | fuel+1,_,_,_,hS,h=>⟨fun h0=>hQ _ _ (h.1 h0),fun i hi=>uo hS (fun a' w' hS' h'=>lH hQ fuel _ a' w' hS' h') (h.2 i hi)⟩
def fS (P:Program) (ops:Array Oper) (S:World->Prop) (sq:Nat->Bool) (i:Nat) (o:Oper) (v:Value) (a:Act):Prop :=
 (Region.wanted o (yielded ops a.tmps)=true/\sq i=false/\∀ w,S w->(execOp a.eval o).run P w=.ok (.value v) w)\/(Region.wanted o (yielded ops a.tmps)=false/\v=undef)
theorem fS.of_same {i:Nat}{o:Oper}{v:Value}{a a':Act} (hy:fS P ops S sq i o v a) (he:execOp a'.eval o=execOp a.eval o) (hw:Region.wanted o (yielded ops a'.tmps)=Region.wanted o (yielded ops a.tmps)):fS P ops S sq i o v a':=by
 unfold fS at *
 rw[he,hw];exact hy
theorem fS.op {i:Nat}{o:Oper}{v:Value}{a:Act}{w:World}{K:Act->World->Prop} (hi:ops[i]?=some o) (hy:fS P ops S sq i o v a) (h:K (a.put o.dst v) w):g9 P ops S sq i K a w:=by
 unfold g9;simp only[hi];rcases hy with ⟨h1,h2,h3⟩ | ⟨h1,rfl⟩
 ·rw[if_pos h1,if_neg (by rw[h2];decide)];exact⟨v,h3,h⟩
 ·rw[if_neg (by rw[h1];decide)];exact h
theorem mL {i j:Nat}{oj:Oper}{listed:Array Bool} (hr:i∈Region.ready md ops listed) (hall:∀ e∈oj.after,Region.binds md e=true->listed.getD e.on false=true):∀ e∈oj.after,Region.binds md e=true->e.on≠i:=by
 intro e he hb heq;have h1:=hall e he hb;have h0:=(mem_ready.1 hr).1;rw[heq] at h1;rcases BK i listed.size with h' | h'
 ·simp[h'] at h0 h1;rw[h0] at h1;cases h1
 ·simp[Cq h'] at h1
theorem sL {i:Nat}{oi:Oper}{v:Value} (hi:ops[i]?=some oi) (hsel:∀ (j:Nat) (o:Oper) cs b,ops[j]?=some o->o.op≠.select cs b) :
  ∀ (fuel:Nat) (listed:Array Bool) (a:Act) (w:World),
   (∀ j oj,ops[j]?=some oj->j≠i->listed.getD j true=false->(∀ e∈oj.after,Region.binds md e=true->e.on≠i)->oi.apart ops oj=true) ->
   i∈Region.ready md ops listed->fS P ops S sq i oi v a ->
   wpX P md ops S sq Q fuel (listed.setIfInBounds i true) (a.put oi.dst v) w->wpX P md ops S sq Q (fuel+1) listed a w:=by
 intro fuel
 induction fuel with
 | zero =>
  intro listed a w _ hr hy H;refine⟨fun h=>(by rw[h] at hr;cases hr),fun j hj=>?_⟩;by_cases hji:j=i
  ·subst hji;exact hy.op hi H
  ·have:=ready_mono hj hji;rw[H.1] at this
   cases this
 | succ fuel ih =>
  intro listed a w hfree hr hy H;refine⟨fun h=>(by rw[h] at hr;cases hr),fun j hj=>?_⟩;by_cases hji:j=i
  ·subst hji;exact hy.op hi H
  ·have hX:=H.2 j (ready_mono hj hji);obtain⟨hjun,oj,hoj,hall⟩:=mem_ready.1 hj;have hnot:=mL (j:=j) hr hall;obtain⟨h1,h2,h3⟩:=Oper.apart_spec (hfree j oj hoj hji hjun hnot)
   have hfree':∀ k ok,ops[k]?=some ok->k≠i->(listed.setIfInBounds j true).getD k true=false->(∀ e∈ok.after,Region.binds md e=true->e.on≠i)->oi.apart ops ok=true:=fun k ok hk hki hun hno=>by
    refine hfree k ok hk hki ?_ hno;by_cases hjk:j=k
    ·subst hjk;exact hjun
    ·rw[getD_set_ne true hjk] at hun;exact hun
   have on:∀ u w',wpX P md ops S sq Q fuel ((listed.setIfInBounds i true).setIfInBounds j true) ((a.put oi.dst v).put oj.dst u) w'->wpX P md ops S sq Q (fuel+1) (listed.setIfInBounds j true) (a.put oj.dst u) w':=fun u w' h=>by
    refine ih (listed.setIfInBounds j true) (a.put oj.dst u) w' hfree' (ready_mono hr (Ne.symm hji)) (hy.of_same (execOp_put oi (fun cs b=>hsel i oi cs b hi) a oj.dst u h3) (wanted_put oi a oj.dst u h3)) ?_;rw[Cg _ _ hji,<-Act.put_comm a v u h2];exact h
   have he:=execOp_put oj (fun cs b=>hsel j oj cs b hoj) a oi.dst v h1;unfold g9 at hX |-;simp only[hoj] at hX |-;rw[wanted_put oj a oi.dst v h1] at hX
   split
   ·rename_i hw
    rw[if_pos hw] at hX
    split
    ·rename_i hs
     rw[if_pos hs] at hX;exact jw he.symm hX (fun u w' h'=>⟨⟨u,rfl⟩,h'.2.1,on u w' h'.2.2⟩) (fun a' w' h'=>h'.1)
    ·rename_i hs
     rw[if_neg hs] at hX;obtain⟨u,hu,h'⟩:=hX;rw[he] at hu;exact⟨u,hu,on u w h'⟩
   ·rename_i hw
    rw[if_neg hw] at hX;exact on _ w hX
def rF (md:Region.Mode) (ops:Array Oper) (sq:Nat->Bool) (k:Nat):Prop :=
 ∀ j oj,ops[j]?=some oj->sq j=true->k<j->∃ e∈oj.after,Region.binds md e=true/\(e.on=k\/(k<e.on/\e.on<ops.size/\sq e.on=true))
theorem yN {k:Nat}{ok:Oper} (hk:ops[k]?=some ok) (hsel:∀ (j:Nat) (o:Oper) cs b,ops[j]?=some o->o.op≠.select cs b) (hs:sq k=true) (hc:rF md ops sq k) :
  ∀ (fuel:Nat) (listed:Array Bool) (a:Act) (w:World),
   (∀ j oj,ops[j]?=some oj->j≠k->listed.getD j true=false->(∀ e∈oj.after,Region.binds md e=true->e.on≠k)->ok.apart ops oj=true) ->
   (∀ j,j<k->listed.getD j true=true)->(∀ j,k<j->j<ops.size->sq j=true->listed.getD j true=false) ->
   k∈Region.ready md ops listed->Region.wanted ok (yielded ops a.tmps)=true->S w ->
   ok.wp P a w (fun a' w'=>(∃ v,a'=a.put ok.dst v)/\S w'/\wpX P md ops S sq Q fuel (listed.setIfInBounds k true) a' w') noQ ->
   wpX P md ops S sq Q (fuel+1) listed a w:=by
 intro fuel
 induction fuel with
 | zero =>
  intro listed a w _ _ _ hr hw _ H;refine⟨fun h=>(by rw[h] at hr;cases hr),fun j hj=>?_⟩;by_cases hjk:j=k
  ·subst hjk;unfold g9;simp only[hk];rw[if_pos hw,if_pos hs];exact H
  ·obtain⟨a',w',-,-,hX⟩:=xB H;have:=ready_mono hj hjk;rw[hX.1] at this
   cases this
 | succ fuel ih =>
  intro listed a w hfree hpre hlat hr hw hS H;refine⟨fun h=>(by rw[h] at hr;cases hr),fun j hj=>?_⟩;by_cases hjk:j=k
  ·subst hjk;unfold g9;simp only[hk];rw[if_pos hw,if_pos hs];exact H
  ·obtain⟨hjun,oj,hoj,hall⟩:=mem_ready.1 hj;have hkun:=(mem_ready.1 hr).1
   have both:∀ i,listed.getD i true=false->listed.getD i false=false:=fun i h=>by
    rcases BK i listed.size with h' | h'
    ·simp[h'] at h |-;exact h
    ·simp[Cq h'] at h
   have hsj:¬ sq j=true:=fun hsj=>by
    rcases Nat.lt_or_gt_of_ne hjk with h | h
    ·rw[hpre j h] at hjun;cases hjun
    ·obtain⟨e,he,hb,h'⟩:=hc j oj hoj hsj h;have h1:=hall e he hb;rcases h' with h' | ⟨h2,h3,h4⟩
     ·rw[h',both k hkun] at h1;cases h1
     ·rw[both _ (hlat _ h2 h3 h4)] at h1;cases h1
   have hnot:=mL (j:=j) hr hall;obtain⟨h1,h2,h3⟩:=Oper.apart_spec (hfree j oj hoj hjk hjun hnot)
   have hfree':∀ i oi,ops[i]?=some oi->i≠k->(listed.setIfInBounds j true).getD i true=false->(∀ e∈oi.after,Region.binds md e=true->e.on≠k)->ok.apart ops oi=true:=fun i oi hi hik hun hno=>by
    refine hfree i oi hi hik ?_ hno;by_cases hji:j=i
    ·subst hji;exact hjun
    ·rw[getD_set_ne true hji] at hun;exact hun
   have he:=fun v=>execOp_put oj (fun cs b=>hsel j oj cs b hoj) a ok.dst v h1;have hx:=fun u=>execOp_put ok (fun cs b=>hsel k ok cs b hk) a oj.dst u h3
   have hkj:∀ j',k<j'->j'<ops.size->sq j'=true->(listed.setIfInBounds j true).getD j' true=false:=fun j' h4 h5 h6=>by
    rw[getD_set_ne true (fun h=>hsj (by rw[h];exact h6))];exact hlat j' h4 h5 h6
   have hpre':∀ j',j'<k->(listed.setIfInBounds j true).getD j' true=true:=fun j' h4=>by
    by_cases hjj:j=j'
    ·subst hjj;rw[hpre j h4] at hjun;cases hjun
    ·rw[getD_set_ne true hjj];exact hpre j' h4
   obtain⟨a',w',⟨v,rfl⟩,hS',hX⟩:=xB H;have hXj:=hX.2 j (ready_mono hj hjk);unfold g9 at hXj |-;simp only[hoj] at hXj |-;rw[wanted_put oj a ok.dst v h1,if_neg hsj] at hXj;by_cases hwj:Region.wanted oj (yielded ops a.tmps)=true
   ·rw[if_pos hwj] at hXj;rw[if_pos hwj,if_neg hsj];obtain⟨u,hu,-⟩:=hXj;rw[he v] at hu;refine⟨u,hu,ih (listed.setIfInBounds j true) (a.put oj.dst u) w hfree' hpre' hkj (ready_mono hr (Ne.symm hjk)) (by rw[wanted_put ok a oj.dst u h3];exact hw) hS ?_⟩;refine jw (hx u) H (fun v' w'' hv=>⟨⟨v',rfl⟩,hv.2.1,?_⟩) (fun _ _ h=>h.1);have hXj':=hv.2.2.2 j (ready_mono hj hjk);unfold g9 at hXj';simp only[hoj] at hXj';rw[wanted_put oj a ok.dst v' h1,if_pos hwj,if_neg hsj,he v'] at hXj';obtain⟨u',hu',hX'⟩:=hXj'
    obtain rfl:u'=u:=by
     have e1:=hu w'' hv.2.1;rw[hu' w'' hv.2.1] at e1;simpa using e1
    rw[Cg _ _ hjk,<-Act.put_comm a v' u' h2];exact hX'
   ·rw[if_neg hwj];refine ih (listed.setIfInBounds j true) (a.put oj.dst undef) w hfree' hpre' hkj (ready_mono hr (Ne.symm hjk)) (by rw[wanted_put ok a oj.dst undef h3];exact hw) hS ?_;refine jw (hx undef) H (fun v' w'' hv=>⟨⟨v',rfl⟩,hv.2.1,?_⟩) (fun _ _ h=>h.1);have hXj':=hv.2.2.2 j (ready_mono hj hjk);unfold g9 at hXj';simp only[hoj] at hXj';rw[wanted_put oj a ok.dst v' h1,if_neg hwj] at hXj';rw[Cg _ _ hjk,<-Act.put_comm a v' undef h2];exact hXj'
def eV (P:Program) (ops:Array Oper) (S:World->Prop) (sq:Nat->Bool) (Q:Act->World->Prop):Nat->List Oper->Act->World->Prop
 | _,[],a,w=>Q a w
 | k,o :: rest,a,w =>
  if Region.wanted o (yielded ops a.tmps)=true then
   if sq k=true then o.wp P a w (fun a' w'=>(∃ v,a'=a.put o.dst v)/\S w'/\eV P ops S sq Q (k+1) rest a' w') noQ
   else o.quiet P a S (fun a'=>eV P ops S sq Q (k+1) rest a' w)
  else eV P ops S sq Q (k+1) rest (a.put o.dst undef) w
def yw (md:Region.Mode) (ops:Array Oper) (sq:Nat->Bool):Bool :=
 (List.range ops.size).all fun k=>match ops[k]? with
  | none=>true
  | some o=>if sq k then (List.range ops.size).all (fun j=>match ops[j]? with
    | none=>true
    | some oj=>!sq j||j<=k||oj.after.any (fun e=>Region.binds md e&&(e.on == k||(k<e.on&&e.on<ops.size&&sq e.on)))) else gl o.op
theorem ra (h:yw md ops sq=true) {k:Nat}{o:Oper} (hk:ops[k]?=some o) (hs:sq k=true):rF md ops sq k:=by
 intro j oj hj hsj hlt;have h1:=A5.1 h k (BM.2 (AE.1 hk).1);simp only[hk,hs,if_true] at h1;have h2:=A5.1 h1 j (BM.2 (AE.1 hj).1);simp only[hj,hsj,Bool.not_true,Bool.false_or,Bool.or_eq_true,decide_eq_true_eq] at h2;rcases h2 with h2 | h2
 ·omega
 ·obtain⟨e,he,hb⟩:=Array.any_eq_true'.1 h2;simp only[AV,Bool.or_eq_true,beq_iff_eq,decide_eq_true_eq] at hb;exact⟨e,he,hb.1,hb.2.imp id fun h=>⟨h.1.1,h.1.2,h.2⟩⟩
theorem rb (h:yw md ops sq=true) {k:Nat}{o:Oper} (hk:ops[k]?=some o) (hs:sq k=false):gl o.op=true:=by
 have h1:=A5.1 h k (BM.2 (AE.1 hk).1);simpa[hk,hs] using h1
theorem sK (hsel:Region.noSelect ops=true) (hB:yw md ops sq=true):∀ (l:List Oper) (k:Nat) (listed:Array Bool) (a:Act) (w:World),(∀ j,l[j]?=ops[k+j]?)->Region.lexFrom md ops l.length k listed=true ->
  (∀ j,j<k->listed.getD j true=true)->(∀ j,k<=j->j<ops.size->listed.getD j true=false)->S w->eV P ops S sq Q k l a w->wpX P md ops S sq Q l.length listed a w
 | [],_,_,_,_,_,hL,_,_,_,h=>⟨by simpa[Region.lexFrom] using hL,h⟩
 | o :: l,k,listed,a,w,hl,hL,hpre,hlat,hS,h=>by
  have h0:ops[k]?=some o:=by simpa using (hl 0).symm
  have hl':∀ j,l[j]?=ops[k+1+j]?:=fun j=>by have:=hl (j+1);simpa[Cb,CZ 1 j] using this
  simp only[A2,Region.lexFrom,AV] at hL;obtain⟨⟨hr,hf⟩,hL'⟩:=hL;have hr':k∈Region.ready md ops listed:=by simpa using hr
  have hpre':∀ j,j<k+1->(listed.setIfInBounds k true).getD j true=true:=fun j hj=>by
   by_cases hjk:k=j
   ·subst hjk;rcases BK k listed.size with h' | h'
    ·simp[h']
    ·simp[h']
   ·rw[getD_set_ne true hjk];exact hpre j (by omega)
  have hlat':∀ j,k+1<=j->j<ops.size->(listed.setIfInBounds k true).getD j true=false:=fun j hj hj'=>by
   rw[getD_set_ne true (by omega)];exact hlat j (by omega) hj'
  have on:=fun a' w' hS' h'=>sK hsel hB l (k+1) (listed.setIfInBounds k true) a' w' hl' hL' hpre' hlat' hS' h';unfold eV at h;by_cases hw:Region.wanted o (yielded ops a.tmps)=true
  ·rw[if_pos hw] at h;by_cases hs:sq k=true
   ·rw[if_pos hs] at h;refine yN h0 (Region.noSelect_spec hsel) hs (ra hB h0 hs) l.length listed a w (Region.free_spec h0 hf) hpre (fun j h1 h2 _=>hlat j (by omega) h2) hr' hw hS ?_;exact jw rfl h (fun v w' h'=>⟨h'.1,h'.2.1,on _ _ h'.2.1 h'.2.2⟩) (fun _ _ h=>h.1)
   ·rw[if_neg hs] at h;obtain⟨v,hv,h'⟩:=h;refine sL h0 (Region.noSelect_spec hsel) l.length listed a w (Region.free_spec h0 hf) hr' (v:=v) (.inl ⟨hw,by simpa using hs,fun w1 hS1=>?_⟩) (on _ _ hS h');have h1:=hv w1 hS1;unfold Oper.quietAt at h1;rcases qf (P:=P) (ρ:=a.eval) (rb hB h0 (by simpa using hs)) w1 with ⟨u,w2,h2⟩ | ⟨x,w2,h2⟩
    ·rw[h2] at h1 |-;simp only[Oper.quietUpon] at h1;rw[h1.1,h1.2]
    ·rw[h2] at h1;simp only[Oper.quietUpon] at h1
  ·rw[if_neg hw] at h;exact sL h0 (Region.noSelect_spec hsel) l.length listed a w (Region.free_spec h0 hf) hr' (v:=undef) (.inr ⟨by simpa using hw,rfl⟩) (on _ _ hS h)
theorem ai {id:Nat}{Q':Exit->Act->World->Prop}{a:Act}{w:World}{l:List Oper} (S:World->Prop) (sq:Nat->Bool) (hm:P.follows .mixedOrders=true) (hB:(Region.lexB .any l.toArray&&yw .any l.toArray sq)=true) (hS:S w.drew)
  (h:eV P l.toArray S sq (fun a' w'=>Q' .normal a' w') 0 l a w.drew):(Code.region id l.toArray true).wp P Q' a w:=by
 simp only[AV,Region.lexB] at hB;obtain⟨⟨h1,h2⟩,h3⟩:=hB;refine wp_region_any hm (lH (S:=S) (sq:=sq) (Q:=fun a' w'=>Q' .normal a' w') (fun _ _ h=>h) _ _ _ _ hS ?_);have:=sK (md:=.any) h1 h3 l 0 (Array.replicate l.toArray.size false) a w.drew (by simp) (by simpa using h2) (fun _ h=>absurd h (by omega)) (fun j _ hj=>by simp at hj;simp[hj]) hS h;simpa using this
theorem av {k:Nat}{a:Act}{w:World} (h:Q a w):eV P ops S sq Q k [] a w:=h
theorem af {k:Nat}{o:Oper}{rest:List Oper}{a:Act}{w:World} (hs:sq k=true) (hw:Region.wanted o (yielded ops a.tmps)=true)
  (h:∀ K:Act->World->Prop,(∀ v w',S w'->eV P ops S sq Q (k+1) rest (a.put o.dst v) w'->K (a.put o.dst v) w')->o.wp P a w K noQ):eV P ops S sq Q k (o :: rest) a w:=by
 unfold eV;rw[if_pos hw,if_pos hs];exact h _ fun v w' h1 h2=>⟨⟨v,rfl⟩,h1,h2⟩
theorem ae:∀ (n k:Nat) (l:List Oper) (a:Act) (w:World),(List.range n).all (fun i=>!sq (k+i))=true->wpQuiet P ops S (fun a'=>eV P ops S sq Q (k+n) (l.drop n) a' w) (l.take n) a->eV P ops S sq Q k l a w
 | 0,_,_,_,_,_,h=>h
 | n+1,k,[],a,w,_,h=>by simpa[wpQuiet,eV] using h
 | n+1,k,o :: l,a,w,hn,h=>by
  have hn':(List.range n).all (fun i=>!sq (k+1+i))=true:=A5.2 fun i hi=>by
   have:=A5.1 hn (i+1) (BM.2 (by have:=BM.1 hi;omega))
   rwa [show k+(i+1)=k+1+i by omega] at this
  have h0:sq k=false:=by simpa using A5.1 hn 0 (BM.2 (by omega))
  have on:=fun a' (h':wpQuiet P ops S (fun a'=>eV P ops S sq Q (k+1+n) (l.drop n) a' w) (l.take n) a')=>ae n (k+1) l a' w hn' h';rw[show k+(n+1)=k+1+n by omega] at h;simp only[AC,AB,wpQuiet] at h;unfold eV;by_cases hw:Region.wanted o (yielded ops a.tmps)=true
  ·rw[if_pos hw] at h |-;rw[if_neg (by rw[h0];decide)];exact Oper.quiet_mono on h
  ·rw[if_neg hw] at h |-;exact on _ h
end
structure ax (B:Nat) (wa:World) where
 w:World
 h:Below B wa w
instance instPast (B:Nat) (wa:World):Nonempty (ax B wa):=⟨⟨wa,Dv _ _⟩⟩
open Go.RowKit
structure Bx (w:World) (k:Nat) (l:List Value) (T:TypeId):Prop where
 hp:w.heap[k]?=some (.cells l.toArray T (0,0))
 nu:∀ v∈l,∀ z,v≠.int .u64 z
theorem Bx.lt {w:World}{k:Nat}{l:List Value}{T:TypeId} (h:Bx w k l T):k<w.heap.size:=(AE.1 h.hp).1
theorem Bx.cell {w:World}{k:Nat}{l:List Value}{T:TypeId} (h:Bx w k l T) (j:Nat):w.cell? ⟨k,j,none⟩=l[j]?:=by
 rw[World.cell?,h.hp];simp
theorem Bx.fr {w:World}{k:Nat}{l:List Value}{T:TypeId} (h:Bx w k l T) (j:Nat):w.frozen? ⟨k,j,none⟩=false:=by
 rw[World.frozen?,h.hp];simp
theorem Bx.below {w w':World}{k:Nat}{l:List Value}{T:TypeId} (h:Bx w k l T) {B:Nat} (hb:Below B w w') (hk:k<B):Bx w' k l T :=
 ⟨by rw[hb.block k hk];exact h.hp,h.nu⟩
theorem Bx.new (w:World) (l:List Value) (T:TypeId) (nu:∀ v∈l,∀ z,v≠.int .u64 z):Bx (w.alloc (.cells l.toArray T)) w.heap.size l T:=⟨heap_alloc_new w _,nu⟩
theorem Bx.set {w:World}{k:Nat}{l:List Value}{T:TypeId} (h:Bx w k l T) (j:Nat) (v:Value) (hv:∀ z,v≠.int .u64 z):Bx (w.setCell ⟨k,j,none⟩ v) k (l.set j v) T:=by
 refine⟨?_,fun u hu z=>?_⟩
 ·simp[World.setCell,Array.getElem?_modify,h.hp]
 ·rcases Ce hu with h' | rfl
  ·exact h.nu u h' z
  ·exact hv z
theorem size_alloc (w:World) (o:Obj):(w.alloc o).heap.size=w.heap.size+1:=by show (Array.push _ _).size=_;exact A7 _
theorem ac (w:World) (o:Obj):Below w.heap.size w (w.alloc o):=(Dv _ _).alloc (AA _) _
end Go.Proofs.YtgakllaobooabaaGreatDoor
