/- L -/
import Derived.OrdersHeld
import Derived.Test.YtlhpcoelfhjomaaGreatDoorQReg
import Derived.Test.YtlhpcoelfhjomaaGreatDoorQNVal1
set_option linter.all false
set_option maxRecDepth 100000
set_option maxHeartbeats 8000000
namespace Go.Proofs.YtlhpcoelfhjomaaGreatDoor
open Go.RowKit
section
variable {P : Program} {ops : Array Oper} {md : Region.Mode} {S : World -> Prop} {sq : Nat -> Bool} {Q : Act -> World -> Prop}
def noQ:Exit->Act->World->Prop:=fun _ _ _=>False
def jS:Op->Bool
 | .move _ | .assign _ | .pick _ _ _ | .load _ _ | .binOp _ _ _ _ _ | .unOp _ _ _ | .convert _ _ _ | .slice _ _ _ _ _ | .fieldAddr _ _ _ | .field _ _ _ | .indexAddr _ _ _ | .index _ _ _ | .extract _ _ | .makeFunc _ _ _ | .lookup _ _ _ _ | .makeInterface _ _ | .build _ _=>true
 | .call c=>match c.callee with
  | .builtin .len | .builtin .cap | .builtin .max | .builtin .min=>true
  | _=>false
 | _=>false
theorem nG {α:Type} (s:Sem α) (g:α->Value) (P:Program) (w:World):(∃ v w',((do pure (Next.value (g (<-s)))):Sem Next).run P w=.ok (.value v) w')\/∃ x w',((do pure (Next.value (g (<-s)))):Sem Next).run P w=.halt x w':=by
 rw[Sem.run_bind]
 cases s.run P w with
 | ok v w'=>exact .inl ⟨g v,w',rfl⟩
 | halt x w'=>exact .inr ⟨x,w',rfl⟩
theorem xx {ρ:Operand->Value}{o:Oper} (h:jS o.op=true) (w:World):(∃ v w',(execOp ρ o).run P w=.ok (.value v) w')\/∃ x w',(execOp ρ o).run P w=.halt x w':=by
 unfold execOp
 cases hop:o.op<;>rw[hop] at h<;>first
  | (simp[jS] at h;done)
  | exact .inl ⟨_,_,rfl⟩
  | exact nG _ id _ _
  | exact nG (asBool _) (fun b=>if b=true then _ else _) _ _
  | skip
 rename_i c
 cases hc:c.callee with
 | value f=>simp[jS,hc] at h
 | invoke r n=>simp[jS,hc] at h
 | builtin b =>
  cases b<;>first
   | (simp[jS,hc] at h;done)
   | (simp only[resolve,hc];exact nG _ id _ _)
def kK (P:Program) (ops:Array Oper) (S:World->Prop) (sq:Nat->Bool) (i:Nat) (K:Act->World->Prop) (a:Act) (w:World):Prop :=
 match ops[i]? with
 | none=>False
 | some o =>
  if Region.wanted o (yielded ops a.tmps)=true then
   if sq i=true then o.wp P a w (fun a' w'=>(∃ v,a'=a.put o.dst v)/\S w'/\K a' w') noQ
   else ∃ v,(∀ w,S w->(execOp a.eval o).run P w=.ok (.value v) w)/\K (a.put o.dst v) w
  else K (a.put o.dst undef) w
def wpX (P:Program) (md:Region.Mode) (ops:Array Oper) (S:World->Prop) (sq:Nat->Bool) (Q:Act->World->Prop):Nat->Array Bool->Act->World->Prop
 | 0,listed,a,w=>Region.ready md ops listed=[]/\Q a w
 | fuel+1,listed,a,w=>(Region.ready md ops listed=[]->Q a w)/\∀ i∈Region.ready md ops listed,kK P ops S sq i (wpX P md ops S sq Q fuel (listed.setIfInBounds i true)) a w
theorem m7 {o:Oper}{a b:Act}{w:World}{K K':Act->World->Prop}{Q':Exit->Act->World->Prop} (he:execOp b.eval o=execOp a.eval o) (h:o.wp P a w K noQ) (hk:∀ v w',K (a.put o.dst v) w'->K' (b.put o.dst v) w') (hd:∀ a' w',K a' w'->∃ v,a'=a.put o.dst v):o.wp P b w K' Q':=by
 unfold Oper.wp at *
 rw[he];generalize (execOp a.eval o).run P w=r at *
 cases r with
 | ok n w' =>
  cases n<;>simp only[Oper.upon] at h |-
  case value u=>exact hk _ _ h
  case skip=>exact hk _ _ h
  case defer d =>
   obtain⟨v,hv⟩:=hd _ _ h;have:=congrArg Act.defers hv
   cases hdst:o.dst<;>simp[Act.put,hdst] at this
  case enter f args =>
   refine Calls.mono h fun e w'' he=>?_
   cases e with
   | returned u=>exact hk _ _ he
   | panicked c=>exact he.elim
   | outgrown=>obtain⟨_,_,h'⟩:=he;exact h'.elim
  case row row args=>exact Rows.mono h fun u w'' he=>hk _ _ he
 | halt x w' =>
  cases x<;>simp only[Oper.upon] at h |-
  case panic u=>exact h.elim
theorem EU {o:Oper}{a:Act}{w:World}{K:Act->World->Prop} (h:o.wp P a w K noQ):∃ a' w',K a' w':=by
 unfold Oper.wp at h;generalize (execOp a.eval o).run P w=r at *
 cases r with
 | ok n w' =>
  cases n<;>simp only[Oper.upon] at h
  case value u=>exact⟨_,_,h⟩
  case skip=>exact⟨_,_,h⟩
  case defer d=>exact⟨_,_,h⟩
  case enter f args =>
   obtain⟨e,w',fr,he,-⟩:=h []
   cases e with
   | returned u=>exact⟨_,_,he⟩
   | panicked c=>exact he.elim
   | outgrown=>obtain⟨_,_,h'⟩:=he;exact h'.elim
  case row row args =>
   obtain⟨v,w',he,-⟩:=h default [];exact⟨_,_,he⟩
 | halt x w' =>
  cases x<;>simp only[Oper.upon] at h
  case panic u=>exact h.elim
theorem Ca {i:Nat}{a:Act}{w:World}{K K':Act->World->Prop}{Q':Exit->Act->World->Prop} (hS:S w) (h:∀ a w,S w->K a w->K' a w) (hh:kK P ops S sq i K a w):wpOp P ops Q' i K' a w:=by
 unfold kK at hh;unfold wpOp
 cases ho:ops[i]? with
 | none=>simp only[ho] at hh
 | some o =>
  simp only[ho] at hh |-
  split
  ·rename_i hw
   rw[if_pos hw] at hh;refine .inl ?_
   split at hh
   ·exact m7 rfl hh (fun v w' h'=>h _ _ h'.2.1 h'.2.2) (fun a' w' h'=>h'.1)
   ·obtain⟨v,h1,h2⟩:=hh;unfold Oper.wp;rw[h1 w hS];exact h _ _ hS h2
  ·rename_i hw
   rw[if_neg hw] at hh;exact h _ _ hS hh
theorem rz {Q':Exit->Act->World->Prop} (hQ:∀ a w,Q a w->Q' .normal a w):∀ (fuel:Nat) (listed:Array Bool) (a:Act) (w:World),S w->wpX P md ops S sq Q fuel listed a w->wpAny P md ops Q' fuel listed a w
 | 0,_,_,_,_,h=>⟨h.1,hQ _ _ h.2⟩
 | fuel+1,_,_,_,hS,h=>⟨fun h0=>hQ _ _ (h.1 h0),fun i hi=>Ca hS (fun a' w' hS' h'=>rz hQ fuel _ a' w' hS' h') (h.2 i hi)⟩
def jx (P:Program) (ops:Array Oper) (S:World->Prop) (sq:Nat->Bool) (i:Nat) (o:Oper) (v:Value) (a:Act):Prop :=
 (Region.wanted o (yielded ops a.tmps)=true/\sq i=false/\∀ w,S w->(execOp a.eval o).run P w=.ok (.value v) w)\/(Region.wanted o (yielded ops a.tmps)=false/\v=undef)
theorem jx.of_same {i:Nat}{o:Oper}{v:Value}{a a':Act} (hy:jx P ops S sq i o v a) (he:execOp a'.eval o=execOp a.eval o) (hw:Region.wanted o (yielded ops a'.tmps)=Region.wanted o (yielded ops a.tmps)):jx P ops S sq i o v a':=by
 unfold jx at *
 rw[he,hw];exact hy
theorem jx.op {i:Nat}{o:Oper}{v:Value}{a:Act}{w:World}{K:Act->World->Prop} (hi:ops[i]?=some o) (hy:jx P ops S sq i o v a) (h:K (a.put o.dst v) w):kK P ops S sq i K a w:=by
 unfold kK;simp only[hi];rcases hy with ⟨h1,h2,h3⟩ | ⟨h1,rfl⟩
 ·rw[if_pos h1,if_neg (by rw[h2];decide)];exact⟨v,h3,h⟩
 ·rw[if_neg (by rw[h1];decide)];exact h
theorem sQ {i j:Nat}{oj:Oper}{listed:Array Bool} (hr:i∈Region.ready md ops listed) (hall:∀ e∈oj.after,Region.binds md e=true->listed.getD e.on false=true):∀ e∈oj.after,Region.binds md e=true->e.on≠i:=by
 intro e he hb heq;have h1:=hall e he hb;have h0:=(mem_ready.1 hr).1;rw[heq] at h1;rcases JD i listed.size with h' | h'
 ·simp[h'] at h0 h1;rw[h0] at h1;cases h1
 ·simp[Km h'] at h1
theorem Ax {i:Nat}{oi:Oper}{v:Value} (hi:ops[i]?=some oi) (hsel:∀ (j:Nat) (o:Oper) cs b,ops[j]?=some o->o.op≠.select cs b) :
  ∀ (fuel:Nat) (listed:Array Bool) (a:Act) (w:World),
   (∀ j oj,ops[j]?=some oj->j≠i->listed.getD j true=false->(∀ e∈oj.after,Region.binds md e=true->e.on≠i)->oi.apart ops oj=true) ->
   i∈Region.ready md ops listed->jx P ops S sq i oi v a ->
   wpX P md ops S sq Q fuel (listed.setIfInBounds i true) (a.put oi.dst v) w->wpX P md ops S sq Q (fuel+1) listed a w:=by
 intro fuel
 induction fuel with
 | zero =>
  intro listed a w _ hr hy H;refine⟨fun h=>(by rw[h] at hr;cases hr),fun j hj=>?_⟩;by_cases hji:j=i
  ·subst hji;exact hy.op hi H
  ·have:=ready_mono hj hji;rw[H.1] at this
   cases this
 | succ fuel ih =>
  intro listed a w hfree hr hy H;refine⟨fun h=>(by rw[h] at hr;cases hr),fun j hj=>?_⟩;by_cases hji:j=i
  ·subst hji;exact hy.op hi H
  ·have hX:=H.2 j (ready_mono hj hji);obtain⟨hjun,oj,hoj,hall⟩:=mem_ready.1 hj;have hnot:=sQ (j:=j) hr hall;obtain⟨h1,h2,h3⟩:=Oper.apart_spec (hfree j oj hoj hji hjun hnot)
   have hfree':∀ k ok,ops[k]?=some ok->k≠i->(listed.setIfInBounds j true).getD k true=false->(∀ e∈ok.after,Region.binds md e=true->e.on≠i)->oi.apart ops ok=true:=fun k ok hk hki hun hno=>by
    refine hfree k ok hk hki ?_ hno;by_cases hjk:j=k
    ·subst hjk;exact hjun
    ·rw[getD_set_ne true hjk] at hun;exact hun
   have on:∀ u w',wpX P md ops S sq Q fuel ((listed.setIfInBounds i true).setIfInBounds j true) ((a.put oi.dst v).put oj.dst u) w'->wpX P md ops S sq Q (fuel+1) (listed.setIfInBounds j true) (a.put oj.dst u) w':=fun u w' h=>by
    refine ih (listed.setIfInBounds j true) (a.put oj.dst u) w' hfree' (ready_mono hr (Ne.symm hji)) (hy.of_same (execOp_put oi (fun cs b=>hsel i oi cs b hi) a oj.dst u h3) (wanted_put oi a oj.dst u h3)) ?_;rw[Kh _ _ hji,<-Act.put_comm a v u h2];exact h
   have he:=execOp_put oj (fun cs b=>hsel j oj cs b hoj) a oi.dst v h1;unfold kK at hX |-;simp only[hoj] at hX |-;rw[wanted_put oj a oi.dst v h1] at hX
   split
   ·rename_i hw
    rw[if_pos hw] at hX
    split
    ·rename_i hs
     rw[if_pos hs] at hX;exact m7 he.symm hX (fun u w' h'=>⟨⟨u,rfl⟩,h'.2.1,on u w' h'.2.2⟩) (fun a' w' h'=>h'.1)
    ·rename_i hs
     rw[if_neg hs] at hX;obtain⟨u,hu,h'⟩:=hX;rw[he] at hu;exact⟨u,hu,on u w h'⟩
   ·rename_i hw
    rw[if_neg hw] at hX;exact on _ w hX
def zc (md:Region.Mode) (ops:Array Oper) (sq:Nat->Bool) (k:Nat):Prop :=
 ∀ j oj,ops[j]?=some oj->sq j=true->k<j->∃ e∈oj.after,Region.binds md e=true/\(e.on=k\/(k<e.on/\e.on<ops.size/\sq e.on=true))
theorem Ga {k:Nat}{ok:Oper} (hk:ops[k]?=some ok) (hsel:∀ (j:Nat) (o:Oper) cs b,ops[j]?=some o->o.op≠.select cs b) (hs:sq k=true) (hc:zc md ops sq k) :
  ∀ (fuel:Nat) (listed:Array Bool) (a:Act) (w:World),
   (∀ j oj,ops[j]?=some oj->j≠k->listed.getD j true=false->(∀ e∈oj.after,Region.binds md e=true->e.on≠k)->ok.apart ops oj=true) ->
   (∀ j,j<k->listed.getD j true=true)->(∀ j,k<j->j<ops.size->sq j=true->listed.getD j true=false) ->
   k∈Region.ready md ops listed->Region.wanted ok (yielded ops a.tmps)=true->S w ->
   ok.wp P a w (fun a' w'=>(∃ v,a'=a.put ok.dst v)/\S w'/\wpX P md ops S sq Q fuel (listed.setIfInBounds k true) a' w') noQ ->
   wpX P md ops S sq Q (fuel+1) listed a w:=by
 intro fuel
 induction fuel with
 | zero =>
  intro listed a w _ _ _ hr hw _ H;refine⟨fun h=>(by rw[h] at hr;cases hr),fun j hj=>?_⟩;by_cases hjk:j=k
  ·subst hjk;unfold kK;simp only[hk];rw[if_pos hw,if_pos hs];exact H
  ·obtain⟨a',w',-,-,hX⟩:=EU H;have:=ready_mono hj hjk;rw[hX.1] at this
   cases this
 | succ fuel ih =>
  intro listed a w hfree hpre hlat hr hw hS H;refine⟨fun h=>(by rw[h] at hr;cases hr),fun j hj=>?_⟩;by_cases hjk:j=k
  ·subst hjk;unfold kK;simp only[hk];rw[if_pos hw,if_pos hs];exact H
  ·obtain⟨hjun,oj,hoj,hall⟩:=mem_ready.1 hj;have hkun:=(mem_ready.1 hr).1
   have both:∀ i,listed.getD i true=false->listed.getD i false=false:=fun i h=>by
    rcases JD i listed.size with h' | h'
    ·simp[h'] at h |-;exact h
    ·simp[Km h'] at h
   have hsj:¬ sq j=true:=fun hsj=>by
    rcases Nat.lt_or_gt_of_ne hjk with h | h
    ·rw[hpre j h] at hjun;cases hjun
    ·obtain⟨e,he,hb,h'⟩:=hc j oj hoj hsj h;have h1:=hall e he hb;rcases h' with h' | ⟨h2,h3,h4⟩
     ·rw[h',both k hkun] at h1;cases h1
     ·rw[both _ (hlat _ h2 h3 h4)] at h1;cases h1
   have hnot:=sQ (j:=j) hr hall;obtain⟨h1,h2,h3⟩:=Oper.apart_spec (hfree j oj hoj hjk hjun hnot)
   have hfree':∀ i oi,ops[i]?=some oi->i≠k->(listed.setIfInBounds j true).getD i true=false->(∀ e∈oi.after,Region.binds md e=true->e.on≠k)->ok.apart ops oi=true:=fun i oi hi hik hun hno=>by
    refine hfree i oi hi hik ?_ hno;by_cases hji:j=i
    ·subst hji;exact hjun
    ·rw[getD_set_ne true hji] at hun;exact hun
   have he:=fun v=>execOp_put oj (fun cs b=>hsel j oj cs b hoj) a ok.dst v h1;have hx:=fun u=>execOp_put ok (fun cs b=>hsel k ok cs b hk) a oj.dst u h3
   have hkj:∀ j',k<j'->j'<ops.size->sq j'=true->(listed.setIfInBounds j true).getD j' true=false:=fun j' h4 h5 h6=>by
    rw[getD_set_ne true (fun h=>hsj (by rw[h];exact h6))];exact hlat j' h4 h5 h6
   have hpre':∀ j',j'<k->(listed.setIfInBounds j true).getD j' true=true:=fun j' h4=>by
    by_cases hjj:j=j'
    ·subst hjj;rw[hpre j h4] at hjun;cases hjun
    ·rw[getD_set_ne true hjj];exact hpre j' h4
   obtain⟨a',w',⟨v,rfl⟩,hS',hX⟩:=EU H;have hXj:=hX.2 j (ready_mono hj hjk);unfold kK at hXj |-;simp only[hoj] at hXj |-;rw[wanted_put oj a ok.dst v h1,if_neg hsj] at hXj;by_cases hwj:Region.wanted oj (yielded ops a.tmps)=true
   ·rw[if_pos hwj] at hXj;rw[if_pos hwj,if_neg hsj];obtain⟨u,hu,-⟩:=hXj;rw[he v] at hu;refine⟨u,hu,ih (listed.setIfInBounds j true) (a.put oj.dst u) w hfree' hpre' hkj (ready_mono hr (Ne.symm hjk)) (by rw[wanted_put ok a oj.dst u h3];exact hw) hS ?_⟩;refine m7 (hx u) H (fun v' w'' hv=>⟨⟨v',rfl⟩,hv.2.1,?_⟩) (fun _ _ h=>h.1);have hXj':=hv.2.2.2 j (ready_mono hj hjk);unfold kK at hXj';simp only[hoj] at hXj';rw[wanted_put oj a ok.dst v' h1,if_pos hwj,if_neg hsj,he v'] at hXj';obtain⟨u',hu',hX'⟩:=hXj'
    obtain rfl:u'=u:=by
     have e1:=hu w'' hv.2.1;rw[hu' w'' hv.2.1] at e1;simpa using e1
    rw[Kh _ _ hjk,<-Act.put_comm a v' u' h2];exact hX'
   ·rw[if_neg hwj];refine ih (listed.setIfInBounds j true) (a.put oj.dst undef) w hfree' hpre' hkj (ready_mono hr (Ne.symm hjk)) (by rw[wanted_put ok a oj.dst undef h3];exact hw) hS ?_;refine m7 (hx undef) H (fun v' w'' hv=>⟨⟨v',rfl⟩,hv.2.1,?_⟩) (fun _ _ h=>h.1);have hXj':=hv.2.2.2 j (ready_mono hj hjk);unfold kK at hXj';simp only[hoj] at hXj';rw[wanted_put oj a ok.dst v' h1,if_neg hwj] at hXj';rw[Kh _ _ hjk,<-Act.put_comm a v' undef h2];exact hXj'
def iF (P:Program) (ops:Array Oper) (S:World->Prop) (sq:Nat->Bool) (Q:Act->World->Prop):Nat->List Oper->Act->World->Prop
 | _,[],a,w=>Q a w
 | k,o :: rest,a,w =>
  if Region.wanted o (yielded ops a.tmps)=true then
   if sq k=true then o.wp P a w (fun a' w'=>(∃ v,a'=a.put o.dst v)/\S w'/\iF P ops S sq Q (k+1) rest a' w') noQ
   else o.quiet P a S (fun a'=>iF P ops S sq Q (k+1) rest a' w)
  else iF P ops S sq Q (k+1) rest (a.put o.dst undef) w
def FR (md:Region.Mode) (ops:Array Oper) (sq:Nat->Bool):Bool :=
 (List.range ops.size).all fun k=>match ops[k]? with
  | none=>true
  | some o=>if sq k then (List.range ops.size).all (fun j=>match ops[j]? with
    | none=>true
    | some oj=>!sq j||j<=k||oj.after.any (fun e=>Region.binds md e&&(e.on == k||(k<e.on&&e.on<ops.size&&sq e.on)))) else jS o.op
theorem yP (h:FR md ops sq=true) {k:Nat}{o:Oper} (hk:ops[k]?=some o) (hs:sq k=true):zc md ops sq k:=by
 intro j oj hj hsj hlt;have h1:=I5.1 h k (JG.2 (ID.1 hk).1);simp only[hk,hs,if_true] at h1;have h2:=I5.1 h1 j (JG.2 (ID.1 hj).1);simp only[hj,hsj,Bool.not_true,Bool.false_or,Bool.or_eq_true,decide_eq_true_eq] at h2;rcases h2 with h2 | h2
 ·omega
 ·obtain⟨e,he,hb⟩:=Array.any_eq_true'.1 h2;simp only[IR,Bool.or_eq_true,beq_iff_eq,decide_eq_true_eq] at hb;exact⟨e,he,hb.1,hb.2.imp id fun h=>⟨h.1.1,h.1.2,h.2⟩⟩
theorem yQ (h:FR md ops sq=true) {k:Nat}{o:Oper} (hk:ops[k]?=some o) (hs:sq k=false):jS o.op=true:=by
 have h1:=I5.1 h k (JG.2 (ID.1 hk).1);simpa[hk,hs] using h1
theorem Aw (hsel:Region.noSelect ops=true) (hB:FR md ops sq=true):∀ (l:List Oper) (k:Nat) (listed:Array Bool) (a:Act) (w:World),(∀ j,l[j]?=ops[k+j]?)->Region.lexFrom md ops l.length k listed=true ->
  (∀ j,j<k->listed.getD j true=true)->(∀ j,k<=j->j<ops.size->listed.getD j true=false)->S w->iF P ops S sq Q k l a w->wpX P md ops S sq Q l.length listed a w
 | [],_,_,_,_,_,hL,_,_,_,h=>⟨by simpa[Region.lexFrom] using hL,h⟩
 | o :: l,k,listed,a,w,hl,hL,hpre,hlat,hS,h=>by
  have h0:ops[k]?=some o:=by simpa using (hl 0).symm
  have hl':∀ j,l[j]?=ops[k+1+j]?:=fun j=>by have:=hl (j+1);simpa[J7,KQ 1 j] using this
  simp only[IT,Region.lexFrom,IR] at hL;obtain⟨⟨hr,hf⟩,hL'⟩:=hL;have hr':k∈Region.ready md ops listed:=by simpa using hr
  have hpre':∀ j,j<k+1->(listed.setIfInBounds k true).getD j true=true:=fun j hj=>by
   by_cases hjk:k=j
   ·subst hjk;rcases JD k listed.size with h' | h'
    ·simp[h']
    ·simp[h']
   ·rw[getD_set_ne true hjk];exact hpre j (by omega)
  have hlat':∀ j,k+1<=j->j<ops.size->(listed.setIfInBounds k true).getD j true=false:=fun j hj hj'=>by
   rw[getD_set_ne true (by omega)];exact hlat j (by omega) hj'
  have on:=fun a' w' hS' h'=>Aw hsel hB l (k+1) (listed.setIfInBounds k true) a' w' hl' hL' hpre' hlat' hS' h';unfold iF at h;by_cases hw:Region.wanted o (yielded ops a.tmps)=true
  ·rw[if_pos hw] at h;by_cases hs:sq k=true
   ·rw[if_pos hs] at h;refine Ga h0 (Region.noSelect_spec hsel) hs (yP hB h0 hs) l.length listed a w (Region.free_spec h0 hf) hpre (fun j h1 h2 _=>hlat j (by omega) h2) hr' hw hS ?_;exact m7 rfl h (fun v w' h'=>⟨h'.1,h'.2.1,on _ _ h'.2.1 h'.2.2⟩) (fun _ _ h=>h.1)
   ·rw[if_neg hs] at h;obtain⟨v,hv,h'⟩:=h;refine Ax h0 (Region.noSelect_spec hsel) l.length listed a w (Region.free_spec h0 hf) hr' (v:=v) (.inl ⟨hw,by simpa using hs,fun w1 hS1=>?_⟩) (on _ _ hS h');have h1:=hv w1 hS1;unfold Oper.quietAt at h1;rcases xx (P:=P) (ρ:=a.eval) (yQ hB h0 (by simpa using hs)) w1 with ⟨u,w2,h2⟩ | ⟨x,w2,h2⟩
    ·rw[h2] at h1 |-;simp only[Oper.quietUpon] at h1;rw[h1.1,h1.2]
    ·rw[h2] at h1;simp only[Oper.quietUpon] at h1
  ·rw[if_neg hw] at h;exact Ax h0 (Region.noSelect_spec hsel) l.length listed a w (Region.free_spec h0 hf) hr' (v:=undef) (.inr ⟨by simpa using hw,rfl⟩) (on _ _ hS h)
theorem av {id:Nat}{Q':Exit->Act->World->Prop}{a:Act}{w:World}{l:List Oper} (S:World->Prop) (sq:Nat->Bool) (hm:P.follows .mixedOrders=true) (hB:(Region.lexB .any l.toArray&&FR .any l.toArray sq)=true) (hS:S w.drew)
  (h:iF P l.toArray S sq (fun a' w'=>Q' .normal a' w') 0 l a w.drew):(Code.region id l.toArray true).wp P Q' a w:=by
 simp only[IR,Region.lexB] at hB;obtain⟨⟨h1,h2⟩,h3⟩:=hB;refine wp_region_any hm (rz (S:=S) (sq:=sq) (Q:=fun a' w'=>Q' .normal a' w') (fun _ _ h=>h) _ _ _ _ hS ?_);have:=Aw (md:=.any) h1 h3 l 0 (Array.replicate l.toArray.size false) a w.drew (by simp) (by simpa using h2) (fun _ h=>absurd h (by omega)) (fun j _ hj=>by simp at hj;simp[hj]) hS h;simpa using this
theorem aE {k:Nat}{a:Act}{w:World} (h:Q a w):iF P ops S sq Q k [] a w:=h
theorem ap {k:Nat}{o:Oper}{rest:List Oper}{a:Act}{w:World} (hs:sq k=true) (hw:Region.wanted o (yielded ops a.tmps)=true)
  (h:∀ K:Act->World->Prop,(∀ v w',S w'->iF P ops S sq Q (k+1) rest (a.put o.dst v) w'->K (a.put o.dst v) w')->o.wp P a w K noQ):iF P ops S sq Q k (o :: rest) a w:=by
 unfold iF;rw[if_pos hw,if_pos hs];exact h _ fun v w' h1 h2=>⟨⟨v,rfl⟩,h1,h2⟩
theorem ak:∀ (n k:Nat) (l:List Oper) (a:Act) (w:World),(List.range n).all (fun i=>!sq (k+i))=true->wpQuiet P ops S (fun a'=>iF P ops S sq Q (k+n) (l.drop n) a' w) (l.take n) a->iF P ops S sq Q k l a w
 | 0,_,_,_,_,_,h=>h
 | n+1,k,[],a,w,_,h=>by simpa[wpQuiet,iF] using h
 | n+1,k,o :: l,a,w,hn,h=>by
  have hn':(List.range n).all (fun i=>!sq (k+1+i))=true:=I5.2 fun i hi=>by
   have:=I5.1 hn (i+1) (JG.2 (by have:=JG.1 hi;omega))
   rwa [show k+(i+1)=k+1+i by omega] at this
  have h0:sq k=false:=by simpa using I5.1 hn 0 (JG.2 (by omega))
  have on:=fun a' (h':wpQuiet P ops S (fun a'=>iF P ops S sq Q (k+1+n) (l.drop n) a' w) (l.take n) a')=>ak n (k+1) l a' w hn' h';rw[show k+(n+1)=k+1+n by omega] at h;simp only[Ix,Iy,wpQuiet] at h;unfold iF;by_cases hw:Region.wanted o (yielded ops a.tmps)=true
  ·rw[if_pos hw] at h |-;rw[if_neg (by rw[h0];decide)];exact Oper.quiet_mono on h
  ·rw[if_neg hw] at h |-;exact on _ h
end
structure az (B:Nat) (wa:World) where
 w:World
 h:Below B wa w
instance instPast (B:Nat) (wa:World):Nonempty (az B wa):=⟨⟨wa,LN _ _⟩⟩
open Go.RowKit
structure Bx (w:World) (k:Nat) (l:List Value) (T:TypeId):Prop where
 hp:w.heap[k]?=some (.cells l.toArray T (0,0))
 nu:∀ v∈l,∀ z,v≠.int .u64 z
theorem Bx.lt {w:World}{k:Nat}{l:List Value}{T:TypeId} (h:Bx w k l T):k<w.heap.size:=(ID.1 h.hp).1
theorem Bx.cell {w:World}{k:Nat}{l:List Value}{T:TypeId} (h:Bx w k l T) (j:Nat):w.cell? ⟨k,j,none⟩=l[j]?:=by
 rw[World.cell?,h.hp];simp
theorem Bx.below {w w':World}{k:Nat}{l:List Value}{T:TypeId} (h:Bx w k l T) {B:Nat} (hb:Below B w w') (hk:k<B):Bx w' k l T :=
 ⟨by rw[hb.block k hk];exact h.hp,h.nu⟩
theorem Bx.keep {w:World}{k:Nat}{l:List Value}{T:TypeId} (h:Bx w k l T) (j:Nat) (u:Value) {v:Value}{n:List Nat} (hv:IsU w v n):IsU (w.setCell ⟨k,j,none⟩ u) v n:=by
 obtain⟨p,cap,e,h1,h2,h3⟩:=hv;refine⟨p,cap,e,h1,h2,fun hl=>?_⟩;obtain⟨b',o,e2,hlt,hc⟩:=h3 hl
 have hne:b'≠k:=by
  intro e3;subst e3;have h0:=hc 0 hl;rw[h.cell] at h0;exact h.nu _ (J3 h0) _ rfl
 refine⟨b',o,e2,by simpa[World.setCell] using hlt,fun i hi=>?_⟩;rw[World.cell?_setCell_other _ _ _ _ (by intro e3;exact hne (congrArg Addr.block e3).symm)];exact hc i hi
theorem size_alloc (w:World) (o:Obj):(w.alloc o).heap.size=w.heap.size+1:=by show (Array.push _ _).size=_;exact Ja _
theorem aj (w:World) (o:Obj):Below w.heap.size w (w.alloc o):=(LN _ _).alloc (Iw _) _
open Go.RowKit Dg
theorem cC.at {w w':World}{k B:Nat}{a b c d e f:Value} (h:cC w k a b c d e f) (hb:Below B w w') (hk:k<B):cC w' k a b c d e f:=by
 have hq:=fun j=>hb.cell (p:=⟨k,j,none⟩) hk;exact⟨Iz h.lt hb.size,(hq 0).trans h.c0,(hq 1).trans h.c1,(hq 2).trans h.c2,(hq 3).trans h.c3,(hq 4).trans h.c4,(hq 5).trans h.c5⟩
theorem IsR.form {w:World}{v:Value}{r:Rt} (h:IsR w v r):∃ m p l c q k d,v=.agg #[.bool m,.slice p l c,.slice q k d]:=by
 obtain⟨n,d,rfl,⟨p,c,rfl,-⟩,⟨q,k,rfl,-⟩,-⟩:=h;exact⟨_,_,_,_,_,_,_,rfl⟩
theorem du.putV {w:World}{k:Nat}{a b c d e f x1 x2 x3 y1 y2 y3:Value}{r s:Rt} (h:du w k a b c d e f) (hx:IsR w (.agg #[x1,x2,x3]) r) (hy:IsR w (.agg #[y1,y2,y3]) s) :
  du (eU w k x1 x2 x3 y1 y2 y3) k x1 x2 x3 y1 y2 y3/\IsV (eU w k x1 x2 x3 y1 y2 y3) (.agg #[x1,x2,x3,y1,y2,y3]) ⟨r,s⟩ /\
  ∀ B w0,Below B w0 w->B<=k->Below B w0 (eU w k x1 x2 x3 y1 y2 y3):=by
 obtain⟨xn,xd,e1,hx1,hx2,hx3,hx4⟩:=hx;obtain⟨yn,yd,e2,hy1,hy2,hy3,hy4⟩:=hy;obtain⟨rfl,rfl,rfl⟩:x1=.bool r.minus/\x2=xn/\x3=xd:=by simpa using e1
 obtain⟨rfl,rfl,rfl⟩:y1=.bool s.minus/\y2=yn/\y3=yd:=by simpa using e2
 have P:=h.put (a':=.bool r.minus) (b':=x2) (c':=x3) (d':=.bool s.minus) (e':=y2) (f':=y3) nofun (IsU.not_int hx1) (IsU.not_int hx2) nofun (IsU.not_int hy1) (IsU.not_int hy2);refine⟨P.1,⟨_,_,_,_,_,_,rfl,⟨_,_,rfl,P.2.1 _ _ hx1,P.2.1 _ _ hx2,hx3,hx4⟩,⟨_,_,rfl,P.2.1 _ _ hy1,P.2.1 _ _ hy2,hy3,hy4⟩⟩,fun B w0 hb hk=>?_⟩;unfold eU;exact (((((hb.setCell (p:=⟨k,0,none⟩) hk _).setCell (p:=⟨k,1,none⟩) hk _).setCell (p:=⟨k,2,none⟩) hk _).setCell (p:=⟨k,3,none⟩) hk _).setCell (p:=⟨k,4,none⟩) hk _).setCell (p:=⟨k,5,none⟩) hk _
structure Cf (r s:Rt):Prop where
 h0:0<r.d
 h1:0<s.d
 f1:Few (r.n*s.n)
 f2:Few (r.d*s.d)
def fZ (u v:Vl):Vl:=if u.y.n=0/\v.y.n=0 then jJ (de u.x v.x) else ⟨dS (de u.x v.x) (fx (de u.y v.y)),dS (de u.x v.y) (de u.y v.x)⟩
structure FewV (u v:Vl):Prop where
 a:Cf u.x v.x
 b:Cf u.y v.y
 c:Cf u.x v.y
 d:Cf u.y v.x
 e:xB (de u.x v.x) (fx (de u.y v.y))
 f:xB (de u.x v.y) (de u.y v.x)
theorem jQ (va vb:Value) (u v:Vl) (w:World) (ha:IsV w va u) (hb:IsV w vb v) (hm:FewV u v) :
  Calls Tryz.prog 116 #[va,vb] w fun e w'=>∃ t,e=.returned t/\IsV w' t (fZ u v)/\Below w.heap.size w w':=by
 obtain⟨a,b,c,d,e,f,rfl,hax,hay⟩:=ha;obtain⟨a',b',c',d',e',f',rfl,hbx,hby⟩:=hb;obtain⟨z,hz⟩:∃ z,z=fZ u v:=⟨_,rfl⟩;rw[<-hz];have HZ:=Ip hz;clear hz;go_enter Tryz.func116,Tryz.ntmps116;go_upto_region 1 with fail
 have q1:=cC.new w a b c d e f 93;have m1:Below w.heap.size w (w.alloc (.cells #[a,b,c,d,e,f] 93)):=(LN _ _).alloc (Iw _) _;have z1:(w.alloc (.cells #[a,b,c,d,e,f] 93)).heap.size=w.heap.size+1:=by show (Array.push _ _).size=_;exact Ja _
 generalize w.alloc (.cells #[a,b,c,d,e,f] 93)=w1 at *
 have q2:=cC.new w1 a' b' c' d' e' f' 93;have m2:Below w1.heap.size w1 (w1.alloc (.cells #[a',b',c',d',e',f'] 93)):=(LN _ _).alloc (Iw _) _;have z2:(w1.alloc (.cells #[a',b',c',d',e',f'] 93)).heap.size=w1.heap.size+1:=by show (Array.push _ _).size=_;exact Ja _
 generalize w1.alloc (.cells #[a',b',c',d',e',f'] 93)=w2 at *
 have q3:=du.new w2 (.bool false) (.slice none 0 0) (.slice none 0 0) (.bool false) (.slice none 0 0) (.slice none 0 0) nofun nofun nofun nofun nofun nofun;have m3:Below w2.heap.size w2 (w2.alloc (.cells #[.bool false,.slice none 0 0,.slice none 0 0,.bool false,.slice none 0 0,.slice none 0 0] 93)):=(LN _ _).alloc (Iw _) _;generalize w2.alloc (.cells #[.bool false,.slice none 0 0,.slice none 0 0,.bool false,.slice none 0 0,.slice none 0 0] 93)=w3 at *
 rw[z2,z1] at q3;rw[z1] at q2;have M12:=LK m1 m2;have MD:=Ip (LK M12 m3);have B1:=Ip ((q1.below m2).below m3);have B2:=Ip (q2.below m3);have B3:=Ip q3;have HAX:=Ip (hax.below MD.out);have HAY:=Ip (hay.below MD.out);have HBX:=Ip (hbx.below MD.out);have HBY:=Ip (hby.below MD.out);clear q1 q2 q3 m1 m2 m3 z1 z2 M12 hax hay hbx hby;have e1:=B1.out;have e2:=B2.out;have a0:=e1.c0;have a1:=e1.c1;have a2:=e1.c2;have a3:=e1.c3;have a4:=e1.c4;have a5:=e1.c5;clear e1 e2;by_cases hu:u.y.n=0
 ·have hr:=fj _ u w3 ⟨_,_,_,_,_,_,rfl,HAX.out,HAY.out⟩;rw[decide_eq_true hu] at hr;have HR:=Ip hr;have hr2:=fun wx (hx:Below w3.heap.size w3 wx)=>fj _ v wx ⟨_,_,_,_,_,_,rfl,HBX.out.below hx,HBY.out.below hx⟩;clear hr;by_cases hv:v.y.n=0
  ·rw[decide_eq_true hv] at hr2;have HR2:=Ip hr2;have HC:=Ip (show jJ (de u.x v.x)=z by rw[HZ.out,fZ,if_pos ⟨hu,hv⟩]);clear hr2 hu hv HAY HBY;go_wp2_with first | (go_at_call 88;refine HR.out.mono ?_;rintro e w4 ⟨rfl,hb4⟩;have e2:=B2.out.below hb4;have b0:=e2.c0;have b1:=e2.c1;have b2:=e2.c2;have b3:=e2.c3;have b4:=e2.c4;have b5:=e2.c5;clear e2) | (go_at_call 88;refine (HR2.out w4 hb4).mono ?_;rintro e w5 ⟨rfl,hb5⟩;clear a0 a1 a2 a3 a4 a5 b0 b1 b2 b3 b4 b5;have hB5:=LK hb4 hb5;have e1:=B1.out.below hB5;have e2:=B2.out.below hB5;have a0:=e1.c0;have a1:=e1.c1;have a2:=e1.c2;have a3:=e1.c3;have a4:=e1.c4;have a5:=e1.c5;have b0:=e2.c0;have b1:=e2.c1;have b2:=e2.c2;have b3:=e2.c3;have b4:=e2.c4;have b5:=e2.c5;clear e1 e2)
   have hB5:=LK hb4 hb5;have hp:Calls Tryz.prog 166 #[.agg #[a,b,c],.agg #[a',b',c']] w5 fun e w'=>∃ t,e=.returned t/\IsR w' t (de u.x v.x)/\Below w5.heap.size w5 w':=iE _ _ _ _ _ (HAX.out.below hB5) (HBX.out.below hB5) hm.a.h0 hm.a.h1 hm.a.f1 hm.a.f2;refine hp.mono ?_;clear hp a0 a1 a2 a3 a4 a5 b0 b1 b2 b3 b4 b5;rintro e w6 ⟨v6,rfl,hv6,hb6⟩;have hB6:=LK hB5 hb6;go_wp2_with fail
   refine (fI _ _ _ hv6).mono ?_;rintro e w7 ⟨v7,rfl,hv7,hb7⟩;have hB7:=LK hB6 hb7;rw[HC.out] at hv7;obtain⟨x1,x2,x3,y1,y2,y3,rfl,hx,hy⟩:=hv7;obtain⟨xm,xp,xl,xc,xq,xk,xd,hxe⟩:=hx.form;obtain⟨ym,yp,yl,yc,yq,yk,yd,hye⟩:=hy.form;obtain⟨rfl,rfl,rfl⟩:x1=.bool xm/\x2=.slice xp xl xc/\x3=.slice xq xk xd:=by simpa using hxe
   obtain⟨rfl,rfl,rfl⟩:y1=.bool ym/\y2=.slice yp yl yc/\y3=.slice yq yk yd:=by simpa using hye
   have B8:=B3.out.below hB7;have k0:=B8.cell 0;have k1:=B8.cell 1;have k2:=B8.cell 2;have k3:=B8.cell 3;have k4:=B8.cell 4;have k5:=B8.cell 5;have f0:=B8.fr 0;have f1:=B8.fr 1;have f2:=B8.fr 2;have f3:=B8.fr 3;have f4:=B8.fr 4;have f5:=B8.fr 5;have P:=Ip (B8.putV hx hy);have M8:=Ip (P.out.2.2 _ _ (LK MD.out hB7) (by omega));go_wp2_with fail
   have q0:=P.out.1.cell 0;have q1:=P.out.1.cell 1;have q2:=P.out.1.cell 2;have q3:=P.out.1.cell 3;have q4:=P.out.1.cell 4;have q5:=P.out.1.cell 5;refine LM (v:=.agg #[.bool xm,.slice xp xl xc,.slice xq xk xd,.bool ym,.slice yp yl yc,.slice yq yk yd]) (by simp[results,Tryz.results116,go_sem,eU] at q0 q1 q2 q3 q4 q5 |-;simp[results,Tryz.results116,go_sem,q0,q1,q2,q3,q4,q5]) rfl ⟨_,rfl,P.out.2.1,M8.out⟩
  ·rw[decide_eq_false hv] at hr2;have HR2:=Ip hr2;have HC:=Ip (show ¬ (u.y.n=0/\v.y.n=0) from fun h=>hv h.2);clear hr2 hu hv;go_wp2_with first | (go_at_call 88;refine HR.out.mono ?_;rintro e w4 ⟨rfl,hb4⟩;have e2:=B2.out.below hb4;have b0:=e2.c0;have b1:=e2.c1;have b2:=e2.c2;have b3:=e2.c3;have b4:=e2.c4;have b5:=e2.c5;clear e2) | (go_at_call 88;refine (HR2.out w4 hb4).mono ?_;rintro e w5 ⟨rfl,hb5⟩;clear a0 a1 a2 a3 a4 a5 b0 b1 b2 b3 b4 b5;have hb4:=LK hb4 hb5)
   have MD:=Ip (LK MD.out hb4);have B1:=Ip (B1.out.below hb4);have B2:=Ip (B2.out.below hb4);have B3:=Ip (B3.out.below hb4);have HAX:=Ip (HAX.out.below hb4);have HAY:=Ip (HAY.out.below hb4);have HBX:=Ip (HBX.out.below hb4);have HBY:=Ip (HBY.out.below hb4);clear hb4 hb5 HR HR2;have m4:Below w5.heap.size w5 w5.drew:=(LN _ _).drew;refine av (fun w'=>∃ x:az (w.heap.size+2) w5.drew,w'=x.w) (fun i=>i == 4||i == 9||i == 10||i == 11||i == 16||i == 21||i == 22||i == 24) (by kernel_rfl) (by kernel_rfl) ⟨⟨_,LN _ _⟩,rfl⟩ ?_;generalize w5.drew=wd at *
   have hB0:Below wd.heap.size wd wd:=LN _ _;have MD:=Ip (LK MD.out m4);have B1:=Ip (B1.out.below m4);have B2:=Ip (B2.out.below m4);have B3:=Ip (B3.out.below m4);have HAX:=Ip (HAX.out.below m4);have HAY:=Ip (HAY.out.below m4);have HBX:=Ip (HBX.out.below m4);have HBY:=Ip (HBY.out.below m4);have hz:w.heap.size+2<=wd.heap.size:=by have:=B3.out.lt;omega
   have e1:=fun x:az (w.heap.size+2) wd=>B1.out.at x.h (by omega);have e2:=fun x:az (w.heap.size+2) wd=>B2.out.at x.h (by omega);have a0:=fun x=>(e1 x).c0;have a1:=fun x=>(e1 x).c1;have a2:=fun x=>(e1 x).c2;have a3:=fun x=>(e1 x).c3;have a4:=fun x=>(e1 x).c4;have a5:=fun x=>(e1 x).c5;have b0:=fun x=>(e2 x).c0;have b1:=fun x=>(e2 x).c1;have b2:=fun x=>(e2 x).c2;have b3:=fun x=>(e2 x).c3;have b4:=fun x=>(e2 x).c4;have b5:=fun x=>(e2 x).c5;clear e1 e2;refine ak 4 0 _ _ _ (by kernel_rfl) ?_;simp only[Ix,IC,Iy,IA];repeat (go_big_quiet_step (fail))
   refine wpQuiet_nil ?_;refine ap rfl rfl (fun K hK=>?_);go_simp;have hp:Calls Tryz.prog 166 #[.agg #[a,b,c],.agg #[a',b',c']] wd fun e w'=>∃ t,e=.returned t/\IsR w' t (de u.x v.x)/\Below wd.heap.size wd w':=iE _ _ _ _ _ HAX.out HBX.out hm.a.h0 hm.a.h1 hm.a.f1 hm.a.f2;refine hp.mono ?_;clear hp;rintro e w11 ⟨v1,rfl,hv1,HN1⟩;have hB1:=LK hB0 HN1;refine hK _ _ ⟨⟨_,hB1.mono hz⟩,rfl⟩ ?_;clear hK K;try simp only[Act.put,It,Is,Ir,Iq,Iu,Iv]
   refine ak 4 5 _ _ _ (by kernel_rfl) ?_;simp only[Ix,IC,Iy,IA];repeat (go_big_quiet_step (fail))
   refine wpQuiet_nil ?_;refine ap rfl rfl (fun K hK=>?_);go_simp;have hp:Calls Tryz.prog 166 #[.agg #[d,e,f],.agg #[d',e',f']] w11 fun e w'=>∃ t,e=.returned t/\IsR w' t (de u.y v.y)/\Below w11.heap.size w11 w':=iE _ _ _ _ _ (HAY.out.below hB1) (HBY.out.below hB1) hm.b.h0 hm.b.h1 hm.b.f1 hm.b.f2;refine hp.mono ?_;clear hp;rintro e w12 ⟨v2,rfl,hv2,HN2⟩;have hB2:=LK hB1 HN2;refine hK _ _ ⟨⟨_,hB2.mono hz⟩,rfl⟩ ?_;clear hK K;try simp only[Act.put,It,Is,Ir,Iq,Iu,Iv]
   refine ap rfl rfl (fun K hK=>?_);go_simp;have hp:Calls Tryz.prog 145 #[v2] w12 fun e w'=>∃ t,e=.returned t/\IsR w' t (fx (de u.y v.y))/\Below w12.heap.size w12 w':=yu _ _ _ hv2;refine hp.mono ?_;clear hp;rintro e w13 ⟨v3,rfl,hv3,HN3⟩;have hB3:=LK hB2 HN3;refine hK _ _ ⟨⟨_,hB3.mono hz⟩,rfl⟩ ?_;clear hK K;try simp only[Act.put,It,Is,Ir,Iq,Iu,Iv]
   refine ap rfl rfl (fun K hK=>?_);go_simp;have hp:Calls Tryz.prog 144 #[v1,v3] w13 fun e w'=>∃ t,e=.returned t/\IsR w' t (dS (de u.x v.x) (fx (de u.y v.y)))/\Below w13.heap.size w13 w':=lA _ _ _ _ _ ((hv1.below HN2).below HN3) hv3 hm.e.h0 hm.e.h1 hm.e.f1 hm.e.f2 hm.e.f3 hm.e.f4;refine hp.mono ?_;clear hp;rintro e w14 ⟨v4,rfl,hv4,HN4⟩;have hB4:=LK hB3 HN4;refine hK _ _ ⟨⟨_,hB4.mono hz⟩,rfl⟩ ?_;clear hK K;try simp only[Act.put,It,Is,Ir,Iq,Iu,Iv]
   refine ak 4 12 _ _ _ (by kernel_rfl) ?_;simp only[Ix,IC,Iy,IA];repeat (go_big_quiet_step (fail))
   refine wpQuiet_nil ?_;refine ap rfl rfl (fun K hK=>?_);go_simp;have hp:Calls Tryz.prog 166 #[.agg #[a,b,c],.agg #[d',e',f']] w14 fun e w'=>∃ t,e=.returned t/\IsR w' t (de u.x v.y)/\Below w14.heap.size w14 w':=iE _ _ _ _ _ (HAX.out.below hB4) (HBY.out.below hB4) hm.c.h0 hm.c.h1 hm.c.f1 hm.c.f2;refine hp.mono ?_;clear hp;rintro e w15 ⟨v5,rfl,hv5,HN5⟩;have hB5:=LK hB4 HN5;refine hK _ _ ⟨⟨_,hB5.mono hz⟩,rfl⟩ ?_;clear hK K;try simp only[Act.put,It,Is,Ir,Iq,Iu,Iv]
   refine ak 4 17 _ _ _ (by kernel_rfl) ?_;simp only[Ix,IC,Iy,IA];repeat (go_big_quiet_step (fail))
   refine wpQuiet_nil ?_;refine ap rfl rfl (fun K hK=>?_);go_simp;have hp:Calls Tryz.prog 166 #[.agg #[d,e,f],.agg #[a',b',c']] w15 fun e w'=>∃ t,e=.returned t/\IsR w' t (de u.y v.x)/\Below w15.heap.size w15 w':=iE _ _ _ _ _ (HAY.out.below hB5) (HBX.out.below hB5) hm.d.h0 hm.d.h1 hm.d.f1 hm.d.f2;refine hp.mono ?_;clear hp;rintro e w16 ⟨v6,rfl,hv6,HN6⟩;have hB6:=LK hB5 HN6;refine hK _ _ ⟨⟨_,hB6.mono hz⟩,rfl⟩ ?_;clear hK K;try simp only[Act.put,It,Is,Ir,Iq,Iu,Iv]
   refine ap rfl rfl (fun K hK=>?_);go_simp;have hp:Calls Tryz.prog 144 #[v5,v6] w16 fun e w'=>∃ t,e=.returned t/\IsR w' t (dS (de u.x v.y) (de u.y v.x))/\Below w16.heap.size w16 w':=lA _ _ _ _ _ (hv5.below HN6) hv6 hm.f.h0 hm.f.h1 hm.f.f1 hm.f.f2 hm.f.f3 hm.f.f4;refine hp.mono ?_;clear hp;rintro e w17 ⟨v7,rfl,hv7,HN7⟩;have hB7:=LK hB6 HN7;refine hK _ _ ⟨⟨_,hB7.mono hz⟩,rfl⟩ ?_;clear hK K;try simp only[Act.put,It,Is,Ir,Iq,Iu,Iv]
   have hv4':=((hv4.below HN5).below HN6).below HN7;rw[show dS (de u.x v.x) (fx (de u.y v.y))=z.x by rw[HZ.out,fZ,if_neg HC.out]] at hv4';rw[show dS (de u.x v.y) (de u.y v.x)=z.y by rw[HZ.out,fZ,if_neg HC.out]] at hv7;obtain⟨xm,xp,xl,xc,xq,xk,xd,rfl⟩:=hv4'.form;obtain⟨ym,yp,yl,yc,yq,yk,yd,rfl⟩:=hv7.form;have B8:=B3.out.below hB7;have k0:=B8.cell 0;have k1:=B8.cell 1;have k2:=B8.cell 2;have k3:=B8.cell 3;have k4:=B8.cell 4;have k5:=B8.cell 5;have f0:=B8.fr 0;have f1:=B8.fr 1;have f2:=B8.fr 2;have f3:=B8.fr 3;have f4:=B8.fr 4;have f5:=B8.fr 5;have P:=Ip (B8.putV hv4' hv7);refine ak 1 23 _ _ _ (by kernel_rfl) ?_;simp only[Ix,IC,Iy,IA];repeat (go_big_quiet_step (fail))
   refine wpQuiet_nil ?_;refine ap rfl rfl (fun K hK=>?_);go_simp;refine hK undef _ ⟨⟨_,P.out.2.2 _ _ (hB7.mono hz) (by omega)⟩,rfl⟩ ?_;clear hK K;try simp only[Act.put,It,Is,Ir,Iq,Iu,Iv]
   refine aE ?_;have M8:=Ip (P.out.2.2 _ _ (LK MD.out hB7) (by omega));go_wp2_with fail
   have q0:=P.out.1.cell 0;have q1:=P.out.1.cell 1;have q2:=P.out.1.cell 2;have q3:=P.out.1.cell 3;have q4:=P.out.1.cell 4;have q5:=P.out.1.cell 5;refine LM (v:=.agg #[.bool xm,.slice xp xl xc,.slice xq xk xd,.bool ym,.slice yp yl yc,.slice yq yk yd]) (by simp[results,Tryz.results116,go_sem,eU] at q0 q1 q2 q3 q4 q5 |-;simp[results,Tryz.results116,go_sem,q0,q1,q2,q3,q4,q5]) rfl ⟨_,rfl,P.out.2.1,M8.out⟩
 ·have HC:=Ip (show ¬ (u.y.n=0/\v.y.n=0) from fun h=>hu h.1);have hr:=fj _ u w3 ⟨_,_,_,_,_,_,rfl,HAX.out,HAY.out⟩;rw[decide_eq_false hu] at hr;have HR:=Ip hr;clear hr hu;go_wp2_with (go_at_call 88;refine HR.out.mono ?_;rintro e w4 ⟨rfl,hb4⟩)
  have MD:=Ip (LK MD.out hb4);have B1:=Ip (B1.out.below hb4);have B2:=Ip (B2.out.below hb4);have B3:=Ip (B3.out.below hb4);have HAX:=Ip (HAX.out.below hb4);have HAY:=Ip (HAY.out.below hb4);have HBX:=Ip (HBX.out.below hb4);have HBY:=Ip (HBY.out.below hb4);clear hb4 a0 a1 a2 a3 a4 a5 HR;have m4:Below w4.heap.size w4 w4.drew:=(LN _ _).drew;refine av (fun w'=>∃ x:az (w.heap.size+2) w4.drew,w'=x.w) (fun i=>i == 4||i == 9||i == 10||i == 11||i == 16||i == 21||i == 22||i == 24) (by kernel_rfl) (by kernel_rfl) ⟨⟨_,LN _ _⟩,rfl⟩ ?_;generalize w4.drew=wd at *
  have hB0:Below wd.heap.size wd wd:=LN _ _;have MD:=Ip (LK MD.out m4);have B1:=Ip (B1.out.below m4);have B2:=Ip (B2.out.below m4);have B3:=Ip (B3.out.below m4);have HAX:=Ip (HAX.out.below m4);have HAY:=Ip (HAY.out.below m4);have HBX:=Ip (HBX.out.below m4);have HBY:=Ip (HBY.out.below m4);have hz:w.heap.size+2<=wd.heap.size:=by have:=B3.out.lt;omega
  have e1:=fun x:az (w.heap.size+2) wd=>B1.out.at x.h (by omega);have e2:=fun x:az (w.heap.size+2) wd=>B2.out.at x.h (by omega);have a0:=fun x=>(e1 x).c0;have a1:=fun x=>(e1 x).c1;have a2:=fun x=>(e1 x).c2;have a3:=fun x=>(e1 x).c3;have a4:=fun x=>(e1 x).c4;have a5:=fun x=>(e1 x).c5;have b0:=fun x=>(e2 x).c0;have b1:=fun x=>(e2 x).c1;have b2:=fun x=>(e2 x).c2;have b3:=fun x=>(e2 x).c3;have b4:=fun x=>(e2 x).c4;have b5:=fun x=>(e2 x).c5;clear e1 e2;refine ak 4 0 _ _ _ (by kernel_rfl) ?_;simp only[Ix,IC,Iy,IA];repeat (go_big_quiet_step (fail))
  refine wpQuiet_nil ?_;refine ap rfl rfl (fun K hK=>?_);go_simp;have hp:Calls Tryz.prog 166 #[.agg #[a,b,c],.agg #[a',b',c']] wd fun e w'=>∃ t,e=.returned t/\IsR w' t (de u.x v.x)/\Below wd.heap.size wd w':=iE _ _ _ _ _ HAX.out HBX.out hm.a.h0 hm.a.h1 hm.a.f1 hm.a.f2;refine hp.mono ?_;clear hp;rintro e w11 ⟨v1,rfl,hv1,HN1⟩;have hB1:=LK hB0 HN1;refine hK _ _ ⟨⟨_,hB1.mono hz⟩,rfl⟩ ?_;clear hK K;try simp only[Act.put,It,Is,Ir,Iq,Iu,Iv]
  refine ak 4 5 _ _ _ (by kernel_rfl) ?_;simp only[Ix,IC,Iy,IA];repeat (go_big_quiet_step (fail))
  refine wpQuiet_nil ?_;refine ap rfl rfl (fun K hK=>?_);go_simp;have hp:Calls Tryz.prog 166 #[.agg #[d,e,f],.agg #[d',e',f']] w11 fun e w'=>∃ t,e=.returned t/\IsR w' t (de u.y v.y)/\Below w11.heap.size w11 w':=iE _ _ _ _ _ (HAY.out.below hB1) (HBY.out.below hB1) hm.b.h0 hm.b.h1 hm.b.f1 hm.b.f2;refine hp.mono ?_;clear hp;rintro e w12 ⟨v2,rfl,hv2,HN2⟩;have hB2:=LK hB1 HN2;refine hK _ _ ⟨⟨_,hB2.mono hz⟩,rfl⟩ ?_;clear hK K;try simp only[Act.put,It,Is,Ir,Iq,Iu,Iv]
  refine ap rfl rfl (fun K hK=>?_);go_simp;have hp:Calls Tryz.prog 145 #[v2] w12 fun e w'=>∃ t,e=.returned t/\IsR w' t (fx (de u.y v.y))/\Below w12.heap.size w12 w':=yu _ _ _ hv2;refine hp.mono ?_;clear hp;rintro e w13 ⟨v3,rfl,hv3,HN3⟩;have hB3:=LK hB2 HN3;refine hK _ _ ⟨⟨_,hB3.mono hz⟩,rfl⟩ ?_;clear hK K;try simp only[Act.put,It,Is,Ir,Iq,Iu,Iv]
  refine ap rfl rfl (fun K hK=>?_);go_simp;have hp:Calls Tryz.prog 144 #[v1,v3] w13 fun e w'=>∃ t,e=.returned t/\IsR w' t (dS (de u.x v.x) (fx (de u.y v.y)))/\Below w13.heap.size w13 w':=lA _ _ _ _ _ ((hv1.below HN2).below HN3) hv3 hm.e.h0 hm.e.h1 hm.e.f1 hm.e.f2 hm.e.f3 hm.e.f4;refine hp.mono ?_;clear hp;rintro e w14 ⟨v4,rfl,hv4,HN4⟩;have hB4:=LK hB3 HN4;refine hK _ _ ⟨⟨_,hB4.mono hz⟩,rfl⟩ ?_;clear hK K;try simp only[Act.put,It,Is,Ir,Iq,Iu,Iv]
  refine ak 4 12 _ _ _ (by kernel_rfl) ?_;simp only[Ix,IC,Iy,IA];repeat (go_big_quiet_step (fail))
  refine wpQuiet_nil ?_;refine ap rfl rfl (fun K hK=>?_);go_simp;have hp:Calls Tryz.prog 166 #[.agg #[a,b,c],.agg #[d',e',f']] w14 fun e w'=>∃ t,e=.returned t/\IsR w' t (de u.x v.y)/\Below w14.heap.size w14 w':=iE _ _ _ _ _ (HAX.out.below hB4) (HBY.out.below hB4) hm.c.h0 hm.c.h1 hm.c.f1 hm.c.f2;refine hp.mono ?_;clear hp;rintro e w15 ⟨v5,rfl,hv5,HN5⟩;have hB5:=LK hB4 HN5;refine hK _ _ ⟨⟨_,hB5.mono hz⟩,rfl⟩ ?_;clear hK K;try simp only[Act.put,It,Is,Ir,Iq,Iu,Iv]
  refine ak 4 17 _ _ _ (by kernel_rfl) ?_;simp only[Ix,IC,Iy,IA];repeat (go_big_quiet_step (fail))
  refine wpQuiet_nil ?_;refine ap rfl rfl (fun K hK=>?_);go_simp;have hp:Calls Tryz.prog 166 #[.agg #[d,e,f],.agg #[a',b',c']] w15 fun e w'=>∃ t,e=.returned t/\IsR w' t (de u.y v.x)/\Below w15.heap.size w15 w':=iE _ _ _ _ _ (HAY.out.below hB5) (HBX.out.below hB5) hm.d.h0 hm.d.h1 hm.d.f1 hm.d.f2;refine hp.mono ?_;clear hp;rintro e w16 ⟨v6,rfl,hv6,HN6⟩;have hB6:=LK hB5 HN6;refine hK _ _ ⟨⟨_,hB6.mono hz⟩,rfl⟩ ?_;clear hK K;try simp only[Act.put,It,Is,Ir,Iq,Iu,Iv]
  refine ap rfl rfl (fun K hK=>?_);go_simp;have hp:Calls Tryz.prog 144 #[v5,v6] w16 fun e w'=>∃ t,e=.returned t/\IsR w' t (dS (de u.x v.y) (de u.y v.x))/\Below w16.heap.size w16 w':=lA _ _ _ _ _ (hv5.below HN6) hv6 hm.f.h0 hm.f.h1 hm.f.f1 hm.f.f2 hm.f.f3 hm.f.f4;refine hp.mono ?_;clear hp;rintro e w17 ⟨v7,rfl,hv7,HN7⟩;have hB7:=LK hB6 HN7;refine hK _ _ ⟨⟨_,hB7.mono hz⟩,rfl⟩ ?_;clear hK K;try simp only[Act.put,It,Is,Ir,Iq,Iu,Iv]
  have hv4':=((hv4.below HN5).below HN6).below HN7;rw[show dS (de u.x v.x) (fx (de u.y v.y))=z.x by rw[HZ.out,fZ,if_neg HC.out]] at hv4';rw[show dS (de u.x v.y) (de u.y v.x)=z.y by rw[HZ.out,fZ,if_neg HC.out]] at hv7;obtain⟨xm,xp,xl,xc,xq,xk,xd,rfl⟩:=hv4'.form;obtain⟨ym,yp,yl,yc,yq,yk,yd,rfl⟩:=hv7.form;have B8:=B3.out.below hB7;have k0:=B8.cell 0;have k1:=B8.cell 1;have k2:=B8.cell 2;have k3:=B8.cell 3;have k4:=B8.cell 4;have k5:=B8.cell 5;have f0:=B8.fr 0;have f1:=B8.fr 1;have f2:=B8.fr 2;have f3:=B8.fr 3;have f4:=B8.fr 4;have f5:=B8.fr 5;have P:=Ip (B8.putV hv4' hv7);refine ak 1 23 _ _ _ (by kernel_rfl) ?_;simp only[Ix,IC,Iy,IA];repeat (go_big_quiet_step (fail))
  refine wpQuiet_nil ?_;refine ap rfl rfl (fun K hK=>?_);go_simp;refine hK undef _ ⟨⟨_,P.out.2.2 _ _ (hB7.mono hz) (by omega)⟩,rfl⟩ ?_;clear hK K;try simp only[Act.put,It,Is,Ir,Iq,Iu,Iv]
  refine aE ?_;have M8:=Ip (P.out.2.2 _ _ (LK MD.out hB7) (by omega));go_wp2_with fail
  have q0:=P.out.1.cell 0;have q1:=P.out.1.cell 1;have q2:=P.out.1.cell 2;have q3:=P.out.1.cell 3;have q4:=P.out.1.cell 4;have q5:=P.out.1.cell 5;refine LM (v:=.agg #[.bool xm,.slice xp xl xc,.slice xq xk xd,.bool ym,.slice yp yl yc,.slice yq yk yd]) (by simp[results,Tryz.results116,go_sem,eU] at q0 q1 q2 q3 q4 q5 |-;simp[results,Tryz.results116,go_sem,q0,q1,q2,q3,q4,q5]) rfl ⟨_,rfl,P.out.2.1,M8.out⟩
open Dg
def rt (q:Rat):Rt:=⟨decide (q.num<0),q.num.natAbs,q.den⟩
def sgz (m:Bool) (n:Nat):Int:=if m then -(n:Int) else n
theorem dQ (q:Rat):0<(rt q).d:=q.den_pos
theorem qT (q:Rat):sgz (rt q).minus (rt q).n=q.num:=by
 unfold rt sgz;by_cases h:q.num<0
 ·simp[h];omega
 ·simp[h];omega
theorem Ah (m:Bool) (n:Nat):(sgz m n).natAbs=n:=by unfold sgz;cases m<;>simp
theorem FU (m:Bool) (n k:Nat) (h:k ∣ n):sgz m n / (k:Int)=sgz m (n / k):=by
 unfold sgz
 cases m
 ·simp
 ·simp only[if_true];rw[Int.neg_ediv_of_dvd (Int.natCast_dvd_natCast.2 h)];simp
theorem FW (m k:Bool) (x y:Nat):sgz (m != k) (x*y)=sgz m x*sgz k y:=by
 cases m<;>cases k<;>simp[sgz,Kd,Int.neg_mul,Int.mul_neg]
theorem ot (m:Bool) (x y:Nat):sgz m (x*y)=sgz m x*y:=by
 cases m<;>simp[sgz,Kd,Int.neg_mul]
theorem mR (m:Bool) (n d:Nat) (h:0<d):dP m n d=rt (mkRat (sgz m n) d):=by
 have e:d.gcd (sgz m n).natAbs=Nat.gcd n d:=by rw[Ah,Nat.gcd_comm]
 unfold dP rt;by_cases hn:n=0
 ·subst hn;have h0:sgz m 0=0:=by cases m<;>rfl
  rw[if_pos rfl,h0,Rat.zero_mkRat];rfl
 ·rw[if_neg hn];have hg:0<Nat.gcd n d:=JH _ h
  have h1:(mkRat (sgz m n) d).num=sgz m (n / Nat.gcd n d):=by
   rw[Rat.num_mkRat,if_neg (by omega),e,FU _ _ _ (Ld n d)]
  have h2:(mkRat (sgz m n) d).den=d / Nat.gcd n d:=by rw[Rat.den_mkRat,if_neg (by omega),e]
  rw[h1,h2,Ah];have h3:0<n / Nat.gcd n d:=Ls (Nat.gcd_le_left _ (by omega)) hg;congr 1;generalize n / Nat.gcd n d=x at h3
  cases m<;>simp[sgz]<;>omega
theorem FT (ma:Bool) (x:Nat) (mb:Bool) (y:Nat):sgz (pi ma x mb y).1 (pi ma x mb y).2=sgz ma x+sgz mb y:=by
 unfold pi
 cases ma<;>cases mb<;>simp only[if_true,if_false,IW,reduceCtorEq]<;>(try split)<;>simp[sgz]<;>omega
theorem gE (a b:Rat):dS (rt a) (rt b)=rt (a+b):=by
 unfold dS;rw[mR _ _ _ (IH (dQ a) (dQ b)),Rat.add_def',FT,ot,ot,qT,qT];rfl
theorem gU (a b:Rat):de (rt a) (rt b)=rt (a*b):=by
 unfold de;rw[mR _ _ _ (IH (dQ a) (dQ b)),Rat.mul_def',FW,qT,qT];rfl
theorem gq (a:Rat):fx (rt a)=rt (-a):=by
 unfold fx rt;simp only[Rat.neg_num,Rat.neg_den,Kt];congr 1;rw[Kc];simp only[IR,Bool.not_eq_true',decide_eq_false_iff_not,decide_eq_true_eq];omega
def Dq (r:Rt):Rt:=⟨r.minus,r.d,r.n⟩
theorem zP {a:Rat} (h:a≠0):Dq (rt a)=rt a⁻¹:=by
 have h0:a.num≠0:=fun h'=>h (Rat.num_eq_zero.1 h');unfold Dq rt;simp only[Rat.num_inv,Rat.den_inv,if_neg h0];have hd:(0:Int)<a.den:=by exact_mod_cast a.den_pos
 rcases Int.lt_or_lt_of_ne h0 with h1 | h1
 ·rw[Int.sign_eq_neg_one_of_neg h1];simp[h1];omega
 ·rw[Int.sign_eq_one_of_pos h1];simp;omega
theorem bB (a:Rat):(rt a).n=0↔a=0:=by unfold rt;simp[Rat.num_eq_zero]
theorem ut (a:Rat):(rt a).minus=true↔a<0:=by
 unfold rt;simp[Rat.lt_iff]
def eL (a b:Rat):Int:=if a=b then 0 else if a<b then -1 else 1
theorem tH (a b:Rat):Fd (rt a) (rt b)=eL a b:=by
 unfold Fd eL;rw[gq,gE];have e1:(rt (a+-b)).n=0↔a=b:=by rw[bB];constructor<;>intro h<;>grind
 have e2:(rt (a+-b)).minus=true↔a<b:=by rw[ut];constructor<;>intro h<;>grind
 by_cases h1:a=b
 ·rw[if_pos (e1.2 h1),if_pos h1]
 ·rw[if_neg (fun h=>h1 (e1.1 h)),if_neg h1];by_cases h2:a<b
  ·rw[if_pos (e2.2 h2),if_pos h2]
  ·rw[if_neg (fun h=>h2 (e2.1 h)),if_neg h2]
structure Sz (k:Nat) (r:Rt):Prop where
 n:r.n<10 ^ k
 p:0<r.d
 d:r.d<10 ^ k
theorem Sz.mono {k l:Nat}{r:Rt} (h:Sz k r) (hk:k<=l):Sz l r :=
 have:=IQ (n:=10) (by decide) hk
 ⟨Iz h.n this,h.p,Iz h.d this⟩
theorem pL {n k:Nat} (h:n<10 ^ k) (hk:k<=800000):Few n:=by
 unfold Few;refine Jb (aZ (k:=k / 9+1) aT (Iz h ?_)) (by omega);have e:BB ^ (k / 9+1)=10 ^ (9*(k / 9+1)):=by rw[JP];rfl
 rw[e];exact IQ (by decide) (by omega)
theorem dK {a b k l:Nat} (h:a<10 ^ k) (h':b<10 ^ l):a*b<10 ^ (k+l):=by
 rw[JX];rcases Jd b with rfl | hb
 ·exact IH (I9 (by decide)) (I9 (by decide))
 ·exact Iz (Ka h hb) (IV _ (JI h'))
theorem Ek (m:Bool) (n d:Nat):(dP m n d).n<=n:=by
 unfold dP
 split
 ·exact IF _
 ·exact J5 _ _
theorem Ej (m:Bool) (n d:Nat) (h:0<d):(dP m n d).d<=d:=by
 unfold dP
 split
 ·exact h
 ·exact J5 _ _
theorem Sz.mul {k l:Nat}{r s:Rt} (h:Sz k r) (h':Sz l s):Sz (k+l) (de r s) :=
 have hp:=IH h.p h'.p
 ⟨Jb (Ek _ _ _) (dK h.n h'.n),mQ hp,Jb (Ej _ _ _ hp) (dK h.d h'.d)⟩
theorem zl {a b k l:Nat} (h:a<10 ^ (k+l)) (h':b<10 ^ (l+k)):a+b<10 ^ (k+l+1):=by
 rw[KQ l k] at h';have:=IN (n:=10) (m:=k+l);omega
theorem Sz.plus {k l:Nat}{r s:Rt} (h:Sz k r) (h':Sz l s):Sz (k+l+1) (dS r s):=by
 have hp:=IH h.p h'.p;have h1:=dK h.n h'.d;have h2:=dK h'.n h.d;refine⟨Jb (Ek _ _ _) (Jb (zj _ _ _ _) (zl h1 h2)),mQ hp,Jb (Ej _ _ _ hp) (Iz (dK h.d h'.d) (IQ (by decide) (by omega)))⟩
theorem Sz.neg {k:Nat}{r:Rt} (h:Sz k r):Sz k (fx r):=⟨h.n,h.p,h.d⟩
theorem Sz.inv {k:Nat}{r:Rt} (h:Sz k r) (h0:0<r.n):Sz k (Dq r):=⟨h.d,h0,h.n⟩
theorem Sz.zero {k:Nat} (h:1<=k):Sz k ⟨false,0,1⟩ :=
 have:10 ^ 1<=10 ^ k:=IQ (by decide) h
 ⟨by show 0<10 ^ k;omega,Nat.one_pos,by show 1<10 ^ k;omega⟩
theorem Sz.fewR {k l:Nat}{r s:Rt} (h:Sz k r) (h':Sz l s) (hk:k+l+1<=800000):xB r s :=
 have h1:=dK h.n h'.d;have h2:=dK h'.n h.d
 ⟨h.p,h'.p,pL h1 (by omega),pL h2 (by omega),pL (zl h1 h2) hk,pL (dK h.d h'.d) (by omega)⟩
theorem Sz.fewM {k l:Nat}{r s:Rt} (h:Sz k r) (h':Sz l s) (hk:k+l<=800000):Cf r s :=
 ⟨h.p,h'.p,pL (dK h.n h'.n) hk,pL (dK h.d h'.d) hk⟩
structure SzV (k:Nat) (z:Vl):Prop where
 x:Sz k z.x
 y:Sz k z.y
theorem SzV.mono {k l:Nat}{z:Vl} (h:SzV k z) (hk:k<=l):SzV l z:=⟨h.x.mono hk,h.y.mono hk⟩
theorem SzV.plus {k l:Nat}{u v:Vl} (h:SzV k u) (h':SzV l v):SzV (k+l+1) (qC u v):=⟨h.x.plus h'.x,h.y.plus h'.y⟩
theorem SzV.neg {k:Nat}{u:Vl} (h:SzV k u):SzV k (wk u):=⟨h.x.neg,h.y.neg⟩
theorem SzV.conj {k:Nat}{u:Vl} (h:SzV k u):SzV k (rZ u):=⟨h.x,h.y.neg⟩
theorem SzV.plain {k:Nat}{r:Rt} (h:Sz k r) (hk:1<=k):SzV k (jJ r):=⟨h,.zero hk⟩
theorem SzV.times {k l:Nat}{u v:Vl} (h:SzV k u) (h':SzV l v):SzV (2*(k+l)+1) (fZ u v):=by
 unfold fZ
 split
 ·exact⟨(h.x.mul h'.x).mono (by omega),.zero (by omega)⟩
 ·exact⟨((h.x.mul h'.x).plus (h.y.mul h'.y).neg).mono (by omega),((h.x.mul h'.y).plus (h.y.mul h'.x)).mono (by omega)⟩
theorem SzV.fewV {k l:Nat}{u v:Vl} (h:SzV k u) (h':SzV l v) (hk:2*(k+l)+1<=800000):FewV u v :=
 ⟨h.x.fewM h'.x (by omega),h.y.fewM h'.y (by omega),h.x.fewM h'.y (by omega),h.y.fewM h'.x (by omega),(h.x.mul h'.x).fewR (h.y.mul h'.y).neg (by omega),(h.x.mul h'.y).fewR (h.y.mul h'.x) (by omega)⟩
def n9 (u:Vl):Rt:=dS (de u.x u.x) (de u.y u.y)
theorem SzV.norm {k:Nat}{u:Vl} (h:SzV k u):Sz (4*k+1) (n9 u):=((h.x.mul h.x).plus (h.y.mul h.y)).mono (by omega)
def DR (u v:Vl):Vl:=fZ (fZ u (rZ v)) (jJ (Dq (n9 v)))
structure CQ where
 re:Rat
 im:Rat
deriving DecidableEq
def ct (z:CQ):Vl:=⟨rt z.re,rt z.im⟩
def CQ.real (q:Rat):CQ:=⟨q,0⟩
def CQ.add (a b:CQ):CQ:=⟨a.re+b.re,a.im+b.im⟩
def CQ.neg (a:CQ):CQ:=⟨-a.re,-a.im⟩
def CQ.sub (a b:CQ):CQ:=⟨a.re-b.re,a.im-b.im⟩
def CQ.mul (a b:CQ):CQ:=⟨a.re*b.re-a.im*b.im,a.re*b.im+a.im*b.re⟩
def CQ.norm (a:CQ):Rat:=a.re*a.re+a.im*a.im
def CQ.div (a b:CQ):CQ:=⟨(a.re*b.re+a.im*b.im)*b.norm⁻¹,(a.im*b.re-a.re*b.im)*b.norm⁻¹⟩
def CQ.conj (a:CQ):CQ:=⟨a.re,-a.im⟩
theorem eQ:rt 0=⟨false,0,1⟩:=rfl
theorem dX (q:Rat):jJ (rt q)=ct (CQ.real q):=by unfold jJ ct CQ.real;rw[eQ]
theorem gF (a b:CQ):qC (ct a) (ct b)=ct (a.add b):=by unfold qC ct CQ.add;rw[gE,gE]
theorem zW (a:CQ):wk (ct a)=ct a.neg:=by unfold wk ct CQ.neg;rw[gq,gq]
theorem CL (a:CQ):rZ (ct a)=ct a.conj:=by unfold rZ ct CQ.conj;rw[gq]
theorem qi (a b:CQ):zS (ct a) (ct b)=ct (a.sub b):=by
 unfold zS;rw[zW,gF];unfold CQ.add CQ.neg CQ.sub;rw[Rat.sub_eq_add_neg,Rat.sub_eq_add_neg]
theorem dA (a b:CQ):fZ (ct a) (ct b)=ct (a.mul b):=by
 unfold fZ
 split
 ·rename_i h
  have h1:a.im=0:=(bB _).1 h.1;have h2:b.im=0:=(bB _).1 h.2
  show jJ (de (rt a.re) (rt b.re))=_
  rw[gU,dX];unfold CQ.real CQ.mul;rw[h1,h2];congr 1<;>grind
 ·show (⟨dS (de (rt a.re) (rt b.re)) (fx (de (rt a.im) (rt b.im))),dS (de (rt a.re) (rt b.im)) (de (rt a.im) (rt b.re))⟩:Vl)=_
  rw[gU,gU,gU,gU,gq,gE,gE];unfold ct CQ.mul;rw[Rat.sub_eq_add_neg]
theorem qw (a:CQ):n9 (ct a)=rt a.norm:=by
 show dS (de (rt a.re) (rt a.re)) (de (rt a.im) (rt a.im))=_
 rw[gU,gU,gE];rfl
theorem nA {a:CQ} (h:a.norm=0):a=⟨0,0⟩:=by
 obtain⟨x,y⟩:=a;unfold CQ.norm at h;simp only at h
 have h1:0<=x*x:=by
  rcases Rat.le_total (a:=0) (b:=x) with h | h
  ·exact Rat.mul_nonneg h h
  ·have:=Rat.mul_nonneg (a:=-x) (b:=-x) (by grind) (by grind);grind
 have h2:0<=y*y:=by
  rcases Rat.le_total (a:=0) (b:=y) with h | h
  ·exact Rat.mul_nonneg h h
  ·have:=Rat.mul_nonneg (a:=-y) (b:=-y) (by grind) (by grind);grind
 have h3:x*x=0:=by grind
 have h4:y*y=0:=by grind
 rcases Rat.mul_eq_zero.1 h3 with h5 | h5<;>rcases Rat.mul_eq_zero.1 h4 with h6 | h6<;>rw[h5,h6]
theorem kz {a b:CQ} (h:b≠⟨0,0⟩):DR (ct a) (ct b)=ct (a.div b):=by
 have h0:b.norm≠0:=fun h'=>h (nA h');unfold DR;rw[CL,dA,qw,zP h0,dX,dA];congr 1;unfold CQ.real CQ.mul CQ.conj CQ.div;congr 1<;>grind
structure IsK (w:World) (v:Value) (z:CQ):Prop where
 v:IsV w v (ct z)
 s:SzV 10000 (ct z)
theorem IsK.below {w w':World}{v:Value}{z:CQ} (h:IsK w v z) (hb:Below w.heap.size w w'):IsK w' v z:=⟨h.v.below hb,h.s⟩
def xy (w:World) (a b c d e f a' b' c' d' e' f':Value):World:=((w.alloc (.cells #[a,b,c,d,e,f] 93)).alloc (.cells #[a',b',c',d',e',f'] 93)).alloc (.cells #[.bool false,.slice none 0 0,.slice none 0 0,.bool false,.slice none 0 0,.slice none 0 0] 93)
theorem x9 (w:World) (a b c d e f a' b' c' d' e' f':Value):cC (xy w a b c d e f a' b' c' d' e' f') w.heap.size a b c d e f/\cC (xy w a b c d e f a' b' c' d' e' f') (w.heap.size+1) a' b' c' d' e' f' /\
  du (xy w a b c d e f a' b' c' d' e' f') (w.heap.size+1+1) (.bool false) (.slice none 0 0) (.slice none 0 0) (.bool false) (.slice none 0 0) (.slice none 0 0)/\Below w.heap.size w (xy w a b c d e f a' b' c' d' e' f'):=by
 unfold xy;have q1:=cC.new w a b c d e f 93;have m1:=aj w (.cells #[a,b,c,d,e,f] 93);have z1:=size_alloc w (.cells #[a,b,c,d,e,f] 93);generalize w.alloc (.cells #[a,b,c,d,e,f] 93)=w1 at *
 have q2:=cC.new w1 a' b' c' d' e' f' 93;have m2:=aj w1 (.cells #[a',b',c',d',e',f'] 93);have z2:=size_alloc w1 (.cells #[a',b',c',d',e',f'] 93);generalize w1.alloc (.cells #[a',b',c',d',e',f'] 93)=w2 at *
 have q3:=du.new w2 (.bool false) (.slice none 0 0) (.slice none 0 0) (.bool false) (.slice none 0 0) (.slice none 0 0) nofun nofun nofun nofun nofun nofun;have m3:=aj w2 (.cells #[.bool false,.slice none 0 0,.slice none 0 0,.bool false,.slice none 0 0,.slice none 0 0] 93);rw[z2,z1] at q3;rw[z1] at q2;have M12:=LK m1 m2;exact⟨(q1.below m2).below m3,q2.below m3,q3,LK M12 m3⟩
def wU (w:World) (k:Nat) (a b c:Value):World:=((w.setCell ⟨k,0,none⟩ a).setCell ⟨k,1,none⟩ b).setCell ⟨k,2,none⟩ c
theorem cJ.putR {w:World}{k:Nat}{a b c x1 x2 x3:Value}{r:Rt} (h:cJ w k a b c) (hx:IsR w (.agg #[x1,x2,x3]) r) :
  cJ (wU w k x1 x2 x3) k x1 x2 x3/\IsR (wU w k x1 x2 x3) (.agg #[x1,x2,x3]) r/\∀ B w0,Below B w0 w->B<=k->Below B w0 (wU w k x1 x2 x3):=by
 obtain⟨xn,xd,e1,hx1,hx2,hx3,hx4⟩:=hx;obtain⟨rfl,rfl,rfl⟩:x1=.bool r.minus/\x2=xn/\x3=xd:=by simpa using e1
 have P:=h.put (a':=.bool r.minus) (b':=x2) (c':=x3) nofun (IsU.not_int hx1) (IsU.not_int hx2);refine⟨P.1,⟨_,_,rfl,P.2.1 _ _ hx1,P.2.1 _ _ hx2,hx3,hx4⟩,fun B w0 hb hk=>?_⟩;unfold wU;exact ((hb.setCell (p:=⟨k,0,none⟩) hk _).setCell (p:=⟨k,1,none⟩) hk _).setCell (p:=⟨k,2,none⟩) hk _
theorem Ds (va:Value) (r:Rt) (w:World) (ha:IsR w va r) :
  Calls Tryz.prog 165 #[va] w fun e w'=>∃ t,e=.returned t/\IsR w' t (Dq r)/\Below w.heap.size w w':=by
 obtain⟨n,d,rfl,hn,hd,hf1,hf2⟩:=ha;obtain⟨pn,cn,rfl,-⟩:=id hn;obtain⟨pd,cd,rfl,-⟩:=id hd;go_enter Tryz.func165,Tryz.ntmps165;go_wp2;have m1:=aj w (.cells #[.bool r.minus,.slice pn (aq BB r.n).length cn,.slice pd (aq BB r.d).length cd] 89);have m2:=aj (w.alloc (.cells #[.bool r.minus,.slice pn (aq BB r.n).length cn,.slice pd (aq BB r.d).length cd] 89)) (.cells #[.bool r.minus,.slice pd (aq BB r.d).length cd,.slice pn (aq BB r.n).length cn] 89);have M:=LK m1 m2;refine LM (v:=.agg #[.bool r.minus,.slice pd (aq BB r.d).length cd,.slice pn (aq BB r.n).length cn]) (by simp[results,Tryz.results165,go_sem]) rfl ⟨_,rfl,⟨_,_,rfl,hd.below M,hn.below M,hf2,hf1⟩,M⟩
theorem Ig (va:Value) (u:Vl) (k:Nat) (w:World) (ha:IsV w va u) (hs:SzV k u) (hk:4*k+1<=800000) :
  Calls Tryz.prog 164 #[va] w fun e w'=>∃ t,e=.returned t/\IsR w' t (n9 u)/\Below w.heap.size w w':=by
 obtain⟨a,b,c,d,e,f,rfl,hax,hay⟩:=ha;have mx:=hs.x.fewM hs.x (by omega);have my:=hs.y.fewM hs.y (by omega);have mz:=(hs.x.mul hs.x).fewR (hs.y.mul hs.y) (by omega);go_enter Tryz.func164,Tryz.ntmps164;go_upto_region 1 with fail
 have q1:=cC.new w a b c d e f 93;have m1:=aj w (.cells #[a,b,c,d,e,f] 93);have z1:=size_alloc w (.cells #[a,b,c,d,e,f] 93);generalize w.alloc (.cells #[a,b,c,d,e,f] 93)=w1 at *
 have q3:=cJ.new w1 (.bool false) (.slice none 0 0) (.slice none 0 0) nofun nofun nofun;have m3:=aj w1 (.cells #[.bool false,.slice none 0 0,.slice none 0 0] 89);generalize w1.alloc (.cells #[.bool false,.slice none 0 0,.slice none 0 0] 89)=w3 at *
 have m4:Below w3.heap.size w3 w3.drew:=(LN _ _).drew;rw[z1] at q3;refine av (fun w'=>∃ x:az (w.heap.size+1) w3.drew,w'=x.w) (fun i=>i == 4||i == 9||i == 10||i == 11) (by kernel_rfl) (by kernel_rfl) ⟨⟨_,LN _ _⟩,rfl⟩ ?_;generalize w3.drew=wd at *
 have hB0:Below wd.heap.size wd wd:=LN _ _;have M13:=LK m1 m3;have MD:=Ip (LK M13 m4);have B1:=(q1.below m3).below m4;have B3:=Ip (q3.below m4);have hz:w.heap.size+1<=wd.heap.size:=by have:=B3.out.lt;omega
 have e1:=fun x:az (w.heap.size+1) wd=>B1.at x.h (by omega);have a0:=fun x=>(e1 x).c0;have a01:=fun x=>(e1 x).c1;have a02:=fun x=>(e1 x).c2;have a03:=fun x=>(e1 x).c3;have a04:=fun x=>(e1 x).c4;have a05:=fun x=>(e1 x).c5;have HAX:=Ip (hax.below MD.out);have HAY:=Ip (hay.below MD.out);clear e1 q1 q3 m1 m3 m4 z1 M13 hax hay B1;refine ak 4 0 _ _ _ (by kernel_rfl) ?_;simp only[Ix,IC,Iy,IA];repeat (go_big_quiet_step (fail))
 refine wpQuiet_nil ?_;refine ap rfl rfl (fun K hK=>?_);go_simp;refine (iE _ _ _ _ _ HAX.out HAX.out mx.h0 mx.h1 mx.f1 mx.f2).mono ?_;rintro e w4 ⟨v4,rfl,hv4,hb4⟩;refine hK _ _ ⟨⟨_,hb4.mono hz⟩,rfl⟩ ?_;clear hK K;try simp only[Act.put,It,Is,Ir,Iq,Iu,Iv]
 refine ak 4 5 _ _ _ (by kernel_rfl) ?_;simp only[Ix,IC,Iy,IA];repeat (go_big_quiet_step (fail))
 refine wpQuiet_nil ?_;refine ap rfl rfl (fun K hK=>?_);go_simp;refine (iE _ _ _ _ _ (HAY.out.below hb4) (HAY.out.below hb4) my.h0 my.h1 my.f1 my.f2).mono ?_;rintro e w5 ⟨v5,rfl,hv5,hb5⟩;have hB5:=LK hb4 hb5;refine hK _ _ ⟨⟨_,hB5.mono hz⟩,rfl⟩ ?_;clear hK K;try simp only[Act.put,It,Is,Ir,Iq,Iu,Iv]
 refine ap rfl rfl (fun K hK=>?_);go_simp;refine (lA _ _ _ _ _ (hv4.below hb5) hv5 mz.h0 mz.h1 mz.f1 mz.f2 mz.f3 mz.f4).mono ?_;rintro e w6 ⟨v6,rfl,hv6,hb6⟩;have hB6:=LK hB5 hb6;refine hK _ _ ⟨⟨_,hB6.mono hz⟩,rfl⟩ ?_;clear hK K;try simp only[Act.put,It,Is,Ir,Iq,Iu,Iv]
 obtain⟨xm,xp,xl,xc,xq,xk,xd,rfl⟩:=hv6.form;have B8:=B3.out.below hB6;have k0:=B8.c0;have k1:=B8.c1;have k2:=B8.c2;have f0:=B8.fr 0;have f1:=B8.fr 1;have f2:=B8.fr 2;have P:=Ip (B8.putR hv6);refine ap rfl rfl (fun K hK=>?_);go_simp;refine hK undef _ ⟨⟨_,P.out.2.2 _ _ (hB6.mono hz) (Iw _)⟩,rfl⟩ ?_;clear hK K;try simp only[Act.put,It,Is,Ir,Iq,Iu,Iv]
 refine aE ?_;have M8:=Ip (P.out.2.2 _ w (LK MD.out hB6) (by omega));go_wp2_with fail
 have q0:=P.out.1.c0;have q1:=P.out.1.c1;have q2:=P.out.1.c2;refine LM (v:=.agg #[.bool xm,.slice xp xl xc,.slice xq xk xd]) (by simp[wU] at q0 q1 q2 |-;simp[results,Tryz.results164,go_sem,q0,q1,q2]) rfl ⟨_,rfl,P.out.2.1,M8.out⟩
theorem ug (va vb:Value) (u v:Vl) (k l:Nat) (w:World) (ha:IsV w va u) (hb:IsV w vb v) (hs:SzV k u) (hs':SzV l v) (h0:0<(n9 v).n) (hk:4*(k+l)+8*l+10<=800000) :
  Calls Tryz.prog 115 #[va,vb] w fun e w'=>∃ t,e=.returned t/\IsV w' t (DR u v)/\Below w.heap.size w w':=by
 obtain⟨a,b,c,d,e,f,rfl,hax,hay⟩:=ha;obtain⟨a',b',c',d',e',f',rfl,hbx,hby⟩:=hb;have F1:=hs.fewV hs'.conj (by omega);have F2:=(hs.times hs'.conj).fewV (SzV.plain (hs'.norm.inv h0) (by omega)) (by omega);go_enter Tryz.func115,Tryz.ntmps115;go_upto_region 1 with fail
 have E:=x9 w a b c d e f a' b' c' d' e' f';unfold xy at E;generalize ((w.alloc (.cells #[a,b,c,d,e,f] 93)).alloc (.cells #[a',b',c',d',e',f'] 93)).alloc (.cells #[.bool false,.slice none 0 0,.slice none 0 0,.bool false,.slice none 0 0,.slice none 0 0] 93)=w3 at *
 have m4:Below w3.heap.size w3 w3.drew:=(LN _ _).drew;refine av (fun w'=>∃ x:az (w.heap.size+2) w3.drew,w'=x.w) (fun i=>i == 2||i == 3||i == 5||i == 6||i == 7||i == 8||i == 9) (by kernel_rfl) (by kernel_rfl) ⟨⟨_,LN _ _⟩,rfl⟩ ?_;generalize w3.drew=wd at *
 obtain⟨q1,q2,q3,MD⟩:=E;have MD:=Ip (LK MD m4);have B1:=q1.below m4;have B2:=q2.below m4;have B3:=Ip (q3.below m4);have hz:w.heap.size+2<=wd.heap.size:=by have:=B3.out.lt;omega
 have e1:=fun x:az (w.heap.size+2) wd=>B1.at x.h (by omega);have e2:=fun x:az (w.heap.size+2) wd=>B2.at x.h (by omega);have a0:=fun x=>(e1 x).c0;have a01:=fun x=>(e1 x).c1;have a02:=fun x=>(e1 x).c2;have a03:=fun x=>(e1 x).c3;have a04:=fun x=>(e1 x).c4;have a05:=fun x=>(e1 x).c5;have b0:=fun x=>(e2 x).c0;have b01:=fun x=>(e2 x).c1;have b02:=fun x=>(e2 x).c2;have b03:=fun x=>(e2 x).c3;have b04:=fun x=>(e2 x).c4;have b05:=fun x=>(e2 x).c5;have HA:=Ip (show IsV wd (.agg #[a,b,c,d,e,f]) u from⟨_,_,_,_,_,_,rfl,hax.below MD.out,hay.below MD.out⟩);have HB:=Ip (show IsV wd (.agg #[a',b',c',d',e',f']) v from⟨_,_,_,_,_,_,rfl,hbx.below MD.out,hby.below MD.out⟩);clear e1 e2 q1 q2 q3 m4 B1 B2 hax hay hbx hby;refine ak 2 0 _ _ _ (by kernel_rfl) ?_;simp only[Ix,IC,Iy,IA];repeat (go_big_quiet_step (fail))
 refine wpQuiet_nil ?_;refine ap rfl rfl (fun K hK=>?_);go_simp;refine (GJ _ _ _ HB.out).mono ?_;rintro e w4 ⟨v4,rfl,hv4,hb4⟩;refine hK _ _ ⟨⟨_,hb4.mono hz⟩,rfl⟩ ?_;clear hK K;try simp only[Act.put,It,Is,Ir,Iq,Iu,Iv]
 refine ap rfl rfl (fun K hK=>?_);go_simp;refine (jQ _ _ _ _ _ (HA.out.below hb4) hv4 F1).mono ?_;rintro e w5 ⟨v5,rfl,hv5,hb5⟩;have hB5:=LK hb4 hb5;refine hK _ _ ⟨⟨_,hB5.mono hz⟩,rfl⟩ ?_;clear hK K;try simp only[Act.put,It,Is,Ir,Iq,Iu,Iv]
 refine ak 1 4 _ _ _ (by kernel_rfl) ?_;simp only[Ix,IC,Iy,IA];repeat (go_big_quiet_step (fail))
 refine wpQuiet_nil ?_;refine ap rfl rfl (fun K hK=>?_);go_simp;refine (Ig _ _ l _ (HB.out.below hB5) hs' (by omega)).mono ?_;rintro e w6 ⟨v6,rfl,hv6,hb6⟩;have hB6:=LK hB5 hb6;refine hK _ _ ⟨⟨_,hB6.mono hz⟩,rfl⟩ ?_;clear hK K;try simp only[Act.put,It,Is,Ir,Iq,Iu,Iv]
 refine ap rfl rfl (fun K hK=>?_);go_simp;refine (Ds _ _ _ hv6).mono ?_;rintro e w7 ⟨v7,rfl,hv7,hb7⟩;have hB7:=LK hB6 hb7;refine hK _ _ ⟨⟨_,hB7.mono hz⟩,rfl⟩ ?_;clear hK K;try simp only[Act.put,It,Is,Ir,Iq,Iu,Iv]
 refine ap rfl rfl (fun K hK=>?_);go_simp;refine (fI _ _ _ hv7).mono ?_;rintro e w8 ⟨v8,rfl,hv8,hb8⟩;have hB8:=LK hB7 hb8;refine hK _ _ ⟨⟨_,hB8.mono hz⟩,rfl⟩ ?_;clear hK K;try simp only[Act.put,It,Is,Ir,Iq,Iu,Iv]
 refine ap rfl rfl (fun K hK=>?_);go_simp;have hv5':=((hv5.below hb6).below hb7).below hb8;refine (jQ _ _ _ _ _ hv5' hv8 F2).mono ?_;rintro e w9 ⟨v9,rfl,hv9,hb9⟩;have hB9:=LK hB8 hb9;refine hK _ _ ⟨⟨_,hB9.mono hz⟩,rfl⟩ ?_;clear hK K;try simp only[Act.put,It,Is,Ir,Iq,Iu,Iv]
 obtain⟨x1,x2,x3,y1,y2,y3,rfl,hx,hy⟩:=hv9;obtain⟨xm,xp,xl,xc,xq,xk,xd,hxe⟩:=hx.form;obtain⟨ym,yp,yl,yc,yq,yk,yd,hye⟩:=hy.form;obtain⟨rfl,rfl,rfl⟩:x1=.bool xm/\x2=.slice xp xl xc/\x3=.slice xq xk xd:=by simpa using hxe
 obtain⟨rfl,rfl,rfl⟩:y1=.bool ym/\y2=.slice yp yl yc/\y3=.slice yq yk yd:=by simpa using hye
 have B8:=B3.out.below hB9;have k0:=B8.cell 0;have k1:=B8.cell 1;have k2:=B8.cell 2;have k3:=B8.cell 3;have k4:=B8.cell 4;have k5:=B8.cell 5;have f0:=B8.fr 0;have f1:=B8.fr 1;have f2:=B8.fr 2;have f3:=B8.fr 3;have f4:=B8.fr 4;have f5:=B8.fr 5;have P:=Ip (B8.putV hx hy);refine ap rfl rfl (fun K hK=>?_);go_simp;refine hK undef _ ⟨⟨_,P.out.2.2 _ _ (hB9.mono hz) (by omega)⟩,rfl⟩ ?_;clear hK K;try simp only[Act.put,It,Is,Ir,Iq,Iu,Iv]
 refine aE ?_;have M8:=Ip (P.out.2.2 _ _ (LK MD.out hB9) (by omega));go_wp2_with fail
 have q0:=P.out.1.cell 0;have q1:=P.out.1.cell 1;have q2:=P.out.1.cell 2;have q3:=P.out.1.cell 3;have q4:=P.out.1.cell 4;have q5:=P.out.1.cell 5;refine LM (v:=.agg #[.bool xm,.slice xp xl xc,.slice xq xk xd,.bool ym,.slice yp yl yc,.slice yq yk yd]) (by simp[results,Tryz.results115,go_sem,eU] at q0 q1 q2 q3 q4 q5 |-;simp[results,Tryz.results115,go_sem,q0,q1,q2,q3,q4,q5]) rfl ⟨_,rfl,P.out.2.1,M8.out⟩
end Go.Proofs.YtlhpcoelfhjomaaGreatDoor
