/- L -/
import Derived.OrdersHeld
import Derived.Test.YtmakbmhlemhgeaaGreatDoorWReg
import Derived.Test.YtmakbmhlemhgeaaGreatDoorWNVal1
import Derived.Test.YtmakbmhlemhgeaaGreatDoorWB
set_option linter.all false
set_option maxRecDepth 100000
set_option maxHeartbeats 8000000
namespace Go.Proofs.YtmakbmhlemhgeaaGreatDoor
open Go.RowKit
section
variable {P : Program} {ops : Array Oper} {md : Region.Mode} {S : World -> Prop} {sq : Nat -> Bool} {Q : Act -> World -> Prop}
def noQ:Exit->Act->World->Prop:=fun _ _ _=>False
def jF:Op->Bool
 | .move _ | .assign _ | .pick _ _ _ | .load _ _ | .binOp _ _ _ _ _ | .unOp _ _ _ | .convert _ _ _ | .slice _ _ _ _ _ | .fieldAddr _ _ _ | .field _ _ _ | .indexAddr _ _ _ | .index _ _ _ | .extract _ _ | .makeFunc _ _ _ | .lookup _ _ _ _ | .makeInterface _ _ | .build _ _=>true
 | .call c=>match c.callee with
  | .builtin .len | .builtin .cap | .builtin .max | .builtin .min=>true
  | _=>false
 | _=>false
theorem mm {α:Type} (s:Sem α) (g:α->Value) (P:Program) (w:World):(∃ v w',((do pure (Next.value (g (<-s)))):Sem Next).run P w=.ok (.value v) w')\/∃ x w',((do pure (Next.value (g (<-s)))):Sem Next).run P w=.halt x w':=by
 rw[Sem.run_bind]
 cases s.run P w with
 | ok v w'=>exact .inl ⟨g v,w',rfl⟩
 | halt x w'=>exact .inr ⟨x,w',rfl⟩
theorem uS {ρ:Operand->Value}{o:Oper} (h:jF o.op=true) (w:World):(∃ v w',(execOp ρ o).run P w=.ok (.value v) w')\/∃ x w',(execOp ρ o).run P w=.halt x w':=by
 unfold execOp
 cases hop:o.op<;>rw[hop] at h<;>first
  | (simp[jF] at h;done)
  | exact .inl ⟨_,_,rfl⟩
  | exact mm _ id _ _
  | exact mm (asBool _) (fun b=>if b=true then _ else _) _ _
  | skip
 rename_i c
 cases hc:c.callee with
 | value f=>simp[jF,hc] at h
 | invoke r n=>simp[jF,hc] at h
 | builtin b =>
  cases b<;>first
   | (simp[jF,hc] at h;done)
   | (simp only[resolve,hc];exact mm _ id _ _)
def kq (P:Program) (ops:Array Oper) (S:World->Prop) (sq:Nat->Bool) (i:Nat) (K:Act->World->Prop) (a:Act) (w:World):Prop :=
 match ops[i]? with
 | none=>False
 | some o =>
  if Region.wanted o (yielded ops a.tmps)=true then
   if sq i=true then o.wp P a w (fun a' w'=>(∃ v,a'=a.put o.dst v)/\S w'/\K a' w') noQ
   else ∃ v,(∀ w,S w->(execOp a.eval o).run P w=.ok (.value v) w)/\K (a.put o.dst v) w
  else K (a.put o.dst undef) w
def wpX (P:Program) (md:Region.Mode) (ops:Array Oper) (S:World->Prop) (sq:Nat->Bool) (Q:Act->World->Prop):Nat->Array Bool->Act->World->Prop
 | 0,listed,a,w=>Region.ready md ops listed=[]/\Q a w
 | fuel+1,listed,a,w=>(Region.ready md ops listed=[]->Q a w)/\∀ i∈Region.ready md ops listed,kq P ops S sq i (wpX P md ops S sq Q fuel (listed.setIfInBounds i true)) a w
theorem lT {o:Oper}{a b:Act}{w:World}{K K':Act->World->Prop}{Q':Exit->Act->World->Prop} (he:execOp b.eval o=execOp a.eval o) (h:o.wp P a w K noQ) (hk:∀ v w',K (a.put o.dst v) w'->K' (b.put o.dst v) w') (hd:∀ a' w',K a' w'->∃ v,a'=a.put o.dst v):o.wp P b w K' Q':=by
 unfold Oper.wp at *
 rw[he];generalize (execOp a.eval o).run P w=r at *
 cases r with
 | ok n w' =>
  cases n<;>simp only[Oper.upon] at h |-
  case value u=>exact hk _ _ h
  case skip=>exact hk _ _ h
  case defer d =>
   obtain⟨v,hv⟩:=hd _ _ h;have:=congrArg Act.defers hv
   cases hdst:o.dst<;>simp[Act.put,hdst] at this
  case enter f args =>
   refine Calls.mono h fun e w'' he=>?_
   cases e with
   | returned u=>exact hk _ _ he
   | panicked c=>exact he.elim
   | outgrown=>obtain⟨_,_,h'⟩:=he;exact h'.elim
  case row row args=>exact Rows.mono h fun u w'' he=>hk _ _ he
 | halt x w' =>
  cases x<;>simp only[Oper.upon] at h |-
  case panic u=>exact h.elim
theorem Dm {o:Oper}{a:Act}{w:World}{K:Act->World->Prop} (h:o.wp P a w K noQ):∃ a' w',K a' w':=by
 unfold Oper.wp at h;generalize (execOp a.eval o).run P w=r at *
 cases r with
 | ok n w' =>
  cases n<;>simp only[Oper.upon] at h
  case value u=>exact⟨_,_,h⟩
  case skip=>exact⟨_,_,h⟩
  case defer d=>exact⟨_,_,h⟩
  case enter f args =>
   obtain⟨e,w',fr,he,-⟩:=h []
   cases e with
   | returned u=>exact⟨_,_,he⟩
   | panicked c=>exact he.elim
   | outgrown=>obtain⟨_,_,h'⟩:=he;exact h'.elim
  case row row args =>
   obtain⟨v,w',he,-⟩:=h default [];exact⟨_,_,he⟩
 | halt x w' =>
  cases x<;>simp only[Oper.upon] at h
  case panic u=>exact h.elim
theorem Ak {i:Nat}{a:Act}{w:World}{K K':Act->World->Prop}{Q':Exit->Act->World->Prop} (hS:S w) (h:∀ a w,S w->K a w->K' a w) (hh:kq P ops S sq i K a w):wpOp P ops Q' i K' a w:=by
 unfold kq at hh;unfold wpOp
 cases ho:ops[i]? with
 | none=>simp only[ho] at hh
 | some o =>
  simp only[ho] at hh |-
  split
  ·rename_i hw
   rw[if_pos hw] at hh;refine .inl ?_
   split at hh
   ·exact lT rfl hh (fun v w' h'=>h _ _ h'.2.1 h'.2.2) (fun a' w' h'=>h'.1)
   ·obtain⟨v,h1,h2⟩:=hh;unfold Oper.wp;rw[h1 w hS];exact h _ _ hS h2
  ·rename_i hw
   rw[if_neg hw] at hh;exact h _ _ hS hh
theorem pD {Q':Exit->Act->World->Prop} (hQ:∀ a w,Q a w->Q' .normal a w):∀ (fuel:Nat) (listed:Array Bool) (a:Act) (w:World),S w->wpX P md ops S sq Q fuel listed a w->wpAny P md ops Q' fuel listed a w
 | 0,_,_,_,_,h=>⟨h.1,hQ _ _ h.2⟩
 | fuel+1,_,_,_,hS,h=>⟨fun h0=>hQ _ _ (h.1 h0),fun i hi=>Ak hS (fun a' w' hS' h'=>pD hQ fuel _ a' w' hS' h') (h.2 i hi)⟩
def jj (P:Program) (ops:Array Oper) (S:World->Prop) (sq:Nat->Bool) (i:Nat) (o:Oper) (v:Value) (a:Act):Prop :=
 (Region.wanted o (yielded ops a.tmps)=true/\sq i=false/\∀ w,S w->(execOp a.eval o).run P w=.ok (.value v) w)\/(Region.wanted o (yielded ops a.tmps)=false/\v=undef)
theorem jj.of_same {i:Nat}{o:Oper}{v:Value}{a a':Act} (hy:jj P ops S sq i o v a) (he:execOp a'.eval o=execOp a.eval o) (hw:Region.wanted o (yielded ops a'.tmps)=Region.wanted o (yielded ops a.tmps)):jj P ops S sq i o v a':=by
 unfold jj at *
 rw[he,hw];exact hy
theorem jj.op {i:Nat}{o:Oper}{v:Value}{a:Act}{w:World}{K:Act->World->Prop} (hi:ops[i]?=some o) (hy:jj P ops S sq i o v a) (h:K (a.put o.dst v) w):kq P ops S sq i K a w:=by
 unfold kq;simp only[hi];rcases hy with ⟨h1,h2,h3⟩ | ⟨h1,rfl⟩
 ·rw[if_pos h1,if_neg (by rw[h2];decide)];exact⟨v,h3,h⟩
 ·rw[if_neg (by rw[h1];decide)];exact h
theorem qJ {i j:Nat}{oj:Oper}{listed:Array Bool} (hr:i∈Region.ready md ops listed) (hall:∀ e∈oj.after,Region.binds md e=true->listed.getD e.on false=true):∀ e∈oj.after,Region.binds md e=true->e.on≠i:=by
 intro e he hb heq;have h1:=hall e he hb;have h0:=(mem_ready.1 hr).1;rw[heq] at h1;rcases It i listed.size with h' | h'
 ·simp[h'] at h0 h1;rw[h0] at h1;cases h1
 ·simp[Jc h'] at h1
theorem yB {i:Nat}{oi:Oper}{v:Value} (hi:ops[i]?=some oi) (hsel:∀ (j:Nat) (o:Oper) cs b,ops[j]?=some o->o.op≠.select cs b) :
  ∀ (fuel:Nat) (listed:Array Bool) (a:Act) (w:World),
   (∀ j oj,ops[j]?=some oj->j≠i->listed.getD j true=false->(∀ e∈oj.after,Region.binds md e=true->e.on≠i)->oi.apart ops oj=true) ->
   i∈Region.ready md ops listed->jj P ops S sq i oi v a ->
   wpX P md ops S sq Q fuel (listed.setIfInBounds i true) (a.put oi.dst v) w->wpX P md ops S sq Q (fuel+1) listed a w:=by
 intro fuel
 induction fuel with
 | zero =>
  intro listed a w _ hr hy H;refine⟨fun h=>(by rw[h] at hr;cases hr),fun j hj=>?_⟩;by_cases hji:j=i
  ·subst hji;exact hy.op hi H
  ·have:=ready_mono hj hji;rw[H.1] at this
   cases this
 | succ fuel ih =>
  intro listed a w hfree hr hy H;refine⟨fun h=>(by rw[h] at hr;cases hr),fun j hj=>?_⟩;by_cases hji:j=i
  ·subst hji;exact hy.op hi H
  ·have hX:=H.2 j (ready_mono hj hji);obtain⟨hjun,oj,hoj,hall⟩:=mem_ready.1 hj;have hnot:=qJ (j:=j) hr hall;obtain⟨h1,h2,h3⟩:=Oper.apart_spec (hfree j oj hoj hji hjun hnot)
   have hfree':∀ k ok,ops[k]?=some ok->k≠i->(listed.setIfInBounds j true).getD k true=false->(∀ e∈ok.after,Region.binds md e=true->e.on≠i)->oi.apart ops ok=true:=fun k ok hk hki hun hno=>by
    refine hfree k ok hk hki ?_ hno;by_cases hjk:j=k
    ·subst hjk;exact hjun
    ·rw[getD_set_ne true hjk] at hun;exact hun
   have on:∀ u w',wpX P md ops S sq Q fuel ((listed.setIfInBounds i true).setIfInBounds j true) ((a.put oi.dst v).put oj.dst u) w'->wpX P md ops S sq Q (fuel+1) (listed.setIfInBounds j true) (a.put oj.dst u) w':=fun u w' h=>by
    refine ih (listed.setIfInBounds j true) (a.put oj.dst u) w' hfree' (ready_mono hr (Ne.symm hji)) (hy.of_same (execOp_put oi (fun cs b=>hsel i oi cs b hi) a oj.dst u h3) (wanted_put oi a oj.dst u h3)) ?_;rw[I7 _ _ hji,<-Act.put_comm a v u h2];exact h
   have he:=execOp_put oj (fun cs b=>hsel j oj cs b hoj) a oi.dst v h1;unfold kq at hX |-;simp only[hoj] at hX |-;rw[wanted_put oj a oi.dst v h1] at hX
   split
   ·rename_i hw
    rw[if_pos hw] at hX
    split
    ·rename_i hs
     rw[if_pos hs] at hX;exact lT he.symm hX (fun u w' h'=>⟨⟨u,rfl⟩,h'.2.1,on u w' h'.2.2⟩) (fun a' w' h'=>h'.1)
    ·rename_i hs
     rw[if_neg hs] at hX;obtain⟨u,hu,h'⟩:=hX;rw[he] at hu;exact⟨u,hu,on u w h'⟩
   ·rename_i hw
    rw[if_neg hw] at hX;exact on _ w hX
def wU (md:Region.Mode) (ops:Array Oper) (sq:Nat->Bool) (k:Nat):Prop :=
 ∀ j oj,ops[j]?=some oj->sq j=true->k<j->∃ e∈oj.after,Region.binds md e=true/\(e.on=k\/(k<e.on/\e.on<ops.size/\sq e.on=true))
theorem EE {k:Nat}{ok:Oper} (hk:ops[k]?=some ok) (hsel:∀ (j:Nat) (o:Oper) cs b,ops[j]?=some o->o.op≠.select cs b) (hs:sq k=true) (hc:wU md ops sq k) :
  ∀ (fuel:Nat) (listed:Array Bool) (a:Act) (w:World),
   (∀ j oj,ops[j]?=some oj->j≠k->listed.getD j true=false->(∀ e∈oj.after,Region.binds md e=true->e.on≠k)->ok.apart ops oj=true) ->
   (∀ j,j<k->listed.getD j true=true)->(∀ j,k<j->j<ops.size->sq j=true->listed.getD j true=false) ->
   k∈Region.ready md ops listed->Region.wanted ok (yielded ops a.tmps)=true->S w ->
   ok.wp P a w (fun a' w'=>(∃ v,a'=a.put ok.dst v)/\S w'/\wpX P md ops S sq Q fuel (listed.setIfInBounds k true) a' w') noQ ->
   wpX P md ops S sq Q (fuel+1) listed a w:=by
 intro fuel
 induction fuel with
 | zero =>
  intro listed a w _ _ _ hr hw _ H;refine⟨fun h=>(by rw[h] at hr;cases hr),fun j hj=>?_⟩;by_cases hjk:j=k
  ·subst hjk;unfold kq;simp only[hk];rw[if_pos hw,if_pos hs];exact H
  ·obtain⟨a',w',-,-,hX⟩:=Dm H;have:=ready_mono hj hjk;rw[hX.1] at this
   cases this
 | succ fuel ih =>
  intro listed a w hfree hpre hlat hr hw hS H;refine⟨fun h=>(by rw[h] at hr;cases hr),fun j hj=>?_⟩;by_cases hjk:j=k
  ·subst hjk;unfold kq;simp only[hk];rw[if_pos hw,if_pos hs];exact H
  ·obtain⟨hjun,oj,hoj,hall⟩:=mem_ready.1 hj;have hkun:=(mem_ready.1 hr).1
   have both:∀ i,listed.getD i true=false->listed.getD i false=false:=fun i h=>by
    rcases It i listed.size with h' | h'
    ·simp[h'] at h |-;exact h
    ·simp[Jc h'] at h
   have hsj:¬ sq j=true:=fun hsj=>by
    rcases Nat.lt_or_gt_of_ne hjk with h | h
    ·rw[hpre j h] at hjun;cases hjun
    ·obtain⟨e,he,hb,h'⟩:=hc j oj hoj hsj h;have h1:=hall e he hb;rcases h' with h' | ⟨h2,h3,h4⟩
     ·rw[h',both k hkun] at h1;cases h1
     ·rw[both _ (hlat _ h2 h3 h4)] at h1;cases h1
   have hnot:=qJ (j:=j) hr hall;obtain⟨h1,h2,h3⟩:=Oper.apart_spec (hfree j oj hoj hjk hjun hnot)
   have hfree':∀ i oi,ops[i]?=some oi->i≠k->(listed.setIfInBounds j true).getD i true=false->(∀ e∈oi.after,Region.binds md e=true->e.on≠k)->ok.apart ops oi=true:=fun i oi hi hik hun hno=>by
    refine hfree i oi hi hik ?_ hno;by_cases hji:j=i
    ·subst hji;exact hjun
    ·rw[getD_set_ne true hji] at hun;exact hun
   have he:=fun v=>execOp_put oj (fun cs b=>hsel j oj cs b hoj) a ok.dst v h1;have hx:=fun u=>execOp_put ok (fun cs b=>hsel k ok cs b hk) a oj.dst u h3
   have hkj:∀ j',k<j'->j'<ops.size->sq j'=true->(listed.setIfInBounds j true).getD j' true=false:=fun j' h4 h5 h6=>by
    rw[getD_set_ne true (fun h=>hsj (by rw[h];exact h6))];exact hlat j' h4 h5 h6
   have hpre':∀ j',j'<k->(listed.setIfInBounds j true).getD j' true=true:=fun j' h4=>by
    by_cases hjj:j=j'
    ·subst hjj;rw[hpre j h4] at hjun;cases hjun
    ·rw[getD_set_ne true hjj];exact hpre j' h4
   obtain⟨a',w',⟨v,rfl⟩,hS',hX⟩:=Dm H;have hXj:=hX.2 j (ready_mono hj hjk);unfold kq at hXj |-;simp only[hoj] at hXj |-;rw[wanted_put oj a ok.dst v h1,if_neg hsj] at hXj;by_cases hwj:Region.wanted oj (yielded ops a.tmps)=true
   ·rw[if_pos hwj] at hXj;rw[if_pos hwj,if_neg hsj];obtain⟨u,hu,-⟩:=hXj;rw[he v] at hu;refine⟨u,hu,ih (listed.setIfInBounds j true) (a.put oj.dst u) w hfree' hpre' hkj (ready_mono hr (Ne.symm hjk)) (by rw[wanted_put ok a oj.dst u h3];exact hw) hS ?_⟩;refine lT (hx u) H (fun v' w'' hv=>⟨⟨v',rfl⟩,hv.2.1,?_⟩) (fun _ _ h=>h.1);have hXj':=hv.2.2.2 j (ready_mono hj hjk);unfold kq at hXj';simp only[hoj] at hXj';rw[wanted_put oj a ok.dst v' h1,if_pos hwj,if_neg hsj,he v'] at hXj';obtain⟨u',hu',hX'⟩:=hXj'
    obtain rfl:u'=u:=by
     have e1:=hu w'' hv.2.1;rw[hu' w'' hv.2.1] at e1;simpa using e1
    rw[I7 _ _ hjk,<-Act.put_comm a v' u' h2];exact hX'
   ·rw[if_neg hwj];refine ih (listed.setIfInBounds j true) (a.put oj.dst undef) w hfree' hpre' hkj (ready_mono hr (Ne.symm hjk)) (by rw[wanted_put ok a oj.dst undef h3];exact hw) hS ?_;refine lT (hx undef) H (fun v' w'' hv=>⟨⟨v',rfl⟩,hv.2.1,?_⟩) (fun _ _ h=>h.1);have hXj':=hv.2.2.2 j (ready_mono hj hjk);unfold kq at hXj';simp only[hoj] at hXj';rw[wanted_put oj a ok.dst v' h1,if_neg hwj] at hXj';rw[I7 _ _ hjk,<-Act.put_comm a v' undef h2];exact hXj'
def h_ (P:Program) (ops:Array Oper) (S:World->Prop) (sq:Nat->Bool) (Q:Act->World->Prop):Nat->List Oper->Act->World->Prop
 | _,[],a,w=>Q a w
 | k,o :: rest,a,w =>
  if Region.wanted o (yielded ops a.tmps)=true then
   if sq k=true then o.wp P a w (fun a' w'=>(∃ v,a'=a.put o.dst v)/\S w'/\h_ P ops S sq Q (k+1) rest a' w') noQ
   else o.quiet P a S (fun a'=>h_ P ops S sq Q (k+1) rest a' w)
  else h_ P ops S sq Q (k+1) rest (a.put o.dst undef) w
def Ep (md:Region.Mode) (ops:Array Oper) (sq:Nat->Bool):Bool :=
 (List.range ops.size).all fun k=>match ops[k]? with
  | none=>true
  | some o=>if sq k then (List.range ops.size).all (fun j=>match ops[j]? with
    | none=>true
    | some oj=>!sq j||j<=k||oj.after.any (fun e=>Region.binds md e&&(e.on == k||(k<e.on&&e.on<ops.size&&sq e.on)))) else jF o.op
theorem wC (h:Ep md ops sq=true) {k:Nat}{o:Oper} (hk:ops[k]?=some o) (hs:sq k=true):wU md ops sq k:=by
 intro j oj hj hsj hlt;have h1:=Hl.1 h k (IS.2 (GT.1 hk).1);simp only[hk,hs,if_true] at h1;have h2:=Hl.1 h1 j (IS.2 (GT.1 hj).1);simp only[hj,hsj,Bool.not_true,Bool.false_or,Bool.or_eq_true,decide_eq_true_eq] at h2;rcases h2 with h2 | h2
 ·omega
 ·obtain⟨e,he,hb⟩:=Array.any_eq_true'.1 h2;simp only[G9,Bool.or_eq_true,beq_iff_eq,decide_eq_true_eq] at hb;exact⟨e,he,hb.1,hb.2.imp id fun h=>⟨h.1.1,h.1.2,h.2⟩⟩
theorem wD (h:Ep md ops sq=true) {k:Nat}{o:Oper} (hk:ops[k]?=some o) (hs:sq k=false):jF o.op=true:=by
 have h1:=Hl.1 h k (IS.2 (GT.1 hk).1);simpa[hk,hs] using h1
theorem yA (hsel:Region.noSelect ops=true) (hB:Ep md ops sq=true):∀ (l:List Oper) (k:Nat) (listed:Array Bool) (a:Act) (w:World),(∀ j,l[j]?=ops[k+j]?)->Region.lexFrom md ops l.length k listed=true ->
  (∀ j,j<k->listed.getD j true=true)->(∀ j,k<=j->j<ops.size->listed.getD j true=false)->S w->h_ P ops S sq Q k l a w->wpX P md ops S sq Q l.length listed a w
 | [],_,_,_,_,_,hL,_,_,_,h=>⟨by simpa[Region.lexFrom] using hL,h⟩
 | o :: l,k,listed,a,w,hl,hL,hpre,hlat,hS,h=>by
  have h0:ops[k]?=some o:=by simpa using (hl 0).symm
  have hl':∀ j,l[j]?=ops[k+1+j]?:=fun j=>by have:=hl (j+1);simpa[IH,JP 1 j] using this
  simp only[G_,Region.lexFrom,G9] at hL;obtain⟨⟨hr,hf⟩,hL'⟩:=hL;have hr':k∈Region.ready md ops listed:=by simpa using hr
  have hpre':∀ j,j<k+1->(listed.setIfInBounds k true).getD j true=true:=fun j hj=>by
   by_cases hjk:k=j
   ·subst hjk;rcases It k listed.size with h' | h'
    ·simp[h']
    ·simp[h']
   ·rw[getD_set_ne true hjk];exact hpre j (by omega)
  have hlat':∀ j,k+1<=j->j<ops.size->(listed.setIfInBounds k true).getD j true=false:=fun j hj hj'=>by
   rw[getD_set_ne true (by omega)];exact hlat j (by omega) hj'
  have on:=fun a' w' hS' h'=>yA hsel hB l (k+1) (listed.setIfInBounds k true) a' w' hl' hL' hpre' hlat' hS' h';unfold h_ at h;by_cases hw:Region.wanted o (yielded ops a.tmps)=true
  ·rw[if_pos hw] at h;by_cases hs:sq k=true
   ·rw[if_pos hs] at h;refine EE h0 (Region.noSelect_spec hsel) hs (wC hB h0 hs) l.length listed a w (Region.free_spec h0 hf) hpre (fun j h1 h2 _=>hlat j (by omega) h2) hr' hw hS ?_;exact lT rfl h (fun v w' h'=>⟨h'.1,h'.2.1,on _ _ h'.2.1 h'.2.2⟩) (fun _ _ h=>h.1)
   ·rw[if_neg hs] at h;obtain⟨v,hv,h'⟩:=h;refine yB h0 (Region.noSelect_spec hsel) l.length listed a w (Region.free_spec h0 hf) hr' (v:=v) (.inl ⟨hw,by simpa using hs,fun w1 hS1=>?_⟩) (on _ _ hS h');have h1:=hv w1 hS1;unfold Oper.quietAt at h1;rcases uS (P:=P) (ρ:=a.eval) (wD hB h0 (by simpa using hs)) w1 with ⟨u,w2,h2⟩ | ⟨x,w2,h2⟩
    ·rw[h2] at h1 |-;simp only[Oper.quietUpon] at h1;rw[h1.1,h1.2]
    ·rw[h2] at h1;simp only[Oper.quietUpon] at h1
  ·rw[if_neg hw] at h;exact yB h0 (Region.noSelect_spec hsel) l.length listed a w (Region.free_spec h0 hf) hr' (v:=undef) (.inr ⟨by simpa using hw,rfl⟩) (on _ _ hS h)
theorem aB {id:Nat}{Q':Exit->Act->World->Prop}{a:Act}{w:World}{l:List Oper} (S:World->Prop) (sq:Nat->Bool) (hm:P.follows .mixedOrders=true) (hB:(Region.lexB .any l.toArray&&Ep .any l.toArray sq)=true) (hS:S w.drew)
  (h:h_ P l.toArray S sq (fun a' w'=>Q' .normal a' w') 0 l a w.drew):(Code.region id l.toArray true).wp P Q' a w:=by
 simp only[G9,Region.lexB] at hB;obtain⟨⟨h1,h2⟩,h3⟩:=hB;refine wp_region_any hm (pD (S:=S) (sq:=sq) (Q:=fun a' w'=>Q' .normal a' w') (fun _ _ h=>h) _ _ _ _ hS ?_);have:=yA (md:=.any) h1 h3 l 0 (Array.replicate l.toArray.size false) a w.drew (by simp) (by simpa using h2) (fun _ h=>absurd h (by omega)) (fun j _ hj=>by simp at hj;simp[hj]) hS h;simpa using this
theorem aH {k:Nat}{a:Act}{w:World} (h:Q a w):h_ P ops S sq Q k [] a w:=h
theorem ar {k:Nat}{o:Oper}{rest:List Oper}{a:Act}{w:World} (hs:sq k=true) (hw:Region.wanted o (yielded ops a.tmps)=true)
  (h:∀ K:Act->World->Prop,(∀ v w',S w'->h_ P ops S sq Q (k+1) rest (a.put o.dst v) w'->K (a.put o.dst v) w')->o.wp P a w K noQ):h_ P ops S sq Q k (o :: rest) a w:=by
 unfold h_;rw[if_pos hw,if_pos hs];exact h _ fun v w' h1 h2=>⟨⟨v,rfl⟩,h1,h2⟩
theorem aq:∀ (n k:Nat) (l:List Oper) (a:Act) (w:World),(List.range n).all (fun i=>!sq (k+i))=true->wpQuiet P ops S (fun a'=>h_ P ops S sq Q (k+n) (l.drop n) a' w) (l.take n) a->h_ P ops S sq Q k l a w
 | 0,_,_,_,_,_,h=>h
 | n+1,k,[],a,w,_,h=>by simpa[wpQuiet,h_] using h
 | n+1,k,o :: l,a,w,hn,h=>by
  have hn':(List.range n).all (fun i=>!sq (k+1+i))=true:=Hl.2 fun i hi=>by
   have:=Hl.1 hn (i+1) (IS.2 (by have:=IS.1 hi;omega))
   rwa [show k+(i+1)=k+1+i by omega] at this
  have h0:sq k=false:=by simpa using Hl.1 hn 0 (IS.2 (by omega))
  have on:=fun a' (h':wpQuiet P ops S (fun a'=>h_ P ops S sq Q (k+1+n) (l.drop n) a' w) (l.take n) a')=>aq n (k+1) l a' w hn' h';rw[show k+(n+1)=k+1+n by omega] at h;simp only[GP,GQ,wpQuiet] at h;unfold h_;by_cases hw:Region.wanted o (yielded ops a.tmps)=true
  ·rw[if_pos hw] at h |-;rw[if_neg (by rw[h0];decide)];exact Oper.quiet_mono on h
  ·rw[if_neg hw] at h |-;exact on _ h
end
structure aL (B:Nat) (wa:World) where
 w:World
 h:Below B wa w
instance instPast (B:Nat) (wa:World):Nonempty (aL B wa):=⟨⟨wa,Ki _ _⟩⟩
open Go.RowKit
structure Bx (w:World) (k:Nat) (l:List Value) (T:TypeId):Prop where
 hp:w.heap[k]?=some (.cells l.toArray T (0,0))
 nu:∀ v∈l,∀ z,v≠.int .u64 z
theorem size_alloc (w:World) (o:Obj):(w.alloc o).heap.size=w.heap.size+1:=by show (Array.push _ _).size=_;exact Hr _
theorem au (w:World) (o:Obj):Below w.heap.size w (w.alloc o):=(Ki _ _).alloc (GM _) _
open Go.RowKit Dg
theorem cE.at {w w':World}{k B:Nat}{a b c d e f:Value} (h:cE w k a b c d e f) (hb:Below B w w') (hk:k<B):cE w' k a b c d e f:=by
 have hq:=fun j=>hb.cell (p:=⟨k,j,none⟩) hk;exact⟨GN h.lt hb.size,(hq 0).trans h.c0,(hq 1).trans h.c1,(hq 2).trans h.c2,(hq 3).trans h.c3,(hq 4).trans h.c4,(hq 5).trans h.c5⟩
theorem IsR.form {w:World}{v:Value}{r:Rt} (h:IsR w v r):∃ m p l c q k d,v=.agg #[.bool m,.slice p l c,.slice q k d]:=by
 obtain⟨n,d,rfl,⟨p,c,rfl,-⟩,⟨q,k,rfl,-⟩,-⟩:=h;exact⟨_,_,_,_,_,_,_,rfl⟩
theorem dj.putV {w:World}{k:Nat}{a b c d e f x1 x2 x3 y1 y2 y3:Value}{r s:Rt} (h:dj w k a b c d e f) (hx:IsR w (.agg #[x1,x2,x3]) r) (hy:IsR w (.agg #[y1,y2,y3]) s) :
  dj (eC w k x1 x2 x3 y1 y2 y3) k x1 x2 x3 y1 y2 y3/\IsV (eC w k x1 x2 x3 y1 y2 y3) (.agg #[x1,x2,x3,y1,y2,y3]) ⟨r,s⟩ /\
  ∀ B w0,Below B w0 w->B<=k->Below B w0 (eC w k x1 x2 x3 y1 y2 y3):=by
 obtain⟨xn,xd,e1,hx1,hx2,hx3,hx4⟩:=hx;obtain⟨yn,yd,e2,hy1,hy2,hy3,hy4⟩:=hy;obtain⟨rfl,rfl,rfl⟩:x1=.bool r.minus/\x2=xn/\x3=xd:=by simpa using e1
 obtain⟨rfl,rfl,rfl⟩:y1=.bool s.minus/\y2=yn/\y3=yd:=by simpa using e2
 have P:=h.put (a':=.bool r.minus) (b':=x2) (c':=x3) (d':=.bool s.minus) (e':=y2) (f':=y3) nofun (IsU.not_int hx1) (IsU.not_int hx2) nofun (IsU.not_int hy1) (IsU.not_int hy2);refine⟨P.1,⟨_,_,_,_,_,_,rfl,⟨_,_,rfl,P.2.1 _ _ hx1,P.2.1 _ _ hx2,hx3,hx4⟩,⟨_,_,rfl,P.2.1 _ _ hy1,P.2.1 _ _ hy2,hy3,hy4⟩⟩,fun B w0 hb hk=>?_⟩;unfold eC;exact (((((hb.setCell (p:=⟨k,0,none⟩) hk _).setCell (p:=⟨k,1,none⟩) hk _).setCell (p:=⟨k,2,none⟩) hk _).setCell (p:=⟨k,3,none⟩) hk _).setCell (p:=⟨k,4,none⟩) hk _).setCell (p:=⟨k,5,none⟩) hk _
structure Aq (r s:Rt):Prop where
 h0:0<r.d
 h1:0<s.d
 f1:Few (r.n*s.n)
 f2:Few (r.d*s.d)
def fI (u v:Vl):Vl:=if u.y.n=0/\v.y.n=0 then jw (c_ u.x v.x) else ⟨dI (c_ u.x v.x) (fh (c_ u.y v.y)),dI (c_ u.x v.y) (c_ u.y v.x)⟩
structure FewV (u v:Vl):Prop where
 a:Aq u.x v.x
 b:Aq u.y v.y
 c:Aq u.x v.y
 d:Aq u.y v.x
 e:uW (c_ u.x v.x) (fh (c_ u.y v.y))
 f:uW (c_ u.x v.y) (c_ u.y v.x)
theorem jE (va vb:Value) (u v:Vl) (w:World) (ha:IsV w va u) (hb:IsV w vb v) (hm:FewV u v) :
  Calls Tryz.prog 155 #[va,vb] w fun e w'=>∃ t,e=.returned t/\IsV w' t (fI u v)/\Below w.heap.size w w':=by
 obtain⟨a,b,c,d,e,f,rfl,hax,hay⟩:=ha;obtain⟨a',b',c',d',e',f',rfl,hbx,hby⟩:=hb;obtain⟨z,hz⟩:∃ z,z=fI u v:=⟨_,rfl⟩;rw[<-hz];have HZ:=GF hz;clear hz;go_enter Tryz.func155,Tryz.ntmps155;go_upto_region 1 with fail
 have q1:=cE.new w a b c d e f 110;have m1:Below w.heap.size w (w.alloc (.cells #[a,b,c,d,e,f] 110)):=(Ki _ _).alloc (GM _) _;have z1:(w.alloc (.cells #[a,b,c,d,e,f] 110)).heap.size=w.heap.size+1:=by show (Array.push _ _).size=_;exact Hr _
 generalize w.alloc (.cells #[a,b,c,d,e,f] 110)=w1 at *
 have q2:=cE.new w1 a' b' c' d' e' f' 110;have m2:Below w1.heap.size w1 (w1.alloc (.cells #[a',b',c',d',e',f'] 110)):=(Ki _ _).alloc (GM _) _;have z2:(w1.alloc (.cells #[a',b',c',d',e',f'] 110)).heap.size=w1.heap.size+1:=by show (Array.push _ _).size=_;exact Hr _
 generalize w1.alloc (.cells #[a',b',c',d',e',f'] 110)=w2 at *
 have q3:=dj.new w2 (.bool false) (.slice none 0 0) (.slice none 0 0) (.bool false) (.slice none 0 0) (.slice none 0 0) nofun nofun nofun nofun nofun nofun;have m3:Below w2.heap.size w2 (w2.alloc (.cells #[.bool false,.slice none 0 0,.slice none 0 0,.bool false,.slice none 0 0,.slice none 0 0] 110)):=(Ki _ _).alloc (GM _) _;generalize w2.alloc (.cells #[.bool false,.slice none 0 0,.slice none 0 0,.bool false,.slice none 0 0,.slice none 0 0] 110)=w3 at *
 rw[z2,z1] at q3;rw[z1] at q2;have M12:=m1.trans (m2.mono m1.size);have MD:=GF (M12.trans (m3.mono M12.size));have B1:=GF ((q1.below m2).below m3);have B2:=GF (q2.below m3);have B3:=GF q3;have HAX:=GF (hax.below MD.out);have HAY:=GF (hay.below MD.out);have HBX:=GF (hbx.below MD.out);have HBY:=GF (hby.below MD.out);clear q1 q2 q3 m1 m2 m3 z1 z2 M12 hax hay hbx hby;have e1:=B1.out;have e2:=B2.out;have a0:=e1.c0;have a1:=e1.c1;have a2:=e1.c2;have a3:=e1.c3;have a4:=e1.c4;have a5:=e1.c5;clear e1 e2;by_cases hu:u.y.n=0
 ·have hr:=eW _ u w3 ⟨_,_,_,_,_,_,rfl,HAX.out,HAY.out⟩;rw[decide_eq_true hu] at hr;have HR:=GF hr;have hr2:=fun wx (hx:Below w3.heap.size w3 wx)=>eW _ v wx ⟨_,_,_,_,_,_,rfl,HBX.out.below hx,HBY.out.below hx⟩;clear hr;by_cases hv:v.y.n=0
  ·rw[decide_eq_true hv] at hr2;have HR2:=GF hr2;have HC:=GF (show jw (c_ u.x v.x)=z by rw[HZ.out,fI,if_pos ⟨hu,hv⟩]);clear hr2 hu hv HAY HBY;go_wp2_with first | (go_at_call 122;refine HR.out.mono ?_;rintro e w4 ⟨rfl,hb4⟩;have e2:=B2.out.below hb4;have b0:=e2.c0;have b1:=e2.c1;have b2:=e2.c2;have b3:=e2.c3;have b4:=e2.c4;have b5:=e2.c5;clear e2) | (go_at_call 122;refine (HR2.out w4 hb4).mono ?_;rintro e w5 ⟨rfl,hb5⟩;clear a0 a1 a2 a3 a4 a5 b0 b1 b2 b3 b4 b5;have hB5:=hb4.trans (hb5.mono hb4.size);have e1:=B1.out.below hB5;have e2:=B2.out.below hB5;have a0:=e1.c0;have a1:=e1.c1;have a2:=e1.c2;have a3:=e1.c3;have a4:=e1.c4;have a5:=e1.c5;have b0:=e2.c0;have b1:=e2.c1;have b2:=e2.c2;have b3:=e2.c3;have b4:=e2.c4;have b5:=e2.c5;clear e1 e2)
   have hB5:=hb4.trans (hb5.mono hb4.size);have hp:Calls Tryz.prog 200 #[.agg #[a,b,c],.agg #[a',b',c']] w5 fun e w'=>∃ t,e=.returned t/\IsR w' t (c_ u.x v.x)/\Below w5.heap.size w5 w':=hO _ _ _ _ _ (HAX.out.below hB5) (HBX.out.below hB5) hm.a.h0 hm.a.h1 hm.a.f1 hm.a.f2;refine hp.mono ?_;clear hp a0 a1 a2 a3 a4 a5 b0 b1 b2 b3 b4 b5;rintro e w6 ⟨v6,rfl,hv6,hb6⟩;have hB6:=hB5.trans (hb6.mono hB5.size);go_wp2_with fail
   refine (ft _ _ _ hv6).mono ?_;rintro e w7 ⟨v7,rfl,hv7,hb7⟩;have hB7:=hB6.trans (hb7.mono hB6.size);rw[HC.out] at hv7;obtain⟨x1,x2,x3,y1,y2,y3,rfl,hx,hy⟩:=hv7;obtain⟨xm,xp,xl,xc,xq,xk,xd,hxe⟩:=hx.form;obtain⟨ym,yp,yl,yc,yq,yk,yd,hye⟩:=hy.form;obtain⟨rfl,rfl,rfl⟩:x1=.bool xm/\x2=.slice xp xl xc/\x3=.slice xq xk xd:=by simpa using hxe
   obtain⟨rfl,rfl,rfl⟩:y1=.bool ym/\y2=.slice yp yl yc/\y3=.slice yq yk yd:=by simpa using hye
   have B8:=B3.out.below hB7;have k0:=B8.cell 0;have k1:=B8.cell 1;have k2:=B8.cell 2;have k3:=B8.cell 3;have k4:=B8.cell 4;have k5:=B8.cell 5;have f0:=B8.fr 0;have f1:=B8.fr 1;have f2:=B8.fr 2;have f3:=B8.fr 3;have f4:=B8.fr 4;have f5:=B8.fr 5;have P:=GF (B8.putV hx hy);have M8:=GF (P.out.2.2 _ _ (MD.out.trans (hB7.mono MD.out.size)) (by omega));go_wp2_with fail
   have q0:=P.out.1.cell 0;have q1:=P.out.1.cell 1;have q2:=P.out.1.cell 2;have q3:=P.out.1.cell 3;have q4:=P.out.1.cell 4;have q5:=P.out.1.cell 5;refine Kh (v:=.agg #[.bool xm,.slice xp xl xc,.slice xq xk xd,.bool ym,.slice yp yl yc,.slice yq yk yd]) (by simp[results,Tryz.results155,go_sem,eC] at q0 q1 q2 q3 q4 q5 |-;simp[results,Tryz.results155,go_sem,q0,q1,q2,q3,q4,q5]) rfl ⟨_,rfl,P.out.2.1,M8.out⟩
  ·rw[decide_eq_false hv] at hr2;have HR2:=GF hr2;have HC:=GF (show ¬ (u.y.n=0/\v.y.n=0) from fun h=>hv h.2);clear hr2 hu hv;go_wp2_with first | (go_at_call 122;refine HR.out.mono ?_;rintro e w4 ⟨rfl,hb4⟩;have e2:=B2.out.below hb4;have b0:=e2.c0;have b1:=e2.c1;have b2:=e2.c2;have b3:=e2.c3;have b4:=e2.c4;have b5:=e2.c5;clear e2) | (go_at_call 122;refine (HR2.out w4 hb4).mono ?_;rintro e w5 ⟨rfl,hb5⟩;clear a0 a1 a2 a3 a4 a5 b0 b1 b2 b3 b4 b5;have hb4:=hb4.trans (hb5.mono hb4.size))
   have MD:=GF (MD.out.trans (hb4.mono MD.out.size));have B1:=GF (B1.out.below hb4);have B2:=GF (B2.out.below hb4);have B3:=GF (B3.out.below hb4);have HAX:=GF (HAX.out.below hb4);have HAY:=GF (HAY.out.below hb4);have HBX:=GF (HBX.out.below hb4);have HBY:=GF (HBY.out.below hb4);clear hb4 hb5 HR HR2;have m4:Below w5.heap.size w5 w5.drew:=(Ki _ _).drew;refine aB (fun w'=>∃ x:aL (w.heap.size+2) w5.drew,w'=x.w) (fun i=>i == 4||i == 9||i == 10||i == 11||i == 16||i == 21||i == 22||i == 24) (by kernel_rfl) (by kernel_rfl) ⟨⟨_,Ki _ _⟩,rfl⟩ ?_;generalize w5.drew=wd at *
   have hB0:Below wd.heap.size wd wd:=Ki _ _;have MD:=GF (MD.out.trans (m4.mono MD.out.size));have B1:=GF (B1.out.below m4);have B2:=GF (B2.out.below m4);have B3:=GF (B3.out.below m4);have HAX:=GF (HAX.out.below m4);have HAY:=GF (HAY.out.below m4);have HBX:=GF (HBX.out.below m4);have HBY:=GF (HBY.out.below m4);have hz:w.heap.size+2<=wd.heap.size:=by have:=B3.out.lt;omega
   have e1:=fun x:aL (w.heap.size+2) wd=>B1.out.at x.h (by omega);have e2:=fun x:aL (w.heap.size+2) wd=>B2.out.at x.h (by omega);have a0:=fun x=>(e1 x).c0;have a1:=fun x=>(e1 x).c1;have a2:=fun x=>(e1 x).c2;have a3:=fun x=>(e1 x).c3;have a4:=fun x=>(e1 x).c4;have a5:=fun x=>(e1 x).c5;have b0:=fun x=>(e2 x).c0;have b1:=fun x=>(e2 x).c1;have b2:=fun x=>(e2 x).c2;have b3:=fun x=>(e2 x).c3;have b4:=fun x=>(e2 x).c4;have b5:=fun x=>(e2 x).c5;clear e1 e2;refine aq 4 0 _ _ _ (by kernel_rfl) ?_;simp only[GP,GS,GQ,GR];repeat (go_big_quiet_step (fail))
   refine wpQuiet_nil ?_;refine ar rfl rfl (fun K hK=>?_);go_simp;have hp:Calls Tryz.prog 200 #[.agg #[a,b,c],.agg #[a',b',c']] wd fun e w'=>∃ t,e=.returned t/\IsR w' t (c_ u.x v.x)/\Below wd.heap.size wd w':=hO _ _ _ _ _ HAX.out HBX.out hm.a.h0 hm.a.h1 hm.a.f1 hm.a.f2;refine hp.mono ?_;clear hp;rintro e w11 ⟨v1,rfl,hv1,HN1⟩;have hB1:=hB0.trans (HN1.mono hB0.size);refine hK _ _ ⟨⟨_,hB1.mono hz⟩,rfl⟩ ?_;clear hK K;try simp only[Act.put,GJ,GI,GH,GG,GL,GK]
   refine aq 4 5 _ _ _ (by kernel_rfl) ?_;simp only[GP,GS,GQ,GR];repeat (go_big_quiet_step (fail))
   refine wpQuiet_nil ?_;refine ar rfl rfl (fun K hK=>?_);go_simp;have hp:Calls Tryz.prog 200 #[.agg #[d,e,f],.agg #[d',e',f']] w11 fun e w'=>∃ t,e=.returned t/\IsR w' t (c_ u.y v.y)/\Below w11.heap.size w11 w':=hO _ _ _ _ _ (HAY.out.below hB1) (HBY.out.below hB1) hm.b.h0 hm.b.h1 hm.b.f1 hm.b.f2;refine hp.mono ?_;clear hp;rintro e w12 ⟨v2,rfl,hv2,HN2⟩;have hB2:=hB1.trans (HN2.mono hB1.size);refine hK _ _ ⟨⟨_,hB2.mono hz⟩,rfl⟩ ?_;clear hK K;try simp only[Act.put,GJ,GI,GH,GG,GL,GK]
   refine ar rfl rfl (fun K hK=>?_);go_simp;have hp:Calls Tryz.prog 202 #[v2] w12 fun e w'=>∃ t,e=.returned t/\IsR w' t (fh (c_ u.y v.y))/\Below w12.heap.size w12 w':=vS _ _ _ hv2;refine hp.mono ?_;clear hp;rintro e w13 ⟨v3,rfl,hv3,HN3⟩;have hB3:=hB2.trans (HN3.mono hB2.size);refine hK _ _ ⟨⟨_,hB3.mono hz⟩,rfl⟩ ?_;clear hK K;try simp only[Act.put,GJ,GI,GH,GG,GL,GK]
   refine ar rfl rfl (fun K hK=>?_);go_simp;have hp:Calls Tryz.prog 201 #[v1,v3] w13 fun e w'=>∃ t,e=.returned t/\IsR w' t (dI (c_ u.x v.x) (fh (c_ u.y v.y)))/\Below w13.heap.size w13 w':=kR _ _ _ _ _ ((hv1.below HN2).below HN3) hv3 hm.e.h0 hm.e.h1 hm.e.f1 hm.e.f2 hm.e.f3 hm.e.f4;refine hp.mono ?_;clear hp;rintro e w14 ⟨v4,rfl,hv4,HN4⟩;have hB4:=hB3.trans (HN4.mono hB3.size);refine hK _ _ ⟨⟨_,hB4.mono hz⟩,rfl⟩ ?_;clear hK K;try simp only[Act.put,GJ,GI,GH,GG,GL,GK]
   refine aq 4 12 _ _ _ (by kernel_rfl) ?_;simp only[GP,GS,GQ,GR];repeat (go_big_quiet_step (fail))
   refine wpQuiet_nil ?_;refine ar rfl rfl (fun K hK=>?_);go_simp;have hp:Calls Tryz.prog 200 #[.agg #[a,b,c],.agg #[d',e',f']] w14 fun e w'=>∃ t,e=.returned t/\IsR w' t (c_ u.x v.y)/\Below w14.heap.size w14 w':=hO _ _ _ _ _ (HAX.out.below hB4) (HBY.out.below hB4) hm.c.h0 hm.c.h1 hm.c.f1 hm.c.f2;refine hp.mono ?_;clear hp;rintro e w15 ⟨v5,rfl,hv5,HN5⟩;have hB5:=hB4.trans (HN5.mono hB4.size);refine hK _ _ ⟨⟨_,hB5.mono hz⟩,rfl⟩ ?_;clear hK K;try simp only[Act.put,GJ,GI,GH,GG,GL,GK]
   refine aq 4 17 _ _ _ (by kernel_rfl) ?_;simp only[GP,GS,GQ,GR];repeat (go_big_quiet_step (fail))
   refine wpQuiet_nil ?_;refine ar rfl rfl (fun K hK=>?_);go_simp;have hp:Calls Tryz.prog 200 #[.agg #[d,e,f],.agg #[a',b',c']] w15 fun e w'=>∃ t,e=.returned t/\IsR w' t (c_ u.y v.x)/\Below w15.heap.size w15 w':=hO _ _ _ _ _ (HAY.out.below hB5) (HBX.out.below hB5) hm.d.h0 hm.d.h1 hm.d.f1 hm.d.f2;refine hp.mono ?_;clear hp;rintro e w16 ⟨v6,rfl,hv6,HN6⟩;have hB6:=hB5.trans (HN6.mono hB5.size);refine hK _ _ ⟨⟨_,hB6.mono hz⟩,rfl⟩ ?_;clear hK K;try simp only[Act.put,GJ,GI,GH,GG,GL,GK]
   refine ar rfl rfl (fun K hK=>?_);go_simp;have hp:Calls Tryz.prog 201 #[v5,v6] w16 fun e w'=>∃ t,e=.returned t/\IsR w' t (dI (c_ u.x v.y) (c_ u.y v.x))/\Below w16.heap.size w16 w':=kR _ _ _ _ _ (hv5.below HN6) hv6 hm.f.h0 hm.f.h1 hm.f.f1 hm.f.f2 hm.f.f3 hm.f.f4;refine hp.mono ?_;clear hp;rintro e w17 ⟨v7,rfl,hv7,HN7⟩;have hB7:=hB6.trans (HN7.mono hB6.size);refine hK _ _ ⟨⟨_,hB7.mono hz⟩,rfl⟩ ?_;clear hK K;try simp only[Act.put,GJ,GI,GH,GG,GL,GK]
   have hv4':=((hv4.below HN5).below HN6).below HN7;rw[show dI (c_ u.x v.x) (fh (c_ u.y v.y))=z.x by rw[HZ.out,fI,if_neg HC.out]] at hv4';rw[show dI (c_ u.x v.y) (c_ u.y v.x)=z.y by rw[HZ.out,fI,if_neg HC.out]] at hv7;obtain⟨xm,xp,xl,xc,xq,xk,xd,rfl⟩:=hv4'.form;obtain⟨ym,yp,yl,yc,yq,yk,yd,rfl⟩:=hv7.form;have B8:=B3.out.below hB7;have k0:=B8.cell 0;have k1:=B8.cell 1;have k2:=B8.cell 2;have k3:=B8.cell 3;have k4:=B8.cell 4;have k5:=B8.cell 5;have f0:=B8.fr 0;have f1:=B8.fr 1;have f2:=B8.fr 2;have f3:=B8.fr 3;have f4:=B8.fr 4;have f5:=B8.fr 5;have P:=GF (B8.putV hv4' hv7);refine aq 1 23 _ _ _ (by kernel_rfl) ?_;simp only[GP,GS,GQ,GR];repeat (go_big_quiet_step (fail))
   refine wpQuiet_nil ?_;refine ar rfl rfl (fun K hK=>?_);go_simp;refine hK undef _ ⟨⟨_,P.out.2.2 _ _ (hB7.mono hz) (by omega)⟩,rfl⟩ ?_;clear hK K;try simp only[Act.put,GJ,GI,GH,GG,GL,GK]
   refine aH ?_;have M8:=GF (P.out.2.2 _ _ (MD.out.trans (hB7.mono MD.out.size)) (by omega));go_wp2_with fail
   have q0:=P.out.1.cell 0;have q1:=P.out.1.cell 1;have q2:=P.out.1.cell 2;have q3:=P.out.1.cell 3;have q4:=P.out.1.cell 4;have q5:=P.out.1.cell 5;refine Kh (v:=.agg #[.bool xm,.slice xp xl xc,.slice xq xk xd,.bool ym,.slice yp yl yc,.slice yq yk yd]) (by simp[results,Tryz.results155,go_sem,eC] at q0 q1 q2 q3 q4 q5 |-;simp[results,Tryz.results155,go_sem,q0,q1,q2,q3,q4,q5]) rfl ⟨_,rfl,P.out.2.1,M8.out⟩
 ·have HC:=GF (show ¬ (u.y.n=0/\v.y.n=0) from fun h=>hu h.1);have hr:=eW _ u w3 ⟨_,_,_,_,_,_,rfl,HAX.out,HAY.out⟩;rw[decide_eq_false hu] at hr;have HR:=GF hr;clear hr hu;go_wp2_with (go_at_call 122;refine HR.out.mono ?_;rintro e w4 ⟨rfl,hb4⟩)
  have MD:=GF (MD.out.trans (hb4.mono MD.out.size));have B1:=GF (B1.out.below hb4);have B2:=GF (B2.out.below hb4);have B3:=GF (B3.out.below hb4);have HAX:=GF (HAX.out.below hb4);have HAY:=GF (HAY.out.below hb4);have HBX:=GF (HBX.out.below hb4);have HBY:=GF (HBY.out.below hb4);clear hb4 a0 a1 a2 a3 a4 a5 HR;have m4:Below w4.heap.size w4 w4.drew:=(Ki _ _).drew;refine aB (fun w'=>∃ x:aL (w.heap.size+2) w4.drew,w'=x.w) (fun i=>i == 4||i == 9||i == 10||i == 11||i == 16||i == 21||i == 22||i == 24) (by kernel_rfl) (by kernel_rfl) ⟨⟨_,Ki _ _⟩,rfl⟩ ?_;generalize w4.drew=wd at *
  have hB0:Below wd.heap.size wd wd:=Ki _ _;have MD:=GF (MD.out.trans (m4.mono MD.out.size));have B1:=GF (B1.out.below m4);have B2:=GF (B2.out.below m4);have B3:=GF (B3.out.below m4);have HAX:=GF (HAX.out.below m4);have HAY:=GF (HAY.out.below m4);have HBX:=GF (HBX.out.below m4);have HBY:=GF (HBY.out.below m4);have hz:w.heap.size+2<=wd.heap.size:=by have:=B3.out.lt;omega
  have e1:=fun x:aL (w.heap.size+2) wd=>B1.out.at x.h (by omega);have e2:=fun x:aL (w.heap.size+2) wd=>B2.out.at x.h (by omega);have a0:=fun x=>(e1 x).c0;have a1:=fun x=>(e1 x).c1;have a2:=fun x=>(e1 x).c2;have a3:=fun x=>(e1 x).c3;have a4:=fun x=>(e1 x).c4;have a5:=fun x=>(e1 x).c5;have b0:=fun x=>(e2 x).c0;have b1:=fun x=>(e2 x).c1;have b2:=fun x=>(e2 x).c2;have b3:=fun x=>(e2 x).c3;have b4:=fun x=>(e2 x).c4;have b5:=fun x=>(e2 x).c5;clear e1 e2;refine aq 4 0 _ _ _ (by kernel_rfl) ?_;simp only[GP,GS,GQ,GR];repeat (go_big_quiet_step (fail))
  refine wpQuiet_nil ?_;refine ar rfl rfl (fun K hK=>?_);go_simp;have hp:Calls Tryz.prog 200 #[.agg #[a,b,c],.agg #[a',b',c']] wd fun e w'=>∃ t,e=.returned t/\IsR w' t (c_ u.x v.x)/\Below wd.heap.size wd w':=hO _ _ _ _ _ HAX.out HBX.out hm.a.h0 hm.a.h1 hm.a.f1 hm.a.f2;refine hp.mono ?_;clear hp;rintro e w11 ⟨v1,rfl,hv1,HN1⟩;have hB1:=hB0.trans (HN1.mono hB0.size);refine hK _ _ ⟨⟨_,hB1.mono hz⟩,rfl⟩ ?_;clear hK K;try simp only[Act.put,GJ,GI,GH,GG,GL,GK]
  refine aq 4 5 _ _ _ (by kernel_rfl) ?_;simp only[GP,GS,GQ,GR];repeat (go_big_quiet_step (fail))
  refine wpQuiet_nil ?_;refine ar rfl rfl (fun K hK=>?_);go_simp;have hp:Calls Tryz.prog 200 #[.agg #[d,e,f],.agg #[d',e',f']] w11 fun e w'=>∃ t,e=.returned t/\IsR w' t (c_ u.y v.y)/\Below w11.heap.size w11 w':=hO _ _ _ _ _ (HAY.out.below hB1) (HBY.out.below hB1) hm.b.h0 hm.b.h1 hm.b.f1 hm.b.f2;refine hp.mono ?_;clear hp;rintro e w12 ⟨v2,rfl,hv2,HN2⟩;have hB2:=hB1.trans (HN2.mono hB1.size);refine hK _ _ ⟨⟨_,hB2.mono hz⟩,rfl⟩ ?_;clear hK K;try simp only[Act.put,GJ,GI,GH,GG,GL,GK]
  refine ar rfl rfl (fun K hK=>?_);go_simp;have hp:Calls Tryz.prog 202 #[v2] w12 fun e w'=>∃ t,e=.returned t/\IsR w' t (fh (c_ u.y v.y))/\Below w12.heap.size w12 w':=vS _ _ _ hv2;refine hp.mono ?_;clear hp;rintro e w13 ⟨v3,rfl,hv3,HN3⟩;have hB3:=hB2.trans (HN3.mono hB2.size);refine hK _ _ ⟨⟨_,hB3.mono hz⟩,rfl⟩ ?_;clear hK K;try simp only[Act.put,GJ,GI,GH,GG,GL,GK]
  refine ar rfl rfl (fun K hK=>?_);go_simp;have hp:Calls Tryz.prog 201 #[v1,v3] w13 fun e w'=>∃ t,e=.returned t/\IsR w' t (dI (c_ u.x v.x) (fh (c_ u.y v.y)))/\Below w13.heap.size w13 w':=kR _ _ _ _ _ ((hv1.below HN2).below HN3) hv3 hm.e.h0 hm.e.h1 hm.e.f1 hm.e.f2 hm.e.f3 hm.e.f4;refine hp.mono ?_;clear hp;rintro e w14 ⟨v4,rfl,hv4,HN4⟩;have hB4:=hB3.trans (HN4.mono hB3.size);refine hK _ _ ⟨⟨_,hB4.mono hz⟩,rfl⟩ ?_;clear hK K;try simp only[Act.put,GJ,GI,GH,GG,GL,GK]
  refine aq 4 12 _ _ _ (by kernel_rfl) ?_;simp only[GP,GS,GQ,GR];repeat (go_big_quiet_step (fail))
  refine wpQuiet_nil ?_;refine ar rfl rfl (fun K hK=>?_);go_simp;have hp:Calls Tryz.prog 200 #[.agg #[a,b,c],.agg #[d',e',f']] w14 fun e w'=>∃ t,e=.returned t/\IsR w' t (c_ u.x v.y)/\Below w14.heap.size w14 w':=hO _ _ _ _ _ (HAX.out.below hB4) (HBY.out.below hB4) hm.c.h0 hm.c.h1 hm.c.f1 hm.c.f2;refine hp.mono ?_;clear hp;rintro e w15 ⟨v5,rfl,hv5,HN5⟩;have hB5:=hB4.trans (HN5.mono hB4.size);refine hK _ _ ⟨⟨_,hB5.mono hz⟩,rfl⟩ ?_;clear hK K;try simp only[Act.put,GJ,GI,GH,GG,GL,GK]
  refine aq 4 17 _ _ _ (by kernel_rfl) ?_;simp only[GP,GS,GQ,GR];repeat (go_big_quiet_step (fail))
  refine wpQuiet_nil ?_;refine ar rfl rfl (fun K hK=>?_);go_simp;have hp:Calls Tryz.prog 200 #[.agg #[d,e,f],.agg #[a',b',c']] w15 fun e w'=>∃ t,e=.returned t/\IsR w' t (c_ u.y v.x)/\Below w15.heap.size w15 w':=hO _ _ _ _ _ (HAY.out.below hB5) (HBX.out.below hB5) hm.d.h0 hm.d.h1 hm.d.f1 hm.d.f2;refine hp.mono ?_;clear hp;rintro e w16 ⟨v6,rfl,hv6,HN6⟩;have hB6:=hB5.trans (HN6.mono hB5.size);refine hK _ _ ⟨⟨_,hB6.mono hz⟩,rfl⟩ ?_;clear hK K;try simp only[Act.put,GJ,GI,GH,GG,GL,GK]
  refine ar rfl rfl (fun K hK=>?_);go_simp;have hp:Calls Tryz.prog 201 #[v5,v6] w16 fun e w'=>∃ t,e=.returned t/\IsR w' t (dI (c_ u.x v.y) (c_ u.y v.x))/\Below w16.heap.size w16 w':=kR _ _ _ _ _ (hv5.below HN6) hv6 hm.f.h0 hm.f.h1 hm.f.f1 hm.f.f2 hm.f.f3 hm.f.f4;refine hp.mono ?_;clear hp;rintro e w17 ⟨v7,rfl,hv7,HN7⟩;have hB7:=hB6.trans (HN7.mono hB6.size);refine hK _ _ ⟨⟨_,hB7.mono hz⟩,rfl⟩ ?_;clear hK K;try simp only[Act.put,GJ,GI,GH,GG,GL,GK]
  have hv4':=((hv4.below HN5).below HN6).below HN7;rw[show dI (c_ u.x v.x) (fh (c_ u.y v.y))=z.x by rw[HZ.out,fI,if_neg HC.out]] at hv4';rw[show dI (c_ u.x v.y) (c_ u.y v.x)=z.y by rw[HZ.out,fI,if_neg HC.out]] at hv7;obtain⟨xm,xp,xl,xc,xq,xk,xd,rfl⟩:=hv4'.form;obtain⟨ym,yp,yl,yc,yq,yk,yd,rfl⟩:=hv7.form;have B8:=B3.out.below hB7;have k0:=B8.cell 0;have k1:=B8.cell 1;have k2:=B8.cell 2;have k3:=B8.cell 3;have k4:=B8.cell 4;have k5:=B8.cell 5;have f0:=B8.fr 0;have f1:=B8.fr 1;have f2:=B8.fr 2;have f3:=B8.fr 3;have f4:=B8.fr 4;have f5:=B8.fr 5;have P:=GF (B8.putV hv4' hv7);refine aq 1 23 _ _ _ (by kernel_rfl) ?_;simp only[GP,GS,GQ,GR];repeat (go_big_quiet_step (fail))
  refine wpQuiet_nil ?_;refine ar rfl rfl (fun K hK=>?_);go_simp;refine hK undef _ ⟨⟨_,P.out.2.2 _ _ (hB7.mono hz) (by omega)⟩,rfl⟩ ?_;clear hK K;try simp only[Act.put,GJ,GI,GH,GG,GL,GK]
  refine aH ?_;have M8:=GF (P.out.2.2 _ _ (MD.out.trans (hB7.mono MD.out.size)) (by omega));go_wp2_with fail
  have q0:=P.out.1.cell 0;have q1:=P.out.1.cell 1;have q2:=P.out.1.cell 2;have q3:=P.out.1.cell 3;have q4:=P.out.1.cell 4;have q5:=P.out.1.cell 5;refine Kh (v:=.agg #[.bool xm,.slice xp xl xc,.slice xq xk xd,.bool ym,.slice yp yl yc,.slice yq yk yd]) (by simp[results,Tryz.results155,go_sem,eC] at q0 q1 q2 q3 q4 q5 |-;simp[results,Tryz.results155,go_sem,q0,q1,q2,q3,q4,q5]) rfl ⟨_,rfl,P.out.2.1,M8.out⟩
end Go.Proofs.YtmakbmhlemhgeaaGreatDoor
