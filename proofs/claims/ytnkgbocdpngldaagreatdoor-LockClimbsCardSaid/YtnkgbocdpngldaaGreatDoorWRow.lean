/- Lemmas of this claim. -/
import Derived.Deep.AppendLies
import Derived.Test.YtnkgbocdpngldaaGreatDoorWKeys
set_option linter.all false
set_option maxRecDepth 100000
set_option maxHeartbeats 8000000
namespace Go.Proofs.YtnkgbocdpngldaaGreatDoor
open Go.RowKit Dc Dg
def g_ (A:List (Option Nat)) (w:World) (P:World→Prop):Prop:=∀ w':World,w.heap.size≤w'.heap.size→(∀ b,b<w.heap.size→some b∉A→w'.heap[b]?=w.heap[b]?)→P w'
theorem g_.self {A:List (Option Nat)}{w:World}{P:World→Prop} (h:g_ A w P):P w:=h w (Dp _) (fun _ _ _=>rfl)
theorem g_.go {A A':List (Option Nat)}{w w':World}{P:World→Prop} (h:g_ A w P) (hs:w.heap.size≤w'.heap.size) (hg:∀ b,b<w.heap.size→some b∉A→w'.heap[b]?=w.heap[b]?) (hA:∀ x∈A',x∈A∨∀ k,x=some k→w.heap.size≤k):g_ A' w' P:=by
 intro w'' hs' hg'
 refine h w'' (by omega) (fun b hb hn=>?_)
 rw[hg' b (by omega) (fun hm=>?_),hg b hb hn]
 rcases hA _ hm with h1 | h1
 ·exact hn h1
 ·have:=h1 b rfl;omega
theorem g_.mono {A:List (Option Nat)}{w:World}{P Q:World→Prop} (h:g_ A w P) (hpq:∀ w,P w→Q w):g_ A w Q:=fun w' h1 h2=>hpq _ (h w' h1 h2)
theorem g_.and {A:List (Option Nat)}{w:World}{P Q:World→Prop} (h:g_ A w P) (h':g_ A w Q):g_ A w (fun w=>P w∧Q w):=fun w' h1 h2=>⟨h w' h1 h2,h' w' h1 h2⟩
theorem dP (g i:Nat):(⟨g,0,none⟩:Addr).add i=⟨g,0+i,none⟩:=by
 unfold Addr.add
 split
 ·rename_i h;subst h;rfl
 ·rfl
theorem bD {w w':World}{n:Nat}{e:TypeId}{size:Nat}{v:Value}{m:Nat}{xs:List Value} (h:w.ownsRow n e size v m xs) (hs:∀ k,v.ownBlock=some k→w'.heap[k]?=w.heap[k]?):w'.ownsRow n e size v m xs:=by
 refine⟨h.1,?_⟩
 rcases h.2 with h2 | ⟨g,cap,cur,rfl,hb,hg,h3⟩
 ·exact Or.inl h2
 ·exact Or.inr ⟨g,cap,cur,rfl,hb,(hs g rfl).trans hg,h3⟩
theorem eD {w:World}{n n':Nat}{e:TypeId}{size:Nat}{v:Value}{m:Nat}{xs:List Value} (h:w.ownsRow n e size v m xs) (hn:n'≤n):w.ownsRow n' e size v m xs:=by
 refine⟨h.1,?_⟩
 rcases h.2 with h2 | ⟨g,cap,cur,rfl,hb,hg,h3⟩
 ·exact Or.inl h2
 ·exact Or.inr ⟨g,cap,cur,rfl,Dz hn hb,hg,h3⟩
theorem av {w:World}{n:Nat}{e:TypeId}{size:Nat}{v:Value}{m:Nat}{xs:List Value} (h:w.ownsRow n e size v m xs) {k:Nat} (hk:v.ownBlock=some k):n≤k∧k<w.heap.size∧∃ cur,w.heap[k]?=some (.cells cur e (0,0)):=by
 rcases h.2 with ⟨rfl,_⟩ | ⟨g,cap,cur,rfl,hb,hg,h3⟩
 ·cases hk
 ·simp only[Value.ownBlock,Option.some.injEq] at hk
  subst hk
  exact⟨hb,(Dt.1 hg).1,cur,hg⟩
theorem dX {w:World}{n n':Nat}{e e':TypeId}{size size':Nat}{v v':Value}{m m':Nat}{xs xs':List Value} (h:w.ownsRow n e size v m xs) (h':w.ownsRow n' e' size' v' m' xs') (he:e≠e') {k:Nat} (hk:v.ownBlock=some k):v'.ownBlock≠some k:=by
 intro hk'
 obtain⟨_,_,cur,h1⟩:=av h hk
 obtain⟨_,_,cur',h2⟩:=av h' hk'
 rw[h1] at h2
 cases h2
 exact he rfl
def aR (n:Nat) (w:World) (v:Value) (l:List Int):Prop:=w.ownsRow n 3 1 v l.length (l.map (Value.int .i64))
theorem aR.same {n:Nat}{w w':World}{v:Value}{l:List Int} (h:aR n w v l) (hs:∀ k,v.ownBlock=some k→w'.heap[k]?=w.heap[k]?):aR n w' v l:=bD h hs
theorem aR.base {n n':Nat}{w:World}{v:Value}{l:List Int} (h:aR n w v l) (hn:n'≤n):aR n' w v l:=eD h hn
theorem aR.near {n:Nat}{w w':World}{v:Value}{l:List Int} (h:aR n w v l) (hs:∀ k,n≤k→k<w.heap.size→w'.heap[k]?=w.heap[k]?):aR n w' v l :=
 h.same (fun k hk=>by obtain⟨h1,h2,_⟩:=av h hk;exact hs k h1 h2)
theorem aR.q {n:Nat}{w:World}{v:Value}{l:List Int} (h:aR n w v l):aU w v l:=by
 rcases h.2 with ⟨rfl,hn⟩ | ⟨g,cap,cur,rfl,hb,hg,h3⟩
 ·exact⟨none,0,by rw[hn],fun hl=>by omega⟩
 ·refine⟨some ⟨g,0,none⟩,cap,rfl,fun hl=>⟨g,0,rfl,(Dt.1 hg).1,fun i hi=>?_⟩⟩
  have:=World.ownsRow.cells h (g:=g) rfl i (.int .i64 l[i]) (by simp[hi])
  rw[dP] at this
  exact this
structure ed (n:Nat) (w:World) (v:Value) (L:List (Nat×List Int×Value)):Prop where
 row:w.ownsRow n 140 2 v L.length (L.flatMap fun t=>[.int .i64 t.1,t.2.2])
 ints:∀ t∈L,aR n w t.2.2 t.2.1
theorem ed.near {n:Nat}{w w':World}{v:Value}{L:List (Nat×List Int×Value)} (h:ed n w v L) (hs:∀ k,n≤k→k<w.heap.size→w'.heap[k]?=w.heap[k]?):ed n w' v L :=
 ⟨bD h.row (fun k hk=>by obtain⟨h1,h2,_⟩:=av h.row hk;exact hs k h1 h2),fun t ht=>(h.ints t ht).near hs⟩
theorem ed.base {n n':Nat}{w:World}{v:Value}{L:List (Nat×List Int×Value)} (h:ed n w v L) (hn:n'≤n):ed n' w v L:=⟨eD h.row hn,fun t ht=>(h.ints t ht).base hn⟩
theorem kU {α:Type} (a b:α→Value):∀ (L:List α) (i:Nat) (h:i<L.length),(L.flatMap fun t=>[a t,b t])[i*2]?=some (a L[i])∧(L.flatMap fun t=>[a t,b t])[i*2+1]?=some (b L[i])
 | [],i,h=>by simp at h
 | x :: L,0,h=>by simp
 | x :: L,i+1,h=>by
  have:=kU a b L i (by simpa using h)
  rw[D0,show (i+1)*2=(i*2)+1+1 from by omega]
  simpa using this
def iv (t:Nat×List Int×Value):Nat×List Int:=(t.1,t.2.1)
theorem ed.q {n:Nat}{w:World}{v:Value}{L:List (Nat×List Int×Value)} (h:ed n w v L):iQ w v (L.map iv):=by
 rcases h.row.2 with ⟨rfl,hn⟩ | ⟨g,cap,cur,rfl,hb,hg,h3⟩
 ·exact⟨none,0,by rw[DR,hn],fun hl=>by rw[DR] at hl;omega⟩
 ·refine⟨some ⟨g,0,none⟩,cap,by rw[DR],fun hl=>⟨g,0,rfl,(Dt.1 hg).1,fun i hi=>?_⟩⟩
  have hi2:i<L.length:=by simpa using hi
  obtain⟨f1,f2⟩:=kU (fun t:Nat×List Int×Value=>Value.int .i64 t.1) (fun t=>t.2.2) L i hi2
  have c1:=World.ownsRow.cells h.row (g:=g) rfl _ _ f1
  have c2:=World.ownsRow.cells h.row (g:=g) rfl _ _ f2
  refine⟨L[i].2.2,?_,?_,?_⟩
  ·rw[dP] at c1
   simpa[iv] using c1
  ·rw[dP] at c2
   simpa[iv,Ee] using c2
  ·have:=(h.ints L[i] (DH hi2)).q
   simpa[iv] using this
theorem ed.free {n:Nat}{w:World}{v:Value}{L:List (Nat×List Int×Value)}{A:List (Option Nat)} (h:ed n w v L) (hA:∀ x∈A,∀ k,x=some k→k<n):g_ A w (fun w=>ed 0 w v L):=by
 intro w' hs hg
 refine (h.near (fun k h1 h2=>hg k h2 (fun hm=>?_))).base (DM _)
 have:=hA _ hm k rfl
 omega
theorem aR.free {n:Nat}{w:World}{v:Value}{l:List Int}{A:List (Option Nat)} (h:aR n w v l) (hA:∀ k,v.ownBlock=some k→some k∉A):g_ A w (fun w=>aR 0 w v l):=by
 intro w' hs hg
 refine (h.same (fun k hk=>?_)).base (DM _)
 obtain⟨_,h2,_⟩:=av h hk
 exact hg k h2 (hA k hk)
structure vS (w:World) (v:Value) (L:List (List Int×Value)):Prop where
 row:w.ownsRow 0 39 1 v L.length (L.map (·.2))
 ints:∀ t∈L,aR 0 w t.2 t.1
theorem vS.q {w:World}{v:Value}{L:List (List Int×Value)}{f:Nat→List Int} (h:vS w v L) (hf:∀ i (h:i<L.length),L[i].1=f i):pC w v L.length f:=by
 rcases h.row.2 with ⟨rfl,hn⟩ | ⟨g,cap,cur,rfl,hb,hg,h3⟩
 ·exact⟨none,0,by rw[hn],fun hl=>by omega⟩
 ·refine⟨some ⟨g,0,none⟩,cap,rfl,fun hl=>⟨g,0,rfl,(Dt.1 hg).1,fun i hi=>?_⟩⟩
  have c1:=World.ownsRow.cells h.row (g:=g) rfl i L[i].2 (by simp[hi])
  refine⟨L[i].2,by rw[dP] at c1;exact c1,?_⟩
  rw[←hf i hi]
  exact (h.ints L[i] (DH hi)).q
def eN:Value:=.slice none 0 0
structure bB (w0 w:World) (gs:List Gd) (p:Option Addr) (c mB mb:Nat) (cn cb vmn vmb v6 v7:Value) (Ln Lb:List (List Int×Value)) (l6 l7:List Int) (N s:Nat) (f:Nat×Nat→Option Value) (dom:Nat×Nat→Prop) (E:World→Prop):Prop where
 blk:w.heap[mB]?=some (.cells #[.slice p gs.length c,cn,cb,.map (some mb)] 119 (0,0))
 map:dh Tryz.prog 25 kO xe w mb N s f
 rn:w.ownsRow 0 39 1 vmn Ln.length (Ln.map (·.2))
 rb:w.ownsRow 0 39 1 vmb Lb.length (Lb.map (·.2))
 r6:aR 0 w v6 l6
 r7:aR 0 w v7 l7
 n67:∀ k,v6.ownBlock=some k→v7.ownBlock≠some k
 nnb:∀ k,vmn.ownBlock=some k→vmb.ownBlock≠some k
 fin:g_ [some mB,some mb,vmn.ownBlock,vmb.ownBlock,v6.ownBlock,v7.ownBlock] w (fun w=>(∀ t∈Ln,aR 0 w t.2 t.1)∧(∀ t∈Lb,aR 0 w t.2 t.1)∧(∀ q,dom q→∃ v L,f q=some v∧ed 0 w v L∧L.map iv=(ah gs).needs q.1 q.2)∧E w)
 bl:Below w0.heap.size w0 w
 lo:∀ x∈[some mB,some mb,vmn.ownBlock,vmb.ownBlock,v6.ownBlock,v7.ownBlock],∀ k,x=some k→w0.heap.size≤k
section
variable {w0 w w' : World} {gs : List Gd} {p : Option Addr} {c mB mb : Nat} {cn cb vmn vmb v6 v7 : Value} {Ln Lb : List (List Int × Value)} {l6 l7 : List Int} {N s : Nat} {f : Nat × Nat → Option Value} {dom : Nat × Nat → Prop} {E : World → Prop}
theorem bB.mB_lt (h:bB w0 w gs p c mB mb cn cb vmn vmb v6 v7 Ln Lb l6 l7 N s f dom E):mB<w.heap.size:=(Dt.1 h.blk).1
theorem bB.mb_lt (h:bB w0 w gs p c mB mb cn cb vmn vmb v6 v7 Ln Lb l6 l7 N s f dom E):mb<w.heap.size:=h.map.lt
theorem jK {w:World}{mb N s:Nat}{f:Nat×Nat→Option Value} (h:dh Tryz.prog 25 kO xe w mb N s f):∃ es clock,w.heap[mb]?=some (.map es clock):=by
 obtain⟨D,⟨es,clock,hb,_⟩,_⟩:=h
 exact⟨es,clock,hb⟩
theorem bB.below (h:bB w0 w gs p c mB mb cn cb vmn vmb v6 v7 Ln Lb l6 l7 N s f dom E) (hb:Below w.heap.size w w'):bB w0 w' gs p c mB mb cn cb vmn vmb v6 v7 Ln Lb l6 l7 N s f dom E:=by
 have hr:∀ {v:Value} {e:TypeId} {z m:Nat} {xs:List Value},w.ownsRow 0 e z v m xs→w'.ownsRow 0 e z v m xs:=fun hr=>bD hr (fun k hk=>hb.block k (av hr hk).2.1)
 exact⟨(hb.block mB h.mB_lt).trans h.blk,h.map.same (hb.block mb h.mb_lt),hr h.rn,hr h.rb,hr h.r6,hr h.r7,h.n67,h.nnb,h.fin.go hb.size (fun b hb1 _=>hb.block b hb1) (fun x hx=>Or.inl hx),h.bl.trans (hb.mono h.bl.size),h.lo⟩
theorem iU {n:Nat}{w0 w w':World}{row:Option Nat} (hB:Below n w0 w) (hg:w.grownBy w' row) (hn:n≤w.heap.size) (h:∀ k,row=some k→n≤k):Below n w0 w':=hB.grown hg hn h
theorem bB.app6 (h:bB w0 w gs p c mB mb cn cb vmn vmb v6 v7 Ln Lb l6 l7 N s f dom E) {v6':Value}{l6':List Int} (hg:w.grownBy w' v6.ownBlock) (hr:aR 0 w' v6' l6') (ha:v6'.ownBlock=v6.ownBlock∨v6'.ownBlock=some w.heap.size) :
  bB w0 w' gs p c mB mb cn cb vmn vmb v6' v7 Ln Lb l6' l7 N s f dom E:=by
 have hsz:=hg.size
 have hbs:=h.bl.size
 have hk:∀ k,k<w.heap.size→v6.ownBlock≠some k→w'.heap[k]?=w.heap[k]?:=fun k hk hne=>hg.block k hk (fun e=>hne e.symm)
 have h6B:v6.ownBlock≠some mB:=fun e=>by
  obtain⟨_,_,cur,h1⟩:=av h.r6 e
  rw[h.blk] at h1;cases h1
 have h6b:v6.ownBlock≠some mb:=fun e=>by
  obtain⟨_,_,cur,h1⟩:=av h.r6 e
  obtain⟨es,cl,h2⟩:=jK h.map
  rw[h2] at h1;cases h1
 have hrow:∀ {v:Value} {z m:Nat} {xs:List Value},w.ownsRow 0 39 z v m xs→w'.ownsRow 0 39 z v m xs:=fun hr=>bD hr (fun k hk2=>hk k (av hr hk2).2.1 (dX hr h.r6 (by decide) hk2))
 refine⟨(hk mB h.mB_lt h6B).trans h.blk,h.map.same (hk mb h.mb_lt h6b),hrow h.rn,hrow h.rb,hr,h.r7.same (fun k hk2=>hk k (av h.r7 hk2).2.1 (fun e=>h.n67 k e hk2)),fun k e=>?_,h.nnb,h.fin.go hsz (fun b hb hn=>hk b hb (fun e=>hn (by rw[←e];simp))) (fun x hx=>?_),iU h.bl hg hbs (fun k e=>h.lo _ (by simp) k e),fun x hx k e=>?_⟩
 ·rcases ha with ha | ha
  ·exact h.n67 k (ha ▸ e)
  ·intro e7
   have:=(av h.r7 e7).2.1
   rw[ha] at e;cases e;omega
 ·simp only[DF,DI,or_false] at hx ⊢
  rcases hx with rfl | rfl | rfl | rfl | rfl | rfl
  ·exact Or.inl (Or.inl rfl)
  ·exact Or.inl (Or.inr (Or.inl rfl))
  ·exact Or.inl (Or.inr (Or.inr (Or.inl rfl)))
  ·exact Or.inl (Or.inr (Or.inr (Or.inr (Or.inl rfl))))
  ·rcases ha with ha | ha
   ·exact Or.inl (Or.inr (Or.inr (Or.inr (Or.inr (Or.inl ha)))))
   ·exact Or.inr (fun k e=>by rw[ha] at e;cases e;exact Dp _)
  ·exact Or.inl (Or.inr (Or.inr (Or.inr (Or.inr (Or.inr rfl)))))
 ·simp only[DF,DI,or_false] at hx
  rcases hx with rfl | rfl | rfl | rfl | rfl | rfl
  ·exact h.lo _ (by simp) k e
  ·exact h.lo _ (by simp) k e
  ·exact h.lo _ (by simp) k e
  ·exact h.lo _ (by simp) k e
  ·rcases ha with ha | ha
   ·exact h.lo _ (by simp) k (ha ▸ e)
   ·rw[ha] at e;cases e;exact hbs
  ·exact h.lo _ (by simp) k e
theorem bB.swap (h:bB w0 w gs p c mB mb cn cb vmn vmb v6 v7 Ln Lb l6 l7 N s f dom E):bB w0 w gs p c mB mb cn cb vmn vmb v7 v6 Ln Lb l7 l6 N s f dom E:=by
 refine⟨h.blk,h.map,h.rn,h.rb,h.r7,h.r6,fun k e e'=>h.n67 k e' e,h.nnb,h.fin.go (Dp _) (fun _ _ _=>rfl) (fun x hx=>Or.inl ?_),h.bl,fun x hx=>h.lo x ?_⟩
 ·simp only[DF,DI,or_false] at hx ⊢
  rcases hx with rfl | rfl | rfl | rfl | rfl | rfl<;>simp
 ·simp only[DF,DI,or_false] at hx ⊢
  rcases hx with rfl | rfl | rfl | rfl | rfl | rfl<;>simp
theorem bB.app7 (h:bB w0 w gs p c mB mb cn cb vmn vmb v6 v7 Ln Lb l6 l7 N s f dom E) {v7':Value}{l7':List Int} (hg:w.grownBy w' v7.ownBlock) (hr:aR 0 w' v7' l7') (ha:v7'.ownBlock=v7.ownBlock∨v7'.ownBlock=some w.heap.size) :
  bB w0 w' gs p c mB mb cn cb vmn vmb v6 v7' Ln Lb l6 l7' N s f dom E:=(h.swap.app6 hg hr ha).swap
theorem bB.put (h:bB w0 w gs p c mB mb cn cb vmn vmb v6 v7 Ln Lb l6 l7 N s f dom E) {q:Nat×Nat}{v:Value}{L:List (Nat×List Int×Value)}{N' s':Nat} (hL:g_ [some mB,some mb,vmn.ownBlock,vmb.ownBlock,v6.ownBlock,v7.ownBlock] w (fun w=>ed 0 w v L)) (hq:L.map iv=(ah gs).needs q.1 q.2)
  (hg:w.grownBy w' (some mb)) (hm:dh Tryz.prog 25 kO xe w' mb N' s' (iO f q v)) :
  bB w0 w' gs p c mB mb cn cb vmn vmb v6 v7 Ln Lb l6 l7 N' s' (iO f q v) (fun x=>dom x∨x=q) E:=by
 obtain⟨es,cl,hobj⟩:=jK h.map
 have hbs:=h.bl.size
 have hk:∀ k,k<w.heap.size→k≠mb→w'.heap[k]?=w.heap[k]?:=fun k hk hne=>hg.block k hk (fun e=>hne (Option.some.inj e))
 have hrow:∀ {v:Value} {e:TypeId} {z m:Nat} {xs:List Value},w.ownsRow 0 e z v m xs→w'.ownsRow 0 e z v m xs:=fun hr=>bD hr (fun k hk2=>hk k (av hr hk2).2.1 (fun e=>by
  obtain⟨_,_,cur,h1⟩:=av hr hk2
  rw[e,hobj] at h1;cases h1))
 have hB:mB≠mb:=fun e=>by
  have:=h.blk
  rw[e,hobj] at this;cases this
 refine⟨(hk mB h.mB_lt hB).trans h.blk,hm,hrow h.rn,hrow h.rb,hrow h.r6,hrow h.r7,h.n67,h.nnb,?_,iU h.bl hg hbs (fun k e=>h.lo _ (by simp) k e),h.lo⟩
 refine ((h.fin.and hL).go (w':=w') hg.size (fun b hb hn=>hk b hb (fun e=>hn (by rw[e];simp))) (fun x hx=>Or.inl hx)).mono (fun w hw=>⟨hw.1.1,hw.1.2.1,fun x hx=>?_,hw.1.2.2.2⟩)
 by_cases e:x=q
 ·subst e
  exact⟨v,L,by unfold iO;rw[if_pos rfl],hw.2,hq⟩
 ·rcases hx with hx | hx
  ·obtain⟨v',L',a1,a2,a3⟩:=hw.1.2.2.1 x hx
   exact⟨v',L',by unfold iO;rw[if_neg e];exact a1,a2,a3⟩
  ·exact absurd hx e
theorem bB.retire (h:bB w0 w gs p c mB mb cn cb vmn vmb v6 v7 Ln Lb l6 l7 N s f dom (fun _=>True)) :
  bB w0 w gs p c mB mb cn cb vmn vmb eN eN Ln Lb [] [] N s f dom (fun w=>aR 0 w v6 l6∧aR 0 w v7 l7):=by
 have hne:∀ {v:Value} {l:List Int},aR 0 w v l→∀ k,v.ownBlock=some k→some k∉[some mB,some mb,vmn.ownBlock,vmb.ownBlock,eN.ownBlock,eN.ownBlock]:=by
  intro v l hr k hk hm
  obtain⟨_,_,cur,h1⟩:=av hr hk
  simp only[DF,DI,or_false,Option.some.injEq] at hm
  rcases hm with rfl | rfl | e | e | e | e
  ·rw[h.blk] at h1;cases h1
  ·obtain⟨es,cl,h2⟩:=jK h.map
   rw[h2] at h1;cases h1
  ·exact dX hr h.rn (by decide) hk e.symm
  ·exact dX hr h.rb (by decide) hk e.symm
  ·cases e
  ·cases e
 refine⟨h.blk,h.map,h.rn,h.rb,⟨by simp,Or.inl ⟨rfl,rfl⟩⟩,⟨by simp,Or.inl ⟨rfl,rfl⟩⟩,fun k e=>(by cases e),h.nnb,?_,h.bl,fun x hx=>?_⟩
 ·have h1:g_ [some mB,some mb,vmn.ownBlock,vmb.ownBlock,eN.ownBlock,eN.ownBlock] w _:=h.fin.go (Dp _) (fun _ _ _=>rfl) (fun x hx=>by
   simp only[DF,DI,or_false] at hx ⊢
   rcases hx with rfl | rfl | rfl | rfl | rfl | rfl
   ·exact Or.inl (Or.inl rfl)
   ·exact Or.inl (Or.inr (Or.inl rfl))
   ·exact Or.inl (Or.inr (Or.inr (Or.inl rfl)))
   ·exact Or.inl (Or.inr (Or.inr (Or.inr (Or.inl rfl))))
   ·exact Or.inr (fun k e=>by cases e)
   ·exact Or.inr (fun k e=>by cases e))
  exact ((h1.and (h.r6.free (hne h.r6))).and (h.r7.free (hne h.r7))).mono (fun w hw=>⟨hw.1.1.1,hw.1.1.2.1,hw.1.1.2.2.1,hw.1.2,hw.2⟩)
 ·simp only[DF,DI,or_false] at hx
  rcases hx with rfl | rfl | rfl | rfl | rfl | rfl
  ·exact h.lo _ (by simp)
  ·exact h.lo _ (by simp)
  ·exact h.lo _ (by simp)
  ·exact h.lo _ (by simp)
  ·intro k e;cases e
  ·intro k e;cases e
theorem bB.joinN (h:bB w0 w gs p c mB mb cn cb vmn vmb eN eN Ln Lb [] [] N s f dom E) {t:List Int×Value} (hE:∀ w,E w→aR 0 w t.2 t.1) {vmn':Value} (hg:w.grownBy w' vmn.ownBlock) (hr:w'.ownsRow 0 39 1 vmn' (Ln++[t]).length ((Ln++[t]).map (·.2))) (ha:vmn'.ownBlock=vmn.ownBlock∨vmn'.ownBlock=some w.heap.size) :
  bB w0 w' gs p c mB mb cn cb vmn' vmb eN eN (Ln++[t]) Lb [] [] N s f dom E:=by
 have hsz:=hg.size
 have hbs:=h.bl.size
 have hk:∀ k,k<w.heap.size→vmn.ownBlock≠some k→w'.heap[k]?=w.heap[k]?:=fun k hk hne=>hg.block k hk (fun e=>hne e.symm)
 have hnB:vmn.ownBlock≠some mB:=fun e=>by
  obtain⟨_,_,cur,h1⟩:=av h.rn e
  rw[h.blk] at h1;cases h1
 have hnb:vmn.ownBlock≠some mb:=fun e=>by
  obtain⟨_,_,cur,h1⟩:=av h.rn e
  obtain⟨es,cl,h2⟩:=jK h.map
  rw[h2] at h1;cases h1
 refine⟨(hk mB h.mB_lt hnB).trans h.blk,h.map.same (hk mb h.mb_lt hnb),hr,bD h.rb (fun k hk2=>hk k (av h.rb hk2).2.1 (fun e=>h.nnb k e hk2)),⟨by simp,Or.inl ⟨rfl,rfl⟩⟩,⟨by simp,Or.inl ⟨rfl,rfl⟩⟩,fun k e=>(by cases e),fun k e=>?_,?_,iU h.bl hg hbs (fun k e=>h.lo _ (by simp) k e),fun x hx k e=>?_⟩
 ·rcases ha with ha | ha
  ·exact h.nnb k (ha ▸ e)
  ·intro e7
   have:=(av h.rb e7).2.1
   rw[ha] at e;cases e;omega
 ·refine (h.fin.go (w':=w') hsz (fun b hb hn=>hk b hb (fun e=>hn (by rw[←e];simp))) (fun x hx=>?_)).mono (fun w hw=>⟨fun u hu=>?_,hw.2.1,hw.2.2.1,hw.2.2.2⟩)
  ·simp only[DF,DI,or_false] at hx ⊢
   rcases hx with rfl | rfl | rfl | rfl | rfl | rfl
   ·exact Or.inl (Or.inl rfl)
   ·exact Or.inl (Or.inr (Or.inl rfl))
   ·rcases ha with ha | ha
    ·exact Or.inl (Or.inr (Or.inr (Or.inl ha)))
    ·exact Or.inr (fun k e=>by rw[ha] at e;cases e;exact Dp _)
   ·exact Or.inl (Or.inr (Or.inr (Or.inr (Or.inl rfl))))
   ·exact Or.inl (Or.inr (Or.inr (Or.inr (Or.inr (Or.inl rfl)))))
   ·exact Or.inl (Or.inr (Or.inr (Or.inr (Or.inr (Or.inr rfl)))))
  ·rcases DV.1 hu with hu | hu
   ·exact hw.1 u hu
   ·rw[Eu.1 hu];exact hE w hw.2.2.2
 ·simp only[DF,DI,or_false] at hx
  rcases hx with rfl | rfl | rfl | rfl | rfl | rfl
  ·exact h.lo _ (by simp) k e
  ·exact h.lo _ (by simp) k e
  ·rcases ha with ha | ha
   ·exact h.lo _ (by simp) k (ha ▸ e)
   ·rw[ha] at e;cases e;exact hbs
  ·exact h.lo _ (by simp) k e
  ·exact h.lo _ (by simp) k e
  ·exact h.lo _ (by simp) k e
theorem bB.swapM (h:bB w0 w gs p c mB mb cn cb vmn vmb v6 v7 Ln Lb l6 l7 N s f dom E):bB w0 w gs p c mB mb cn cb vmb vmn v6 v7 Lb Ln l6 l7 N s f dom E:=by
 refine⟨h.blk,h.map,h.rb,h.rn,h.r6,h.r7,h.n67,fun k e e'=>h.nnb k e' e,(h.fin.go (Dp _) (fun _ _ _=>rfl) (fun x hx=>Or.inl ?_)).mono (fun w hw=>⟨hw.2.1,hw.1,hw.2.2⟩),h.bl,fun x hx=>h.lo x ?_⟩
 ·simp only[DF,DI,or_false] at hx ⊢
  rcases hx with rfl | rfl | rfl | rfl | rfl | rfl<;>simp
 ·simp only[DF,DI,or_false] at hx ⊢
  rcases hx with rfl | rfl | rfl | rfl | rfl | rfl<;>simp
theorem bB.joinB (h:bB w0 w gs p c mB mb cn cb vmn vmb eN eN Ln Lb [] [] N s f dom E) {t:List Int×Value} (hE:∀ w,E w→aR 0 w t.2 t.1) {vmb':Value} (hg:w.grownBy w' vmb.ownBlock) (hr:w'.ownsRow 0 39 1 vmb' (Lb++[t]).length ((Lb++[t]).map (·.2))) (ha:vmb'.ownBlock=vmb.ownBlock∨vmb'.ownBlock=some w.heap.size) :
  bB w0 w' gs p c mB mb cn cb vmn vmb' eN eN Ln (Lb++[t]) [] [] N s f dom E:=(h.swapM.joinN hE hg hr ha).swapM
theorem bB.setM (h:bB w0 w gs p c mB mb cn cb vmn vmb v6 v7 Ln Lb l6 l7 N s f dom E) {cn' cb':Value} (hk:∀ k,k≠mB→w'.heap[k]?=w.heap[k]?) (hs:w'.heap.size=w.heap.size) (hb:w'.heap[mB]?=some (.cells #[.slice p gs.length c,cn',cb',.map (some mb)] 119 (0,0))) (hB:Below w0.heap.size w0 w') :
  bB w0 w' gs p c mB mb cn' cb' vmn vmb v6 v7 Ln Lb l6 l7 N s f dom E:=by
 have hrow:∀ {v:Value} {e:TypeId} {z m:Nat} {xs:List Value},e≠119→w.ownsRow 0 e z v m xs→w'.ownsRow 0 e z v m xs:=fun he hr=>bD hr (fun k hk2=>hk k (fun e=>by
  obtain⟨_,_,cur,h1⟩:=av hr hk2
  rw[e,h.blk] at h1;cases h1;exact he rfl))
 have hbm:mb≠mB:=fun e=>by
  obtain⟨es,cl,h2⟩:=jK h.map
  rw[e,h.blk] at h2;cases h2
 exact⟨hb,h.map.same (hk mb hbm),hrow (by decide) h.rn,hrow (by decide) h.rb,hrow (by decide) h.r6,hrow (by decide) h.r7,h.n67,h.nnb,h.fin.go (by omega) (fun b _ hn=>hk b (fun e=>hn (by rw[e];simp))) (fun x hx=>Or.inl hx),hB,h.lo⟩
theorem bB.calm (h:bB w0 w gs p c mB mb cn cb vmn vmb v6 v7 Ln Lb l6 l7 N s f dom E):bB w0 w gs p c mB mb cn cb vmn vmb v6 v7 Ln Lb l6 l7 N s f dom (fun _=>True) :=
 ⟨h.blk,h.map,h.rn,h.rb,h.r6,h.r7,h.n67,h.nnb,h.fin.mono (fun w hw=>⟨hw.1,hw.2.1,hw.2.2.1,trivial⟩),h.bl,h.lo⟩
theorem bB.machP {i:Nat} (h:bB w0 w gs p c mB mb vmn vmb vmn vmb v6 v7 Ln Lb l6 l7 N s f dom E) (hG:bE w0 p gs) (hn:Ln.map (·.1)=(List.range gs.length).map (iL gs)) (hb:Lb.map (·.1)=(List.range gs.length).map (iI gs)) (hd:∀ g k,g<gs.length→k<(ag gs g).length→dom (g,k)) :
  ec w mB gs p c vmn vmb mb N s f:=by
 have hfin:=h.fin.self
 have cell:∀ j,w.cell? ⟨mB,j,none⟩=#[Value.slice p gs.length c,vmn,vmb,.map (some mb)][j]?:=fun j=>by rw[World.cell?,h.blk];rfl
 have ln:Ln.length=gs.length:=by have:=congrArg List.length hn;simpa using this
 have lb:Lb.length=gs.length:=by have:=congrArg List.length hb;simpa using this
 have gn:∀ i (hi:i<Ln.length),Ln[i].1=iL gs i:=fun i hi=>by
  have:=congrArg (fun l=>l[i]?) hn
  simp only[DN,Dq hi,EL (by omega:i<gs.length),Fc,Option.some.injEq] at this
  exact this
 have gb:∀ i (hi:i<Lb.length),Lb[i].1=iI gs i:=fun i hi=>by
  have:=congrArg (fun l=>l[i]?) hb
  simp only[DN,Dq hi,EL (by omega:i<gs.length),Fc,Option.some.injEq] at this
  exact this
 have q1:=vS.q ⟨h.rn,hfin.1⟩ gn
 have q2:=vS.q ⟨h.rb,hfin.2.1⟩ gb
 rw[ln] at q1
 rw[lb] at q2
 exact⟨cell 0,cell 1,cell 2,cell 3,h.mB_lt,hG.below h.bl,q1,q2,h.map,fun g k hg hk=>by
  obtain⟨v,L,a1,a2,a3⟩:=hfin.2.2.1 (g,k) (hd g k hg hk)
  exact⟨v,a1,by rw[←a3];exact a2.q⟩⟩
end
end Go.Proofs.YtnkgbocdpngldaaGreatDoor
