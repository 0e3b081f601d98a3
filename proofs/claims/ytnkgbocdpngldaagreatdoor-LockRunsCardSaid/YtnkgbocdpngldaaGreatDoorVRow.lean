/-
  Texts of this claim: Row, Made1.
-/
import Derived.Deep.AppendLies
import Derived.Test.YtnkgbocdpngldaaGreatDoorVKeys
import Derived.Test.YtnkgbocdpngldaaGreatDoorVA
set_option linter.unusedVariables false
set_option linter.unusedSimpArgs false
set_option maxRecDepth 100000
set_option maxHeartbeats 8000000

namespace Go.Proofs.YtnkgbocdpngldaaGreatDoor
open Go.RowKit Dc Dg
def gE (A:List (Option Nat)) (w:World) (P:World→Prop):Prop:=∀ w':World,w.heap.size≤w'.heap.size→(∀ b,b<w.heap.size→some b∉A→w'.heap[b]?=w.heap[b]?)→P w'
theorem gE.self {A:List (Option Nat)} {w:World} {P:World→Prop} (h:gE A w P):P w:=h w (Ca _) (fun _ _ _=>rfl)
theorem gE.go {A A':List (Option Nat)} {w w':World} {P:World→Prop} (h:gE A w P) (hs:w.heap.size≤w'.heap.size) (hg:∀ b,b<w.heap.size→some b∉A→w'.heap[b]?=w.heap[b]?) (hA:∀ x∈A',x∈A∨∀ k,x=some k→w.heap.size≤k):gE A' w' P:=by
 intro w'' hs' hg'
 refine h w'' (by omega) (fun b hb hn=>?_)
 rw [hg' b (by omega) (fun hm=>?_),hg b hb hn]
 rcases hA _ hm with h1 | h1
 ·exact hn h1
 ·have:=h1 b rfl;omega
theorem gE.mono {A:List (Option Nat)} {w:World} {P Q:World→Prop} (h:gE A w P) (hpq:∀ w,P w→Q w):gE A w Q:=fun w' h1 h2=>hpq _ (h w' h1 h2)
theorem gE.and {A:List (Option Nat)} {w:World} {P Q:World→Prop} (h:gE A w P) (h':gE A w Q):gE A w (fun w=>P w∧Q w):=fun w' h1 h2=>⟨h w' h1 h2,h' w' h1 h2⟩
theorem eI (g i:Nat):(⟨g,0,none⟩:Addr).add i=⟨g,0+i,none⟩:=by
 unfold Addr.add
 split
 ·rename_i h;subst h;rfl
 ·rfl
theorem b_ {w w':World} {n:Nat} {e:TypeId} {size:Nat} {v:Value} {m:Nat} {xs:List Value} (h:w.ownsRow n e size v m xs) (hs:∀ k,v.ownBlock=some k→w'.heap[k]?=w.heap[k]?):w'.ownsRow n e size v m xs:=by
 refine ⟨h.1,?_⟩
 rcases h.2 with h2 | ⟨g,cap,cur,rfl,hb,hg,h3⟩
 ·exact Or.inl h2
 ·exact Or.inr ⟨g,cap,cur,rfl,hb,(hs g rfl).trans hg,h3⟩
theorem gp {w:World} {n n':Nat} {e:TypeId} {size:Nat} {v:Value} {m:Nat} {xs:List Value} (h:w.ownsRow n e size v m xs) (hn:n'≤n):w.ownsRow n' e size v m xs:=by
 refine ⟨h.1,?_⟩
 rcases h.2 with h2 | ⟨g,cap,cur,rfl,hb,hg,h3⟩
 ·exact Or.inl h2
 ·exact Or.inr ⟨g,cap,cur,rfl,Ci hn hb,hg,h3⟩
theorem aw {w:World} {n:Nat} {e:TypeId} {size:Nat} {v:Value} {m:Nat} {xs:List Value} (h:w.ownsRow n e size v m xs) {k:Nat} (hk:v.ownBlock=some k):n≤k∧k<w.heap.size∧∃ cur,w.heap[k]?=some (.cells cur e (0,0)):=by
 rcases h.2 with ⟨rfl,_⟩ | ⟨g,cap,cur,rfl,hb,hg,h3⟩
 ·cases hk
 ·simp only [Value.ownBlock,Option.some.injEq] at hk
  subst hk
  exact ⟨hb,(Cd.1 hg).1,cur,hg⟩
theorem dM {w:World} {n n':Nat} {e e':TypeId} {size size':Nat} {v v':Value} {m m':Nat} {xs xs':List Value} (h:w.ownsRow n e size v m xs) (h':w.ownsRow n' e' size' v' m' xs') (he:e≠e') {k:Nat} (hk:v.ownBlock=some k):v'.ownBlock≠some k:=by
 intro hk'
 obtain ⟨_,_,cur,h1⟩:=aw h hk
 obtain ⟨_,_,cur',h2⟩:=aw h' hk'
 rw [h1] at h2
 cases h2
 exact he rfl
def aK (n:Nat) (w:World) (v:Value) (l:List Int):Prop:=w.ownsRow n 3 1 v l.length (l.map (Value.int .i64))
theorem aK.same {n:Nat} {w w':World} {v:Value} {l:List Int} (h:aK n w v l) (hs:∀ k,v.ownBlock=some k→w'.heap[k]?=w.heap[k]?):aK n w' v l:=b_ h hs
theorem aK.base {n n':Nat} {w:World} {v:Value} {l:List Int} (h:aK n w v l) (hn:n'≤n):aK n' w v l:=gp h hn
theorem aK.near {n:Nat} {w w':World} {v:Value} {l:List Int} (h:aK n w v l) (hs:∀ k,n≤k→k<w.heap.size→w'.heap[k]?=w.heap[k]?):aK n w' v l :=
 h.same (fun k hk=>by obtain ⟨h1,h2,_⟩:=aw h hk;exact hs k h1 h2)
theorem aK.q {n:Nat} {w:World} {v:Value} {l:List Int} (h:aK n w v l):aZ w v l:=by
 rcases h.2 with ⟨rfl,hn⟩ | ⟨g,cap,cur,rfl,hb,hg,h3⟩
 ·exact ⟨none,0,by rw [hn],fun hl=>by omega⟩
 ·refine ⟨some ⟨g,0,none⟩,cap,rfl,fun hl=>⟨g,0,rfl,(Cd.1 hg).1,fun i hi=>?_⟩⟩
  have:=World.ownsRow.cells h (g:=g) rfl i (.int .i64 l[i]) (by simp [hi])
  rw [eI] at this
  exact this
structure dT (n:Nat) (w:World) (v:Value) (L:List (Nat×List Int×Value)):Prop where
 row:w.ownsRow n 140 2 v L.length (L.flatMap fun t=>[.int .i64 t.1,t.2.2])
 ints:∀ t∈L,aK n w t.2.2 t.2.1
theorem dT.near {n:Nat} {w w':World} {v:Value} {L:List (Nat×List Int×Value)} (h:dT n w v L) (hs:∀ k,n≤k→k<w.heap.size→w'.heap[k]?=w.heap[k]?):dT n w' v L :=
 ⟨b_ h.row (fun k hk=>by obtain ⟨h1,h2,_⟩:=aw h.row hk;exact hs k h1 h2),fun t ht=>(h.ints t ht).near hs⟩
theorem dT.base {n n':Nat} {w:World} {v:Value} {L:List (Nat×List Int×Value)} (h:dT n w v L) (hn:n'≤n):dT n' w v L:=⟨gp h.row hn,fun t ht=>(h.ints t ht).base hn⟩
theorem ko {α:Type} (a b:α→Value):∀ (L:List α) (i:Nat) (h:i<L.length),(L.flatMap fun t=>[a t,b t])[i*2]?=some (a L[i])∧(L.flatMap fun t=>[a t,b t])[i*2+1]?=some (b L[i])
 | [],i,h=>by simp at h
 | x :: L,0,h=>by simp
 | x :: L,i+1,h=>by
  have:=ko a b L i (by simpa using h)
  rw [C1,show (i+1)*2=(i*2)+1+1 from by omega]
  simpa using this
def gQ (t:Nat×List Int×Value):Nat×List Int:=(t.1,t.2.1)
theorem dT.q {n:Nat} {w:World} {v:Value} {L:List (Nat×List Int×Value)} (h:dT n w v L):ij w v (L.map gQ):=by
 rcases h.row.2 with ⟨rfl,hn⟩ | ⟨g,cap,cur,rfl,hb,hg,h3⟩
 ·exact ⟨none,0,by rw [DA,hn],fun hl=>by rw [DA] at hl;omega⟩
 ·refine ⟨some ⟨g,0,none⟩,cap,by rw [DA],fun hl=>⟨g,0,rfl,(Cd.1 hg).1,fun i hi=>?_⟩⟩
  have hi2:i<L.length:=by simpa using hi
  obtain ⟨f1,f2⟩:=ko (fun t:Nat×List Int×Value=>Value.int .i64 t.1) (fun t=>t.2.2) L i hi2
  have c1:=World.ownsRow.cells h.row (g:=g) rfl _ _ f1
  have c2:=World.ownsRow.cells h.row (g:=g) rfl _ _ f2
  refine ⟨L[i].2.2,?_,?_,?_⟩
  ·rw [eI] at c1
   simpa [gQ] using c1
  ·rw [eI] at c2
   simpa [gQ,CU] using c2
  ·have:=(h.ints L[i] (Cs hi2)).q
   simpa [gQ] using this
theorem dT.free {n:Nat} {w:World} {v:Value} {L:List (Nat×List Int×Value)} {A:List (Option Nat)} (h:dT n w v L) (hA:∀ x∈A,∀ k,x=some k→k<n):gE A w (fun w=>dT 0 w v L):=by
 intro w' hs hg
 refine (h.near (fun k h1 h2=>hg k h2 (fun hm=>?_))).base (Cw _)
 have:=hA _ hm k rfl
 omega
theorem aK.free {n:Nat} {w:World} {v:Value} {l:List Int} {A:List (Option Nat)} (h:aK n w v l) (hA:∀ k,v.ownBlock=some k→some k∉A):gE A w (fun w=>aK 0 w v l):=by
 intro w' hs hg
 refine (h.same (fun k hk=>?_)).base (Cw _)
 obtain ⟨_,h2,_⟩:=aw h hk
 exact hg k h2 (hA k hk)
structure uw (w:World) (v:Value) (L:List (List Int×Value)):Prop where
 row:w.ownsRow 0 39 1 v L.length (L.map (·.2))
 ints:∀ t∈L,aK 0 w t.2 t.1
theorem uw.q {w:World} {v:Value} {L:List (List Int×Value)} {f:Nat→List Int} (h:uw w v L) (hf:∀ i (h:i<L.length),L[i].1=f i):oh w v L.length f:=by
 rcases h.row.2 with ⟨rfl,hn⟩ | ⟨g,cap,cur,rfl,hb,hg,h3⟩
 ·exact ⟨none,0,by rw [hn],fun hl=>by omega⟩
 ·refine ⟨some ⟨g,0,none⟩,cap,rfl,fun hl=>⟨g,0,rfl,(Cd.1 hg).1,fun i hi=>?_⟩⟩
  have c1:=World.ownsRow.cells h.row (g:=g) rfl i L[i].2 (by simp [hi])
  refine ⟨L[i].2,by rw [eI] at c1;exact c1,?_⟩
  rw [←hf i hi]
  exact (h.ints L[i] (Cs hi)).q
end Go.Proofs.YtnkgbocdpngldaaGreatDoor

namespace Go.Proofs.YtnkgbocdpngldaaGreatDoor
open Go.RowKit Dc Dg
def er:Value:=.slice none 0 0
structure a_ (w0 w:World) (gs:List Gd) (p:Option Addr) (c mB mb:Nat) (cn cb vmn vmb v6 v7:Value) (Ln Lb:List (List Int×Value)) (l6 l7:List Int) (N s:Nat) (f:Nat×Nat→Option Value) (dom:Nat×Nat→Prop) (E:World→Prop):Prop where
 blk:w.heap[mB]?=some (.cells #[.slice p gs.length c,cn,cb,.map (some mb)] 119 (0,0))
 map:cH Tryz.prog 25 kh vF w mb N s f
 rn:w.ownsRow 0 39 1 vmn Ln.length (Ln.map (·.2))
 rb:w.ownsRow 0 39 1 vmb Lb.length (Lb.map (·.2))
 r6:aK 0 w v6 l6
 r7:aK 0 w v7 l7
 n67:∀ k,v6.ownBlock=some k→v7.ownBlock≠some k
 nnb:∀ k,vmn.ownBlock=some k→vmb.ownBlock≠some k
 fin:gE [some mB,some mb,vmn.ownBlock,vmb.ownBlock,v6.ownBlock,v7.ownBlock] w (fun w=>(∀ t∈Ln,aK 0 w t.2 t.1)∧(∀ t∈Lb,aK 0 w t.2 t.1)∧(∀ q,dom q→∃ v L,f q=some v∧dT 0 w v L∧L.map gQ=(ai gs).needs q.1 q.2)∧E w)
 bl:Below w0.heap.size w0 w
 lo:∀ x∈[some mB,some mb,vmn.ownBlock,vmb.ownBlock,v6.ownBlock,v7.ownBlock],∀ k,x=some k→w0.heap.size≤k
section
variable {w0 w w' : World} {gs : List Gd} {p : Option Addr} {c mB mb : Nat} {cn cb vmn vmb v6 v7 : Value} {Ln Lb : List (List Int × Value)} {l6 l7 : List Int} {N s : Nat} {f : Nat × Nat → Option Value} {dom : Nat × Nat → Prop} {E : World → Prop}
theorem a_.mB_lt (h:a_ w0 w gs p c mB mb cn cb vmn vmb v6 v7 Ln Lb l6 l7 N s f dom E):mB<w.heap.size:=(Cd.1 h.blk).1
theorem a_.mb_lt (h:a_ w0 w gs p c mB mb cn cb vmn vmb v6 v7 Ln Lb l6 l7 N s f dom E):mb<w.heap.size:=h.map.lt
theorem jb {w:World} {mb N s:Nat} {f:Nat×Nat→Option Value} (h:cH Tryz.prog 25 kh vF w mb N s f):∃ es clock,w.heap[mb]?=some (.map es clock):=by
 obtain ⟨D,⟨es,clock,hb,_⟩,_⟩:=h
 exact ⟨es,clock,hb⟩
theorem a_.below (h:a_ w0 w gs p c mB mb cn cb vmn vmb v6 v7 Ln Lb l6 l7 N s f dom E) (hb:Below w.heap.size w w'):a_ w0 w' gs p c mB mb cn cb vmn vmb v6 v7 Ln Lb l6 l7 N s f dom E:=by
 have hr:∀ {v:Value} {e:TypeId} {z m:Nat} {xs:List Value},w.ownsRow 0 e z v m xs→w'.ownsRow 0 e z v m xs:=fun hr=>b_ hr (fun k hk=>hb.block k (aw hr hk).2.1)
 exact ⟨(hb.block mB h.mB_lt).trans h.blk,h.map.same (hb.block mb h.mb_lt),hr h.rn,hr h.rb,hr h.r6,hr h.r7,h.n67,h.nnb,h.fin.go hb.size (fun b hb1 _=>hb.block b hb1) (fun x hx=>Or.inl hx),h.bl.trans (hb.mono h.bl.size),h.lo⟩
theorem io {n:Nat} {w0 w w':World} {row:Option Nat} (hB:Below n w0 w) (hg:w.grownBy w' row) (hn:n≤w.heap.size) (h:∀ k,row=some k→n≤k):Below n w0 w':=hB.grown hg hn h
theorem a_.app6 (h:a_ w0 w gs p c mB mb cn cb vmn vmb v6 v7 Ln Lb l6 l7 N s f dom E) {v6':Value} {l6':List Int} (hg:w.grownBy w' v6.ownBlock) (hr:aK 0 w' v6' l6') (ha:v6'.ownBlock=v6.ownBlock∨v6'.ownBlock=some w.heap.size) :
  a_ w0 w' gs p c mB mb cn cb vmn vmb v6' v7 Ln Lb l6' l7 N s f dom E:=by
 have hsz:=hg.size
 have hbs:=h.bl.size
 have hk:∀ k,k<w.heap.size→v6.ownBlock≠some k→w'.heap[k]?=w.heap[k]?:=fun k hk hne=>hg.block k hk (fun e=>hne e.symm)
 have h6B:v6.ownBlock≠some mB:=fun e=>by
  obtain ⟨_,_,cur,h1⟩:=aw h.r6 e
  rw [h.blk] at h1;cases h1
 have h6b:v6.ownBlock≠some mb:=fun e=>by
  obtain ⟨_,_,cur,h1⟩:=aw h.r6 e
  obtain ⟨es,cl,h2⟩:=jb h.map
  rw [h2] at h1;cases h1
 have hrow:∀ {v:Value} {z m:Nat} {xs:List Value},w.ownsRow 0 39 z v m xs→w'.ownsRow 0 39 z v m xs:=fun hr=>b_ hr (fun k hk2=>hk k (aw hr hk2).2.1 (dM hr h.r6 (by decide) hk2))
 refine ⟨(hk mB h.mB_lt h6B).trans h.blk,h.map.same (hk mb h.mb_lt h6b),hrow h.rn,hrow h.rb,hr,h.r7.same (fun k hk2=>hk k (aw h.r7 hk2).2.1 (fun e=>h.n67 k e hk2)),fun k e=>?_,h.nnb,h.fin.go hsz (fun b hb hn=>hk b hb (fun e=>hn (by rw [←e];simp))) (fun x hx=>?_),io h.bl hg hbs (fun k e=>h.lo _ (by simp) k e),fun x hx k e=>?_⟩
 ·rcases ha with ha | ha
  ·exact h.n67 k (ha ▸ e)
  ·intro e7
   have:=(aw h.r7 e7).2.1
   rw [ha] at e;cases e;omega
 ·simp only [Co,Cp,or_false] at hx ⊢
  rcases hx with rfl | rfl | rfl | rfl | rfl | rfl
  ·exact Or.inl (Or.inl rfl)
  ·exact Or.inl (Or.inr (Or.inl rfl))
  ·exact Or.inl (Or.inr (Or.inr (Or.inl rfl)))
  ·exact Or.inl (Or.inr (Or.inr (Or.inr (Or.inl rfl))))
  ·rcases ha with ha | ha
   ·exact Or.inl (Or.inr (Or.inr (Or.inr (Or.inr (Or.inl ha)))))
   ·exact Or.inr (fun k e=>by rw [ha] at e;cases e;exact Ca _)
  ·exact Or.inl (Or.inr (Or.inr (Or.inr (Or.inr (Or.inr rfl)))))
 ·simp only [Co,Cp,or_false] at hx
  rcases hx with rfl | rfl | rfl | rfl | rfl | rfl
  ·exact h.lo _ (by simp) k e
  ·exact h.lo _ (by simp) k e
  ·exact h.lo _ (by simp) k e
  ·exact h.lo _ (by simp) k e
  ·rcases ha with ha | ha
   ·exact h.lo _ (by simp) k (ha ▸ e)
   ·rw [ha] at e;cases e;exact hbs
  ·exact h.lo _ (by simp) k e
theorem a_.swap (h:a_ w0 w gs p c mB mb cn cb vmn vmb v6 v7 Ln Lb l6 l7 N s f dom E):a_ w0 w gs p c mB mb cn cb vmn vmb v7 v6 Ln Lb l7 l6 N s f dom E:=by
 refine ⟨h.blk,h.map,h.rn,h.rb,h.r7,h.r6,fun k e e'=>h.n67 k e' e,h.nnb,h.fin.go (Ca _) (fun _ _ _=>rfl) (fun x hx=>Or.inl ?_),h.bl,fun x hx=>h.lo x ?_⟩
 ·simp only [Co,Cp,or_false] at hx ⊢
  rcases hx with rfl | rfl | rfl | rfl | rfl | rfl<;>simp
 ·simp only [Co,Cp,or_false] at hx ⊢
  rcases hx with rfl | rfl | rfl | rfl | rfl | rfl<;>simp
theorem a_.app7 (h:a_ w0 w gs p c mB mb cn cb vmn vmb v6 v7 Ln Lb l6 l7 N s f dom E) {v7':Value} {l7':List Int} (hg:w.grownBy w' v7.ownBlock) (hr:aK 0 w' v7' l7') (ha:v7'.ownBlock=v7.ownBlock∨v7'.ownBlock=some w.heap.size) :
  a_ w0 w' gs p c mB mb cn cb vmn vmb v6 v7' Ln Lb l6 l7' N s f dom E:=(h.swap.app6 hg hr ha).swap
theorem a_.put (h:a_ w0 w gs p c mB mb cn cb vmn vmb v6 v7 Ln Lb l6 l7 N s f dom E) {q:Nat×Nat} {v:Value} {L:List (Nat×List Int×Value)} {N' s':Nat} (hL:gE [some mB,some mb,vmn.ownBlock,vmb.ownBlock,v6.ownBlock,v7.ownBlock] w (fun w=>dT 0 w v L)) (hq:L.map gQ=(ai gs).needs q.1 q.2)
  (hg:w.grownBy w' (some mb)) (hm:cH Tryz.prog 25 kh vF w' mb N' s' (ig f q v)) :
  a_ w0 w' gs p c mB mb cn cb vmn vmb v6 v7 Ln Lb l6 l7 N' s' (ig f q v) (fun x=>dom x∨x=q) E:=by
 obtain ⟨es,cl,hobj⟩:=jb h.map
 have hbs:=h.bl.size
 have hk:∀ k,k<w.heap.size→k≠mb→w'.heap[k]?=w.heap[k]?:=fun k hk hne=>hg.block k hk (fun e=>hne (Option.some.inj e))
 have hrow:∀ {v:Value} {e:TypeId} {z m:Nat} {xs:List Value},w.ownsRow 0 e z v m xs→w'.ownsRow 0 e z v m xs:=fun hr=>b_ hr (fun k hk2=>hk k (aw hr hk2).2.1 (fun e=>by
  obtain ⟨_,_,cur,h1⟩:=aw hr hk2
  rw [e,hobj] at h1;cases h1))
 have hB:mB≠mb:=fun e=>by
  have:=h.blk
  rw [e,hobj] at this;cases this
 refine ⟨(hk mB h.mB_lt hB).trans h.blk,hm,hrow h.rn,hrow h.rb,hrow h.r6,hrow h.r7,h.n67,h.nnb,?_,io h.bl hg hbs (fun k e=>h.lo _ (by simp) k e),h.lo⟩
 refine ((h.fin.and hL).go (w':=w') hg.size (fun b hb hn=>hk b hb (fun e=>hn (by rw [e];simp))) (fun x hx=>Or.inl hx)).mono (fun w hw=>⟨hw.1.1,hw.1.2.1,fun x hx=>?_,hw.1.2.2.2⟩)
 by_cases e:x=q
 ·subst e
  exact ⟨v,L,by unfold ig;rw [if_pos rfl],hw.2,hq⟩
 ·rcases hx with hx | hx
  ·obtain ⟨v',L',a1,a2,a3⟩:=hw.1.2.2.1 x hx
   exact ⟨v',L',by unfold ig;rw [if_neg e];exact a1,a2,a3⟩
  ·exact absurd hx e
theorem a_.retire (h:a_ w0 w gs p c mB mb cn cb vmn vmb v6 v7 Ln Lb l6 l7 N s f dom (fun _=>True)) :
  a_ w0 w gs p c mB mb cn cb vmn vmb er er Ln Lb [] [] N s f dom (fun w=>aK 0 w v6 l6∧aK 0 w v7 l7):=by
 have hne:∀ {v:Value} {l:List Int},aK 0 w v l→∀ k,v.ownBlock=some k→some k∉[some mB,some mb,vmn.ownBlock,vmb.ownBlock,er.ownBlock,er.ownBlock]:=by
  intro v l hr k hk hm
  obtain ⟨_,_,cur,h1⟩:=aw hr hk
  simp only [Co,Cp,or_false,Option.some.injEq] at hm
  rcases hm with rfl | rfl | e | e | e | e
  ·rw [h.blk] at h1;cases h1
  ·obtain ⟨es,cl,h2⟩:=jb h.map
   rw [h2] at h1;cases h1
  ·exact dM hr h.rn (by decide) hk e.symm
  ·exact dM hr h.rb (by decide) hk e.symm
  ·cases e
  ·cases e
 refine ⟨h.blk,h.map,h.rn,h.rb,⟨by simp,Or.inl ⟨rfl,rfl⟩⟩,⟨by simp,Or.inl ⟨rfl,rfl⟩⟩,fun k e=>(by cases e),h.nnb,?_,h.bl,fun x hx=>?_⟩
 ·have h1:gE [some mB,some mb,vmn.ownBlock,vmb.ownBlock,er.ownBlock,er.ownBlock] w _:=h.fin.go (Ca _) (fun _ _ _=>rfl) (fun x hx=>by
   simp only [Co,Cp,or_false] at hx ⊢
   rcases hx with rfl | rfl | rfl | rfl | rfl | rfl
   ·exact Or.inl (Or.inl rfl)
   ·exact Or.inl (Or.inr (Or.inl rfl))
   ·exact Or.inl (Or.inr (Or.inr (Or.inl rfl)))
   ·exact Or.inl (Or.inr (Or.inr (Or.inr (Or.inl rfl))))
   ·exact Or.inr (fun k e=>by cases e)
   ·exact Or.inr (fun k e=>by cases e))
  exact ((h1.and (h.r6.free (hne h.r6))).and (h.r7.free (hne h.r7))).mono (fun w hw=>⟨hw.1.1.1,hw.1.1.2.1,hw.1.1.2.2.1,hw.1.2,hw.2⟩)
 ·simp only [Co,Cp,or_false] at hx
  rcases hx with rfl | rfl | rfl | rfl | rfl | rfl
  ·exact h.lo _ (by simp)
  ·exact h.lo _ (by simp)
  ·exact h.lo _ (by simp)
  ·exact h.lo _ (by simp)
  ·intro k e;cases e
  ·intro k e;cases e
theorem a_.joinN (h:a_ w0 w gs p c mB mb cn cb vmn vmb er er Ln Lb [] [] N s f dom E) {t:List Int×Value} (hE:∀ w,E w→aK 0 w t.2 t.1) {vmn':Value} (hg:w.grownBy w' vmn.ownBlock) (hr:w'.ownsRow 0 39 1 vmn' (Ln++[t]).length ((Ln++[t]).map (·.2))) (ha:vmn'.ownBlock=vmn.ownBlock∨vmn'.ownBlock=some w.heap.size) :
  a_ w0 w' gs p c mB mb cn cb vmn' vmb er er (Ln++[t]) Lb [] [] N s f dom E:=by
 have hsz:=hg.size
 have hbs:=h.bl.size
 have hk:∀ k,k<w.heap.size→vmn.ownBlock≠some k→w'.heap[k]?=w.heap[k]?:=fun k hk hne=>hg.block k hk (fun e=>hne e.symm)
 have hnB:vmn.ownBlock≠some mB:=fun e=>by
  obtain ⟨_,_,cur,h1⟩:=aw h.rn e
  rw [h.blk] at h1;cases h1
 have hnb:vmn.ownBlock≠some mb:=fun e=>by
  obtain ⟨_,_,cur,h1⟩:=aw h.rn e
  obtain ⟨es,cl,h2⟩:=jb h.map
  rw [h2] at h1;cases h1
 refine ⟨(hk mB h.mB_lt hnB).trans h.blk,h.map.same (hk mb h.mb_lt hnb),hr,b_ h.rb (fun k hk2=>hk k (aw h.rb hk2).2.1 (fun e=>h.nnb k e hk2)),⟨by simp,Or.inl ⟨rfl,rfl⟩⟩,⟨by simp,Or.inl ⟨rfl,rfl⟩⟩,fun k e=>(by cases e),fun k e=>?_,?_,io h.bl hg hbs (fun k e=>h.lo _ (by simp) k e),fun x hx k e=>?_⟩
 ·rcases ha with ha | ha
  ·exact h.nnb k (ha ▸ e)
  ·intro e7
   have:=(aw h.rb e7).2.1
   rw [ha] at e;cases e;omega
 ·refine (h.fin.go (w':=w') hsz (fun b hb hn=>hk b hb (fun e=>hn (by rw [←e];simp))) (fun x hx=>?_)).mono (fun w hw=>⟨fun u hu=>?_,hw.2.1,hw.2.2.1,hw.2.2.2⟩)
  ·simp only [Co,Cp,or_false] at hx ⊢
   rcases hx with rfl | rfl | rfl | rfl | rfl | rfl
   ·exact Or.inl (Or.inl rfl)
   ·exact Or.inl (Or.inr (Or.inl rfl))
   ·rcases ha with ha | ha
    ·exact Or.inl (Or.inr (Or.inr (Or.inl ha)))
    ·exact Or.inr (fun k e=>by rw [ha] at e;cases e;exact Ca _)
   ·exact Or.inl (Or.inr (Or.inr (Or.inr (Or.inl rfl))))
   ·exact Or.inl (Or.inr (Or.inr (Or.inr (Or.inr (Or.inl rfl)))))
   ·exact Or.inl (Or.inr (Or.inr (Or.inr (Or.inr (Or.inr rfl)))))
  ·rcases CC.1 hu with hu | hu
   ·exact hw.1 u hu
   ·rw [Db.1 hu];exact hE w hw.2.2.2
 ·simp only [Co,Cp,or_false] at hx
  rcases hx with rfl | rfl | rfl | rfl | rfl | rfl
  ·exact h.lo _ (by simp) k e
  ·exact h.lo _ (by simp) k e
  ·rcases ha with ha | ha
   ·exact h.lo _ (by simp) k (ha ▸ e)
   ·rw [ha] at e;cases e;exact hbs
  ·exact h.lo _ (by simp) k e
  ·exact h.lo _ (by simp) k e
  ·exact h.lo _ (by simp) k e
theorem a_.swapM (h:a_ w0 w gs p c mB mb cn cb vmn vmb v6 v7 Ln Lb l6 l7 N s f dom E):a_ w0 w gs p c mB mb cn cb vmb vmn v6 v7 Lb Ln l6 l7 N s f dom E:=by
 refine ⟨h.blk,h.map,h.rb,h.rn,h.r6,h.r7,h.n67,fun k e e'=>h.nnb k e' e,(h.fin.go (Ca _) (fun _ _ _=>rfl) (fun x hx=>Or.inl ?_)).mono (fun w hw=>⟨hw.2.1,hw.1,hw.2.2⟩),h.bl,fun x hx=>h.lo x ?_⟩
 ·simp only [Co,Cp,or_false] at hx ⊢
  rcases hx with rfl | rfl | rfl | rfl | rfl | rfl<;>simp
 ·simp only [Co,Cp,or_false] at hx ⊢
  rcases hx with rfl | rfl | rfl | rfl | rfl | rfl<;>simp
theorem a_.joinB (h:a_ w0 w gs p c mB mb cn cb vmn vmb er er Ln Lb [] [] N s f dom E) {t:List Int×Value} (hE:∀ w,E w→aK 0 w t.2 t.1) {vmb':Value} (hg:w.grownBy w' vmb.ownBlock) (hr:w'.ownsRow 0 39 1 vmb' (Lb++[t]).length ((Lb++[t]).map (·.2))) (ha:vmb'.ownBlock=vmb.ownBlock∨vmb'.ownBlock=some w.heap.size) :
  a_ w0 w' gs p c mB mb cn cb vmn vmb' er er Ln (Lb++[t]) [] [] N s f dom E:=(h.swapM.joinN hE hg hr ha).swapM
theorem a_.setM (h:a_ w0 w gs p c mB mb cn cb vmn vmb v6 v7 Ln Lb l6 l7 N s f dom E) {cn' cb':Value} (hk:∀ k,k≠mB→w'.heap[k]?=w.heap[k]?) (hs:w'.heap.size=w.heap.size) (hb:w'.heap[mB]?=some (.cells #[.slice p gs.length c,cn',cb',.map (some mb)] 119 (0,0))) (hB:Below w0.heap.size w0 w') :
  a_ w0 w' gs p c mB mb cn' cb' vmn vmb v6 v7 Ln Lb l6 l7 N s f dom E:=by
 have hrow:∀ {v:Value} {e:TypeId} {z m:Nat} {xs:List Value},e≠119→w.ownsRow 0 e z v m xs→w'.ownsRow 0 e z v m xs:=fun he hr=>b_ hr (fun k hk2=>hk k (fun e=>by
  obtain ⟨_,_,cur,h1⟩:=aw hr hk2
  rw [e,h.blk] at h1;cases h1;exact he rfl))
 have hbm:mb≠mB:=fun e=>by
  obtain ⟨es,cl,h2⟩:=jb h.map
  rw [e,h.blk] at h2;cases h2
 exact ⟨hb,h.map.same (hk mb hbm),hrow (by decide) h.rn,hrow (by decide) h.rb,hrow (by decide) h.r6,hrow (by decide) h.r7,h.n67,h.nnb,h.fin.go (by omega) (fun b _ hn=>hk b (fun e=>hn (by rw [e];simp))) (fun x hx=>Or.inl hx),hB,h.lo⟩
theorem a_.calm (h:a_ w0 w gs p c mB mb cn cb vmn vmb v6 v7 Ln Lb l6 l7 N s f dom E):a_ w0 w gs p c mB mb cn cb vmn vmb v6 v7 Ln Lb l6 l7 N s f dom (fun _=>True) :=
 ⟨h.blk,h.map,h.rn,h.rb,h.r6,h.r7,h.n67,h.nnb,h.fin.mono (fun w hw=>⟨hw.1,hw.2.1,hw.2.2.1,trivial⟩),h.bl,h.lo⟩
theorem a_.machP {i:Nat} (h:a_ w0 w gs p c mB mb vmn vmb vmn vmb v6 v7 Ln Lb l6 l7 N s f dom E) (hG:a8 w0 p gs) (hn:Ln.map (·.1)=(List.range gs.length).map (ib gs)) (hb:Lb.map (·.1)=(List.range gs.length).map (g9 gs)) (hd:∀ g k,g<gs.length→k<(ag gs g).length→dom (g,k)) :
  eT w mB gs p c vmn vmb mb N s f:=by
 have hfin:=h.fin.self
 have cell:∀ j,w.cell? ⟨mB,j,none⟩=#[Value.slice p gs.length c,vmn,vmb,.map (some mb)][j]?:=fun j=>by rw [World.cell?,h.blk];rfl
 have ln:Ln.length=gs.length:=by have:=congrArg List.length hn;simpa using this
 have lb:Lb.length=gs.length:=by have:=congrArg List.length hb;simpa using this
 have gn:∀ i (hi:i<Ln.length),Ln[i].1=ib gs i:=fun i hi=>by
  have:=congrArg (fun l=>l[i]?) hn
  simp only [Dm,Cb hi,D0 (by omega:i<gs.length),DR,Option.some.injEq] at this
  exact this
 have gb:∀ i (hi:i<Lb.length),Lb[i].1=g9 gs i:=fun i hi=>by
  have:=congrArg (fun l=>l[i]?) hb
  simp only [Dm,Cb hi,D0 (by omega:i<gs.length),DR,Option.some.injEq] at this
  exact this
 have q1:=uw.q ⟨h.rn,hfin.1⟩ gn
 have q2:=uw.q ⟨h.rb,hfin.2.1⟩ gb
 rw [ln] at q1
 rw [lb] at q2
 exact ⟨cell 0,cell 1,cell 2,cell 3,h.mB_lt,hG.below h.bl,q1,q2,h.map,fun g k hg hk=>by
  obtain ⟨v,L,a1,a2,a3⟩:=hfin.2.2.1 (g,k) (hd g k hg hk)
  exact ⟨v,a1,by rw [←a3];exact a2.q⟩⟩
end
end Go.Proofs.YtnkgbocdpngldaaGreatDoor
