/- Lemmas of this claim. -/
import Derived.Deep.AppendLies
import Derived.Test.YtlkniohhalnjjaaGreatDoorKLock6
set_option linter.all false
set_option maxRecDepth 100000
set_option maxHeartbeats 8000000
namespace Go.Proofs.YtlkniohhalnjjaaGreatDoor
open Go.RowKit Dc Dg
def ec (A:List (Option Nat)) (w:World) (P:World→Prop):Prop:=∀ w':World,w.heap.size≤w'.heap.size→(∀ b,b<w.heap.size→some b∉A→w'.heap[b]?=w.heap[b]?)→P w'
theorem ec.self {A:List (Option Nat)}{w:World}{P:World→Prop} (h:ec A w P):P w:=h w (uo _) (fun _ _ _=>rfl)
theorem ec.go {A A':List (Option Nat)}{w w':World}{P:World→Prop} (h:ec A w P) (hs:w.heap.size≤w'.heap.size) (hg:∀ b,b<w.heap.size→some b∉A→w'.heap[b]?=w.heap[b]?) (hA:∀ x∈A',x∈A∨∀ k,x=some k→w.heap.size≤k):ec A' w' P:=by
 intro w'' hs' hg'
 refine h w'' (by omega) (fun b hb hn=>?_)
 rw[hg' b (by omega) (fun hm=>?_),hg b hb hn]
 rcases hA _ hm with h1 | h1
 ·exact hn h1
 ·have:=h1 b rfl;omega
theorem ec.mono {A:List (Option Nat)}{w:World}{P Q:World→Prop} (h:ec A w P) (hpq:∀ w,P w→Q w):ec A w Q:=fun w' h1 h2=>hpq _ (h w' h1 h2)
theorem ec.and {A:List (Option Nat)}{w:World}{P Q:World→Prop} (h:ec A w P) (h':ec A w Q):ec A w (fun w=>P w∧Q w):=fun w' h1 h2=>⟨h w' h1 h2,h' w' h1 h2⟩
theorem cC (g i:Nat):(⟨g,0,none⟩:Addr).add i=⟨g,0+i,none⟩:=by
 unfold Addr.add
 split
 ·rename_i h;subst h;rfl
 ·rfl
theorem bc {w w':World}{n:Nat}{e:TypeId}{size:Nat}{v:Value}{m:Nat}{xs:List Value} (h:w.ownsRow n e size v m xs) (hs:∀ k,v.ownBlock=some k→w'.heap[k]?=w.heap[k]?):w'.ownsRow n e size v m xs:=by
 refine⟨h.1,?_⟩
 rcases h.2 with h2 | ⟨g,cap,cur,rfl,hb,hg,h3⟩
 ·exact Or.inl h2
 ·exact Or.inr ⟨g,cap,cur,rfl,hb,(hs g rfl).trans hg,h3⟩
theorem d8 {w:World}{n n':Nat}{e:TypeId}{size:Nat}{v:Value}{m:Nat}{xs:List Value} (h:w.ownsRow n e size v m xs) (hn:n'≤n):w.ownsRow n' e size v m xs:=by
 refine⟨h.1,?_⟩
 rcases h.2 with h2 | ⟨g,cap,cur,rfl,hb,hg,h3⟩
 ·exact Or.inl h2
 ·exact Or.inr ⟨g,cap,cur,rfl,uB hn hb,hg,h3⟩
theorem ap {w:World}{n:Nat}{e:TypeId}{size:Nat}{v:Value}{m:Nat}{xs:List Value} (h:w.ownsRow n e size v m xs) {k:Nat} (hk:v.ownBlock=some k):n≤k∧k<w.heap.size∧∃ cur,w.heap[k]?=some (.cells cur e (0,0)):=by
 rcases h.2 with ⟨rfl,_⟩ | ⟨g,cap,cur,rfl,hb,hg,h3⟩
 ·cases hk
 ·simp only[Value.ownBlock,Option.some.injEq] at hk
  subst hk
  exact⟨hb,(uw.1 hg).1,cur,hg⟩
theorem dA {w:World}{n n':Nat}{e e':TypeId}{size size':Nat}{v v':Value}{m m':Nat}{xs xs':List Value} (h:w.ownsRow n e size v m xs) (h':w.ownsRow n' e' size' v' m' xs') (he:e≠e') {k:Nat} (hk:v.ownBlock=some k):v'.ownBlock≠some k:=by
 intro hk'
 obtain⟨_,_,cur,h1⟩:=ap h hk
 obtain⟨_,_,cur',h2⟩:=ap h' hk'
 rw[h1] at h2
 cases h2
 exact he rfl
def aG (n:Nat) (w:World) (v:Value) (l:List Int):Prop:=w.ownsRow n 3 1 v l.length (l.map (Value.int .i64))
theorem aG.same {n:Nat}{w w':World}{v:Value}{l:List Int} (h:aG n w v l) (hs:∀ k,v.ownBlock=some k→w'.heap[k]?=w.heap[k]?):aG n w' v l:=bc h hs
theorem aG.base {n n':Nat}{w:World}{v:Value}{l:List Int} (h:aG n w v l) (hn:n'≤n):aG n' w v l:=d8 h hn
theorem aG.near {n:Nat}{w w':World}{v:Value}{l:List Int} (h:aG n w v l) (hs:∀ k,n≤k→k<w.heap.size→w'.heap[k]?=w.heap[k]?):aG n w' v l :=
 h.same (fun k hk=>by obtain⟨h1,h2,_⟩:=ap h hk;exact hs k h1 h2)
theorem aG.q {n:Nat}{w:World}{v:Value}{l:List Int} (h:aG n w v l):bL w v l:=by
 rcases h.2 with ⟨rfl,hn⟩ | ⟨g,cap,cur,rfl,hb,hg,h3⟩
 ·exact⟨none,0,by rw[hn],fun hl=>by omega⟩
 ·refine⟨some ⟨g,0,none⟩,cap,rfl,fun hl=>⟨g,0,rfl,(uw.1 hg).1,fun i hi=>?_⟩⟩
  have:=World.ownsRow.cells h (g:=g) rfl i (.int .i64 l[i]) (by simp[hi])
  rw[cC] at this
  exact this
structure cz (n:Nat) (w:World) (v:Value) (L:List (Nat×List Int×Value)):Prop where
 row:w.ownsRow n 117 2 v L.length (L.flatMap fun t=>[.int .i64 t.1,t.2.2])
 ints:∀ t∈L,aG n w t.2.2 t.2.1
theorem cz.near {n:Nat}{w w':World}{v:Value}{L:List (Nat×List Int×Value)} (h:cz n w v L) (hs:∀ k,n≤k→k<w.heap.size→w'.heap[k]?=w.heap[k]?):cz n w' v L :=
 ⟨bc h.row (fun k hk=>by obtain⟨h1,h2,_⟩:=ap h.row hk;exact hs k h1 h2),fun t ht=>(h.ints t ht).near hs⟩
theorem cz.base {n n':Nat}{w:World}{v:Value}{L:List (Nat×List Int×Value)} (h:cz n w v L) (hn:n'≤n):cz n' w v L:=⟨d8 h.row hn,fun t ht=>(h.ints t ht).base hn⟩
theorem gQ {α:Type} (a b:α→Value):∀ (L:List α) (i:Nat) (h:i<L.length),(L.flatMap fun t=>[a t,b t])[i*2]?=some (a L[i])∧(L.flatMap fun t=>[a t,b t])[i*2+1]?=some (b L[i])
 | [],i,h=>by simp at h
 | x :: L,0,h=>by simp
 | x :: L,i+1,h=>by
  have:=gQ a b L i (by simpa using h)
  rw[u5,show (i+1)*2=(i*2)+1+1 from by omega]
  simpa using this
def ew (t:Nat×List Int×Value):Nat×List Int:=(t.1,t.2.1)
theorem cz.q {n:Nat}{w:World}{v:Value}{L:List (Nat×List Int×Value)} (h:cz n w v L):eR w v (L.map ew):=by
 rcases h.row.2 with ⟨rfl,hn⟩ | ⟨g,cap,cur,rfl,hb,hg,h3⟩
 ·exact⟨none,0,by rw[vH,hn],fun hl=>by rw[vH] at hl;omega⟩
 ·refine⟨some ⟨g,0,none⟩,cap,by rw[vH],fun hl=>⟨g,0,rfl,(uw.1 hg).1,fun i hi=>?_⟩⟩
  have hi2:i<L.length:=by simpa using hi
  obtain⟨f1,f2⟩:=gQ (fun t:Nat×List Int×Value=>Value.int .i64 t.1) (fun t=>t.2.2) L i hi2
  have c1:=World.ownsRow.cells h.row (g:=g) rfl _ _ f1
  have c2:=World.ownsRow.cells h.row (g:=g) rfl _ _ f2
  refine⟨L[i].2.2,?_,?_,?_⟩
  ·rw[cC] at c1
   simpa[ew] using c1
  ·rw[cC] at c2
   simpa[ew,vw] using c2
  ·have:=(h.ints L[i] (uH hi2)).q
   simpa[ew] using this
theorem cz.free {n:Nat}{w:World}{v:Value}{L:List (Nat×List Int×Value)}{A:List (Option Nat)} (h:cz n w v L) (hA:∀ x∈A,∀ k,x=some k→k<n):ec A w (fun w=>cz 0 w v L):=by
 intro w' hs hg
 refine (h.near (fun k h1 h2=>hg k h2 (fun hm=>?_))).base (vi _)
 have:=hA _ hm k rfl
 omega
theorem aG.free {n:Nat}{w:World}{v:Value}{l:List Int}{A:List (Option Nat)} (h:aG n w v l) (hA:∀ k,v.ownBlock=some k→some k∉A):ec A w (fun w=>aG 0 w v l):=by
 intro w' hs hg
 refine (h.same (fun k hk=>?_)).base (vi _)
 obtain⟨_,h2,_⟩:=ap h hk
 exact hg k h2 (hA k hk)
structure ot (w:World) (v:Value) (L:List (List Int×Value)):Prop where
 row:w.ownsRow 0 34 1 v L.length (L.map (·.2))
 ints:∀ t∈L,aG 0 w t.2 t.1
theorem ot.q {w:World}{v:Value}{L:List (List Int×Value)}{f:Nat→List Int} (h:ot w v L) (hf:∀ i (h:i<L.length),L[i].1=f i):jW w v L.length f:=by
 rcases h.row.2 with ⟨rfl,hn⟩ | ⟨g,cap,cur,rfl,hb,hg,h3⟩
 ·exact⟨none,0,by rw[hn],fun hl=>by omega⟩
 ·refine⟨some ⟨g,0,none⟩,cap,rfl,fun hl=>⟨g,0,rfl,(uw.1 hg).1,fun i hi=>?_⟩⟩
  have c1:=World.ownsRow.cells h.row (g:=g) rfl i L[i].2 (by simp[hi])
  refine⟨L[i].2,by rw[cC] at c1;exact c1,?_⟩
  rw[←hf i hi]
  exact (h.ints L[i] (uH hi)).q
def cL:Value:=.slice none 0 0
structure aL (w0 w:World) (gs:List Gd) (p:Option Addr) (c mB mb:Nat) (cn cb vmn vmb v6 v7:Value) (Ln Lb:List (List Int×Value)) (l6 l7:List Int) (N s:Nat) (f:Nat×Nat→Option Value) (dom:Nat×Nat→Prop) (E:World→Prop):Prop where
 blk:w.heap[mB]?=some (.cells #[.slice p gs.length c,cn,cb,.map (some mb)] 95 (0,0))
 map:bj Tryz.prog 42 gM pf w mb N s f
 rn:w.ownsRow 0 34 1 vmn Ln.length (Ln.map (·.2))
 rb:w.ownsRow 0 34 1 vmb Lb.length (Lb.map (·.2))
 r6:aG 0 w v6 l6
 r7:aG 0 w v7 l7
 n67:∀ k,v6.ownBlock=some k→v7.ownBlock≠some k
 nnb:∀ k,vmn.ownBlock=some k→vmb.ownBlock≠some k
 fin:ec [some mB,some mb,vmn.ownBlock,vmb.ownBlock,v6.ownBlock,v7.ownBlock] w (fun w=>(∀ t∈Ln,aG 0 w t.2 t.1)∧(∀ t∈Lb,aG 0 w t.2 t.1)∧(∀ q,dom q→∃ v L,f q=some v∧cz 0 w v L∧L.map ew=(ad gs).needs q.1 q.2)∧E w)
 bl:Below w0.heap.size w0 w
 lo:∀ x∈[some mB,some mb,vmn.ownBlock,vmb.ownBlock,v6.ownBlock,v7.ownBlock],∀ k,x=some k→w0.heap.size≤k
section
variable {w0 w w' : World} {gs : List Gd} {p : Option Addr} {c mB mb : Nat} {cn cb vmn vmb v6 v7 : Value} {Ln Lb : List (List Int × Value)} {l6 l7 : List Int} {N s : Nat} {f : Nat × Nat → Option Value} {dom : Nat × Nat → Prop} {E : World → Prop}
theorem aL.mB_lt (h:aL w0 w gs p c mB mb cn cb vmn vmb v6 v7 Ln Lb l6 l7 N s f dom E):mB<w.heap.size:=(uw.1 h.blk).1
theorem aL.mb_lt (h:aL w0 w gs p c mB mb cn cb vmn vmb v6 v7 Ln Lb l6 l7 N s f dom E):mb<w.heap.size:=h.map.lt
theorem fz {w:World}{mb N s:Nat}{f:Nat×Nat→Option Value} (h:bj Tryz.prog 42 gM pf w mb N s f):∃ es clock,w.heap[mb]?=some (.map es clock):=by
 obtain⟨D,⟨es,clock,hb,_⟩,_⟩:=h
 exact⟨es,clock,hb⟩
theorem aL.below (h:aL w0 w gs p c mB mb cn cb vmn vmb v6 v7 Ln Lb l6 l7 N s f dom E) (hb:Below w.heap.size w w'):aL w0 w' gs p c mB mb cn cb vmn vmb v6 v7 Ln Lb l6 l7 N s f dom E:=by
 have hr:∀ {v:Value} {e:TypeId} {z m:Nat} {xs:List Value},w.ownsRow 0 e z v m xs→w'.ownsRow 0 e z v m xs:=fun hr=>bc hr (fun k hk=>hb.block k (ap hr hk).2.1)
 exact⟨(hb.block mB h.mB_lt).trans h.blk,h.map.same (hb.block mb h.mb_lt),hr h.rn,hr h.rb,hr h.r6,hr h.r7,h.n67,h.nnb,h.fin.go hb.size (fun b hb1 _=>hb.block b hb1) (fun x hx=>Or.inl hx),h.bl.trans (hb.mono h.bl.size),h.lo⟩
theorem eU {n:Nat}{w0 w w':World}{row:Option Nat} (hB:Below n w0 w) (hg:w.grownBy w' row) (hn:n≤w.heap.size) (h:∀ k,row=some k→n≤k):Below n w0 w':=hB.grown hg hn h
theorem aL.app6 (h:aL w0 w gs p c mB mb cn cb vmn vmb v6 v7 Ln Lb l6 l7 N s f dom E) {v6':Value}{l6':List Int} (hg:w.grownBy w' v6.ownBlock) (hr:aG 0 w' v6' l6') (ha:v6'.ownBlock=v6.ownBlock∨v6'.ownBlock=some w.heap.size) :
  aL w0 w' gs p c mB mb cn cb vmn vmb v6' v7 Ln Lb l6' l7 N s f dom E:=by
 have hsz:=hg.size
 have hbs:=h.bl.size
 have hk:∀ k,k<w.heap.size→v6.ownBlock≠some k→w'.heap[k]?=w.heap[k]?:=fun k hk hne=>hg.block k hk (fun e=>hne e.symm)
 have h6B:v6.ownBlock≠some mB:=fun e=>by
  obtain⟨_,_,cur,h1⟩:=ap h.r6 e
  rw[h.blk] at h1;cases h1
 have h6b:v6.ownBlock≠some mb:=fun e=>by
  obtain⟨_,_,cur,h1⟩:=ap h.r6 e
  obtain⟨es,cl,h2⟩:=fz h.map
  rw[h2] at h1;cases h1
 have hrow:∀ {v:Value} {z m:Nat} {xs:List Value},w.ownsRow 0 34 z v m xs→w'.ownsRow 0 34 z v m xs:=fun hr=>bc hr (fun k hk2=>hk k (ap hr hk2).2.1 (dA hr h.r6 (by decide) hk2))
 refine⟨(hk mB h.mB_lt h6B).trans h.blk,h.map.same (hk mb h.mb_lt h6b),hrow h.rn,hrow h.rb,hr,h.r7.same (fun k hk2=>hk k (ap h.r7 hk2).2.1 (fun e=>h.n67 k e hk2)),fun k e=>?_,h.nnb,h.fin.go hsz (fun b hb hn=>hk b hb (fun e=>hn (by rw[←e];simp))) (fun x hx=>?_),eU h.bl hg hbs (fun k e=>h.lo _ (by simp) k e),fun x hx k e=>?_⟩
 ·rcases ha with ha | ha
  ·exact h.n67 k (ha ▸ e)
  ·intro e7
   have:=(ap h.r7 e7).2.1
   rw[ha] at e;cases e;omega
 ·simp only[uy,ux,or_false] at hx ⊢
  rcases hx with rfl | rfl | rfl | rfl | rfl | rfl
  ·exact Or.inl (Or.inl rfl)
  ·exact Or.inl (Or.inr (Or.inl rfl))
  ·exact Or.inl (Or.inr (Or.inr (Or.inl rfl)))
  ·exact Or.inl (Or.inr (Or.inr (Or.inr (Or.inl rfl))))
  ·rcases ha with ha | ha
   ·exact Or.inl (Or.inr (Or.inr (Or.inr (Or.inr (Or.inl ha)))))
   ·exact Or.inr (fun k e=>by rw[ha] at e;cases e;exact uo _)
  ·exact Or.inl (Or.inr (Or.inr (Or.inr (Or.inr (Or.inr rfl)))))
 ·simp only[uy,ux,or_false] at hx
  rcases hx with rfl | rfl | rfl | rfl | rfl | rfl
  ·exact h.lo _ (by simp) k e
  ·exact h.lo _ (by simp) k e
  ·exact h.lo _ (by simp) k e
  ·exact h.lo _ (by simp) k e
  ·rcases ha with ha | ha
   ·exact h.lo _ (by simp) k (ha ▸ e)
   ·rw[ha] at e;cases e;exact hbs
  ·exact h.lo _ (by simp) k e
theorem aL.swap (h:aL w0 w gs p c mB mb cn cb vmn vmb v6 v7 Ln Lb l6 l7 N s f dom E):aL w0 w gs p c mB mb cn cb vmn vmb v7 v6 Ln Lb l7 l6 N s f dom E:=by
 refine⟨h.blk,h.map,h.rn,h.rb,h.r7,h.r6,fun k e e'=>h.n67 k e' e,h.nnb,h.fin.go (uo _) (fun _ _ _=>rfl) (fun x hx=>Or.inl ?_),h.bl,fun x hx=>h.lo x ?_⟩
 ·simp only[uy,ux,or_false] at hx ⊢
  rcases hx with rfl | rfl | rfl | rfl | rfl | rfl<;>simp
 ·simp only[uy,ux,or_false] at hx ⊢
  rcases hx with rfl | rfl | rfl | rfl | rfl | rfl<;>simp
theorem aL.app7 (h:aL w0 w gs p c mB mb cn cb vmn vmb v6 v7 Ln Lb l6 l7 N s f dom E) {v7':Value}{l7':List Int} (hg:w.grownBy w' v7.ownBlock) (hr:aG 0 w' v7' l7') (ha:v7'.ownBlock=v7.ownBlock∨v7'.ownBlock=some w.heap.size) :
  aL w0 w' gs p c mB mb cn cb vmn vmb v6 v7' Ln Lb l6 l7' N s f dom E:=(h.swap.app6 hg hr ha).swap
theorem aL.put (h:aL w0 w gs p c mB mb cn cb vmn vmb v6 v7 Ln Lb l6 l7 N s f dom E) {q:Nat×Nat}{v:Value}{L:List (Nat×List Int×Value)}{N' s':Nat} (hL:ec [some mB,some mb,vmn.ownBlock,vmb.ownBlock,v6.ownBlock,v7.ownBlock] w (fun w=>cz 0 w v L)) (hq:L.map ew=(ad gs).needs q.1 q.2)
  (hg:w.grownBy w' (some mb)) (hm:bj Tryz.prog 42 gM pf w' mb N' s' (eP f q v)) :
  aL w0 w' gs p c mB mb cn cb vmn vmb v6 v7 Ln Lb l6 l7 N' s' (eP f q v) (fun x=>dom x∨x=q) E:=by
 obtain⟨es,cl,hobj⟩:=fz h.map
 have hbs:=h.bl.size
 have hk:∀ k,k<w.heap.size→k≠mb→w'.heap[k]?=w.heap[k]?:=fun k hk hne=>hg.block k hk (fun e=>hne (Option.some.inj e))
 have hrow:∀ {v:Value} {e:TypeId} {z m:Nat} {xs:List Value},w.ownsRow 0 e z v m xs→w'.ownsRow 0 e z v m xs:=fun hr=>bc hr (fun k hk2=>hk k (ap hr hk2).2.1 (fun e=>by
  obtain⟨_,_,cur,h1⟩:=ap hr hk2
  rw[e,hobj] at h1;cases h1))
 have hB:mB≠mb:=fun e=>by
  have:=h.blk
  rw[e,hobj] at this;cases this
 refine⟨(hk mB h.mB_lt hB).trans h.blk,hm,hrow h.rn,hrow h.rb,hrow h.r6,hrow h.r7,h.n67,h.nnb,?_,eU h.bl hg hbs (fun k e=>h.lo _ (by simp) k e),h.lo⟩
 refine ((h.fin.and hL).go (w':=w') hg.size (fun b hb hn=>hk b hb (fun e=>hn (by rw[e];simp))) (fun x hx=>Or.inl hx)).mono (fun w hw=>⟨hw.1.1,hw.1.2.1,fun x hx=>?_,hw.1.2.2.2⟩)
 by_cases e:x=q
 ·subst e
  exact⟨v,L,by unfold eP;rw[if_pos rfl],hw.2,hq⟩
 ·rcases hx with hx | hx
  ·obtain⟨v',L',a1,a2,a3⟩:=hw.1.2.2.1 x hx
   exact⟨v',L',by unfold eP;rw[if_neg e];exact a1,a2,a3⟩
  ·exact absurd hx e
theorem aL.retire (h:aL w0 w gs p c mB mb cn cb vmn vmb v6 v7 Ln Lb l6 l7 N s f dom (fun _=>True)) :
  aL w0 w gs p c mB mb cn cb vmn vmb cL cL Ln Lb [] [] N s f dom (fun w=>aG 0 w v6 l6∧aG 0 w v7 l7):=by
 have hne:∀ {v:Value} {l:List Int},aG 0 w v l→∀ k,v.ownBlock=some k→some k∉[some mB,some mb,vmn.ownBlock,vmb.ownBlock,cL.ownBlock,cL.ownBlock]:=by
  intro v l hr k hk hm
  obtain⟨_,_,cur,h1⟩:=ap hr hk
  simp only[uy,ux,or_false,Option.some.injEq] at hm
  rcases hm with rfl | rfl | e | e | e | e
  ·rw[h.blk] at h1;cases h1
  ·obtain⟨es,cl,h2⟩:=fz h.map
   rw[h2] at h1;cases h1
  ·exact dA hr h.rn (by decide) hk e.symm
  ·exact dA hr h.rb (by decide) hk e.symm
  ·cases e
  ·cases e
 refine⟨h.blk,h.map,h.rn,h.rb,⟨by simp,Or.inl ⟨rfl,rfl⟩⟩,⟨by simp,Or.inl ⟨rfl,rfl⟩⟩,fun k e=>(by cases e),h.nnb,?_,h.bl,fun x hx=>?_⟩
 ·have h1:ec [some mB,some mb,vmn.ownBlock,vmb.ownBlock,cL.ownBlock,cL.ownBlock] w _:=h.fin.go (uo _) (fun _ _ _=>rfl) (fun x hx=>by
   simp only[uy,ux,or_false] at hx ⊢
   rcases hx with rfl | rfl | rfl | rfl | rfl | rfl
   ·exact Or.inl (Or.inl rfl)
   ·exact Or.inl (Or.inr (Or.inl rfl))
   ·exact Or.inl (Or.inr (Or.inr (Or.inl rfl)))
   ·exact Or.inl (Or.inr (Or.inr (Or.inr (Or.inl rfl))))
   ·exact Or.inr (fun k e=>by cases e)
   ·exact Or.inr (fun k e=>by cases e))
  exact ((h1.and (h.r6.free (hne h.r6))).and (h.r7.free (hne h.r7))).mono (fun w hw=>⟨hw.1.1.1,hw.1.1.2.1,hw.1.1.2.2.1,hw.1.2,hw.2⟩)
 ·simp only[uy,ux,or_false] at hx
  rcases hx with rfl | rfl | rfl | rfl | rfl | rfl
  ·exact h.lo _ (by simp)
  ·exact h.lo _ (by simp)
  ·exact h.lo _ (by simp)
  ·exact h.lo _ (by simp)
  ·intro k e;cases e
  ·intro k e;cases e
theorem aL.joinN (h:aL w0 w gs p c mB mb cn cb vmn vmb cL cL Ln Lb [] [] N s f dom E) {t:List Int×Value} (hE:∀ w,E w→aG 0 w t.2 t.1) {vmn':Value} (hg:w.grownBy w' vmn.ownBlock) (hr:w'.ownsRow 0 34 1 vmn' (Ln++[t]).length ((Ln++[t]).map (·.2))) (ha:vmn'.ownBlock=vmn.ownBlock∨vmn'.ownBlock=some w.heap.size) :
  aL w0 w' gs p c mB mb cn cb vmn' vmb cL cL (Ln++[t]) Lb [] [] N s f dom E:=by
 have hsz:=hg.size
 have hbs:=h.bl.size
 have hk:∀ k,k<w.heap.size→vmn.ownBlock≠some k→w'.heap[k]?=w.heap[k]?:=fun k hk hne=>hg.block k hk (fun e=>hne e.symm)
 have hnB:vmn.ownBlock≠some mB:=fun e=>by
  obtain⟨_,_,cur,h1⟩:=ap h.rn e
  rw[h.blk] at h1;cases h1
 have hnb:vmn.ownBlock≠some mb:=fun e=>by
  obtain⟨_,_,cur,h1⟩:=ap h.rn e
  obtain⟨es,cl,h2⟩:=fz h.map
  rw[h2] at h1;cases h1
 refine⟨(hk mB h.mB_lt hnB).trans h.blk,h.map.same (hk mb h.mb_lt hnb),hr,bc h.rb (fun k hk2=>hk k (ap h.rb hk2).2.1 (fun e=>h.nnb k e hk2)),⟨by simp,Or.inl ⟨rfl,rfl⟩⟩,⟨by simp,Or.inl ⟨rfl,rfl⟩⟩,fun k e=>(by cases e),fun k e=>?_,?_,eU h.bl hg hbs (fun k e=>h.lo _ (by simp) k e),fun x hx k e=>?_⟩
 ·rcases ha with ha | ha
  ·exact h.nnb k (ha ▸ e)
  ·intro e7
   have:=(ap h.rb e7).2.1
   rw[ha] at e;cases e;omega
 ·refine (h.fin.go (w':=w') hsz (fun b hb hn=>hk b hb (fun e=>hn (by rw[←e];simp))) (fun x hx=>?_)).mono (fun w hw=>⟨fun u hu=>?_,hw.2.1,hw.2.2.1,hw.2.2.2⟩)
  ·simp only[uy,ux,or_false] at hx ⊢
   rcases hx with rfl | rfl | rfl | rfl | rfl | rfl
   ·exact Or.inl (Or.inl rfl)
   ·exact Or.inl (Or.inr (Or.inl rfl))
   ·rcases ha with ha | ha
    ·exact Or.inl (Or.inr (Or.inr (Or.inl ha)))
    ·exact Or.inr (fun k e=>by rw[ha] at e;cases e;exact uo _)
   ·exact Or.inl (Or.inr (Or.inr (Or.inr (Or.inl rfl))))
   ·exact Or.inl (Or.inr (Or.inr (Or.inr (Or.inr (Or.inl rfl)))))
   ·exact Or.inl (Or.inr (Or.inr (Or.inr (Or.inr (Or.inr rfl)))))
  ·rcases uV.1 hu with hu | hu
   ·exact hw.1 u hu
   ·rw[wM.1 hu];exact hE w hw.2.2.2
 ·simp only[uy,ux,or_false] at hx
  rcases hx with rfl | rfl | rfl | rfl | rfl | rfl
  ·exact h.lo _ (by simp) k e
  ·exact h.lo _ (by simp) k e
  ·rcases ha with ha | ha
   ·exact h.lo _ (by simp) k (ha ▸ e)
   ·rw[ha] at e;cases e;exact hbs
  ·exact h.lo _ (by simp) k e
  ·exact h.lo _ (by simp) k e
  ·exact h.lo _ (by simp) k e
theorem aL.swapM (h:aL w0 w gs p c mB mb cn cb vmn vmb v6 v7 Ln Lb l6 l7 N s f dom E):aL w0 w gs p c mB mb cn cb vmb vmn v6 v7 Lb Ln l6 l7 N s f dom E:=by
 refine⟨h.blk,h.map,h.rb,h.rn,h.r6,h.r7,h.n67,fun k e e'=>h.nnb k e' e,(h.fin.go (uo _) (fun _ _ _=>rfl) (fun x hx=>Or.inl ?_)).mono (fun w hw=>⟨hw.2.1,hw.1,hw.2.2⟩),h.bl,fun x hx=>h.lo x ?_⟩
 ·simp only[uy,ux,or_false] at hx ⊢
  rcases hx with rfl | rfl | rfl | rfl | rfl | rfl<;>simp
 ·simp only[uy,ux,or_false] at hx ⊢
  rcases hx with rfl | rfl | rfl | rfl | rfl | rfl<;>simp
theorem aL.joinB (h:aL w0 w gs p c mB mb cn cb vmn vmb cL cL Ln Lb [] [] N s f dom E) {t:List Int×Value} (hE:∀ w,E w→aG 0 w t.2 t.1) {vmb':Value} (hg:w.grownBy w' vmb.ownBlock) (hr:w'.ownsRow 0 34 1 vmb' (Lb++[t]).length ((Lb++[t]).map (·.2))) (ha:vmb'.ownBlock=vmb.ownBlock∨vmb'.ownBlock=some w.heap.size) :
  aL w0 w' gs p c mB mb cn cb vmn vmb' cL cL Ln (Lb++[t]) [] [] N s f dom E:=(h.swapM.joinN hE hg hr ha).swapM
theorem aL.setM (h:aL w0 w gs p c mB mb cn cb vmn vmb v6 v7 Ln Lb l6 l7 N s f dom E) {cn' cb':Value} (hk:∀ k,k≠mB→w'.heap[k]?=w.heap[k]?) (hs:w'.heap.size=w.heap.size) (hb:w'.heap[mB]?=some (.cells #[.slice p gs.length c,cn',cb',.map (some mb)] 95 (0,0))) (hB:Below w0.heap.size w0 w') :
  aL w0 w' gs p c mB mb cn' cb' vmn vmb v6 v7 Ln Lb l6 l7 N s f dom E:=by
 have hrow:∀ {v:Value} {e:TypeId} {z m:Nat} {xs:List Value},e≠95→w.ownsRow 0 e z v m xs→w'.ownsRow 0 e z v m xs:=fun he hr=>bc hr (fun k hk2=>hk k (fun e=>by
  obtain⟨_,_,cur,h1⟩:=ap hr hk2
  rw[e,h.blk] at h1;cases h1;exact he rfl))
 have hbm:mb≠mB:=fun e=>by
  obtain⟨es,cl,h2⟩:=fz h.map
  rw[e,h.blk] at h2;cases h2
 exact⟨hb,h.map.same (hk mb hbm),hrow (by decide) h.rn,hrow (by decide) h.rb,hrow (by decide) h.r6,hrow (by decide) h.r7,h.n67,h.nnb,h.fin.go (by omega) (fun b _ hn=>hk b (fun e=>hn (by rw[e];simp))) (fun x hx=>Or.inl hx),hB,h.lo⟩
theorem aL.calm (h:aL w0 w gs p c mB mb cn cb vmn vmb v6 v7 Ln Lb l6 l7 N s f dom E):aL w0 w gs p c mB mb cn cb vmn vmb v6 v7 Ln Lb l6 l7 N s f dom (fun _=>True) :=
 ⟨h.blk,h.map,h.rn,h.rb,h.r6,h.r7,h.n67,h.nnb,h.fin.mono (fun w hw=>⟨hw.1,hw.2.1,hw.2.2.1,trivial⟩),h.bl,h.lo⟩
theorem aL.machP {i:Nat} (h:aL w0 w gs p c mB mb vmn vmb vmn vmb v6 v7 Ln Lb l6 l7 N s f dom E) (hG:aQ w0 p gs) (hn:Ln.map (·.1)=(List.range gs.length).map (eK gs)) (hb:Lb.map (·.1)=(List.range gs.length).map (eI gs)) (hd:∀ g k,g<gs.length→k<(ac gs g).length→dom (g,k)) :
  bZ w mB gs p c vmn vmb mb N s f:=by
 have hfin:=h.fin.self
 have cell:∀ j,w.cell? ⟨mB,j,none⟩=#[Value.slice p gs.length c,vmn,vmb,.map (some mb)][j]?:=fun j=>by rw[World.cell?,h.blk];rfl
 have ln:Ln.length=gs.length:=by have:=congrArg List.length hn;simpa using this
 have lb:Lb.length=gs.length:=by have:=congrArg List.length hb;simpa using this
 have gn:∀ i (hi:i<Ln.length),Ln[i].1=eK gs i:=fun i hi=>by
  have:=congrArg (fun l=>l[i]?) hn
  simp only[vQ,uu hi,vZ (by omega:i<gs.length),wI,Option.some.injEq] at this
  exact this
 have gb:∀ i (hi:i<Lb.length),Lb[i].1=eI gs i:=fun i hi=>by
  have:=congrArg (fun l=>l[i]?) hb
  simp only[vQ,uu hi,vZ (by omega:i<gs.length),wI,Option.some.injEq] at this
  exact this
 have q1:=ot.q ⟨h.rn,hfin.1⟩ gn
 have q2:=ot.q ⟨h.rb,hfin.2.1⟩ gb
 rw[ln] at q1
 rw[lb] at q2
 exact⟨cell 0,cell 1,cell 2,cell 3,h.mB_lt,hG.below h.bl,q1,q2,h.map,fun g k hg hk=>by
  obtain⟨v,L,a1,a2,a3⟩:=hfin.2.2.1 (g,k) (hd g k hg hk)
  exact⟨v,a1,by rw[←a3];exact a2.q⟩⟩
end
end Go.Proofs.YtlkniohhalnjjaaGreatDoor
