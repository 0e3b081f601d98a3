/- L -/
import Derived.RangeFuncWrites
import Derived.Laws.AppendOwnNone
import Derived.Test.YtgakllaobooabaaGreatDoorXMach
import Derived.Test.YtgakllaobooabaaGreatDoorXVec2
import Derived.Test.YtgakllaobooabaaGreatDoorXB
set_option linter.all false
set_option maxRecDepth 100000
set_option maxHeartbeats 8000000
namespace Go.Proofs.YtgakllaobooabaaGreatDoor
open Go.RowKit Dg
structure bf (S:Nat->Prop) (w w':World):Prop where
 os:w'.os=w.os
 tape:w'.tape=w.tape
 output:w'.output=w.output
 size:w.heap.size<=w'.heap.size
 block:∀ k,k<w.heap.size->¬ S k->w'.heap[k]?=w.heap[k]?
theorem bf.refl (S:Nat->Prop) (w:World):bf S w w:=⟨rfl,rfl,rfl,AA _,fun _ _ _=>rfl⟩
theorem bf.trans {S:Nat->Prop}{a b c:World} (h:bf S a b) (k:bf S b c):bf S a c :=
 ⟨k.os.trans h.os,k.tape.trans h.tape,k.output.trans h.output,AP h.size k.size,fun i hi hn=>(k.block i (AD hi h.size) hn).trans (h.block i hi hn)⟩
theorem bf.of_below {S:Nat->Prop}{w w':World} (h:Below w.heap.size w w'):bf S w w':=⟨h.os,h.tape,h.output,h.size,fun k hk _=>h.block k hk⟩
theorem bf.set {S:Nat->Prop}{w:World}{g:Nat} (hg:S g) (j:Nat) (u:Value):bf S w (w.setCell ⟨g,j,none⟩ u) :=
 ⟨rfl,rfl,rfl,by simp[World.setCell],fun k _ hn=>Below.heap_setCell w ⟨g,j,none⟩ u k (fun e=>hn (by rw[e];exact hg))⟩
theorem bf.below {S:Nat->Prop}{B:Nat}{w0 w w':World} (h:bf S w w') (hb:Below B w0 w) (hB:B<=w.heap.size) (hS:∀ k,S k->B<=k):Below B w0 w' :=
 hb.trans ⟨h.os,h.tape,h.output,h.size,fun k hk=>h.block k (by omega) (fun e=>by have:=hS k e;omega)⟩
structure Bes (S:Nat->Prop) (B:Nat) (W W':World):Prop where
 os:W'.os=W.os
 tape:W'.tape=W.tape
 output:W'.output=W.output
 size:W.heap.size<=W'.heap.size
 same:∀ k o,W.heap[k]?=some o->¬ S k->(k<B\/∀ r,o≠Obj.loop r)->W'.heap[k]?=some o
theorem Bes.of_turns {S:Nat->Prop}{B:Nat}{W W':World} (h:bf S W W'):Bes S B W W' :=
 ⟨h.os,h.tape,h.output,h.size,fun k _ hk hn _=>(h.block k (AE.1 hk).1 hn).trans hk⟩
theorem Bes.alloc (S:Nat->Prop) (B:Nat) (W:World) (o:Obj):Bes S B W (W.alloc o):=Bes.of_turns (bf.of_below ((Dv _ _).alloc (AA _) o))
theorem Bes.put (S:Nat->Prop) {B l:Nat}{W:World}{o:Loop}{o':Obj} (hB:B<=l) (hl:W.heap[l]?=some (.loop o)):Bes S B W (W.putObj l o') :=
 ⟨rfl,rfl,rfl,by simp,fun k o2 hk _ hor=>by
  rw[World.putObj_heap_other (fun e=>by subst e;rw[hl] at hk;cases hk;rcases hor with h | h;omega;exact h _ rfl)];exact hk⟩
theorem Bes.below {S:Nat->Prop}{B B0:Nat}{w0 W W':World} (h:Bes S B W W') (hb:Below B0 w0 W) (h0:B0<=B) (hz:B0<=W.heap.size) (hS:∀ k,S k->B0<=k):Below B0 w0 W' :=
 hb.trans ⟨h.os,h.tape,h.output,h.size,fun k hk=>by
  have hlt:k<W.heap.size:=by omega
  rw[h.same k _ (BD hlt) (fun e=>by have:=hS k e;omega) (Or.inl (by omega)),BD hlt]⟩
theorem Bes.cells {S:Nat->Prop}{B:Nat}{W W':World} (h:Bes S B W W') {b:Nat}{cs:Array Value}{T:TypeId}{z:Nat×Nat} (hc:W.heap[b]?=some (.cells cs T z)) (hn:¬ S b):W'.heap[b]?=some (.cells cs T z) :=
 h.same b _ hc hn (Or.inr (fun r e=>by cases e))
theorem Bes.cell {S:Nat->Prop}{B:Nat}{W W':World} (h:Bes S B W W') {b j:Nat}{v:Value} (hc:W.cell? ⟨b,j,none⟩=some v) (hn:¬ S b):W'.cell? ⟨b,j,none⟩=some v:=by
 obtain⟨o,ho⟩:∃ o,W.heap[b]?=some o:=⟨_,BD (block_lt_of_cell hc)⟩
 have hl:∀ r,o≠Obj.loop r:=by
  intro r e;subst e;unfold World.cell? at hc;simp only[ho] at hc
  cases hc
 refine (World.cell?_of_block (w:=W) (w':=W') (a:=⟨b,j,none⟩) ?_).trans hc
 show W'.heap[b]?=W.heap[b]?
 rw[h.same _ _ ho hn (Or.inr hl),ho]
theorem wE (W:World) (l:Nat) (o:Obj):(W.putObj l o).heap.size=W.heap.size:=by simp
variable {F : Fence} {n : Nat} {P : Program}
def qk (F:Fence) (n:Nat) (P:Program) (gf:Nat) (bnd lb:Array Value) (E:Nat->World->Array Value->Prop) (len:Nat) (Sb Si:Nat->Prop) (Ok:World->Prop) (w:World):Prop :=
 ∀ (l:Nat) (J:Nat->World->Prop) (W:World),Below w.heap.size w W ->
  (∀ i W1 W2,J i W1->bf Si W1 W2->J i W2)->(∀ i W1,J i W1->Ok W1) ->
  (∀ i (_:i<len) W1 vs,J i W1->E i W1 vs->YieldAt F (n-1) P l vs W1 fun e W'=>e=.returned (.bool true)/\J (i+1) W'/\bf Sb W1 W') ->
  J 0 W->CallsIn F n P gf (bnd++#[.func (.yield l) #[] #[]]++lb) W fun e W'=>(∃ v,e=.returned v)/\J len W'
def tM (S:Nat->Prop) (I:World->Prop) (W:World):Exit->Act->World->Prop
 | .normal,_,W'=>bf S W W'/\I W'
 | _,_,_=>False
theorem j9 {g:Operand}{ps:Array Tmp}{assign body:Code}{Q:Exit->Act->World->Prop}{a:Act}{w:World}
  (hro:F.round=none) (h1:1<=n) {gf:Nat} {bnd lb:Array Value} (hg:a.eval g=.func (.func gf) bnd lb) (hFg:F.fn gf) (eg:∀ args w,(callFunc gf args).run P w=.ok (.enter gf args) w)
  {E:Nat->World->Array Value->Prop} {len:Nat} {Sb Si:Nat->Prop} {Ok:World->Prop} (hSb:∀ k,Sb k->k<w.heap.size) (hSi:∀ k,Si k->k<w.heap.size)
  (hseq:qk F (n-1) P gf bnd lb E len Sb Si Ok w) (hps:∀ i W vs,E i W vs->vs.size=ps.size)
  (I:Nat->World->Prop) (hI:∀ i W W',I i W->Bes Si w.heap.size W W'->I i W') (hOk:∀ i W,I i W->Ok W) (h0:I 0 w)
  (I₁:Nat->Act->World->Prop) (hI₁:∀ i a₁ W W',I₁ i a₁ W->Bes (fun _=>False) w.heap.size W W'->I₁ i a₁ W')
  (hassign:∀ (l i:Nat) (_:i<len) (W:World) (vs:Array Value),I i W->E i W vs ->
   assign.wpIn (F.inRound l) (n-1-1) P (Exit.then (fun a₁ W₁=>bf Sb W W₁/\I₁ i a₁ W₁) (fun _ _ _=>False)) { tmps:=(ps.zip vs).foldl (fun t (p,v)=>t.setIfInBounds p v) a.tmps,defers:=[] } W)
  (hbody:∀ (l i:Nat) (_:i<len) (a₁:Act) (W:World),I₁ i a₁ W->body.wpIn (F.inRound l) (n-1-1) P (tM Sb (I (i+1)) W) a₁ W)
  (hdone:∀ (D:Nat) (W:World),w.heap.size<=D->I len W->W.heap[D]?=some (.deferred (some []))->Q .normal { a with defers:={ target:=.collected D,args:=#[] } :: a.defers } W) :
  (Code.rangeFunc g ps assign body).wpIn F n P Q a w:=by
 refine wpIn_rangeFunc ?_;intro fn hfn;rw[hro];obtain⟨rec,hrec⟩:∃ rec:LoopState->Option Code->Loop,rec=fun st pe=>{ state:=st,pending:=pe,fn,tmps:=a.tmps,params:=ps,assign,body,defers:=w.heap.size }:=⟨_,rfl⟩;obtain⟨W1,hW1⟩:∃ W1,(w.alloc (.deferred (some []))).alloc (.loop (rec .ready none))=W1:=⟨_,rfl⟩
 have hL1:W1.heap[w.heap.size+1]?=some (.loop (rec .ready none)):=by
  rw[<-hW1];have:=World.alloc_heap_new (w.alloc (.deferred (some []))) (.loop (rec .ready none));rwa [World.size_alloc] at this
 have hK1:W1.heap[w.heap.size]?=some (.deferred (some [])):=by
  rw[<-hW1];exact (Below.heap_alloc _ _ _ (by simp)).trans (World.alloc_heap_new w _)
 have hI1:I 0 W1:=by rw[<-hW1];exact hI 0 _ _ (hI 0 _ _ h0 (Bes.alloc _ _ _ _)) (Bes.alloc _ _ _ _)
 have hb1:Below w.heap.size w W1:=by
  rw[<-hW1];exact ((Dv _ w).alloc (AA _) _).alloc (by simp) _
 refine⟨w.heap.size+1,[{ target:=.collected w.heap.size,args:=#[] }],W1,{ target:=.fn (.func gf) lb,args:=bnd++#[.func (.yield (w.heap.size+1)) #[] #[]] },W1,gf,
  bnd++#[.func (.yield (w.heap.size+1)) #[] #[]]++lb,W1,?_,?_,?_,?_,fun _=>h1,?_⟩
 ·rw[<-hW1,hrec];exact run_enterLoop_outer _ _ _ _ _
 ·simp only[resolve,hg];simp[go_sem]
 ·intro f' hf';simp[Target.leads] at hf';subst hf';exact hFg
 ·simp[invoke,go_sem,eg]
 ·have nSi:∀ k,w.heap.size<=k->¬ Si k:=fun k hk h=>by have:=hSi k h;omega
  have nSb:∀ k,w.heap.size<=k->¬ Sb k:=fun k hk h=>by have:=hSb k h;omega
  refine (hseq (w.heap.size+1)
   (fun i W=>I i W/\W.heap[w.heap.size+1]?=some (.loop (rec .ready none))/\W.heap[w.heap.size]?=some (.deferred (some [])))
   W1 hb1 ?_ (fun i W h=>hOk i W h.1) ?_ ⟨hI1,hL1,hK1⟩).mono ?_
  ·rintro i W W' ⟨ha,hb,hc⟩ hs;exact⟨hI _ _ _ ha (Bes.of_turns hs),(hs.block _ (AE.1 hb).1 (nSi _ (by omega))).trans hb,(hs.block _ (AE.1 hc).1 (nSi _ (by omega))).trans hc⟩
  ·rintro i hi W vs ⟨hi1,hl,hk⟩ hE;have hlt:w.heap.size+1<W.heap.size:=(AE.1 hl).1;have hy:=run_yield (P:=P) (args:=vs) hl (by rw[hrec];exact hps _ _ _ hE);rw[hrec] at hy;refine⟨fn,_,assign,body,hy,roundIn_of_wpIn hfn ?_⟩;refine wpIn_mono (hassign _ i hi W vs hi1 hE) ?_;rintro e a₁ W₂ hp
   cases e with
   | normal =>
    obtain⟨hk2,hj⟩:=hp;have hl2:=(hk2.block _ hlt (nSb _ (by omega))).trans hl;have hd2:=(hk2.block _ (show w.heap.size<W.heap.size by omega) (nSb _ (AA _))).trans hk;have hlt2:w.heap.size+1<W₂.heap.size:=(AE.1 hl2).1;refine⟨_,run_beginRound hl2 (by rw[hrec]),?_⟩;have hl3:(W₂.putObj (w.heap.size+1) (.loop { rec .ready none with state:=.busy })).heap[w.heap.size+1]?=some (.loop { rec .ready none with state:=.busy }):=World.putObj_heap_same hlt2;have hd3:(W₂.putObj (w.heap.size+1) (.loop { rec .ready none with state:=.busy })).heap[w.heap.size]?=some (.deferred (some [])):=(World.putObj_heap_other (by omega)).trans hd2;have hz3:(W₂.putObj (w.heap.size+1) (.loop { rec .ready none with state:=.busy })).heap.size=W₂.heap.size:=by simp
    refine wpIn_mono (hbody _ i hi a₁ _ (hI₁ i a₁ _ _ hj (Bes.put _ (by omega) hl2))) ?_;rintro e a3 W3 hp
    cases e with
    | normal =>
     obtain⟨hk3,hi3⟩:=hp;have hl4:=(hk3.block _ (by rw[hz3];exact hlt2) (nSb _ (by omega))).trans hl3;have hd4:=(hk3.block _ (show w.heap.size<_ by rw[hz3];omega) (nSb _ (AA _))).trans hd3;have hr:=run_endRound (P:=P) none hl4;have hlt4:w.heap.size+1<W3.heap.size:=(AE.1 hl4).1;have hs34:W₂.heap.size<=W3.heap.size:=by have:=hk3.size;rwa [hz3] at this
     rw[hrec] at hr;rw[hrec] at hl4;refine⟨_,_,hr,rfl,⟨hI _ _ _ hi3 (Bes.put _ (by omega) hl4),?_,(World.putObj_heap_other (by omega)).trans hd4⟩,?_⟩
     ·rw[hrec];exact World.putObj_heap_same hlt4
     ·refine⟨hk3.os.trans hk2.os,hk3.tape.trans hk2.tape,hk3.output.trans hk2.output,?_,fun k hkl hkn=>?_⟩
      ·have:=hk2.size;rw[wE];omega
      ·by_cases he:k=w.heap.size+1
       ·subst he;rw[hl,hrec];exact World.putObj_heap_same hlt4
       ·rw[World.putObj_heap_other (by omega),hk3.block k (by rw[hz3];have:=hk2.size;omega) hkn,World.putObj_heap_other (by omega)];exact hk2.block k hkl hkn
    | ret=>exact hp.elim
    | exit id=>exact hp.elim
    | goto t=>exact hp.elim
    | panic ch=>exact hp.elim
    | outgrown=>exact hp.elim
   | ret=>exact hp.elim
   | exit id=>exact hp.elim
   | goto t=>exact hp.elim
   | panic ch=>exact hp.elim
   | outgrown=>exact hp.elim
  ·rintro e W2 ⟨⟨v,rfl⟩,hi,hl,hk⟩;exact⟨none,_,by have:=run_endLoop (P:=P) hl (by rw[hrec];simp);rw[hrec] at this;exact this,hdone _ _ (AA _) (hI _ _ _ hi (Bes.put _ (by omega) hl)) ((World.putObj_heap_other (by omega)).trans hk)⟩
structure gC (C:Nat->Value->Prop) (w w':World):Prop where
 size:w.heap.size<=w'.heap.size
 blk:∀ b j u,w.cell? ⟨b,j,none⟩=some u->C j u->w'.heap[b]?=w.heap[b]?
def n8 (S:Nat->Prop) (C:Nat->Value->Prop) (w:World):Prop:=∀ k,S k->∀ j u,w.cell? ⟨k,j,none⟩=some u->¬ C j u
theorem gC.of_turns {S:Nat->Prop}{C:Nat->Value->Prop}{w w':World} (h:bf S w w') (hs:n8 S C w):gC C w w' :=
 ⟨h.size,fun b j u hc hC=>h.block b (block_lt_of_cell hc) (fun hS=>hs b hS j u hc hC)⟩
theorem gC.of_bes {S:Nat->Prop}{C:Nat->Value->Prop}{B:Nat}{w w':World} (h:Bes S B w w') (hs:n8 S C w):gC C w w' :=
 ⟨h.size,fun b j u hc hC=>by
  obtain⟨o,ho⟩:∃ o,w.heap[b]?=some o:=⟨_,BD (block_lt_of_cell hc)⟩
  have hl:∀ r,o≠Obj.loop r:=by
   intro r e;subst e;unfold World.cell? at hc;simp only[ho] at hc
   cases hc
  rw[h.same _ _ ho (fun hS=>hs b hS j u hc hC) (Or.inr hl),ho]⟩
theorem gC.cell {C:Nat->Value->Prop}{w w':World} (h:gC C w w') {b j:Nat}{u:Value} (hc:w.cell? ⟨b,j,none⟩=some u) (hC:C j u):w'.cell? ⟨b,j,none⟩=some u :=
 (World.cell?_of_block (w:=w) (w':=w') (a:=⟨b,j,none⟩) (h.blk b j u hc hC)).trans hc
def xD (_:Nat) (u:Value):Prop:=∃ s,u=.string s
def uu (j:Nat) (u:Value):Prop:=0<j\/∃ z,u=.int .u64 z
theorem IsS.keep {w w':World}{v:Value}{l:List ByteArray} (h:IsS w v l) (hk:gC xD w w'):IsS w' v l:=by
 obtain⟨p,cap,e,h1,h2,h3⟩:=h;refine⟨p,cap,e,h1,h2,fun hl=>?_⟩;obtain⟨b,o,e2,hlt,hc⟩:=h3 hl;refine⟨b,o,e2,AD hlt hk.size,fun i hi j u hu=>hk.cell (hc i hi j u hu) ?_⟩;have hm:=Cd hu;rw[BS] at hm;simp only[cellsOf,Co] at hm;exact⟨_,hm⟩
theorem IsU.keep {w w':World}{v:Value}{l:List Nat} (h:IsU w v l) (hk:gC uu w w'):IsU w' v l:=by
 obtain⟨p,cap,e,h1,h2,h3⟩:=h;refine⟨p,cap,e,h1,h2,fun hl=>?_⟩;obtain⟨b,o,e2,hlt,hc⟩:=h3 hl;exact⟨b,o,e2,AD hlt hk.size,fun j hj=>hk.cell (hc j hj) (Or.inr ⟨_,rfl⟩)⟩
theorem IsP.keep {w w':World}{v:Value}{zs:List CQ} (h:IsP w v zs) (hk:gC uu w w'):IsP w' v zs:=by
 obtain⟨es,h1,⟨p,cap,e,h2,h3,h4⟩,h5⟩:=h;have h6:=iZ h1 h5;refine⟨es,h1,⟨p,cap,e,h2,h3,fun hl=>?_⟩,fun i hi hi'=>(h5 i hi hi').keepU fun _ _ hu=>hu.keep hk⟩;obtain⟨b,o,e2,hlt,hc⟩:=h4 hl;refine⟨b,o,e2,AD hlt hk.size,fun i hi j u hu=>?_⟩;have hl1:1<(cellsOf es[i]).length:=by rw[h6 _ (AR hi)];omega
 obtain⟨u1,hu1⟩:∃ u1,(cellsOf es[i])[1]?=some u1:=⟨_,AL hl1⟩;exact (World.cell?_of_block (w:=w) (w':=w') (a:=⟨b,o+i*6+j,none⟩) (hk.blk b (o+i*6+1) u1 (hc i hi 1 u1 hu1) (Or.inl (Nat.succ_pos _)))).trans (hc i hi j u hu)
def NoX (C:Value->Prop) (w:World) (v:Value):Prop:=∀ g,v.ownBlock=some g->∀ j u,w.cell? ⟨g,j,none⟩=some u->¬ C u
theorem sN {C:Value->Prop}{zs:Array Value}{n:Nat} (h:∀ u∈zs,¬ C u):∀ u∈Builtin.zeroCells zs n,¬ C u:=by
 intro u hu;unfold Builtin.zeroCells at hu;obtain⟨i,hi,rfl⟩:=Array.mem_map.1 hu;have hi2:i<n*zs.size:=by simpa using hi
 have hp:0<zs.size:=by
  rcases BJ zs.size with h0 | h0
  ·rw[h0] at hi2;simp at hi2
  ·exact h0
 have hm:=BN i hp;rw[getElem!_pos zs (i % zs.size) hm];exact h _ (Da hm)
theorem mE {C:Value->Prop}{w:World}{cs:Array Value}{e:TypeId}{n c:Nat} (h:∀ u∈cs,¬ C u):NoX C (w.alloc (.cells cs e)) (.slice (some ⟨w.heap.size,0,none⟩) n c):=by
 intro g hg j u hc;simp only[Value.ownBlock,Option.some.injEq] at hg;subst hg;rw[World.cell?,heap_alloc_new] at hc;simp only[Bj,AU,if_false] at hc;exact h _ (BF hc)
theorem NoX.below {C:Value->Prop}{w w':World}{v:Value}{base:Nat}{T:TypeId}{k n:Nat}{xs:List Value} (h:NoX C w v) (ho:w.ownsRow base T k v n xs) (hb:Below w.heap.size w w'):NoX C w' v:=by
 intro g hg j u hc;rw[hb.cell (p:=⟨g,j,none⟩) (ho.lt g hg).2] at hc;exact h g hg j u hc
section
variable {P : Program} (w : World)
theorem nM (C:Value->Prop) (base:Nat) (t ty e:TypeId) (i:TypeInfo) (z:Value) (size bytes:Nat) (ht:P.underlying t=some (.slice e)) (hi:P.info? e=some i) (hz:i.zero=some z)
  (hsize:i.size=size) (hby:i.bytes=bytes) (hzs:z.cells.size=size) (hsz:0<size) (hzn:∀ u∈z.cells,¬ C u)
  (v:Value) (n:Nat) (xs:List Value) (hown:w.ownsRow base e size v n xs) (hnu:NoX C w v)
  (a:Addr) (m c:Nat) (news:List Value) (hm0:0<m) (hl:news.length=m*size) (hnews:∀ j u,news[j]?=some u->w.cell? (a.add j)=some u) (h1:∀ u∈news,u.oneCell'=true) (hn1:∀ u∈news,¬ C u)
  (h63:n+m<=maxLen) (hbytes:(n+m)*bytes<=140737488355328) (hbase:base<=w.heap.size) :
  ∃ v' w',(Builtin.append_ #[t,t] ty #[v,.slice (some a) m c]).run P w=.ok v' w'/\w'.ownsRow base e size v' (n+m) (xs++news)/\w.grownBy w' v.ownBlock/\NoX C w' v':=by
 obtain⟨v',w',hr,h2,h3,-⟩:=run_append_own (P:=P) w base t ty e i z size bytes ht hi hz hsize hby hzs hsz v n xs hown a m c news hl hnews h1 h63 hbytes hbase;refine⟨v',w',hr,h2,h3,?_⟩;have hsmall:n+m<=9223372036854775807:=by simp only[maxLen] at h63;omega
 subst hsize;subst hby;rcases hown.2 with ⟨rfl,rfl⟩ | ⟨g,cap,cur,rfl,hbg,hg,hnc,hcm,hcs,htake⟩
 ·have hr':=run_append_nil (P:=P) w t ty e i z ht hi hz a m c news hl hnews hm0 (by omega) (by rw[Bp] at hbytes;omega);rw[hr'] at hr
  cases hr
  exact mE (w:=w.drew) fun u hu=>by
   rcases Cf.1 hu with h | h
   ·exact hn1 u (by simpa using h)
   ·exact sN hzn u h
 ·by_cases hroom:n+m<=cap
  ·have hfit:n*i.size+news.length<=cur.size:=by rw[hl,hcs,<-Bf];exact AJ _ hroom
   have hr':=run_append_room (P:=P) w t ty e i ht hi g n cap cur hg a m c news hl hnews h1 hroom hfit;rw[hr'] at hr
   cases hr
   intro g' hg' j y hc;simp only[Value.ownBlock,Option.some.injEq] at hg';subst hg';rw[World.cell?,setRow_heap w g cur _ e _ hg] at hc;simp only[Bj,AU,if_false] at hc;have hm:=BF hc
   have old:∀ u∈cur.toList,¬ C u:=fun u hu=>by
    obtain⟨k,hk,he⟩:=A_ hu;refine hnu g rfl k u ?_;rw[World.cell?,hg];simp only[Bj,AU,if_false];rw[BD (by simpa using hk),<-he];simp
   simp only[List.mem_toArray,B_] at hm;rcases hm with (h | h) | h
   ·exact old _ (CF h)
   ·exact hn1 _ h
   ·exact old _ (CE h)
  ·have holds:∀ j u,xs[j]?=some u->w.cell? ((⟨g,0,none⟩:Addr).add j)=some u:=hown.cells (g:=g) rfl;have hr':=run_append_grow (P:=P) w t ty e i z ht hi hz ⟨g,0,none⟩ n cap xs hown.1 holds a m c news hl hnews (by omega) (by omega) (growslice_fits (by omega) hbytes);rw[hr'] at hr
   cases hr
   exact mE (w:=w.drew) fun u hu=>by
    rcases Cf.1 hu with h | h
    ·rcases Cf.1 h with h | h
     ·obtain⟨k,hk,he⟩:=A_ (show u∈xs by simpa using h);have:=holds k u (by rw[AL hk,he]);have ha:(⟨g,0,none⟩:Addr).add k=⟨g,k,none⟩:=by unfold Addr.add;split<;>simp_all
      rw[ha] at this;exact hnu g rfl k u this
     ·exact hn1 u (by simpa using h)
    ·exact sN hzn u h
omit w in
theorem i7 {t t' ty e e':TypeId} (ht:P.underlying t=some (.slice e)) (ht':P.underlying t'=some (.slice e')) (a b:Option Addr) (n c m d:Nat) (w:World):(Builtin.append_ #[t,t'] ty #[.slice a n c,.slice b m d]).run P w=(Builtin.append_ #[t,t] ty #[.slice a n c,.slice b m d]).run P w:=by
 unfold Builtin.append_;simp[run_underlying ht,run_underlying ht']
theorem gw {ops:Array Oper}{rest:List Oper}{o:Oper}{a:Act}{Q:Exit->Act->World->Prop} (C:Value->Prop) (hgd:o.guard=none) (s x:Operand) (t t':TypeId)
  (ho:o.op=.call { callee:=.builtin .append,args:=#[s,x],argTypes:=#[t,t'] })
  (base:Nat) (e:TypeId) (i:TypeInfo) (z:Value) (size bytes:Nat) (ht:P.underlying t=some (.slice e)) (ht':P.underlying t'=some (.slice e)) (hi:P.info? e=some i) (hz:i.zero=some z)
  (hsize:i.size=size) (hby:i.bytes=bytes) (hzs:z.cells.size=size) (hsz:0<size) (hzn:∀ u∈z.cells,¬ C u)
  (v:Value) (n:Nat) (xs:List Value) (hs:a.eval s=v) (hown:w.ownsRow base e size v n xs) (hnu:NoX C w v)
  (ad:Addr) (m c:Nat) (news:List Value) (hm0:0<m) (hx:a.eval x=.slice (some ad) m c) (hl:news.length=m*size) (hnews:∀ j u,news[j]?=some u->w.cell? (ad.add j)=some u) (h1:∀ u∈news,u.oneCell'=true) (hn1:∀ u∈news,¬ C u)
  (h63:n+m<=maxLen) (hbytes:(n+m)*bytes<=140737488355328) (hbase:base<=w.heap.size)
  (h:∀ v' w',w'.ownsRow base e size v' (n+m) (xs++news)->w.grownBy w' v.ownBlock->NoX C w' v'->wpList P ops Q rest (a.put o.dst v') w'):wpList P ops Q (o :: rest) a w:=by
 refine wpList_plain hgd fun K hK=>?_;obtain⟨v',w',hr,h2,h3,h4⟩:=nM (P:=P) w C base t o.type e i z size bytes ht hi hz hsize hby hzs hsz hzn v n xs hown hnu ad m c news hm0 hl hnews h1 hn1 h63 hbytes hbase;unfold Oper.wp execOp
 obtain⟨pv,nv,cv,rfl⟩:∃ p n c,v=.slice p n c:=by
  rcases hown.2 with ⟨rfl,-⟩ | ⟨g,cap,cur,rfl,-⟩<;>exact⟨_,_,_,rfl⟩
 rw[<-i7 ht ht'] at hr;simp only[ho,resolve,invoke,builtin,Sem.run_bind,Sem.run_pure,Result.andThen_ok,Df,C_,List.map_nil,hs,hx,hr];exact hK _ _ (h v' w' h2 h3 h4)
end
def uA (u:Value):Prop:=∃ s,u=.string s
theorem IsS.grownX {w w':World}{u v:Value}{l:List ByteArray} (h:IsS w u l) (hnx:NoX uA w v) (hg:w.grownBy w' v.ownBlock):IsS w' u l:=by
 obtain⟨p,cap,e,h1,h2,h3⟩:=h;refine⟨p,cap,e,h1,h2,fun hl=>?_⟩;obtain⟨b,o,e2,hlt,hc⟩:=h3 hl;refine⟨b,o,e2,AD hlt hg.size,fun i hi j u hu=>?_⟩;have hm:=Cd hu;rw[BS] at hm;simp only[cellsOf,Co] at hm;have hcc:=hc i hi j u hu;exact hg.cell hcc (fun e3=>hnx b e3.symm _ _ hcc ⟨_,hm⟩)
theorem Ad:(Tryz.prog.info? 22).map (fun i=>(i.zero,i.size,i.bytes))=some (some (.slice none 0 0),1,24):=by kernel_rfl
def mY (w:World) (v:Value) (ls:List (List ByteArray)):Prop:=∃ us:List Value,us.length=ls.length/\d_ w 1 v us/\∀ i (h:i<us.length) (h':i<ls.length),IsS w us[i] ls[i]
structure ft (w:World) (base:Nat) (v:Value) (ls:List (List ByteArray)):Prop where
 p:∃ us:List Value,us.length=ls.length/\w.ownsRow base 22 1 v us.length us/\∀ i (h:i<us.length) (h':i<ls.length),IsS w us[i] ls[i]
 nx:NoX uA w v
theorem ni {w:World}{us:List Value}{ls:List (List ByteArray)} (hl:us.length=ls.length) (h:∀ i (h:i<us.length) (h':i<ls.length),IsS w us[i] ls[i]):∀ e∈us,cellsOf e=[e]:=by
 intro e he;obtain⟨i,hi,rfl⟩:=A_ he;obtain⟨p,c,hv,-⟩:=(h i hi (by omega)).form;rw[hv];rfl
theorem rT:∀ {us:List Value},(∀ e∈us,cellsOf e=[e])->dW us=us
 | [],_=>rfl
 | e :: us,h=>by
  have h1:=h e (by simp);have h2:=rT (us:=us) fun x hx=>h x (by simp[hx]);simp only[dW,Cs] at h2 |-;rw[h1,h2];rfl
theorem ft.isPS {w:World}{base:Nat}{v:Value}{ls:List (List ByteArray)} (h:ft w base v ls):mY w v ls:=by
 obtain⟨us,h1,h2,h3⟩:=h.p;have hc:=ni h1 h3;refine⟨us,h1,eS (fun e he=>by rw[hc e he];rfl) (by rw[rT hc];exact h2),h3⟩
theorem ft.below {w w':World}{base:Nat}{v:Value}{ls:List (List ByteArray)} (h:ft w base v ls) (hb:Below w.heap.size w w'):ft w' base v ls:=by
 obtain⟨us,h1,h2,h3⟩:=h.p;exact⟨⟨us,h1,eC h2 hb,fun i hi hi'=>(h3 i hi hi').below hb⟩,h.nx.below h2 hb⟩
theorem mY.below {w w':World}{v:Value}{ls:List (List ByteArray)} (h:mY w v ls) (hb:Below w.heap.size w w'):mY w' v ls:=by
 obtain⟨us,h1,h2,h3⟩:=h;exact⟨us,h1,h2.below hb,fun i hi hi'=>(h3 i hi hi').below hb⟩
theorem ft.nil (w:World) (base:Nat):ft w base (.slice none 0 0) []:=⟨⟨[],rfl,World.ownsRow_nil _ _ _ _,fun i h=>by simp at h⟩,fun g hg=>by cases hg⟩
theorem mY.form {w:World}{v:Value}{ls:List (List ByteArray)} (h:mY w v ls):∃ p c,v=.slice p ls.length c/\ls.length<=c/\c<=maxLen:=by
 obtain⟨us,h1,⟨p,c,e,h2,h3,-⟩,-⟩:=h;rw[h1] at e h2;exact⟨p,c,e,h2,h3⟩
theorem mY.get {w:World}{p:Option Addr}{n c:Nat}{ls:List (List ByteArray)} (h:mY w (.slice p n c) ls) {i:Nat} (hi:i<ls.length) :
  ∃ b o u,p=some ⟨b,o,none⟩/\b<w.heap.size/\w.cell? ⟨b,o+i,none⟩=some u/\IsS w u ls[i]:=by
 obtain⟨us,h1,⟨p',cap,e,h2,h3,h4⟩,h5⟩:=h;obtain⟨rfl,-,-⟩:p=p'/\n=us.length/\c=cap:=by simpa using e
 obtain⟨b,o,e2,hlt,hc⟩:=h4 (by omega);have hk:=h5 i (by omega) hi;obtain⟨pp,cc,hv,-⟩:=id hk.form;have:=hc i (by omega) 0 us[i] (by rw[hv];rfl);exact⟨b,o,us[i],e2,hlt,by simpa using this,hk⟩
theorem fQ {w:World}{ops:Array Oper}{rest:List Oper}{o:Oper}{act:Act}{Q:Exit->Act->World->Prop} (T:TypeId)
  (hT:Tryz.prog.underlying T=some (.slice 22)) (hgd:o.guard=none) (s x:Operand)
  (ho:o.op=.call { callee:=.builtin .append,args:=#[s,x],argTypes:=#[T,T] })
  (base:Nat) (v:Value) (ls ms:List (List ByteArray)) (us:List Value) (b off m c:Nat) (hs:act.eval s=v) (hown:ft w base v ls)
  (hx:act.eval x=.slice (some ⟨b,off,none⟩) m c) (hm:m=us.length) (hm0:0<us.length) (hml:us.length=ms.length) (hcs:∀ i (h:i<us.length),w.cell? ⟨b,off+i,none⟩=some us[i]) (hms:∀ i (h:i<us.length) (h':i<ms.length),IsS w us[i] ms[i])
  (hlen:ls.length+ms.length<1000000000) (hbase:base<=w.heap.size)
  (h:∀ v' w',ft w' base v' (ls++ms)->(∀ B w0,Below B w0 w->B<=base->Below B w0 w')->(∀ u l,IsS w u l->IsS w' u l)->w.grownBy w' v.ownBlock->wpList Tryz.prog ops Q rest (act.put o.dst v') w') :
  wpList Tryz.prog ops Q (o :: rest) act w:=by
 subst hm;obtain⟨vs,h1,h2,h3⟩:=hown.p;obtain⟨i0,hi,hz0,hz1,hz2⟩:=info_parts Ad
 have hsl:∀ u∈us,∃ p n c,u=.slice p n c:=fun u hu=>by
  obtain⟨i,hi,rfl⟩:=A_ hu;obtain⟨p,c,hv,-⟩:=(hms i hi (by omega)).form;exact⟨_,_,_,hv⟩
 refine gw _ uA hgd s x T T ho base 22 i0 _ 1 24 hT hT hi hz0 hz1 hz2 rfl (by decide) ?_ v vs.length vs hs h2 hown.nx ⟨b,off,none⟩ us.length c us hm0 hx (by omega) ?_ ?_ ?_ (by unfold maxLen;omega) (by omega) hbase ?_
 ·rintro u hu ⟨s',rfl⟩;simp[Value.cells] at hu
 ·intro j u hj;have hjl:=(Bv.1 hj).1
  have ha:(⟨b,off,none⟩:Addr).add j=⟨b,off+j,none⟩:=by
   unfold Addr.add
   split
   ·rename_i h0;subst h0;rfl
   ·rfl
  rw[ha,hcs j hjl,<-hj,AL hjl]
 ·intro u hu;obtain⟨p,n,c,rfl⟩:=hsl u hu;rfl
 ·rintro u hu ⟨s',rfl⟩;obtain⟨p,n,c,e⟩:=hsl _ hu
  cases e
 ·intro v' w' g1 g2 g3;have hkeep:∀ u l,IsS w u l->IsS w' u l:=fun u l hu=>hu.grownX hown.nx g2;refine h v' w' ⟨⟨vs++us,by simp[h1,hml],?_,?_⟩,g3⟩ ?_ hkeep g2
  ·rw[AO];exact g1
  ·intro i hi' hi2;by_cases hlt:i<vs.length
   ·rw[A8 hlt,A8 (by omega)];exact hkeep _ _ (h3 i hlt (by omega))
   ·rw[A4 (by omega),A4 (by omega)];have hi3:i-vs.length<us.length:=by simp at hi';omega
    have:=hkeep _ _ (hms (i-vs.length) hi3 (by omega));simpa[h1] using this
  ·intro B w0 hB hBb;refine hB.grown g2 (by omega) ?_;intro k hk';have:=(h2.lt k hk').1;omega
theorem xY {w:World}{k b o:Nat}{es:List Value} (hk0:0<k) (hk:∀ e∈es,(cellsOf e).length=k) (h:∀ i (h:i<es.length) j u,(cellsOf es[i])[j]?=some u->w.cell? ⟨b,o+i*k+j,none⟩=some u) :
  ∀ j u,(dW es)[j]?=some u->w.cell? ((⟨b,o,none⟩:Addr).add j)=some u:=by
 intro j u hj;have hjl:=(Bv.1 hj).1;rw[kS hk] at hjl;have hi:j / k<es.length:=Nat.div_lt_of_lt_mul (by rw[AT];exact hjl);have hr:j % k<k:=BN _ hk0;have he:j=j / k*k+j % k:=by rw[AT];exact (BP j k).symm
 have hg:=kR hk hi hr;rw[<-he,hj] at hg;have:=h _ hi _ u hg.symm
 have ha:(⟨b,o,none⟩:Addr).add j=⟨b,o+j,none⟩:=by
  unfold Addr.add
  split
  ·rename_i h0;rw[h0];rfl
  ·rfl
 rw[ha,he,<-Cb];exact this
theorem mF {w:World}{es:List Value}{zs:List CQ} (hl:es.length=zs.length) (h:∀ i (h:i<es.length) (h':i<zs.length),IsK w es[i] zs[i]):∀ u∈dW es,u.oneCell'=true/\mZ u:=by
 intro u hu;obtain⟨e,he,hue⟩:=List.mem_flatMap.1 hu;obtain⟨i,hi,rfl⟩:=A_ he;obtain⟨xm,xp,xl,xc,xq,xk,xd,ym,yp,yl,yc,yq,yk,yd,hv⟩:=(h i hi (by omega)).forms;rw[hv] at hue;simp only[cellsOf,Bm,CG,or_false] at hue;rcases hue with rfl | rfl | rfl | rfl | rfl | rfl<;>exact⟨rfl,fun z e=>by cases e⟩
def zX (u:Value):Prop:=∃ z,u=.int .u64 z
theorem fR {w:World}{ops:Array Oper}{rest:List Oper}{o:Oper}{act:Act}{Q:Exit->Act->World->Prop} (T T':TypeId)
  (hT:Tryz.prog.underlying T=some (.slice 65)) (hT':Tryz.prog.underlying T'=some (.slice 65)) (hgd:o.guard=none) (s x:Operand)
  (ho:o.op=.call { callee:=.builtin .append,args:=#[s,x],argTypes:=#[T,T'] })
  (base:Nat) (v vx:Value) (zs ms:List CQ) (hs:act.eval s=v) (hown:cC w base v zs) (hx:act.eval x=vx) (hm:IsP w vx ms) (hnn:ms=[]->vx=.slice none 0 0)
  (hlen:zs.length+ms.length<1000000000) (hbase:base<=w.heap.size)
  (h:∀ v' w',cC w' base v' (zs++ms)->(∀ B w0,Below B w0 w->B<=base->Below B w0 w')->(∀ u l,IsU w u l->IsU w' u l)->w.grownBy w' v.ownBlock->wpList Tryz.prog ops Q rest (act.put o.dst v') w') :
  wpList Tryz.prog ops Q (o :: rest) act w:=by
 obtain⟨es,h1,h2,h3⟩:=hown.p;obtain⟨i0,hi,hz0,hz1,hz2⟩:=info_parts vF;by_cases hme:ms=[]
 ·subst hme;refine wpList_plain hgd fun K hK=>?_;have hr:=run_append_owned_none (P:=Tryz.prog) (w:=w) base T o.type 65 i0 6 hT hi v es.length (dW es) h2
  obtain⟨pv,nv,cv,rfl⟩:∃ p n c,v=.slice p n c:=by
   rcases h2.2 with ⟨rfl,-⟩ | ⟨g,cap,cur,rfl,-⟩<;>exact⟨_,_,_,rfl⟩
  rw[<-i7 hT hT'] at hr;unfold Oper.wp execOp;simp only[ho,resolve,invoke,builtin,Sem.run_bind,Sem.run_pure,Result.andThen_ok,Df,C_,List.map_nil,hs,hx,hnn rfl,hr];exact hK _ _ <| h _ w (by rw[BE];exact hown) (fun B w0 hb _=>hb) (fun _ _ h=>h) ⟨rfl,rfl,rfl,AA _,fun _ _ _=>rfl⟩
 ·obtain⟨fs,f1,⟨p,c,e,f2,f3,f4⟩,f5⟩:=id hm;have hpos:0<fs.length:=by rw[f1];exact A3.2 hme
  obtain⟨b,off,rfl,hlt,hc⟩:=f4 hpos;have h6:=iZ f1 f5;refine gw _ zX hgd s x T T' ho base 65 i0 _ 6 112 hT hT' hi hz0 hz1 hz2 rfl (by decide) ?_ v es.length (dW es) hs h2 (fun g hg j u hc ⟨z,e⟩=>hown.nu g hg j z (by rw[<-e];exact hc)) ⟨b,off,none⟩ fs.length c (dW fs) hpos (by rw[hx,e]) (kS h6) (xY (by decide) h6 hc) (fun u hu=>(mF f1 f5 u hu).1) (fun u hu ⟨z,e⟩=>(mF f1 f5 u hu).2 z e) (by unfold maxLen;omega) (by omega) hbase ?_
  ·rintro u hu ⟨z,rfl⟩;simp[Value.cells] at hu
  ·intro v' w' g1 g2 g3;have hkeep:∀ u l,IsU w u l->IsU w' u l:=fun u l hu=>hu.grown hown.nu g2;refine h v' w' ⟨⟨es++fs,by simp[h1,f1],?_,?_⟩,fun g hg j z hc=>g3 g hg j _ hc ⟨z,rfl⟩⟩ ?_ hkeep g2
   ·rw[AO];simpa[dW] using g1
   ·intro i hi' hi2;by_cases hl:i<es.length
    ·rw[A8 hl,A8 (by omega)];exact (h3 i hl (by omega)).keepU hkeep
    ·rw[A4 (by omega),A4 (by omega)];have hi3:i-es.length<fs.length:=by simp at hi';omega
     have:=(f5 (i-es.length) hi3 (by omega)).keepU hkeep;simpa[h1] using this
   ·intro B w0 hB hBb;refine hB.grown g2 (by omega) ?_;intro k hk';have:=(h2.lt k hk').1;omega
theorem qS (w:World) (base:Nat) (hb:base<=w.heap.size):cC (w.alloc (.cells #[] 65)) base (.slice (some ⟨w.heap.size,0,none⟩) 0 0) [] :=
 ⟨⟨[],rfl,⟨rfl,Or.inr ⟨w.heap.size,0,#[],rfl,hb,heap_alloc_new w _,AA _,by simp[maxLen],rfl,rfl⟩⟩,fun i h=>by simp at h⟩,fun g hg j z hc=>by
  simp only[Value.ownBlock,Option.some.injEq] at hg;subst hg;rw[World.cell?,heap_alloc_new] at hc
  simp at hc⟩
end Go.Proofs.YtgakllaobooabaaGreatDoor
