/- L -/
import Derived.RangeFuncWrites
import Derived.Laws.AppendOwnNone
import Derived.Test.YtlhpcoelfhjomaaGreatDoorQMach
import Derived.Test.YtlhpcoelfhjomaaGreatDoorQNC4
import Derived.Test.YtlhpcoelfhjomaaGreatDoorQLP1
import Derived.Test.YtlhpcoelfhjomaaGreatDoorQPL1
set_option linter.all false
set_option maxRecDepth 100000
set_option maxHeartbeats 8000000
namespace Go.Proofs.YtlhpcoelfhjomaaGreatDoor
open Go.RowKit Dg
structure cR (S:Nat->Prop) (w w':World):Prop where
 os:w'.os=w.os
 tape:w'.tape=w.tape
 output:w'.output=w.output
 size:w.heap.size<=w'.heap.size
 block:∀ k,k<w.heap.size->¬ S k->w'.heap[k]?=w.heap[k]?
theorem cR.refl (S:Nat->Prop) (w:World):cR S w w:=⟨rfl,rfl,rfl,Iw _,fun _ _ _=>rfl⟩
theorem cR.trans {S:Nat->Prop}{a b c:World} (h:cR S a b) (k:cR S b c):cR S a c :=
 ⟨k.os.trans h.os,k.tape.trans h.tape,k.output.trans h.output,IB h.size k.size,fun i hi hn=>(k.block i (Iz hi h.size) hn).trans (h.block i hi hn)⟩
theorem cR.of_below {S:Nat->Prop}{w w':World} (h:Below w.heap.size w w'):cR S w w':=⟨h.os,h.tape,h.output,h.size,fun k hk _=>h.block k hk⟩
theorem cR.set {S:Nat->Prop}{w:World}{g:Nat} (hg:S g) (j:Nat) (u:Value):cR S w (w.setCell ⟨g,j,none⟩ u) :=
 ⟨rfl,rfl,rfl,by simp[World.setCell],fun k _ hn=>Below.heap_setCell w ⟨g,j,none⟩ u k (fun e=>hn (by rw[e];exact hg))⟩
theorem cR.below {S:Nat->Prop}{B:Nat}{w0 w w':World} (h:cR S w w') (hb:Below B w0 w) (hB:B<=w.heap.size) (hS:∀ k,S k->B<=k):Below B w0 w' :=
 hb.trans ⟨h.os,h.tape,h.output,h.size,fun k hk=>h.block k (by omega) (fun e=>by have:=hS k e;omega)⟩
structure Bes (S:Nat->Prop) (B:Nat) (W W':World):Prop where
 os:W'.os=W.os
 tape:W'.tape=W.tape
 output:W'.output=W.output
 size:W.heap.size<=W'.heap.size
 same:∀ k o,W.heap[k]?=some o->¬ S k->(k<B\/∀ r,o≠Obj.loop r)->W'.heap[k]?=some o
theorem Bes.of_turns {S:Nat->Prop}{B:Nat}{W W':World} (h:cR S W W'):Bes S B W W' :=
 ⟨h.os,h.tape,h.output,h.size,fun k _ hk hn _=>(h.block k (ID.1 hk).1 hn).trans hk⟩
theorem Bes.alloc (S:Nat->Prop) (B:Nat) (W:World) (o:Obj):Bes S B W (W.alloc o):=Bes.of_turns (cR.of_below ((LN _ _).alloc (Iw _) o))
theorem Bes.put (S:Nat->Prop) {B l:Nat}{W:World}{o:Loop}{o':Obj} (hB:B<=l) (hl:W.heap[l]?=some (.loop o)):Bes S B W (W.putObj l o') :=
 ⟨rfl,rfl,rfl,by simp,fun k o2 hk _ hor=>by
  rw[World.putObj_heap_other (fun e=>by subst e;rw[hl] at hk;cases hk;rcases hor with h | h;omega;exact h _ rfl)];exact hk⟩
theorem Bes.below {S:Nat->Prop}{B B0:Nat}{w0 W W':World} (h:Bes S B W W') (hb:Below B0 w0 W) (h0:B0<=B) (hz:B0<=W.heap.size) (hS:∀ k,S k->B0<=k):Below B0 w0 W' :=
 hb.trans ⟨h.os,h.tape,h.output,h.size,fun k hk=>by
  have hlt:k<W.heap.size:=by omega
  rw[h.same k _ (JQ hlt) (fun e=>by have:=hS k e;omega) (Or.inl (by omega)),JQ hlt]⟩
theorem Bes.cells {S:Nat->Prop}{B:Nat}{W W':World} (h:Bes S B W W') {b:Nat}{cs:Array Value}{T:TypeId}{z:Nat×Nat} (hc:W.heap[b]?=some (.cells cs T z)) (hn:¬ S b):W'.heap[b]?=some (.cells cs T z) :=
 h.same b _ hc hn (Or.inr (fun r e=>by cases e))
theorem Bes.cell {S:Nat->Prop}{B:Nat}{W W':World} (h:Bes S B W W') {b j:Nat}{v:Value} (hc:W.cell? ⟨b,j,none⟩=some v) (hn:¬ S b):W'.cell? ⟨b,j,none⟩=some v:=by
 obtain⟨o,ho⟩:∃ o,W.heap[b]?=some o:=⟨_,JQ (block_lt_of_cell hc)⟩
 have hl:∀ r,o≠Obj.loop r:=by
  intro r e;subst e;unfold World.cell? at hc;simp only[ho] at hc
  cases hc
 refine (World.cell?_of_block (w:=W) (w':=W') (a:=⟨b,j,none⟩) ?_).trans hc
 show W'.heap[b]?=W.heap[b]?
 rw[h.same _ _ ho hn (Or.inr hl),ho]
theorem D8 (W:World) (l:Nat) (o:Obj):(W.putObj l o).heap.size=W.heap.size:=by simp
variable {F : Fence} {n : Nat} {P : Program}
def xC (F:Fence) (n:Nat) (P:Program) (gf:Nat) (bnd lb:Array Value) (E:Nat->World->Array Value->Prop) (len:Nat) (Sb Si:Nat->Prop) (Ok:World->Prop) (w:World):Prop :=
 ∀ (l:Nat) (J:Nat->World->Prop) (W:World),Below w.heap.size w W ->
  (∀ i W1 W2,J i W1->cR Si W1 W2->J i W2)->(∀ i W1,J i W1->Ok W1) ->
  (∀ i (_:i<len) W1 vs,J i W1->E i W1 vs->YieldAt F (n-1) P l vs W1 fun e W'=>e=.returned (.bool true)/\J (i+1) W'/\cR Sb W1 W') ->
  J 0 W->CallsIn F n P gf (bnd++#[.func (.yield l) #[] #[]]++lb) W fun e W'=>(∃ v,e=.returned v)/\J len W'
def Bs (S:Nat->Prop) (I:World->Prop) (W:World):Exit->Act->World->Prop
 | .normal,_,W'=>cR S W W'/\I W'
 | _,_,_=>False
theorem oE {g:Operand}{ps:Array Tmp}{assign body:Code}{Q:Exit->Act->World->Prop}{a:Act}{w:World}
  (hro:F.round=none) (h1:1<=n) {gf:Nat} {bnd lb:Array Value} (hg:a.eval g=.func (.func gf) bnd lb) (hFg:F.fn gf) (eg:∀ args w,(callFunc gf args).run P w=.ok (.enter gf args) w)
  {E:Nat->World->Array Value->Prop} {len:Nat} {Sb Si:Nat->Prop} {Ok:World->Prop} (hSb:∀ k,Sb k->k<w.heap.size) (hSi:∀ k,Si k->k<w.heap.size)
  (hseq:xC F (n-1) P gf bnd lb E len Sb Si Ok w) (hps:∀ i W vs,E i W vs->vs.size=ps.size)
  (I:Nat->World->Prop) (hI:∀ i W W',I i W->Bes Si w.heap.size W W'->I i W') (hOk:∀ i W,I i W->Ok W) (h0:I 0 w)
  (I₁:Nat->Act->World->Prop) (hI₁:∀ i a₁ W W',I₁ i a₁ W->Bes (fun _=>False) w.heap.size W W'->I₁ i a₁ W')
  (hassign:∀ (l i:Nat) (_:i<len) (W:World) (vs:Array Value),I i W->E i W vs ->
   assign.wpIn (F.inRound l) (n-1-1) P (Exit.then (fun a₁ W₁=>cR Sb W W₁/\I₁ i a₁ W₁) (fun _ _ _=>False)) { tmps:=(ps.zip vs).foldl (fun t (p,v)=>t.setIfInBounds p v) a.tmps,defers:=[] } W)
  (hbody:∀ (l i:Nat) (_:i<len) (a₁:Act) (W:World),I₁ i a₁ W->body.wpIn (F.inRound l) (n-1-1) P (Bs Sb (I (i+1)) W) a₁ W)
  (hdone:∀ (D:Nat) (W:World),w.heap.size<=D->I len W->W.heap[D]?=some (.deferred (some []))->Q .normal { a with defers:={ target:=.collected D,args:=#[] } :: a.defers } W) :
  (Code.rangeFunc g ps assign body).wpIn F n P Q a w:=by
 refine wpIn_rangeFunc ?_;intro fn hfn;rw[hro];obtain⟨rec,hrec⟩:∃ rec:LoopState->Option Code->Loop,rec=fun st pe=>{ state:=st,pending:=pe,fn,tmps:=a.tmps,params:=ps,assign,body,defers:=w.heap.size }:=⟨_,rfl⟩;obtain⟨W1,hW1⟩:∃ W1,(w.alloc (.deferred (some []))).alloc (.loop (rec .ready none))=W1:=⟨_,rfl⟩
 have hL1:W1.heap[w.heap.size+1]?=some (.loop (rec .ready none)):=by
  rw[<-hW1];have:=World.alloc_heap_new (w.alloc (.deferred (some []))) (.loop (rec .ready none));rwa [World.size_alloc] at this
 have hK1:W1.heap[w.heap.size]?=some (.deferred (some [])):=by
  rw[<-hW1];exact (Below.heap_alloc _ _ _ (by simp)).trans (World.alloc_heap_new w _)
 have hI1:I 0 W1:=by rw[<-hW1];exact hI 0 _ _ (hI 0 _ _ h0 (Bes.alloc _ _ _ _)) (Bes.alloc _ _ _ _)
 have hb1:Below w.heap.size w W1:=by
  rw[<-hW1];exact ((LN _ w).alloc (Iw _) _).alloc (by simp) _
 refine⟨w.heap.size+1,[{ target:=.collected w.heap.size,args:=#[] }],W1,{ target:=.fn (.func gf) lb,args:=bnd++#[.func (.yield (w.heap.size+1)) #[] #[]] },W1,gf,
  bnd++#[.func (.yield (w.heap.size+1)) #[] #[]]++lb,W1,?_,?_,?_,?_,fun _=>h1,?_⟩
 ·rw[<-hW1,hrec];exact run_enterLoop_outer _ _ _ _ _
 ·simp only[resolve,hg];simp[go_sem]
 ·intro f' hf';simp[Target.leads] at hf';subst hf';exact hFg
 ·simp[invoke,go_sem,eg]
 ·have nSi:∀ k,w.heap.size<=k->¬ Si k:=fun k hk h=>by have:=hSi k h;omega
  have nSb:∀ k,w.heap.size<=k->¬ Sb k:=fun k hk h=>by have:=hSb k h;omega
  refine (hseq (w.heap.size+1)
   (fun i W=>I i W/\W.heap[w.heap.size+1]?=some (.loop (rec .ready none))/\W.heap[w.heap.size]?=some (.deferred (some [])))
   W1 hb1 ?_ (fun i W h=>hOk i W h.1) ?_ ⟨hI1,hL1,hK1⟩).mono ?_
  ·rintro i W W' ⟨ha,hb,hc⟩ hs;exact⟨hI _ _ _ ha (Bes.of_turns hs),(hs.block _ (ID.1 hb).1 (nSi _ (by omega))).trans hb,(hs.block _ (ID.1 hc).1 (nSi _ (by omega))).trans hc⟩
  ·rintro i hi W vs ⟨hi1,hl,hk⟩ hE;have hlt:w.heap.size+1<W.heap.size:=(ID.1 hl).1;have hy:=run_yield (P:=P) (args:=vs) hl (by rw[hrec];exact hps _ _ _ hE);rw[hrec] at hy;refine⟨fn,_,assign,body,hy,roundIn_of_wpIn hfn ?_⟩;refine wpIn_mono (hassign _ i hi W vs hi1 hE) ?_;rintro e a₁ W₂ hp
   cases e with
   | normal =>
    obtain⟨hk2,hj⟩:=hp;have hl2:=(hk2.block _ hlt (nSb _ (by omega))).trans hl;have hd2:=(hk2.block _ (show w.heap.size<W.heap.size by omega) (nSb _ (Iw _))).trans hk;have hlt2:w.heap.size+1<W₂.heap.size:=(ID.1 hl2).1;refine⟨_,run_beginRound hl2 (by rw[hrec]),?_⟩;have hl3:(W₂.putObj (w.heap.size+1) (.loop { rec .ready none with state:=.busy })).heap[w.heap.size+1]?=some (.loop { rec .ready none with state:=.busy }):=World.putObj_heap_same hlt2;have hd3:(W₂.putObj (w.heap.size+1) (.loop { rec .ready none with state:=.busy })).heap[w.heap.size]?=some (.deferred (some [])):=(World.putObj_heap_other (by omega)).trans hd2;have hz3:(W₂.putObj (w.heap.size+1) (.loop { rec .ready none with state:=.busy })).heap.size=W₂.heap.size:=by simp
    refine wpIn_mono (hbody _ i hi a₁ _ (hI₁ i a₁ _ _ hj (Bes.put _ (by omega) hl2))) ?_;rintro e a3 W3 hp
    cases e with
    | normal =>
     obtain⟨hk3,hi3⟩:=hp;have hl4:=(hk3.block _ (by rw[hz3];exact hlt2) (nSb _ (by omega))).trans hl3;have hd4:=(hk3.block _ (show w.heap.size<_ by rw[hz3];omega) (nSb _ (Iw _))).trans hd3;have hr:=run_endRound (P:=P) none hl4;have hlt4:w.heap.size+1<W3.heap.size:=(ID.1 hl4).1;have hs34:W₂.heap.size<=W3.heap.size:=by have:=hk3.size;rwa [hz3] at this
     rw[hrec] at hr;rw[hrec] at hl4;refine⟨_,_,hr,rfl,⟨hI _ _ _ hi3 (Bes.put _ (by omega) hl4),?_,(World.putObj_heap_other (by omega)).trans hd4⟩,?_⟩
     ·rw[hrec];exact World.putObj_heap_same hlt4
     ·refine⟨hk3.os.trans hk2.os,hk3.tape.trans hk2.tape,hk3.output.trans hk2.output,?_,fun k hkl hkn=>?_⟩
      ·have:=hk2.size;rw[D8];omega
      ·by_cases he:k=w.heap.size+1
       ·subst he;rw[hl,hrec];exact World.putObj_heap_same hlt4
       ·rw[World.putObj_heap_other (by omega),hk3.block k (by rw[hz3];have:=hk2.size;omega) hkn,World.putObj_heap_other (by omega)];exact hk2.block k hkl hkn
    | ret=>exact hp.elim
    | exit id=>exact hp.elim
    | goto t=>exact hp.elim
    | panic ch=>exact hp.elim
    | outgrown=>exact hp.elim
   | ret=>exact hp.elim
   | exit id=>exact hp.elim
   | goto t=>exact hp.elim
   | panic ch=>exact hp.elim
   | outgrown=>exact hp.elim
  ·rintro e W2 ⟨⟨v,rfl⟩,hi,hl,hk⟩;exact⟨none,_,by have:=run_endLoop (P:=P) hl (by rw[hrec];simp);rw[hrec] at this;exact this,hdone _ _ (Iw _) (hI _ _ _ hi (Bes.put _ (by omega) hl)) ((World.putObj_heap_other (by omega)).trans hk)⟩
structure jY (C:Nat->Value->Prop) (w w':World):Prop where
 size:w.heap.size<=w'.heap.size
 blk:∀ b j u,w.cell? ⟨b,j,none⟩=some u->C j u->w'.heap[b]?=w.heap[b]?
def uO (S:Nat->Prop) (C:Nat->Value->Prop) (w:World):Prop:=∀ k,S k->∀ j u,w.cell? ⟨k,j,none⟩=some u->¬ C j u
theorem jY.of_turns {S:Nat->Prop}{C:Nat->Value->Prop}{w w':World} (h:cR S w w') (hs:uO S C w):jY C w w' :=
 ⟨h.size,fun b j u hc hC=>h.block b (block_lt_of_cell hc) (fun hS=>hs b hS j u hc hC)⟩
theorem jY.of_bes {S:Nat->Prop}{C:Nat->Value->Prop}{B:Nat}{w w':World} (h:Bes S B w w') (hs:uO S C w):jY C w w' :=
 ⟨h.size,fun b j u hc hC=>by
  obtain⟨o,ho⟩:∃ o,w.heap[b]?=some o:=⟨_,JQ (block_lt_of_cell hc)⟩
  have hl:∀ r,o≠Obj.loop r:=by
   intro r e;subst e;unfold World.cell? at hc;simp only[ho] at hc
   cases hc
  rw[h.same _ _ ho (fun hS=>hs b hS j u hc hC) (Or.inr hl),ho]⟩
theorem jY.cell {C:Nat->Value->Prop}{w w':World} (h:jY C w w') {b j:Nat}{u:Value} (hc:w.cell? ⟨b,j,none⟩=some u) (hC:C j u):w'.cell? ⟨b,j,none⟩=some u :=
 (World.cell?_of_block (w:=w) (w':=w') (a:=⟨b,j,none⟩) (h.blk b j u hc hC)).trans hc
def EW (_:Nat) (u:Value):Prop:=∃ s,u=.string s
def AB (j:Nat) (u:Value):Prop:=0<j\/∃ z,u=.int .u64 z
theorem IsS.keep {w w':World}{v:Value}{l:List ByteArray} (h:IsS w v l) (hk:jY EW w w'):IsS w' v l:=by
 obtain⟨p,cap,e,h1,h2,h3⟩:=h;refine⟨p,cap,e,h1,h2,fun hl=>?_⟩;obtain⟨b,o,e2,hlt,hc⟩:=h3 hl;refine⟨b,o,e2,Iz hlt hk.size,fun i hi j u hu=>hk.cell (hc i hi j u hu) ?_⟩;have hm:=J3 hu;rw[JT] at hm;simp only[cellsOf,Jj] at hm;exact⟨_,hm⟩
theorem IsU.keep {w w':World}{v:Value}{l:List Nat} (h:IsU w v l) (hk:jY AB w w'):IsU w' v l:=by
 obtain⟨p,cap,e,h1,h2,h3⟩:=h;refine⟨p,cap,e,h1,h2,fun hl=>?_⟩;obtain⟨b,o,e2,hlt,hc⟩:=h3 hl;exact⟨b,o,e2,Iz hlt hk.size,fun j hj=>hk.cell (hc j hj) (Or.inr ⟨_,rfl⟩)⟩
theorem IsV.keep {w w':World}{v:Value}{z:Vl} (h:IsV w v z) (hk:jY AB w w'):IsV w' v z:=h.keepU fun _ _ hu=>hu.keep hk
theorem IsP.keep {w w':World}{v:Value}{zs:List CQ} (h:IsP w v zs) (hk:jY AB w w'):IsP w' v zs:=by
 obtain⟨es,h1,⟨p,cap,e,h2,h3,h4⟩,h5⟩:=h;have h6:=l5 h1 h5;refine⟨es,h1,⟨p,cap,e,h2,h3,fun hl=>?_⟩,fun i hi hi'=>(h5 i hi hi').keepU fun _ _ hu=>hu.keep hk⟩;obtain⟨b,o,e2,hlt,hc⟩:=h4 hl;refine⟨b,o,e2,Iz hlt hk.size,fun i hi j u hu=>?_⟩;have hl1:1<(cellsOf es[i]).length:=by rw[h6 _ (IS hi)];omega
 obtain⟨u1,hu1⟩:∃ u1,(cellsOf es[i])[1]?=some u1:=⟨_,II hl1⟩;exact (World.cell?_of_block (w:=w) (w':=w') (a:=⟨b,o+i*6+j,none⟩) (hk.blk b (o+i*6+1) u1 (hc i hi 1 u1 hu1) (Or.inl (Nat.succ_pos _)))).trans (hc i hi j u hu)
def NoX (C:Value->Prop) (w:World) (v:Value):Prop:=∀ g,v.ownBlock=some g->∀ j u,w.cell? ⟨g,j,none⟩=some u->¬ C u
theorem Az {C:Value->Prop}{zs:Array Value}{n:Nat} (h:∀ u∈zs,¬ C u):∀ u∈Builtin.zeroCells zs n,¬ C u:=by
 intro u hu;unfold Builtin.zeroCells at hu;obtain⟨i,hi,rfl⟩:=Array.mem_map.1 hu;have hi2:i<n*zs.size:=by simpa using hi
 have hp:0<zs.size:=by
  rcases Jd zs.size with h0 | h0
  ·rw[h0] at hi2;simp at hi2
  ·exact h0
 have hm:=Jw i hp;rw[getElem!_pos zs (i % zs.size) hm];exact h _ (Lv hm)
theorem sG {C:Value->Prop}{w:World}{cs:Array Value}{e:TypeId}{n c:Nat} (h:∀ u∈cs,¬ C u):NoX C (w.alloc (.cells cs e)) (.slice (some ⟨w.heap.size,0,none⟩) n c):=by
 intro g hg j u hc;simp only[Value.ownBlock,Option.some.injEq] at hg;subst hg;rw[World.cell?,heap_alloc_new] at hc;simp only[Jl,IW,if_false] at hc;exact h _ (Jm hc)
theorem NoX.below {C:Value->Prop}{w w':World}{v:Value}{base:Nat}{T:TypeId}{k n:Nat}{xs:List Value} (h:NoX C w v) (ho:w.ownsRow base T k v n xs) (hb:Below w.heap.size w w'):NoX C w' v:=by
 intro g hg j u hc;rw[hb.cell (p:=⟨g,j,none⟩) (ho.lt g hg).2] at hc;exact h g hg j u hc
section
variable {P : Program} (w : World)
theorem mU (C:Value->Prop) (base:Nat) (t ty e:TypeId) (i:TypeInfo) (z:Value) (size bytes:Nat) (ht:P.underlying t=some (.slice e)) (hi:P.info? e=some i) (hz:i.zero=some z)
  (hsize:i.size=size) (hby:i.bytes=bytes) (hzs:z.cells.size=size) (hsz:0<size) (hzn:∀ u∈z.cells,¬ C u)
  (v:Value) (n:Nat) (xs:List Value) (hown:w.ownsRow base e size v n xs) (hnu:NoX C w v)
  (a:Addr) (m c:Nat) (news:List Value) (hm0:0<m) (hl:news.length=m*size) (hnews:∀ j u,news[j]?=some u->w.cell? (a.add j)=some u) (h1:∀ u∈news,u.oneCell'=true) (hn1:∀ u∈news,¬ C u)
  (h63:n+m<=maxLen) (hbytes:(n+m)*bytes<=140737488355328) (hbase:base<=w.heap.size) :
  ∃ v' w',(Builtin.append_ #[t,t] ty #[v,.slice (some a) m c]).run P w=.ok v' w'/\w'.ownsRow base e size v' (n+m) (xs++news)/\w.grownBy w' v.ownBlock/\NoX C w' v':=by
 obtain⟨v',w',hr,h2,h3,-⟩:=run_append_own (P:=P) w base t ty e i z size bytes ht hi hz hsize hby hzs hsz v n xs hown a m c news hl hnews h1 h63 hbytes hbase;refine⟨v',w',hr,h2,h3,?_⟩;have hsmall:n+m<=9223372036854775807:=by simp only[maxLen] at h63;omega
 subst hsize;subst hby;rcases hown.2 with ⟨rfl,rfl⟩ | ⟨g,cap,cur,rfl,hbg,hg,hnc,hcm,hcs,htake⟩
 ·have hr':=run_append_nil (P:=P) w t ty e i z ht hi hz a m c news hl hnews hm0 (by omega) (by rw[Jk] at hbytes;omega);rw[hr'] at hr
  cases hr
  exact sG (w:=w.drew) fun u hu=>by
   rcases Kg.1 hu with h | h
   ·exact hn1 u (by simpa using h)
   ·exact Az hzn u h
 ·by_cases hroom:n+m<=cap
  ·have hfit:n*i.size+news.length<=cur.size:=by rw[hl,hcs,<-Jg];exact IJ _ hroom
   have hr':=run_append_room (P:=P) w t ty e i ht hi g n cap cur hg a m c news hl hnews h1 hroom hfit;rw[hr'] at hr
   cases hr
   intro g' hg' j y hc;simp only[Value.ownBlock,Option.some.injEq] at hg';subst hg';rw[World.cell?,setRow_heap w g cur _ e _ hg] at hc;simp only[Jl,IW,if_false] at hc;have hm:=Jm hc
   have old:∀ u∈cur.toList,¬ C u:=fun u hu=>by
    obtain⟨k,hk,he⟩:=Jq hu;refine hnu g rfl k u ?_;rw[World.cell?,hg];simp only[Jl,IW,if_false];rw[JQ (by simpa using hk),<-he];simp
   simp only[List.mem_toArray,Jo] at hm;rcases hm with (h | h) | h
   ·exact old _ (J4 h)
   ·exact hn1 _ h
   ·exact old _ (JB h)
  ·have holds:∀ j u,xs[j]?=some u->w.cell? ((⟨g,0,none⟩:Addr).add j)=some u:=hown.cells (g:=g) rfl;have hr':=run_append_grow (P:=P) w t ty e i z ht hi hz ⟨g,0,none⟩ n cap xs hown.1 holds a m c news hl hnews (by omega) (by omega) (growslice_fits (by omega) hbytes);rw[hr'] at hr
   cases hr
   exact sG (w:=w.drew) fun u hu=>by
    rcases Kg.1 hu with h | h
    ·rcases Kg.1 h with h | h
     ·obtain⟨k,hk,he⟩:=Jq (show u∈xs by simpa using h);have:=holds k u (by rw[II hk,he]);have ha:(⟨g,0,none⟩:Addr).add k=⟨g,k,none⟩:=by unfold Addr.add;split<;>simp_all
      rw[ha] at this;exact hnu g rfl k u this
     ·exact hn1 u (by simpa using h)
    ·exact Az hzn u h
omit w in
theorem l6 {t t' ty e e':TypeId} (ht:P.underlying t=some (.slice e)) (ht':P.underlying t'=some (.slice e')) (a b:Option Addr) (n c m d:Nat) (w:World):(Builtin.append_ #[t,t'] ty #[.slice a n c,.slice b m d]).run P w=(Builtin.append_ #[t,t] ty #[.slice a n c,.slice b m d]).run P w:=by
 unfold Builtin.append_;simp[run_underlying ht,run_underlying ht']
theorem jW {ops:Array Oper}{rest:List Oper}{o:Oper}{a:Act}{Q:Exit->Act->World->Prop} (C:Value->Prop) (hgd:o.guard=none) (s x:Operand) (t t':TypeId)
  (ho:o.op=.call { callee:=.builtin .append,args:=#[s,x],argTypes:=#[t,t'] })
  (base:Nat) (e:TypeId) (i:TypeInfo) (z:Value) (size bytes:Nat) (ht:P.underlying t=some (.slice e)) (ht':P.underlying t'=some (.slice e)) (hi:P.info? e=some i) (hz:i.zero=some z)
  (hsize:i.size=size) (hby:i.bytes=bytes) (hzs:z.cells.size=size) (hsz:0<size) (hzn:∀ u∈z.cells,¬ C u)
  (v:Value) (n:Nat) (xs:List Value) (hs:a.eval s=v) (hown:w.ownsRow base e size v n xs) (hnu:NoX C w v)
  (ad:Addr) (m c:Nat) (news:List Value) (hm0:0<m) (hx:a.eval x=.slice (some ad) m c) (hl:news.length=m*size) (hnews:∀ j u,news[j]?=some u->w.cell? (ad.add j)=some u) (h1:∀ u∈news,u.oneCell'=true) (hn1:∀ u∈news,¬ C u)
  (h63:n+m<=maxLen) (hbytes:(n+m)*bytes<=140737488355328) (hbase:base<=w.heap.size)
  (h:∀ v' w',w'.ownsRow base e size v' (n+m) (xs++news)->w.grownBy w' v.ownBlock->NoX C w' v'->wpList P ops Q rest (a.put o.dst v') w'):wpList P ops Q (o :: rest) a w:=by
 refine wpList_plain hgd fun K hK=>?_;obtain⟨v',w',hr,h2,h3,h4⟩:=mU (P:=P) w C base t o.type e i z size bytes ht hi hz hsize hby hzs hsz hzn v n xs hown hnu ad m c news hm0 hl hnews h1 hn1 h63 hbytes hbase;unfold Oper.wp execOp
 obtain⟨pv,nv,cv,rfl⟩:∃ p n c,v=.slice p n c:=by
  rcases hown.2 with ⟨rfl,-⟩ | ⟨g,cap,cur,rfl,-⟩<;>exact⟨_,_,_,rfl⟩
 rw[<-l6 ht ht'] at hr;simp only[ho,resolve,invoke,builtin,Sem.run_bind,Sem.run_pure,Result.andThen_ok,Lc,K9,Lz,hs,hx,hr];exact hK _ _ (h v' w' h2 h3 h4)
end
def Ch (u:Value):Prop:=∃ s,u=.string s
theorem IsS.grownX {w w':World}{u v:Value}{l:List ByteArray} (h:IsS w u l) (hnx:NoX Ch w v) (hg:w.grownBy w' v.ownBlock):IsS w' u l:=by
 obtain⟨p,cap,e,h1,h2,h3⟩:=h;refine⟨p,cap,e,h1,h2,fun hl=>?_⟩;obtain⟨b,o,e2,hlt,hc⟩:=h3 hl;refine⟨b,o,e2,Iz hlt hg.size,fun i hi j u hu=>?_⟩;have hm:=J3 hu;rw[JT] at hm;simp only[cellsOf,Jj] at hm;have hcc:=hc i hi j u hu;exact hg.cell hcc (fun e3=>hnx b e3.symm _ _ hcc ⟨_,hm⟩)
theorem Ic:(Tryz.prog.info? 22).map (fun i=>(i.zero,i.size,i.bytes))=some (some (.slice none 0 0),1,24):=by kernel_rfl
def tv (w:World) (v:Value) (ls:List (List ByteArray)):Prop:=∃ us:List Value,us.length=ls.length/\gy w 1 v us/\∀ i (h:i<us.length) (h':i<ls.length),IsS w us[i] ls[i]
structure i6 (w:World) (base:Nat) (v:Value) (ls:List (List ByteArray)):Prop where
 p:∃ us:List Value,us.length=ls.length/\w.ownsRow base 22 1 v us.length us/\∀ i (h:i<us.length) (h':i<ls.length),IsS w us[i] ls[i]
 nx:NoX Ch w v
theorem tG {w:World}{us:List Value}{ls:List (List ByteArray)} (hl:us.length=ls.length) (h:∀ i (h:i<us.length) (h':i<ls.length),IsS w us[i] ls[i]):∀ e∈us,cellsOf e=[e]:=by
 intro e he;obtain⟨i,hi,rfl⟩:=Jq he;obtain⟨p,c,hv,-⟩:=(h i hi (by omega)).form;rw[hv];rfl
theorem zE:∀ {us:List Value},(∀ e∈us,cellsOf e=[e])->fM us=us
 | [],_=>rfl
 | e :: us,h=>by
  have h1:=h e (by simp);have h2:=zE (us:=us) fun x hx=>h x (by simp[hx]);simp only[fM,Kq] at h2 |-;rw[h1,h2];rfl
theorem i6.isPS {w:World}{base:Nat}{v:Value}{ls:List (List ByteArray)} (h:i6 w base v ls):tv w v ls:=by
 obtain⟨us,h1,h2,h3⟩:=h.p;have hc:=tG h1 h3;refine⟨us,h1,fX (fun e he=>by rw[hc e he];rfl) (by rw[zE hc];exact h2),h3⟩
theorem i6.below {w w':World}{base:Nat}{v:Value}{ls:List (List ByteArray)} (h:i6 w base v ls) (hb:Below w.heap.size w w'):i6 w' base v ls:=by
 obtain⟨us,h1,h2,h3⟩:=h.p;exact⟨⟨us,h1,fU h2 hb,fun i hi hi'=>(h3 i hi hi').below hb⟩,h.nx.below h2 hb⟩
theorem tv.below {w w':World}{v:Value}{ls:List (List ByteArray)} (h:tv w v ls) (hb:Below w.heap.size w w'):tv w' v ls:=by
 obtain⟨us,h1,h2,h3⟩:=h;exact⟨us,h1,h2.below hb,fun i hi hi'=>(h3 i hi hi').below hb⟩
theorem i6.nil (w:World) (base:Nat):i6 w base (.slice none 0 0) []:=⟨⟨[],rfl,World.ownsRow_nil _ _ _ _,fun i h=>by simp at h⟩,fun g hg=>by cases hg⟩
theorem tv.form {w:World}{v:Value}{ls:List (List ByteArray)} (h:tv w v ls):∃ p c,v=.slice p ls.length c/\ls.length<=c/\c<=maxLen:=by
 obtain⟨us,h1,⟨p,c,e,h2,h3,-⟩,-⟩:=h;rw[h1] at e h2;exact⟨p,c,e,h2,h3⟩
theorem tv.get {w:World}{p:Option Addr}{n c:Nat}{ls:List (List ByteArray)} (h:tv w (.slice p n c) ls) {i:Nat} (hi:i<ls.length) :
  ∃ b o u,p=some ⟨b,o,none⟩/\b<w.heap.size/\w.cell? ⟨b,o+i,none⟩=some u/\IsS w u ls[i]:=by
 obtain⟨us,h1,⟨p',cap,e,h2,h3,h4⟩,h5⟩:=h;obtain⟨rfl,-,-⟩:p=p'/\n=us.length/\c=cap:=by simpa using e
 obtain⟨b,o,e2,hlt,hc⟩:=h4 (by omega);have hk:=h5 i (by omega) hi;obtain⟨pp,cc,hv,-⟩:=id hk.form;have:=hc i (by omega) 0 us[i] (by rw[hv];rfl);exact⟨b,o,us[i],e2,hlt,by simpa using this,hk⟩
theorem js {w:World}{ops:Array Oper}{rest:List Oper}{o:Oper}{act:Act}{Q:Exit->Act->World->Prop} (T:TypeId)
  (hT:Tryz.prog.underlying T=some (.slice 22)) (hgd:o.guard=none) (s x:Operand)
  (ho:o.op=.call { callee:=.builtin .append,args:=#[s,x],argTypes:=#[T,T] })
  (base:Nat) (v:Value) (ls ms:List (List ByteArray)) (us:List Value) (b off m c:Nat) (hs:act.eval s=v) (hown:i6 w base v ls)
  (hx:act.eval x=.slice (some ⟨b,off,none⟩) m c) (hm:m=us.length) (hm0:0<us.length) (hml:us.length=ms.length) (hcs:∀ i (h:i<us.length),w.cell? ⟨b,off+i,none⟩=some us[i]) (hms:∀ i (h:i<us.length) (h':i<ms.length),IsS w us[i] ms[i])
  (hlen:ls.length+ms.length<1000000000) (hbase:base<=w.heap.size)
  (h:∀ v' w',i6 w' base v' (ls++ms)->(∀ B w0,Below B w0 w->B<=base->Below B w0 w')->(∀ u l,IsS w u l->IsS w' u l)->w.grownBy w' v.ownBlock->wpList Tryz.prog ops Q rest (act.put o.dst v') w') :
  wpList Tryz.prog ops Q (o :: rest) act w:=by
 subst hm;obtain⟨vs,h1,h2,h3⟩:=hown.p;obtain⟨i0,hi,hz0,hz1,hz2⟩:=info_parts Ic
 have hsl:∀ u∈us,∃ p n c,u=.slice p n c:=fun u hu=>by
  obtain⟨i,hi,rfl⟩:=Jq hu;obtain⟨p,c,hv,-⟩:=(hms i hi (by omega)).form;exact⟨_,_,_,hv⟩
 refine jW _ Ch hgd s x T T ho base 22 i0 _ 1 24 hT hT hi hz0 hz1 hz2 rfl (by decide) ?_ v vs.length vs hs h2 hown.nx ⟨b,off,none⟩ us.length c us hm0 hx (by omega) ?_ ?_ ?_ (by unfold maxLen;omega) (by omega) hbase ?_
 ·rintro u hu ⟨s',rfl⟩;simp[Value.cells] at hu
 ·intro j u hj;have hjl:=(Js.1 hj).1
  have ha:(⟨b,off,none⟩:Addr).add j=⟨b,off+j,none⟩:=by
   unfold Addr.add
   split
   ·rename_i h0;subst h0;rfl
   ·rfl
  rw[ha,hcs j hjl,<-hj,II hjl]
 ·intro u hu;obtain⟨p,n,c,rfl⟩:=hsl u hu;rfl
 ·rintro u hu ⟨s',rfl⟩;obtain⟨p,n,c,e⟩:=hsl _ hu
  cases e
 ·intro v' w' g1 g2 g3;have hkeep:∀ u l,IsS w u l->IsS w' u l:=fun u l hu=>hu.grownX hown.nx g2;refine h v' w' ⟨⟨vs++us,by simp[h1,hml],?_,?_⟩,g3⟩ ?_ hkeep g2
  ·rw[IG];exact g1
  ·intro i hi' hi2;by_cases hlt:i<vs.length
   ·rw[I6 hlt,I6 (by omega)];exact hkeep _ _ (h3 i hlt (by omega))
   ·rw[I4 (by omega),I4 (by omega)];have hi3:i-vs.length<us.length:=by simp at hi';omega
    have:=hkeep _ _ (hms (i-vs.length) hi3 (by omega));simpa[h1] using this
  ·intro B w0 hB hBb;refine hB.grown g2 (by omega) ?_;intro k hk';have:=(h2.lt k hk').1;omega
theorem Fp {w:World}{k b o:Nat}{es:List Value} (hk0:0<k) (hk:∀ e∈es,(cellsOf e).length=k) (h:∀ i (h:i<es.length) j u,(cellsOf es[i])[j]?=some u->w.cell? ⟨b,o+i*k+j,none⟩=some u) :
  ∀ j u,(fM es)[j]?=some u->w.cell? ((⟨b,o,none⟩:Addr).add j)=some u:=by
 intro j u hj;have hjl:=(Js.1 hj).1;rw[pQ hk] at hjl;have hi:j / k<es.length:=Nat.div_lt_of_lt_mul (by rw[IM];exact hjl);have hr:j % k<k:=Jw _ hk0;have he:j=j / k*k+j % k:=by rw[IM];exact (Jh j k).symm
 have hg:=pP hk hi hr;rw[<-he,hj] at hg;have:=h _ hi _ u hg.symm
 have ha:(⟨b,o,none⟩:Addr).add j=⟨b,o+j,none⟩:=by
  unfold Addr.add
  split
  ·rename_i h0;rw[h0];rfl
  ·rfl
 rw[ha,he,<-J7];exact this
theorem sH {w:World}{es:List Value}{zs:List CQ} (hl:es.length=zs.length) (h:∀ i (h:i<es.length) (h':i<zs.length),IsK w es[i] zs[i]):∀ u∈fM es,u.oneCell'=true/\tw u:=by
 intro u hu;obtain⟨e,he,hue⟩:=List.mem_flatMap.1 hu;obtain⟨i,hi,rfl⟩:=Jq he;obtain⟨xm,xp,xl,xc,xq,xk,xd,ym,yp,yl,yc,yq,yk,yd,hv⟩:=(h i hi (by omega)).forms;rw[hv] at hue;simp only[cellsOf,Jv,Ki,or_false] at hue;rcases hue with rfl | rfl | rfl | rfl | rfl | rfl<;>exact⟨rfl,fun z e=>by cases e⟩
def Hr (u:Value):Prop:=∃ z,u=.int .u64 z
theorem jt {w:World}{ops:Array Oper}{rest:List Oper}{o:Oper}{act:Act}{Q:Exit->Act->World->Prop} (T T':TypeId)
  (hT:Tryz.prog.underlying T=some (.slice 93)) (hT':Tryz.prog.underlying T'=some (.slice 93)) (hgd:o.guard=none) (s x:Operand)
  (ho:o.op=.call { callee:=.builtin .append,args:=#[s,x],argTypes:=#[T,T'] })
  (base:Nat) (v vx:Value) (zs ms:List CQ) (hs:act.eval s=v) (hown:ej w base v zs) (hx:act.eval x=vx) (hm:IsP w vx ms) (hnn:ms=[]->vx=.slice none 0 0)
  (hlen:zs.length+ms.length<1000000000) (hbase:base<=w.heap.size)
  (h:∀ v' w',ej w' base v' (zs++ms)->(∀ B w0,Below B w0 w->B<=base->Below B w0 w')->(∀ u l,IsU w u l->IsU w' u l)->w.grownBy w' v.ownBlock->wpList Tryz.prog ops Q rest (act.put o.dst v') w') :
  wpList Tryz.prog ops Q (o :: rest) act w:=by
 obtain⟨es,h1,h2,h3⟩:=hown.p;obtain⟨i0,hi,hz0,hz1,hz2⟩:=info_parts Dn;by_cases hme:ms=[]
 ·subst hme;refine wpList_plain hgd fun K hK=>?_;have hr:=run_append_owned_none (P:=Tryz.prog) (w:=w) base T o.type 93 i0 6 hT hi v es.length (fM es) h2
  obtain⟨pv,nv,cv,rfl⟩:∃ p n c,v=.slice p n c:=by
   rcases h2.2 with ⟨rfl,-⟩ | ⟨g,cap,cur,rfl,-⟩<;>exact⟨_,_,_,rfl⟩
  rw[<-l6 hT hT'] at hr;unfold Oper.wp execOp;simp only[ho,resolve,invoke,builtin,Sem.run_bind,Sem.run_pure,Result.andThen_ok,Lc,K9,Lz,hs,hx,hnn rfl,hr];exact hK _ _ <| h _ w (by rw[Ju];exact hown) (fun B w0 hb _=>hb) (fun _ _ h=>h) ⟨rfl,rfl,rfl,Iw _,fun _ _ _=>rfl⟩
 ·obtain⟨fs,f1,⟨p,c,e,f2,f3,f4⟩,f5⟩:=id hm;have hpos:0<fs.length:=by rw[f1];exact IU.2 hme
  obtain⟨b,off,rfl,hlt,hc⟩:=f4 hpos;have h6:=l5 f1 f5;refine jW _ Hr hgd s x T T' ho base 93 i0 _ 6 112 hT hT' hi hz0 hz1 hz2 rfl (by decide) ?_ v es.length (fM es) hs h2 (fun g hg j u hc ⟨z,e⟩=>hown.nu g hg j z (by rw[<-e];exact hc)) ⟨b,off,none⟩ fs.length c (fM fs) hpos (by rw[hx,e]) (pQ h6) (Fp (by decide) h6 hc) (fun u hu=>(sH f1 f5 u hu).1) (fun u hu ⟨z,e⟩=>(sH f1 f5 u hu).2 z e) (by unfold maxLen;omega) (by omega) hbase ?_
  ·rintro u hu ⟨z,rfl⟩;simp[Value.cells] at hu
  ·intro v' w' g1 g2 g3;have hkeep:∀ u l,IsU w u l->IsU w' u l:=fun u l hu=>hu.grown hown.nu g2;refine h v' w' ⟨⟨es++fs,by simp[h1,f1],?_,?_⟩,fun g hg j z hc=>g3 g hg j _ hc ⟨z,rfl⟩⟩ ?_ hkeep g2
   ·rw[IG];simpa[fM] using g1
   ·intro i hi' hi2;by_cases hl:i<es.length
    ·rw[I6 hl,I6 (by omega)];exact (h3 i hl (by omega)).keepU hkeep
    ·rw[I4 (by omega),I4 (by omega)];have hi3:i-es.length<fs.length:=by simp at hi';omega
     have:=(f5 (i-es.length) hi3 (by omega)).keepU hkeep;simpa[h1] using this
   ·intro B w0 hB hBb;refine hB.grown g2 (by omega) ?_;intro k hk';have:=(h2.lt k hk').1;omega
theorem yy (w:World) (base:Nat) (hb:base<=w.heap.size):ej (w.alloc (.cells #[] 93)) base (.slice (some ⟨w.heap.size,0,none⟩) 0 0) [] :=
 ⟨⟨[],rfl,⟨rfl,Or.inr ⟨w.heap.size,0,#[],rfl,hb,heap_alloc_new w _,Iw _,by simp[maxLen],rfl,rfl⟩⟩,fun i h=>by simp at h⟩,fun g hg j z hc=>by
  simp only[Value.ownBlock,Option.some.injEq] at hg;subst hg;rw[World.cell?,heap_alloc_new] at hc
  simp at hc⟩
open Go.RowKit Dg
theorem dR {o:Oper}{a:Act}{w:World}{K:Act->World->Prop}{Q:Exit->Act->World->Prop} (hg:o.guard=none) (h:wpList Tryz.prog #[o] (fun e a w=>e=.normal/\K a w) [o] a w):o.wp Tryz.prog a w K Q:=by
 unfold wpList at h;rw[if_pos (by simp only[Region.wanted,hg])] at h;rcases h with h | ⟨-,h⟩
 ·unfold Oper.wp at *
  generalize (execOp a.eval o).run Tryz.prog w=r at *
  cases r with
  | ok n w' =>
   cases n<;>simp only[Oper.upon] at h |- <;>
    first
     | exact h.2
     | exact Calls.mono h (fun e w'' he=>by
       cases e with
       | returned v=>exact he.2
       | panicked c=>exact absurd he.1 (by simp)
       | outgrown=>obtain⟨_,_,he,_⟩:=he;exact absurd he (by simp))
     | exact Rows.mono h (fun _ _ he=>he.2)
  | halt x w'=>cases x<;>simp only[Oper.upon] at h |-<;>first | (obtain⟨he,_⟩:=h;exact absurd he (by simp)) | exact h | (obtain⟨_,_,he,_⟩:=h;exact absurd he (by simp))
 ·obtain⟨_,_,he,_⟩:=h;exact absurd he (by simp)
theorem nQ {w:World}{ops:Array Oper}{rest:List Oper}{o:Oper}{act:Act}{Q:Exit->Act->World->Prop} (T:TypeId)
  (hT:Tryz.prog.underlying T=some (.slice 93)) (hgd:o.guard=none) (s x:Operand)
  (ho:o.op=.call { callee:=.builtin .append,args:=#[s,x],argTypes:=#[T,T] })
  (base:Nat) (v:Value) (zs:List CQ) (a b c d e f:Value) (z:CQ) (hs:act.eval s=v) (hown:ej w base v zs) (hk:IsK w (.agg #[a,b,c,d,e,f]) z)
  (hx:act.eval x=.slice (some ⟨w.heap.size,0,none⟩) 1 1) (hlen:zs.length<1000000000) (hbase:base<=w.heap.size)
  (h:∀ v' w',ej w' base v' (zs++[z])->(∀ B w0,Below B w0 w->B<=base->Below B w0 w')->(w.alloc (.cells #[a,b,c,d,e,f] 93)).grownBy w' v.ownBlock->wpList Tryz.prog ops Q rest (act.put o.dst v') w') :
  wpList Tryz.prog ops Q (o :: rest) act (w.alloc (.cells #[a,b,c,d,e,f] 93)):=by
 obtain⟨es,h1,h2,h3⟩:=hown.p;obtain⟨i0,hi,hz0,hz1,hz2⟩:=info_parts Dn;have hb:=aj w (.cells #[a,b,c,d,e,f] 93);obtain⟨xm,xp,xl,xc,xq,xk,xd,ym,yp,yl,yc,yq,yk,yd,he⟩:=hk.forms;obtain⟨rfl,rfl,rfl,rfl,rfl,rfl⟩:a=.bool xm/\b=.slice xp xl xc/\c=.slice xq xk xd/\d=.bool ym/\e=.slice yp yl yc/\f=.slice yq yk yd:=by simpa using he
 have hnu:=hown.nu.below h2 hb;refine gP _ hgd s x T ho base 93 i0 _ 6 112 hT hi hz0 hz1 hz2 rfl (by decide) ?_ v es.length (fM es) hs (h2.alloc _) hnu ⟨w.heap.size,0,none⟩ 1 [.bool xm,.slice xp xl xc,.slice xq xk xd,.bool ym,.slice yp yl yc,.slice yq yk yd] hx rfl (uR w _ _ _ _ _ _ _) ?_ ?_ ?_ ?_ ?_ ?_
 ·intro u hu z' e';subst e';simp[Value.cells] at hu
 ·intro u hu;simp at hu;rcases hu with rfl | rfl | rfl | rfl | rfl | rfl<;>rfl
 ·intro u hu z' e';subst e';simp at hu
 ·unfold maxLen;omega
 ·omega
 ·rw[size_alloc];omega
 ·intro v' w' g1 g2 g3;have hkeep:∀ u l,IsU w u l->IsU w' u l:=fun u l hu=>(hu.below hb).grown hnu g2;refine h v' w' ⟨⟨es++[.agg #[.bool xm,.slice xp xl xc,.slice xq xk xd,.bool ym,.slice yp yl yc,.slice yq yk yd]],by simp[h1],?_,?_⟩,g3⟩ ?_ g2
  ·rw[IG,kS];exact g1
  ·intro i hi' hi2;by_cases hlt:i<es.length
   ·rw[I6 hlt,I6 (by omega)];exact (h3 i hlt (by omega)).keepU hkeep
   ·have hie:i=es.length:=by simp at hi';omega
    subst hie;rw[I4 (Iw _),I4 (by omega)];simpa[h1] using hk.keepU hkeep
  ·intro B w0 hB hBb;refine (hB.alloc (by have:=hbase;omega) _).grown g2 (by rw[size_alloc];omega) ?_;intro k hk';have:=(h2.lt k hk').1;omega
structure uJ (k:Nat) (a b c d e f:Value) where
 w:World
 h:cC w k a b c d e f
theorem cC.grown {w w':World}{k:Nat}{a b c d e f:Value}{row:Option Nat} (h:cC w k a b c d e f) (hg:w.grownBy w' row) (hne:some k≠row):cC w' k a b c d e f :=
 ⟨Iz h.lt hg.size,hg.cell h.c0 hne,hg.cell h.c1 hne,hg.cell h.c2 hne,hg.cell h.c3 hne,hg.cell h.c4 hne,hg.cell h.c5 hne⟩
theorem ej.block {w:World}{base:Nat}{v:Value}{zs:List CQ} (h:ej w base v zs) {g:Nat} (hg:v.ownBlock=some g):g<w.heap.size:=by
 obtain⟨es,-,h2,-⟩:=h.p;exact (World.ownsRow.lt h2 g hg).2
theorem uC {n:Nat} (h:n<34):SzV 10 (ct (CQ.real ((n:Nat):Int))):=by
 refine⟨⟨?_,dQ _,?_⟩,.zero (by decide)⟩
 ·show (((n:Nat):Int):Rat).num.natAbs<10 ^ 10
  simp;omega
 ·show (((n:Nat):Int):Rat).den<10 ^ 10
  simp
def ll (zs:List CQ):List CQ:=(List.range (zs.length-1)).map fun i=>(iA zs (i+1)).mul (CQ.real ((i+1:Nat):Int))
def AV (zs:List CQ):List CQ:=dq (ll zs)
theorem vu (zs:List CQ):(ll zs).length=zs.length-1:=by simp[ll]
theorem AW (zs:List CQ) {i:Nat} (h:i+1<zs.length):(ll zs).take (i+1)=(ll zs).take i++[zs[i+1].mul (CQ.real ((i+1:Nat):Int))]:=by
 have hl:i<(ll zs).length:=by rw[vu];omega
 rw[show (ll zs).take (i+1)=(ll zs).take i++[(ll zs)[i]] from (IL hl).symm];simp[ll,iA,h]
theorem vv (vp:Value) (zs:List CQ) (w:World) (hp:IsP w vp zs) (hfit:∀ z∈zs,∀ n:Nat,n<33->SzV 10000 (ct (z.mul (CQ.real ((n:Nat):Int))))) (hlen:zs.length<=33) :
  Calls Tryz.prog 180 #[vp] w fun e w'=>∃ v',e=.returned v'/\IsP w' v' (AV zs)/\Below w.heap.size w w':=by
 obtain⟨p,c,rfl,-⟩:=id hp.form;have HML:=Ip (vu zs);have HMT:=Ip (fun i h=>AW zs (i:=i) h);have HFIT:=Ip hfit;have HP:=Ip hp;clear hfit hp;go_enter Tryz.func180,Tryz.ntmps180;go_wp2;go_loopw [3,8] (fun s3 s8 wr=>∃ i:Nat,s8=.int .i64 i/\i<=zs.length/\ej wr w.heap.size s3 ((ll zs).take (i-1))/\Below w.heap.size w wr) (fun _ s8 _=>zs.length-(intOf s8).toNat)
 case atStart=>exact⟨0,rfl,IF _,ej.nil _ _,LN _ _⟩
 case round =>
  obtain⟨i,rfl,hin,hown,hbr⟩:=hrel;by_cases hi:i<zs.length
  ·obtain⟨B,o,rfl,hlt,xm,xp,xl,xc,xq,xk,xd,ym,yp,yl,yc,yq,yk,yd,hk,a0,a1,a2,a3,a4,a5⟩:=(HP.out.below hbr).get hi;have hvb0:=Ip (fun g (h:u3.ownBlock=some g)=>hown.block h);have HV:=Ip hown;have HK:=Ip hk;clear hown;go_upto_region 5 with fail
   have q2:=cC.new wr (.bool xm) (.slice xp xl xc) (.slice xq xk xd) (.bool ym) (.slice yp yl yc) (.slice yq yk yd) 93;have m2:=aj wr (.cells #[.bool xm,.slice xp xl xc,.slice xq xk xd,.bool ym,.slice yp yl yc,.slice yq yk yd] 93);have z2:=size_alloc wr (.cells #[.bool xm,.slice xp xl xc,.slice xq xk xd,.bool ym,.slice yp yl yc,.slice yq yk yd] 93);generalize wr.alloc (.cells #[.bool xm,.slice xp xl xc,.slice xq xk xd,.bool ym,.slice yp yl yc,.slice yq yk yd] 93)=w2 at *
   have hB2:=LK hbr m2;have HV2:=Ip (HV.out.below m2);have HK2:=Ip (HK.out.below m2);have hgr:wr.heap.size<w2.heap.size:=by omega
   clear a0 a1 a2 a3 a4 a5 m2 z2 HV HK hk;by_cases h0:i=0
   ·subst h0;clear q2 HK2;go_wp2;go_roundw;case rel=>exact⟨1,by go_num,by omega,HV2.out,hB2⟩
    case measure=>simp[intOf]<;>omega
   ·obtain⟨k,rfl⟩:∃ k,i=k+1:=⟨i-1,by omega⟩;have HT:=Ip (HMT.out k hi);have HZ:=Ip (HFIT.out zs[k+1] (IS hi) (k+1) (by omega));generalize zs[k+1]=z at HK2 HT HZ;rw[JC] at HV2;go_upto_region 6 with fail
    have hvb:∀ g,u3.ownBlock=some g->g<wr.heap.size:=hvb0.out;have m4:Below w2.heap.size w2 w2.drew:=(LN _ _).drew;have q4:=q2.below m4
    haveI:Nonempty (uJ wr.heap.size (.bool xm) (.slice xp xl xc) (.slice xq xk xd) (.bool ym) (.slice yp yl yc) (.slice yq yk yd)):=⟨⟨_,q2⟩⟩
    refine av (fun w'=>∃ x:uJ wr.heap.size (.bool xm) (.slice xp xl xc) (.slice xq xk xd) (.bool ym) (.slice yp yl yc) (.slice yq yk yd),w'=x.w) (fun i=>i == 3||i == 4||i == 5||i == 6||i == 7) (by kernel_rfl) (by kernel_rfl) ⟨⟨_,q4⟩,rfl⟩ ?_;have hB4:=LK hB2 m4;have HV4:=Ip (HV2.out.below m4);have HK4:=Ip (HK2.out.below m4);clear q2 m4 hB2 HV2 HK2 hgr;generalize w2.drew=wd at *
    have e0:=fun x:uJ wr.heap.size (.bool xm) (.slice xp xl xc) (.slice xq xk xd) (.bool ym) (.slice yp yl yc) (.slice yq yk yd)=>x.h.c0;have e1:=fun x:uJ wr.heap.size (.bool xm) (.slice xp xl xc) (.slice xq xk xd) (.bool ym) (.slice yp yl yc) (.slice yq yk yd)=>x.h.c1;have e2:=fun x:uJ wr.heap.size (.bool xm) (.slice xp xl xc) (.slice xq xk xd) (.bool ym) (.slice yp yl yc) (.slice yq yk yd)=>x.h.c2;have e3:=fun x:uJ wr.heap.size (.bool xm) (.slice xp xl xc) (.slice xq xk xd) (.bool ym) (.slice yp yl yc) (.slice yq yk yd)=>x.h.c3;have e4:=fun x:uJ wr.heap.size (.bool xm) (.slice xp xl xc) (.slice xq xk xd) (.bool ym) (.slice yp yl yc) (.slice yq yk yd)=>x.h.c4;have e5:=fun x:uJ wr.heap.size (.bool xm) (.slice xp xl xc) (.slice xq xk xd) (.bool ym) (.slice yp yl yc) (.slice yq yk yd)=>x.h.c5;refine ak 3 0 _ _ _ (by kernel_rfl) ?_;simp only[Ix,IC,Iy,IA];repeat (go_big_quiet_step (fail))
    refine wpQuiet_nil ?_;clear e0 e1 e2 e3 e4 e5;refine ap rfl rfl (fun K hK=>?_);go_simp;refine (kJ ((k+1:Nat):Int) wd (by omega) (by omega)).mono ?_;rintro e w5 ⟨v5,rfl,hv5,hb5⟩;refine hK _ _ ⟨⟨_,q4.below hb5⟩,rfl⟩ ?_;clear hK K;try simp only[Act.put,It,Is,Ir,Iq,Iu,Iv]
    refine ap rfl rfl (fun K hK=>?_);go_simp;refine (fI _ _ _ hv5).mono ?_;rintro e w6 ⟨v6,rfl,hv6,hb6⟩;have hB6:=LK hb5 hb6;rw[dX] at hv6;refine hK _ _ ⟨⟨_,q4.below hB6⟩,rfl⟩ ?_;clear hK K;try simp only[Act.put,It,Is,Ir,Iq,Iu,Iv]
    refine ap rfl rfl (fun K hK=>?_);go_simp;have hsn:=uC (n:=k+1) (by omega);refine (jQ _ _ _ _ _ (HK4.out.below hB6).v hv6 (HK4.out.s.fewV hsn (by decide))).mono ?_;rintro e w7 ⟨v7,rfl,hv7,hb7⟩;rw[dA] at hv7;have hB7:=LK hB6 hb7;refine hK _ _ ⟨⟨_,q4.below hB7⟩,rfl⟩ ?_;clear hK K;try simp only[Act.put,It,Is,Ir,Iq,Iu,Iv]
    have hk7:IsK w7 v7 (z.mul (CQ.real ((k+1:Nat):Int))):=⟨hv7,HZ.out⟩;obtain⟨sm,sp,sl,sc,sq,sk,sd,tm,tp,tl,tc,tq',tk,td,rfl⟩:=hk7.forms;have hw7:=HV4.out.below hB7;have q7:=q4.below hB7;have hB47:=LK hB4 hB7;have hbs:=hB47.size;have hzl:((ll zs).take k).length<1000000000:=by rw[IY,HML.out];omega
    have q8:=q7.below (aj w7 (.cells #[.bool sm,.slice sp sl sc,.slice sq sk sd,.bool tm,.slice tp tl tc,.slice tq' tk td] 93));refine ap rfl rfl (fun K hK=>?_);go_simp;refine hK _ _ ⟨⟨_,q8⟩,rfl⟩ ?_;clear hK K;try simp only[Act.put,It,Is,Ir,Iq,Iu,Iv]
    refine ap rfl rfl (fun K hK=>?_);refine dR rfl ?_;refine nQ 149 Tryz.underlying149 rfl (.tmp 15) (.tmp 21) rfl w.heap.size _ _ _ _ _ _ _ _ _ rfl hw7 hk7 rfl hzl hbs ?_;intro v' w9 hw9 hb9 hg9;have hB9:=hb9 _ _ hB47 (Iw _);have q9:=q8.grown hg9 (fun e=>Nat.lt_irrefl _ (hvb _ e.symm));refine⟨rfl,hK _ _ ⟨⟨_,q9⟩,rfl⟩ ?_⟩;clear hK K;try simp only[Act.put,It,Is,Ir,Iq,Iu,Iv]
    rw[<-HT.out] at hw9;have HW9:=Ip hw9;clear q4 q7 q8 q9 hg9 hb9 hw9 hw7 hk7 hv7 hv6 hv5 hb5 hb6 hb7 hB4 hB6 hB7 hB47 hvb;refine ak 1 8 _ _ _ (by kernel_rfl) ?_;simp only[Ix,IC,Iy,IA];repeat (go_big_quiet_step (fail))
    refine wpQuiet_nil ?_;refine aE ?_;go_wp2;go_roundw;case rel=>exact⟨k+1+1,by go_num,by omega,HW9.out,hB9⟩
    case measure=>simp[intOf]<;>omega
  ·have hin':i=zs.length:=by omega
   subst hin';have hw:=hown;rw[show (ll zs).take (zs.length-1)=ll zs from IE (by rw[HML.out];exact Iw _)] at hw;have hml:(ll zs).length<1000000:=by rw[HML.out];omega
   have HW:=Ip hw.isP;clear hown hi hw;go_wp2_with fail
   refine (sw _ _ wr HW.out hml).mono ?_;rintro e w4 ⟨v1,rfl,hv1,hb1⟩;go_wp2;go_ret;exact⟨_,rfl,hv1,LK hbr hb1⟩
section
variable {P : Program} (w : World)
theorem uu (base:Nat) (t ty e:TypeId) (i:TypeInfo) (z:Value) (size bytes:Nat) (ht:P.underlying t=some (.slice e)) (hi:P.info? e=some i) (hz:i.zero=some z)
  (hsize:i.size=size) (hby:i.bytes=bytes) (hzs:z.cells.size=size) (hsz:0<size)
  (v:Value) (n:Nat) (xs:List Value) (hown:w.ownsRow base e size v n xs)
  (a:Addr) (m c:Nat) (news:List Value) (hm0:0<m) (hl:news.length=m*size) (hnews:∀ j u,news[j]?=some u->w.cell? (a.add j)=some u) (h1:∀ u∈news,u.oneCell'=true)
  (h63:n+m<=maxLen) (hbytes:(n+m)*bytes<=140737488355328) (hbase:base<=w.heap.size) :
  ∃ v' w',(Builtin.append_ #[t,t] ty #[v,.slice (some a) m c]).run P w=.ok v' w'/\w'.ownsRow base e size v' (n+m) (xs++news)/\w.grownBy w' v.ownBlock/\(v'.ownBlock=v.ownBlock\/∃ g,v'.ownBlock=some g/\w.heap.size<=g):=by
 obtain⟨v',w',hr,h2,h3,-⟩:=run_append_own (P:=P) w base t ty e i z size bytes ht hi hz hsize hby hzs hsz v n xs hown a m c news hl hnews h1 h63 hbytes hbase;refine⟨v',w',hr,h2,h3,?_⟩;have hsmall:n+m<=9223372036854775807:=by simp only[maxLen] at h63;omega
 subst hsize;subst hby;rcases hown.2 with ⟨rfl,rfl⟩ | ⟨g,cap,cur,rfl,hbg,hg,hnc,hcm,hcs,htake⟩
 ·have hr':=run_append_nil (P:=P) w t ty e i z ht hi hz a m c news hl hnews hm0 (by omega) (by rw[Jk] at hbytes;omega);rw[hr'] at hr
  cases hr
  exact Or.inr ⟨_,rfl,Iw _⟩
 ·by_cases hroom:n+m<=cap
  ·have hfit:n*i.size+news.length<=cur.size:=by rw[hl,hcs,<-Jg];exact IJ _ hroom
   have hr':=run_append_room (P:=P) w t ty e i ht hi g n cap cur hg a m c news hl hnews h1 hroom hfit;rw[hr'] at hr
   cases hr
   exact Or.inl rfl
  ·have holds:∀ j u,xs[j]?=some u->w.cell? ((⟨g,0,none⟩:Addr).add j)=some u:=hown.cells (g:=g) rfl;have hr':=run_append_grow (P:=P) w t ty e i z ht hi hz ⟨g,0,none⟩ n cap xs hown.1 holds a m c news hl hnews (by omega) (by omega) (growslice_fits (by omega) hbytes);rw[hr'] at hr
   cases hr
   exact Or.inr ⟨_,rfl,Iw _⟩
end
structure rG (w:World) (B:Nat) (v:Value) (l:List ByteArray) (v':Value) (l':List ByteArray):Prop where
 o1:dh w B v l
 o2:dh w B v' l'
 ne:∀ g,v.ownBlock=some g->v'.ownBlock≠some g
theorem rG.nil (w:World) (B:Nat):rG w B (.slice none 0 0) [] (.slice none 0 0) []:=⟨dh.nil _ _,dh.nil _ _,fun g h=>by cases h⟩
theorem rG.below {w w':World}{B:Nat}{v v':Value}{l l':List ByteArray} (h:rG w B v l v' l') (hb:Below w.heap.size w w'):rG w' B v l v' l':=⟨h.o1.below hb,h.o2.below hb,h.ne⟩
theorem rG.alloc {w:World}{B:Nat}{v v':Value}{l l':List ByteArray} (h:rG w B v l v' l') (o:Obj):rG (w.alloc o) B v l v' l':=⟨World.ownsRow.alloc h.o1 o,World.ownsRow.alloc h.o2 o,h.ne⟩
structure AA (w w':World) (B:Nat) (v v':Value) (l:List ByteArray):Prop where
 own:dh w' B v' l
 grown:w.grownBy w' v.ownBlock
 blk:v'.ownBlock=v.ownBlock\/∃ g,v'.ownBlock=some g/\w.heap.size<=g
theorem AA.below {w w':World}{B:Nat}{v v':Value}{l l0:List ByteArray} (h:AA w w' B v v' l) (ho:dh w B v l0) {B':Nat}{w0:World} (hb:Below B' w0 w) (hB:B'<=B) (hs:B<=w.heap.size):Below B' w0 w':=by
 refine hb.grown h.grown (IB hB hs) fun k hk=>?_;have:=(World.ownsRow.lt ho k hk).1;omega
theorem AA.one {w w':World}{B:Nat}{v1 v2 v1':Value}{l1 l2 l:List ByteArray} (h:AA w w' B v1 v1' l) (ht:rG w B v1 l1 v2 l2):rG w' B v1' l v2 l2:=by
 refine⟨h.own,World.ownsRow.kept ht.o2 h.grown ?_,fun g hg e=>?_⟩
 ·cases h1:v1.ownBlock with
  | none=>cases h2:v2.ownBlock with
   | none=>exact Or.inl rfl
   | some g=>exact Or.inr (by simp)
  | some g=>exact Or.inr (ht.ne g h1)
 ·rcases h.blk with hb | ⟨g',hb,hge⟩
  ·exact ht.ne g (by rw[<-hb];exact hg) e
  ·obtain rfl:g=g':=by rw[hg] at hb;exact Option.some.inj hb
   have:=(World.ownsRow.lt ht.o2 g e).2;omega
theorem AA.cell {w w':World}{B:Nat}{v v':Value}{l l0:List ByteArray} (h:AA w w' B v v' l) (ho:dh w B v l0) {b o:Nat}{u:Value} (hb:v.ownBlock≠some b) (hc:w.cell? ⟨b,o,none⟩=some u):w'.cell? ⟨b,o,none⟩=some u :=
 h.grown.cell hc fun e=>hb e.symm
open Go.RowKit Dg
def iK (u:Value):Prop:=∃ z,u=.int .i64 z
theorem IsI.grownX {w w':World}{u v:Value}{l:List Nat} (h:IsI w u l) (hnx:NoX iK w v) (hg:w.grownBy w' v.ownBlock):IsI w' u l:=by
 obtain⟨p,cap,e,h1,h2,h3⟩:=h;refine⟨p,cap,e,h1,h2,fun hl=>?_⟩;obtain⟨b,o,e2,hlt,hc⟩:=h3 hl;refine⟨b,o,e2,Iz hlt hg.size,fun i hi=>?_⟩;have hcc:=hc i hi;exact hg.cell hcc (fun e3=>hnx b e3.symm _ _ hcc ⟨_,rfl⟩)
theorem b9.grownX {w w':World}{u v:Value}{q:Rat} (h:b9 w u q) (hnx:NoX iK w v) (hg:w.grownBy w' v.ownBlock):b9 w' u q:=by
 obtain⟨vn,vd,e,h1,h2⟩:=h;exact⟨vn,vd,e,IsI.grownX h1 hnx hg,IsI.grownX h2 hnx hg⟩
theorem b9.forms {w:World}{v:Value}{q:Rat} (h:b9 w v q):∃ m p N c p' N' c',v=.agg #[.bool m,.slice p N c,.bool false,.slice p' N' c']:=by
 obtain⟨m,p,N,c,p',N',c',e,-⟩:=h.open;exact⟨m,p,N,c,p',N',c',e⟩
theorem b9.len {w:World}{v:Value}{q:Rat} (h:b9 w v q):(cellsOf v).length=4:=by
 obtain⟨m,p,N,c,p',N',c',rfl⟩:=h.forms;rfl
def jw (w:World) (v:Value) (qs:List Rat):Prop:=∃ es:List Value,es.length=qs.length/\gy w 4 v es/\∀ i (h:i<es.length) (h':i<qs.length),b9 w es[i] qs[i]
structure bG (w:World) (base:Nat) (v:Value) (qs:List Rat):Prop where
 ex:∃ es:List Value,es.length=qs.length/\w.ownsRow base 44 4 v es.length (fM es)/\∀ i (h:i<es.length) (h':i<qs.length),b9 w es[i] qs[i]
 nx:NoX iK w v
theorem Cw {w:World}{es:List Value}{qs:List Rat} (hl:es.length=qs.length) (h:∀ i (h:i<es.length) (h':i<qs.length),b9 w es[i] qs[i]):∀ e∈es,(cellsOf e).length=4:=by
 intro e he;obtain⟨i,hi,rfl⟩:=Jq he;exact (h i hi (by omega)).len
theorem jw.below {w w':World}{v:Value}{qs:List Rat} (h:jw w v qs) (hb:Below w.heap.size w w'):jw w' v qs:=by
 obtain⟨es,h1,h2,h3⟩:=h;exact⟨es,h1,h2.below hb,fun i hi hi'=>(h3 i hi hi').below hb⟩
theorem bG.isQs {w:World}{base:Nat}{v:Value}{qs:List Rat} (h:bG w base v qs):jw w v qs:=by
 obtain⟨es,h1,h2,h3⟩:=h.ex;exact⟨es,h1,fX (Cw h1 h3) h2,h3⟩
theorem bG.below {w w':World}{base:Nat}{v:Value}{qs:List Rat} (h:bG w base v qs) (hb:Below w.heap.size w w'):bG w' base v qs:=by
 obtain⟨es,h1,h2,h3⟩:=h.ex;exact⟨⟨es,h1,fU h2 hb,fun i hi hi'=>(h3 i hi hi').below hb⟩,h.nx.below h2 hb⟩
theorem bG.nil (w:World) (base:Nat):bG w base (.slice none 0 0) []:=⟨⟨[],rfl,World.ownsRow_nil _ _ _ _,fun i h=>by simp at h⟩,fun g h=>by cases h⟩
theorem jw.form {w:World}{v:Value}{qs:List Rat} (h:jw w v qs):∃ p c,v=.slice p qs.length c/\qs.length<=c/\c<=maxLen:=by
 obtain⟨es,h1,⟨p,c,e,h2,h3,-⟩,-⟩:=h;rw[h1] at e h2;exact⟨p,c,e,h2,h3⟩
theorem bG.lt {w:World}{base:Nat}{v:Value}{qs:List Rat} (h:bG w base v qs):∀ g,v.ownBlock=some g->base<=g/\g<w.heap.size:=by
 obtain⟨es,h1,h2,h3⟩:=h.ex;exact World.ownsRow.lt h2
theorem jw.get {w:World}{p:Option Addr}{n c:Nat}{qs:List Rat} (h:jw w (.slice p n c) qs) {i:Nat} (hi:i<qs.length) :
  ∃ B o,p=some ⟨B,o,none⟩/\B<w.heap.size/\∃ m a N d a' N' d',b9 w (.agg #[.bool m,.slice a N d,.bool false,.slice a' N' d']) qs[i] /\
   w.cell? ⟨B,o+i*4,none⟩=some (.bool m)/\w.cell? ⟨B,o+i*4+1,none⟩=some (.slice a N d)/\w.cell? ⟨B,o+i*4+2,none⟩=some (.bool false)/\w.cell? ⟨B,o+i*4+3,none⟩=some (.slice a' N' d'):=by
 obtain⟨es,h1,⟨p',cap,e,h2,h3,h4⟩,h5⟩:=h;obtain⟨rfl,-,-⟩:p=p'/\n=es.length/\c=cap:=by simpa using e
 obtain⟨b,o,e2,hlt,hc⟩:=h4 (by omega);have hk:=h5 i (by omega) hi;obtain⟨m,a,N,d,a',N',d',he⟩:=hk.forms;have hc:=hc i (by omega);rw[he] at hk hc;exact⟨b,o,e2,hlt,_,_,_,_,_,_,_,hk,hc 0 _ rfl,hc 1 _ rfl,hc 2 _ rfl,hc 3 _ rfl⟩
theorem Ib:(Tryz.prog.info? 44).map (fun i=>(i.zero,i.size,i.bytes))=some (some (.agg #[.bool false,.slice none 0 0,.bool false,.slice none 0 0]),4,64):=by kernel_rfl
structure o7 (w w':World) (B:Nat) (v v':Value) (qs:List Rat):Prop where
 own:bG w' B v' qs
 grown:w.grownBy w' v.ownBlock
 blk:v'.ownBlock=v.ownBlock\/∃ g,v'.ownBlock=some g/\w.heap.size<=g
 old:NoX iK w v
theorem o7.below {w w':World}{B:Nat}{v v':Value}{qs q0:List Rat} (h:o7 w w' B v v' qs) (ho:bG w B v q0) {B':Nat}{w0:World} (hb:Below B' w0 w) (hB:B'<=B) (hs:B<=w.heap.size):Below B' w0 w':=by
 refine hb.grown h.grown (IB hB hs) fun k hk=>?_;have:=(ho.lt k hk).1;omega
theorem o7.keep {w w':World}{B:Nat}{v v' u:Value}{qs:List Rat}{q:Rat} (h:o7 w w' B v v' qs) (hu:b9 w u q):b9 w' u q:=hu.grownX h.old h.grown
theorem o7.row {w w':World}{B:Nat}{v v' u:Value}{qs rs:List Rat} (h:o7 w w' B v v' qs) (hu:jw w u rs) (hne:∀ g,v.ownBlock=some g->u.ownBlock≠some g):jw w' u rs:=by
 obtain⟨es,h1,⟨p,cap,e,h2,h3,h4⟩,h5⟩:=hu;refine⟨es,h1,⟨p,cap,e,h2,h3,fun hl=>?_⟩,fun i hi hi'=>h.keep (h5 i hi hi')⟩;obtain⟨b,o,e2,hlt,hc⟩:=h4 hl;refine⟨b,o,e2,Iz hlt h.grown.size,fun i hi j x hx=>h.grown.cell (hc i hi j x hx) fun e3=>?_⟩;refine hne b e3.symm ?_;rw[e,e2];rfl
theorem cE {w:World}{ops:Array Oper}{rest:List Oper}{o:Oper}{act:Act}{Q:Exit->Act->World->Prop} (T:TypeId)
  (hT:Tryz.prog.underlying T=some (.slice 44)) (hgd:o.guard=none) (s x:Operand)
  (ho:o.op=.call { callee:=.builtin .append,args:=#[s,x],argTypes:=#[T,T] })
  (base:Nat) (v:Value) (qs:List Rat) (m:Bool) (a:Option Addr) (N d:Nat) (a':Option Addr) (N' d':Nat) (q:Rat) (hs:act.eval s=v) (hown:bG w base v qs) (bx:Nat)
  (hx:act.eval x=.slice (some ⟨bx,0,none⟩) 1 1) (hcx:w.heap[bx]?=some (.cells #[.bool m,.slice a N d,.bool false,.slice a' N' d'] 44 (0,0)))
  (hq:b9 w (.agg #[.bool m,.slice a N d,.bool false,.slice a' N' d']) q) (hlen:qs.length<1000000000) (hbase:base<=w.heap.size)
  (h:∀ v' w',o7 w w' base v v' (qs++[q])->wpList Tryz.prog ops Q rest (act.put o.dst v') w') :
  wpList Tryz.prog ops Q (o :: rest) act w:=by
 obtain⟨es,h1,h2,h3⟩:=hown.ex;obtain⟨i0,hi,hz0,hz1,hz2⟩:=info_parts Ib
 have hcell:∀ (j:Nat) (u:Value),[Value.bool m,.slice a N d,.bool false,.slice a' N' d'][j]?=some u->w.cell? ((⟨bx,0,none⟩:Addr).add j)=some u:=by
  intro j u hj;have e:(⟨bx,0,none⟩:Addr).add j=⟨bx,j,none⟩:=by unfold Addr.add;split<;>simp_all
  rw[e,World.cell?,hcx];simp only[Jl,IW,if_false];rw[<-hj,<-Kb]
 have hone:∀ u∈[Value.bool m,.slice a N d,.bool false,.slice a' N' d'],u.oneCell'=true:=by
  intro u hu;simp at hu;rcases hu with rfl | rfl | rfl | rfl<;>rfl
 have hnd:∀ u∈[Value.bool m,.slice a N d,.bool false,.slice a' N' d'],¬ iK u:=by
  rintro u hu ⟨z,rfl⟩;simp at hu
 have hzn:∀ u∈(Value.agg #[.bool false,.slice none 0 0,.bool false,.slice none 0 0]).cells,¬ iK u:=by
  rintro u hu ⟨z,rfl⟩;simp[Value.cells] at hu
 have h63:es.length+1<=maxLen:=by unfold maxLen;omega
 refine wpList_plain hgd fun K hK=>?_;obtain⟨v',w',hr,g1,g2,g3⟩:=mU (P:=Tryz.prog) w iK base T o.type 44 i0 _ 4 64 hT hi hz0 hz1 hz2 rfl (by decide) hzn v es.length (fM es) h2 hown.nx ⟨bx,0,none⟩ 1 1 [.bool m,.slice a N d,.bool false,.slice a' N' d'] (by decide) rfl hcell hone hnd h63 (by omega) hbase;obtain⟨v2,w2,hr2,-,-,g4⟩:=uu (P:=Tryz.prog) w base T o.type 44 i0 _ 4 64 hT hi hz0 hz1 hz2 rfl (by decide) v es.length (fM es) h2 ⟨bx,0,none⟩ 1 1 [.bool m,.slice a N d,.bool false,.slice a' N' d'] (by decide) rfl hcell hone h63 (by omega) hbase;rw[hr] at hr2
 cases hr2
 unfold Oper.wp execOp
 obtain⟨pv,nv,cv,rfl⟩:∃ p n c,v=.slice p n c:=by
  rcases h2.2 with ⟨rfl,-⟩ | ⟨g,cap,cur,rfl,-⟩<;>exact⟨_,_,_,rfl⟩
 simp only[ho,resolve,invoke,builtin,Sem.run_bind,Sem.run_pure,Result.andThen_ok,Lc,K9,Lz,hs,hx,hr];refine hK _ _ (h v' w' ⟨⟨⟨es++[.agg #[.bool m,.slice a N d,.bool false,.slice a' N' d']],by simp[h1],?_,?_⟩,g3⟩,g2,g4,hown.nx⟩)
 ·rw[IG,kS];exact g1
 ·intro i hi hi';by_cases hin:i<es.length
  ·rw[I6 hin,I6 (by omega)];exact (h3 i hin (by omega)).grownX hown.nx g2
  ·have hie:i=es.length:=by simp at hi;omega
   subst hie;rw[I4 (by omega),I4 (by omega)];simp only[JJ,h1,Ir];exact hq.grownX hown.nx g2
theorem FQ (q:Rat):qM (rt q)=rt (-q):=by
 rw[<-gq];unfold qM fx;by_cases h0:(rt q).n=0
 ·simp[h0]
 ·simp[h0,JU h0]
theorem Gp (v:Value) (q:Rat) (w:World) (hv:b9 w v q):Calls Tryz.prog 120 #[v] w fun e w'=>∃ v',e=.returned v'/\b9 w' v' (-q)/\Below w.heap.size w w':=by
 have h:=wI v (rt q) w hv (fun h e=>by
  have h1:q.num<0:=of_decide_eq_true h;have h2:q.num.natAbs=0:=e
  omega)
 rw[FQ] at h;exact h
theorem Ac (n:Nat) (hn:n<1000000000000) (w:World):Calls Tryz.prog 26 #[.int .i64 n] w fun e w'=>∃ v,e=.returned v/\b9 w' v (n:Rat)/\Below w.heap.size w w':=by
 have h:=mL n hn w
 have e:rt ((n:Nat):Rat)=⟨false,n,1⟩:=by
  have:=ur (n:Int);rw[decide_eq_false (by omega),I0] at this;exact this
 rw[<-e] at h;exact h
theorem BD (w:World):Calls Tryz.prog 20 #[] w fun e w'=>∃ v,e=.returned v/\b9 w' v 1/\Below w.heap.size w w':=by
 have hl:=bL w (.cells #[.bool false,.slice none 0 0,.bool false,.slice none 0 0] 44);go_enter Tryz.func20,Tryz.ntmps20;go_upto_region 1 with fail
 generalize w.alloc (.cells #[.bool false,.slice none 0 0,.bool false,.slice none 0 0] 44)=w1 at *
 have s0:=hl.s0;have M1:=Ip hl.below;clear hl;go_wp2_with fail
 refine (Ac 1 (by decide) w1).mono ?_;rintro e w2 ⟨v2,rfl,hv2,hb2⟩;have hv2:b9 w2 v2 (1:Rat):=hv2;obtain⟨mo,po,No,co,po',No',co',rfl,ho,ho'⟩:=hv2.open;have u2:=(hb2.block _ (ah s0)).trans s0;have hP:=aR (u0:=.bool mo) (u1:=.slice po No co) (u2:=.bool false) (u3:=.slice po' No' co') u2;have hZ:=Ip (cW.puts hv2 hP u2 bf);have hBF:=Ip ((LK M1.out hb2).trans (hP.below w.heap.size (by omega)));have q0:=af u2 0;have q1:=af u2 1;have q2:=af u2 2;have q3:=af u2 3;have f0:=LL w2 (w.heap.size) 0 _ _ u2;have f1:=LL w2 (w.heap.size) 1 _ _ u2;have f2:=LL w2 (w.heap.size) 2 _ _ u2;have f3:=LL w2 (w.heap.size) 3 _ _ u2;clear hv2 ho ho' hb2 s0;go_wp2_with fail
 (try simp only[Exit.inBlock,Exit.then])
 change bodyPost _ _ _ _ _ (dL w2 (w.heap.size) (.bool mo) (.slice po No co) (.bool false) (.slice po' No' co'));refine LM (results_cell_row rfl _ _ (w.heap.size) _ _ (0,0) _ rfl hP.row Tryz.underlying44 rfl (by kernel_rfl)) rfl ?_;exact⟨_,rfl,hZ.out,hBF.out⟩
theorem Ea (w:World):Calls Tryz.prog 19 #[] w fun e w'=>∃ v,e=.returned v/\b9 w' v 0/\Below w.heap.size w w':=by
 have hl:=bL w (.cells #[.bool false,.slice none 0 0,.bool false,.slice none 0 0] 44);go_enter Tryz.func19,Tryz.ntmps19;go_upto_region 1 with fail
 generalize w.alloc (.cells #[.bool false,.slice none 0 0,.bool false,.slice none 0 0] 44)=w1 at *
 have s0:=hl.s0;have M1:=Ip hl.below;clear hl;go_wp2_with fail
 refine (Ac 0 (by decide) w1).mono ?_;rintro e w2 ⟨v2,rfl,hv2,hb2⟩;have hv2:b9 w2 v2 (0:Rat):=hv2;obtain⟨mo,po,No,co,po',No',co',rfl,ho,ho'⟩:=hv2.open;have u2:=(hb2.block _ (ah s0)).trans s0;have hP:=aR (u0:=.bool mo) (u1:=.slice po No co) (u2:=.bool false) (u3:=.slice po' No' co') u2;have hZ:=Ip (cW.puts hv2 hP u2 bf);have hBF:=Ip ((LK M1.out hb2).trans (hP.below w.heap.size (by omega)));have q0:=af u2 0;have q1:=af u2 1;have q2:=af u2 2;have q3:=af u2 3;have f0:=LL w2 (w.heap.size) 0 _ _ u2;have f1:=LL w2 (w.heap.size) 1 _ _ u2;have f2:=LL w2 (w.heap.size) 2 _ _ u2;have f3:=LL w2 (w.heap.size) 3 _ _ u2;clear hv2 ho ho' hb2 s0;go_wp2_with fail
 (try simp only[Exit.inBlock,Exit.then])
 change bodyPost _ _ _ _ _ (dL w2 (w.heap.size) (.bool mo) (.slice po No co) (.bool false) (.slice po' No' co'));refine LM (results_cell_row rfl _ _ (w.heap.size) _ _ (0,0) _ rfl hP.row Tryz.underlying44 rfl (by kernel_rfl)) rfl ?_;exact⟨_,rfl,hZ.out,hBF.out⟩
theorem qJ (va vb:Value) (a b:Rat) (k l:Nat) (w:World) (ha:b9 w va a) (hb:b9 w vb b) (hk:Sz k (rt a)) (hl:Sz l (rt b)) (hkl:k+l+1<=390000) :
  Calls Tryz.prog 75 #[va,vb] w fun e w'=>∃ v,e=.returned v/\b9 w' v (a-b)/\Below w.heap.size w w':=by
 have HA0:=Ip ha;have HB0:=Ip hb;obtain⟨m,p,N,c,p',N',c',rfl,hn,hd⟩:=ha.open;obtain⟨m2,q,M,d,q',M',d',rfl,hn2,hd2⟩:=hb.open;have hl3:=nZ w (.cells #[.bool m,.slice p N c,.bool false,.slice p' N' c'] 44) (.cells #[.bool m2,.slice q M d,.bool false,.slice q' M' d'] 44) (.cells #[.bool false,.slice none 0 0,.bool false,.slice none 0 0] 44);go_enter Tryz.func75,Tryz.ntmps75;go_upto_region 1 with fail
 generalize ((w.alloc (.cells #[.bool m,.slice p N c,.bool false,.slice p' N' c'] 44)).alloc (.cells #[.bool m2,.slice q M d,.bool false,.slice q' M' d'] 44)).alloc (.cells #[.bool false,.slice none 0 0,.bool false,.slice none 0 0] 44)=w1 at *
 refine av (fun w'=>∃ x:az (w.heap.size+1+1) w1.drew,w'=x.w) (fun j=>j == 2||j == 3||j == 4) (by kernel_rfl) (by kernel_rfl) ⟨⟨_,LN _ _⟩,rfl⟩ ?_;have hBd:Below w1.heap.size w1 w1.drew:=(LN _ _).drew;have s0:=(hBd.block _ (ah hl3.s0)).trans hl3.s0;have s1:=(hBd.block _ (ah hl3.s1)).trans hl3.s1;have s2:=(hBd.block _ (ah hl3.s2)).trans hl3.s2;have M1:=Ip (hl3.below.trans (hBd.mono hl3.below.size));have hBz:=hl3.below.trans (hBd.mono hl3.below.size);have HN:=Ip (hn.below hBz);have HD:=Ip (hd.below hBz);have HN2:=Ip (hn2.below hBz);have HD2:=Ip (hd2.below hBz);have HLT:=Ip (ah s2);clear hl3 hBd hBz hn hd hn2 hd2 ha hb;generalize w1.drew=wd at *
 have hB0:Below (w.heap.size+1+1) wd wd:=LN _ _;have e0:=af s0 0;have e1:=af s0 1;have e2:=af s0 2;have e3:=af s0 3;have g0:=af s1 0;have g1:=af s1 1;have g2:=af s1 2;have g3:=af s1 3;have d0:=fun x:az (w.heap.size+1+1) wd=>(x.h.cell (p:=⟨w.heap.size,0,none⟩) (by show w.heap.size<_;omega)).trans e0;have d1:=fun x:az (w.heap.size+1+1) wd=>(x.h.cell (p:=⟨w.heap.size,1,none⟩) (by show w.heap.size<_;omega)).trans e1;have d2:=fun x:az (w.heap.size+1+1) wd=>(x.h.cell (p:=⟨w.heap.size,2,none⟩) (by show w.heap.size<_;omega)).trans e2;have d3:=fun x:az (w.heap.size+1+1) wd=>(x.h.cell (p:=⟨w.heap.size,3,none⟩) (by show w.heap.size<_;omega)).trans e3;have b0:=fun x:az (w.heap.size+1+1) wd=>(x.h.cell (p:=⟨w.heap.size+1,0,none⟩) (by show w.heap.size+1<_;omega)).trans g0;have b1:=fun x:az (w.heap.size+1+1) wd=>(x.h.cell (p:=⟨w.heap.size+1,1,none⟩) (by show w.heap.size+1<_;omega)).trans g1;have b2:=fun x:az (w.heap.size+1+1) wd=>(x.h.cell (p:=⟨w.heap.size+1,2,none⟩) (by show w.heap.size+1<_;omega)).trans g2;have b3:=fun x:az (w.heap.size+1+1) wd=>(x.h.cell (p:=⟨w.heap.size+1,3,none⟩) (by show w.heap.size+1<_;omega)).trans g3;clear e0 e1 e2 e3 g0 g1 g2 g3 s0 s1;have hle:w.heap.size+1+1<=wd.heap.size:=JI HLT.out;have HA:=Ip (HA0.out.below M1.out);have HB:=Ip (HB0.out.below M1.out);refine ak 2 0 _ _ _ (by kernel_rfl) ?_;simp only[Ix,IC,Iy,IA];repeat (go_big_quiet_step (fail))
 refine wpQuiet_nil ?_;refine ap rfl rfl (fun K hK=>?_);go_simp;refine (Gp _ b wd HB.out).mono ?_;rintro e w2 ⟨v2,rfl,hz2,hb2⟩;obtain⟨y1,y2,y3,y4,y5,y6,y7,rfl⟩:=hz2.forms;refine hK _ _ ⟨⟨_,hb2.mono hle⟩,rfl⟩ ?_;clear hK K;try simp only[Act.put,It,Is,Ir,Iq,Iu,Iv]
 refine ap rfl rfl (fun K hK=>?_);go_simp;have hsb:Sz l (rt (-b)):=by rw[<-gq];exact hl.neg
 refine (wH _ _ a (-b) k l w2 (HA.out.below hb2) hz2 hk hsb hkl).mono ?_;rintro e w4 ⟨v4,rfl,hv4,hb4⟩;have hB4:=LK hb2 hb4;rw[<-Rat.sub_eq_add_neg] at hv4;refine hK _ _ ⟨⟨_,hB4.mono hle⟩,rfl⟩ ?_;clear hK K;try simp only[Act.put,It,Is,Ir,Iq,Iu,Iv]
 clear hz2 hb2 hb4;obtain⟨mo,po,No,co,po',No',co',rfl,ho,ho'⟩:=hv4.open;have u2:=(hB4.block _ HLT.out).trans s2;have hP:=aR (u0:=.bool mo) (u1:=.slice po No co) (u2:=.bool false) (u3:=.slice po' No' co') u2;have hZ:=Ip (cW.puts (hv4) hP u2 bf);have hBF:=Ip ((M1.out.trans (hB4.mono (IB (I1 _) (IB (I1 _) hle)))).trans (hP.below w.heap.size (by omega)));have hBG:=(hB4.mono hle).trans (hP.below (w.heap.size+1+1) (Iw _));have q0:=af u2 0;have q1:=af u2 1;have q2:=af u2 2;have q3:=af u2 3;have f0:=LL w4 (w.heap.size+1+1) 0 _ _ u2;have f1:=LL w4 (w.heap.size+1+1) 1 _ _ u2;have f2:=LL w4 (w.heap.size+1+1) 2 _ _ u2;have f3:=LL w4 (w.heap.size+1+1) 3 _ _ u2;refine ap rfl rfl (fun K hK=>?_);go_simp;change K _ (dL w4 (w.heap.size+1+1) (.bool mo) (.slice po No co) (.bool false) (.slice po' No' co'));refine hK undef _ ⟨⟨_,hBG⟩,rfl⟩ ?_;clear hK K d0 d1 d2 d3 b0 b1 b2 b3 q0 q1 q2 q3 f0 f1 f2 f3 hBG;try simp only[Act.put,It,Is,Ir,Iq,Iu,Iv]
 refine aE ?_;go_wp2_with fail
 (try simp only[Exit.inBlock,Exit.then])
 refine LM (results_cell_row rfl _ _ (w.heap.size+1+1) _ _ (0,0) _ rfl hP.row Tryz.underlying44 rfl (by kernel_rfl)) rfl ?_;exact⟨_,rfl,hZ.out,hBF.out⟩
theorem Fi (va:Value) (z:CQ) (w:World) (ha:IsV w va (ct z)) :
  Calls Tryz.prog 177 #[va] w fun e w'=>∃ v,e=.returned (.tuple #[v,.bool (decide (z.im=0))])/\IsV w' v (ct z)/\Below w.heap.size w w':=by
 obtain⟨a,b,c,d,e,f,rfl,hax,hay⟩:=id ha;obtain⟨xm,xp,xl,xc,xq,xk,xd,hxe⟩:=hax.form;obtain⟨ym,yp,yl,yc,yq,yk,yd,hye⟩:=hay.form;obtain⟨rfl,rfl,rfl⟩:=fh hxe;obtain⟨rfl,rfl,rfl⟩:=fh hye;clear hxe hye;go_enter Tryz.func177,Tryz.ntmps177;go_upto_region 1 with fail
 have q1:=cC.new w (.bool xm) (.slice xp xl xc) (.slice xq xk xd) (.bool ym) (.slice yp yl yc) (.slice yq yk yd) 93;have m1:=aj w (.cells #[.bool xm,.slice xp xl xc,.slice xq xk xd,.bool ym,.slice yp yl yc,.slice yq yk yd] 93);have z1:=size_alloc w (.cells #[.bool xm,.slice xp xl xc,.slice xq xk xd,.bool ym,.slice yp yl yc,.slice yq yk yd] 93);generalize w.alloc (.cells #[.bool xm,.slice xp xl xc,.slice xq xk xd,.bool ym,.slice yp yl yc,.slice yq yk yd] 93)=w1 at *
 have q3:=du.new w1 (.bool false) (.slice none 0 0) (.slice none 0 0) (.bool false) (.slice none 0 0) (.slice none 0 0) nofun nofun nofun nofun nofun nofun;have m3:=aj w1 (.cells #[.bool false,.slice none 0 0,.slice none 0 0,.bool false,.slice none 0 0,.slice none 0 0] 93);generalize w1.alloc (.cells #[.bool false,.slice none 0 0,.slice none 0 0,.bool false,.slice none 0 0,.slice none 0 0] 93)=w3 at *
 have m4:Below w3.heap.size w3 w3.drew:=(LN _ _).drew;rw[z1] at q3;refine av (fun w'=>∃ x:az (w.heap.size+1) w3.drew,w'=x.w) (fun i=>i == 2||i == 3) (by kernel_rfl) (by kernel_rfl) ⟨⟨_,LN _ _⟩,rfl⟩ ?_;generalize w3.drew=wd at *
 have hB0:Below wd.heap.size wd wd:=LN _ _;have M13:=LK m1 m3;have MD:=Ip (LK M13 m4);have B1:=(q1.below m3).below m4;have B3:=Ip (q3.below m4);have hz:w.heap.size+1<=wd.heap.size:=by have:=B3.out.lt;omega
 have e1:=fun x:az (w.heap.size+1) wd=>B1.at x.h (by omega);have a0:=fun x=>(e1 x).c0;have a01:=fun x=>(e1 x).c1;have a02:=fun x=>(e1 x).c2;have a03:=fun x=>(e1 x).c3;have a04:=fun x=>(e1 x).c4;have a05:=fun x=>(e1 x).c5;have HAX:=Ip (hax.below MD.out);have HAY:=Ip (hay.below MD.out);have HV:=Ip (ha.below MD.out);clear e1 q1 q3 m1 m3 m4 z1 M13 hax hay B1 ha hB0;refine ak 2 0 _ _ _ (by kernel_rfl) ?_;simp only[Ix,IC,Iy,IA];repeat (go_big_quiet_step (fail))
 refine wpQuiet_nil ?_;refine ap rfl rfl (fun K hK=>?_);go_simp;refine (fj _ _ wd HV.out).mono ?_;rintro e w4 ⟨rfl,hb4⟩;refine hK _ _ ⟨⟨_,hb4.mono hz⟩,rfl⟩ ?_;clear hK K;try simp only[Act.put,It,Is,Ir,Iq,Iu,Iv]
 have B8:=B3.out.below hb4;have k0:=B8.cell 0;have k1:=B8.cell 1;have k2:=B8.cell 2;have k3:=B8.cell 3;have k4:=B8.cell 4;have k5:=B8.cell 5;have f0:=B8.fr 0;have f1:=B8.fr 1;have f2:=B8.fr 2;have f3:=B8.fr 3;have f4:=B8.fr 4;have f5:=B8.fr 5;have P:=Ip (B8.putV (HAX.out.below hb4) (HAY.out.below hb4));refine ap rfl rfl (fun K hK=>?_);go_simp;refine hK undef _ ⟨⟨_,P.out.2.2 _ _ (hb4.mono hz) (by omega)⟩,rfl⟩ ?_;clear hK K;try simp only[Act.put,It,Is,Ir,Iq,Iu,Iv]
 refine ak 1 4 _ _ _ (by kernel_rfl) ?_;simp only[Ix,IC,Iy,IA];repeat (go_big_quiet_step (fail))
 refine wpQuiet_nil ?_;refine aE ?_;have M8:=Ip (P.out.2.2 _ _ (LK MD.out hb4) (by omega))
 have HD:=Ip (show decide ((ct z).y.n=0)=decide (z.im=0) by
  have h:=bB z.im
  show decide ((rt z.im).n=0)=_
  simp only[h])
 obtain⟨bb,hbb⟩:∃ bb,bb=decide (z.im=0):=⟨_,rfl⟩;rw[HD.out,<-hbb];have HBB:=Ip hbb;clear hbb;clear B8 k0 k1 k2 k3 k4 k5 f0 f1 f2 f3 f4 f5;go_wp2_with fail
 have q0:=P.out.1.cell 0;have q1:=P.out.1.cell 1;have q2:=P.out.1.cell 2;have q3:=P.out.1.cell 3;have q4:=P.out.1.cell 4;have q5:=P.out.1.cell 5;refine LM (v:=.tuple #[.agg #[.bool xm,.slice xp xl xc,.slice xq xk xd,.bool ym,.slice yp yl yc,.slice yq yk yd],.bool bb]) (by simp[results,Tryz.results177,go_sem,eU] at q0 q1 q2 q3 q4 q5 |-;simp[results,Tryz.results177,go_sem,q0,q1,q2,q3,q4,q5]) rfl ⟨_,by rw[HBB.out],P.out.2.1,M8.out⟩
def kD (zs:List CQ):Bool:=zs.all fun z=>decide (z.im=0)
theorem Cv (v:Value) (zs:List CQ) (w:World) (hl:IsP w v zs) (hlen:zs.length<1000000) :
  Calls Tryz.prog 176 #[v,.func (.func 177) #[] #[]] w fun e w'=>∃ v',e=.returned (.tuple #[v',.bool (kD zs)])/\Below w.heap.size w w':=by
 obtain⟨p,c,rfl,-⟩:=id hl.form;have HL:=Ip hl;clear hl;go_enter Tryz.func176,Tryz.ntmps176;go_wp2;go_loopw [6,13] (fun s6 s13 wr=>∃ i:Nat,s13=.int .i64 i/\i<=zs.length/\ej wr w.heap.size s6 (zs.take i)/\Below w.heap.size w wr/\Hid (kD (zs.take i)=true)) (fun _ s13 _=>zs.length-(intOf s13).toNat)
 case atStart=>exact⟨0,rfl,IF _,ej.nil _ _,LN _ _,rfl⟩
 case round =>
  obtain⟨i,rfl,hin,hown,hbr,hall⟩:=hrel;by_cases hi:i<zs.length
  ·obtain⟨B,o,rfl,hlt,xm,xp,xl,xc,xq,xk,xd,ym,yp,yl,yc,yq,yk,yd,hk,a0,a1,a2,a3,a4,a5⟩:=(HL.out.below hbr).get hi;have HT:=Ip (show zs.take (i+1)=zs.take i++[zs[i]] from (IL hi).symm)
   have HO:=Ip (show kD (zs.take (i+1))=decide (zs[i].im=0) by
    unfold kD at hall |-
    rw[<-IL hi,JW,hall.out];simp)
   have HX:=Ip (show zs[i].im≠0->kD zs=false from fun h=>by
    unfold kD;rw[Kp]
    exact⟨zs[i],IS hi,by simpa using h⟩)
   generalize zs[i]=z at hk HT HO HX;have HV:=Ip hown;have HK:=Ip hk;clear hown hk hall;go_upto_region 5 with fail
   have q2:=cC.new wr (.bool xm) (.slice xp xl xc) (.slice xq xk xd) (.bool ym) (.slice yp yl yc) (.slice yq yk yd) 93;have m2:=aj wr (.cells #[.bool xm,.slice xp xl xc,.slice xq xk xd,.bool ym,.slice yp yl yc,.slice yq yk yd] 93);generalize wr.alloc (.cells #[.bool xm,.slice xp xl xc,.slice xq xk xd,.bool ym,.slice yp yl yc,.slice yq yk yd] 93)=w2 at *
   have b0:=q2.c0;have b1:=q2.c1;have b2:=q2.c2;have b3:=q2.c3;have b4:=q2.c4;have b5:=q2.c5;have hB2:=LK hbr m2;have HV2:=Ip (HV.out.below m2);have HK2:=Ip (HK.out.below m2);clear a0 a1 a2 a3 a4 a5 m2 q2 HV HK hbr;go_wp2_with fail
   refine (Fi _ z w2 HK2.out.v).mono ?_;rintro e w3 ⟨v3,rfl,hv3,hb3⟩;have hB3:=LK hB2 hb3;have hk3:IsK w3 v3 z:=⟨hv3,HK2.out.s⟩;obtain⟨sm,sp,sl,sc,sq,sk,sd,tm,tp,tl,tc,tq',tk,td,rfl⟩:=hk3.forms;have HV3:=Ip (HV2.out.below hb3);clear b0 b1 b2 b3 b4 b5 hb3 hB2 HV2 HK2 hv3;by_cases hz:z.im=0
   ·have hd:decide (z.im=0)=true:=decide_eq_true hz;have HO:=Ip (show kD (zs.take (i+1))=true by rw[HO.out,hd]);rw[hd];clear hz hd HX;go_upto_region 6 with fail
    have q4:=cC.new w3 (.bool sm) (.slice sp sl sc) (.slice sq sk sd) (.bool tm) (.slice tp tl tc) (.slice tq' tk td) 93;have m4:=aj w3 (.cells #[.bool sm,.slice sp sl sc,.slice sq sk sd,.bool tm,.slice tp tl tc,.slice tq' tk td] 93);generalize w3.alloc (.cells #[.bool sm,.slice sp sl sc,.slice sq sk sd,.bool tm,.slice tp tl tc,.slice tq' tk td] 93)=w4 at *
    have b0:=q4.c0;have b1:=q4.c1;have b2:=q4.c2;have b3:=q4.c3;have b4:=q4.c4;have b5:=q4.c5;have hB4:=LK hB3 m4;have hw4:=HV3.out.below m4;have hk4:=hk3.below m4;have hbs:=hB4.size;have hzl:(zs.take i).length<1000000000:=by rw[IY];omega
    clear q4 m4 hk3 HV3 hB3;go_wp2_with (at_builtin;refine fg 149 Tryz.underlying149 rfl (.tmp 25) (.tmp 27) rfl w.heap.size _ _ _ _ _ _ _ _ _ rfl hw4 hk4 rfl hzl hbs ?_)
    intro v' w5 hw5 hb5 _;have hB5:=hb5 _ _ hB4 (Iw _);rw[<-HT.out] at hw5;clear hw4 hk4 hb5 hB4 b0 b1 b2 b3 b4 b5;go_wp2;go_roundw;case rel=>exact⟨i+1,by go_num,by omega,hw5,hB5,HO.out⟩
    case measure=>simp[intOf]<;>omega
   ·have hd:decide (z.im=0)=false:=decide_eq_false hz;have HE:=Ip (HX.out hz);rw[hd];clear hz hd HX HO HT;go_wp2;refine LM (v:=.tuple #[.slice none 0 0,.bool false]) (by simp[results,Tryz.results176,go_sem]) rfl ⟨_,by rw[HE.out],LK hB3 (aj w3 _)⟩
  ·have hin':i=zs.length:=by omega
   subst hin';have HO:=Ip (show kD zs=true by have h:=hall.out;rwa [IZ] at h);clear hown hi hall;go_wp2;refine LM (v:=.tuple #[u6,.bool true]) (by simp[results,Tryz.results176,go_sem]) rfl ⟨_,by rw[HO.out],hbr⟩
end Go.Proofs.YtlhpcoelfhjomaaGreatDoor
