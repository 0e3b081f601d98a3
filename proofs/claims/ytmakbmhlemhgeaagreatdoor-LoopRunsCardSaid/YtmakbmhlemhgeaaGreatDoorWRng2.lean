/- L -/
import Derived.RangeFuncWrites
import Derived.Laws.AppendOwnNone
import Derived.Test.YtmakbmhlemhgeaaGreatDoorWMach
import Derived.Test.YtmakbmhlemhgeaaGreatDoorWNC4
import Derived.Test.YtmakbmhlemhgeaaGreatDoorWB
set_option linter.all false
set_option maxRecDepth 100000
set_option maxHeartbeats 8000000
namespace Go.Proofs.YtmakbmhlemhgeaaGreatDoor
open Go.RowKit Dg
structure cT (S:Nat->Prop) (w w':World):Prop where
 os:w'.os=w.os
 tape:w'.tape=w.tape
 output:w'.output=w.output
 size:w.heap.size<=w'.heap.size
 block:∀ k,k<w.heap.size->¬ S k->w'.heap[k]?=w.heap[k]?
theorem cT.refl (S:Nat->Prop) (w:World):cT S w w:=⟨rfl,rfl,rfl,GM _,fun _ _ _=>rfl⟩
theorem cT.trans {S:Nat->Prop}{a b c:World} (h:cT S a b) (k:cT S b c):cT S a c :=
 ⟨k.os.trans h.os,k.tape.trans h.tape,k.output.trans h.output,GV h.size k.size,fun i hi hn=>(k.block i (GN hi h.size) hn).trans (h.block i hi hn)⟩
theorem cT.of_below {S:Nat->Prop}{w w':World} (h:Below w.heap.size w w'):cT S w w':=⟨h.os,h.tape,h.output,h.size,fun k hk _=>h.block k hk⟩
theorem cT.set {S:Nat->Prop}{w:World}{g:Nat} (hg:S g) (j:Nat) (u:Value):cT S w (w.setCell ⟨g,j,none⟩ u) :=
 ⟨rfl,rfl,rfl,by simp[World.setCell],fun k _ hn=>Below.heap_setCell w ⟨g,j,none⟩ u k (fun e=>hn (by rw[e];exact hg))⟩
structure Bes (S:Nat->Prop) (B:Nat) (W W':World):Prop where
 os:W'.os=W.os
 tape:W'.tape=W.tape
 output:W'.output=W.output
 size:W.heap.size<=W'.heap.size
 same:∀ k o,W.heap[k]?=some o->¬ S k->(k<B\/∀ r,o≠Obj.loop r)->W'.heap[k]?=some o
theorem Bes.of_turns {S:Nat->Prop}{B:Nat}{W W':World} (h:cT S W W'):Bes S B W W' :=
 ⟨h.os,h.tape,h.output,h.size,fun k _ hk hn _=>(h.block k (GT.1 hk).1 hn).trans hk⟩
theorem Bes.alloc (S:Nat->Prop) (B:Nat) (W:World) (o:Obj):Bes S B W (W.alloc o):=Bes.of_turns (cT.of_below ((Ki _ _).alloc (GM _) o))
theorem Bes.put (S:Nat->Prop) {B l:Nat}{W:World}{o:Loop}{o':Obj} (hB:B<=l) (hl:W.heap[l]?=some (.loop o)):Bes S B W (W.putObj l o') :=
 ⟨rfl,rfl,rfl,by simp,fun k o2 hk _ hor=>by
  rw[World.putObj_heap_other (fun e=>by subst e;rw[hl] at hk;cases hk;rcases hor with h | h;omega;exact h _ rfl)];exact hk⟩
theorem Bes.below {S:Nat->Prop}{B B0:Nat}{w0 W W':World} (h:Bes S B W W') (hb:Below B0 w0 W) (h0:B0<=B) (hz:B0<=W.heap.size) (hS:∀ k,S k->B0<=k):Below B0 w0 W' :=
 hb.trans ⟨h.os,h.tape,h.output,h.size,fun k hk=>by
  have hlt:k<W.heap.size:=by omega
  rw[h.same k _ (IM hlt) (fun e=>by have:=hS k e;omega) (Or.inl (by omega)),IM hlt]⟩
theorem Bes.cells {S:Nat->Prop}{B:Nat}{W W':World} (h:Bes S B W W') {b:Nat}{cs:Array Value}{T:TypeId}{z:Nat×Nat} (hc:W.heap[b]?=some (.cells cs T z)) (hn:¬ S b):W'.heap[b]?=some (.cells cs T z) :=
 h.same b _ hc hn (Or.inr (fun r e=>by cases e))
theorem Cm (W:World) (l:Nat) (o:Obj):(W.putObj l o).heap.size=W.heap.size:=by simp
variable {F : Fence} {n : Nat} {P : Program}
def uX (F:Fence) (n:Nat) (P:Program) (gf:Nat) (bnd lb:Array Value) (E:Nat->World->Array Value->Prop) (len:Nat) (Sb Si:Nat->Prop) (Ok:World->Prop) (w:World):Prop :=
 ∀ (l:Nat) (J:Nat->World->Prop) (W:World),Below w.heap.size w W ->
  (∀ i W1 W2,J i W1->cT Si W1 W2->J i W2)->(∀ i W1,J i W1->Ok W1) ->
  (∀ i (_:i<len) W1 vs,J i W1->E i W1 vs->YieldAt F (n-1) P l vs W1 fun e W'=>e=.returned (.bool true)/\J (i+1) W'/\cT Sb W1 W') ->
  J 0 W->CallsIn F n P gf (bnd++#[.func (.yield l) #[] #[]]++lb) W fun e W'=>(∃ v,e=.returned v)/\J len W'
def zK (S:Nat->Prop) (I:World->Prop) (W:World):Exit->Act->World->Prop
 | .normal,_,W'=>cT S W W'/\I W'
 | _,_,_=>False
theorem mT {g:Operand}{ps:Array Tmp}{assign body:Code}{Q:Exit->Act->World->Prop}{a:Act}{w:World}
  (hro:F.round=none) (h1:1<=n) {gf:Nat} {bnd lb:Array Value} (hg:a.eval g=.func (.func gf) bnd lb) (hFg:F.fn gf) (eg:∀ args w,(callFunc gf args).run P w=.ok (.enter gf args) w)
  {E:Nat->World->Array Value->Prop} {len:Nat} {Sb Si:Nat->Prop} {Ok:World->Prop} (hSb:∀ k,Sb k->k<w.heap.size) (hSi:∀ k,Si k->k<w.heap.size)
  (hseq:uX F (n-1) P gf bnd lb E len Sb Si Ok w) (hps:∀ i W vs,E i W vs->vs.size=ps.size)
  (I:Nat->World->Prop) (hI:∀ i W W',I i W->Bes Si w.heap.size W W'->I i W') (hOk:∀ i W,I i W->Ok W) (h0:I 0 w)
  (I₁:Nat->Act->World->Prop) (hI₁:∀ i a₁ W W',I₁ i a₁ W->Bes (fun _=>False) w.heap.size W W'->I₁ i a₁ W')
  (hassign:∀ (l i:Nat) (_:i<len) (W:World) (vs:Array Value),I i W->E i W vs ->
   assign.wpIn (F.inRound l) (n-1-1) P (Exit.then (fun a₁ W₁=>cT Sb W W₁/\I₁ i a₁ W₁) (fun _ _ _=>False)) { tmps:=(ps.zip vs).foldl (fun t (p,v)=>t.setIfInBounds p v) a.tmps,defers:=[] } W)
  (hbody:∀ (l i:Nat) (_:i<len) (a₁:Act) (W:World),I₁ i a₁ W->body.wpIn (F.inRound l) (n-1-1) P (zK Sb (I (i+1)) W) a₁ W)
  (hdone:∀ (D:Nat) (W:World),w.heap.size<=D->I len W->W.heap[D]?=some (.deferred (some []))->Q .normal { a with defers:={ target:=.collected D,args:=#[] } :: a.defers } W) :
  (Code.rangeFunc g ps assign body).wpIn F n P Q a w:=by
 refine wpIn_rangeFunc ?_;intro fn hfn;rw[hro];obtain⟨rec,hrec⟩:∃ rec:LoopState->Option Code->Loop,rec=fun st pe=>{ state:=st,pending:=pe,fn,tmps:=a.tmps,params:=ps,assign,body,defers:=w.heap.size }:=⟨_,rfl⟩;obtain⟨W1,hW1⟩:∃ W1,(w.alloc (.deferred (some []))).alloc (.loop (rec .ready none))=W1:=⟨_,rfl⟩
 have hL1:W1.heap[w.heap.size+1]?=some (.loop (rec .ready none)):=by
  rw[<-hW1];have:=World.alloc_heap_new (w.alloc (.deferred (some []))) (.loop (rec .ready none));rwa [World.size_alloc] at this
 have hK1:W1.heap[w.heap.size]?=some (.deferred (some [])):=by
  rw[<-hW1];exact (Below.heap_alloc _ _ _ (by simp)).trans (World.alloc_heap_new w _)
 have hI1:I 0 W1:=by rw[<-hW1];exact hI 0 _ _ (hI 0 _ _ h0 (Bes.alloc _ _ _ _)) (Bes.alloc _ _ _ _)
 have hb1:Below w.heap.size w W1:=by
  rw[<-hW1];exact ((Ki _ w).alloc (GM _) _).alloc (by simp) _
 refine⟨w.heap.size+1,[{ target:=.collected w.heap.size,args:=#[] }],W1,{ target:=.fn (.func gf) lb,args:=bnd++#[.func (.yield (w.heap.size+1)) #[] #[]] },W1,gf,
  bnd++#[.func (.yield (w.heap.size+1)) #[] #[]]++lb,W1,?_,?_,?_,?_,fun _=>h1,?_⟩
 ·rw[<-hW1,hrec];exact run_enterLoop_outer _ _ _ _ _
 ·simp only[resolve,hg];simp[go_sem]
 ·intro f' hf';simp[Target.leads] at hf';subst hf';exact hFg
 ·simp[invoke,go_sem,eg]
 ·have nSi:∀ k,w.heap.size<=k->¬ Si k:=fun k hk h=>by have:=hSi k h;omega
  have nSb:∀ k,w.heap.size<=k->¬ Sb k:=fun k hk h=>by have:=hSb k h;omega
  refine (hseq (w.heap.size+1)
   (fun i W=>I i W/\W.heap[w.heap.size+1]?=some (.loop (rec .ready none))/\W.heap[w.heap.size]?=some (.deferred (some [])))
   W1 hb1 ?_ (fun i W h=>hOk i W h.1) ?_ ⟨hI1,hL1,hK1⟩).mono ?_
  ·rintro i W W' ⟨ha,hb,hc⟩ hs;exact⟨hI _ _ _ ha (Bes.of_turns hs),(hs.block _ (GT.1 hb).1 (nSi _ (by omega))).trans hb,(hs.block _ (GT.1 hc).1 (nSi _ (by omega))).trans hc⟩
  ·rintro i hi W vs ⟨hi1,hl,hk⟩ hE;have hlt:w.heap.size+1<W.heap.size:=(GT.1 hl).1;have hy:=run_yield (P:=P) (args:=vs) hl (by rw[hrec];exact hps _ _ _ hE);rw[hrec] at hy;refine⟨fn,_,assign,body,hy,roundIn_of_wpIn hfn ?_⟩;refine wpIn_mono (hassign _ i hi W vs hi1 hE) ?_;rintro e a₁ W₂ hp
   cases e with
   | normal =>
    obtain⟨hk2,hj⟩:=hp;have hl2:=(hk2.block _ hlt (nSb _ (by omega))).trans hl;have hd2:=(hk2.block _ (show w.heap.size<W.heap.size by omega) (nSb _ (GM _))).trans hk;have hlt2:w.heap.size+1<W₂.heap.size:=(GT.1 hl2).1;refine⟨_,run_beginRound hl2 (by rw[hrec]),?_⟩;have hl3:(W₂.putObj (w.heap.size+1) (.loop { rec .ready none with state:=.busy })).heap[w.heap.size+1]?=some (.loop { rec .ready none with state:=.busy }):=World.putObj_heap_same hlt2;have hd3:(W₂.putObj (w.heap.size+1) (.loop { rec .ready none with state:=.busy })).heap[w.heap.size]?=some (.deferred (some [])):=(World.putObj_heap_other (by omega)).trans hd2;have hz3:(W₂.putObj (w.heap.size+1) (.loop { rec .ready none with state:=.busy })).heap.size=W₂.heap.size:=by simp
    refine wpIn_mono (hbody _ i hi a₁ _ (hI₁ i a₁ _ _ hj (Bes.put _ (by omega) hl2))) ?_;rintro e a3 W3 hp
    cases e with
    | normal =>
     obtain⟨hk3,hi3⟩:=hp;have hl4:=(hk3.block _ (by rw[hz3];exact hlt2) (nSb _ (by omega))).trans hl3;have hd4:=(hk3.block _ (show w.heap.size<_ by rw[hz3];omega) (nSb _ (GM _))).trans hd3;have hr:=run_endRound (P:=P) none hl4;have hlt4:w.heap.size+1<W3.heap.size:=(GT.1 hl4).1;have hs34:W₂.heap.size<=W3.heap.size:=by have:=hk3.size;rwa [hz3] at this
     rw[hrec] at hr;rw[hrec] at hl4;refine⟨_,_,hr,rfl,⟨hI _ _ _ hi3 (Bes.put _ (by omega) hl4),?_,(World.putObj_heap_other (by omega)).trans hd4⟩,?_⟩
     ·rw[hrec];exact World.putObj_heap_same hlt4
     ·refine⟨hk3.os.trans hk2.os,hk3.tape.trans hk2.tape,hk3.output.trans hk2.output,?_,fun k hkl hkn=>?_⟩
      ·have:=hk2.size;rw[Cm];omega
      ·by_cases he:k=w.heap.size+1
       ·subst he;rw[hl,hrec];exact World.putObj_heap_same hlt4
       ·rw[World.putObj_heap_other (by omega),hk3.block k (by rw[hz3];have:=hk2.size;omega) hkn,World.putObj_heap_other (by omega)];exact hk2.block k hkl hkn
    | ret=>exact hp.elim
    | exit id=>exact hp.elim
    | goto t=>exact hp.elim
    | panic ch=>exact hp.elim
    | outgrown=>exact hp.elim
   | ret=>exact hp.elim
   | exit id=>exact hp.elim
   | goto t=>exact hp.elim
   | panic ch=>exact hp.elim
   | outgrown=>exact hp.elim
  ·rintro e W2 ⟨⟨v,rfl⟩,hi,hl,hk⟩;exact⟨none,_,by have:=run_endLoop (P:=P) hl (by rw[hrec];simp);rw[hrec] at this;exact this,hdone _ _ (GM _) (hI _ _ _ hi (Bes.put _ (by omega) hl)) ((World.putObj_heap_other (by omega)).trans hk)⟩
structure jN (C:Nat->Value->Prop) (w w':World):Prop where
 size:w.heap.size<=w'.heap.size
 blk:∀ b j u,w.cell? ⟨b,j,none⟩=some u->C j u->w'.heap[b]?=w.heap[b]?
def sG (S:Nat->Prop) (C:Nat->Value->Prop) (w:World):Prop:=∀ k,S k->∀ j u,w.cell? ⟨k,j,none⟩=some u->¬ C j u
theorem jN.of_turns {S:Nat->Prop}{C:Nat->Value->Prop}{w w':World} (h:cT S w w') (hs:sG S C w):jN C w w' :=
 ⟨h.size,fun b j u hc hC=>h.block b (block_lt_of_cell hc) (fun hS=>hs b hS j u hc hC)⟩
theorem jN.of_bes {S:Nat->Prop}{C:Nat->Value->Prop}{B:Nat}{w w':World} (h:Bes S B w w') (hs:sG S C w):jN C w w' :=
 ⟨h.size,fun b j u hc hC=>by
  obtain⟨o,ho⟩:∃ o,w.heap[b]?=some o:=⟨_,IM (block_lt_of_cell hc)⟩
  have hl:∀ r,o≠Obj.loop r:=by
   intro r e;subst e;unfold World.cell? at hc;simp only[ho] at hc
   cases hc
  rw[h.same _ _ ho (fun hS=>hs b hS j u hc hC) (Or.inr hl),ho]⟩
theorem jN.cell {C:Nat->Value->Prop}{w w':World} (h:jN C w w') {b j:Nat}{u:Value} (hc:w.cell? ⟨b,j,none⟩=some u) (hC:C j u):w'.cell? ⟨b,j,none⟩=some u :=
 (World.cell?_of_block (w:=w) (w':=w') (a:=⟨b,j,none⟩) (h.blk b j u hc hC)).trans hc
def Do (_:Nat) (u:Value):Prop:=∃ s,u=.string s
def An (j:Nat) (u:Value):Prop:=0<j\/∃ z,u=.int .u64 z
theorem IsS.keep {w w':World}{v:Value}{l:List ByteArray} (h:IsS w v l) (hk:jN Do w w'):IsS w' v l:=by
 obtain⟨p,cap,e,h1,h2,h3⟩:=h;refine⟨p,cap,e,h1,h2,fun hl=>?_⟩;obtain⟨b,o,e2,hlt,hc⟩:=h3 hl;refine⟨b,o,e2,GN hlt hk.size,fun i hi j u hu=>hk.cell (hc i hi j u hu) ?_⟩;have hm:=I5 hu;rw[Ie] at hm;simp only[cellsOf,Io] at hm;exact⟨_,hm⟩
theorem IsU.keep {w w':World}{v:Value}{l:List Nat} (h:IsU w v l) (hk:jN An w w'):IsU w' v l:=by
 obtain⟨p,cap,e,h1,h2,h3⟩:=h;refine⟨p,cap,e,h1,h2,fun hl=>?_⟩;obtain⟨b,o,e2,hlt,hc⟩:=h3 hl;exact⟨b,o,e2,GN hlt hk.size,fun j hj=>hk.cell (hc j hj) (Or.inr ⟨_,rfl⟩)⟩
theorem IsP.keep {w w':World}{v:Value}{zs:List CQ} (h:IsP w v zs) (hk:jN An w w'):IsP w' v zs:=by
 obtain⟨es,h1,⟨p,cap,e,h2,h3,h4⟩,h5⟩:=h;have h6:=lm h1 h5;refine⟨es,h1,⟨p,cap,e,h2,h3,fun hl=>?_⟩,fun i hi hi'=>(h5 i hi hi').keepU fun _ _ hu=>hu.keep hk⟩;obtain⟨b,o,e2,hlt,hc⟩:=h4 hl;refine⟨b,o,e2,GN hlt hk.size,fun i hi j u hu=>?_⟩;have hl1:1<(cellsOf es[i]).length:=by rw[h6 _ (G7 hi)];omega
 obtain⟨u1,hu1⟩:∃ u1,(cellsOf es[i])[1]?=some u1:=⟨_,G4 hl1⟩;exact (World.cell?_of_block (w:=w) (w':=w') (a:=⟨b,o+i*6+j,none⟩) (hk.blk b (o+i*6+1) u1 (hc i hi 1 u1 hu1) (Or.inl (Nat.succ_pos _)))).trans (hc i hi j u hu)
def NoX (C:Value->Prop) (w:World) (v:Value):Prop:=∀ g,v.ownBlock=some g->∀ j u,w.cell? ⟨g,j,none⟩=some u->¬ C u
theorem yD {C:Value->Prop}{zs:Array Value}{n:Nat} (h:∀ u∈zs,¬ C u):∀ u∈Builtin.zeroCells zs n,¬ C u:=by
 intro u hu;unfold Builtin.zeroCells at hu;obtain⟨i,hi,rfl⟩:=Array.mem_map.1 hu;have hi2:i<n*zs.size:=by simpa using hi
 have hp:0<zs.size:=by
  rcases Ii zs.size with h0 | h0
  ·rw[h0] at hi2;simp at hi2
  ·exact h0
 have hm:=Il i hp;rw[getElem!_pos zs (i % zs.size) hm];exact h _ (J2 hm)
theorem qC {C:Value->Prop}{w:World}{cs:Array Value}{e:TypeId}{n c:Nat} (h:∀ u∈cs,¬ C u):NoX C (w.alloc (.cells cs e)) (.slice (some ⟨w.heap.size,0,none⟩) n c):=by
 intro g hg j u hc;simp only[Value.ownBlock,Option.some.injEq] at hg;subst hg;rw[World.cell?,heap_alloc_new] at hc;simp only[Hz,G8,if_false] at hc;exact h _ (Ib hc)
theorem NoX.below {C:Value->Prop}{w w':World}{v:Value}{base:Nat}{T:TypeId}{k n:Nat}{xs:List Value} (h:NoX C w v) (ho:w.ownsRow base T k v n xs) (hb:Below w.heap.size w w'):NoX C w' v:=by
 intro g hg j u hc;rw[hb.cell (p:=⟨g,j,none⟩) (ho.lt g hg).2] at hc;exact h g hg j u hc
section
variable {P : Program} (w : World)
theorem jA (C:Value->Prop) (base:Nat) (t ty e:TypeId) (i:TypeInfo) (z:Value) (size bytes:Nat) (ht:P.underlying t=some (.slice e)) (hi:P.info? e=some i) (hz:i.zero=some z)
  (hsize:i.size=size) (hby:i.bytes=bytes) (hzs:z.cells.size=size) (hsz:0<size) (hzn:∀ u∈z.cells,¬ C u)
  (v:Value) (n:Nat) (xs:List Value) (hown:w.ownsRow base e size v n xs) (hnu:NoX C w v)
  (a:Addr) (m c:Nat) (news:List Value) (hm0:0<m) (hl:news.length=m*size) (hnews:∀ j u,news[j]?=some u->w.cell? (a.add j)=some u) (h1:∀ u∈news,u.oneCell'=true) (hn1:∀ u∈news,¬ C u)
  (h63:n+m<=maxLen) (hbytes:(n+m)*bytes<=140737488355328) (hbase:base<=w.heap.size) :
  ∃ v' w',(Builtin.append_ #[t,t] ty #[v,.slice (some a) m c]).run P w=.ok v' w'/\w'.ownsRow base e size v' (n+m) (xs++news)/\w.grownBy w' v.ownBlock/\NoX C w' v':=by
 obtain⟨v',w',hr,h2,h3,-⟩:=run_append_own (P:=P) w base t ty e i z size bytes ht hi hz hsize hby hzs hsz v n xs hown a m c news hl hnews h1 h63 hbytes hbase;refine⟨v',w',hr,h2,h3,?_⟩;have hsmall:n+m<=9223372036854775807:=by simp only[maxLen] at h63;omega
 subst hsize;subst hby;rcases hown.2 with ⟨rfl,rfl⟩ | ⟨g,cap,cur,rfl,hbg,hg,hnc,hcm,hcs,htake⟩
 ·have hr':=run_append_nil (P:=P) w t ty e i z ht hi hz a m c news hl hnews hm0 (by omega) (by rw[Hp] at hbytes;omega);rw[hr'] at hr
  cases hr
  exact qC (w:=w.drew) fun u hu=>by
   rcases I6.1 hu with h | h
   ·exact hn1 u (by simpa using h)
   ·exact yD hzn u h
 ·by_cases hroom:n+m<=cap
  ·have hfit:n*i.size+news.length<=cur.size:=by rw[hl,hcs,<-Hv];exact GX _ hroom
   have hr':=run_append_room (P:=P) w t ty e i ht hi g n cap cur hg a m c news hl hnews h1 hroom hfit;rw[hr'] at hr
   cases hr
   intro g' hg' j y hc;simp only[Value.ownBlock,Option.some.injEq] at hg';subst hg';rw[World.cell?,setRow_heap w g cur _ e _ hg] at hc;simp only[Hz,G8,if_false] at hc;have hm:=Ib hc
   have old:∀ u∈cur.toList,¬ C u:=fun u hu=>by
    obtain⟨k,hk,he⟩:=Ht hu;refine hnu g rfl k u ?_;rw[World.cell?,hg];simp only[Hz,G8,if_false];rw[IM (by simpa using hk),<-he];simp
   simp only[List.mem_toArray,Ik] at hm;rcases hm with (h | h) | h
   ·exact old _ (IP h)
   ·exact hn1 _ h
   ·exact old _ (Ia h)
  ·have holds:∀ j u,xs[j]?=some u->w.cell? ((⟨g,0,none⟩:Addr).add j)=some u:=hown.cells (g:=g) rfl;have hr':=run_append_grow (P:=P) w t ty e i z ht hi hz ⟨g,0,none⟩ n cap xs hown.1 holds a m c news hl hnews (by omega) (by omega) (growslice_fits (by omega) hbytes);rw[hr'] at hr
   cases hr
   exact qC (w:=w.drew) fun u hu=>by
    rcases I6.1 hu with h | h
    ·rcases I6.1 h with h | h
     ·obtain⟨k,hk,he⟩:=Ht (show u∈xs by simpa using h);have:=holds k u (by rw[G4 hk,he]);have ha:(⟨g,0,none⟩:Addr).add k=⟨g,k,none⟩:=by unfold Addr.add;split<;>simp_all
      rw[ha] at this;exact hnu g rfl k u this
     ·exact hn1 u (by simpa using h)
    ·exact yD hzn u h
omit w in
theorem lp {t t' ty e e':TypeId} (ht:P.underlying t=some (.slice e)) (ht':P.underlying t'=some (.slice e')) (a b:Option Addr) (n c m d:Nat) (w:World):(Builtin.append_ #[t,t'] ty #[.slice a n c,.slice b m d]).run P w=(Builtin.append_ #[t,t] ty #[.slice a n c,.slice b m d]).run P w:=by
 unfold Builtin.append_;simp[run_underlying ht,run_underlying ht']
theorem jJ {ops:Array Oper}{rest:List Oper}{o:Oper}{a:Act}{Q:Exit->Act->World->Prop} (C:Value->Prop) (hgd:o.guard=none) (s x:Operand) (t t':TypeId)
  (ho:o.op=.call { callee:=.builtin .append,args:=#[s,x],argTypes:=#[t,t'] })
  (base:Nat) (e:TypeId) (i:TypeInfo) (z:Value) (size bytes:Nat) (ht:P.underlying t=some (.slice e)) (ht':P.underlying t'=some (.slice e)) (hi:P.info? e=some i) (hz:i.zero=some z)
  (hsize:i.size=size) (hby:i.bytes=bytes) (hzs:z.cells.size=size) (hsz:0<size) (hzn:∀ u∈z.cells,¬ C u)
  (v:Value) (n:Nat) (xs:List Value) (hs:a.eval s=v) (hown:w.ownsRow base e size v n xs) (hnu:NoX C w v)
  (ad:Addr) (m c:Nat) (news:List Value) (hm0:0<m) (hx:a.eval x=.slice (some ad) m c) (hl:news.length=m*size) (hnews:∀ j u,news[j]?=some u->w.cell? (ad.add j)=some u) (h1:∀ u∈news,u.oneCell'=true) (hn1:∀ u∈news,¬ C u)
  (h63:n+m<=maxLen) (hbytes:(n+m)*bytes<=140737488355328) (hbase:base<=w.heap.size)
  (h:∀ v' w',w'.ownsRow base e size v' (n+m) (xs++news)->w.grownBy w' v.ownBlock->NoX C w' v'->wpList P ops Q rest (a.put o.dst v') w'):wpList P ops Q (o :: rest) a w:=by
 refine wpList_plain hgd fun K hK=>?_;obtain⟨v',w',hr,h2,h3,h4⟩:=jA (P:=P) w C base t o.type e i z size bytes ht hi hz hsize hby hzs hsz hzn v n xs hown hnu ad m c news hm0 hl hnews h1 hn1 h63 hbytes hbase;unfold Oper.wp execOp
 obtain⟨pv,nv,cv,rfl⟩:∃ p n c,v=.slice p n c:=by
  rcases hown.2 with ⟨rfl,-⟩ | ⟨g,cap,cur,rfl,-⟩<;>exact⟨_,_,_,rfl⟩
 rw[<-lp ht ht'] at hr;simp only[ho,resolve,invoke,builtin,Sem.run_bind,Sem.run_pure,Result.andThen_ok,Jm,Ja,JL,hs,hx,hr];exact hK _ _ (h v' w' h2 h3 h4)
end
def As (u:Value):Prop:=∃ s,u=.string s
theorem IsS.grownX {w w':World}{u v:Value}{l:List ByteArray} (h:IsS w u l) (hnx:NoX As w v) (hg:w.grownBy w' v.ownBlock):IsS w' u l:=by
 obtain⟨p,cap,e,h1,h2,h3⟩:=h;refine⟨p,cap,e,h1,h2,fun hl=>?_⟩;obtain⟨b,o,e2,hlt,hc⟩:=h3 hl;refine⟨b,o,e2,GN hlt hg.size,fun i hi j u hu=>?_⟩;have hm:=I5 hu;rw[Ie] at hm;simp only[cellsOf,Io] at hm;have hcc:=hc i hi j u hu;exact hg.cell hcc (fun e3=>hnx b e3.symm _ _ hcc ⟨_,hm⟩)
theorem Gp:(Tryz.prog.info? 29).map (fun i=>(i.zero,i.size,i.bytes))=some (some (.slice none 0 0),1,24):=by kernel_rfl
def q_ (w:World) (v:Value) (ls:List (List ByteArray)):Prop:=∃ us:List Value,us.length=ls.length/\fB w 1 v us/\∀ i (h:i<us.length) (h':i<ls.length),IsS w us[i] ls[i]
structure iC (w:World) (base:Nat) (v:Value) (ls:List (List ByteArray)):Prop where
 p:∃ us:List Value,us.length=ls.length/\w.ownsRow base 29 1 v us.length us/\∀ i (h:i<us.length) (h':i<ls.length),IsS w us[i] ls[i]
 nx:NoX As w v
theorem rA {w:World}{us:List Value}{ls:List (List ByteArray)} (hl:us.length=ls.length) (h:∀ i (h:i<us.length) (h':i<ls.length),IsS w us[i] ls[i]):∀ e∈us,cellsOf e=[e]:=by
 intro e he;obtain⟨i,hi,rfl⟩:=Ht he;obtain⟨p,c,hv,-⟩:=(h i hi (by omega)).form;rw[hv];rfl
theorem xv:∀ {us:List Value},(∀ e∈us,cellsOf e=[e])->dy us=us
 | [],_=>rfl
 | e :: us,h=>by
  have h1:=h e (by simp);have h2:=xv (us:=us) fun x hx=>h x (by simp[hx]);simp only[dy,Jf] at h2 |-;rw[h1,h2];rfl
theorem iC.isPS {w:World}{base:Nat}{v:Value}{ls:List (List ByteArray)} (h:iC w base v ls):q_ w v ls:=by
 obtain⟨us,h1,h2,h3⟩:=h.p;have hc:=rA h1 h3;refine⟨us,h1,eY (fun e he=>by rw[hc e he];rfl) (by rw[xv hc];exact h2),h3⟩
theorem iC.below {w w':World}{base:Nat}{v:Value}{ls:List (List ByteArray)} (h:iC w base v ls) (hb:Below w.heap.size w w'):iC w' base v ls:=by
 obtain⟨us,h1,h2,h3⟩:=h.p;exact⟨⟨us,h1,fG h2 hb,fun i hi hi'=>(h3 i hi hi').below hb⟩,h.nx.below h2 hb⟩
theorem q_.below {w w':World}{v:Value}{ls:List (List ByteArray)} (h:q_ w v ls) (hb:Below w.heap.size w w'):q_ w' v ls:=by
 obtain⟨us,h1,h2,h3⟩:=h;exact⟨us,h1,h2.below hb,fun i hi hi'=>(h3 i hi hi').below hb⟩
theorem iC.nil (w:World) (base:Nat):iC w base (.slice none 0 0) []:=⟨⟨[],rfl,World.ownsRow_nil _ _ _ _,fun i h=>by simp at h⟩,fun g hg=>by cases hg⟩
theorem q_.form {w:World}{v:Value}{ls:List (List ByteArray)} (h:q_ w v ls):∃ p c,v=.slice p ls.length c/\ls.length<=c/\c<=maxLen:=by
 obtain⟨us,h1,⟨p,c,e,h2,h3,-⟩,-⟩:=h;rw[h1] at e h2;exact⟨p,c,e,h2,h3⟩
theorem q_.get {w:World}{p:Option Addr}{n c:Nat}{ls:List (List ByteArray)} (h:q_ w (.slice p n c) ls) {i:Nat} (hi:i<ls.length) :
  ∃ b o u,p=some ⟨b,o,none⟩/\b<w.heap.size/\w.cell? ⟨b,o+i,none⟩=some u/\IsS w u ls[i]:=by
 obtain⟨us,h1,⟨p',cap,e,h2,h3,h4⟩,h5⟩:=h;obtain⟨rfl,-,-⟩:p=p'/\n=us.length/\c=cap:=by simpa using e
 obtain⟨b,o,e2,hlt,hc⟩:=h4 (by omega);have hk:=h5 i (by omega) hi;obtain⟨pp,cc,hv,-⟩:=id hk.form;have:=hc i (by omega) 0 us[i] (by rw[hv];rfl);exact⟨b,o,us[i],e2,hlt,by simpa using this,hk⟩
theorem je {w:World}{ops:Array Oper}{rest:List Oper}{o:Oper}{act:Act}{Q:Exit->Act->World->Prop} (T:TypeId)
  (hT:Tryz.prog.underlying T=some (.slice 29)) (hgd:o.guard=none) (s x:Operand)
  (ho:o.op=.call { callee:=.builtin .append,args:=#[s,x],argTypes:=#[T,T] })
  (base:Nat) (v:Value) (ls ms:List (List ByteArray)) (us:List Value) (b off m c:Nat) (hs:act.eval s=v) (hown:iC w base v ls)
  (hx:act.eval x=.slice (some ⟨b,off,none⟩) m c) (hm:m=us.length) (hm0:0<us.length) (hml:us.length=ms.length) (hcs:∀ i (h:i<us.length),w.cell? ⟨b,off+i,none⟩=some us[i]) (hms:∀ i (h:i<us.length) (h':i<ms.length),IsS w us[i] ms[i])
  (hlen:ls.length+ms.length<1000000000) (hbase:base<=w.heap.size)
  (h:∀ v' w',iC w' base v' (ls++ms)->(∀ B w0,Below B w0 w->B<=base->Below B w0 w')->(∀ u l,IsS w u l->IsS w' u l)->w.grownBy w' v.ownBlock->wpList Tryz.prog ops Q rest (act.put o.dst v') w') :
  wpList Tryz.prog ops Q (o :: rest) act w:=by
 subst hm;obtain⟨vs,h1,h2,h3⟩:=hown.p;obtain⟨i0,hi,hz0,hz1,hz2⟩:=info_parts Gp
 have hsl:∀ u∈us,∃ p n c,u=.slice p n c:=fun u hu=>by
  obtain⟨i,hi,rfl⟩:=Ht hu;obtain⟨p,c,hv,-⟩:=(hms i hi (by omega)).form;exact⟨_,_,_,hv⟩
 refine jJ _ As hgd s x T T ho base 29 i0 _ 1 24 hT hT hi hz0 hz1 hz2 rfl (by decide) ?_ v vs.length vs hs h2 hown.nx ⟨b,off,none⟩ us.length c us hm0 hx (by omega) ?_ ?_ ?_ (by unfold maxLen;omega) (by omega) hbase ?_
 ·rintro u hu ⟨s',rfl⟩;simp[Value.cells] at hu
 ·intro j u hj;have hjl:=(Ig.1 hj).1
  have ha:(⟨b,off,none⟩:Addr).add j=⟨b,off+j,none⟩:=by
   unfold Addr.add
   split
   ·rename_i h0;subst h0;rfl
   ·rfl
  rw[ha,hcs j hjl,<-hj,G4 hjl]
 ·intro u hu;obtain⟨p,n,c,rfl⟩:=hsl u hu;rfl
 ·rintro u hu ⟨s',rfl⟩;obtain⟨p,n,c,e⟩:=hsl _ hu
  cases e
 ·intro v' w' g1 g2 g3;have hkeep:∀ u l,IsS w u l->IsS w' u l:=fun u l hu=>hu.grownX hown.nx g2;refine h v' w' ⟨⟨vs++us,by simp[h1,hml],?_,?_⟩,g3⟩ ?_ hkeep g2
  ·rw[GW];exact g1
  ·intro i hi' hi2;by_cases hlt:i<vs.length
   ·rw[Hi hlt,Hi (by omega)];exact hkeep _ _ (h3 i hlt (by omega))
   ·rw[Hg (by omega),Hg (by omega)];have hi3:i-vs.length<us.length:=by simp at hi';omega
    have:=hkeep _ _ (hms (i-vs.length) hi3 (by omega));simpa[h1] using this
  ·intro B w0 hB hBb;refine hB.grown g2 (by omega) ?_;intro k hk';have:=(h2.lt k hk').1;omega
theorem DV {w:World}{k b o:Nat}{es:List Value} (hk0:0<k) (hk:∀ e∈es,(cellsOf e).length=k) (h:∀ i (h:i<es.length) j u,(cellsOf es[i])[j]?=some u->w.cell? ⟨b,o+i*k+j,none⟩=some u) :
  ∀ j u,(dy es)[j]?=some u->w.cell? ((⟨b,o,none⟩:Addr).add j)=some u:=by
 intro j u hj;have hjl:=(Ig.1 hj).1;rw[nX hk] at hjl;have hi:j / k<es.length:=Nat.div_lt_of_lt_mul (by rw[G5];exact hjl);have hr:j % k<k:=Il _ hk0;have he:j=j / k*k+j % k:=by rw[G5];exact (H7 j k).symm
 have hg:=nW hk hi hr;rw[<-he,hj] at hg;have:=h _ hi _ u hg.symm
 have ha:(⟨b,o,none⟩:Addr).add j=⟨b,o+j,none⟩:=by
  unfold Addr.add
  split
  ·rename_i h0;rw[h0];rfl
  ·rfl
 rw[ha,he,<-IH];exact this
theorem qD {w:World}{es:List Value}{zs:List CQ} (hl:es.length=zs.length) (h:∀ i (h:i<es.length) (h':i<zs.length),IsK w es[i] zs[i]):∀ u∈dy es,u.oneCell'=true/\ra u:=by
 intro u hu;obtain⟨e,he,hue⟩:=List.mem_flatMap.1 hu;obtain⟨i,hi,rfl⟩:=Ht he;obtain⟨xm,xp,xl,xc,xq,xk,xd,ym,yp,yl,yc,yq,yk,yd,hv⟩:=(h i hi (by omega)).forms;rw[hv] at hue;simp only[cellsOf,Ir,Jn,or_false] at hue;rcases hue with rfl | rfl | rfl | rfl | rfl | rfl<;>exact⟨rfl,fun z e=>by cases e⟩
def F9 (u:Value):Prop:=∃ z,u=.int .u64 z
theorem jf {w:World}{ops:Array Oper}{rest:List Oper}{o:Oper}{act:Act}{Q:Exit->Act->World->Prop} (T T':TypeId)
  (hT:Tryz.prog.underlying T=some (.slice 110)) (hT':Tryz.prog.underlying T'=some (.slice 110)) (hgd:o.guard=none) (s x:Operand)
  (ho:o.op=.call { callee:=.builtin .append,args:=#[s,x],argTypes:=#[T,T'] })
  (base:Nat) (v vx:Value) (zs ms:List CQ) (hs:act.eval s=v) (hown:dV w base v zs) (hx:act.eval x=vx) (hm:IsP w vx ms) (hnn:ms=[]->vx=.slice none 0 0)
  (hlen:zs.length+ms.length<1000000000) (hbase:base<=w.heap.size)
  (h:∀ v' w',dV w' base v' (zs++ms)->(∀ B w0,Below B w0 w->B<=base->Below B w0 w')->(∀ u l,IsU w u l->IsU w' u l)->w.grownBy w' v.ownBlock->wpList Tryz.prog ops Q rest (act.put o.dst v') w') :
  wpList Tryz.prog ops Q (o :: rest) act w:=by
 obtain⟨es,h1,h2,h3⟩:=hown.p;obtain⟨i0,hi,hz0,hz1,hz2⟩:=info_parts Bv;by_cases hme:ms=[]
 ·subst hme;refine wpList_plain hgd fun K hK=>?_;have hr:=run_append_owned_none (P:=Tryz.prog) (w:=w) base T o.type 110 i0 6 hT hi v es.length (dy es) h2
  obtain⟨pv,nv,cv,rfl⟩:∃ p n c,v=.slice p n c:=by
   rcases h2.2 with ⟨rfl,-⟩ | ⟨g,cap,cur,rfl,-⟩<;>exact⟨_,_,_,rfl⟩
  rw[<-lp hT hT'] at hr;unfold Oper.wp execOp;simp only[ho,resolve,invoke,builtin,Sem.run_bind,Sem.run_pure,Result.andThen_ok,Jm,Ja,JL,hs,hx,hnn rfl,hr];exact hK _ _ <| h _ w (by rw[Ic];exact hown) (fun B w0 hb _=>hb) (fun _ _ h=>h) ⟨rfl,rfl,rfl,GM _,fun _ _ _=>rfl⟩
 ·obtain⟨fs,f1,⟨p,c,e,f2,f3,f4⟩,f5⟩:=id hm;have hpos:0<fs.length:=by rw[f1];exact Hc.2 hme
  obtain⟨b,off,rfl,hlt,hc⟩:=f4 hpos;have h6:=lm f1 f5;refine jJ _ F9 hgd s x T T' ho base 110 i0 _ 6 112 hT hT' hi hz0 hz1 hz2 rfl (by decide) ?_ v es.length (dy es) hs h2 (fun g hg j u hc ⟨z,e⟩=>hown.nu g hg j z (by rw[<-e];exact hc)) ⟨b,off,none⟩ fs.length c (dy fs) hpos (by rw[hx,e]) (nX h6) (DV (by decide) h6 hc) (fun u hu=>(qD f1 f5 u hu).1) (fun u hu ⟨z,e⟩=>(qD f1 f5 u hu).2 z e) (by unfold maxLen;omega) (by omega) hbase ?_
  ·rintro u hu ⟨z,rfl⟩;simp[Value.cells] at hu
  ·intro v' w' g1 g2 g3;have hkeep:∀ u l,IsU w u l->IsU w' u l:=fun u l hu=>hu.grown hown.nu g2;refine h v' w' ⟨⟨es++fs,by simp[h1,f1],?_,?_⟩,fun g hg j z hc=>g3 g hg j _ hc ⟨z,rfl⟩⟩ ?_ hkeep g2
   ·rw[GW];simpa[dy] using g1
   ·intro i hi' hi2;by_cases hl:i<es.length
    ·rw[Hi hl,Hi (by omega)];exact (h3 i hl (by omega)).keepU hkeep
    ·rw[Hg (by omega),Hg (by omega)];have hi3:i-es.length<fs.length:=by simp at hi';omega
     have:=(f5 (i-es.length) hi3 (by omega)).keepU hkeep;simpa[h1] using this
   ·intro B w0 hB hBb;refine hB.grown g2 (by omega) ?_;intro k hk';have:=(h2.lt k hk').1;omega
theorem vV (w:World) (base:Nat) (hb:base<=w.heap.size):dV (w.alloc (.cells #[] 110)) base (.slice (some ⟨w.heap.size,0,none⟩) 0 0) [] :=
 ⟨⟨[],rfl,⟨rfl,Or.inr ⟨w.heap.size,0,#[],rfl,hb,heap_alloc_new w _,GM _,by simp[maxLen],rfl,rfl⟩⟩,fun i h=>by simp at h⟩,fun g hg j z hc=>by
  simp only[Value.ownBlock,Option.some.injEq] at hg;subst hg;rw[World.cell?,heap_alloc_new] at hc
  simp at hc⟩
end Go.Proofs.YtmakbmhlemhgeaaGreatDoor
