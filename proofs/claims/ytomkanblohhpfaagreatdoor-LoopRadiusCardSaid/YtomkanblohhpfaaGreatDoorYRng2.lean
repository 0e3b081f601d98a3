/- Lemmas of this claim. -/
import Derived.RangeFuncWrites
import Derived.Test.YtomkanblohhpfaaGreatDoorYMach
import Derived.Test.YtomkanblohhpfaaGreatDoorYVec2
set_option linter.all false
set_option maxRecDepth 100000
set_option maxHeartbeats 8000000
namespace Go.Proofs.YtomkanblohhpfaaGreatDoor
open Go.RowKit Dg
structure aZ (S:Nat→Prop) (w w':World):Prop where
 os:w'.os=w.os
 tape:w'.tape=w.tape
 output:w'.output=w.output
 size:w.heap.size≤w'.heap.size
 block:∀ k,k<w.heap.size→¬ S k→w'.heap[k]?=w.heap[k]?
theorem aZ.refl (S:Nat→Prop) (w:World):aZ S w w:=⟨rfl,rfl,rfl,vS _,fun _ _ _=>rfl⟩
theorem aZ.trans {S:Nat→Prop}{a b c:World} (h:aZ S a b) (k:aZ S b c):aZ S a c :=
 ⟨k.os.trans h.os,k.tape.trans h.tape,k.output.trans h.output,wW h.size k.size,fun i hi hn=>(k.block i (vV hi h.size) hn).trans (h.block i hi hn)⟩
theorem aZ.of_below {S:Nat→Prop}{w w':World} (h:Below w.heap.size w w'):aZ S w w':=⟨h.os,h.tape,h.output,h.size,fun k hk _=>h.block k hk⟩
theorem aZ.set {S:Nat→Prop}{w:World}{g:Nat} (hg:S g) (j:Nat) (u:Value):aZ S w (w.setCell ⟨g,j,none⟩ u) :=
 ⟨rfl,rfl,rfl,by simp[World.setCell],fun k _ hn=>Below.heap_setCell w ⟨g,j,none⟩ u k (fun e=>hn (by rw[e];exact hg))⟩
structure Bes (S:Nat→Prop) (B:Nat) (W W':World):Prop where
 os:W'.os=W.os
 tape:W'.tape=W.tape
 output:W'.output=W.output
 size:W.heap.size≤W'.heap.size
 same:∀ k o,W.heap[k]?=some o→¬ S k→(k<B∨∀ r,o≠Obj.loop r)→W'.heap[k]?=some o
theorem Bes.of_turns {S:Nat→Prop}{B:Nat}{W W':World} (h:aZ S W W'):Bes S B W W' :=
 ⟨h.os,h.tape,h.output,h.size,fun k _ hk hn _=>(h.block k (vW.1 hk).1 hn).trans hk⟩
theorem Bes.alloc (S:Nat→Prop) (B:Nat) (W:World) (o:Obj):Bes S B W (W.alloc o):=Bes.of_turns (aZ.of_below ((Below.refl _ _).alloc (vS _) o))
theorem Bes.put (S:Nat→Prop) {B l:Nat}{W:World}{o:Loop}{o':Obj} (hB:B≤l) (hl:W.heap[l]?=some (.loop o)):Bes S B W (W.putObj l o') :=
 ⟨rfl,rfl,rfl,by simp,fun k o2 hk _ hor=>by
  rw[World.putObj_heap_other (fun e=>by subst e;rw[hl] at hk;cases hk;rcases hor with h | h;omega;exact h _ rfl)];exact hk⟩
theorem Bes.below {S:Nat→Prop}{B B0:Nat}{w0 W W':World} (h:Bes S B W W') (hb:Below B0 w0 W) (h0:B0≤B) (hz:B0≤W.heap.size) (hS:∀ k,S k→B0≤k):Below B0 w0 W' :=
 hb.trans ⟨h.os,h.tape,h.output,h.size,fun k hk=>by
  have hlt:k<W.heap.size:=by omega
  rw[h.same k _ (xy hlt) (fun e=>by have:=hS k e;omega) (Or.inl (by omega)),xy hlt]⟩
theorem Bes.cells {S:Nat→Prop}{B:Nat}{W W':World} (h:Bes S B W W') {b:Nat}{cs:Array Value}{T:TypeId}{z:Nat×Nat} (hc:W.heap[b]?=some (.cells cs T z)) (hn:¬ S b):W'.heap[b]?=some (.cells cs T z) :=
 h.same b _ hc hn (Or.inr (fun r e=>by cases e))
theorem sf (W:World) (l:Nat) (o:Obj):(W.putObj l o).heap.size=W.heap.size:=by simp
variable {F : Fence} {n : Nat} {P : Program}
def mY (F:Fence) (n:Nat) (P:Program) (gf:Nat) (bnd lb:Array Value) (E:Nat→World→Array Value→Prop) (len:Nat) (Sb Si:Nat→Prop) (Ok:World→Prop) (w:World):Prop :=
 ∀ (l:Nat) (J:Nat→World→Prop) (W:World),Below w.heap.size w W →
  (∀ i W1 W2,J i W1→aZ Si W1 W2→J i W2)→(∀ i W1,J i W1→Ok W1) →
  (∀ i (_:i<len) W1 vs,J i W1→E i W1 vs→YieldAt F (n-1) P l vs W1 fun e W'=>e=.returned (.bool true)∧J (i+1) W'∧aZ Sb W1 W') →
  J 0 W→CallsIn F n P gf (bnd++#[.func (.yield l) #[] #[]]++lb) W fun e W'=>(∃ v,e=.returned v)∧J len W'
def pZ (S:Nat→Prop) (I:World→Prop) (W:World):Exit→Act→World→Prop
 | .normal,_,W'=>aZ S W W'∧I W'
 | _,_,_=>False
theorem iS {g:Operand}{ps:Array Tmp}{assign body:Code}{Q:Exit→Act→World→Prop}{a:Act}{w:World}
  (hro:F.round=none) (h1:1≤n) {gf:Nat} {bnd lb:Array Value} (hg:a.eval g=.func (.func gf) bnd lb) (hFg:F.fn gf) (eg:∀ args w,(callFunc gf args).run P w=.ok (.enter gf args) w)
  {E:Nat→World→Array Value→Prop} {len:Nat} {Sb Si:Nat→Prop} {Ok:World→Prop} (hSb:∀ k,Sb k→k<w.heap.size) (hSi:∀ k,Si k→k<w.heap.size)
  (hseq:mY F (n-1) P gf bnd lb E len Sb Si Ok w) (hps:∀ i W vs,E i W vs→vs.size=ps.size)
  (I:Nat→World→Prop) (hI:∀ i W W',I i W→Bes Si w.heap.size W W'→I i W') (hOk:∀ i W,I i W→Ok W) (h0:I 0 w)
  (I₁:Nat→Act→World→Prop) (hI₁:∀ i a₁ W W',I₁ i a₁ W→Bes (fun _=>False) w.heap.size W W'→I₁ i a₁ W')
  (hassign:∀ (l i:Nat) (_:i<len) (W:World) (vs:Array Value),I i W→E i W vs →
   assign.wpIn (F.inRound l) (n-1-1) P (Exit.then (fun a₁ W₁=>aZ Sb W W₁∧I₁ i a₁ W₁) (fun _ _ _=>False)) { tmps:=(ps.zip vs).foldl (fun t (p,v)=>t.setIfInBounds p v) a.tmps,defers:=[] } W)
  (hbody:∀ (l i:Nat) (_:i<len) (a₁:Act) (W:World),I₁ i a₁ W→body.wpIn (F.inRound l) (n-1-1) P (pZ Sb (I (i+1)) W) a₁ W)
  (hdone:∀ (D:Nat) (W:World),w.heap.size≤D→I len W→W.heap[D]?=some (.deferred (some []))→Q .normal { a with defers:={ target:=.collected D,args:=#[] } :: a.defers } W) :
  (Code.rangeFunc g ps assign body).wpIn F n P Q a w:=by
 refine wpIn_rangeFunc ?_
 intro fn hfn
 rw[hro]
 obtain⟨rec,hrec⟩:∃ rec:LoopState→Option Code→Loop,rec=fun st pe=>{ state:=st,pending:=pe,fn,tmps:=a.tmps,params:=ps,assign,body,defers:=w.heap.size }:=⟨_,rfl⟩
 obtain⟨W1,hW1⟩:∃ W1,(w.alloc (.deferred (some []))).alloc (.loop (rec .ready none))=W1:=⟨_,rfl⟩
 have hL1:W1.heap[w.heap.size+1]?=some (.loop (rec .ready none)):=by
  rw[←hW1];have:=World.alloc_heap_new (w.alloc (.deferred (some []))) (.loop (rec .ready none));rwa [World.size_alloc] at this
 have hK1:W1.heap[w.heap.size]?=some (.deferred (some [])):=by
  rw[←hW1];exact (Below.heap_alloc _ _ _ (by simp)).trans (World.alloc_heap_new w _)
 have hI1:I 0 W1:=by rw[←hW1];exact hI 0 _ _ (hI 0 _ _ h0 (Bes.alloc _ _ _ _)) (Bes.alloc _ _ _ _)
 have hb1:Below w.heap.size w W1:=by
  rw[←hW1];exact ((Below.refl _ w).alloc (vS _) _).alloc (by simp) _
 refine⟨w.heap.size+1,[{ target:=.collected w.heap.size,args:=#[] }],W1,{ target:=.fn (.func gf) lb,args:=bnd++#[.func (.yield (w.heap.size+1)) #[] #[]] },W1,gf,
  bnd++#[.func (.yield (w.heap.size+1)) #[] #[]]++lb,W1,?_,?_,?_,?_,fun _=>h1,?_⟩
 ·rw[←hW1,hrec];exact run_enterLoop_outer _ _ _ _ _
 ·simp only[resolve,hg]
  simp[go_sem]
 ·intro f' hf';simp[Target.leads] at hf';subst hf';exact hFg
 ·simp[invoke,go_sem,eg]
 ·have nSi:∀ k,w.heap.size≤k→¬ Si k:=fun k hk h=>by have:=hSi k h;omega
  have nSb:∀ k,w.heap.size≤k→¬ Sb k:=fun k hk h=>by have:=hSb k h;omega
  refine (hseq (w.heap.size+1)
   (fun i W=>I i W∧W.heap[w.heap.size+1]?=some (.loop (rec .ready none))∧W.heap[w.heap.size]?=some (.deferred (some [])))
   W1 hb1 ?_ (fun i W h=>hOk i W h.1) ?_ ⟨hI1,hL1,hK1⟩).mono ?_
  ·rintro i W W' ⟨ha,hb,hc⟩ hs
   exact⟨hI _ _ _ ha (Bes.of_turns hs),(hs.block _ (vW.1 hb).1 (nSi _ (by omega))).trans hb,(hs.block _ (vW.1 hc).1 (nSi _ (by omega))).trans hc⟩
  ·rintro i hi W vs ⟨hi1,hl,hk⟩ hE
   have hlt:w.heap.size+1<W.heap.size:=(vW.1 hl).1
   have hy:=run_yield (P:=P) (args:=vs) hl (by rw[hrec];exact hps _ _ _ hE)
   rw[hrec] at hy
   refine⟨fn,_,assign,body,hy,roundIn_of_wpIn hfn ?_⟩
   refine wpIn_mono (hassign _ i hi W vs hi1 hE) ?_
   rintro e a₁ W₂ hp
   cases e with
   | normal =>
    obtain⟨hk2,hj⟩:=hp
    have hl2:=(hk2.block _ hlt (nSb _ (by omega))).trans hl
    have hd2:=(hk2.block _ (show w.heap.size<W.heap.size by omega) (nSb _ (vS _))).trans hk
    have hlt2:w.heap.size+1<W₂.heap.size:=(vW.1 hl2).1
    refine⟨_,run_beginRound hl2 (by rw[hrec]),?_⟩
    have hl3:(W₂.putObj (w.heap.size+1) (.loop { rec .ready none with state:=.busy })).heap[w.heap.size+1]?=some (.loop { rec .ready none with state:=.busy }):=World.putObj_heap_same hlt2
    have hd3:(W₂.putObj (w.heap.size+1) (.loop { rec .ready none with state:=.busy })).heap[w.heap.size]?=some (.deferred (some [])):=(World.putObj_heap_other (by omega)).trans hd2
    have hz3:(W₂.putObj (w.heap.size+1) (.loop { rec .ready none with state:=.busy })).heap.size=W₂.heap.size:=by simp
    refine wpIn_mono (hbody _ i hi a₁ _ (hI₁ i a₁ _ _ hj (Bes.put _ (by omega) hl2))) ?_
    rintro e a3 W3 hp
    cases e with
    | normal =>
     obtain⟨hk3,hi3⟩:=hp
     have hl4:=(hk3.block _ (by rw[hz3];exact hlt2) (nSb _ (by omega))).trans hl3
     have hd4:=(hk3.block _ (show w.heap.size<_ by rw[hz3];omega) (nSb _ (vS _))).trans hd3
     have hr:=run_endRound (P:=P) none hl4
     have hlt4:w.heap.size+1<W3.heap.size:=(vW.1 hl4).1
     have hs34:W₂.heap.size≤W3.heap.size:=by have:=hk3.size;rwa [hz3] at this
     rw[hrec] at hr
     rw[hrec] at hl4
     refine⟨_,_,hr,rfl,⟨hI _ _ _ hi3 (Bes.put _ (by omega) hl4),?_,(World.putObj_heap_other (by omega)).trans hd4⟩,?_⟩
     ·rw[hrec]
      exact World.putObj_heap_same hlt4
     ·refine⟨hk3.os.trans hk2.os,hk3.tape.trans hk2.tape,hk3.output.trans hk2.output,?_,fun k hkl hkn=>?_⟩
      ·have:=hk2.size
       rw[sf]
       omega
      ·by_cases he:k=w.heap.size+1
       ·subst he
        rw[hl,hrec]
        exact World.putObj_heap_same hlt4
       ·rw[World.putObj_heap_other (by omega),hk3.block k (by rw[hz3];have:=hk2.size;omega) hkn,World.putObj_heap_other (by omega)]
        exact hk2.block k hkl hkn
    | ret=>exact hp.elim
    | exit id=>exact hp.elim
    | goto t=>exact hp.elim
    | panic ch=>exact hp.elim
    | outgrown=>exact hp.elim
   | ret=>exact hp.elim
   | exit id=>exact hp.elim
   | goto t=>exact hp.elim
   | panic ch=>exact hp.elim
   | outgrown=>exact hp.elim
  ·rintro e W2 ⟨⟨v,rfl⟩,hi,hl,hk⟩
   exact⟨none,_,by have:=run_endLoop (P:=P) hl (by rw[hrec];simp);rw[hrec] at this;exact this,hdone _ _ (vS _) (hI _ _ _ hi (Bes.put _ (by omega) hl)) ((World.putObj_heap_other (by omega)).trans hk)⟩
structure fp (C:Nat→Value→Prop) (w w':World):Prop where
 size:w.heap.size≤w'.heap.size
 blk:∀ b j u,w.cell? ⟨b,j,none⟩=some u→C j u→w'.heap[b]?=w.heap[b]?
def lG (S:Nat→Prop) (C:Nat→Value→Prop) (w:World):Prop:=∀ k,S k→∀ j u,w.cell? ⟨k,j,none⟩=some u→¬ C j u
theorem fp.of_turns {S:Nat→Prop}{C:Nat→Value→Prop}{w w':World} (h:aZ S w w') (hs:lG S C w):fp C w w' :=
 ⟨h.size,fun b j u hc hC=>h.block b (block_lt_of_cell hc) (fun hS=>hs b hS j u hc hC)⟩
theorem fp.of_bes {S:Nat→Prop}{C:Nat→Value→Prop}{B:Nat}{w w':World} (h:Bes S B w w') (hs:lG S C w):fp C w w' :=
 ⟨h.size,fun b j u hc hC=>by
  obtain⟨o,ho⟩:∃ o,w.heap[b]?=some o:=⟨_,xy (block_lt_of_cell hc)⟩
  have hl:∀ r,o≠Obj.loop r:=by
   intro r e
   subst e
   unfold World.cell? at hc
   simp only[ho] at hc
   cases hc
  rw[h.same _ _ ho (fun hS=>hs b hS j u hc hC) (Or.inr hl),ho]⟩
theorem fp.cell {C:Nat→Value→Prop}{w w':World} (h:fp C w w') {b j:Nat}{u:Value} (hc:w.cell? ⟨b,j,none⟩=some u) (hC:C j u):w'.cell? ⟨b,j,none⟩=some u :=
 (World.cell?_of_block (w:=w) (w':=w') (a:=⟨b,j,none⟩) (h.blk b j u hc hC)).trans hc
def sZ (_:Nat) (u:Value):Prop:=∃ s,u=.string s
def qy (j:Nat) (u:Value):Prop:=0<j∨∃ z,u=.int .u64 z
theorem IsS.keep {w w':World}{v:Value}{l:List ByteArray} (h:IsS w v l) (hk:fp sZ w w'):IsS w' v l:=by
 obtain⟨p,cap,e,h1,h2,h3⟩:=h
 refine⟨p,cap,e,h1,h2,fun hl=>?_⟩
 obtain⟨b,o,e2,hlt,hc⟩:=h3 hl
 refine⟨b,o,e2,vV hlt hk.size,fun i hi j u hu=>hk.cell (hc i hi j u hu) ?_⟩
 have hm:=yg hu
 rw[xA] at hm
 simp only[cellsOf,yy] at hm
 exact⟨_,hm⟩
theorem IsU.keep {w w':World}{v:Value}{l:List Nat} (h:IsU w v l) (hk:fp qy w w'):IsU w' v l:=by
 obtain⟨p,cap,e,h1,h2,h3⟩:=h
 refine⟨p,cap,e,h1,h2,fun hl=>?_⟩
 obtain⟨b,o,e2,hlt,hc⟩:=h3 hl
 exact⟨b,o,e2,vV hlt hk.size,fun j hj=>hk.cell (hc j hj) (Or.inr ⟨_,rfl⟩)⟩
theorem IsP.keep {w w':World}{v:Value}{zs:List CQ} (h:IsP w v zs) (hk:fp qy w w'):IsP w' v zs:=by
 obtain⟨es,h1,⟨p,cap,e,h2,h3,h4⟩,h5⟩:=h
 have h6:=gM h1 h5
 refine⟨es,h1,⟨p,cap,e,h2,h3,fun hl=>?_⟩,fun i hi hi'=>(h5 i hi hi').keepU fun _ _ hu=>hu.keep hk⟩
 obtain⟨b,o,e2,hlt,hc⟩:=h4 hl
 refine⟨b,o,e2,vV hlt hk.size,fun i hi j u hu=>?_⟩
 have hl1:1<(cellsOf es[i]).length:=by rw[h6 _ (wk hi)];omega
 obtain⟨u1,hu1⟩:∃ u1,(cellsOf es[i])[1]?=some u1:=⟨_,wm hl1⟩
 exact (World.cell?_of_block (w:=w) (w':=w') (a:=⟨b,o+i*6+j,none⟩) (hk.blk b (o+i*6+1) u1 (hc i hi 1 u1 hu1) (Or.inl (Nat.succ_pos _)))).trans (hc i hi j u hu)
end Go.Proofs.YtomkanblohhpfaaGreatDoor
