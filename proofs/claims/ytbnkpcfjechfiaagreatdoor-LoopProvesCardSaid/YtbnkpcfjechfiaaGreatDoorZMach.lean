/- Lemmas of this claim. -/
import Derived.Test.YtbnkpcfjechfiaaGreatDoorProg
import Derived.WalkKit
import Derived.WalkSpells
import Derived.WalkLawsBesides
import Derived.Lib.Hide
import Derived.Deep.QuietTactic
import Derived.BigQuiet
import Derived.Test.YtbnkpcfjechfiaaGreatDoorZA
set_option linter.all false
set_option maxRecDepth 100000
set_option maxHeartbeats 8000000
namespace Go.Proofs.YtbnkpcfjechfiaaGreatDoor
open Go.RowKit
def nth (l:List Nat) (j:Nat):Nat:=l.getD j 0
theorem dU (l:List Nat) (j:Nat) (h:j<l.length):nth l j=l[j]:=by simp[nth,h]
theorem CZ {l:List Nat}{j:Nat} (h:j<l.length):nth l j∈l:=by rw[dU l j h];exact FJ h
theorem cE {l:List Nat}{j b:Nat} (hl:∀ d∈l,d<b) (h:j<l.length):nth l j<b:=hl _ (CZ h)
theorem A_ (l:List Nat) (k j:Nat) (h:j<k):nth (l.take k) j=nth l j:=by simp[nth,h]
def fX (l:List Nat):List Value:=l.map fun (d:Nat)=>Value.int .u64 (d:Int)
theorem mq (l:List Nat):(fX l).length=l.length:=by simp[fX]
theorem t_ (l:List Nat) (j:Nat) (h:j<l.length):(fX l)[j]?=some (.int .u64 (nth l j)):=by simp[fX,nth,h]
theorem mp (l m:List Nat):fX (l++m)=fX l++fX m:=by simp[fX]
theorem qv (l:List Nat) (k:Nat):fX (l.take k)=(fX l).take k:=by simp[fX]
theorem Ce (l:List Nat) (k d:Nat):fX (l.set k d)=(fX l).set k (.int .u64 d):=by simp[fX,List.map_set]
def AtU (w:World) (p:Option Addr) (l:List Nat):Prop :=
 0<l.length→∃ b o,p=some ⟨b,o,none⟩∧b<w.heap.size∧∀ j,j<l.length→w.cell? ⟨b,o+j,none⟩=some (.int .u64 (nth l j))
def IsU (w:World) (v:Value) (l:List Nat):Prop:=∃ p cap,v=.slice p l.length cap∧l.length≤cap∧cap≤maxLen∧AtU w p l
theorem IsU.below {w w':World}{v:Value}{l:List Nat} (h:IsU w v l) (hb:Below w.heap.size w w'):IsU w' v l:=by
 obtain⟨p,cap,e,h1,h2,h3⟩:=h
 refine⟨p,cap,e,h1,h2,fun hl=>?_⟩
 obtain⟨b,o,e2,hlt,hc⟩:=h3 hl
 exact⟨b,o,e2,Fo hlt hb.size,fun j hj=>(hb.cell (p:=⟨b,o+j,none⟩) hlt).trans (hc j hj)⟩
abbrev eN (w:World) (base:Nat) (v:Value) (l:List Nat):Prop:=w.ownsRow base 193 1 v l.length (fX l)
theorem eN.isU {w:World}{base:Nat}{v:Value}{l:List Nat} (h:eN w base v l):IsU w v l:=by
 obtain⟨hlen,h⟩:=h
 rcases h with ⟨rfl,h0⟩ | ⟨g,cap,cur,rfl,hg,hh,hn,hm,hs,ht⟩
 ·exact⟨none,0,by rw[h0],by omega,by simp[maxLen],fun hp=>by omega⟩
 ·refine⟨some ⟨g,0,none⟩,cap,rfl,hn,hm,fun _=>⟨g,0,rfl,?_,fun j hj=>?_⟩⟩
  ·exact (Fs.1 hh).1
  ·rw[cell_of_row w g (0+j) cur _ (0,0) hh]
   have:=t_ l j hj
   rw[←ht,Ia,if_pos (by omega)] at this
   simpa using this
theorem eN.below {w w':World}{base:Nat}{v:Value}{l:List Nat} (h:eN w base v l) (hb:Below w.heap.size w w'):eN w' base v l:=by
 obtain⟨hlen,h⟩:=h
 refine⟨hlen,?_⟩
 rcases h with h | ⟨g,cap,cur,rfl,hg,hh,r⟩
 ·exact Or.inl h
 ·exact Or.inr ⟨g,cap,cur,rfl,hg,by rw[hb.block g (Fs.1 hh).1];exact hh,r⟩
theorem fC (w:World) (d:Nat):∀ (j:Nat) (u:Value),[Value.int .u64 (d:Int)][j]?=some u→(w.alloc (.cells #[.int .u64 d] 193)).cell? ((⟨w.heap.size,0,none⟩:Addr).add j)=some u:=by
 intro j u hj
 match j,hj with
 | 0,hj=>simp at hj;subst hj;simp only[Addr.add,World.cell?,if_true,heap_alloc_new];rfl
theorem Tryz.info193:(Tryz.prog.info? 193).map (fun i=>(i.zero,i.size,i.bytes))=some (some (.int .u64 0),1,8):=by kernel_rfl
theorem bG {w:World}{ops:Array Oper}{rest:List Oper}{o:Oper}{a:Act}{Q:Exit→Act→World→Prop} (T:TypeId)
  (hT:Tryz.prog.underlying T=some (.slice 193)) (hgd:o.guard=none) (s x:Operand)
  (ho:o.op=.call { callee:=.builtin .append,args:=#[s,x],argTypes:=#[T,T] })
  (base:Nat) (v:Value) (l:List Nat) (z:Int) (d:Nat) (hz:z=d) (hs:a.eval s=v) (hown:eN w base v l)
  (hx:a.eval x=.slice (some ⟨w.heap.size,0,none⟩) 1 1) (hlen:l.length<1000000000000) (hbase:base≤w.heap.size)
  (h:∀ v' w',eN w' base v' (l++[d])→(∀ B w0,Below B w0 w→B≤base→Below B w0 w')→wpList Tryz.prog ops Q rest (a.put o.dst v') w') :
  wpList Tryz.prog ops Q (o :: rest) a (w.alloc (.cells #[.int .u64 z] 193)):=by
 subst hz
 obtain⟨i0,hi,hz0,hz1,hz2⟩:=info_parts Tryz.info193
 refine wpList_append_own _ hgd s x T ho base 193 i0 (.int .u64 0) 1 8 hT hi hz0 hz1 hz2 rfl (by decide) v l.length (fX l) hs (hown.alloc _) ⟨w.heap.size,0,none⟩ 1 1 [.int .u64 d] hx rfl ?_ ?_ ?_ ?_ ?_ ?_
 ·exact fC w d
 ·intro u hu;simp at hu;subst hu;rfl
 ·unfold maxLen;omega
 ·omega
 ·simp;omega
 ·intro v' w' hown' hg _
  refine h v' w' ?_ ?_
  ·have:fX (l++[d])=fX l++[.int .u64 d]:=by rw[mp];rfl
   rw[eN,this,Fv];exact hown'
  ·intro B w0 hb hB
   have hbs:=hown.lt
   refine (hb.alloc (by omega) _).grown hg (by simp;omega) ?_
   intro k hk
   have:=(hbs k hk).1
   omega
def cP (w:World) (g cap:Nat) (l:List Nat):Prop:=w.ownsRow g 193 1 (.slice (some ⟨g,0,none⟩) l.length cap) l.length (fX l)
theorem cP.own {w:World}{g cap base:Nat}{l:List Nat} (h:cP w g cap l) (hb:base≤g):eN w base (.slice (some ⟨g,0,none⟩) l.length cap) l:=by
 obtain⟨h1,h2⟩:=h
 refine⟨h1,?_⟩
 rcases h2 with h2 | ⟨g',cap',cur,e,_,r⟩
 ·exact Or.inl h2
 ·have:g'=g:=by simp at e;exact e.1.symm
  subst this
  exact Or.inr ⟨g',cap',cur,e,hb,r⟩
theorem cP.lt {w:World}{g cap:Nat}{l:List Nat} (h:cP w g cap l):g<w.heap.size:=(World.ownsRow.lt h g rfl).2
theorem cP.isU {w:World}{g cap:Nat}{l:List Nat} (h:cP w g cap l):IsU w (.slice (some ⟨g,0,none⟩) l.length cap) l:=eN.isU (h.own (Fm _))
theorem cP.cell {w:World}{g cap:Nat}{l:List Nat} (h:cP w g cap l) {j:Nat} (hj:j<l.length):w.cell? ⟨g,j,none⟩=some (.int .u64 (nth l j)):=by
 rw[World.ownsRow.cellAt h j (by omega),t_ l j hj]
theorem cP.free {w:World}{g cap:Nat}{l:List Nat} (h:cP w g cap l) (j:Nat):w.frozen? ⟨g,j,none⟩=false:=World.ownsRow.frozenAt h j
theorem cP.set {w:World}{g cap:Nat}{l:List Nat} (h:cP w g cap l) (j d:Nat) (z:Int) (hz:z=d):cP (w.setCell ⟨g,j,none⟩ (.int .u64 z)) g cap (l.set j d):=by
 subst hz
 have:=(World.ownsRow.stored h j (.int .u64 d)).1
 unfold cP
 rw[Ce,GL];exact this
theorem cP.drewN {w:World}{g cap:Nat}{l:List Nat} (h:cP w g cap l) (n:Nat):cP (w.drewN n) g cap l:=h
theorem cP.below {w w':World}{g cap:Nat}{l:List Nat} (h:cP w g cap l) (hb:Below w.heap.size w w'):cP w' g cap l:=eN.below h hb
theorem AtU.below {w w':World}{p:Option Addr}{l:List Nat} (h:AtU w p l) {B:Nat} (hb:Below B w w') (hB:w.heap.size≤B):AtU w' p l:=by
 intro hl
 obtain⟨b,o,e2,hlt,hc⟩:=h hl
 exact⟨b,o,e2,Fo hlt hb.size,fun j hj=>(hb.cell (p:=⟨b,o+j,none⟩) (by show b<B;omega)).trans (hc j hj)⟩
theorem fH {w:World}{ops:Array Oper}{rest:List Oper}{o:Oper}{a:Act}{Q:Exit→Act→World→Prop} (T:TypeId)
  (hT:Tryz.prog.underlying T=some (.slice 193)) (hgd:o.guard=none) (lo co:Operand) (hop:o.op=Op.makeSlice T lo co)
  (L C:Int) (n:Nat) (hl:a.eval lo=.int .i64 L) (hc:a.eval co=.int .i64 C) (hL:L=(n:Int)) (hC:C=(n:Int)) (hn:n≤1000000000000)
  (hK:∀ w',cP w' w.heap.size n (List.replicate n 0)→(∀ B w0,Below B w0 w→B≤w.heap.size→Below B w0 w')→w.heap.size<w'.heap.size →
   wpList Tryz.prog ops Q rest (a.put o.dst (.slice (some ⟨w.heap.size,0,none⟩) n n)) w') :
  wpList Tryz.prog ops Q (o :: rest) a w:=by
 obtain⟨i0,hi,hz0,hz1,hz2⟩:=info_parts Tryz.info193
 refine wpList_make_full _ hgd lo co T hop w.heap.size 193 i0 (.int .u64 0) 1 hT hi hz0 hz1 .i64 .i64 L C n hl hc hL hC (by rw[hz2];omega) (by unfold maxLen;omega) (Fm _) ?_
 intro w' hown hg
 have hr:cP w' w.heap.size n (List.replicate n 0):=by
  unfold cP fX
  have e:(madeCells (Value.int .u64 0).cells (n*1)).toList=(List.replicate n 0).map fun (d:Nat)=>Value.int .u64 (d:Int):=by
   rw[GA];simp[Value.cells,toList_madeCells_one]
  rw[e] at hown
  rw[Ha];exact hown
 refine hK w' hr (fun B w0 hb hB=>hb.grown hg hB (fun k h=>by cases h)) hr.lt
end Go.Proofs.YtbnkpcfjechfiaaGreatDoor
