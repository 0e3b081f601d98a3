/- Lemmas of this claim. -/
import Derived.Test.YtbnkpcfjechfiaaGreatDoorProg
import Derived.WalkKit
import Derived.WalkSpells
import Derived.WalkLawsBesides
import Derived.Lib.Hide
import Derived.Deep.QuietTactic
import Derived.BigQuiet
import Derived.Test.YtbnkpcfjechfiaaGreatDoorQA
set_option linter.all false
set_option maxRecDepth 100000
set_option maxHeartbeats 8000000
namespace Go.Proofs.YtbnkpcfjechfiaaGreatDoor
open Go.RowKit
def nth (l:List Nat) (j:Nat):Nat:=l.getD j 0
theorem dM (l:List Nat) (j:Nat) (h:j<l.length):nth l j=l[j]:=by simp[nth,h]
theorem CJ {l:List Nat}{j:Nat} (h:j<l.length):nth l j∈l:=by rw[dM l j h];exact Fu h
theorem ci {l:List Nat}{j b:Nat} (hl:∀ d∈l,d<b) (h:j<l.length):nth l j<b:=hl _ (CJ h)
theorem AQ (l:List Nat) (k j:Nat) (h:j<k):nth (l.take k) j=nth l j:=by simp[nth,h]
def fB (l:List Nat):List Value:=l.map fun (d:Nat)=>Value.int .u64 (d:Int)
theorem l9 (l:List Nat):(fB l).length=l.length:=by simp[fB]
theorem tS (l:List Nat) (j:Nat) (h:j<l.length):(fB l)[j]?=some (.int .u64 (nth l j)):=by simp[fB,nth,h]
theorem l8 (l m:List Nat):fB (l++m)=fB l++fB m:=by simp[fB]
theorem qg (l:List Nat) (k:Nat):fB (l.take k)=(fB l).take k:=by simp[fB]
theorem BQ (l:List Nat) (k d:Nat):fB (l.set k d)=(fB l).set k (.int .u64 d):=by simp[fB,List.map_set]
def AtU (w:World) (p:Option Addr) (l:List Nat):Prop :=
 0<l.length→∃ b o,p=some ⟨b,o,none⟩∧b<w.heap.size∧∀ j,j<l.length→w.cell? ⟨b,o+j,none⟩=some (.int .u64 (nth l j))
def IsU (w:World) (v:Value) (l:List Nat):Prop:=∃ p cap,v=.slice p l.length cap∧l.length≤cap∧cap≤maxLen∧AtU w p l
theorem IsU.below {w w':World}{v:Value}{l:List Nat} (h:IsU w v l) (hb:Below w.heap.size w w'):IsU w' v l:=by
 obtain⟨p,cap,e,h1,h2,h3⟩:=h;refine⟨p,cap,e,h1,h2,fun hl=>?_⟩;obtain⟨b,o,e2,hlt,hc⟩:=h3 hl;exact⟨b,o,e2,Fe hlt hb.size,fun j hj=>(hb.cell (p:=⟨b,o+j,none⟩) hlt).trans (hc j hj)⟩
abbrev et (w:World) (base:Nat) (v:Value) (l:List Nat):Prop:=w.ownsRow base 193 1 v l.length (fB l)
theorem et.isU {w:World}{base:Nat}{v:Value}{l:List Nat} (h:et w base v l):IsU w v l:=by
 obtain⟨hlen,h⟩:=h;rcases h with ⟨rfl,h0⟩ | ⟨g,cap,cur,rfl,hg,hh,hn,hm,hs,ht⟩
 ·exact⟨none,0,by rw[h0],by omega,by simp[maxLen],fun hp=>by omega⟩
 ·refine⟨some ⟨g,0,none⟩,cap,rfl,hn,hm,fun _=>⟨g,0,rfl,?_,fun j hj=>?_⟩⟩
  ·exact (Fh.1 hh).1
  ·rw[cell_of_row w g (0+j) cur _ (0,0) hh];have:=tS l j hj;rw[←ht,Hm,if_pos (by omega)] at this;simpa using this
theorem et.below {w w':World}{base:Nat}{v:Value}{l:List Nat} (h:et w base v l) (hb:Below w.heap.size w w'):et w' base v l:=by
 obtain⟨hlen,h⟩:=h;refine⟨hlen,?_⟩;rcases h with h | ⟨g,cap,cur,rfl,hg,hh,r⟩
 ·exact Or.inl h
 ·exact Or.inr ⟨g,cap,cur,rfl,hg,by rw[hb.block g (Fh.1 hh).1];exact hh,r⟩
theorem fe (w:World) (d:Nat):∀ (j:Nat) (u:Value),[Value.int .u64 (d:Int)][j]?=some u→(w.alloc (.cells #[.int .u64 d] 193)).cell? ((⟨w.heap.size,0,none⟩:Addr).add j)=some u:=by
 intro j u hj
 match j,hj with
 | 0,hj=>simp at hj;subst hj;simp only[Addr.add,World.cell?,if_true,heap_alloc_new];rfl
theorem Tryz.info193:(Tryz.prog.info? 193).map (fun i=>(i.zero,i.size,i.bytes))=some (some (.int .u64 0),1,8):=by kernel_rfl
theorem bC {w:World}{ops:Array Oper}{rest:List Oper}{o:Oper}{a:Act}{Q:Exit→Act→World→Prop} (T:TypeId)
  (hT:Tryz.prog.underlying T=some (.slice 193)) (hgd:o.guard=none) (s x:Operand)
  (ho:o.op=.call { callee:=.builtin .append,args:=#[s,x],argTypes:=#[T,T] })
  (base:Nat) (v:Value) (l:List Nat) (z:Int) (d:Nat) (hz:z=d) (hs:a.eval s=v) (hown:et w base v l)
  (hx:a.eval x=.slice (some ⟨w.heap.size,0,none⟩) 1 1) (hlen:l.length<1000000000000) (hbase:base≤w.heap.size)
  (h:∀ v' w',et w' base v' (l++[d])→(∀ B w0,Below B w0 w→B≤base→Below B w0 w')→wpList Tryz.prog ops Q rest (a.put o.dst v') w') :
  wpList Tryz.prog ops Q (o :: rest) a (w.alloc (.cells #[.int .u64 z] 193)):=by
 subst hz;obtain⟨i0,hi,hz0,hz1,hz2⟩:=info_parts Tryz.info193;refine wpList_append_own _ hgd s x T ho base 193 i0 (.int .u64 0) 1 8 hT hi hz0 hz1 hz2 rfl (by decide) v l.length (fB l) hs (hown.alloc _) ⟨w.heap.size,0,none⟩ 1 1 [.int .u64 d] hx rfl ?_ ?_ ?_ ?_ ?_ ?_
 ·exact fe w d
 ·intro u hu;simp at hu;subst hu;rfl
 ·unfold maxLen;omega
 ·omega
 ·simp;omega
 ·intro v' w' hown' hg _;refine h v' w' ?_ ?_
  ·have:fB (l++[d])=fB l++[.int .u64 d]:=by rw[l8];rfl
   rw[et,this,Fl];exact hown'
  ·intro B w0 hb hB;have hbs:=hown.lt;refine (hb.alloc (by omega) _).grown hg (by simp;omega) ?_;intro k hk;have:=(hbs k hk).1;omega
def cE (w:World) (g cap:Nat) (l:List Nat):Prop:=w.ownsRow g 193 1 (.slice (some ⟨g,0,none⟩) l.length cap) l.length (fB l)
theorem cE.own {w:World}{g cap base:Nat}{l:List Nat} (h:cE w g cap l) (hb:base≤g):et w base (.slice (some ⟨g,0,none⟩) l.length cap) l:=by
 obtain⟨h1,h2⟩:=h;refine⟨h1,?_⟩;rcases h2 with h2 | ⟨g',cap',cur,e,_,r⟩
 ·exact Or.inl h2
 ·have:g'=g:=by simp at e;exact e.1.symm
  subst this;exact Or.inr ⟨g',cap',cur,e,hb,r⟩
theorem cE.lt {w:World}{g cap:Nat}{l:List Nat} (h:cE w g cap l):g<w.heap.size:=(World.ownsRow.lt h g rfl).2
theorem cE.isU {w:World}{g cap:Nat}{l:List Nat} (h:cE w g cap l):IsU w (.slice (some ⟨g,0,none⟩) l.length cap) l:=et.isU (h.own (Fb _))
theorem cE.cell {w:World}{g cap:Nat}{l:List Nat} (h:cE w g cap l) {j:Nat} (hj:j<l.length):w.cell? ⟨g,j,none⟩=some (.int .u64 (nth l j)):=by
 rw[World.ownsRow.cellAt h j (by omega),tS l j hj]
theorem cE.free {w:World}{g cap:Nat}{l:List Nat} (h:cE w g cap l) (j:Nat):w.frozen? ⟨g,j,none⟩=false:=World.ownsRow.frozenAt h j
theorem cE.set {w:World}{g cap:Nat}{l:List Nat} (h:cE w g cap l) (j d:Nat) (z:Int) (hz:z=d):cE (w.setCell ⟨g,j,none⟩ (.int .u64 z)) g cap (l.set j d):=by
 subst hz;have:=(World.ownsRow.stored h j (.int .u64 d)).1;unfold cE;rw[BQ,GI];exact this
theorem cE.drewN {w:World}{g cap:Nat}{l:List Nat} (h:cE w g cap l) (n:Nat):cE (w.drewN n) g cap l:=h
theorem cE.below {w w':World}{g cap:Nat}{l:List Nat} (h:cE w g cap l) (hb:Below w.heap.size w w'):cE w' g cap l:=et.below h hb
theorem AtU.below {w w':World}{p:Option Addr}{l:List Nat} (h:AtU w p l) {B:Nat} (hb:Below B w w') (hB:w.heap.size≤B):AtU w' p l:=by
 intro hl;obtain⟨b,o,e2,hlt,hc⟩:=h hl;exact⟨b,o,e2,Fe hlt hb.size,fun j hj=>(hb.cell (p:=⟨b,o+j,none⟩) (by show b<B;omega)).trans (hc j hj)⟩
theorem fh {w:World}{ops:Array Oper}{rest:List Oper}{o:Oper}{a:Act}{Q:Exit→Act→World→Prop} (T:TypeId)
  (hT:Tryz.prog.underlying T=some (.slice 193)) (hgd:o.guard=none) (lo co:Operand) (hop:o.op=Op.makeSlice T lo co)
  (L C:Int) (n:Nat) (hl:a.eval lo=.int .i64 L) (hc:a.eval co=.int .i64 C) (hL:L=(n:Int)) (hC:C=(n:Int)) (hn:n≤1000000000000)
  (hK:∀ w',cE w' w.heap.size n (List.replicate n 0)→(∀ B w0,Below B w0 w→B≤w.heap.size→Below B w0 w')→w.heap.size<w'.heap.size →
   wpList Tryz.prog ops Q rest (a.put o.dst (.slice (some ⟨w.heap.size,0,none⟩) n n)) w') :
  wpList Tryz.prog ops Q (o :: rest) a w:=by
 obtain⟨i0,hi,hz0,hz1,hz2⟩:=info_parts Tryz.info193;refine wpList_make_full _ hgd lo co T hop w.heap.size 193 i0 (.int .u64 0) 1 hT hi hz0 hz1 .i64 .i64 L C n hl hc hL hC (by rw[hz2];omega) (by unfold maxLen;omega) (Fb _) ?_;intro w' hown hg
 have hr:cE w' w.heap.size n (List.replicate n 0):=by
  unfold cE fB
  have e:(madeCells (Value.int .u64 0).cells (n*1)).toList=(List.replicate n 0).map fun (d:Nat)=>Value.int .u64 (d:Int):=by
   rw[GE];simp[Value.cells,toList_madeCells_one]
  rw[e] at hown;rw[GW];exact hown
 refine hK w' hr (fun B w0 hb hB=>hb.grown hg hB (fun k h=>by cases h)) hr.lt
end Go.Proofs.YtbnkpcfjechfiaaGreatDoor
