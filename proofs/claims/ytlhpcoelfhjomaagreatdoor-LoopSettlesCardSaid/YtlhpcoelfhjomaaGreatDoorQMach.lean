/- L -/
import Derived.Test.YtlhpcoelfhjomaaGreatDoorProg
import Derived.WalkKit
import Derived.WalkSpells
import Derived.WalkLawsBesides
import Derived.Lib.Hide
import Derived.Deep.QuietTactic
import Derived.BigQuiet
import Derived.Test.YtlhpcoelfhjomaaGreatDoorQA
set_option linter.all false
set_option maxRecDepth 100000
set_option maxHeartbeats 8000000
namespace Go.Proofs.YtlhpcoelfhjomaaGreatDoor
open Go.RowKit
def nth (l:List Nat) (j:Nat):Nat:=l.getD j 0
theorem eF (l:List Nat) (j:Nat) (h:j<l.length):nth l j=l[j]:=by simp[nth,h]
theorem Fy {l:List Nat}{j:Nat} (h:j<l.length):nth l j∈l:=by rw[eF l j h];exact IS h
theorem cY {l:List Nat}{j b:Nat} (hl:∀ d∈l,d<b) (h:j<l.length):nth l j<b:=hl _ (Fy h)
theorem DM (l:List Nat) (k j:Nat) (h:j<k):nth (l.take k) j=nth l j:=by simp[nth,h]
def gO (l:List Nat):List Value:=l.map fun (d:Nat)=>Value.int .u64 (d:Int)
theorem oC (l:List Nat):(gO l).length=l.length:=by simp[gO]
theorem xv (l:List Nat) (j:Nat) (h:j<l.length):(gO l)[j]?=some (.int .u64 (nth l j)):=by simp[gO,nth,h]
theorem oB (l m:List Nat):gO (l++m)=gO l++gO m:=by simp[gO]
theorem tn (l:List Nat) (k:Nat):gO (l.take k)=(gO l).take k:=by simp[gO]
theorem EO (l:List Nat) (k d:Nat):gO (l.set k d)=(gO l).set k (.int .u64 d):=by simp[gO,List.map_set]
def AtU (w:World) (p:Option Addr) (l:List Nat):Prop :=
 0<l.length->∃ b o,p=some ⟨b,o,none⟩/\b<w.heap.size/\∀ j,j<l.length->w.cell? ⟨b,o+j,none⟩=some (.int .u64 (nth l j))
def IsU (w:World) (v:Value) (l:List Nat):Prop:=∃ p cap,v=.slice p l.length cap/\l.length<=cap/\cap<=maxLen/\AtU w p l
theorem IsU.below {w w':World}{v:Value}{l:List Nat} (h:IsU w v l) (hb:Below w.heap.size w w'):IsU w' v l:=by
 obtain⟨p,cap,e,h1,h2,h3⟩:=h;refine⟨p,cap,e,h1,h2,fun hl=>?_⟩;obtain⟨b,o,e2,hlt,hc⟩:=h3 hl;exact⟨b,o,e2,Iz hlt hb.size,fun j hj=>(hb.cell (p:=⟨b,o+j,none⟩) hlt).trans (hc j hj)⟩
abbrev fv (w:World) (base:Nat) (v:Value) (l:List Nat):Prop:=w.ownsRow base 136 1 v l.length (gO l)
theorem fv.isU {w:World}{base:Nat}{v:Value}{l:List Nat} (h:fv w base v l):IsU w v l:=by
 obtain⟨hlen,h⟩:=h;rcases h with ⟨rfl,h0⟩ | ⟨g,cap,cur,rfl,hg,hh,hn,hm,hs,ht⟩
 ·exact⟨none,0,by rw[h0],by omega,by simp[maxLen],fun hp=>by omega⟩
 ·refine⟨some ⟨g,0,none⟩,cap,rfl,hn,hm,fun _=>⟨g,0,rfl,?_,fun j hj=>?_⟩⟩
  ·exact (ID.1 hh).1
  ·rw[cell_of_row w g (0+j) cur _ (0,0) hh];have:=xv l j hj;rw[<-ht,KP,if_pos (by omega)] at this;simpa using this
theorem fv.below {w w':World}{base:Nat}{v:Value}{l:List Nat} (h:fv w base v l) (hb:Below w.heap.size w w'):fv w' base v l:=by
 obtain⟨hlen,h⟩:=h;refine⟨hlen,?_⟩;rcases h with h | ⟨g,cap,cur,rfl,hg,hh,r⟩
 ·exact Or.inl h
 ·exact Or.inr ⟨g,cap,cur,rfl,hg,by rw[hb.block g (ID.1 hh).1];exact hh,r⟩
theorem gi (w:World) (d:Nat):∀ (j:Nat) (u:Value),[Value.int .u64 (d:Int)][j]?=some u->(w.alloc (.cells #[.int .u64 d] 136)).cell? ((⟨w.heap.size,0,none⟩:Addr).add j)=some u:=by
 intro j u hj
 match j,hj with
 | 0,hj=>simp at hj;subst hj;simp only[Addr.add,World.cell?,if_true,heap_alloc_new];rfl
theorem Tryz.info136:(Tryz.prog.info? 136).map (fun i=>(i.zero,i.size,i.bytes))=some (some (.int .u64 0),1,8):=by kernel_rfl
theorem bS {w:World}{ops:Array Oper}{rest:List Oper}{o:Oper}{a:Act}{Q:Exit->Act->World->Prop} (T:TypeId)
  (hT:Tryz.prog.underlying T=some (.slice 136)) (hgd:o.guard=none) (s x:Operand)
  (ho:o.op=.call { callee:=.builtin .append,args:=#[s,x],argTypes:=#[T,T] })
  (base:Nat) (v:Value) (l:List Nat) (z:Int) (d:Nat) (hz:z=d) (hs:a.eval s=v) (hown:fv w base v l)
  (hx:a.eval x=.slice (some ⟨w.heap.size,0,none⟩) 1 1) (hlen:l.length<1000000000000) (hbase:base<=w.heap.size)
  (h:∀ v' w',fv w' base v' (l++[d])->(∀ B w0,Below B w0 w->B<=base->Below B w0 w')->wpList Tryz.prog ops Q rest (a.put o.dst v') w') :
  wpList Tryz.prog ops Q (o :: rest) a (w.alloc (.cells #[.int .u64 z] 136)):=by
 subst hz;obtain⟨i0,hi,hz0,hz1,hz2⟩:=info_parts Tryz.info136;refine wpList_append_own _ hgd s x T ho base 136 i0 (.int .u64 0) 1 8 hT hi hz0 hz1 hz2 rfl (by decide) v l.length (gO l) hs (hown.alloc _) ⟨w.heap.size,0,none⟩ 1 1 [.int .u64 d] hx rfl ?_ ?_ ?_ ?_ ?_ ?_
 ·exact gi w d
 ·intro u hu;simp at hu;subst hu;rfl
 ·unfold maxLen;omega
 ·omega
 ·simp;omega
 ·intro v' w' hown' hg _;refine h v' w' ?_ ?_
  ·have:gO (l++[d])=gO l++[.int .u64 d]:=by rw[oB];rfl
   rw[fv,this,IG];exact hown'
  ·intro B w0 hb hB;have hbs:=hown.lt;refine (hb.alloc (by omega) _).grown hg (by simp;omega) ?_;intro k hk;have:=(hbs k hk).1;omega
def di (w:World) (g cap:Nat) (l:List Nat):Prop:=w.ownsRow g 136 1 (.slice (some ⟨g,0,none⟩) l.length cap) l.length (gO l)
theorem di.own {w:World}{g cap base:Nat}{l:List Nat} (h:di w g cap l) (hb:base<=g):fv w base (.slice (some ⟨g,0,none⟩) l.length cap) l:=by
 obtain⟨h1,h2⟩:=h;refine⟨h1,?_⟩;rcases h2 with h2 | ⟨g',cap',cur,e,_,r⟩
 ·exact Or.inl h2
 ·have:g'=g:=by simp at e;exact e.1.symm
  subst this;exact Or.inr ⟨g',cap',cur,e,hb,r⟩
theorem di.lt {w:World}{g cap:Nat}{l:List Nat} (h:di w g cap l):g<w.heap.size:=(World.ownsRow.lt h g rfl).2
theorem di.isU {w:World}{g cap:Nat}{l:List Nat} (h:di w g cap l):IsU w (.slice (some ⟨g,0,none⟩) l.length cap) l:=fv.isU (h.own (Iw _))
theorem di.cell {w:World}{g cap:Nat}{l:List Nat} (h:di w g cap l) {j:Nat} (hj:j<l.length):w.cell? ⟨g,j,none⟩=some (.int .u64 (nth l j)):=by
 rw[World.ownsRow.cellAt h j (by omega),xv l j hj]
theorem di.free {w:World}{g cap:Nat}{l:List Nat} (h:di w g cap l) (j:Nat):w.frozen? ⟨g,j,none⟩=false:=World.ownsRow.frozenAt h j
theorem di.set {w:World}{g cap:Nat}{l:List Nat} (h:di w g cap l) (j d:Nat) (z:Int) (hz:z=d):di (w.setCell ⟨g,j,none⟩ (.int .u64 z)) g cap (l.set j d):=by
 subst hz;have:=(World.ownsRow.stored h j (.int .u64 d)).1;unfold di;rw[EO,JK];exact this
theorem di.drewN {w:World}{g cap:Nat}{l:List Nat} (h:di w g cap l) (n:Nat):di (w.drewN n) g cap l:=h
theorem di.below {w w':World}{g cap:Nat}{l:List Nat} (h:di w g cap l) (hb:Below w.heap.size w w'):di w' g cap l:=fv.below h hb
theorem AtU.below {w w':World}{p:Option Addr}{l:List Nat} (h:AtU w p l) {B:Nat} (hb:Below B w w') (hB:w.heap.size<=B):AtU w' p l:=by
 intro hl;obtain⟨b,o,e2,hlt,hc⟩:=h hl;exact⟨b,o,e2,Iz hlt hb.size,fun j hj=>(hb.cell (p:=⟨b,o+j,none⟩) (by show b<B;omega)).trans (hc j hj)⟩
theorem gx {w:World}{ops:Array Oper}{rest:List Oper}{o:Oper}{a:Act}{Q:Exit->Act->World->Prop} (T:TypeId)
  (hT:Tryz.prog.underlying T=some (.slice 136)) (hgd:o.guard=none) (lo co:Operand) (hop:o.op=Op.makeSlice T lo co)
  (L C:Int) (n:Nat) (hl:a.eval lo=.int .i64 L) (hc:a.eval co=.int .i64 C) (hL:L=(n:Int)) (hC:C=(n:Int)) (hn:n<=1000000000000)
  (hK:∀ w',di w' w.heap.size n (List.replicate n 0)->(∀ B w0,Below B w0 w->B<=w.heap.size->Below B w0 w')->w.heap.size<w'.heap.size ->
   wpList Tryz.prog ops Q rest (a.put o.dst (.slice (some ⟨w.heap.size,0,none⟩) n n)) w') :
  wpList Tryz.prog ops Q (o :: rest) a w:=by
 obtain⟨i0,hi,hz0,hz1,hz2⟩:=info_parts Tryz.info136;refine wpList_make_full _ hgd lo co T hop w.heap.size 136 i0 (.int .u64 0) 1 hT hi hz0 hz1 .i64 .i64 L C n hl hc hL hC (by rw[hz2];omega) (by unfold maxLen;omega) (Iw _) ?_;intro w' hown hg
 have hr:di w' w.heap.size n (List.replicate n 0):=by
  unfold di gO
  have e:(madeCells (Value.int .u64 0).cells (n*1)).toList=(List.replicate n 0).map fun (d:Nat)=>Value.int .u64 (d:Int):=by
   rw[JO];simp[Value.cells,toList_madeCells_one]
  rw[e] at hown;rw[Ke];exact hown
 refine hK w' hr (fun B w0 hb hB=>hb.grown hg hB (fun k h=>by cases h)) hr.lt
end Go.Proofs.YtlhpcoelfhjomaaGreatDoor
