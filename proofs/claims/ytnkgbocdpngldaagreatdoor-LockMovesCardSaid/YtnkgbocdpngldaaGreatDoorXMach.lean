/- Lemmas of this claim. -/
import Derived.Test.YtnkgbocdpngldaaGreatDoorProg
import Derived.WalkKit
import Derived.WalkSpells
import Derived.WalkLawsBesides
import Derived.Lib.Hide
import Derived.Deep.QuietTactic
import Derived.BigQuiet
import Derived.OrdersHeld
import Derived.Deep.AppendLies
import Derived.Test.YtnkgbocdpngldaaGreatDoorXA
set_option linter.all false
set_option maxRecDepth 100000
set_option maxHeartbeats 8000000
namespace Go.Proofs.YtnkgbocdpngldaaGreatDoor
open Go.RowKit
def nth (l:List Nat) (j:Nat):Nat:=l.getD j 0
theorem dC (l:List Nat) (j:Nat) (h:j<l.length):nth l j=l[j]:=by simp[nth,h]
theorem A6 {l:List Nat}{j:Nat} (h:j<l.length):nth l j∈l:=by rw[dC l j h];exact Dt h
theorem dp {l:List Nat}{j b:Nat} (hl:∀ d∈l,d<b) (h:j<l.length):nth l j<b:=hl _ (A6 h)
theorem zm (l:List Nat) (k j:Nat) (h:j<k):nth (l.take k) j=nth l j:=by simp[nth,h]
def fe (l:List Nat):List Value:=l.map fun (d:Nat)=>Value.int .u64 (d:Int)
theorem mv (l:List Nat):(fe l).length=l.length:=by simp[fe]
theorem sS (l:List Nat) (j:Nat) (h:j<l.length):(fe l)[j]?=some (.int .u64 (nth l j)):=by simp[fe,nth,h]
theorem mu (l m:List Nat):fe (l++m)=fe l++fe m:=by simp[fe]
theorem pO (l:List Nat) (k:Nat):fe (l.take k)=(fe l).take k:=by simp[fe]
theorem Al (l:List Nat) (k d:Nat):fe (l.set k d)=(fe l).set k (.int .u64 d):=by simp[fe,List.map_set]
def AtU (w:World) (p:Option Addr) (l:List Nat):Prop :=
 0<l.length→∃ b o,p=some ⟨b,o,none⟩∧b<w.heap.size∧∀ j,j<l.length→w.cell? ⟨b,o+j,none⟩=some (.int .u64 (nth l j))
def IsU (w:World) (v:Value) (l:List Nat):Prop:=∃ p cap,v=.slice p l.length cap∧l.length≤cap∧cap≤maxLen∧AtU w p l
theorem IsU.below {w w':World}{v:Value}{l:List Nat} (h:IsU w v l) (hb:Below w.heap.size w w'):IsU w' v l:=by
 obtain⟨p,cap,e,h1,h2,h3⟩:=h
 refine⟨p,cap,e,h1,h2,fun hl=>?_⟩
 obtain⟨b,o,e2,hlt,hc⟩:=h3 hl
 exact⟨b,o,e2,C8 hlt hb.size,fun j hj=>(hb.cell (p:=⟨b,o+j,none⟩) hlt).trans (hc j hj)⟩
abbrev fB (w:World) (base:Nat) (v:Value) (l:List Nat):Prop:=w.ownsRow base 243 1 v l.length (fe l)
theorem fB.isU {w:World}{base:Nat}{v:Value}{l:List Nat} (h:fB w base v l):IsU w v l:=by
 obtain⟨hlen,h⟩:=h
 rcases h with ⟨rfl,h0⟩ | ⟨g,cap,cur,rfl,hg,hh,hn,hm,hs,ht⟩
 ·exact⟨none,0,by rw[h0],by omega,by simp[maxLen],fun hp=>by omega⟩
 ·refine⟨some ⟨g,0,none⟩,cap,rfl,hn,hm,fun _=>⟨g,0,rfl,?_,fun j hj=>?_⟩⟩
  ·exact (C_.1 hh).1
  ·rw[cell_of_row w g (0+j) cur _ (0,0) hh]
   have:=sS l j hj
   rw[←ht,FC,if_pos (by omega)] at this
   simpa using this
theorem fB.below {w w':World}{base:Nat}{v:Value}{l:List Nat} (h:fB w base v l) (hb:Below w.heap.size w w'):fB w' base v l:=by
 obtain⟨hlen,h⟩:=h
 refine⟨hlen,?_⟩
 rcases h with h | ⟨g,cap,cur,rfl,hg,hh,r⟩
 ·exact Or.inl h
 ·exact Or.inr ⟨g,cap,cur,rfl,hg,by rw[hb.block g (C_.1 hh).1];exact hh,r⟩
theorem eQ (w:World) (d:Nat):∀ (j:Nat) (u:Value),[Value.int .u64 (d:Int)][j]?=some u→(w.alloc (.cells #[.int .u64 d] 243)).cell? ((⟨w.heap.size,0,none⟩:Addr).add j)=some u:=by
 intro j u hj
 match j,hj with
 | 0,hj=>simp at hj;subst hj;simp only[Addr.add,World.cell?,if_true,heap_alloc_new];rfl
theorem Tryz.info243:(Tryz.prog.info? 243).map (fun i=>(i.zero,i.size,i.bytes))=some (some (.int .u64 0),1,8):=by kernel_rfl
theorem fh {w:World}{ops:Array Oper}{rest:List Oper}{o:Oper}{a:Act}{Q:Exit→Act→World→Prop} (T:TypeId)
  (hT:Tryz.prog.underlying T=some (.slice 243)) (hgd:o.guard=none) (s x:Operand)
  (ho:o.op=.call { callee:=.builtin .append,args:=#[s,x],argTypes:=#[T,T] })
  (base:Nat) (v:Value) (l:List Nat) (z:Int) (d:Nat) (hz:z=d) (hs:a.eval s=v) (hown:fB w base v l)
  (hx:a.eval x=.slice (some ⟨w.heap.size,0,none⟩) 1 1) (hlen:l.length<1000000000000) (hbase:base≤w.heap.size)
  (h:∀ v' w',fB w' base v' (l++[d])→(∀ B w0,Below B w0 w→B≤base→Below B w0 w')→wpList Tryz.prog ops Q rest (a.put o.dst v') w') :
  wpList Tryz.prog ops Q (o :: rest) a (w.alloc (.cells #[.int .u64 z] 243)):=by
 subst hz
 obtain⟨i0,hi,hz0,hz1,hz2⟩:=info_parts Tryz.info243
 refine wpList_append_own _ hgd s x T ho base 243 i0 (.int .u64 0) 1 8 hT hi hz0 hz1 hz2 rfl (by decide) v l.length (fe l) hs (hown.alloc _) ⟨w.heap.size,0,none⟩ 1 1 [.int .u64 d] hx rfl ?_ ?_ ?_ ?_ ?_ ?_
 ·exact eQ w d
 ·intro u hu;simp at hu;subst hu;rfl
 ·unfold maxLen;omega
 ·omega
 ·simp;omega
 ·intro v' w' hown' hg _
  refine h v' w' ?_ ?_
  ·have:fe (l++[d])=fe l++[.int .u64 d]:=by rw[mu];rfl
   rw[fB,this,Dd];exact hown'
  ·intro B w0 hb hB
   have hbs:=hown.lt
   refine (hb.alloc (by omega) _).grown hg (by simp;omega) ?_
   intro k hk
   have:=(hbs k hk).1
   omega
def cF (w:World) (g cap:Nat) (l:List Nat):Prop:=w.ownsRow g 243 1 (.slice (some ⟨g,0,none⟩) l.length cap) l.length (fe l)
theorem cF.own {w:World}{g cap base:Nat}{l:List Nat} (h:cF w g cap l) (hb:base≤g):fB w base (.slice (some ⟨g,0,none⟩) l.length cap) l:=by
 obtain⟨h1,h2⟩:=h
 refine⟨h1,?_⟩
 rcases h2 with h2 | ⟨g',cap',cur,e,_,r⟩
 ·exact Or.inl h2
 ·have:g'=g:=by simp at e;exact e.1.symm
  subst this
  exact Or.inr ⟨g',cap',cur,e,hb,r⟩
theorem cF.lt {w:World}{g cap:Nat}{l:List Nat} (h:cF w g cap l):g<w.heap.size:=(World.ownsRow.lt h g rfl).2
theorem cF.isU {w:World}{g cap:Nat}{l:List Nat} (h:cF w g cap l):IsU w (.slice (some ⟨g,0,none⟩) l.length cap) l:=fB.isU (h.own (C6 _))
theorem cF.cell {w:World}{g cap:Nat}{l:List Nat} (h:cF w g cap l) {j:Nat} (hj:j<l.length):w.cell? ⟨g,j,none⟩=some (.int .u64 (nth l j)):=by
 rw[World.ownsRow.cellAt h j (by omega),sS l j hj]
theorem cF.free {w:World}{g cap:Nat}{l:List Nat} (h:cF w g cap l) (j:Nat):w.frozen? ⟨g,j,none⟩=false:=World.ownsRow.frozenAt h j
theorem cF.set {w:World}{g cap:Nat}{l:List Nat} (h:cF w g cap l) (j d:Nat) (z:Int) (hz:z=d):cF (w.setCell ⟨g,j,none⟩ (.int .u64 z)) g cap (l.set j d):=by
 subst hz
 have:=(World.ownsRow.stored h j (.int .u64 d)).1
 unfold cF
 rw[Al,DX];exact this
theorem cF.drewN {w:World}{g cap:Nat}{l:List Nat} (h:cF w g cap l) (n:Nat):cF (w.drewN n) g cap l:=h
theorem cF.below {w w':World}{g cap:Nat}{l:List Nat} (h:cF w g cap l) (hb:Below w.heap.size w w'):cF w' g cap l:=fB.below h hb
theorem AtU.below {w w':World}{p:Option Addr}{l:List Nat} (h:AtU w p l) {B:Nat} (hb:Below B w w') (hB:w.heap.size≤B):AtU w' p l:=by
 intro hl
 obtain⟨b,o,e2,hlt,hc⟩:=h hl
 exact⟨b,o,e2,C8 hlt hb.size,fun j hj=>(hb.cell (p:=⟨b,o+j,none⟩) (by show b<B;omega)).trans (hc j hj)⟩
theorem gi {w:World}{ops:Array Oper}{rest:List Oper}{o:Oper}{a:Act}{Q:Exit→Act→World→Prop} (T:TypeId)
  (hT:Tryz.prog.underlying T=some (.slice 243)) (hgd:o.guard=none) (lo co:Operand) (hop:o.op=Op.makeSlice T lo co)
  (L C:Int) (n:Nat) (hl:a.eval lo=.int .i64 L) (hc:a.eval co=.int .i64 C) (hL:L=(n:Int)) (hC:C=(n:Int)) (hn:n≤1000000000000)
  (hK:∀ w',cF w' w.heap.size n (List.replicate n 0)→(∀ B w0,Below B w0 w→B≤w.heap.size→Below B w0 w')→w.heap.size<w'.heap.size →
   wpList Tryz.prog ops Q rest (a.put o.dst (.slice (some ⟨w.heap.size,0,none⟩) n n)) w') :
  wpList Tryz.prog ops Q (o :: rest) a w:=by
 obtain⟨i0,hi,hz0,hz1,hz2⟩:=info_parts Tryz.info243
 refine wpList_make_full _ hgd lo co T hop w.heap.size 243 i0 (.int .u64 0) 1 hT hi hz0 hz1 .i64 .i64 L C n hl hc hL hC (by rw[hz2];omega) (by unfold maxLen;omega) (C6 _) ?_
 intro w' hown hg
 have hr:cF w' w.heap.size n (List.replicate n 0):=by
  unfold cF fe
  have e:(madeCells (Value.int .u64 0).cells (n*1)).toList=(List.replicate n 0).map fun (d:Nat)=>Value.int .u64 (d:Int):=by
   rw[Er];simp[Value.cells,toList_madeCells_one]
  rw[e] at hown
  rw[EO];exact hown
 refine hK w' hr (fun B w0 hb hB=>hb.grown hg hB (fun k h=>by cases h)) hr.lt
structure St where
 a0:Int
 a1:Int
 a2:Int
 f0:Int
 f1:Int
 f2:Int
instance instSt:DecidableEq St:=fun x y =>
 if h:x.a0=y.a0∧x.a1=y.a1∧x.a2=y.a2∧x.f0=y.f0∧x.f1=y.f1∧x.f2=y.f2 then
  isTrue (by
   obtain⟨h0,h1,h2,h3,h4,h5⟩:=h
   cases x;cases y
   simp only at h0 h1 h2 h3 h4 h5
   subst h0;subst h1;subst h2;subst h3;subst h4;subst h5
   rfl)
 else isFalse (fun e=>h (by subst e;exact⟨rfl,rfl,rfl,rfl,rfl,rfl⟩))
def St.a (x:St):Nat→Int
 | 0=>x.a0
 | 1=>x.a1
 | _=>x.a2
def St.f (x:St):Nat→Int
 | 0=>x.f0
 | 1=>x.f1
 | _=>x.f2
def St.zero:St:=⟨0,0,0,0,0,0⟩
def St.go (x:St) (g:Nat) (k:Int):St :=
 match g with
 | 0=>⟨k,x.a1,x.a2,0,x.f1,x.f2⟩
 | 1=>⟨x.a0,k,x.a2,x.f0,0,x.f2⟩
 | _=>⟨x.a0,x.a1,k,x.f0,x.f1,0⟩
def St.fail (x:St) (g:Nat):St :=
 match g with
 | 0=>⟨x.a0,x.a1,x.a2,x.f0+1,x.f1,x.f2⟩
 | 1=>⟨x.a0,x.a1,x.a2,x.f0,x.f1+1,x.f2⟩
 | _=>⟨x.a0,x.a1,x.a2,x.f0,x.f1,x.f2+1⟩
theorem lt3 {g:Nat} (h:g<3):g=0∨g=1∨g=2:=by omega
theorem St.a_go (x:St) {g j:Nat} (hg:g<3) (hj:j<3) (k:Int):(x.go g k).a j=if j=g then k else x.a j:=by
 rcases lt3 hg with rfl | rfl | rfl<;>rcases lt3 hj with rfl | rfl | rfl<;>rfl
theorem St.f_go (x:St) {g j:Nat} (hg:g<3) (hj:j<3) (k:Int):(x.go g k).f j=if j=g then 0 else x.f j:=by
 rcases lt3 hg with rfl | rfl | rfl<;>rcases lt3 hj with rfl | rfl | rfl<;>rfl
theorem St.a_fail (x:St) {g:Nat} (hg:g<3) (j:Nat):(x.fail g).a j=x.a j:=by
 rcases lt3 hg with rfl | rfl | rfl<;>(unfold St.a;split<;>rfl)
theorem St.f_fail (x:St) {g j:Nat} (hg:g<3) (hj:j<3):(x.fail g).f j=if j=g then x.f j+1 else x.f j:=by
 rcases lt3 hg with rfl | rfl | rfl<;>rcases lt3 hj with rfl | rfl | rfl<;>rfl
structure Ev where
 g:Int
 k:Int
instance instEv:DecidableEq Ev:=fun x y =>
 if h:x.g=y.g∧x.k=y.k then
  isTrue (by
   obtain⟨h0,h1⟩:=h
   cases x;cases y
   simp only at h0 h1
   subst h0;subst h1
   rfl)
 else isFalse (fun e=>h (by subst e;exact⟨rfl,rfl⟩))
structure aH where
 n:Nat
 rungs:Nat→Nat
 next:Nat→Nat→Int
 back:Nat→Nat→Int
 needs:Nat→Nat→List (Nat×List Int)
 tries:Nat→Nat→Int
 mins:Nat→Nat→Int
structure aH.Good (M:aH):Prop where
 n0:1≤M.n
 n3:M.n≤3
 r0:∀ g,g<M.n→1≤M.rungs g
 r8:∀ g,g<M.n→M.rungs g≤8
 next:∀ g k,g<M.n→k<M.rungs g→-1≤M.next g k∧M.next g k<M.rungs g
 back0:∀ g k,g<M.n→k<M.rungs g→0≤M.back g k
 back:∀ g k,g<M.n→k<M.rungs g→0<k→M.back g k<k
 backz:∀ g,g<M.n→M.back g 0=0
 needz:∀ g,g<M.n→M.needs g 0=[]
 need:∀ g k,g<M.n→k<M.rungs g→∀ x∈M.needs g k,x.1<g
 tries:∀ g k,g<M.n→k<M.rungs g→1≤M.tries g k∧M.tries g k≤4
 mins:∀ g k,g<M.n→k<M.rungs g→1≤M.mins g k∧M.mins g k≤60
structure aH.At (M:aH) (x:St):Prop where
 a:∀ g,g<M.n→0≤x.a g∧x.a g<M.rungs g
 f:∀ g,g<M.n→0≤x.f g∧x.f g<M.tries g (x.a g).toNat
 a0:∀ g,M.n≤g→g<3→x.a g=0
 f0:∀ g,M.n≤g→g<3→x.f g=0
def dK (M:aH) (x:St) (g:Nat):Bool:=(M.needs g (x.a g).toNat).all (fun n=>n.2.contains (x.a n.1))
def mA (M:aH) (g:Nat):Nat→St→St
 | 0,x=>x
 | m+1,x=>if dK M x g then x else mA M g m (x.go g (M.back g (x.a g).toNat))
def iP (M:aH) (g:Nat) (x:St):St:=mA M g ((x.a g).toNat+1) x
def lW (M:aH):Nat→Nat→St→St
 | 0,_,x=>x
 | m+1,i,x=>lW M m (i+1) (iP M i x)
def jQ (M:aH) (x:St) (v:Ev):St :=
 let g:=v.g.toNat
 let k:=(x.a g).toNat
 if v.k=2 then x.go g 0
 else if v.k=0∧0≤M.next g k then x.go g (M.next g k)
 else if v.k=1∧x.f g=M.tries g k-1 then x.go g (M.back g k)
 else if v.k=1 then x.fail g
 else x
def cE (M:aH) (x:St) (v:Ev):St:=lW M M.n 0 (jQ M x v)
theorem aH.At.go {M:aH}{x:St} (h:M.At x) (G:M.Good) {g:Nat} (hg:g<M.n) {k:Int} (hk:0≤k) (hk2:k<M.rungs g):M.At (x.go g k):=by
 have h3:=G.n3
 refine⟨fun j hj=>?_,fun j hj=>?_,fun j hj hj3=>?_,fun j hj hj3=>?_⟩
 ·rw[St.a_go _ (by omega) (by omega)]
  split
  ·rename_i e;subst e;exact⟨hk,hk2⟩
  ·exact h.a j hj
 ·rw[St.a_go _ (by omega) (by omega),St.f_go _ (by omega) (by omega)]
  split
  ·rename_i e;subst e
   have:=G.tries j k.toNat hj (by omega)
   omega
  ·exact h.f j hj
 ·rw[St.a_go _ (by omega) (by omega),if_neg (by omega)];exact h.a0 j hj hj3
 ·rw[St.f_go _ (by omega) (by omega),if_neg (by omega)];exact h.f0 j hj hj3
theorem aH.At.zero {M:aH} (G:M.Good):M.At St.zero:=by
 have ha:∀ g,St.zero.a g=0:=fun g=>by unfold St.a St.zero;split<;>rfl
 have hf:∀ g,St.zero.f g=0:=fun g=>by unfold St.f St.zero;split<;>rfl
 refine⟨fun g hg=>?_,fun g hg=>?_,fun g _ _=>ha g,fun g _ _=>hf g⟩
 ·rw[ha];have:=G.r0 g hg;omega
 ·rw[ha,hf];have:=G.tries g 0 hg (G.r0 g hg);simp;omega
theorem o9 {M:aH} (G:M.Good) {g:Nat} (hg:g<M.n):∀ (m:Nat) (x:St),M.At x→(x.a g).toNat<m→mA M g (m+1) x=mA M g m x
 | 0,x,_,h=>by omega
 | m+1,x,hx,h=>by
  rw[mA]
  conv=>rhs;rw[mA]
  split
  ·rfl
  ·rename_i hh
   have ha:=hx.a g hg
   have h3:=G.n3
   by_cases hz:(x.a g).toNat=0
   ·exfalso;apply hh;unfold dK;rw[hz,G.needz g hg];rfl
   ·have hb:=G.back g (x.a g).toNat hg (by omega) (by omega)
    have hb0:=G.back0 g (x.a g).toNat hg (by omega)
    refine o9 G hg m _ (hx.go G hg hb0 (by omega)) ?_
    rw[St.a_go _ (by omega) (by omega),if_pos rfl]
    omega
theorem lV {M:aH} (G:M.Good) {g:Nat} (hg:g<M.n) {x:St} (hx:M.At x):∀ (d m:Nat),(x.a g).toNat<m→mA M g (m+d) x=mA M g m x
 | 0,_,_=>rfl
 | d+1,m,h=>by rw[←DS,o9 G hg _ _ hx (by omega),lV G hg hx d m h]
theorem m7 {M:aH} (G:M.Good) {g:Nat} (hg:g<M.n) {x:St} (hx:M.At x) (hh:dK M x g=false) :
  0<(x.a g).toNat∧0≤M.back g (x.a g).toNat∧M.back g (x.a g).toNat<x.a g∧iP M g x=iP M g (x.go g (M.back g (x.a g).toNat)):=by
 have ha:=hx.a g hg
 have h3:=G.n3
 by_cases hz:(x.a g).toNat=0
 ·exfalso
  have:dK M x g=true:=by unfold dK;rw[hz,G.needz g hg];rfl
  rw[this] at hh;cases hh
 ·have hb:=G.back g (x.a g).toNat hg (by omega) (by omega)
  have hb0:=G.back0 g (x.a g).toNat hg (by omega)
  refine⟨by omega,hb0,by omega,?_⟩
  have hgo:=hx.go G hg hb0 (by omega)
  have hage:((x.go g (M.back g (x.a g).toNat)).a g)=M.back g (x.a g).toNat:=by rw[St.a_go _ (by omega) (by omega),if_pos rfl]
  unfold iP
  conv=>lhs;rw[mA,if_neg (by rw[hh];exact Dl)]
  rw[hage]
  have:=lV G hg hgo ((x.a g).toNat-((M.back g (x.a g).toNat).toNat+1)) ((M.back g (x.a g).toNat).toNat+1) (by rw[hage];omega)
  rw[←this]
  congr 1
  omega
theorem mZ {M:aH}{g:Nat}{x:St} (hh:dK M x g=true):iP M g x=x:=by
 unfold iP;rw[mA,if_pos hh]
theorem uK {M:aH} (G:M.Good) {g:Nat} (hg:g<M.n):∀ (m:Nat) (x:St),M.At x→M.At (mA M g m x)
 | 0,_,h=>h
 | m+1,x,h=>by
  rw[mA]
  split
  ·exact h
  ·have ha:=h.a g hg
   have hb0:=G.back0 g (x.a g).toNat hg (by omega)
   refine uK G hg m _ (h.go G hg hb0 ?_)
   by_cases hz:(x.a g).toNat=0
   ·rw[hz,G.backz g hg];have:=G.r0 g hg;omega
   ·have hb:=G.back g (x.a g).toNat hg (by omega) (by omega);omega
theorem rt {M:aH} (G:M.Good):∀ (m i:Nat) (x:St),i+m≤M.n→M.At x→M.At (lW M m i x)
 | 0,_,_,_,h=>h
 | m+1,i,x,hi,h=>rt G m (i+1) _ (by omega) (uK G (by omega) _ _ h)
def dG (M:aH) (v:Ev):Bool:=(decide (0≤v.g)&&decide (v.g≤(M.n:Int)-1))&&(decide (0≤v.k)&&decide (v.k≤2))
theorem gG {M:aH}{v:Ev}:dG M v=true↔(0≤v.g∧v.g<M.n∧0≤v.k∧v.k≤2):=by
 unfold dG
 simp only[Da,decide_eq_true_eq]
 omega
theorem BL {M:aH} (G:M.Good) {x:St} (h:M.At x) {v:Ev} (hv:dG M v=true):M.At (jQ M x v):=by
 obtain⟨h1,h2,h3,h4⟩:=gG.1 hv
 have hg:v.g.toNat<M.n:=by omega
 have ha:=h.a _ hg
 have hf:=h.f _ hg
 have hn3:=G.n3
 have hr:=G.r0 _ hg
 have hn:=G.next v.g.toNat (x.a v.g.toNat).toNat hg (by omega)
 have hb0:=G.back0 v.g.toNat (x.a v.g.toNat).toNat hg (by omega)
 have hb:M.back v.g.toNat (x.a v.g.toNat).toNat<M.rungs v.g.toNat:=by
  by_cases hz:(x.a v.g.toNat).toNat=0
  ·rw[hz,G.backz _ hg];omega
  ·have hb:=G.back v.g.toNat (x.a v.g.toNat).toNat hg (by omega) (by omega);omega
 unfold jQ
 simp only
 split
 ·exact h.go G hg (by omega) (by omega)
 ·split
  ·exact h.go G hg (by omega) (by omega)
  ·split
   ·exact h.go G hg hb0 hb
   ·rename_i hne
    split
    ·rename_i hk
     refine⟨fun j hj=>by rw[St.a_fail _ (by omega)];exact h.a j hj,fun j hj=>?_,fun j hj hj3=>by rw[St.a_fail _ (by omega)];exact h.a0 j hj hj3,fun j hj hj3=>?_⟩
     ·rw[St.a_fail _ (by omega),St.f_fail _ (by omega) (by omega)]
      have:=h.f j hj
      split
      ·rename_i e;subst e
       have:¬ x.f v.g.toNat=M.tries v.g.toNat (x.a v.g.toNat).toNat-1:=fun e=>hne ⟨hk,e⟩
       omega
      ·exact this
     ·rw[St.f_fail _ (by omega) (by omega),if_neg (by omega)];exact h.f0 j hj hj3
    ·exact h
theorem qx {M:aH} (G:M.Good) {x:St} (h:M.At x) {v:Ev} (hv:dG M v=true):M.At (cE M x v) :=
 rt G _ _ _ (by omega) (BL G h hv)
/-! ### the search -/
structure aM where
 src:St
 ev:Ev
 first:Bool
def Tab.get (R:List (St×aM)) (x:St):Option aM:=(R.find? (fun p=>decide (p.1=x))).map (·.2)
def evs (n:Nat):List Ev:=(List.range n).flatMap (fun (g:Nat)=>[⟨g,0⟩,⟨g,1⟩,⟨g,2⟩])
def kc (M:aH) (al:Ev→Bool) (now:St) (s:List (St×aM)×List St) (v:Ev):List (St×aM)×List St :=
 if (Tab.get s.1 (cE M now v)).isNone&&al v then (s.1++[(cE M now v,⟨now,v,false⟩)],s.2++[cE M now v]) else s
def nj (M:aH) (al:Ev→Bool) (now:St) (s:List (St×aM)×List St):List (St×aM)×List St:=(evs M.n).foldl (kc M al now) s
def bfs (M:aH) (al:Ev→Bool) (fd:St→Bool):Nat→List (St×aM)→List St→Option St×List (St×aM)
 | 0,R,_=>(none,R)
 | _+1,R,[]=>(none,R)
 | m+1,R,now :: q=>if fd now then (some now,R) else bfs M al fd m (nj M al now (R,q)).1 (nj M al now (R,q)).2
def dJ (R:List (St×aM)):Nat→St→List Ev
 | 0,_=>[]
 | m+1,x=>match Tab.get R x with
  | none=>[]
  | some s=>if s.first then [] else s.ev :: dJ R m s.src
def qH (x:St):List (St×aM):=[(x,⟨St.zero,⟨0,0⟩,true⟩)]
def cX (M:aH) (x:St) (al:Ev→Bool) (fd:St→Bool):Option St×List (St×aM):=bfs M al fd 65537 (qH x) [x]
theorem nJ:∀ (n:Nat) (l:List Nat),l.Nodup→(∀ x∈l,x<n)→l.length≤n
 | 0,[],_,_=>C6 _
 | 0,x :: l,_,h=>absurd (h x (DC ..)) (Fx _)
 | n+1,l,hd,h=>by
  have h1:(l.erase n).length≤n:=nJ n (l.erase n) (hd.erase n) (fun x hx=>by
   have h2:=(List.Nodup.mem_erase_iff hd).1 hx
   have h3:=h x h2.2
   omega)
  have h4:=List.length_erase (l:=l) (a:=n)
  split at h4<;>omega
def aI (R:List (St×aM)):List St:=R.map (·.1)
def rc (x:St):Nat:=((((x.a0.toNat*8+x.a1.toNat)*8+x.a2.toNat)*4+x.f0.toNat)*4+x.f1.toNat)*4+x.f2.toNat
theorem dr {M:aH} (G:M.Good) {x:St} (h:M.At x):∀ g,g<3→0≤x.a g∧x.a g<8∧0≤x.f g∧x.f g<4:=by
 intro g hg
 by_cases hn:g<M.n
 ·have h1:=h.a g hn
  have h2:=h.f g hn
  have h3:=G.r8 g hn
  have h4:=G.tries g (x.a g).toNat hn (by omega)
  omega
 ·have h1:=h.a0 g (by omega) hg
  have h2:=h.f0 g (by omega) hg
  omega
theorem tn4 {a:Int} (h:0≤a∧a<4):a.toNat<4:=by omega
theorem tn8 {a:Int}{p:Prop} (h:0≤a∧a<8∧p):a.toNat<8:=by have:=h.2.1;have:=h.1;omega
theorem lM {a b:Int} (ha:0≤a) (hb:0≤b) (h:a.toNat=b.toNat):a=b:=by omega
theorem BC {a b c d:Nat} (hc:c<8) (hd:d<8) (h:a*8+c=b*8+d):a=b∧c=d:=by omega
theorem zu {a b c d:Nat} (hc:c<4) (hd:d<4) (h:a*4+c=b*4+d):a=b∧c=d:=by omega
theorem lt8 {a c m:Nat} (ha:a<m) (hc:c<8):a*8+c<m*8:=by omega
theorem lt4 {a c m:Nat} (ha:a<m) (hc:c<4):a*4+c<m*4:=by omega
theorem AO {M:aH} (G:M.Good) {x:St} (h:M.At x):rc x<32768:=by
 have h0:=dr G h 0 (by omega)
 have h1:=dr G h 1 (by omega)
 have h2:=dr G h 2 (by omega)
 simp only[St.a,St.f] at h0 h1 h2
 have e0:x.a0.toNat<8:=by omega
 have e1:=lt8 e0 (show x.a1.toNat<8 by omega)
 have e2:=lt8 e1 (show x.a2.toNat<8 by omega)
 have e3:=lt4 e2 (show x.f0.toNat<4 by omega)
 have e4:=lt4 e3 (show x.f1.toNat<4 by omega)
 have e5:=lt4 e4 (show x.f2.toNat<4 by omega)
 exact C8 e5 (by decide)
theorem x8 {M:aH} (G:M.Good) {x y:St} (hx:M.At x) (hy:M.At y) (e:rc x=rc y):x=y:=by
 have h0:=dr G hx 0 (by omega)
 have h1:=dr G hx 1 (by omega)
 have h2:=dr G hx 2 (by omega)
 have k0:=dr G hy 0 (by omega)
 have k1:=dr G hy 1 (by omega)
 have k2:=dr G hy 2 (by omega)
 simp only[St.a,St.f] at h0 h1 h2 k0 k1 k2
 unfold rc at e
 obtain⟨e,g5⟩:=zu (tn4 h2.2.2) (tn4 k2.2.2) e
 obtain⟨e,g4⟩:=zu (tn4 h1.2.2) (tn4 k1.2.2) e
 obtain⟨e,g3⟩:=zu (tn4 h0.2.2) (tn4 k0.2.2) e
 obtain⟨e,g2⟩:=BC (tn8 h2) (tn8 k2) e
 obtain⟨g0,g1⟩:=BC (tn8 h1) (tn8 k1) e
 have e0:=lM h0.1 k0.1 g0
 have e1:=lM h1.1 k1.1 g1
 have e2:=lM h2.1 k2.1 g2
 have e3:=lM h0.2.2.1 k0.2.2.1 g3
 have e4:=lM h1.2.2.1 k1.2.2.1 g4
 have e5:=lM h2.2.2.1 k2.2.2.1 g5
 cases x;cases y
 simp only at e0 e1 e2 e3 e4 e5
 subst e0;subst e1;subst e2;subst e3;subst e4;subst e5
 rfl
theorem gD {R:List (St×aM)}{x:St}:Tab.get R x=none↔x∉aI R:=by
 unfold Tab.get aI
 rw[Option.map_eq_none_iff,List.find?_eq_none]
 constructor
 ·intro h hm
  obtain⟨p,hp,e⟩:=DO.1 hm
  exact h p hp (by simpa using e)
 ·intro h p hp e
  exact h (DO.2 ⟨p,hp,by simpa using e⟩)
theorem tF {R:List (St×aM)}{x y:St}{s:aM} (hy:y∉aI R):Tab.get (R++[(y,s)]) x=if x=y then some s else Tab.get R x:=by
 unfold Tab.get
 rw[List.find?_append]
 by_cases hx:x=y
 ·subst hx
  have:R.find? (fun p=>decide (p.1=x))=none:=by
   have:=gD.2 hy
   unfold Tab.get at this
   exact Option.map_eq_none_iff.1 this
  rw[this]
  simp
 ·rw[if_neg hx]
  have hyx:¬ y=x:=fun e=>hx e.symm
  cases R.find? (fun p=>decide (p.1=x))<;>simp[hyx]
theorem ly {R:List (St×aM)} (hd:(aI R).Nodup) {j:Nat} (hj:j<R.length):Tab.get R R[j].1=some R[j].2:=by
 unfold Tab.get
 have:R.find? (fun p=>decide (p.1=R[j].1))=some R[j]:=by
  rw[List.find?_eq_some_iff_getElem]
  refine⟨by simp,j,hj,rfl,fun i hi=>?_⟩
  have hi2:i<R.length:=by omega
  have:=List.pairwise_iff_getElem.1 hd i j (by unfold aI;simpa using hi2) (by unfold aI;simpa using hj) hi
  simp only[EP,decide_eq_false_iff_not]
  intro e
  exact this (by unfold aI;simpa using e)
 rw[this];rfl
structure Inv (M:aH) (al:Ev→Bool) (fd:St→Bool) (x0:St) (R:List (St×aM)) (i:Nat):Prop where
 nd:(aI R).Nodup
 at_:∀ x∈aI R,M.At x
 h0:R[0]?=some (x0,⟨St.zero,⟨0,0⟩,true⟩)
 src:∀ j p,0<j→R[j]?=some p→∃ k q,k<j∧k<i+1∧R[k]?=some q∧p.2.src=q.1∧p.2.first=false∧p.1=cE M q.1 p.2.ev∧dG M p.2.ev=true∧al p.2.ev=true
 done:∀ j p,j<i→R[j]?=some p→fd p.1=false∧∀ v,dG M v=true→al v=true→cE M p.1 v∈aI R
theorem fy {M:aH} (G:M.Good) {al:Ev→Bool}{fd:St→Bool}{x0:St}{R:List (St×aM)}{i:Nat} (h:Inv M al fd x0 R i):R.length≤32768:=by
 have h1:((aI R).map rc).Nodup:=by
  unfold List.Nodup
  rw[List.pairwise_map]
  refine List.Pairwise.imp_of_mem ?_ h.nd
  intro a b ha hb hne e
  exact hne (x8 G (h.at_ a ha) (h.at_ b hb) e)
 have:=nJ 32768 _ h1 (fun n hn=>by
  obtain⟨x,hx,rfl⟩:=DO.1 hn
  exact AO G (h.at_ x hx))
 simpa[aI] using this
theorem A5 {n:Nat}{v:Ev}:v∈evs n↔(0≤v.g∧v.g<n∧0≤v.k∧v.k≤2):=by
 unfold evs
 rw[List.mem_flatMap]
 constructor
 ·rintro⟨g,hg,hv⟩
  have:=Dv.1 hg
  simp only[Dk,Dm,or_false] at hv
  rcases hv with rfl | rfl | rfl<;>simp<;>omega
 ·rintro⟨h1,h2,h3,h4⟩
  refine⟨v.g.toNat,Dv.2 (by omega),?_⟩
  obtain⟨g,k⟩:=v
  simp only at h1 h2 h3 h4 ⊢
  have e1:((g.toNat:Nat):Int)=g:=by omega
  have e2:k=0∨k=1∨k=2:=by omega
  rw[e1]
  rcases e2 with rfl | rfl | rfl<;>simp
theorem ko {M:aH}{v:Ev}:v∈evs M.n↔dG M v=true:=by rw[A5,gG]
structure Mid (M:aH) (al:Ev→Bool) (fd:St→Bool) (x0:St) (now:St) (R:List (St×aM)) (i:Nat) (vs:List Ev):Prop where
 inv:Inv M al fd x0 R i
 here:∃ s,R[i]?=some (now,s)
 seen:∀ v∈vs,al v=true→cE M now v∈aI R
theorem rX {M:aH} (G:M.Good) {al:Ev→Bool}{fd:St→Bool}{x0 now:St}{R:List (St×aM)}{i:Nat}{vs:List Ev}{Q:List St} (h:Mid M al fd x0 now R i vs) {v:Ev} (hv:dG M v=true)
  (hQ:(now :: Q)=(aI R).drop i):Mid M al fd x0 now (kc M al now (R,Q) v).1 i (vs++[v])∧(now :: (kc M al now (R,Q) v).2)=(aI (kc M al now (R,Q) v).1).drop i:=by
 obtain⟨s,hs⟩:=h.here
 have hil:i<R.length:=(De.1 hs).1
 have hnowm:now∈aI R:=DO.2 ⟨_,Eu hs,rfl⟩
 unfold kc
 dsimp only
 by_cases hc:((Tab.get R (cE M now v)).isNone&&al v)=true
 ·rw[if_pos hc]
  rw[Da] at hc
  dsimp only
  have hn:cE M now v∉aI R:=gD.1 (Option.isNone_iff_eq_none.1 hc.1)
  have hk:aI (R++[(cE M now v,⟨now,v,false⟩)])=aI R++[cE M now v]:=by unfold aI;simp
  refine⟨⟨⟨?_,?_,?_,?_,?_⟩,⟨s,?_⟩,?_⟩,?_⟩
  ·rw[hk]
   rw[FK]
   refine⟨h.inv.nd,by simp,?_⟩
   intro a ha b hb e
   simp at hb
   subst hb;subst e
   exact hn ha
  ·intro x hx
   rw[hk] at hx
   rcases DA.1 hx with hx | hx
   ·exact h.inv.at_ x hx
   ·simp at hx;subst hx;exact qx G (h.inv.at_ now hnowm) hv
  ·rw[DF (by omega)];exact h.inv.h0
  ·intro j p hj hp
   by_cases hjl:j<R.length
   ·rw[DF hjl] at hp
    obtain⟨k,q,h1,h2,h3,h4⟩:=h.inv.src j p hj hp
    exact⟨k,q,h1,h2,by rw[DF (by omega)];exact h3,h4⟩
   ·have hj2:=(De.1 hp).1
    simp at hj2
    have:j=R.length:=by omega
    subst this
    simp at hp
    subst hp
    exact⟨i,(now,s),hil,by omega,by rw[DF hil];exact hs,rfl,rfl,rfl,hv,hc.2⟩
  ·intro j p hj hp
   rw[DF (by omega)] at hp
   obtain⟨h1,h2⟩:=h.inv.done j p hj hp
   exact⟨h1,fun v hv ha=>by rw[hk];exact Ea _ (h2 v hv ha)⟩
  ·rw[DF hil];exact hs
  ·intro u hu ha
   rw[hk]
   rcases DA.1 hu with hu | hu
   ·exact Ea _ (h.seen u hu ha)
   ·simp at hu;subst hu;exact List.mem_append_right _ (D9.2 rfl)
  ·rw[hk,List.drop_append_of_le_length (by unfold aI;simp;omega),←hQ];rfl
 ·rw[if_neg hc]
  refine⟨⟨h.inv,h.here,?_⟩,hQ⟩
  intro u hu ha
  rcases DA.1 hu with hu | hu
  ·exact h.seen u hu ha
  ·simp at hu;subst hu
   apply Classical.byContradiction
   intro hm
   apply hc
   rw[gD.2 hm,ha];rfl
theorem uS {M:aH} (G:M.Good) {al:Ev→Bool}{fd:St→Bool}{x0 now:St}{i:Nat}:∀ (us vs:List Ev) (R:List (St×aM)) (Q:List St),(∀ v∈us,dG M v=true)→Mid M al fd x0 now R i vs→(now :: Q)=(aI R).drop i →
  Mid M al fd x0 now (us.foldl (kc M al now) (R,Q)).1 i (vs++us)∧(now :: (us.foldl (kc M al now) (R,Q)).2)=(aI (us.foldl (kc M al now) (R,Q)).1).drop i
 | [],vs,R,Q,_,h,hQ=>by simpa using ⟨h,hQ⟩
 | u :: us,vs,R,Q,hu,h,hQ=>by
  obtain⟨h1,h2⟩:=rX G h (hu u (DC ..)) hQ
  have:=uS G us (vs++[u]) _ _ (fun v hv=>hu v (DZ _ hv)) h1 h2
  rw[DM] at this
  exact this
theorem rP {M:aH} (G:M.Good) {al:Ev→Bool}{fd:St→Bool}{x0 now:St}{R:List (St×aM)}{i:Nat}{Q:List St} (h:Inv M al fd x0 R i) (hQ:(now :: Q)=(aI R).drop i) (hf:fd now=false) :
  Inv M al fd x0 (nj M al now (R,Q)).1 (i+1)∧(nj M al now (R,Q)).2=(aI (nj M al now (R,Q)).1).drop (i+1):=by
 have hi:i<(aI R).length:=by
  rcases DP i (aI R).length with h | h
  ·exact h
  ·rw[Dz h] at hQ;cases hQ
 have hil:i<R.length:=by simpa[aI] using hi
 have hnow:(aI R)[i]=now:=by
  rw[DD hi] at hQ
  exact (List.cons.inj hQ).1.symm
 have hs:R[i]?=some (now,R[i].2):=by
  rw[C7 hil]
  have:R[i].1=now:=by rw[←hnow];simp[aI]
  rw[←this]
 obtain⟨h1,h2⟩:=uS G (evs M.n) [] R Q (fun v hv=>ko.1 hv) ⟨h,⟨_,hs⟩,fun v hv=>absurd hv (Dm)⟩ hQ
 rw[D7] at h1
 unfold nj
 obtain⟨s',hs'⟩:=h1.here
 refine⟨⟨h1.inv.nd,h1.inv.at_,h1.inv.h0,fun j p hj hp=>?_,fun j p hj hp=>?_⟩,?_⟩
 ·obtain⟨k,q,a,b,c⟩:=h1.inv.src j p hj hp
  exact⟨k,q,a,by omega,c⟩
 ·by_cases hji:j<i
  ·exact h1.inv.done j p hji hp
  ·have:j=i:=by omega
   subst this
   rw[hs'] at hp
   cases hp
   exact⟨hf,fun v hv ha=>h1.seen v (ko.2 hv) ha⟩
 ·have:=congrArg List.tail h2
  rw[List.tail_drop] at this
  exact this
theorem pk {M:aH}{al:Ev→Bool}{fd:St→Bool}{x:St} (hx:M.At x):Inv M al fd x (qH x) 0:=by
 refine⟨by unfold aI qH;simp,by intro y hy;unfold aI qH at hy;simp at hy;subst hy;exact hx,rfl,fun j p hj hp=>?_,fun j p hj _=>absurd hj (Fx _)⟩
 have:=(De.1 hp).1
 unfold qH at this
 simp at this
 omega
structure xE (M:aH) (al:Ev→Bool) (fd:St→Bool) (x0:St) (R:List (St×aM)) (y:St):Prop where
 ex:∃ i s,Inv M al fd x0 R i∧R[i]?=some (y,s)
 fd:fd y=true
structure Lost (M:aH) (al:Ev→Bool) (fd:St→Bool) (x0:St) (R:List (St×aM)):Prop where
 inv:Inv M al fd x0 R R.length
theorem qZ {M:aH} (G:M.Good) {al:Ev→Bool}{fd:St→Bool}{x0:St}:∀ (m:Nat) (R:List (St×aM)) (Q:List St) (i:Nat),Inv M al fd x0 R i→Q=(aI R).drop i→32769-i≤m →
  (match bfs M al fd m R Q with | (some y,R')=>xE M al fd x0 R' y | (none,R')=>Lost M al fd x0 R')
 | 0,R,Q,i,h,hQ,hm=>by
  have:=fy G h
  have hl:(aI R).length=R.length:=by simp[aI]
  rw[bfs]
  have hi:Inv M al fd x0 R R.length:=⟨h.nd,h.at_,h.h0,fun j p hj hp=>by
   obtain⟨k,q,a,b,c⟩:=h.src j p hj hp
   have:=(De.1 c.1).1
   exact⟨k,q,a,by omega,c⟩,fun j p hj hp=>h.done j p (by omega) hp⟩
  exact⟨hi⟩
 | m+1,R,[],i,h,hQ,hm=>by
  rw[bfs]
  have hl:(aI R).length=R.length:=by simp[aI]
  have hle:(aI R).length≤i:=by
   have:=congrArg List.length hQ
   rw[Dh] at this
   simp at this
   omega
  have hi:Inv M al fd x0 R R.length:=⟨h.nd,h.at_,h.h0,fun j p hj hp=>by
   obtain⟨k,q,a,b,c⟩:=h.src j p hj hp
   have:=(De.1 c.1).1
   exact⟨k,q,a,by omega,c⟩,fun j p hj hp=>h.done j p (by omega) hp⟩
  exact⟨hi⟩
 | m+1,R,now :: q,i,h,hQ,hm=>by
  rw[bfs]
  cases hf:fd now
  ·rw[if_neg Dl]
   obtain⟨h1,h2⟩:=rP G h hQ hf
   exact qZ G m _ _ (i+1) h1 h2 (by omega)
  ·rw[if_pos rfl]
   have hi:i<(aI R).length:=by
    rcases DP i (aI R).length with h | h
    ·exact h
    ·rw[Dz h] at hQ;cases hQ
   have hil:i<R.length:=by simpa[aI] using hi
   have hnow:(aI R)[i]=now:=by
    rw[DD hi] at hQ
    exact (List.cons.inj hQ).1.symm
   have hs:R[i]?=some (now,R[i].2):=by
    rw[C7 hil]
    have:R[i].1=now:=by rw[←hnow];simp[aI]
    rw[←this]
   exact⟨⟨i,_,h,hs⟩,hf⟩
theorem sE {M:aH} (G:M.Good) {al:Ev→Bool}{fd:St→Bool}{x:St} (hx:M.At x) :
  (match cX M x al fd with | (some y,R')=>xE M al fd x R' y | (none,R')=>Lost M al fd x R') :=
 qZ G 65537 (qH x) [x] 0 (pk hx) rfl (by omega)
/-! ### the way back -/
def mE (M:aH) (x:St) (l:List Ev):St:=l.foldl (cE M) x
theorem jj {M:aH}{al:Ev→Bool}{fd:St→Bool}{x0:St}{R:List (St×aM)}{i:Nat} (h:Inv M al fd x0 R i):∀ (j d:Nat) (p:St×aM),R[j]?=some p→dJ R (j+1+d) p.1=dJ R (j+1) p.1:=by
 intro j
 induction j using Nat.strongRecOn with
 | ind j ih =>
  intro d p hp
  obtain⟨hj,rfl⟩:=De.1 hp
  rw[show j+1+d=(j+d)+1 from by omega,dJ,dJ,ly h.nd hj]
  simp only
  by_cases hj0:j=0
  ·subst hj0
   have:=h.h0
   rw[C7 hj] at this
   have e:=Option.some.inj this
   rw[e];rfl
  ·obtain⟨k,q,hk,_,hq,hsrc,hfst,_⟩:=h.src j _ (by omega) hp
   rw[hfst,hsrc]
   simp only[DI,if_false]
   congr 1
   have e1:=ih k hk (j-1-k+d) q hq
   have e2:=ih k hk (j-1-k) q hq
   rw[show k+1+(j-1-k+d)=j+d from by omega] at e1
   rw[show k+1+(j-1-k)=j from by omega] at e2
   rw[e1,e2]
theorem vD {M:aH}{al:Ev→Bool}{fd:St→Bool}{x0:St}{R:List (St×aM)}{i:Nat} (h:Inv M al fd x0 R i):∀ (j:Nat) (p:St×aM),R[j]?=some p →
  mE M x0 (dJ R (j+1) p.1).reverse=p.1∧(∀ k,k<(dJ R (j+1) p.1).length→∃ j' p',j'<j∧R[j']?=some p'∧mE M x0 ((dJ R (j+1) p.1).reverse.take k)=p'.1)∧∀ v∈dJ R (j+1) p.1,dG M v=true∧al v=true:=by
 intro j
 induction j using Nat.strongRecOn with
 | ind j ih =>
  intro p hp
  obtain⟨hj,rfl⟩:=De.1 hp
  rw[dJ,ly h.nd hj]
  simp only
  by_cases hj0:j=0
  ·subst hj0
   have:=h.h0
   rw[C7 hj] at this
   have e:=Option.some.inj this
   rw[e]
   refine⟨rfl,fun k hk=>?_,fun v hv=>?_⟩
   ·simp at hk
   ·simp at hv
  ·obtain⟨k,q,hk,_,hq,hsrc,hfst,hmv,hok,hal⟩:=h.src j _ (by omega) hp
   rw[hfst,hsrc]
   simp only[DI,if_false]
   have e2:=jj h k (j-1-k) q hq
   rw[show k+1+(j-1-k)=j from by omega] at e2
   rw[e2]
   obtain⟨a1,a2,a3⟩:=ih k hk q hq
   generalize dJ R (k+1) q.1=B at *
   refine⟨?_,fun m hm=>?_,fun v hv=>?_⟩
   ·rw[List.reverse_cons,mE,FI]
    show cE M (mE M x0 B.reverse) _=_
    rw[a1,←hmv]
   ·rw[List.reverse_cons]
    simp only[Dj] at hm
    rw[List.take_append_of_le_length (by simp;omega)]
    by_cases hmB:m<B.length
    ·obtain⟨j',p',b1,b2,b3⟩:=a2 m hmB
     exact⟨j',p',by omega,b2,b3⟩
    ·have:m=B.reverse.length:=by simp;omega
     subst this
     rw[DG]
     exact⟨k,q,hk,hq,a1⟩
   ·rcases Dk.1 hv with rfl | hv
    ·exact⟨hok,hal⟩
    ·exact a3 v hv
def oM (R:List (St×aM)) (y:St):List Ev:=(dJ R R.length y).reverse
theorem Cr {M:aH}{al:Ev→Bool}{fd:St→Bool}{x0:St}{R:List (St×aM)}{y:St} (h:xE M al fd x0 R y) :
  mE M x0 (oM R y)=y∧(∀ k,k<(oM R y).length→fd (mE M x0 ((oM R y).take k))=false)∧∀ v∈oM R y,dG M v=true∧al v=true:=by
 obtain⟨i,s,hI,hi⟩:=h.ex
 have hil:=(De.1 hi).1
 obtain⟨a1,a2,a3⟩:=vD hI i (y,s) hi
 have e:=jj hI i (R.length-(i+1)) (y,s) hi
 rw[show i+1+(R.length-(i+1))=R.length from by omega] at e
 unfold oM
 simp only at e a1 a2 a3
 rw[e]
 refine⟨a1,fun k hk=>?_,fun v hv=>a3 v (List.mem_reverse.1 hv)⟩
 rw[List.length_reverse] at hk
 obtain⟨j',p',h1,h2,h3⟩:=a2 k hk
 rw[h3]
 exact (hI.done j' p' h1 h2).1
theorem wB {M:aH}{al:Ev→Bool}{fd:St→Bool}{x0:St}{R:List (St×aM)}{i:Nat} (h:Inv M al fd x0 R i) {j:Nat}{p:St×aM} (hp:R[j]?=some p) (hf:p.2.first=false) :
  ∃ k q,k<j∧R[k]?=some q∧p.2.src=q.1∧Tab.get R q.1=some q.2∧dJ R (j+1) p.1=p.2.ev :: dJ R (k+1) q.1:=by
 obtain⟨hj,rfl⟩:=De.1 hp
 by_cases hj0:j=0
 ·subst hj0
  have:=h.h0
  rw[C7 hj] at this
  have e:=Option.some.inj this
  rw[e] at hf
  cases hf
 ·obtain⟨k,q,hk,_,hq,hsrc,_⟩:=h.src j _ (by omega) hp
  obtain⟨hkl,rfl⟩:=De.1 hq
  refine⟨k,_,hk,hq,hsrc,ly h.nd hkl,?_⟩
  rw[dJ,ly h.nd hj]
  simp only
  rw[hf,hsrc]
  simp only[DI,if_false]
  have e2:=jj h k (j-1-k) _ hq
  rw[show k+1+(j-1-k)=j from by omega] at e2
  rw[e2]
theorem yU {M:aH}{al:Ev→Bool}{fd:St→Bool}{x0:St}{R:List (St×aM)}{i:Nat} (h:Inv M al fd x0 R i) {j:Nat}{p:St×aM} (hp:R[j]?=some p) (hf:p.2.first=true):dJ R (j+1) p.1=[]:=by
 obtain⟨hj,rfl⟩:=De.1 hp
 rw[dJ,ly h.nd hj]
 simp only
 rw[hf];rfl
theorem yT {M:aH}{al:Ev→Bool}{fd:St→Bool}{x0:St}{R:List (St×aM)}{i:Nat} (h:Inv M al fd x0 R i) {j:Nat}{p:St×aM} (hp:R[j]?=some p):dJ R R.length p.1=dJ R (j+1) p.1:=by
 have hj:=(De.1 hp).1
 have:=jj h j (R.length-(j+1)) p hp
 rw[show j+1+(R.length-(j+1))=R.length from by omega] at this
 exact this
def cm (M:aH):St→List Ev→List St
 | x,[]=>[x]
 | x,v :: l=>x :: cm M (cE M x v) l
theorem eU (M:aH):∀ (l:List Ev) (x:St),(cm M x l).length=l.length+1
 | [],_=>rfl
 | v :: l,x=>by simp[cm,eU M l]
theorem nY (M:aH):∀ (l:List Ev) (x:St) (i:Nat),i≤l.length→(cm M x l)[i]?=some (mE M x (l.take i))
 | [],x,i,h=>by
  have:i=0:=by simpa using h
  subst this;rfl
 | v :: l,x,0,_=>rfl
 | v :: l,x,i+1,h=>by
  show (cm M (cE M x v) l)[i]?=_
  rw[nY M l _ i (by simpa using h)]
  rfl
theorem ja (M:aH):∀ (l:List Ev) (x:St) (v:Ev),cm M x (l++[v])=cm M x l++[cE M (mE M x l) v]
 | [],_,_=>rfl
 | u :: l,x,v=>by
  show x :: cm M (cE M x u) (l++[v])=x :: cm M (cE M x u) l++_
  rw[ja M l];rfl
theorem zN {M:aH} (G:M.Good):∀ (l:List Ev) (x:St),M.At x→(∀ v∈l,dG M v=true)→M.At (mE M x l)
 | [],_,h,_=>h
 | v :: l,_,h,hv=>zN G l _ (qx G h (hv v (DC ..))) (fun u hu=>hv u (DZ _ hu))
def fR (M:aH) (g:Nat):Nat→Nat→Bool
 | 0,_=>false
 | m+1,k=>if M.next g k<0 then true else fR M g m (M.next g k).toNat
theorem mY {M:aH}{g:Nat}:∀ (m d k:Nat),fR M g m k=true→fR M g (m+d) k=true
 | 0,_,_,h=>by cases h
 | m+1,d,k,h=>by
  rw[show m+1+d=(m+d)+1 from by omega,fR]
  rw[fR] at h
  split
  ·rfl
  ·rename_i hn
   rw[if_neg hn] at h
   exact mY m d _ h
def dw (M:aH) (g:Nat):Nat→Nat→Nat→Nat→Int
 | 0,_,_,_=>0
 | m+1,k,f,left =>
  if M.next g k<0 then 0
  else
   let a:=dw M g m (M.next g k).toNat 0 left
   let b:=match left with
    | 0=>a
    | l+1=>max (max a (dw M g m 0 0 l)) (if (f:Int)=M.tries g k-1 then dw M g m (M.back g k).toNat 0 l else dw M g m k (f+1) l)
   b+M.mins g k
structure fi (M:aH) (g:Nat):Prop where
 good:M.Good
 lt:g<M.n
 ends:∀ k,k<M.rungs g→fR M g (M.rungs g) k=true
theorem fi.eight {M:aH}{g:Nat} (L:fi M g) {k:Nat} (hk:k<M.rungs g):fR M g 8 k=true:=by
 have h8:=L.good.r8 g L.lt
 have:=mY (M.rungs g) (8-M.rungs g) k (L.ends k hk)
 rw[show M.rungs g+(8-M.rungs g)=8 from by omega] at this
 exact this
theorem fi.back {M:aH}{g:Nat} (L:fi M g) {k:Nat} (hk:k<M.rungs g):(M.back g k).toNat<M.rungs g:=by
 by_cases h0:k=0
 ·subst h0;rw[L.good.backz g L.lt];exact hk
 ·have:=L.good.back g k L.lt hk (by omega)
  have:=L.good.back0 g k L.lt hk
  omega
theorem fO {M:aH}{g:Nat} (L:fi M g):∀ (m e k f left:Nat),k<M.rungs g→fR M g e k=true→left*9+e≤m→dw M g (m+1) k f left=dw M g m k f left
 | 0,e,k,f,left,hk,he,hm=>by
  have:e=0:=by omega
  subst this;cases he
 | m+1,0,k,f,left,hk,he,hm=>by cases he
 | m+1,e+1,k,f,left,hk,he,hm=>by
  rw[dw]
  conv=>rhs;rw[dw]
  rw[fR] at he
  by_cases hn:M.next g k<0
  ·rw[if_pos hn,if_pos hn]
  ·rw[if_neg hn] at he
   rw[if_neg hn,if_neg hn]
   have hnx:=L.good.next g k L.lt hk
   have h1:=fO L m e (M.next g k).toNat 0 left (by omega) he (by omega)
   simp only
   rw[h1]
   cases left with
   | zero=>rfl
   | succ l =>
    have r0:=L.good.r0 g L.lt
    simp only
    rw[fO L m 8 0 0 l (by omega) (L.eight (by omega)) (by omega)]
    rw[fO L m 8 (M.back g k).toNat 0 l (L.back hk) (L.eight (L.back hk)) (by omega)]
    rw[fO L m 8 k (f+1) l hk (L.eight hk) (by omega)]
theorem ip {M:aH}{g:Nat} (L:fi M g) {e k f left:Nat} (hk:k<M.rungs g) (he:fR M g e k=true):∀ (d m:Nat),left*9+e≤m→dw M g (m+d) k f left=dw M g m k f left
 | 0,_,_=>rfl
 | d+1,m,hm=>by rw[←DS,fO L (m+d) e k f left hk he (by omega),ip L hk he d m hm]
def a6 (M:aH) (g k f left:Nat):Int:=dw M g (left*9+9) k f left
theorem sW {M:aH}{g k f left:Nat} (h:M.next g k<0):a6 M g k f left=0:=by
 unfold a6;rw[dw,if_pos h]
theorem k_ {M:aH}{g:Nat} (L:fi M g) {k f left m:Nat} (hk:k<M.rungs g) (hm:left*9+8≤m):dw M g m k f left=a6 M g k f left:=by
 unfold a6
 have a:=ip L (f:=f) (left:=left) hk (L.eight hk) (m-(left*9+8)) (left*9+8) (C6 _)
 have b:=ip L (f:=f) (left:=left) hk (L.eight hk) 1 (left*9+8) (C6 _)
 rw[show left*9+8+(m-(left*9+8))=m from by omega] at a
 rw[show left*9+8+1=left*9+9 from by omega] at b
 rw[a,b]
theorem fY {M:aH}{g:Nat} (L:fi M g) {k f left:Nat} (hk:k<M.rungs g) (h:0≤M.next g k) :
  a6 M g k f left=(match left with
   | 0=>a6 M g (M.next g k).toNat 0 0
   | l+1=>max (max (a6 M g (M.next g k).toNat 0 (l+1)) (a6 M g 0 0 l)) (if (f:Int)=M.tries g k-1 then a6 M g (M.back g k).toNat 0 l else a6 M g k (f+1) l))+M.mins g k:=by
 have hnx:=L.good.next g k L.lt hk
 have r0:=L.good.r0 g L.lt
 conv=>lhs;unfold a6;rw[dw,if_neg (by omega)]
 simp only
 rw[k_ L (by omega) (by omega)]
 cases left with
 | zero=>rfl
 | succ l =>
  simp only
  rw[k_ L (k:=0) (by omega) (by omega),k_ L (L.back hk) (by omega),k_ L hk (by omega)]
theorem eG {M:aH}{g:Nat} (L:fi M g):∀ (m k f left:Nat),k<M.rungs g→0≤dw M g m k f left∧dw M g m k f left≤60*(m:Int)
 | 0,_,_,_,_=>by simp[dw]
 | m+1,k,f,left,hk=>by
  rw[dw]
  split
  ·omega
  ·rename_i hn
   have hnx:=L.good.next g k L.lt hk
   have hm:=L.good.mins g k L.lt hk
   have r0:=L.good.r0 g L.lt
   have h1:=eG L m (M.next g k).toNat 0 left (by omega)
   simp only
   cases left with
   | zero=>simp only;omega
   | succ l =>
    have h2:=eG L m 0 0 l (by omega)
    have h3:=eG L m (M.back g k).toNat 0 l (L.back hk)
    have h4:=eG L m k (f+1) l hk
    simp only
    split<;>omega
theorem ft {M:aH}{g:Nat} (L:fi M g) {k f left:Nat} (hk:k<M.rungs g) (hl:left≤8):0≤a6 M g k f left∧a6 M g k f left≤5000:=by
 have:=eG L (left*9+9) k f left hk
 unfold a6
 omega
def kx (M:aH) (x:St):Prop:=∀ g,g<M.n→dK M x g=true
theorem uD {M:aH} (G:M.Good) {g:Nat} (hg:g<M.n) {k:Nat} (hk:k<M.rungs g):0≤M.back g k∧M.back g k≤k∧M.back g k<M.rungs g:=by
 have h0:=G.back0 g k hg hk
 by_cases hz:k=0
 ·subst hz;rw[G.backz g hg];omega
 ·have:=G.back g k hg hk (by omega);omega
theorem Cp (g:Nat):St.zero.a g=0:=by unfold St.a St.zero;split<;>rfl
structure ax (wa:World) where
 w:World
 h:Below wa.heap.size wa w
instance instBeyond (wa:World):Nonempty (ax wa):=⟨⟨wa,Below.refl _ _⟩⟩
theorem ax.step {wa:World} (x:ax wa) {w':World} (h:Below x.w.heap.size x.w w'):Below wa.heap.size wa w':=x.h.trans (h.mono x.h.size)
theorem ax.cell {wa:World} (x:ax wa) {p:Addr} (hp:p.block<wa.heap.size):x.w.cell? p=wa.cell? p:=x.h.cell hp
theorem ax.calls {P:Program}{f:FuncId}{args:Array Value}{wa:World}{v:Value}{x:ax wa} (h:Calls P f args x.w fun e w'=>e=.returned v∧Below x.w.heap.size x.w w') :
  Calls P f args x.w fun e w''=>e=.returned v∧∃ y:ax wa,w''=y.w :=
 h.mono fun _ _ ⟨he,hb⟩=>⟨he,⟨_,x.step hb⟩,rfl⟩
theorem ai {P:Program}{id:Nat}{Q:Exit→Act→World→Prop}{a:Act}{w:World}{l:List Oper} (hm:P.follows .mixedOrders=true) (hB:Region.lexB .any l.toArray=true)
  (h:wpQuiet P l.toArray (fun w'=>∃ x:ax w,w'=x.w) (fun a'=>∀ w',(∃ x:ax w,w'=x.w)→Q .normal a' w') l a):(Code.region id l.toArray true).wp P Q a w :=
 wp_region_quiet (C:=fun w'=>∃ x:ax w,w'=x.w) hm hB ⟨⟨_,below_drewN (Below.refl _ _) 1⟩,rfl⟩ (by simpa using h)
theorem ay {wa:World}{b o:Nat}{v:Value} (h:b<wa.heap.size) (e:wa.cell? ⟨b,o,none⟩=some v):∀ x:ax wa,x.w.cell? ⟨b,o,none⟩=some v:=fun x=>(x.cell (p:=⟨b,o,none⟩) h).trans e
abbrev aQ (wa:World) (f:FuncId) (l:Array Value) (v:Value):Prop:=∀ x:ax wa,Calls Tryz.prog f l x.w fun e w''=>e=.returned v∧∃ y:ax wa,w''=y.w
section
variable {P : Program} {ops : Array Oper} {Q : Exit → Act → World → Prop} {md : Region.Mode} {S : World → Prop} {late : Nat → Bool}
def cK (P:Program) (md:Region.Mode) (ops:Array Oper) (Q:Exit→Act→World→Prop) (S:World→Prop) (late:Nat→Bool):Nat→Array Bool→Act→World→Prop
 | 0,listed,a,w=>Region.ready md ops listed=[]∧Q .normal a w
 | fuel+1,listed,a,w=>(Region.ready md ops listed=[]→Q .normal a w) ∧
  ∀ i∈Region.ready md ops listed,wpOp P ops Q i (fun a' w'=>(late i=false→S w→S w')∧cK P md ops Q S late fuel (listed.setIfInBounds i true) a' w') a w
theorem j5:∀ (fuel:Nat) (listed:Array Bool) (a:Act) (w:World),cK P md ops Q S late fuel listed a w→wpAny P md ops Q fuel listed a w
 | 0,_,_,_,h=>h
 | fuel+1,_,_,_,h=>⟨h.1,fun i hi=>wpOp_mono (fun a' w' h'=>j5 fuel _ a' w' h'.2) (h.2 i hi)⟩
def yS (md:Region.Mode) (ops:Array Oper) (late:Nat→Bool) (i:Nat):Bool :=
 (List.range ops.size).all fun j=>!late j||match ops[j]? with | some o=>o.after.any (fun e=>Region.binds md e&&decide (e.on=i)) | none=>true
theorem nA {i j:Nat}{oj:Oper} (h:yS md ops late i=true) (hj:ops[j]?=some oj) (hl:late j=true):∃ e∈oj.after,Region.binds md e=true∧e.on=i:=by
 have hlt:=(C_.1 hj).1
 have h1:=Dq.1 h j (Dv.2 hlt)
 rw[hl,hj] at h1
 simp only[Bool.not_true,Bool.false_or] at h1
 obtain⟨n,hn,h2⟩:=Array.any_eq_true.1 h1
 simp only[Da,decide_eq_true_eq] at h2
 exact⟨_,Array.getElem_mem hn,h2.1,h2.2⟩
theorem fv {S':World→Prop}{i:Nat}{oi:Oper}{v:Value} (hi:ops[i]?=some oi) (hsel:∀ (j:Nat) (o:Oper) cs b,ops[j]?=some o→o.op≠.select cs b)
  (hQ:∀ c a w,Q (.panic c) (a.put oi.dst v) w→Q (.panic c) a w)
  (hk:∀ (j:Nat) (oj:Oper) (w w':World),ops[j]?=some oj→(∀ e∈oj.after,Region.binds md e=true→e.on≠i)→S' w→(late j=false→S w→S w')→S' w') :
  ∀ (fuel:Nat) (listed:Array Bool) (a:Act) (w:World),
   (∀ j oj,ops[j]?=some oj→j≠i→listed.getD j true=false→(∀ e∈oj.after,Region.binds md e=true→e.on≠i)→oi.apart ops oj=true) →
   i∈Region.ready md ops listed→YieldsIf P ops S' oi v a→S' w →
   cK P md ops Q S late fuel (listed.setIfInBounds i true) (a.put oi.dst v) w→cK P md ops Q S late (fuel+1) listed a w:=by
 have own:∀ (listed:Array Bool),i∈Region.ready md ops listed→∀ (j:Nat) (oj:Oper),ops[j]?=some oj→(∀ e∈oj.after,Region.binds md e=true→listed.getD e.on false=true)→∀ e∈oj.after,Region.binds md e=true→e.on≠i:=by
  intro listed hr j oj _ hall e he hb heq
  have h1:=hall e he hb
  have h0:=(mem_ready.1 hr).1
  rw[heq] at h1
  rcases DP i listed.size with h' | h'
  ·simp[h'] at h0 h1;rw[h0] at h1;cases h1
  ·simp[Array.getElem?_eq_none h'] at h1
 intro fuel
 induction fuel with
 | zero =>
  intro listed a w _ hr hy hS H
  refine⟨fun h=>(by rw[h] at hr;cases hr),fun j hj=>?_⟩
  by_cases hji:j=i
  ·subst hji;exact hy.wpOp hi hS ⟨fun _ h=>h,H⟩
  ·have:=ready_mono hj hji
   rw[H.1] at this
   cases this
 | succ fuel ih =>
  intro listed a w hfree hr hy hS H
  refine⟨fun h=>(by rw[h] at hr;cases hr),fun j hj=>?_⟩
  by_cases hji:j=i
  ·subst hji;exact hy.wpOp hi hS ⟨fun _ h=>h,H⟩
  ·have h1:=H.2 j (ready_mono hj hji)
   obtain⟨hjun,oj,hoj,hall⟩:=mem_ready.1 hj
   have hnot:=own listed hr j oj hoj hall
   have h2:=wpOp_putIf hoj (hfree j oj hoj hji hjun hnot) (fun cs b=>hsel i oi cs b hi) (fun cs b=>hsel j oj cs b hoj) hQ hy h1
   refine wpOp_mono (fun a' w' h3=>⟨h3.2.1,ih (listed.setIfInBounds j true) a' w' (fun k ok hk2 hki hun hno=>?_) (ready_mono hr (Ne.symm hji)) h3.1 (hk j oj w w' hoj hnot hS h3.2.1) ?_⟩) h2
   ·refine hfree k ok hk2 hki ?_ hno
    by_cases hjk:j=k
    ·subst hjk;exact hjun
    ·rw[getD_set_ne true hjk] at hun;exact hun
   ·rw[Array.setIfInBounds_comm _ _ hji]
    exact h3.2.2
theorem ak {i:Nat}{oi:Oper}{v:Value}{fuel:Nat}{listed:Array Bool}{a:Act}{w:World} (hi:ops[i]?=some oi)
  (hs:(Region.noSelect ops&&Region.free md ops listed i&&(Region.ready md ops listed).contains i&&yS md ops late i)=true)
  (hQ:∀ c a w,Q (.panic c) (a.put oi.dst v) w→Q (.panic c) a w) (hg:oi.guard=none) (hS:S w) (hy:∀ w,S w→(execOp a.eval oi).run P w=.ok (.value v) w)
  (h:cK P md ops Q S late fuel (listed.setIfInBounds i true) (a.put oi.dst v) w):cK P md ops Q S late (fuel+1) listed a w:=by
 simp only[Da] at hs
 obtain⟨⟨⟨h1,h2⟩,h3⟩,h4⟩:=hs
 refine fv (S':=S) hi (Region.noSelect_spec h1) hQ (fun j oj w w' hoj hnot hSw hk=>?_) fuel listed a w (Region.free_spec hi h2) (by simpa using h3) (Or.inl ⟨by simp[Region.wanted,hg],hy⟩) hS h
 cases hl:late j
 ·exact hk hl hSw
 ·obtain⟨e,he,hb,heq⟩:=nA h4 hoj hl
  exact absurd heq (hnot e he hb)
theorem af {i:Nat}{oi:Oper}{v:Value}{fuel:Nat}{listed:Array Bool}{a:Act}{w:World} (hi:ops[i]?=some oi)
  (hs:(Region.noSelect ops&&Region.free md ops listed i&&(Region.ready md ops listed).contains i)=true)
  (hQ:∀ c a w,Q (.panic c) (a.put oi.dst v) w→Q (.panic c) a w) (hg:oi.guard=none) (hy:∀ w,(execOp a.eval oi).run P w=.ok (.value v) w)
  (h:cK P md ops Q S late fuel (listed.setIfInBounds i true) (a.put oi.dst v) w):cK P md ops Q S late (fuel+1) listed a w:=by
 simp only[Da] at hs
 obtain⟨⟨h1,h2⟩,h3⟩:=hs
 exact fv (S':=fun _=>True) hi (Region.noSelect_spec h1) hQ (fun _ _ _ _ _ _ _ _=>trivial) fuel listed a w (Region.free_spec hi h2) (by simpa using h3) (Or.inl ⟨by simp[Region.wanted,hg],fun w _=>hy w⟩) trivial h
theorem am {i:Nat}{oi:Oper}{fuel:Nat}{listed:Array Bool}{a:Act}{w:World} (hi:ops[i]?=some oi) (hr:Region.ready md ops listed=[i]) (hg:oi.guard=none)
  (h:∀ K:Act→World→Prop,(∀ a' w',(late i=false→S w→S w')→cK P md ops Q S late fuel (listed.setIfInBounds i true) a' w'→K a' w')→Oper.wp P oi a w K Q):cK P md ops Q S late (fuel+1) listed a w:=by
 refine⟨fun h0=>(by rw[hr] at h0;cases h0),fun j hj=>?_⟩
 rw[hr] at hj
 obtain rfl:j=i:=by simpa using hj
 unfold wpOp
 simp only[hi]
 rw[if_pos (by simp[Region.wanted,hg])]
 exact Or.inl (h _ (fun a' w' h1 h2=>⟨h1,h2⟩))
theorem jL {i i':Nat}{oi oi':Oper}{fuel:Nat}{listed:Array Bool}{a:Act}{w:World} (hi:ops[i]?=some oi) (hi':ops[i']?=some oi') (hr:Region.ready md ops listed=[i,i']) (hg:oi.guard=none) (hg':oi'.guard=none)
  (h:∀ K:Act→World→Prop,(∀ a' w',(late i=false→S w→S w')→cK P md ops Q S late fuel (listed.setIfInBounds i true) a' w'→K a' w')→Oper.wp P oi a w K Q)
  (h':∀ K:Act→World→Prop,(∀ a' w',(late i'=false→S w→S w')→cK P md ops Q S late fuel (listed.setIfInBounds i' true) a' w'→K a' w')→Oper.wp P oi' a w K Q):cK P md ops Q S late (fuel+1) listed a w:=by
 refine⟨fun h0=>(by rw[hr] at h0;cases h0),fun j hj=>?_⟩
 rw[hr] at hj
 simp only[Dk,Dm,or_false] at hj
 rcases hj with rfl | rfl
 ·unfold wpOp
  simp only[hi]
  rw[if_pos (by simp[Region.wanted,hg])]
  exact Or.inl (h _ (fun a' w' h1 h2=>⟨h1,h2⟩))
 ·unfold wpOp
  simp only[hi']
  rw[if_pos (by simp[Region.wanted,hg'])]
  exact Or.inl (h' _ (fun a' w' h1 h2=>⟨h1,h2⟩))
theorem aA {listed:Array Bool}{a:Act}{w:World} (hr:Region.ready md ops listed=[]) (h:Q .normal a w):∀ fuel,cK P md ops Q S late fuel listed a w
 | 0=>⟨hr,h⟩
 | _+1=>⟨fun _=>h,by rw[hr];simp⟩
theorem au {id:Nat}{a:Act}{w:World} (S:World→Prop) (late:Nat→Bool) (hm:P.follows .mixedOrders=true)
  (h:cK P .any ops Q S late ops.size (Array.replicate ops.size false) a w.drew):(Code.region id ops true).wp P Q a w :=
 wp_region_any hm (j5 _ _ _ _ h)
end
end Go.Proofs.YtnkgbocdpngldaaGreatDoor
