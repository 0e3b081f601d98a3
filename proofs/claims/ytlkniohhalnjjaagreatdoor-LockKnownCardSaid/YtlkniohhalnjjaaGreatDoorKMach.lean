/- Lemmas of this claim. -/
import Derived.Test.YtlkniohhalnjjaaGreatDoorProg
import Derived.WalkKit
import Derived.WalkSpells
import Derived.WalkLawsBesides
import Derived.Lib.Hide
import Derived.Deep.QuietTactic
import Derived.BigQuiet
import Derived.Test.YtlkniohhalnjjaaGreatDoorKA
set_option linter.all false
set_option maxRecDepth 100000
set_option maxHeartbeats 8000000
namespace Go.Proofs.YtlkniohhalnjjaaGreatDoor
open Go.RowKit
def nth (l:List Nat) (j:Nat):Nat:=l.getD j 0
theorem dc (l:List Nat) (j:Nat) (h:j<l.length):nth l j=l[j]:=by simp[nth,h]
theorem sC {l:List Nat}{j:Nat} (h:j<l.length):nth l j∈l:=by rw[dc l j h];exact uH h
theorem cM {l:List Nat}{j b:Nat} (hl:∀ d∈l,d<b) (h:j<l.length):nth l j<b:=hl _ (sC h)
def de (l:List Nat):List Value:=l.map fun (d:Nat)=>Value.int .u64 (d:Int)
theorem iL (l:List Nat):(de l).length=l.length:=by simp[de]
theorem mr (l:List Nat) (j:Nat) (h:j<l.length):(de l)[j]?=some (.int .u64 (nth l j)):=by simp[de,nth,h]
theorem iK (l m:List Nat):de (l++m)=de l++de m:=by simp[de]
theorem kw (l:List Nat) (k:Nat):de (l.take k)=(de l).take k:=by simp[de]
theorem rH (l:List Nat) (k d:Nat):de (l.set k d)=(de l).set k (.int .u64 d):=by simp[de,List.map_set]
def AtU (w:World) (p:Option Addr) (l:List Nat):Prop :=
 0<l.length→∃ b o,p=some ⟨b,o,none⟩∧b<w.heap.size∧∀ j,j<l.length→w.cell? ⟨b,o+j,none⟩=some (.int .u64 (nth l j))
def IsU (w:World) (v:Value) (l:List Nat):Prop:=∃ p cap,v=.slice p l.length cap∧l.length≤cap∧cap≤maxLen∧AtU w p l
theorem IsU.below {w w':World}{v:Value}{l:List Nat} (h:IsU w v l) (hb:Below w.heap.size w w'):IsU w' v l:=by
 obtain⟨p,cap,e,h1,h2,h3⟩:=h
 refine⟨p,cap,e,h1,h2,fun hl=>?_⟩
 obtain⟨b,o,e2,hlt,hc⟩:=h3 hl
 exact⟨b,o,e2,uv hlt hb.size,fun j hj=>(hb.cell (p:=⟨b,o+j,none⟩) hlt).trans (hc j hj)⟩
abbrev du (w:World) (base:Nat) (v:Value) (l:List Nat):Prop:=w.ownsRow base 238 1 v l.length (de l)
theorem du.isU {w:World}{base:Nat}{v:Value}{l:List Nat} (h:du w base v l):IsU w v l:=by
 obtain⟨hlen,h⟩:=h
 rcases h with ⟨rfl,h0⟩ | ⟨g,cap,cur,rfl,hg,hh,hn,hm,hs,ht⟩
 ·exact⟨none,0,by rw[h0],by omega,by simp[maxLen],fun hp=>by omega⟩
 ·refine⟨some ⟨g,0,none⟩,cap,rfl,hn,hm,fun _=>⟨g,0,rfl,?_,fun j hj=>?_⟩⟩
  ·exact (uw.1 hh).1
  ·rw[cell_of_row w g (0+j) cur _ (0,0) hh]
   have:=mr l j hj
   rw[←ht,List.getElem?_take,if_pos (by omega)] at this
   simpa using this
theorem du.below {w w':World}{base:Nat}{v:Value}{l:List Nat} (h:du w base v l) (hb:Below w.heap.size w w'):du w' base v l:=by
 obtain⟨hlen,h⟩:=h
 refine⟨hlen,?_⟩
 rcases h with h | ⟨g,cap,cur,rfl,hg,hh,r⟩
 ·exact Or.inl h
 ·exact Or.inr ⟨g,cap,cur,rfl,hg,by rw[hb.block g (uw.1 hh).1];exact hh,r⟩
theorem cT (w:World) (d:Nat):∀ (j:Nat) (u:Value),[Value.int .u64 (d:Int)][j]?=some u→(w.alloc (.cells #[.int .u64 d] 238)).cell? ((⟨w.heap.size,0,none⟩:Addr).add j)=some u:=by
 intro j u hj
 match j,hj with
 | 0,hj=>simp at hj;subst hj;simp only[Addr.add,World.cell?,if_true,heap_alloc_new];rfl
theorem Tryz.info238:(Tryz.prog.info? 238).map (fun i=>(i.zero,i.size,i.bytes))=some (some (.int .u64 0),1,8):=by kernel_rfl
theorem dh {w:World}{ops:Array Oper}{rest:List Oper}{o:Oper}{a:Act}{Q:Exit→Act→World→Prop} (T:TypeId)
  (hT:Tryz.prog.underlying T=some (.slice 238)) (hgd:o.guard=none) (s x:Operand)
  (ho:o.op=.call { callee:=.builtin .append,args:=#[s,x],argTypes:=#[T,T] })
  (base:Nat) (v:Value) (l:List Nat) (z:Int) (d:Nat) (hz:z=d) (hs:a.eval s=v) (hown:du w base v l)
  (hx:a.eval x=.slice (some ⟨w.heap.size,0,none⟩) 1 1) (hlen:l.length<1000000000000) (hbase:base≤w.heap.size)
  (h:∀ v' w',du w' base v' (l++[d])→(∀ B w0,Below B w0 w→B≤base→Below B w0 w')→wpList Tryz.prog ops Q rest (a.put o.dst v') w') :
  wpList Tryz.prog ops Q (o :: rest) a (w.alloc (.cells #[.int .u64 z] 238)):=by
 subst hz
 obtain⟨i0,hi,hz0,hz1,hz2⟩:=info_parts Tryz.info238
 refine wpList_append_own _ hgd s x T ho base 238 i0 (.int .u64 0) 1 8 hT hi hz0 hz1 hz2 rfl (by decide) v l.length (de l) hs (hown.alloc _) ⟨w.heap.size,0,none⟩ 1 1 [.int .u64 d] hx rfl ?_ ?_ ?_ ?_ ?_ ?_
 ·exact cT w d
 ·intro u hu;simp at hu;subst hu;rfl
 ·unfold maxLen;omega
 ·omega
 ·simp;omega
 ·intro v' w' hown' hg _
  refine h v' w' ?_ ?_
  ·have:de (l++[d])=de l++[.int .u64 d]:=by rw[iK];rfl
   rw[du,this,uF];exact hown'
  ·intro B w0 hb hB
   have hbs:=hown.lt
   refine (hb.alloc (by omega) _).grown hg (by simp;omega) ?_
   intro k hk
   have:=(hbs k hk).1
   omega
def a7 (w:World) (g cap:Nat) (l:List Nat):Prop:=w.ownsRow g 238 1 (.slice (some ⟨g,0,none⟩) l.length cap) l.length (de l)
theorem a7.own {w:World}{g cap base:Nat}{l:List Nat} (h:a7 w g cap l) (hb:base≤g):du w base (.slice (some ⟨g,0,none⟩) l.length cap) l:=by
 obtain⟨h1,h2⟩:=h
 refine⟨h1,?_⟩
 rcases h2 with h2 | ⟨g',cap',cur,e,_,r⟩
 ·exact Or.inl h2
 ·have:g'=g:=by simp at e;exact e.1.symm
  subst this
  exact Or.inr ⟨g',cap',cur,e,hb,r⟩
theorem a7.lt {w:World}{g cap:Nat}{l:List Nat} (h:a7 w g cap l):g<w.heap.size:=(World.ownsRow.lt h g rfl).2
theorem a7.isU {w:World}{g cap:Nat}{l:List Nat} (h:a7 w g cap l):IsU w (.slice (some ⟨g,0,none⟩) l.length cap) l:=du.isU (h.own (uo _))
theorem a7.cell {w:World}{g cap:Nat}{l:List Nat} (h:a7 w g cap l) {j:Nat} (hj:j<l.length):w.cell? ⟨g,j,none⟩=some (.int .u64 (nth l j)):=by
 rw[World.ownsRow.cellAt h j (by omega),mr l j hj]
theorem a7.free {w:World}{g cap:Nat}{l:List Nat} (h:a7 w g cap l) (j:Nat):w.frozen? ⟨g,j,none⟩=false:=World.ownsRow.frozenAt h j
theorem a7.set {w:World}{g cap:Nat}{l:List Nat} (h:a7 w g cap l) (j d:Nat) (z:Int) (hz:z=d):a7 (w.setCell ⟨g,j,none⟩ (.int .u64 z)) g cap (l.set j d):=by
 subst hz
 have:=(World.ownsRow.stored h j (.int .u64 d)).1
 unfold a7
 rw[rH,vD];exact this
theorem a7.drewN {w:World}{g cap:Nat}{l:List Nat} (h:a7 w g cap l) (n:Nat):a7 (w.drewN n) g cap l:=h
theorem a7.below {w w':World}{g cap:Nat}{l:List Nat} (h:a7 w g cap l) (hb:Below w.heap.size w w'):a7 w' g cap l:=du.below h hb
theorem AtU.below {w w':World}{p:Option Addr}{l:List Nat} (h:AtU w p l) {B:Nat} (hb:Below B w w') (hB:w.heap.size≤B):AtU w' p l:=by
 intro hl
 obtain⟨b,o,e2,hlt,hc⟩:=h hl
 exact⟨b,o,e2,uv hlt hb.size,fun j hj=>(hb.cell (p:=⟨b,o+j,none⟩) (by show b<B;omega)).trans (hc j hj)⟩
theorem dS {w:World}{ops:Array Oper}{rest:List Oper}{o:Oper}{a:Act}{Q:Exit→Act→World→Prop} (T:TypeId)
  (hT:Tryz.prog.underlying T=some (.slice 238)) (hgd:o.guard=none) (lo co:Operand) (hop:o.op=Op.makeSlice T lo co)
  (L C:Int) (n:Nat) (hl:a.eval lo=.int .i64 L) (hc:a.eval co=.int .i64 C) (hL:L=(n:Int)) (hC:C=(n:Int)) (hn:n≤1000000000000)
  (hK:∀ w',a7 w' w.heap.size n (List.replicate n 0)→(∀ B w0,Below B w0 w→B≤w.heap.size→Below B w0 w')→w.heap.size<w'.heap.size →
   wpList Tryz.prog ops Q rest (a.put o.dst (.slice (some ⟨w.heap.size,0,none⟩) n n)) w') :
  wpList Tryz.prog ops Q (o :: rest) a w:=by
 obtain⟨i0,hi,hz0,hz1,hz2⟩:=info_parts Tryz.info238
 refine wpList_make_full _ hgd lo co T hop w.heap.size 238 i0 (.int .u64 0) 1 hT hi hz0 hz1 .i64 .i64 L C n hl hc hL hC (by rw[hz2];omega) (by unfold maxLen;omega) (uo _) ?_
 intro w' hown hg
 have hr:a7 w' w.heap.size n (List.replicate n 0):=by
  unfold a7 de
  have e:(madeCells (Value.int .u64 0).cells (n*1)).toList=(List.replicate n 0).map fun (d:Nat)=>Value.int .u64 (d:Int):=by
   rw[ww];simp[Value.cells,toList_madeCells_one]
  rw[e] at hown
  rw[wD];exact hown
 refine hK w' hr (fun B w0 hb hB=>hb.grown hg hB (fun k h=>by cases h)) hr.lt
structure St where
 a0:Int
 a1:Int
 a2:Int
 f0:Int
 f1:Int
 f2:Int
instance instSt:DecidableEq St:=fun x y =>
 if h:x.a0=y.a0∧x.a1=y.a1∧x.a2=y.a2∧x.f0=y.f0∧x.f1=y.f1∧x.f2=y.f2 then
  isTrue (by
   obtain⟨h0,h1,h2,h3,h4,h5⟩:=h
   cases x;cases y
   simp only at h0 h1 h2 h3 h4 h5
   subst h0;subst h1;subst h2;subst h3;subst h4;subst h5
   rfl)
 else isFalse (fun e=>h (by subst e;exact⟨rfl,rfl,rfl,rfl,rfl,rfl⟩))
def St.a (x:St):Nat→Int
 | 0=>x.a0
 | 1=>x.a1
 | _=>x.a2
def St.f (x:St):Nat→Int
 | 0=>x.f0
 | 1=>x.f1
 | _=>x.f2
def St.zero:St:=⟨0,0,0,0,0,0⟩
def St.go (x:St) (g:Nat) (k:Int):St :=
 match g with
 | 0=>⟨k,x.a1,x.a2,0,x.f1,x.f2⟩
 | 1=>⟨x.a0,k,x.a2,x.f0,0,x.f2⟩
 | _=>⟨x.a0,x.a1,k,x.f0,x.f1,0⟩
def St.fail (x:St) (g:Nat):St :=
 match g with
 | 0=>⟨x.a0,x.a1,x.a2,x.f0+1,x.f1,x.f2⟩
 | 1=>⟨x.a0,x.a1,x.a2,x.f0,x.f1+1,x.f2⟩
 | _=>⟨x.a0,x.a1,x.a2,x.f0,x.f1,x.f2+1⟩
theorem lt3 {g:Nat} (h:g<3):g=0∨g=1∨g=2:=by omega
theorem St.a_go (x:St) {g j:Nat} (hg:g<3) (hj:j<3) (k:Int):(x.go g k).a j=if j=g then k else x.a j:=by
 rcases lt3 hg with rfl | rfl | rfl<;>rcases lt3 hj with rfl | rfl | rfl<;>rfl
theorem St.f_go (x:St) {g j:Nat} (hg:g<3) (hj:j<3) (k:Int):(x.go g k).f j=if j=g then 0 else x.f j:=by
 rcases lt3 hg with rfl | rfl | rfl<;>rcases lt3 hj with rfl | rfl | rfl<;>rfl
theorem St.a_fail (x:St) {g:Nat} (hg:g<3) (j:Nat):(x.fail g).a j=x.a j:=by
 rcases lt3 hg with rfl | rfl | rfl<;>(unfold St.a;split<;>rfl)
theorem St.f_fail (x:St) {g j:Nat} (hg:g<3) (hj:j<3):(x.fail g).f j=if j=g then x.f j+1 else x.f j:=by
 rcases lt3 hg with rfl | rfl | rfl<;>rcases lt3 hj with rfl | rfl | rfl<;>rfl
structure Ev where
 g:Int
 k:Int
instance instEv:DecidableEq Ev:=fun x y =>
 if h:x.g=y.g∧x.k=y.k then
  isTrue (by
   obtain⟨h0,h1⟩:=h
   cases x;cases y
   simp only at h0 h1
   subst h0;subst h1
   rfl)
 else isFalse (fun e=>h (by subst e;exact⟨rfl,rfl⟩))
structure ar where
 n:Nat
 rungs:Nat→Nat
 next:Nat→Nat→Int
 back:Nat→Nat→Int
 needs:Nat→Nat→List (Nat×List Int)
 tries:Nat→Nat→Int
 mins:Nat→Nat→Int
structure ar.Good (M:ar):Prop where
 n0:1≤M.n
 n3:M.n≤3
 r0:∀ g,g<M.n→1≤M.rungs g
 r8:∀ g,g<M.n→M.rungs g≤8
 next:∀ g k,g<M.n→k<M.rungs g→-1≤M.next g k∧M.next g k<M.rungs g
 back0:∀ g k,g<M.n→k<M.rungs g→0≤M.back g k
 back:∀ g k,g<M.n→k<M.rungs g→0<k→M.back g k<k
 backz:∀ g,g<M.n→M.back g 0=0
 needz:∀ g,g<M.n→M.needs g 0=[]
 need:∀ g k,g<M.n→k<M.rungs g→∀ x∈M.needs g k,x.1<g
 tries:∀ g k,g<M.n→k<M.rungs g→1≤M.tries g k∧M.tries g k≤4
 mins:∀ g k,g<M.n→k<M.rungs g→1≤M.mins g k∧M.mins g k≤60
structure ar.At (M:ar) (x:St):Prop where
 a:∀ g,g<M.n→0≤x.a g∧x.a g<M.rungs g
 f:∀ g,g<M.n→0≤x.f g∧x.f g<M.tries g (x.a g).toNat
 a0:∀ g,M.n≤g→g<3→x.a g=0
 f0:∀ g,M.n≤g→g<3→x.f g=0
def cY (M:ar) (x:St) (g:Nat):Bool:=(M.needs g (x.a g).toNat).all (fun n=>n.2.contains (x.a n.1))
def iP (M:ar) (g:Nat):Nat→St→St
 | 0,x=>x
 | m+1,x=>if cY M x g then x else iP M g m (x.go g (M.back g (x.a g).toNat))
def gP (M:ar) (g:Nat) (x:St):St:=iP M g ((x.a g).toNat+1) x
def jb (M:ar):Nat→Nat→St→St
 | 0,_,x=>x
 | m+1,i,x=>jb M m (i+1) (gP M i x)
def jI (M:ar) (x:St) (v:Ev):St :=
 let g:=v.g.toNat
 let k:=(x.a g).toNat
 if v.k=2 then x.go g 0
 else if v.k=0∧0≤M.next g k then x.go g (M.next g k)
 else if v.k=1∧x.f g=M.tries g k-1 then x.go g (M.back g k)
 else if v.k=1 then x.fail g
 else x
def bB (M:ar) (x:St) (v:Ev):St:=jb M M.n 0 (jI M x v)
theorem ar.At.go {M:ar}{x:St} (h:M.At x) (G:M.Good) {g:Nat} (hg:g<M.n) {k:Int} (hk:0≤k) (hk2:k<M.rungs g):M.At (x.go g k):=by
 have h3:=G.n3
 refine⟨fun j hj=>?_,fun j hj=>?_,fun j hj hj3=>?_,fun j hj hj3=>?_⟩
 ·rw[St.a_go _ (by omega) (by omega)]
  split
  ·rename_i e;subst e;exact⟨hk,hk2⟩
  ·exact h.a j hj
 ·rw[St.a_go _ (by omega) (by omega),St.f_go _ (by omega) (by omega)]
  split
  ·rename_i e;subst e
   have:=G.tries j k.toNat hj (by omega)
   omega
  ·exact h.f j hj
 ·rw[St.a_go _ (by omega) (by omega),if_neg (by omega)];exact h.a0 j hj hj3
 ·rw[St.f_go _ (by omega) (by omega),if_neg (by omega)];exact h.f0 j hj hj3
theorem ar.At.zero {M:ar} (G:M.Good):M.At St.zero:=by
 have ha:∀ g,St.zero.a g=0:=fun g=>by unfold St.a St.zero;split<;>rfl
 have hf:∀ g,St.zero.f g=0:=fun g=>by unfold St.f St.zero;split<;>rfl
 refine⟨fun g hg=>?_,fun g hg=>?_,fun g _ _=>ha g,fun g _ _=>hf g⟩
 ·rw[ha];have:=G.r0 g hg;omega
 ·rw[ha,hf];have:=G.tries g 0 hg (G.r0 g hg);simp;omega
theorem j7 {M:ar} (G:M.Good) {g:Nat} (hg:g<M.n):∀ (m:Nat) (x:St),M.At x→(x.a g).toNat<m→iP M g (m+1) x=iP M g m x
 | 0,x,_,h=>by omega
 | m+1,x,hx,h=>by
  rw[iP]
  conv=>rhs;rw[iP]
  split
  ·rfl
  ·rename_i hh
   have ha:=hx.a g hg
   have h3:=G.n3
   by_cases hz:(x.a g).toNat=0
   ·exfalso;apply hh;unfold cY;rw[hz,G.needz g hg];rfl
   ·have hb:=G.back g (x.a g).toNat hg (by omega) (by omega)
    have hb0:=G.back0 g (x.a g).toNat hg (by omega)
    refine j7 G hg m _ (hx.go G hg hb0 (by omega)) ?_
    rw[St.a_go _ (by omega) (by omega),if_pos rfl]
    omega
theorem ix {M:ar} (G:M.Good) {g:Nat} (hg:g<M.n) {x:St} (hx:M.At x):∀ (d m:Nat),(x.a g).toNat<m→iP M g (m+d) x=iP M g m x
 | 0,_,_=>rfl
 | d+1,m,h=>by rw[←vw,j7 G hg _ _ hx (by omega),ix G hg hx d m h]
theorem mV {M:ar} (G:M.Good) {g:Nat} (hg:g<M.n) {x:St} (hx:M.At x) (hh:cY M x g=false) :
  0<(x.a g).toNat∧0≤M.back g (x.a g).toNat∧M.back g (x.a g).toNat<x.a g∧gP M g x=gP M g (x.go g (M.back g (x.a g).toNat)):=by
 have ha:=hx.a g hg
 have h3:=G.n3
 by_cases hz:(x.a g).toNat=0
 ·exfalso
  have:cY M x g=true:=by unfold cY;rw[hz,G.needz g hg];rfl
  rw[this] at hh;cases hh
 ·have hb:=G.back g (x.a g).toNat hg (by omega) (by omega)
  have hb0:=G.back0 g (x.a g).toNat hg (by omega)
  refine⟨by omega,hb0,by omega,?_⟩
  have hgo:=hx.go G hg hb0 (by omega)
  have hage:((x.go g (M.back g (x.a g).toNat)).a g)=M.back g (x.a g).toNat:=by rw[St.a_go _ (by omega) (by omega),if_pos rfl]
  unfold gP
  conv=>lhs;rw[iP,if_neg (by rw[hh];exact uC)]
  rw[hage]
  have:=ix G hg hgo ((x.a g).toNat-((M.back g (x.a g).toNat).toNat+1)) ((M.back g (x.a g).toNat).toNat+1) (by rw[hage];omega)
  rw[←this]
  congr 1
  omega
theorem mU {M:ar}{g:Nat}{x:St} (hh:cY M x g=true):gP M g x=x:=by
 unfold gP;rw[iP,if_pos hh]
theorem nS {M:ar} (G:M.Good) {g:Nat} (hg:g<M.n):∀ (m:Nat) (x:St),M.At x→M.At (iP M g m x)
 | 0,_,h=>h
 | m+1,x,h=>by
  rw[iP]
  split
  ·exact h
  ·have ha:=h.a g hg
   have hb0:=G.back0 g (x.a g).toNat hg (by omega)
   refine nS G hg m _ (h.go G hg hb0 ?_)
   by_cases hz:(x.a g).toNat=0
   ·rw[hz,G.backz g hg];have:=G.r0 g hg;omega
   ·have hb:=G.back g (x.a g).toNat hg (by omega) (by omega);omega
theorem lq {M:ar} (G:M.Good):∀ (m i:Nat) (x:St),i+m≤M.n→M.At x→M.At (jb M m i x)
 | 0,_,_,_,h=>h
 | m+1,i,x,hi,h=>lq G m (i+1) _ (by omega) (nS G (by omega) _ _ h)
def cx (M:ar) (v:Ev):Bool:=(decide (0≤v.g)&&decide (v.g≤(M.n:Int)-1))&&(decide (0≤v.k)&&decide (v.k≤2))
theorem dZ {M:ar}{v:Ev}:cx M v=true↔(0≤v.g∧v.g<M.n∧0≤v.k∧v.k≤2):=by
 unfold cx
 simp only[uz,decide_eq_true_eq]
 omega
theorem tg {M:ar} (G:M.Good) {x:St} (h:M.At x) {v:Ev} (hv:cx M v=true):M.At (jI M x v):=by
 obtain⟨h1,h2,h3,h4⟩:=dZ.1 hv
 have hg:v.g.toNat<M.n:=by omega
 have ha:=h.a _ hg
 have hf:=h.f _ hg
 have hn3:=G.n3
 have hr:=G.r0 _ hg
 have hn:=G.next v.g.toNat (x.a v.g.toNat).toNat hg (by omega)
 have hb0:=G.back0 v.g.toNat (x.a v.g.toNat).toNat hg (by omega)
 have hb:M.back v.g.toNat (x.a v.g.toNat).toNat<M.rungs v.g.toNat:=by
  by_cases hz:(x.a v.g.toNat).toNat=0
  ·rw[hz,G.backz _ hg];omega
  ·have hb:=G.back v.g.toNat (x.a v.g.toNat).toNat hg (by omega) (by omega);omega
 unfold jI
 simp only
 split
 ·exact h.go G hg (by omega) (by omega)
 ·split
  ·exact h.go G hg (by omega) (by omega)
  ·split
   ·exact h.go G hg hb0 hb
   ·rename_i hne
    split
    ·rename_i hk
     refine⟨fun j hj=>by rw[St.a_fail _ (by omega)];exact h.a j hj,fun j hj=>?_,fun j hj hj3=>by rw[St.a_fail _ (by omega)];exact h.a0 j hj hj3,fun j hj hj3=>?_⟩
     ·rw[St.a_fail _ (by omega),St.f_fail _ (by omega) (by omega)]
      have:=h.f j hj
      split
      ·rename_i e;subst e
       have:¬ x.f v.g.toNat=M.tries v.g.toNat (x.a v.g.toNat).toNat-1:=fun e=>hne ⟨hk,e⟩
       omega
      ·exact this
     ·rw[St.f_fail _ (by omega) (by omega),if_neg (by omega)];exact h.f0 j hj hj3
    ·exact h
theorem kJ {M:ar} (G:M.Good) {x:St} (h:M.At x) {v:Ev} (hv:cx M v=true):M.At (bB M x v) :=
 lq G _ _ _ (by omega) (tg G h hv)
/-! ### the search -/
structure av where
 src:St
 ev:Ev
 first:Bool
def Tab.get (R:List (St×av)) (x:St):Option av:=(R.find? (fun p=>decide (p.1=x))).map (·.2)
def evs (n:Nat):List Ev:=(List.range n).flatMap (fun (g:Nat)=>[⟨g,0⟩,⟨g,1⟩,⟨g,2⟩])
def gi (M:ar) (al:Ev→Bool) (now:St) (s:List (St×av)×List St) (v:Ev):List (St×av)×List St :=
 if (Tab.get s.1 (bB M now v)).isNone&&al v then (s.1++[(bB M now v,⟨now,v,false⟩)],s.2++[bB M now v]) else s
def je (M:ar) (al:Ev→Bool) (now:St) (s:List (St×av)×List St):List (St×av)×List St:=(evs M.n).foldl (gi M al now) s
def bfs (M:ar) (al:Ev→Bool) (fd:St→Bool):Nat→List (St×av)→List St→Option St×List (St×av)
 | 0,R,_=>(none,R)
 | _+1,R,[]=>(none,R)
 | m+1,R,now :: q=>if fd now then (some now,R) else bfs M al fd m (je M al now (R,q)).1 (je M al now (R,q)).2
def bU (R:List (St×av)):Nat→St→List Ev
 | 0,_=>[]
 | m+1,x=>match Tab.get R x with
  | none=>[]
  | some s=>if s.first then [] else s.ev :: bU R m s.src
def kO (x:St):List (St×av):=[(x,⟨St.zero,⟨0,0⟩,true⟩)]
def a6 (M:ar) (x:St) (al:Ev→Bool) (fd:St→Bool):Option St×List (St×av):=bfs M al fd 65537 (kO x) [x]
theorem jq:∀ (n:Nat) (l:List Nat),l.Nodup→(∀ x∈l,x<n)→l.length≤n
 | 0,[],_,_=>uo _
 | 0,x :: l,_,h=>absurd (h x (uU ..)) (wH _)
 | n+1,l,hd,h=>by
  have h1:(l.erase n).length≤n:=jq n (l.erase n) (hd.erase n) (fun x hx=>by
   have h2:=(List.Nodup.mem_erase_iff hd).1 hx
   have h3:=h x h2.2
   omega)
  have h4:=List.length_erase (l:=l) (a:=n)
  split at h4<;>omega
def au (R:List (St×av)):List St:=R.map (·.1)
def li (x:St):Nat:=((((x.a0.toNat*8+x.a1.toNat)*8+x.a2.toNat)*4+x.f0.toNat)*4+x.f1.toNat)*4+x.f2.toNat
theorem bM {M:ar} (G:M.Good) {x:St} (h:M.At x):∀ g,g<3→0≤x.a g∧x.a g<8∧0≤x.f g∧x.f g<4:=by
 intro g hg
 by_cases hn:g<M.n
 ·have h1:=h.a g hn
  have h2:=h.f g hn
  have h3:=G.r8 g hn
  have h4:=G.tries g (x.a g).toNat hn (by omega)
  omega
 ·have h1:=h.a0 g (by omega) hg
  have h2:=h.f0 g (by omega) hg
  omega
theorem tn4 {a:Int} (h:0≤a∧a<4):a.toNat<4:=by omega
theorem tn8 {a:Int}{p:Prop} (h:0≤a∧a<8∧p):a.toNat<8:=by have:=h.2.1;have:=h.1;omega
theorem io {a b:Int} (ha:0≤a) (hb:0≤b) (h:a.toNat=b.toNat):a=b:=by omega
theorem sW {a b c d:Nat} (hc:c<8) (hd:d<8) (h:a*8+c=b*8+d):a=b∧c=d:=by omega
theorem qX {a b c d:Nat} (hc:c<4) (hd:d<4) (h:a*4+c=b*4+d):a=b∧c=d:=by omega
theorem lt8 {a c m:Nat} (ha:a<m) (hc:c<8):a*8+c<m*8:=by omega
theorem lt4 {a c m:Nat} (ha:a<m) (hc:c<4):a*4+c<m*4:=by omega
theorem r9 {M:ar} (G:M.Good) {x:St} (h:M.At x):li x<32768:=by
 have h0:=bM G h 0 (by omega)
 have h1:=bM G h 1 (by omega)
 have h2:=bM G h 2 (by omega)
 simp only[St.a,St.f] at h0 h1 h2
 have e0:x.a0.toNat<8:=by omega
 have e1:=lt8 e0 (show x.a1.toNat<8 by omega)
 have e2:=lt8 e1 (show x.a2.toNat<8 by omega)
 have e3:=lt4 e2 (show x.f0.toNat<4 by omega)
 have e4:=lt4 e3 (show x.f1.toNat<4 by omega)
 have e5:=lt4 e4 (show x.f2.toNat<4 by omega)
 exact uv e5 (by decide)
theorem qc {M:ar} (G:M.Good) {x y:St} (hx:M.At x) (hy:M.At y) (e:li x=li y):x=y:=by
 have h0:=bM G hx 0 (by omega)
 have h1:=bM G hx 1 (by omega)
 have h2:=bM G hx 2 (by omega)
 have k0:=bM G hy 0 (by omega)
 have k1:=bM G hy 1 (by omega)
 have k2:=bM G hy 2 (by omega)
 simp only[St.a,St.f] at h0 h1 h2 k0 k1 k2
 unfold li at e
 obtain⟨e,g5⟩:=qX (tn4 h2.2.2) (tn4 k2.2.2) e
 obtain⟨e,g4⟩:=qX (tn4 h1.2.2) (tn4 k1.2.2) e
 obtain⟨e,g3⟩:=qX (tn4 h0.2.2) (tn4 k0.2.2) e
 obtain⟨e,g2⟩:=sW (tn8 h2) (tn8 k2) e
 obtain⟨g0,g1⟩:=sW (tn8 h1) (tn8 k1) e
 have e0:=io h0.1 k0.1 g0
 have e1:=io h1.1 k1.1 g1
 have e2:=io h2.1 k2.1 g2
 have e3:=io h0.2.2.1 k0.2.2.1 g3
 have e4:=io h1.2.2.1 k1.2.2.1 g4
 have e5:=io h2.2.2.1 k2.2.2.1 g5
 cases x;cases y
 simp only at e0 e1 e2 e3 e4 e5
 subst e0;subst e1;subst e2;subst e3;subst e4;subst e5
 rfl
theorem dX {R:List (St×av)}{x:St}:Tab.get R x=none↔x∉au R:=by
 unfold Tab.get au
 rw[Option.map_eq_none_iff,List.find?_eq_none]
 constructor
 ·intro h hm
  obtain⟨p,hp,e⟩:=ve.1 hm
  exact h p hp (by simpa using e)
 ·intro h p hp e
  exact h (ve.2 ⟨p,hp,by simpa using e⟩)
theorem mX {R:List (St×av)}{x y:St}{s:av} (hy:y∉au R):Tab.get (R++[(y,s)]) x=if x=y then some s else Tab.get R x:=by
 unfold Tab.get
 rw[List.find?_append]
 by_cases hx:x=y
 ·subst hx
  have:R.find? (fun p=>decide (p.1=x))=none:=by
   have:=dX.2 hy
   unfold Tab.get at this
   exact Option.map_eq_none_iff.1 this
  rw[this]
  simp
 ·rw[if_neg hx]
  have hyx:¬ y=x:=fun e=>hx e.symm
  cases R.find? (fun p=>decide (p.1=x))<;>simp[hyx]
theorem ie {R:List (St×av)} (hd:(au R).Nodup) {j:Nat} (hj:j<R.length):Tab.get R R[j].1=some R[j].2:=by
 unfold Tab.get
 have:R.find? (fun p=>decide (p.1=R[j].1))=some R[j]:=by
  rw[List.find?_eq_some_iff_getElem]
  refine⟨by simp,j,hj,rfl,fun i hi=>?_⟩
  have hi2:i<R.length:=by omega
  have:=List.pairwise_iff_getElem.1 hd i j (by unfold au;simpa using hi2) (by unfold au;simpa using hj) hi
  simp only[ws,decide_eq_false_iff_not]
  intro e
  exact this (by unfold au;simpa using e)
 rw[this];rfl
structure Inv (M:ar) (al:Ev→Bool) (fd:St→Bool) (x0:St) (R:List (St×av)) (i:Nat):Prop where
 nd:(au R).Nodup
 at_:∀ x∈au R,M.At x
 h0:R[0]?=some (x0,⟨St.zero,⟨0,0⟩,true⟩)
 src:∀ j p,0<j→R[j]?=some p→∃ k q,k<j∧k<i+1∧R[k]?=some q∧p.2.src=q.1∧p.2.first=false∧p.1=bB M q.1 p.2.ev∧cx M p.2.ev=true∧al p.2.ev=true
 done:∀ j p,j<i→R[j]?=some p→fd p.1=false∧∀ v,cx M v=true→al v=true→bB M p.1 v∈au R
theorem dr {M:ar} (G:M.Good) {al:Ev→Bool}{fd:St→Bool}{x0:St}{R:List (St×av)}{i:Nat} (h:Inv M al fd x0 R i):R.length≤32768:=by
 have h1:((au R).map li).Nodup:=by
  unfold List.Nodup
  rw[List.pairwise_map]
  refine List.Pairwise.imp_of_mem ?_ h.nd
  intro a b ha hb hne e
  exact hne (qc G (h.at_ a ha) (h.at_ b hb) e)
 have:=jq 32768 _ h1 (fun n hn=>by
  obtain⟨x,hx,rfl⟩:=ve.1 hn
  exact r9 G (h.at_ x hx))
 simpa[au] using this
theorem sB {n:Nat}{v:Ev}:v∈evs n↔(0≤v.g∧v.g<n∧0≤v.k∧v.k≤2):=by
 unfold evs
 rw[List.mem_flatMap]
 constructor
 ·rintro⟨g,hg,hv⟩
  have:=uL.1 hg
  simp only[uy,ux,or_false] at hv
  rcases hv with rfl | rfl | rfl<;>simp<;>omega
 ·rintro⟨h1,h2,h3,h4⟩
  refine⟨v.g.toNat,uL.2 (by omega),?_⟩
  obtain⟨g,k⟩:=v
  simp only at h1 h2 h3 h4 ⊢
  have e1:((g.toNat:Nat):Int)=g:=by omega
  have e2:k=0∨k=1∨k=2:=by omega
  rw[e1]
  rcases e2 with rfl | rfl | rfl<;>simp
theorem gp {M:ar}{v:Ev}:v∈evs M.n↔cx M v=true:=by rw[sB,dZ]
structure Mid (M:ar) (al:Ev→Bool) (fd:St→Bool) (x0:St) (now:St) (R:List (St×av)) (i:Nat) (vs:List Ev):Prop where
 inv:Inv M al fd x0 R i
 here:∃ s,R[i]?=some (now,s)
 seen:∀ v∈vs,al v=true→bB M now v∈au R
theorem lQ {M:ar} (G:M.Good) {al:Ev→Bool}{fd:St→Bool}{x0 now:St}{R:List (St×av)}{i:Nat}{vs:List Ev}{Q:List St} (h:Mid M al fd x0 now R i vs) {v:Ev} (hv:cx M v=true)
  (hQ:(now :: Q)=(au R).drop i):Mid M al fd x0 now (gi M al now (R,Q) v).1 i (vs++[v])∧(now :: (gi M al now (R,Q) v).2)=(au (gi M al now (R,Q) v).1).drop i:=by
 obtain⟨s,hs⟩:=h.here
 have hil:i<R.length:=(uD.1 hs).1
 have hnowm:now∈au R:=ve.2 ⟨_,vV hs,rfl⟩
 unfold gi
 dsimp only
 by_cases hc:((Tab.get R (bB M now v)).isNone&&al v)=true
 ·rw[if_pos hc]
  rw[uz] at hc
  dsimp only
  have hn:bB M now v∉au R:=dX.1 (Option.isNone_iff_eq_none.1 hc.1)
  have hk:au (R++[(bB M now v,⟨now,v,false⟩)])=au R++[bB M now v]:=by unfold au;simp
  refine⟨⟨⟨?_,?_,?_,?_,?_⟩,⟨s,?_⟩,?_⟩,?_⟩
  ·rw[hk]
   rw[wQ]
   refine⟨h.inv.nd,by simp,?_⟩
   intro a ha b hb e
   simp at hb
   subst hb;subst e
   exact hn ha
  ·intro x hx
   rw[hk] at hx
   rcases uV.1 hx with hx | hx
   ·exact h.inv.at_ x hx
   ·simp at hx;subst hx;exact kJ G (h.inv.at_ now hnowm) hv
  ·rw[uS (by omega)];exact h.inv.h0
  ·intro j p hj hp
   by_cases hjl:j<R.length
   ·rw[uS hjl] at hp
    obtain⟨k,q,h1,h2,h3,h4⟩:=h.inv.src j p hj hp
    exact⟨k,q,h1,h2,by rw[uS (by omega)];exact h3,h4⟩
   ·have hj2:=(uD.1 hp).1
    simp at hj2
    have:j=R.length:=by omega
    subst this
    simp at hp
    subst hp
    exact⟨i,(now,s),hil,by omega,by rw[uS hil];exact hs,rfl,rfl,rfl,hv,hc.2⟩
  ·intro j p hj hp
   rw[uS (by omega)] at hp
   obtain⟨h1,h2⟩:=h.inv.done j p hj hp
   exact⟨h1,fun v hv ha=>by rw[hk];exact vE _ (h2 v hv ha)⟩
  ·rw[uS hil];exact hs
  ·intro u hu ha
   rw[hk]
   rcases uV.1 hu with hu | hu
   ·exact vE _ (h.seen u hu ha)
   ·simp at hu;subst hu;exact List.mem_append_right _ (wM.2 rfl)
  ·rw[hk,List.drop_append_of_le_length (by unfold au;simp;omega),←hQ];rfl
 ·rw[if_neg hc]
  refine⟨⟨h.inv,h.here,?_⟩,hQ⟩
  intro u hu ha
  rcases uV.1 hu with hu | hu
  ·exact h.seen u hu ha
  ·simp at hu;subst hu
   apply Classical.byContradiction
   intro hm
   apply hc
   rw[dX.2 hm,ha];rfl
theorem nY {M:ar} (G:M.Good) {al:Ev→Bool}{fd:St→Bool}{x0 now:St}{i:Nat}:∀ (us vs:List Ev) (R:List (St×av)) (Q:List St),(∀ v∈us,cx M v=true)→Mid M al fd x0 now R i vs→(now :: Q)=(au R).drop i →
  Mid M al fd x0 now (us.foldl (gi M al now) (R,Q)).1 i (vs++us)∧(now :: (us.foldl (gi M al now) (R,Q)).2)=(au (us.foldl (gi M al now) (R,Q)).1).drop i
 | [],vs,R,Q,_,h,hQ=>by simpa using ⟨h,hQ⟩
 | u :: us,vs,R,Q,hu,h,hQ=>by
  obtain⟨h1,h2⟩:=lQ G h (hu u (uU ..)) hQ
  have:=nY G us (vs++[u]) _ _ (fun v hv=>hu v (vc _ hv)) h1 h2
  rw[wt] at this
  exact this
theorem lH {M:ar} (G:M.Good) {al:Ev→Bool}{fd:St→Bool}{x0 now:St}{R:List (St×av)}{i:Nat}{Q:List St} (h:Inv M al fd x0 R i) (hQ:(now :: Q)=(au R).drop i) (hf:fd now=false) :
  Inv M al fd x0 (je M al now (R,Q)).1 (i+1)∧(je M al now (R,Q)).2=(au (je M al now (R,Q)).1).drop (i+1):=by
 have hi:i<(au R).length:=by
  rcases vf i (au R).length with h | h
  ·exact h
  ·rw[uT h] at hQ;cases hQ
 have hil:i<R.length:=by simpa[au] using hi
 have hnow:(au R)[i]=now:=by
  rw[uR hi] at hQ
  exact (List.cons.inj hQ).1.symm
 have hs:R[i]?=some (now,R[i].2):=by
  rw[uu hil]
  have:R[i].1=now:=by rw[←hnow];simp[au]
  rw[←this]
 obtain⟨h1,h2⟩:=nY G (evs M.n) [] R Q (fun v hv=>gp.1 hv) ⟨h,⟨_,hs⟩,fun v hv=>absurd hv (ux)⟩ hQ
 rw[v_] at h1
 unfold je
 obtain⟨s',hs'⟩:=h1.here
 refine⟨⟨h1.inv.nd,h1.inv.at_,h1.inv.h0,fun j p hj hp=>?_,fun j p hj hp=>?_⟩,?_⟩
 ·obtain⟨k,q,a,b,c⟩:=h1.inv.src j p hj hp
  exact⟨k,q,a,by omega,c⟩
 ·by_cases hji:j<i
  ·exact h1.inv.done j p hji hp
  ·have:j=i:=by omega
   subst this
   rw[hs'] at hp
   cases hp
   exact⟨hf,fun v hv ha=>h1.seen v (gp.2 hv) ha⟩
 ·have:=congrArg List.tail h2
  rw[List.tail_drop] at this
  exact this
theorem j_ {M:ar}{al:Ev→Bool}{fd:St→Bool}{x:St} (hx:M.At x):Inv M al fd x (kO x) 0:=by
 refine⟨by unfold au kO;simp,by intro y hy;unfold au kO at hy;simp at hy;subst hy;exact hx,rfl,fun j p hj hp=>?_,fun j p hj _=>absurd hj (wH _)⟩
 have:=(uD.1 hp).1
 unfold kO at this
 simp at this
 omega
structure pM (M:ar) (al:Ev→Bool) (fd:St→Bool) (x0:St) (R:List (St×av)) (y:St):Prop where
 ex:∃ i s,Inv M al fd x0 R i∧R[i]?=some (y,s)
 fd:fd y=true
structure Lost (M:ar) (al:Ev→Bool) (fd:St→Bool) (x0:St) (R:List (St×av)):Prop where
 inv:Inv M al fd x0 R R.length
theorem lh {M:ar} (G:M.Good) {al:Ev→Bool}{fd:St→Bool}{x0:St}:∀ (m:Nat) (R:List (St×av)) (Q:List St) (i:Nat),Inv M al fd x0 R i→Q=(au R).drop i→32769-i≤m →
  (match bfs M al fd m R Q with | (some y,R')=>pM M al fd x0 R' y | (none,R')=>Lost M al fd x0 R')
 | 0,R,Q,i,h,hQ,hm=>by
  have:=dr G h
  have hl:(au R).length=R.length:=by simp[au]
  rw[bfs]
  have hi:Inv M al fd x0 R R.length:=⟨h.nd,h.at_,h.h0,fun j p hj hp=>by
   obtain⟨k,q,a,b,c⟩:=h.src j p hj hp
   have:=(uD.1 c.1).1
   exact⟨k,q,a,by omega,c⟩,fun j p hj hp=>h.done j p (by omega) hp⟩
  exact⟨hi⟩
 | m+1,R,[],i,h,hQ,hm=>by
  rw[bfs]
  have hl:(au R).length=R.length:=by simp[au]
  have hle:(au R).length≤i:=by
   have:=congrArg List.length hQ
   rw[uN] at this
   simp at this
   omega
  have hi:Inv M al fd x0 R R.length:=⟨h.nd,h.at_,h.h0,fun j p hj hp=>by
   obtain⟨k,q,a,b,c⟩:=h.src j p hj hp
   have:=(uD.1 c.1).1
   exact⟨k,q,a,by omega,c⟩,fun j p hj hp=>h.done j p (by omega) hp⟩
  exact⟨hi⟩
 | m+1,R,now :: q,i,h,hQ,hm=>by
  rw[bfs]
  cases hf:fd now
  ·rw[if_neg uC]
   obtain⟨h1,h2⟩:=lH G h hQ hf
   exact lh G m _ _ (i+1) h1 h2 (by omega)
  ·rw[if_pos rfl]
   have hi:i<(au R).length:=by
    rcases vf i (au R).length with h | h
    ·exact h
    ·rw[uT h] at hQ;cases hQ
   have hil:i<R.length:=by simpa[au] using hi
   have hnow:(au R)[i]=now:=by
    rw[uR hi] at hQ
    exact (List.cons.inj hQ).1.symm
   have hs:R[i]?=some (now,R[i].2):=by
    rw[uu hil]
    have:R[i].1=now:=by rw[←hnow];simp[au]
    rw[←this]
   exact⟨⟨i,_,h,hs⟩,hf⟩
theorem ma {M:ar} (G:M.Good) {al:Ev→Bool}{fd:St→Bool}{x:St} (hx:M.At x) :
  (match a6 M x al fd with | (some y,R')=>pM M al fd x R' y | (none,R')=>Lost M al fd x R') :=
 lh G 65537 (kO x) [x] 0 (j_ hx) rfl (by omega)
/-! ### the way back -/
def gt (M:ar) (x:St) (l:List Ev):St:=l.foldl (bB M) x
theorem fv {M:ar}{al:Ev→Bool}{fd:St→Bool}{x0:St}{R:List (St×av)}{i:Nat} (h:Inv M al fd x0 R i):∀ (j d:Nat) (p:St×av),R[j]?=some p→bU R (j+1+d) p.1=bU R (j+1) p.1:=by
 intro j
 induction j using Nat.strongRecOn with
 | ind j ih =>
  intro d p hp
  obtain⟨hj,rfl⟩:=uD.1 hp
  rw[show j+1+d=(j+d)+1 from by omega,bU,bU,ie h.nd hj]
  simp only
  by_cases hj0:j=0
  ·subst hj0
   have:=h.h0
   rw[uu hj] at this
   have e:=Option.some.inj this
   rw[e];rfl
  ·obtain⟨k,q,hk,_,hq,hsrc,hfst,_⟩:=h.src j _ (by omega) hp
   rw[hfst,hsrc]
   simp only[u_,if_false]
   congr 1
   have e1:=ih k hk (j-1-k+d) q hq
   have e2:=ih k hk (j-1-k) q hq
   rw[show k+1+(j-1-k+d)=j+d from by omega] at e1
   rw[show k+1+(j-1-k)=j from by omega] at e2
   rw[e1,e2]
theorem oC {M:ar}{al:Ev→Bool}{fd:St→Bool}{x0:St}{R:List (St×av)}{i:Nat} (h:Inv M al fd x0 R i):∀ (j:Nat) (p:St×av),R[j]?=some p →
  gt M x0 (bU R (j+1) p.1).reverse=p.1∧(∀ k,k<(bU R (j+1) p.1).length→∃ j' p',j'<j∧R[j']?=some p'∧gt M x0 ((bU R (j+1) p.1).reverse.take k)=p'.1)∧∀ v∈bU R (j+1) p.1,cx M v=true∧al v=true:=by
 intro j
 induction j using Nat.strongRecOn with
 | ind j ih =>
  intro p hp
  obtain⟨hj,rfl⟩:=uD.1 hp
  rw[bU,ie h.nd hj]
  simp only
  by_cases hj0:j=0
  ·subst hj0
   have:=h.h0
   rw[uu hj] at this
   have e:=Option.some.inj this
   rw[e]
   refine⟨rfl,fun k hk=>?_,fun v hv=>?_⟩
   ·simp at hk
   ·simp at hv
  ·obtain⟨k,q,hk,_,hq,hsrc,hfst,hmv,hok,hal⟩:=h.src j _ (by omega) hp
   rw[hfst,hsrc]
   simp only[u_,if_false]
   have e2:=fv h k (j-1-k) q hq
   rw[show k+1+(j-1-k)=j from by omega] at e2
   rw[e2]
   obtain⟨a1,a2,a3⟩:=ih k hk q hq
   generalize bU R (k+1) q.1=B at *
   refine⟨?_,fun m hm=>?_,fun v hv=>?_⟩
   ·rw[List.reverse_cons,gt,wO]
    show bB M (gt M x0 B.reverse) _=_
    rw[a1,←hmv]
   ·rw[List.reverse_cons]
    simp only[uG] at hm
    rw[List.take_append_of_le_length (by simp;omega)]
    by_cases hmB:m<B.length
    ·obtain⟨j',p',b1,b2,b3⟩:=a2 m hmB
     exact⟨j',p',by omega,b2,b3⟩
    ·have:m=B.reverse.length:=by simp;omega
     subst this
     rw[uX]
     exact⟨k,q,hk,hq,a1⟩
   ·rcases uy.1 hv with rfl | hv
    ·exact⟨hok,hal⟩
    ·exact a3 v hv
def iS (R:List (St×av)) (y:St):List Ev:=(bU R R.length y).reverse
theorem tK {M:ar}{al:Ev→Bool}{fd:St→Bool}{x0:St}{R:List (St×av)}{y:St} (h:pM M al fd x0 R y) :
  gt M x0 (iS R y)=y∧(∀ k,k<(iS R y).length→fd (gt M x0 ((iS R y).take k))=false)∧∀ v∈iS R y,cx M v=true∧al v=true:=by
 obtain⟨i,s,hI,hi⟩:=h.ex
 have hil:=(uD.1 hi).1
 obtain⟨a1,a2,a3⟩:=oC hI i (y,s) hi
 have e:=fv hI i (R.length-(i+1)) (y,s) hi
 rw[show i+1+(R.length-(i+1))=R.length from by omega] at e
 unfold iS
 simp only at e a1 a2 a3
 rw[e]
 refine⟨a1,fun k hk=>?_,fun v hv=>a3 v (List.mem_reverse.1 hv)⟩
 rw[List.length_reverse] at hk
 obtain⟨j',p',h1,h2,h3⟩:=a2 k hk
 rw[h3]
 exact (hI.done j' p' h1 h2).1
theorem oW {M:ar}{al:Ev→Bool}{fd:St→Bool}{x0:St}{R:List (St×av)}{i:Nat} (h:Inv M al fd x0 R i) {j:Nat}{p:St×av} (hp:R[j]?=some p) (hf:p.2.first=false) :
  ∃ k q,k<j∧R[k]?=some q∧p.2.src=q.1∧Tab.get R q.1=some q.2∧bU R (j+1) p.1=p.2.ev :: bU R (k+1) q.1:=by
 obtain⟨hj,rfl⟩:=uD.1 hp
 by_cases hj0:j=0
 ·subst hj0
  have:=h.h0
  rw[uu hj] at this
  have e:=Option.some.inj this
  rw[e] at hf
  cases hf
 ·obtain⟨k,q,hk,_,hq,hsrc,_⟩:=h.src j _ (by omega) hp
  obtain⟨hkl,rfl⟩:=uD.1 hq
  refine⟨k,_,hk,hq,hsrc,ie h.nd hkl,?_⟩
  rw[bU,ie h.nd hj]
  simp only
  rw[hf,hsrc]
  simp only[u_,if_false]
  have e2:=fv h k (j-1-k) _ hq
  rw[show k+1+(j-1-k)=j from by omega] at e2
  rw[e2]
theorem qJ {M:ar}{al:Ev→Bool}{fd:St→Bool}{x0:St}{R:List (St×av)}{i:Nat} (h:Inv M al fd x0 R i) {j:Nat}{p:St×av} (hp:R[j]?=some p) (hf:p.2.first=true):bU R (j+1) p.1=[]:=by
 obtain⟨hj,rfl⟩:=uD.1 hp
 rw[bU,ie h.nd hj]
 simp only
 rw[hf];rfl
theorem qI {M:ar}{al:Ev→Bool}{fd:St→Bool}{x0:St}{R:List (St×av)}{i:Nat} (h:Inv M al fd x0 R i) {j:Nat}{p:St×av} (hp:R[j]?=some p):bU R R.length p.1=bU R (j+1) p.1:=by
 have hj:=(uD.1 hp).1
 have:=fv h j (R.length-(j+1)) p hp
 rw[show j+1+(R.length-(j+1))=R.length from by omega] at this
 exact this
def aR (M:ar):St→List Ev→List St
 | x,[]=>[x]
 | x,v :: l=>x :: aR M (bB M x v) l
theorem bN (M:ar):∀ (l:List Ev) (x:St),(aR M x l).length=l.length+1
 | [],_=>rfl
 | v :: l,x=>by simp[aR,bN M l]
theorem gw (M:ar):∀ (l:List Ev) (x:St) (i:Nat),i≤l.length→(aR M x l)[i]?=some (gt M x (l.take i))
 | [],x,i,h=>by
  have:i=0:=by simpa using h
  subst this;rfl
 | v :: l,x,0,_=>rfl
 | v :: l,x,i+1,h=>by
  show (aR M (bB M x v) l)[i]?=_
  rw[gw M l _ i (by simpa using h)]
  rfl
theorem fp (M:ar):∀ (l:List Ev) (x:St) (v:Ev),aR M x (l++[v])=aR M x l++[bB M (gt M x l) v]
 | [],_,_=>rfl
 | u :: l,x,v=>by
  show x :: aR M (bB M x u) (l++[v])=x :: aR M (bB M x u) l++_
  rw[fp M l];rfl
theorem nz {M:ar} (G:M.Good):∀ (l:List Ev) (x:St),M.At x→(∀ v∈l,cx M v=true)→M.At (gt M x l)
 | [],_,h,_=>h
 | v :: l,_,h,hv=>nz G l _ (kJ G h (hv v (uU ..))) (fun u hu=>hv u (vc _ hu))
def dD (M:ar) (g:Nat):Nat→Nat→Bool
 | 0,_=>false
 | m+1,k=>if M.next g k<0 then true else dD M g m (M.next g k).toNat
theorem i_ {M:ar}{g:Nat}:∀ (m d k:Nat),dD M g m k=true→dD M g (m+d) k=true
 | 0,_,_,h=>by cases h
 | m+1,d,k,h=>by
  rw[show m+1+d=(m+d)+1 from by omega,dD]
  rw[dD] at h
  split
  ·rfl
  ·rename_i hn
   rw[if_neg hn] at h
   exact i_ m d _ h
def bO (M:ar) (g:Nat):Nat→Nat→Nat→Nat→Int
 | 0,_,_,_=>0
 | m+1,k,f,left =>
  if M.next g k<0 then 0
  else
   let a:=bO M g m (M.next g k).toNat 0 left
   let b:=match left with
    | 0=>a
    | l+1=>max (max a (bO M g m 0 0 l)) (if (f:Int)=M.tries g k-1 then bO M g m (M.back g k).toNat 0 l else bO M g m k (f+1) l)
   b+M.mins g k
structure cV (M:ar) (g:Nat):Prop where
 good:M.Good
 lt:g<M.n
 ends:∀ k,k<M.rungs g→dD M g (M.rungs g) k=true
theorem cV.eight {M:ar}{g:Nat} (L:cV M g) {k:Nat} (hk:k<M.rungs g):dD M g 8 k=true:=by
 have h8:=L.good.r8 g L.lt
 have:=i_ (M.rungs g) (8-M.rungs g) k (L.ends k hk)
 rw[show M.rungs g+(8-M.rungs g)=8 from by omega] at this
 exact this
theorem cV.back {M:ar}{g:Nat} (L:cV M g) {k:Nat} (hk:k<M.rungs g):(M.back g k).toNat<M.rungs g:=by
 by_cases h0:k=0
 ·subst h0;rw[L.good.backz g L.lt];exact hk
 ·have:=L.good.back g k L.lt hk (by omega)
  have:=L.good.back0 g k L.lt hk
  omega
theorem dB {M:ar}{g:Nat} (L:cV M g):∀ (m e k f left:Nat),k<M.rungs g→dD M g e k=true→left*9+e≤m→bO M g (m+1) k f left=bO M g m k f left
 | 0,e,k,f,left,hk,he,hm=>by
  have:e=0:=by omega
  subst this;cases he
 | m+1,0,k,f,left,hk,he,hm=>by cases he
 | m+1,e+1,k,f,left,hk,he,hm=>by
  rw[bO]
  conv=>rhs;rw[bO]
  rw[dD] at he
  by_cases hn:M.next g k<0
  ·rw[if_pos hn,if_pos hn]
  ·rw[if_neg hn] at he
   rw[if_neg hn,if_neg hn]
   have hnx:=L.good.next g k L.lt hk
   have h1:=dB L m e (M.next g k).toNat 0 left (by omega) he (by omega)
   simp only
   rw[h1]
   cases left with
   | zero=>rfl
   | succ l =>
    have r0:=L.good.r0 g L.lt
    simp only
    rw[dB L m 8 0 0 l (by omega) (L.eight (by omega)) (by omega)]
    rw[dB L m 8 (M.back g k).toNat 0 l (L.back hk) (L.eight (L.back hk)) (by omega)]
    rw[dB L m 8 k (f+1) l hk (L.eight hk) (by omega)]
theorem eH {M:ar}{g:Nat} (L:cV M g) {e k f left:Nat} (hk:k<M.rungs g) (he:dD M g e k=true):∀ (d m:Nat),left*9+e≤m→bO M g (m+d) k f left=bO M g m k f left
 | 0,_,_=>rfl
 | d+1,m,hm=>by rw[←vw,dB L (m+d) e k f left hk he (by omega),eH L hk he d m hm]
def aC (M:ar) (g k f left:Nat):Int:=bO M g (left*9+9) k f left
theorem my {M:ar}{g k f left:Nat} (h:M.next g k<0):aC M g k f left=0:=by
 unfold aC;rw[bO,if_pos h]
theorem gY {M:ar}{g:Nat} (L:cV M g) {k f left m:Nat} (hk:k<M.rungs g) (hm:left*9+8≤m):bO M g m k f left=aC M g k f left:=by
 unfold aC
 have a:=eH L (f:=f) (left:=left) hk (L.eight hk) (m-(left*9+8)) (left*9+8) (uo _)
 have b:=eH L (f:=f) (left:=left) hk (L.eight hk) 1 (left*9+8) (uo _)
 rw[show left*9+8+(m-(left*9+8))=m from by omega] at a
 rw[show left*9+8+1=left*9+9 from by omega] at b
 rw[a,b]
theorem dL {M:ar}{g:Nat} (L:cV M g) {k f left:Nat} (hk:k<M.rungs g) (h:0≤M.next g k) :
  aC M g k f left=(match left with
   | 0=>aC M g (M.next g k).toNat 0 0
   | l+1=>max (max (aC M g (M.next g k).toNat 0 (l+1)) (aC M g 0 0 l)) (if (f:Int)=M.tries g k-1 then aC M g (M.back g k).toNat 0 l else aC M g k (f+1) l))+M.mins g k:=by
 have hnx:=L.good.next g k L.lt hk
 have r0:=L.good.r0 g L.lt
 conv=>lhs;unfold aC;rw[bO,if_neg (by omega)]
 simp only
 rw[gY L (by omega) (by omega)]
 cases left with
 | zero=>rfl
 | succ l =>
  simp only
  rw[gY L (k:=0) (by omega) (by omega),gY L (L.back hk) (by omega),gY L hk (by omega)]
theorem cH {M:ar}{g:Nat} (L:cV M g):∀ (m k f left:Nat),k<M.rungs g→0≤bO M g m k f left∧bO M g m k f left≤60*(m:Int)
 | 0,_,_,_,_=>by simp[bO]
 | m+1,k,f,left,hk=>by
  rw[bO]
  split
  ·omega
  ·rename_i hn
   have hnx:=L.good.next g k L.lt hk
   have hm:=L.good.mins g k L.lt hk
   have r0:=L.good.r0 g L.lt
   have h1:=cH L m (M.next g k).toNat 0 left (by omega)
   simp only
   cases left with
   | zero=>simp only;omega
   | succ l =>
    have h2:=cH L m 0 0 l (by omega)
    have h3:=cH L m (M.back g k).toNat 0 l (L.back hk)
    have h4:=cH L m k (f+1) l hk
    simp only
    split<;>omega
theorem dq {M:ar}{g:Nat} (L:cV M g) {k f left:Nat} (hk:k<M.rungs g) (hl:left≤8):0≤aC M g k f left∧aC M g k f left≤5000:=by
 have:=cH L (left*9+9) k f left hk
 unfold aC
 omega
def gG (M:ar) (x:St):Prop:=∀ g,g<M.n→cY M x g=true
theorem nQ {M:ar} (G:M.Good) {g:Nat} (hg:g<M.n) {k:Nat} (hk:k<M.rungs g):0≤M.back g k∧M.back g k≤k∧M.back g k<M.rungs g:=by
 have h0:=G.back0 g k hg hk
 by_cases hz:k=0
 ·subst hz;rw[G.backz g hg];omega
 ·have:=G.back g k hg hk (by omega);omega
theorem tI (g:Nat):St.zero.a g=0:=by unfold St.a St.zero;split<;>rfl
structure Lone (M:ar):Prop where
 leads:cV M 0
 one:M.n=1
 free:∀ k,M.needs 0 k=[]
theorem Lone.held {M:ar} (L:Lone M) (x:St):cY M x 0=true:=by unfold cY;rw[L.free];rfl
end Go.Proofs.YtlkniohhalnjjaaGreatDoor
