/- L -/
import Derived.BigQuiet
import Derived.WalkMore
import Derived.Deep.DeepCutAuto
import Derived.Deep.CutBlock
import Derived.Deep.CutRange
import Derived.Deep.RegionWith
import Derived.RegionTactic
import Derived.Test.YtlhpcoelfhjomaaGreatDoorQMach
import Derived.Test.YtlhpcoelfhjomaaGreatDoorQNat
import Derived.Test.YtlhpcoelfhjomaaGreatDoorQB
set_option linter.all false
set_option maxRecDepth 100000
set_option maxHeartbeats 8000000
namespace Go.Proofs.YtlhpcoelfhjomaaGreatDoor
open Go.RowKit
def iW (l:List Nat):List Value:=l.map fun (d:Nat)=>Value.int .i64 (d:Int)
theorem nW (l:List Nat):(iW l).length=l.length:=by simp[iW]
theorem pX (l:List Nat) (j:Nat) (h:j<l.length):(iW l)[j]?=some (.int .i64 (nth l j)):=by simp[iW,nth,h]
theorem nV (l m:List Nat):iW (l++m)=iW l++iW m:=by simp[iW]
theorem Dl (l:List Nat) (k d:Nat):iW (l.set k d)=(iW l).set k (.int .i64 d):=by simp[iW,List.map_set]
def AtI (w:World) (p:Option Addr) (l:List Nat):Prop :=
 0<l.length->∃ b o,p=some ⟨b,o,none⟩/\b<w.heap.size/\∀ j,j<l.length->w.cell? ⟨b,o+j,none⟩=some (.int .i64 (nth l j))
def IsI (w:World) (v:Value) (l:List Nat):Prop:=∃ p cap,v=.slice p l.length cap/\l.length<=cap/\cap<=maxLen/\AtI w p l
theorem IsI.below {w w':World}{v:Value}{l:List Nat} (h:IsI w v l) (hb:Below w.heap.size w w'):IsI w' v l:=by
 obtain⟨p,cap,e,h1,h2,h3⟩:=h;refine⟨p,cap,e,h1,h2,fun hl=>?_⟩;obtain⟨b,o,e2,hlt,hc⟩:=h3 hl;exact⟨b,o,e2,Iz hlt hb.size,fun j hj=>(hb.cell (p:=⟨b,o+j,none⟩) hlt).trans (hc j hj)⟩
abbrev eJ (w:World) (base:Nat) (v:Value) (l:List Nat):Prop:=w.ownsRow base 3 1 v l.length (iW l)
theorem eJ.isU {w:World}{base:Nat}{v:Value}{l:List Nat} (h:eJ w base v l):IsI w v l:=by
 obtain⟨hlen,h⟩:=h;rcases h with ⟨rfl,h0⟩ | ⟨g,cap,cur,rfl,hg,hh,hn,hm,hs,ht⟩
 ·exact⟨none,0,by rw[h0],by omega,by simp[maxLen],fun hp=>by omega⟩
 ·refine⟨some ⟨g,0,none⟩,cap,rfl,hn,hm,fun _=>⟨g,0,rfl,?_,fun j hj=>?_⟩⟩
  ·exact (ID.1 hh).1
  ·rw[cell_of_row w g (0+j) cur _ (0,0) hh];have:=pX l j hj;rw[<-ht,KP,if_pos (by omega)] at this;simpa using this
theorem eJ.below {w w':World}{base:Nat}{v:Value}{l:List Nat} (h:eJ w base v l) (hb:Below w.heap.size w w'):eJ w' base v l:=by
 obtain⟨hlen,h⟩:=h;refine⟨hlen,?_⟩;rcases h with h | ⟨g,cap,cur,rfl,hg,hh,r⟩
 ·exact Or.inl h
 ·exact Or.inr ⟨g,cap,cur,rfl,hg,by rw[hb.block g (ID.1 hh).1];exact hh,r⟩
theorem rH (w:World) (d:Nat):∀ (j:Nat) (u:Value),[Value.int .i64 (d:Int)][j]?=some u->(w.alloc (.cells #[.int .i64 d] 3)).cell? ((⟨w.heap.size,0,none⟩:Addr).add j)=some u:=by
 intro j u hj
 match j,hj with
 | 0,hj=>simp at hj;subst hj;simp only[Addr.add,World.cell?,if_true,heap_alloc_new];rfl
theorem Dp:(Tryz.prog.info? 3).map (fun i=>(i.zero,i.size,i.bytes))=some (some (.int .i64 0),1,8):=by kernel_rfl
theorem bC {w:World}{ops:Array Oper}{rest:List Oper}{o:Oper}{a:Act}{Q:Exit->Act->World->Prop} (T:TypeId)
  (hT:Tryz.prog.underlying T=some (.slice 3)) (hgd:o.guard=none) (s x:Operand)
  (ho:o.op=.call { callee:=.builtin .append,args:=#[s,x],argTypes:=#[T,T] })
  (base:Nat) (v:Value) (l:List Nat) (z:Int) (d:Nat) (hz:z=d) (hs:a.eval s=v) (hown:eJ w base v l)
  (hx:a.eval x=.slice (some ⟨w.heap.size,0,none⟩) 1 1) (hlen:l.length<1000000000000) (hbase:base<=w.heap.size)
  (h:∀ v' w',eJ w' base v' (l++[d])->(∀ B w0,Below B w0 w->B<=base->Below B w0 w')->wpList Tryz.prog ops Q rest (a.put o.dst v') w') :
  wpList Tryz.prog ops Q (o :: rest) a (w.alloc (.cells #[.int .i64 z] 3)):=by
 subst hz;obtain⟨i0,hi,hz0,hz1,hz2⟩:=info_parts Dp;refine wpList_append_own _ hgd s x T ho base 3 i0 (.int .i64 0) 1 8 hT hi hz0 hz1 hz2 rfl (by decide) v l.length (iW l) hs (hown.alloc _) ⟨w.heap.size,0,none⟩ 1 1 [.int .i64 d] hx rfl ?_ ?_ ?_ ?_ ?_ ?_
 ·exact rH w d
 ·intro u hu;simp at hu;subst hu;rfl
 ·unfold maxLen;omega
 ·omega
 ·simp;omega
 ·intro v' w' hown' hg _;refine h v' w' ?_ ?_
  ·have:iW (l++[d])=iW l++[.int .i64 d]:=by rw[nV];rfl
   rw[eJ,this,IG];exact hown'
  ·intro B w0 hb hB;have hbs:=hown.lt;refine (hb.alloc (by omega) _).grown hg (by simp;omega) ?_;intro k hk;have:=(hbs k hk).1;omega
def fw (w:World) (g cap:Nat) (l:List Nat):Prop:=w.ownsRow g 3 1 (.slice (some ⟨g,0,none⟩) l.length cap) l.length (iW l)
theorem fw.own {w:World}{g cap base:Nat}{l:List Nat} (h:fw w g cap l) (hb:base<=g):eJ w base (.slice (some ⟨g,0,none⟩) l.length cap) l:=by
 obtain⟨h1,h2⟩:=h;refine⟨h1,?_⟩;rcases h2 with h2 | ⟨g',cap',cur,e,_,r⟩
 ·exact Or.inl h2
 ·have:g'=g:=by simp at e;exact e.1.symm
  subst this;exact Or.inr ⟨g',cap',cur,e,hb,r⟩
theorem fw.lt {w:World}{g cap:Nat}{l:List Nat} (h:fw w g cap l):g<w.heap.size:=(World.ownsRow.lt h g rfl).2
theorem fw.isU {w:World}{g cap:Nat}{l:List Nat} (h:fw w g cap l):IsI w (.slice (some ⟨g,0,none⟩) l.length cap) l:=eJ.isU (h.own (Iw _))
theorem fw.cell {w:World}{g cap:Nat}{l:List Nat} (h:fw w g cap l) {j:Nat} (hj:j<l.length):w.cell? ⟨g,j,none⟩=some (.int .i64 (nth l j)):=by
 rw[World.ownsRow.cellAt h j (by omega),pX l j hj]
theorem fw.free {w:World}{g cap:Nat}{l:List Nat} (h:fw w g cap l) (j:Nat):w.frozen? ⟨g,j,none⟩=false:=World.ownsRow.frozenAt h j
theorem fw.set {w:World}{g cap:Nat}{l:List Nat} (h:fw w g cap l) (j d:Nat) (z:Int) (hz:z=d):fw (w.setCell ⟨g,j,none⟩ (.int .i64 z)) g cap (l.set j d):=by
 subst hz;have:=(World.ownsRow.stored h j (.int .i64 d)).1;unfold fw;rw[Dl,JK];exact this
theorem fw.drewN {w:World}{g cap:Nat}{l:List Nat} (h:fw w g cap l) (n:Nat):fw (w.drewN n) g cap l:=h
theorem fw.below {w w':World}{g cap:Nat}{l:List Nat} (h:fw w g cap l) (hb:Below w.heap.size w w'):fw w' g cap l:=eJ.below h hb
theorem AtI.below {w w':World}{p:Option Addr}{l:List Nat} (h:AtI w p l) {B:Nat} (hb:Below B w w') (hB:w.heap.size<=B):AtI w' p l:=by
 intro hl;obtain⟨b,o,e2,hlt,hc⟩:=h hl;exact⟨b,o,e2,Iz hlt hb.size,fun j hj=>(hb.cell (p:=⟨b,o+j,none⟩) (by show b<B;omega)).trans (hc j hj)⟩
theorem lF {w:World}{ops:Array Oper}{rest:List Oper}{o:Oper}{a:Act}{Q:Exit->Act->World->Prop} (T:TypeId)
  (hT:Tryz.prog.underlying T=some (.slice 3)) (hgd:o.guard=none) (lo co:Operand) (hop:o.op=Op.makeSlice T lo co)
  (L C:Int) (n:Nat) (hl:a.eval lo=.int .i64 L) (hc:a.eval co=.int .i64 C) (hL:L=(n:Int)) (hC:C=(n:Int)) (hn:n<=1000000000000)
  (hK:∀ w',fw w' w.heap.size n (List.replicate n 0)->(∀ B w0,Below B w0 w->B<=w.heap.size->Below B w0 w')->w.heap.size<w'.heap.size ->
   wpList Tryz.prog ops Q rest (a.put o.dst (.slice (some ⟨w.heap.size,0,none⟩) n n)) w') :
  wpList Tryz.prog ops Q (o :: rest) a w:=by
 obtain⟨i0,hi,hz0,hz1,hz2⟩:=info_parts Dp;refine wpList_make_full _ hgd lo co T hop w.heap.size 3 i0 (.int .i64 0) 1 hT hi hz0 hz1 .i64 .i64 L C n hl hc hL hC (by rw[hz2];omega) (by unfold maxLen;omega) (Iw _) ?_;intro w' hown hg
 have hr:fw w' w.heap.size n (List.replicate n 0):=by
  unfold fw iW
  have e:(madeCells (Value.int .i64 0).cells (n*1)).toList=(List.replicate n 0).map fun (d:Nat)=>Value.int .i64 (d:Int):=by
   rw[JO];simp[Value.cells,toList_madeCells_one]
  rw[e] at hown;rw[Ke];exact hown
 refine hK w' hr (fun B w0 hb hB=>hb.grown hg hB (fun k h=>by cases h)) hr.lt
open Go.RowKit Dg
def RR:Nat:=10000
theorem aH:2<=RR:=by decide
theorem iL:RR=10000:=rfl
abbrev CR (l:List Nat):Prop:=Dg.Can RR l
theorem aQ (n:Nat):CR (aq RR n):=kj aH n
structure RIn (lo0 m:List Nat) (x i k c:Nat) (lo:List Nat):Prop where
 len:lo.length=lo0.length
 dig:∀ d∈lo,d<RR
 car:c<RR
 val:Dg.val RR lo+c*RR ^ (i+k)=Dg.val RR lo0+x*Dg.val RR (m.take k)*RR ^ i
 same:∀ j,i+k<=j->nth lo j=nth lo0 j
theorem FP {c o x y:Nat} (hc:c<RR) (ho:o<RR) (hx:x<RR) (hy:y<RR):c+(o+x*y)<RR*RR:=by
 have:x*y<=(RR-1)*(RR-1):=Je (by omega) (by omega);simp only[RR] at *;omega
theorem BN (lo0 m:List Nat) (x i:Nat) (h:∀ d∈lo0,d<RR):RIn lo0 m x i 0 0 lo0:=by
 refine⟨rfl,h,by decide,by simp,fun _ _=>rfl⟩
theorem En {lo0 m lo:List Nat}{x i k c:Nat} (h:RIn lo0 m x i k c lo) (hk:k<m.length) (hik:i+k<lo0.length) (hx:x<RR) (hm:∀ d∈m,d<RR) :
  RIn lo0 m x i (k+1) ((c+(nth lo (i+k)+x*nth m k)) / RR) (lo.set (i+k) ((c+(nth lo (i+k)+x*nth m k)) % RR)):=by
 have hlen:i+k<lo.length:=by rw[h.len];exact hik
 have hS:=FP h.car (cY h.dig hlen) hx (cY hm hk);have hpos:0<RR:=by decide
 refine⟨by simp[h.len],db h.dig (Jw _ hpos),by rw[JR hpos];exact hS,?_,?_⟩
 ·have e1:=gX (b:=RR) (d:=(c+(nth lo (i+k)+x*nth m k)) % RR) hlen;have e2:=h.val;have e3:=cL (b:=RR) hk;have e4:=Jh (c+(nth lo (i+k)+x*nth m k)) RR;rw[e3];generalize (c+(nth lo (i+k)+x*nth m k)) / RR=q at *
  generalize (c+(nth lo (i+k)+x*nth m k)) % RR=r at *
  generalize nth lo (i+k)=o at *
  generalize nth m k=y at *
  have e5:RR ^ (i+(k+1))=RR*RR ^ (i+k):=by rw[<-J7,IN,IM]
  have e6:RR ^ (i+k)=RR ^ i*RR ^ k:=JX ..;rw[e5]
  have e7:q*(RR*RR ^ (i+k))+r*RR ^ (i+k)=c*RR ^ (i+k)+o*RR ^ (i+k)+x*y*RR ^ (i+k):=by
   have:(RR*q+r)*RR ^ (i+k)=(c+(o+x*y))*RR ^ (i+k):=by rw[e4]
   grind
  have e8:x*(val RR (m.take k)+y*RR ^ k)*RR ^ i=x*val RR (m.take k)*RR ^ i+x*y*RR ^ (i+k):=by rw[e6];grind
  omega
 ·intro j hj;rw[b_ (by omega)];exact h.same j (by omega)
structure tA (l m:List Nat) (i:Nat) (lo:List Nat):Prop where
 len:lo.length=l.length+m.length
 dig:∀ d∈lo,d<RR
 val:Dg.val RR lo=Dg.val RR (l.take i)*Dg.val RR m
 zero:∀ j,i+m.length<=j->nth lo j=0
theorem yO (l m:List Nat):tA l m 0 (List.replicate (l.length+m.length) 0):=by
 refine⟨by simp,?_,by simp[nP],?_⟩
 ·intro d hd;rw[JS hd];decide
 ·intro j _;simp[nth,Kl];split<;>rfl
theorem yK {l m lo0 lo:List Nat}{i:Nat} (h:tA l m i lo0) (hi:i<l.length) (hin:RIn lo0 m (nth l i) i m.length 0 lo):tA l m (i+1) lo:=by
 refine⟨by rw[hin.len,h.len],hin.dig,?_,?_⟩
 ·have e:=hin.val;rw[JE,I7,IE (Iw _),h.val] at e;rw[e,cL hi];grind
 ·intro j hj;rw[hin.same j (by omega)];exact h.zero j (by omega)
theorem yL {l m lo0 lo:List Nat}{i c:Nat} (h:tA l m i lo0) (hi:i<l.length) (hin:RIn lo0 m (nth l i) i m.length c lo) :
  tA l m (i+1) (lo.set (i+m.length) c):=by
 have hlen:i+m.length<lo.length:=by rw[hin.len,h.len];omega
 have hz:nth lo (i+m.length)=0:=by rw[hin.same _ (Iw _)];exact h.zero _ (Iw _)
 refine⟨by simp[hin.len,h.len],db hin.dig hin.car,?_,?_⟩
 ·have e:=hin.val;have e1:=gX (b:=RR) (d:=c) hlen;rw[hz,JE,I7] at e1;rw[IE (Iw _),h.val] at e;rw[e1,e,cL hi];grind
 ·intro j hj;rw[b_ (by omega),hin.same j (by omega)];exact h.zero j (by omega)
theorem BO {l m lo0 lo:List Nat}{i c:Nat} (h:tA l m i lo0) (hin:RIn lo0 m (nth l i) i m.length c lo):nth lo (i+m.length)=0:=by
 rw[hin.same _ (Iw _)];exact h.zero _ (Iw _)
theorem Ep {l m lo:List Nat} (h:tA l m l.length lo):lean lo=aq RR (val RR l*val RR m):=by
 have:=c_ aH h.dig;rw[h.val,IE (Iw _)] at this;exact this
open Dg
theorem gC {l:List Nat}{j:Nat} (h:l.length<=j):nth l j=0:=by simp[nth,JF h]
theorem drop_one {l:List Nat}{k:Nat} (h0:0<k) (hk:k<=l.length):val RR (l.drop (k-1))=nth l (k-1)+RR*val RR (l.drop k):=by
 rw[g_ h0 hk];rfl
theorem eH (d:Nat) (l:List Nat):val RR (d :: l)=d+RR*val RR l:=rfl
def kG (l:List Nat) (k:Nat):Nat:=(nth l k*RR+(if 1<=k then nth l (k-1) else 0))*RR+(if 2<=k then nth l (k-2) else 0)
theorem cH {l:List Nat}{j:Nat} (hl:∀ d∈l,d<RR):nth l j<RR:=by
 by_cases h:j<l.length
 ·exact cY hl h
 ·rw[gC (by omega)];decide
theorem Am {l:List Nat} (hl:∀ d∈l,d<RR) (k:Nat):kG l k<1000000000000:=by
 have h1:=cH (j:=k) hl;have h2:=cH (j:=k-1) hl;have h3:=cH (j:=k-2) hl;unfold kG;simp only[RR] at *
 split<;>split<;>omega
theorem pK {l:List Nat}{k:Nat} (hk:l.length<=k+3):val RR (l.drop k)=(nth l (k+2)*RR+nth l (k+1))*RR+nth l k:=by
 have key:∀ m:List Nat,m.length<=3->val RR m=(nth m 2*RR+nth m 1)*RR+nth m 0:=by
  intro m hm
  match m,hm with
  | [],_=>rfl
  | [a],_=>simp[nth,val]
  | [a,b],_=>simp[nth,val];grind
  | [a,b,c],_=>simp[nth,val];grind
 rw[key _ (by rw[IP];omega)]
 simp only[nth,IK,J1,I7]
theorem xo {l:List Nat}{k:Nat} (h2:2<=k) (hk:l.length<=k+1):kG l k=val RR (l.drop (k-2)):=by
 rw[pK (by omega),show k-2+2=k from by omega,show k-2+1=k-1 from by omega];unfold kG;rw[if_pos (by omega),if_pos h2]
theorem Ao {l:List Nat} (hk:l.length<=2):kG l 1=RR*val RR l:=by
 have:=pK (l:=l) (k:=0) (by omega);rw[IA,gC (l:=l) (j:=0+2) (by omega)] at this;rw[this];unfold kG;simp;grind
theorem Di {a b:List Nat} (ha:∀ d∈a,d<RR) (hb:∀ d∈b,d<RR) (h1:1<=b.length) (hl:a.length<=b.length+1):kG a b.length / (kG b b.length+1)*val RR b<=val RR a:=by
 have hq:=Nat.div_mul_le_self (kG a b.length) (kG b b.length+1);generalize kG a b.length / (kG b b.length+1)=n at *
 by_cases h2:2<=b.length
 ·rw[xo h2 hl,xo h2 (by omega)] at hq;have sa:=f_ RR a (b.length-2);have sb:=f_ RR b (b.length-2);have hbt:val RR (b.take (b.length-2))<RR ^ (b.take (b.length-2)).length:=f9 _ _ (fun d hd=>hb d (J4 hd));rw[IY] at hbt;rw[Jp (by omega)] at hbt sb;by_cases hal:b.length-2<=a.length
  ·rw[Jp hal] at sa;have hle:n*val RR b<=n*(RR ^ (b.length-2)*(val RR (b.drop (b.length-2))+1)):=IV _ (by rw[sb];grind)
   have h3:n*(RR ^ (b.length-2)*(val RR (b.drop (b.length-2))+1))<=RR ^ (b.length-2)*val RR (a.drop (b.length-2)):=by
    have:=IV (RR ^ (b.length-2)) hq;grind
   omega
  ·have e0:a.drop (b.length-2)=[]:=Jt (by omega);rw[e0] at hq
   have:n=0:=by
    rcases Jd n with h | h
    ·exact h
    ·have:0<n*(val RR (b.drop (b.length-2))+1):=IH h (by omega);simp[val] at hq;omega
   subst this;omega
 ·have e1:b.length=1:=by omega
  rw[e1] at hq hl;rw[Ao hl,Ao (by omega)] at hq;have hR:0<RR:=by decide
  have:RR*(n*val RR b)<=RR*val RR a:=by grind
  exact Nat.le_of_mul_le_mul_left this hR
theorem Ae {A B n:Nat} (h1:n*B<=A) (h2:A<(n+1)*B):n=A / B/\A-B*n=A % B:=by
 have hB:0<B:=by
  rcases Jd B with h | h
  ·subst h;omega
  ·exact h
 have e:A / B=n:=Nat.div_eq_of_lt_le h1 h2;refine⟨e.symm,?_⟩;have:=Jh A B;rw[e] at this;omega
structure lX (a b:List Nat) (k:Nat) (q:List Nat) (R:Nat):Prop where
 len:q.length=a.length
 dig:∀ d∈q,d<RR
 eq:val RR (a.drop k)=val RR b*val RR (q.drop k)+R
 lt:R<val RR b
 zero:∀ j,j<k->nth q j=0
theorem xZ {a b:List Nat} (ha:∀ d∈a,d<RR) (hb:CR b) (h1:1<=b.length) (hl:b.length<=a.length) :
  lX a b (a.length-b.length+1) (List.replicate a.length 0) (val RR (a.drop (a.length-b.length+1))):=by
 refine⟨by simp,?_,?_,?_,?_⟩
 ·intro d hd;rw[JS hd];decide
 ·rw[List.drop_replicate,nP];omega
 ·have h2:=f9 RR (a.drop (a.length-b.length+1)) (fun d hd=>ha d (JB hd));have h3:=ff hb (IU.1 (by omega));rw[IP] at h2;rw[show a.length-(a.length-b.length+1)=b.length-1 from by omega] at h2;omega
 ·intro j _;simp[nth,Kl];split<;>rfl
theorem Fl {a b q:List Nat}{k R:Nat} (h:lX a b k q R) (h0:0<k) (hk:k<=a.length) (hlt:nth a (k-1)+RR*R<val RR b) :
  lX a b (k-1) q (nth a (k-1)+RR*R):=by
 refine⟨h.len,h.dig,?_,hlt,fun j hj=>h.zero j (by omega)⟩;rw[drop_one h0 hk,drop_one h0 (by rw[h.len];exact hk),h.zero _ (by omega),h.eq];grind
theorem C3 {a b q:List Nat}{k R n:Nat} (ha:∀ d∈a,d<RR) (h:lX a b k q R) (h0:0<k) (hk:k<=a.length) (hn:n=(nth a (k-1)+RR*R) / val RR b) :
  n<RR/\lX a b (k-1) (q.set (k-1) n) ((nth a (k-1)+RR*R) % val RR b):=by
 have hB:0<val RR b:=by have:=h.lt;omega
 have hd:=cH (j:=k-1) ha
 have hnr:n<RR:=by
  rw[hn,JR hB];have:=h.lt;have h4:RR*(R+1)<=RR*val RR b:=IV _ this;rw[K8] at h4;omega
 have hkq:k-1<q.length:=by rw[h.len];omega
 refine⟨hnr,by simp[h.len],db h.dig hnr,?_,Jw _ hB,fun j hj=>?_⟩
 ·have e1:val RR ((q.set (k-1) n).drop (k-1))=n+RR*val RR (q.drop k):=by
   rw[drop_one (by omega) (by rw[JK,h.len];exact hk)]
   have e2:(q.set (k-1) n).drop k=q.drop k:=by
    rw[List.drop_set,if_pos (by omega)]
   rw[e2];congr 1;simp[nth,hkq]
  rw[e1,drop_one h0 hk,h.eq];have:=Jh (nth a (k-1)+RR*R) (val RR b);rw[<-hn] at this;grind
 ·rw[b_ (by omega)];exact h.zero j (by omega)
theorem CV {a b q:List Nat}{R:Nat} (h:lX a b 0 q R):val RR q=val RR a / val RR b/\R=val RR a % val RR b/\lean q=aq RR (val RR a / val RR b):=by
 have he:=h.eq;rw[IA,IA] at he;have hlt:=h.lt;have h1:val RR q=val RR a / val RR b/\val RR a-val RR b*val RR q=val RR a % val RR b:=Ae (by rw[IM];omega) (by rw[Jg,JV,IM];omega);refine⟨h1.1,by omega,?_⟩;rw[<-h1.1];exact c_ aH h.dig
structure ni (a b:List Nat) (i borrow:Nat) (out:List Nat):Prop where
 len:out.length=i
 dig:∀ d∈out,d<RR
 bor:borrow<=1
 eq:val RR out+val RR (b.take i)=val RR (a.take i)+borrow*RR ^ i
theorem yr (a b:List Nat):ni a b 0 0 []:=⟨rfl,by simp,by omega,by simp⟩
theorem il {l:List Nat}{k:Nat}:val RR (l.take (k+1))=val RR (l.take k)+nth l k*RR ^ k:=by
 by_cases h:k<l.length
 ·exact cL h
 ·rw[gC (by omega),IE (by omega),IE (by omega)];omega
theorem Bj {a b out:List Nat}{i borrow:Nat} (ha:∀ d∈a,d<RR) (hb:∀ d∈b,d<RR) (h:ni a b i borrow out) :
  (nth b i+borrow<=nth a i->ni a b (i+1) 0 (out++[nth a i-borrow-nth b i]))/\(nth a i<nth b i+borrow->ni a b (i+1) 1 (out++[nth a i+RR-borrow-nth b i])):=by
 have h1:=cH (j:=i) ha;have h2:=cH (j:=i) hb;have h3:=h.bor;have he:=h.eq;have hp:RR ^ (i+1)=RR*RR ^ i:=by rw[IN,IM]
 refine⟨fun hc=>⟨by simp[h.len],?_,by omega,?_⟩,fun hc=>⟨by simp[h.len],?_,by omega,?_⟩⟩
 ·intro d hd;rcases Jo.1 hd with hd | hd
  ·exact h.dig d hd
  ·rw[Jj.1 hd];omega
 ·rw[eI,h.len,il,il];have:nth a i=(nth a i-borrow-nth b i)+borrow+nth b i:=by omega
  generalize nth a i-borrow-nth b i=x at *
  rw[this];grind
 ·intro d hd;rcases Jo.1 hd with hd | hd
  ·exact h.dig d hd
  ·rw[Jj.1 hd];omega
 ·rw[eI,h.len,il,il,hp];have:nth a i+RR=(nth a i+RR-borrow-nth b i)+borrow+nth b i:=by omega
  generalize nth a i+RR-borrow-nth b i=x at *
  have e:nth a i*RR ^ i+RR*RR ^ i=(x+borrow+nth b i)*RR ^ i:=by rw[<-this];grind
  grind
theorem DA {a b out:List Nat}{borrow:Nat} (h:ni a b a.length borrow out) (hlb:b.length<=a.length) (hle:val RR b<=val RR a):lean out=aq RR (val RR a-val RR b):=by
 have he:=h.eq;rw[IE hlb,IE (Iw _)] at he;have h1:=f9 RR out h.dig;rw[h.len] at h1;have h3:=h.bor
 have hb0:borrow=0:=by
  rcases (show borrow=0\/borrow=1 by omega) with h | h
  ·exact h
  ·subst h;omega
 subst hb0;have:val RR out=val RR a-val RR b:=by omega
 rw[<-this];exact c_ aH h.dig
def bu (n:Nat):Prop:=(aq RR n).length<100000
theorem bu.mono {m n:Nat} (h:bu n) (hm:m<=n):bu m:=by
 unfold bu at *
 have h1:=bV aH n;have:=aZ aH (n:=m) (k:=(aq RR n).length) (by omega);omega
theorem qh {m n:Nat} (hm:m<=n):(aq RR m).length<=(aq RR n).length:=by
 have h1:=bV aH n;exact aZ aH (n:=m) (k:=(aq RR n).length) (by omega)
/-- strip: the same slice, cut behind its last digit that is not 0. -/
theorem jp (p:Option Addr) (N cap:Nat) (l:List Nat) (w:World) (hv:IsI w (.slice p N cap) l) :
  Calls Tryz.prog 150 #[.slice p N cap] w fun e w'=>e=.returned (.slice p (lean l).length cap)/\w=w':=by
 obtain⟨p',cap',he,hlc,hcm,hcell⟩:=hv;obtain⟨rfl,rfl,rfl⟩:p'=p/\l.length=N/\cap'=cap:=by simp at he;exact⟨he.1.symm,he.2.1.symm,he.2.2.symm⟩
 clear he;unfold maxLen at hcm;go_enter Tryz.func150,Tryz.ntmps150;go_wp2
 go_loop [0] (fun s0=>∃ k:Nat,k<=l.length/\s0=.slice p' k cap'/\Hid (lean (l.take k)=lean l)) (fun s0=>match s0 with | .slice _ n _=>n | _=>0)
 case atStart=>exact⟨l.length,Iw _,rfl,by unfold Hid;rw[IZ]⟩
 case round =>
  obtain⟨k,hk,rfl,hl⟩:=hrel;by_cases h0:k=0
  ·subst h0;go_wp2;go_ret;refine⟨?_,rfl⟩;rw[<-hl.out];simp[lean]
  ·obtain⟨b,o,rfl,_,hc⟩:=hcell (by omega);have hc1:=hc (k-1) (by omega);clear hc hcell;have h0':0<k:=by omega
   by_cases hz:nth l (k-1)=0
   ·have hz':((nth l (k-1):Int) == 0)=true:=by simp[hz]
    have H:=Ip hz;clear hz;go_wp2
    go_round
    case rel=>exact⟨k-1,by omega,by go_num,by unfold Hid;rw[kt h0' hk H.out];exact hl⟩
    case measure=>simp;omega
   ·have hz':((nth l (k-1):Int) == 0)=false:=by simp;omega
    go_wp2;go_ret;have:=hl.out;rw[kr h0' hk hz] at this;refine⟨?_,rfl⟩;rw[<-this,IY,Jp hk];rfl
theorem af {w:World}{b:Nat}{cs:Array Value}{t:TypeId} (h:w.heap[b]?=some (.cells cs t (0,0))) (j:Nat):w.cell? ⟨b,j,none⟩=cs[j]?:=by rw[World.cell?,h];rfl
theorem uE {w:World}{b:Nat}{v1 v2:Value}{t:TypeId} (h:w.heap[b]?=some (.cells #[v1,v2] t (0,0))) (u1 u2:Value):((w.setCell ⟨b,0,none⟩ u1).setCell ⟨b,1,none⟩ u2).heap[b]?=some (.cells #[u1,u2] t (0,0)):=by
 have e1:=heap_setCell_same w b 0 _ _ u1 h;exact heap_setCell_same _ b 1 _ _ u2 e1
def IsD (w:World) (v:Value) (n:Nat):Prop:=IsI w v (aq RR n)
theorem IsD.below {w w':World}{v:Value}{n:Nat} (h:IsD w v n) (hb:Below w.heap.size w w'):IsD w' v n:=IsI.below h hb
def IsZ (w:World) (v:Value) (z:Int):Prop:=∃ vd,v=.agg #[.bool (decide (z<0)),vd]/\IsD w vd z.natAbs
theorem IsZ.below {w w':World}{v:Value}{z:Int} (h:IsZ w v z) (hb:Below w.heap.size w w'):IsZ w' v z:=by
 obtain⟨vd,e,h1⟩:=h;exact⟨vd,e,h1.below hb⟩
theorem IsI.lean {w:World}{p:Option Addr}{N cap:Nat}{l:List Nat} (h:IsI w (.slice p N cap) l):IsI w (.slice p (Dg.lean l).length cap) (Dg.lean l):=by
 obtain⟨p',cap',he,hlc,hcm,hcell⟩:=h;obtain⟨rfl,rfl,rfl⟩:p'=p/\l.length=N/\cap'=cap:=by simp at he;exact⟨he.1.symm,he.2.1.symm,he.2.2.symm⟩
 have hle:=bO l;refine⟨p',cap',rfl,by omega,hcm,fun hl=>?_⟩;obtain⟨b,o,e,hb,hc⟩:=hcell (by omega);refine⟨b,o,e,hb,fun j hj=>?_⟩;rw[<-kX l,DM _ _ _ hj];exact hc j (by omega)
theorem IsI.slice {w:World}{v:Value}{l:List Nat} (h:IsI w v l):∃ p cap,v=.slice p l.length cap/\l.length<=cap/\cap<=maxLen:=by
 obtain⟨p,cap,e,h1,h2,_⟩:=h;exact⟨p,cap,e,h1,h2⟩
theorem ah {w:World}{b:Nat}{o:Obj} (h:w.heap[b]?=some o):b<w.heap.size:=(ID.1 h).1
theorem IsI.two {w:World}{k:Nat}{c0 c1:Value}{t:TypeId} (h:w.heap[k]?=some (.cells #[c0,c1] t (0,0))) (n0:∀ z,c0≠.int .i64 z) (n1:∀ z,c1≠.int .i64 z) {v:Value}{l:List Nat} (hv:IsI w v l) (u1 u2:Value) :
  IsI ((w.setCell ⟨k,0,none⟩ u1).setCell ⟨k,1,none⟩ u2) v l:=by
 obtain⟨p,cap,e,h1,h2,h3⟩:=hv
 refine⟨p,cap,e,h1,h2,fun hl=>?_⟩
 obtain⟨b',o,e2,hlt,hc⟩:=h3 hl
 have hne:b'≠k:=by
  intro e3
  subst e3
  have h0:=hc 0 hl
  rw[af h] at h0
  match o+0,h0 with
  | 0,h0=>simp at h0;exact n0 _ h0
  | 1,h0=>simp at h0;exact n1 _ h0
  | n+2,h0=>simp at h0
 refine⟨b',o,e2,by simpa[World.setCell] using hlt,fun i hi=>?_⟩
 rw[World.cell?_setCell_other _ _ _ _ (by intro e3;exact hne (congrArg Addr.block e3).symm),World.cell?_setCell_other _ _ _ _ (by intro e3;exact hne (congrArg Addr.block e3).symm)]
 exact hc i hi
theorem ju {n:Nat}:(aq RR n).length=0↔n=0:=by
 constructor
 ·intro h;exact (dy aH).1 (Jc h)
 ·intro h;subst h;rw[cz];rfl
def sgn (m:Bool) (n:Nat):Int:=if m then -(n:Int) else n
theorem iU (m:Bool) (n:Nat):(sgn m n).natAbs=n:=by unfold sgn;split<;>simp
theorem uz (m:Bool) (n:Nat):decide (sgn m n<0)=(m&&decide (0<n)):=by
 unfold sgn
 cases m
 ·simp
 ·simp
theorem dW (m:Bool) (v:Value) (l:List Nat) (w:World) (hv:IsI w v l) (hl:∀ d∈l,d<RR) :
  Calls Tryz.prog 98 #[.bool m,v] w fun e w'=>∃ v',e=.returned v'/\IsZ w' v' (sgn m (val RR l))/\Below w.heap.size w w':=by
 obtain⟨p,cap,rfl,h1,h2⟩:=hv.slice;have hd:=c_ aH hl;have hb1:Below w.heap.size w (w.alloc (.cells #[.bool false,.slice none 0 0] 42)):=(LN _ _).alloc (Iw _) _;have hv1:=hv.below hb1;have hL:=hv.lean;rw[hd] at hL;have HD:=Ip hd;have hcap:(aq RR (val RR l)).length<=cap:=by rw[<-hd];have:=bO l;omega
 unfold maxLen at h2;have b1:=heap_alloc_new w (.cells #[.bool false,.slice none 0 0] 42);clear hd hv;go_enter Tryz.func98,Tryz.ntmps98;go_upto_region 1 with fail
 generalize w.alloc (.cells #[.bool false,.slice none 0 0] 42)=w1 at *
 have HL:=Ip hL;clear hL;go_wp2_with fail
 refine (jp p l.length cap l w1 hv1).mono ?_;rintro e w' ⟨rfl,rfl⟩;rw[HD.out];obtain⟨N,hN⟩:∃ N,N=(aq RR (val RR l)).length:=⟨_,rfl⟩;rw[<-hN] at hcap |-;have HN:=Ip hN;have x0:=af b1 0;have x1:=af b1 1;have f0:=LL w1 w.heap.size 0 _ _ b1;have f1:=LL w1 w.heap.size 1 _ _ b1;rw[<-hN] at HL;have hfin:Hid (Below w.heap.size w ((w1.setCell ⟨w.heap.size,0,none⟩ (.bool (m&&decide (0<N)))).setCell ⟨w.heap.size,1,none⟩ (.slice p N cap))):=((hb1.setCell (p:=⟨w.heap.size,0,none⟩) (Iw _) _).setCell (p:=⟨w.heap.size,1,none⟩) (Iw _) _)
 have hpos:Hid (decide (0<N)=decide (0<val RR l)):=by
  unfold Hid;rw[hN,decide_eq_decide];have:=ju (n:=val RR l);omega
 have B1:=Ip b1;clear hN hb1 hv1 b1;have hrow:Hid (((w1.setCell ⟨w.heap.size,0,none⟩ (.bool (m&&decide (0<N)))).setCell ⟨w.heap.size,1,none⟩ (.slice p N cap)).heap[w.heap.size]?=some (.cells #[.bool (m&&decide (0<N)),.slice p N cap] 42 (0,0))):=uE B1.out _ _
 have hend:Hid (IsZ ((w1.setCell ⟨w.heap.size,0,none⟩ (.bool (m&&decide (0<N)))).setCell ⟨w.heap.size,1,none⟩ (.slice p N cap)) (.agg #[.bool (m&&decide (0<N)),.slice p N cap]) (sgn m (val RR l))) :=
  ⟨_,by rw[uz,<-hpos.out],by rw[iU];exact HL.out.below hfin.out⟩
 cases m
 ·go_wp2_with fail
  (try simp only[Exit.inBlock,Exit.then])
  refine LM (results_cell_row rfl _ _ w.heap.size _ _ (0,0) _ rfl hrow.out Tryz.underlying42 rfl (by kernel_rfl)) rfl ?_;exact⟨_,rfl,hend.out,hfin.out⟩
 ·go_wp2_with fail
  (try simp only[Exit.inBlock,Exit.then])
  refine LM (results_cell_row rfl _ _ w.heap.size _ _ (0,0) _ rfl hrow.out Tryz.underlying42 rfl (by kernel_rfl)) rfl ?_;exact⟨_,rfl,hend.out,hfin.out⟩
end Go.Proofs.YtlhpcoelfhjomaaGreatDoor
