/- L -/
import Derived.RangeFuncWrites
import Derived.Laws.AppendOwnNone
import Derived.Laws.IdiomCopy
import Derived.Test.YtmakbmhlemhgeaaGreatDoorQMach
import Derived.Test.YtmakbmhlemhgeaaGreatDoorQCoef
import Derived.Test.YtmakbmhlemhgeaaGreatDoorQVec2
import Derived.Test.YtmakbmhlemhgeaaGreatDoorQNC7
import Derived.Test.YtmakbmhlemhgeaaGreatDoorQLP12
import Derived.Test.YtmakbmhlemhgeaaGreatDoorQB
set_option linter.all false
set_option maxRecDepth 100000
set_option maxHeartbeats 8000000
namespace Go.Proofs.YtmakbmhlemhgeaaGreatDoor
open Go.RowKit Dg
theorem gT {o:Oper}{a:Act}{w:World}{K:Act->World->Prop}{Q:Exit->Act->World->Prop} (hg:o.guard=none) (h:wpList Tryz.prog #[o] (fun e a w=>e=.normal/\K a w) [o] a w):o.wp Tryz.prog a w K Q:=by
 unfold wpList at h;rw[if_pos (by simp only[Region.wanted,hg])] at h;rcases h with h | ⟨-,h⟩
 ·unfold Oper.wp at *
  generalize (execOp a.eval o).run Tryz.prog w=r at *
  cases r with
  | ok n w' =>
   cases n<;>simp only[Oper.upon] at h |- <;>
    first
     | exact h.2
     | exact Calls.mono h (fun e w'' he=>by
       cases e with
       | returned v=>exact he.2
       | panicked c=>exact absurd he.1 (by simp)
       | outgrown=>obtain⟨_,_,he,_⟩:=he;exact absurd he (by simp))
     | exact Rows.mono h (fun _ _ he=>he.2)
  | halt x w'=>cases x<;>simp only[Oper.upon] at h |-<;>first | (obtain⟨he,_⟩:=h;exact absurd he (by simp)) | exact h | (obtain⟨_,_,he,_⟩:=h;exact absurd he (by simp))
 ·obtain⟨_,_,he,_⟩:=h;exact absurd he (by simp)
structure fq (S:Nat->Prop) (w w':World):Prop where
 os:w'.os=w.os
 tape:w'.tape=w.tape
 output:w'.output=w.output
 size:w.heap.size<=w'.heap.size
 block:∀ k,k<w.heap.size->¬ S k->w'.heap[k]?=w.heap[k]?
theorem fq.trans {S:Nat->Prop}{a b c:World} (h:fq S a b) (k:fq S b c):fq S a c :=
 ⟨k.os.trans h.os,k.tape.trans h.tape,k.output.trans h.output,rX h.size k.size,fun i hi hn=>(k.block i (rA hi h.size) hn).trans (h.block i hi hn)⟩
theorem fq.of_below {S:Nat->Prop}{w w':World} (h:Below w.heap.size w w'):fq S w w':=⟨h.os,h.tape,h.output,h.size,fun k hk _=>h.block k hk⟩
structure Bes (S:Nat->Prop) (B:Nat) (W W':World):Prop where
 os:W'.os=W.os
 tape:W'.tape=W.tape
 output:W'.output=W.output
 size:W.heap.size<=W'.heap.size
 same:∀ k o,W.heap[k]?=some o->¬ S k->(k<B\/∀ r,o≠Obj.loop r)->W'.heap[k]?=some o
theorem Bes.of_turns {S:Nat->Prop}{B:Nat}{W W':World} (h:fq S W W'):Bes S B W W' :=
 ⟨h.os,h.tape,h.output,h.size,fun k _ hk hn _=>(h.block k (rD.1 hk).1 hn).trans hk⟩
theorem Bes.alloc (S:Nat->Prop) (B:Nat) (W:World) (o:Obj):Bes S B W (W.alloc o):=Bes.of_turns (fq.of_below ((t_ _ _).alloc (rp _) o))
theorem Bes.cells {S:Nat->Prop}{B:Nat}{W W':World} (h:Bes S B W W') {b:Nat}{cs:Array Value}{T:TypeId}{z:Nat×Nat} (hc:W.heap[b]?=some (.cells cs T z)) (hn:¬ S b):W'.heap[b]?=some (.cells cs T z) :=
 h.same b _ hc hn (Or.inr (fun r e=>by cases e))
variable {F : Fence} {n : Nat} {P : Program}
def cY (a b:List ByteArray):(List ByteArray×List ByteArray)×Int:=aB a b a b (bJ a a b)
def fp (a b:List ByteArray):(List ByteArray×List ByteArray)×Int:=aB a b a b (bJ b a b)
theorem mO (w:World) (a b:List ByteArray) (v:Value) (hP:fI w v a b a b ⟨#[]⟩ 0) (hG:Gx w):Calls Tryz.prog 21 #[.func (.func 23) #[] #[],v] w (dy (cY a b) w):=by
 refine js 23 v a b a b ⟨#[]⟩ 0 _ w hP ⟨bE Tryz.func23 rfl (by kernel_rfl),fun v' w' hw' hP' hc hc2=>?_⟩ hG;obtain⟨ob1,ob7,oa1,oa7,-⟩:=eb hc;exact oO v' a b a b ⟨#[]⟩ 0 w' hP' oa1 (by omega) (by omega) (hG.below hw').g
theorem qm (w:World) (a b:List ByteArray) (v:Value) (hP:fI w v a b a b ⟨#[]⟩ 0) (hG:Gx w):Calls Tryz.prog 21 #[.func (.func 22) #[] #[],v] w (dy (fp a b) w):=by
 refine js 22 v a b a b ⟨#[]⟩ 0 _ w hP ⟨bE Tryz.func22 rfl (by kernel_rfl),fun v' w' hw' hP' hc hc2=>?_⟩ hG;obtain⟨ob1,ob7,oa1,oa7,-⟩:=eb hc;exact qV v' a b a b ⟨#[]⟩ 0 w' hP' oa1 (by omega) (by omega) (hG.below hw').g
theorem oG (v:Value) (a b:List ByteArray) (w:World) (hF:IsF w v a b) (hG:Gx w) :
  Calls Tryz.prog 8 #[v] w (dy (cY a b) w):=by
 obtain⟨p,c,q,d,rfl,hfa,hfb⟩:=id hF.ex;go_enter Tryz.func8,Tryz.ntmps8;go_upto_region 1 with fail
 have cc:=bc w (.slice p a.length c) (.slice q b.length d);have m1:=ae w (.cells #[.slice p a.length c,.slice q b.length d] 34);have z1:=af w (.cells #[.slice p a.length c,.slice q b.length d] 34);generalize w.alloc (.cells #[.slice p a.length c,.slice q b.length d] 34)=w1 at *
 have q2:(w1.alloc (.cells #[.slice none 0 0,.slice none 0 0] 34)).heap[w1.heap.size]?=some (.cells #[.slice none 0 0,.slice none 0 0] 34 (0,0)):=heap_alloc_new w1 _;have m2:=ae w1 (.cells #[.slice none 0 0,.slice none 0 0] 34);have z2:=af w1 (.cells #[.slice none 0 0,.slice none 0 0] 34);have c0:=ac m2 (show w.heap.size<w1.heap.size by omega) cc.1;have c1:=ac m2 (show w.heap.size<w1.heap.size by omega) cc.2;generalize w1.alloc (.cells #[.slice none 0 0,.slice none 0 0] 34)=w2 at *
 rw[z1] at q2;have M2:=ri (m1.trans (m2.mono m1.size));have hz2:w.heap.size+2=w2.heap.size:=by omega
 have hP:fI w2 (.agg #[.slice p a.length c,.slice q b.length d,.slice p a.length c,.slice q b.length d,.string ⟨#[]⟩,.int .i64 0]) a b a b ⟨#[]⟩ 0 :=
  ⟨⟨p,c,q,d,p,c,q,d,rfl,hfa.below M2.out,hfb.below M2.out,hfa.below M2.out,hfb.below M2.out⟩⟩
 have HC:=ri (mO w2 a b _ hP (hG.below M2.out));clear m1 z1 m2 z2 cc hfa hfb hG hF hP;go_wp2_with fail
 refine HC.out.mono ?_;rintro e w3 ⟨u,rfl,hu,hb3⟩;obtain⟨r,hr⟩:∃ r,r=cY a b:=⟨_,rfl⟩;rw[show cY a b=r from hr.symm] at hu |-;obtain⟨⟨L1,L2⟩,er⟩:=r;have HR:=ri hr;simp only at hu |-;obtain⟨p1,c1',p2,c2,rfl,g1,g2,o1,o2⟩:=hu.ex;have hn1:Value.ownBlock (.slice p1 L1.length c1')≠some (w.heap.size+1):=fun e=>by have:=o1 _ e;omega
 have hn2:Value.ownBlock (.slice p2 L2.length c2)≠some (w.heap.size+1):=fun e=>by have:=o2 _ e;omega
 have q3:=(hb3.block (w.heap.size+1) (by omega)).trans q2;have k0:=ag q3 0;have k1:=ag q3 1;have f0:=an q3 0;have f1:=an q3 1;have R1:=ri ((g1.other hn1 0 (.slice p1 L1.length c1')).other hn1 1 (.slice p2 L2.length c2));have R2:=ri ((g2.other hn2 0 (.slice p1 L1.length c1')).other hn2 1 (.slice p2 L2.length c2));have O1:=ri (show ∀ g,Value.ownBlock (.slice p1 L1.length c1')=some g->w.heap.size<=g from fun g e=>by have:=o1 _ e;omega);have O2:=ri (show ∀ g,Value.ownBlock (.slice p2 L2.length c2)=some g->w.heap.size<=g from fun g e=>by have:=o2 _ e;omega);have M7:=ri (((M2.out.trans (hb3.mono M2.out.size)).setCell (p:=⟨w.heap.size+1,0,none⟩) (rT _) (.slice p1 L1.length c1')).setCell (p:=⟨w.heap.size+1,1,none⟩) (rT _) (.slice p2 L2.length c2));have g0:=bz q3 (.slice p1 L1.length c1') (.slice p2 L2.length c2);have x0:=ag g0 0;have x1:=ag g0 1;clear hn1 hn2 g1 g2 o1 o2 q2 q3 hb3 HC hu hr;go_wp2;refine t8 (v:=.tuple #[.agg #[.slice p1 L1.length c1',.slice p2 L2.length c2],.int .i64 er]) (by simp at x0 x1;simp[results,Tryz.results8,go_sem,x0,x1]) rfl ⟨_,by rw[<-HR.out],?_,M7.out⟩;rw[<-HR.out];exact⟨⟨p1,c1',p2,c2,rfl,R1.out,R2.out,O1.out,O2.out⟩⟩
theorem qN (v:Value) (a b:List ByteArray) (w:World) (hF:IsF w v a b) (hG:Gx w) :
  Calls Tryz.prog 7 #[v] w (dy (fp a b) w):=by
 obtain⟨p,c,q,d,rfl,hfa,hfb⟩:=id hF.ex;go_enter Tryz.func7,Tryz.ntmps7;go_upto_region 1 with fail
 have cc:=bc w (.slice p a.length c) (.slice q b.length d);have m1:=ae w (.cells #[.slice p a.length c,.slice q b.length d] 34);have z1:=af w (.cells #[.slice p a.length c,.slice q b.length d] 34);generalize w.alloc (.cells #[.slice p a.length c,.slice q b.length d] 34)=w1 at *
 have q2:(w1.alloc (.cells #[.slice none 0 0,.slice none 0 0] 34)).heap[w1.heap.size]?=some (.cells #[.slice none 0 0,.slice none 0 0] 34 (0,0)):=heap_alloc_new w1 _;have m2:=ae w1 (.cells #[.slice none 0 0,.slice none 0 0] 34);have z2:=af w1 (.cells #[.slice none 0 0,.slice none 0 0] 34);have c0:=ac m2 (show w.heap.size<w1.heap.size by omega) cc.1;have c1:=ac m2 (show w.heap.size<w1.heap.size by omega) cc.2;generalize w1.alloc (.cells #[.slice none 0 0,.slice none 0 0] 34)=w2 at *
 rw[z1] at q2;have M2:=ri (m1.trans (m2.mono m1.size));have hz2:w.heap.size+2=w2.heap.size:=by omega
 have hP:fI w2 (.agg #[.slice p a.length c,.slice q b.length d,.slice p a.length c,.slice q b.length d,.string ⟨#[]⟩,.int .i64 0]) a b a b ⟨#[]⟩ 0 :=
  ⟨⟨p,c,q,d,p,c,q,d,rfl,hfa.below M2.out,hfb.below M2.out,hfa.below M2.out,hfb.below M2.out⟩⟩
 have HC:=ri (qm w2 a b _ hP (hG.below M2.out));clear m1 z1 m2 z2 cc hfa hfb hG hF hP;go_wp2_with fail
 refine HC.out.mono ?_;rintro e w3 ⟨u,rfl,hu,hb3⟩;obtain⟨r,hr⟩:∃ r,r=fp a b:=⟨_,rfl⟩;rw[show fp a b=r from hr.symm] at hu |-;obtain⟨⟨L1,L2⟩,er⟩:=r;have HR:=ri hr;simp only at hu |-;obtain⟨p1,c1',p2,c2,rfl,g1,g2,o1,o2⟩:=hu.ex;have hn1:Value.ownBlock (.slice p1 L1.length c1')≠some (w.heap.size+1):=fun e=>by have:=o1 _ e;omega
 have hn2:Value.ownBlock (.slice p2 L2.length c2)≠some (w.heap.size+1):=fun e=>by have:=o2 _ e;omega
 have q3:=(hb3.block (w.heap.size+1) (by omega)).trans q2;have k0:=ag q3 0;have k1:=ag q3 1;have f0:=an q3 0;have f1:=an q3 1;have R1:=ri ((g1.other hn1 0 (.slice p1 L1.length c1')).other hn1 1 (.slice p2 L2.length c2));have R2:=ri ((g2.other hn2 0 (.slice p1 L1.length c1')).other hn2 1 (.slice p2 L2.length c2));have O1:=ri (show ∀ g,Value.ownBlock (.slice p1 L1.length c1')=some g->w.heap.size<=g from fun g e=>by have:=o1 _ e;omega);have O2:=ri (show ∀ g,Value.ownBlock (.slice p2 L2.length c2)=some g->w.heap.size<=g from fun g e=>by have:=o2 _ e;omega);have M7:=ri (((M2.out.trans (hb3.mono M2.out.size)).setCell (p:=⟨w.heap.size+1,0,none⟩) (rT _) (.slice p1 L1.length c1')).setCell (p:=⟨w.heap.size+1,1,none⟩) (rT _) (.slice p2 L2.length c2));have g0:=bz q3 (.slice p1 L1.length c1') (.slice p2 L2.length c2);have x0:=ag g0 0;have x1:=ag g0 1;clear hn1 hn2 g1 g2 o1 o2 q2 q3 hb3 HC hu hr;go_wp2;refine t8 (v:=.tuple #[.agg #[.slice p1 L1.length c1',.slice p2 L2.length c2],.int .i64 er]) (by simp at x0 x1;simp[results,Tryz.results7,go_sem,x0,x1]) rfl ⟨_,by rw[<-HR.out],?_,M7.out⟩;rw[<-HR.out];exact⟨⟨p1,c1',p2,c2,rfl,R1.out,R2.out,O1.out,O2.out⟩⟩
open Go.RowKit Dg Dc
def Ov (D M:Nat) (q:Rat):Prop:=∃ n:Int,q=(n:Rat) / (D:Rat)/\n.natAbs<=M
theorem dM {D:Nat} (h:0<D):(D:Rat)≠0:=by
 intro e;have e2:((D:Int):Rat)=((0:Int):Rat):=e;have:=Rat.intCast_inj.1 e2;omega
theorem Ov.mono {D M M':Nat}{q:Rat} (h:Ov D M q) (hM:M<=M'):Ov D M' q:=by
 obtain⟨n,e,hn⟩:=h;exact⟨n,e,rX hn hM⟩
theorem Ov.wide {D M:Nat}{q:Rat} (h:Ov D M q) (E:Nat) (hD:0<D) (hE:0<E):Ov (D*E) (M*E) q:=by
 obtain⟨n,e,hn⟩:=h;have h1:=dM hD;have h2:=dM hE;refine⟨n*E,?_,?_⟩
 ·rw[e,Rat.intCast_mul,Rat.natCast_mul]
  show (n:Rat) / (D:Rat)=(n:Rat)*((E:Nat):Rat) / ((D:Rat)*(E:Rat))
  grind
 ·rw[tf];exact rx _ hn
theorem Ov.add {D M N:Nat}{a b:Rat} (h1:Ov D M a) (h2:Ov D N b):Ov D (M+N) (a+b):=by
 obtain⟨n,e,hn⟩:=h1;obtain⟨m,f,hm⟩:=h2;refine⟨n+m,?_,by omega⟩;rw[e,f,Rat.intCast_add];grind
theorem Ov.neg {D M:Nat}{a:Rat} (h1:Ov D M a):Ov D M (-a):=by
 obtain⟨n,e,hn⟩:=h1;refine⟨-n,?_,by omega⟩;rw[e,Rat.intCast_neg];grind
theorem Ov.sub {D M N:Nat}{a b:Rat} (h1:Ov D M a) (h2:Ov D N b):Ov D (M+N) (a-b):=by
 rw[Rat.sub_eq_add_neg];exact h1.add h2.neg
theorem Ov.mul {D E M N:Nat}{a b:Rat} (h1:Ov D M a) (h2:Ov E N b) (hD:0<D) (hE:0<E):Ov (D*E) (M*N) (a*b):=by
 obtain⟨n,e,hn⟩:=h1;obtain⟨m,f,hm⟩:=h2;have k1:=dM hD;have k2:=dM hE;refine⟨n*m,?_,by rw[tf];exact sg hn hm⟩;rw[e,f,Rat.intCast_mul,Rat.natCast_mul];grind
theorem Ov.zero (D:Nat):Ov D 0 0:=⟨0,by rw[show ((0:Int):Rat)=0 from rfl];grind,by simp⟩
theorem pk (q:Rat):(q.num:Rat) / (q.den:Rat)=q:=by rw[<-Rat.mkRat_eq_div,Rat.mkRat_self]
theorem Ov.bound {D M:Nat}{q:Rat} (h:Ov D M q) (hD:0<D):q.num.natAbs<=M/\q.den<=D:=by
 obtain⟨n,e,hn⟩:=h;have k1:=dM hD;have k2:=dM q.den_pos;have e2:(q.num:Rat) / (q.den:Rat)=q:=pk q
 have e3:(q.num:Rat)*(D:Rat)=(n:Rat)*(q.den:Rat):=by
  rw[e] at e2;grind
 have e4:q.num*(D:Int)=n*(q.den:Int):=by
  apply Rat.intCast_inj.1
  rw[Rat.intCast_mul,Rat.intCast_mul];exact e3
 have e5:q.num.natAbs*D=n.natAbs*q.den:=by
  have:=congrArg Int.natAbs e4;rw[tf,tf] at this;exact this
 have hc:Nat.Coprime q.num.natAbs q.den:=q.reduced;have d1:q.den ∣ D:=(Nat.Coprime.symm hc).dvd_of_dvd_mul_left ⟨n.natAbs,by rw[e5,rQ]⟩;have d2:q.num.natAbs ∣ n.natAbs:=hc.dvd_of_dvd_mul_right ⟨D,by rw[<-e5]⟩;refine⟨?_,Nat.le_of_dvd hD d1⟩;rcases ta n.natAbs with h0 | h0
 ·rw[h0,th] at e5;rcases Nat.mul_eq_zero.1 e5 with h | h
  ·omega
  ·omega
 ·exact rX (Nat.le_of_dvd h0 d2) hn
theorem Ov.ok {D M:Nat}{q:Rat} (h:Ov D M q) (hD:0<D) (h1:D<10 ^ 2000) (h2:M<10 ^ 2000):okQ q:=by
 obtain⟨b1,b2⟩:=h.bound hD;exact nz (rP b1 h2) (rP b2 h1)
structure OvC (D M:Nat) (z:CQ):Prop where
 re:Ov D M z.re
 im:Ov D M z.im
 pos:0<D
theorem OvC.ok {D M:Nat}{z:CQ} (h:OvC D M z) (h1:D<10 ^ 2000) (h2:M<10 ^ 2000):eO z=false:=by
 have k1:=(iZ _).1 (h.re.ok h.pos h1 h2);have k2:=(iZ _).1 (h.im.ok h.pos h1 h2);unfold eO;rw[k1,k2];rfl
theorem bk.blk {w w':World}{k:Nat}{a b c d e f:Value} (h:bk w k a b c d e f) (hs:w.heap.size<=w'.heap.size) (hb:w'.heap[k]?=w.heap[k]?):bk w' k a b c d e f:=by
 have hc:∀ j,w'.cell? ⟨k,j,none⟩=w.cell? ⟨k,j,none⟩:=fun j=>World.cell?_of_block (w:=w) (w':=w') (a:=⟨k,j,none⟩) hb;exact⟨rA h.lt hs,(hc 0).trans h.c0,(hc 1).trans h.c1,(hc 2).trans h.c2,(hc 3).trans h.c3,(hc 4).trans h.c4,(hc 5).trans h.c5⟩
theorem bi.blk {w w':World}{k:Nat}{a b c d e f:Value} (h:bi w k a b c d e f) (hb:w'.heap[k]?=w.heap[k]?):bi w' k a b c d e f:=⟨hb.trans h.hp,h.na,h.nb,h.nc,h.nd,h.ne,h.nf⟩
end Go.Proofs.YtmakbmhlemhgeaaGreatDoor
