/- Lemmas of this claim. -/
import Derived.Test.YtlkniohhalnjjaaGreatDoorKMach
import Derived.Test.YtlkniohhalnjjaaGreatDoorKStat
set_option linter.all false
set_option maxRecDepth 100000
set_option maxHeartbeats 8000000
namespace Go.Proofs.YtlkniohhalnjjaaGreatDoor
open Go.RowKit Dc Dg
def St.lay (x:St) (g:Nat) (k f:Int):St :=
 match g with
 | 0=>⟨k,x.a1,x.a2,f,x.f1,x.f2⟩
 | 1=>⟨x.a0,k,x.a2,x.f0,f,x.f2⟩
 | _=>⟨x.a0,x.a1,k,x.f0,x.f1,f⟩
theorem St.a_lay (x:St) {g j:Nat} (hg:g<3) (hj:j<3) (k f:Int):(x.lay g k f).a j=if j=g then k else x.a j:=by
 rcases lt3 hg with rfl | rfl | rfl<;>rcases lt3 hj with rfl | rfl | rfl<;>rfl
theorem St.f_lay (x:St) {g j:Nat} (hg:g<3) (hj:j<3) (k f:Int):(x.lay g k f).f j=if j=g then f else x.f j:=by
 rcases lt3 hg with rfl | rfl | rfl<;>rcases lt3 hj with rfl | rfl | rfl<;>rfl
theorem St.ext {x y:St} (ha:∀ j,j<3→x.a j=y.a j) (hf:∀ j,j<3→x.f j=y.f j):x=y:=by
 obtain⟨x0,x1,x2,x3,x4,x5⟩:=x
 obtain⟨y0,y1,y2,y3,y4,y5⟩:=y
 have a0:x0=y0:=ha 0 (by decide)
 have a1:x1=y1:=ha 1 (by decide)
 have a2:x2=y2:=ha 2 (by decide)
 have f0:x3=y3:=hf 0 (by decide)
 have f1:x4=y4:=hf 1 (by decide)
 have f2:x5=y5:=hf 2 (by decide)
 subst a0;subst a1;subst a2;subst f0;subst f1;subst f2
 rfl
theorem tJ (g:Nat):St.zero.f g=0:=by unfold St.f St.zero;split<;>rfl
def aH (al fl:List Int):Nat→St
 | 0=>St.zero
 | i+1=>(aH al fl i).lay i (al[i]?.getD 0) (fl[i]?.getD 0)
theorem ib (al fl:List Int) {j:Nat} (hj:j<3):∀ i,i≤3→(aH al fl i).a j=if j<i then al[j]?.getD 0 else 0
 | 0,_=>by rw[if_neg (by omega)];exact tI j
 | i+1,hi=>by
  rw[aH,St.a_lay _ (by omega) hj,ib al fl hj i (by omega)]
  by_cases h:j=i
  ·subst h;rw[if_pos rfl,if_pos (by omega)]
  ·rw[if_neg h]
   by_cases h2:j<i
   ·rw[if_pos h2,if_pos (by omega)]
   ·rw[if_neg h2,if_neg (by omega)]
theorem jc (al fl:List Int) {j:Nat} (hj:j<3):∀ i,i≤3→(aH al fl i).f j=if j<i then fl[j]?.getD 0 else 0
 | 0,_=>by rw[if_neg (by omega)];exact tJ j
 | i+1,hi=>by
  rw[aH,St.f_lay _ (by omega) hj,jc al fl hj i (by omega)]
  by_cases h:j=i
  ·subst h;rw[if_pos rfl,if_pos (by omega)]
  ·rw[if_neg h]
   by_cases h2:j<i
   ·rw[if_pos h2,if_pos (by omega)]
   ·rw[if_neg h2,if_neg (by omega)]
theorem nP {n:Nat} (hn:n≤3) (x:St):(atL n x).length=n:=by unfold atL;simp;omega
theorem j6 {n:Nat} (hn:n≤3) (x:St):(aN n x).length=n:=by unfold aN;simp;omega
theorem mL {n:Nat} (hn:n≤3) (x:St) {j:Nat} (hj:j<n):(atL n x)[j]?=some (x.a j):=by
 unfold atL
 rw[List.getElem?_take_of_lt hj]
 rcases lt3 (show j<3 by omega) with rfl | rfl | rfl<;>rfl
theorem ja {n:Nat} (hn:n≤3) (x:St) {j:Nat} (hj:j<n):(aN n x)[j]?=some (x.f j):=by
 unfold aN
 rw[List.getElem?_take_of_lt hj]
 rcases lt3 (show j<3 by omega) with rfl | rfl | rfl<;>rfl
structure cA (gs:List Gd) (al fl:List Int) (y:St):Prop where
 at_:(ad gs).At y
 held:gG (ad gs) y
 a:al=atL gs.length y
 f:fl=aN gs.length y
def so (gs:List Gd) (al fl:List Int) (i:Nat):Prop:=∀ g,g<i→0≤al[g]?.getD 0∧al[g]?.getD 0<((ad gs).rungs g:Int)∧0≤fl[g]?.getD 0∧fl[g]?.getD 0<(ad gs).tries g (al[g]?.getD 0).toNat
theorem nT {gs:List Gd}{al fl:List Int} (hn:gs.length≤3) (h:so gs al fl gs.length):(ad gs).At (aH al fl gs.length):=by
 have hM:(ad gs).n=gs.length:=rfl
 refine⟨fun g hg=>?_,fun g hg=>?_,fun g hg h3=>?_,fun g hg h3=>?_⟩
 ·rw[ib al fl (by omega) _ hn,if_pos (by omega)]
  obtain⟨h1,h2,_⟩:=h g (by omega)
  exact⟨h1,h2⟩
 ·rw[ib al fl (by omega) _ hn,jc al fl (by omega) _ hn,if_pos (by omega),if_pos (by omega)]
  obtain⟨_,_,h3,h4⟩:=h g (by omega)
  exact⟨h3,h4⟩
 ·rw[ib al fl h3 _ hn,if_neg (by omega)]
 ·rw[jc al fl h3 _ hn,if_neg (by omega)]
theorem jm {l m:List Int} (h:l.length=m.length) (hg:∀ j,j<l.length→l[j]?=m[j]?):l=m:=by
 refine List.ext_getElem? (fun j=>?_)
 by_cases hj:j<l.length
 ·exact hg j hj
 ·rw[wC (by omega),wC (by omega)]
theorem sg {gs:List Gd}{al fl:List Int} (hn:gs.length≤3) (hA:al.length=gs.length) (hF:fl.length=gs.length) (h:so gs al fl gs.length) (hh:gG (ad gs) (aH al fl gs.length)):cA gs al fl (aH al fl gs.length):=by
 refine⟨nT hn h,hh,jm (by rw[nP hn,hA]) (fun j hj=>?_),jm (by rw[j6 hn,hF]) (fun j hj=>?_)⟩
 ·rw[mL hn _ (by omega),ib al fl (by omega) _ hn,if_pos (by omega),uu hj]
  rfl
 ·rw[ja hn _ (by omega),jc al fl (by omega) _ hn,if_pos (by omega),uu hj]
  rfl
theorem cA.up {gs:List Gd}{al fl:List Int}{y:St} (hn:gs.length≤3) (h:cA gs al fl y):so gs al fl gs.length:=by
 intro g hg
 rw[h.a,h.f,mL hn y hg,ja hn y hg]
 have h1:=h.at_.a g hg
 have h2:=h.at_.f g hg
 exact⟨h1.1,h1.2,h2.1,h2.2⟩
theorem cA.fill {gs:List Gd}{al fl:List Int}{y:St} (hn:gs.length≤3) (h:cA gs al fl y):y=aH al fl gs.length:=by
 have hM:(ad gs).n=gs.length:=rfl
 refine St.ext (fun j hj=>?_) (fun j hj=>?_)
 ·rw[ib al fl hj _ hn]
  by_cases hg:j<gs.length
  ·rw[if_pos hg,h.a,mL hn y hg];rfl
  ·rw[if_neg hg,h.at_.a0 j (by omega) hj]
 ·rw[jc al fl hj _ hn]
  by_cases hg:j<gs.length
  ·rw[if_pos hg,h.f,ja hn y hg];rfl
  ·rw[if_neg hg,h.at_.f0 j (by omega) hj]
theorem cA.lens {gs:List Gd}{al fl:List Int}{y:St} (hn:gs.length≤3) (h:cA gs al fl y):al.length=gs.length∧fl.length=gs.length:=⟨by rw[h.a,nP hn],by rw[h.f,j6 hn]⟩
theorem cA.uniq {gs:List Gd}{al fl:List Int}{y z:St} (hn:gs.length≤3) (h:cA gs al fl y) (h2:cA gs al fl z):y=z:=(h.fill hn).trans (h2.fill hn).symm
structure eT (w:World) (v:Value) (al fl:List Int):Prop where
 at_:∃ u1 u2,v=.agg #[u1,u2]∧bL w u1 al∧bL w u2 fl
theorem eT.below {w w':World}{v:Value}{al fl:List Int} (h:eT w v al fl) (hb:Below w.heap.size w w'):eT w' v al fl:=by
 obtain⟨u1,u2,e,h1,h2⟩:=h.at_
 exact⟨u1,u2,e,h1.below hb,h2.below hb⟩
theorem lc.q {B n:Nat}{w:World}{v:Value}{x:St} (h:lc B n w v x):eT w v (atL n x) (aN n x):=by
 obtain⟨u1,u2,e,h1,h2⟩:=h
 exact⟨u1,u2,e,h1.q,h2.q⟩
def lL (w:World) (b g:Nat) (k f:Int):World:=(w.setCell ⟨b,g,none⟩ (.int .i64 k)).setCell ⟨b,3+g,none⟩ (.int .i64 f)
theorem StP.lay1 {w:World}{b g:Nat}{x:St} (h:StP w b x) (hg:g<3) (k:Int):StP (w.setCell ⟨b,g,none⟩ (.int .i64 k)) b (x.lay g k (x.f g)):=by
 rcases lt3 hg with rfl | rfl | rfl
 ·unfold StP;rw[heap_setCell_same w b 0 _ _ (.int .i64 k) h];rfl
 ·unfold StP;rw[heap_setCell_same w b 1 _ _ (.int .i64 k) h];rfl
 ·unfold StP;rw[heap_setCell_same w b 2 _ _ (.int .i64 k) h];rfl
theorem StP.lay {w:World}{b g:Nat}{x:St} (h:StP w b x) (hg:g<3) (k f:Int):StP (lL w b g k f) b (x.lay g k f):=by
 have h1:=h.lay1 hg k
 unfold lL
 rcases lt3 hg with rfl | rfl | rfl
 ·unfold StP;rw[heap_setCell_same _ b (3+0) _ _ (.int .i64 f) h1];rfl
 ·unfold StP;rw[heap_setCell_same _ b (3+1) _ _ (.int .i64 f) h1];rfl
 ·unfold StP;rw[heap_setCell_same _ b (3+2) _ _ (.int .i64 f) h1];rfl
theorem m6 {w:World}{n b g:Nat}{k f:Int} (hb:n≤b):Below n w (lL w b g k f):=(((Below.refl n w).setCell (p:=⟨b,g,none⟩) hb _).setCell (p:=⟨b,3+g,none⟩) hb _)
theorem jg {w:World}{b g:Nat}{k f:Int}{i:Nat} (h:i≠b):(lL w b g k f).heap[i]?=w.heap[i]?:=by
 unfold lL
 rw[Below.heap_setCell _ _ _ _ h,Below.heap_setCell _ _ _ _ h]
structure iX (w0 w:World) (u1 u2:Value) (x:St):Prop where
 s:w.heap[w0.heap.size]?=some (.cells #[u1,u2] 36 (0,0))
 r:StP w (w0.heap.size+1) St.zero
 o:StP w (w0.heap.size+1+1) x
 bl:Below w0.heap.size w0 w
theorem iX.below {w0 w w':World}{u1 u2:Value}{x:St} (h:iX w0 w u1 u2 x) (hb:Below w.heap.size w w'):iX w0 w' u1 u2 x :=
 ⟨(hb.block _ (ag h.s)).trans h.s,h.r.below hb,h.o.below hb,h.bl.trans (hb.mono h.bl.size)⟩
theorem iX.lay {w0 w:World}{u1 u2:Value}{x:St} (h:iX w0 w u1 u2 x) {g:Nat} (hg:g<3) (k f:Int):iX w0 (lL w (w0.heap.size+1+1) g k f) u1 u2 (x.lay g k f) :=
 ⟨by rw[jg (by omega)];exact h.s,by unfold StP;rw[jg (by omega)];exact h.r,h.o.lay hg k f,h.bl.trans (m6 (by omega))⟩
theorem iX.new (w:World) (u1 u2:Value):iX w (((w.alloc (.cells #[u1,u2] 36)).alloc (.cells #[.int .i64 0,.int .i64 0,.int .i64 0,.int .i64 0,.int .i64 0,.int .i64 0] 71)).alloc (.cells #[.int .i64 0,.int .i64 0,.int .i64 0,.int .i64 0,.int .i64 0,.int .i64 0] 71)) u1 u2 St.zero:=by
 have hb1:Below w.heap.size w (w.alloc (.cells #[u1,u2] 36)):=(Below.refl _ _).alloc (uo _) _
 have a0:=heap_alloc_new w (.cells #[u1,u2] 36)
 have hz1:(w.alloc (.cells #[u1,u2] 36)).heap.size=w.heap.size+1:=by simp
 generalize w.alloc (.cells #[u1,u2] 36)=w1 at *
 have hb2:Below w1.heap.size w1 (w1.alloc (.cells #[.int .i64 0,.int .i64 0,.int .i64 0,.int .i64 0,.int .i64 0,.int .i64 0] 71)):=(Below.refl _ _).alloc (uo _) _
 have b0:=StP.new w1 St.zero
 have hz2:(w1.alloc (.cells #[.int .i64 0,.int .i64 0,.int .i64 0,.int .i64 0,.int .i64 0,.int .i64 0] 71)).heap.size=w1.heap.size+1:=by simp
 change StP (w1.alloc (.cells #[.int .i64 0,.int .i64 0,.int .i64 0,.int .i64 0,.int .i64 0,.int .i64 0] 71)) w1.heap.size St.zero at b0
 generalize w1.alloc (.cells #[.int .i64 0,.int .i64 0,.int .i64 0,.int .i64 0,.int .i64 0,.int .i64 0] 71)=w2 at *
 have hb3:Below w2.heap.size w2 (w2.alloc (.cells #[.int .i64 0,.int .i64 0,.int .i64 0,.int .i64 0,.int .i64 0,.int .i64 0] 71)):=(Below.refl _ _).alloc (uo _) _
 have r0:=StP.new w2 St.zero
 change StP (w2.alloc (.cells #[.int .i64 0,.int .i64 0,.int .i64 0,.int .i64 0,.int .i64 0,.int .i64 0] 71)) w2.heap.size St.zero at r0
 rw[hz1] at b0
 rw[hz2,hz1] at r0
 have a1:=(hb2.block _ (ag a0)).trans a0
 refine⟨(hb3.block _ (ag a1)).trans a1,b0.below hb3,r0,hb1.trans ((hb2.trans (hb3.mono hb2.size)).mono hb1.size)⟩
def SoQ (gs:List Gd) (al fl:List Int) (w:World) (e:Ending) (w':World):Prop :=
 ∃ (y:St) (ok:Bool),e=.returned (.tuple #[.agg #[.int .i64 y.a0,.int .i64 y.a1,.int .i64 y.a2,.int .i64 y.f0,.int .i64 y.f1,.int .i64 y.f2],.bool ok])∧(ok=true→cA gs al fl y)∧(ok=false→∀ z,¬ cA gs al fl z)∧Below w.heap.size w w'
theorem SoQ.no {gs:List Gd}{al fl:List Int}{w w':World} (y:St) (h:∀ z,¬ cA gs al fl z) (hb:Below w.heap.size w w'):SoQ gs al fl w (.returned (.tuple #[.agg #[.int .i64 y.a0,.int .i64 y.a1,.int .i64 y.a2,.int .i64 y.f0,.int .i64 y.f1,.int .i64 y.f2],.bool false])) w' :=
 ⟨y,false,rfl,(fun e=>by cases e),fun _=>h,hb⟩
theorem SoQ.yes {gs:List Gd}{al fl:List Int}{w w':World} (y:St) (h:cA gs al fl y) (hb:Below w.heap.size w w'):SoQ gs al fl w (.returned (.tuple #[.agg #[.int .i64 y.a0,.int .i64 y.a1,.int .i64 y.a2,.int .i64 y.f0,.int .i64 y.f1,.int .i64 y.f2],.bool true])) w' :=
 ⟨y,true,rfl,fun _=>h,(fun e=>by cases e),hb⟩
end Go.Proofs.YtlkniohhalnjjaaGreatDoor
