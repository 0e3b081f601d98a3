/- Lemmas of this claim. -/
import Derived.IntWalk
import Derived.Test.YtnkgbocdpngldaaGreatDoorWMachW
import Derived.Test.YtnkgbocdpngldaaGreatDoorWRA13
set_option linter.all false
set_option maxRecDepth 100000
set_option maxHeartbeats 8000000
namespace Go.Proofs.YtnkgbocdpngldaaGreatDoor
open Go.RowKit Dc Dg
theorem tk {gs:List Gd} (hS:a8 gs=true) {y:St} (hy:(ah gs).At y):∀ g,g<3→0≤y.a g∧y.a g<8∧0≤y.f g∧y.f g<4:=cD (aV hS) hy
theorem kA (gs:List Gd) (pa:Option Addr) (ca:Nat) (pf:Option Addr) (cf:Nat) (y:St) (w:World) (hA:aU w (.slice pa gs.length ca) (atL gs.length y)) (hF:aU w (.slice pf gs.length cf) (aX gs.length y)) (hS:a8 gs=true) (hy:(ah gs).At y) :
  Calls Tryz.prog 84 #[.agg #[.slice pa gs.length ca,.slice pf gs.length cf]] w fun e w'=>e=.returned (.int .i64 (fv y gs.length))∧Below w.heap.size w w':=by
 obtain⟨hn1,hn3⟩:=bN hS
 have hl:=bj w (.cells #[.slice pa gs.length ca,.slice pf gs.length cf] 41)
 have HA:=Do (hA.below hl.below)
 have HF:=Do (hF.below hl.below)
 have HSM:=Do (tk hS hy)
 have HL:=Do (fun g hg=>qX (tk hS hy) g hg)
 clear hA hF hS hy
 go_enter Tryz.func84,Tryz.ntmps84
 go_upto_region 1 with fail
 generalize w.alloc (.cells #[.slice pa gs.length ca,.slice pf gs.length cf] 41)=w1 at *
 go_wp2_with fail
 go_loopw [3,4] (fun s3 s4 wx=>∃ i:Nat,s4=.int .i64 i∧s3=.int .i64 (fv y i)∧i≤gs.length∧Below w1.heap.size w1 wx) (fun _ s4 _=>gs.length-(intOf s4).toNat)
 case atStart=>exact⟨0,rfl,rfl,by omega,Below.refl _ _⟩
 case round =>
  obtain⟨i,rfl,rfl,hi,hb⟩:=hrel
  have r0:=(hb.block _ (ac hl.s0)).trans hl.s0
  have x0:=aa r0 0
  have x1:=aa r0 1
  by_cases hil:i<gs.length
  ·obtain⟨ba,oa,rfl,-,hia,hba,hca⟩:=HA.out.at? (kt hn3 y hil)
   obtain⟨bf,of,rfl,-,hif,hbf,hcf⟩:=HF.out.at? (i_ hn3 y hil)
   have y0:=(hb.cell (p:=⟨ba,_,none⟩) hba).trans hca
   have y1:=(hb.cell (p:=⟨bf,_,none⟩) hbf).trans hcf
   obtain⟨s1,s2,s3,s4⟩:=HSM.out i (by omega)
   have hlt:=HL.out i (by omega)
   have hp:32 ^ i≤32 ^ 2:=DW (by omega) (by omega)
   obtain⟨N,hN⟩:∃ N:Int,N=(fv y i:Int):=⟨_,rfl⟩
   have hN0:0≤N:=by omega
   have hN1:N≤1024:=by omega
   have HST:Hid ((fv y (i+1):Int)=(N*8+y.a i)*4+y.f i):=by
    unfold Hid;rw[fv,hN];push_cast;rw[Fg s1,Fg s3]
   rw[←hN]
   clear hN hlt hp hca hcf
   obtain⟨a,ha⟩:∃ a,a=y.a i:=⟨_,rfl⟩
   obtain⟨f,hf⟩:∃ f,f=y.f i:=⟨_,rfl⟩
   rw[←ha] at s1 s2 y0 HST
   rw[←hf] at s3 s4 y1 HST
   clear ha hf
   have hiI:(i:Int)<(gs.length:Int):=by omega
   have hw1:IntKind.i64.wrap (N*8)=N*8:=IntWalk.i64_in _ (by omega)
   have hw2:IntKind.i64.wrap (N*8+a)=N*8+a:=IntWalk.i64_in _ (by omega)
   have hw3:IntKind.i64.wrap ((N*8+a)*4)=(N*8+a)*4:=IntWalk.i64_in _ (by omega)
   have hw4:IntKind.i64.wrap ((N*8+a)*4+f)=(N*8+a)*4+f:=IntWalk.i64_in _ (by omega)
   clear s1 s2 s3 s4 hN0 hN1
   go_wp2_with fail
   go_quiet (fail)
   clear hw1 hw2 hw3 hw4
   go_wp2
   go_roundw
   case rel=>exact⟨i+1,by go_num,by rw[HST.out],by omega,below_drewN hb _⟩
   case measure=>simp[intOf];omega
  ·obtain rfl:i=gs.length:=by omega
   clear hil hi
   go_wp2
   go_ret
   exact⟨rfl,hl.below.trans (hb.mono hl.below.size)⟩
theorem r_ {α:Type} (f:α→List Value) (k:Nat) (hf:∀ t,(f t).length=k):∀ (L:List α) (i:Nat) (h:i<L.length) (j:Nat),j<k→(L.flatMap f)[i*k+j]?=(f L[i])[j]?
 | [],i,h,_,_=>by simp at h
 | x :: L,0,_,j,hj=>by
  rw[D0,Ff,Eg,DD (by rw[hf];exact hj)]
  rfl
 | x :: L,i+1,h,j,hj=>by
  have:=r_ f k hf L i (by simpa using h) j hj
  rw[D0,Ej (by rw[hf,D6];omega),hf,show (i+1)*k+j-k=i*k+j by rw[D6];omega]
  simpa using this
abbrev e_:=(St×Int×Ev)×Value×Value
def qf (t:e_):List Value:=[t.2.1,t.2.2,.int .i64 t.1.2.1,.int .i64 t.1.2.2.g,.int .i64 t.1.2.2.k]
structure fO (w0:World) (n:Nat) (w:World) (v:Value) (L:List e_):Prop where
 row:w.ownsRow w0.heap.size 97 5 v L.length (L.flatMap qf)
 ints:∀ t∈L,(aU w0 t.2.1 (atL n t.1.1)∧aU w0 t.2.2 (aX n t.1.1))∨(aR w0.heap.size w t.2.1 (atL n t.1.1)∧aR w0.heap.size w t.2.2 (aX n t.1.1))
 bl:Below w0.heap.size w0 w
theorem fO.below {w0:World}{n:Nat}{w w':World}{v:Value}{L:List e_} (h:fO w0 n w v L) (hb:Below w.heap.size w w'):fO w0 n w' v L :=
 ⟨bD h.row (fun k hk=>by obtain⟨_,h2,_⟩:=av h.row hk;exact hb.block k h2),fun t ht=>by
  rcases h.ints t ht with h1 | ⟨h1,h2⟩
  ·exact Or.inl h1
  ·exact Or.inr ⟨h1.below hb,h2.below hb⟩,h.bl.trans (hb.mono h.bl.size)⟩
structure iS (n:Nat) (w:World) (v:Value) (L:List (St×Int×Ev)):Prop where
 at_:∃ p c,v=.slice p L.length c∧(0<L.length→∃ b o,p=some ⟨b,o,none⟩∧b<w.heap.size∧∀ i (h:i<L.length),∃ u1 u2,w.cell? ⟨b,o+i*5,none⟩=some u1∧w.cell? ⟨b,o+i*5+1,none⟩=some u2∧w.cell? ⟨b,o+i*5+2,none⟩=some (.int .i64 L[i].2.1)∧w.cell? ⟨b,o+i*5+3,none⟩=some (.int .i64 L[i].2.2.g)∧w.cell? ⟨b,o+i*5+4,none⟩=some (.int .i64 L[i].2.2.k)∧aU w u1 (atL n L[i].1)∧aU w u2 (aX n L[i].1))
theorem iS.below {n:Nat}{w w':World}{v:Value}{L:List (St×Int×Ev)} (h:iS n w v L) (hb:Below w.heap.size w w'):iS n w' v L:=by
 obtain⟨p,c,e,hc⟩:=h.at_
 refine⟨p,c,e,fun hl=>?_⟩
 obtain⟨b,o,e2,hlt,hi⟩:=hc hl
 refine⟨b,o,e2,Dr hlt hb.size,fun i hi2=>?_⟩
 obtain⟨u1,u2,h0,h1,h2,h3,h4,h5,h6⟩:=hi i hi2
 exact⟨u1,u2,(hb.cell (p:=⟨b,_,none⟩) hlt).trans h0,(hb.cell (p:=⟨b,_,none⟩) hlt).trans h1,(hb.cell (p:=⟨b,_,none⟩) hlt).trans h2,(hb.cell (p:=⟨b,_,none⟩) hlt).trans h3,(hb.cell (p:=⟨b,_,none⟩) hlt).trans h4,h5.below hb,h6.below hb⟩
theorem fO.q {w0:World}{n:Nat}{w:World}{v:Value}{L:List e_} (h:fO w0 n w v L):iS n w v (L.map (·.1)):=by
 rcases h.row.2 with ⟨rfl,hn⟩ | ⟨g,cap,cur,rfl,hb,hg,h3⟩
 ·exact⟨none,0,by rw[DR,hn],fun hl=>by rw[DR] at hl;omega⟩
 ·refine⟨some ⟨g,0,none⟩,cap,by rw[DR],fun hl=>⟨g,0,rfl,ac hg,fun i hi=>?_⟩⟩
  have hi2:i<L.length:=by simpa using hi
  have F:=fun j hj=>r_ qf 5 (fun _=>rfl) L i hi2 j hj
  have c0:=World.ownsRow.cells h.row (g:=g) rfl _ _ ((F 0 (by omega)).trans rfl)
  have c1:=World.ownsRow.cells h.row (g:=g) rfl _ _ ((F 1 (by omega)).trans rfl)
  have c2:=World.ownsRow.cells h.row (g:=g) rfl _ _ ((F 2 (by omega)).trans rfl)
  have c3:=World.ownsRow.cells h.row (g:=g) rfl _ _ ((F 3 (by omega)).trans rfl)
  have c4:=World.ownsRow.cells h.row (g:=g) rfl _ _ ((F 4 (by omega)).trans rfl)
  rw[dP,←Ee] at c0 c1 c2 c3 c4
  have hq:aU w L[i].2.1 (atL n L[i].1.1)∧aU w L[i].2.2 (aX n L[i].1.1):=by
   rcases h.ints _ (DH hi2) with ⟨a,b⟩ | ⟨a,b⟩
   ·exact⟨a.below h.bl,b.below h.bl⟩
   ·exact⟨a.q,b.q⟩
  simp only[List.getElem_map]
  exact⟨L[i].2.1,L[i].2.2,c0,c1,c2,c3,c4,hq.1,hq.2⟩
theorem iS.get {n:Nat}{w:World}{p:Option Addr}{N c:Nat}{L:List (St×Int×Ev)} (h:iS n w (.slice p N c) L) {i:Nat} (hi:i<L.length):∃ b o u1 u2,p=some ⟨b,o,none⟩∧b<w.heap.size∧w.cell? ⟨b,o+i*5,none⟩=some u1∧w.cell? ⟨b,o+i*5+1,none⟩=some u2∧w.cell? ⟨b,o+i*5+2,none⟩=some (.int .i64 L[i].2.1)∧w.cell? ⟨b,o+i*5+3,none⟩=some (.int .i64 L[i].2.2.g)∧w.cell? ⟨b,o+i*5+4,none⟩=some (.int .i64 L[i].2.2.k)∧aU w u1 (atL n L[i].1)∧aU w u2 (aX n L[i].1):=by
 obtain⟨p',c',e,hc⟩:=h.at_
 simp only[Value.slice.injEq] at e
 obtain⟨rfl,rfl,rfl⟩:=e
 obtain⟨b,o,rfl,hb,hc⟩:=hc (by omega)
 obtain⟨u1,u2,h1⟩:=hc i hi
 exact⟨b,o,u1,u2,rfl,hb,h1⟩
theorem zc:(Tryz.prog.info? 97).map (fun i=>(i.zero,i.size,i.bytes))=some (some (.agg #[.slice none 0 0,.slice none 0 0,.int .i64 0,.int .i64 0,.int .i64 0]),5,72):=by kernel_rfl
theorem BA:Tryz.prog.underlying 92=some (.slice 97):=by kernel_rfl
theorem ye {o:Oper}{a:Act}{w0 w:World}{K:Act→World→Prop}{Q:Exit→Act→World→Prop} (s x:Operand) (ho:o.op=.call { callee:=.builtin .append,args:=#[s,x],argTypes:=#[92,92] })
  (n:Nat) (v:Value) (L:List e_) (hs:a.eval s=v) (hr:fO w0 n w v L) (hl:L.length≤1000000) (b:Nat) (t:e_) (hx:a.eval x=.slice (some ⟨b,0,none⟩) 1 1) (hb:∀ j,j<5→w.cell? ⟨b,j,none⟩=(qf t)[j]?)
  (h1:aR w0.heap.size w t.2.1 (atL n t.1.1)) (h2:aR w0.heap.size w t.2.2 (aX n t.1.1))
  (h:∀ g cap w',fO w0 n w' (.slice (some ⟨g,0,none⟩) (L.length+1) cap) (L++[t])→w.grownBy w' v.ownBlock→K (a.put o.dst (.slice (some ⟨g,0,none⟩) (L.length+1) cap)) w'):o.wp Tryz.prog a w K Q:=by
 obtain⟨i0,hi,hz0,hz1,hz2⟩:=info_parts zc
 have o1:t.2.1.oneCell'=true:=by obtain⟨_,_,e⟩:=h1.slice;rw[e];rfl
 have o2:t.2.2.oneCell'=true:=by obtain⟨_,_,e⟩:=h2.slice;rw[e];rfl
 refine wp_append_lies w s x 92 ho w0.heap.size 97 i0 _ 5 72 BA hi hz0 hz1 hz2 rfl (by decide) v L.length _ hs hr.row ⟨b,0,none⟩ 1 1 (qf t) hx rfl (fun j u hj=>?_) (fun u hu=>?_) (by decide) (by unfold maxLen;omega) (by omega) hr.bl.size _ rfl (fun g cap w' r1 r2 r3 r4=>?_)
 ·have hj5:j<5:=(Du.1 hj).1
  rw[dP,Eg,hb j hj5];exact hj
 ·unfold qf at hu
  simp at hu
  rcases hu with rfl | rfl | rfl | rfl | rfl
  ·exact o1
  ·exact o2
  ·rfl
  ·rfl
  ·rfl
 ·have e:(L++[t]).length=L.length+1:=by simp
  have keep:∀ (z:Value) (zs:List Int),aR w0.heap.size w z zs→aR w0.heap.size w' z zs:=fun z zs hz=>hz.same (fun k hk=>by
   obtain⟨_,hk2,_⟩:=av hz hk
   exact r2.block k hk2 (fun e2=>dX hr.row hz (by decide) e2.symm hk))
  refine h g cap w' ⟨?_,fun u hu=>?_,hr.bl.grown r2 hr.bl.size (fun k hk=>(av hr.row hk).1)⟩ r2
  ·rw[e,Eo]
   simpa using r1
  ·rcases DV.1 hu with hu | hu
   ·rcases hr.ints u hu with h3 | ⟨h3,h4⟩
    ·exact Or.inl h3
    ·exact Or.inr ⟨keep _ _ h3,keep _ _ h4⟩
   ·simp at hu
    subst hu
    exact Or.inr ⟨keep _ _ h1,keep _ _ h2⟩
def dL (w:World) (b N:Nat) (f:Nat→Bool):Prop:=w.ownsRow b 4 1 (.slice (some ⟨b,0,none⟩) N N) N ((List.range N).map fun c=>Value.bool (f c))
theorem dL.below {w w':World}{b N:Nat}{f:Nat→Bool} (h:dL w b N f) (hb:Below w.heap.size w w'):dL w' b N f:=bD h (fun k hk=>by obtain⟨_,h2,_⟩:=av h hk;exact hb.block k h2)
theorem dL.cell {w:World}{b N:Nat}{f:Nat→Bool} (h:dL w b N f) {c:Nat} (hc:c<N):w.cell? ⟨b,c,none⟩=some (.bool (f c)):=by
 rw[World.ownsRow.cellAt h c (by omega),DN,EL hc];rfl
theorem dL.fr {w:World}{b N:Nat}{f:Nat→Bool} (h:dL w b N f) (c:Nat):w.frozen? ⟨b,c,none⟩=false:=World.ownsRow.frozenAt h c
theorem dL.set {w:World}{b N:Nat}{f:Nat→Bool} (h:dL w b N f) (c:Nat):dL (w.setCell ⟨b,c,none⟩ (.bool true)) b N (fun d=>if d=c then true else f d):=by
 have:=(World.ownsRow.stored h c (.bool true)).1
 unfold dL
 have e:((List.range N).map fun d=>Value.bool (f d)).set c (.bool true)=(List.range N).map fun d=>Value.bool (if d=c then true else f d):=by
  refine List.ext_getElem? (fun j=>?_)
  rw[List.getElem?_set,DN,DN]
  by_cases hj:j<N
  ·rw[EL hj]
   by_cases hjc:c=j
   ·subst hjc;simp[hj]
   ·rw[if_neg hjc]
    have:¬ j=c:=fun e=>hjc e.symm
    simp[this]
  ·rw[Fa (by simp;omega)]
   split
   ·simp;omega
   ·rfl
 rw[←e];exact this
theorem dL.blk {w:World}{b N:Nat}{f:Nat→Bool} (h:dL w b N f):b<w.heap.size∧∃ cur,w.heap[b]?=some (.cells cur 4 (0,0)):=by
 obtain⟨_,h2,cur,h3⟩:=av h (k:=b) rfl
 exact⟨h2,cur,h3⟩
theorem dL.congr {w:World}{b N:Nat}{f g:Nat→Bool} (h:dL w b N f) (hfg:∀ c,c<N→f c=g c):dL w b N g:=by
 unfold dL at h ⊢
 rw[show ((List.range N).map fun c=>Value.bool (g c))=(List.range N).map fun c=>Value.bool (f c) from List.map_congr_left (fun c hc=>by rw[hfg c (DG.1 hc)])]
 exact h
theorem dL.grown {w w':World}{b N:Nat}{f:Nat→Bool} (h:dL w b N f) {n:Nat}{e:TypeId}{size:Nat}{v:Value}{m:Nat}{xs:List Value} (hr:w.ownsRow n e size v m xs) (he:e≠4) (hg:w.grownBy w' v.ownBlock):dL w' b N f :=
 bD h (fun k hk=>by
  obtain⟨_,hk2,_⟩:=av h hk
  exact hg.block k hk2 (fun e2=>dX hr h he e2.symm hk))
theorem fO.setOther {w0:World}{n:Nat}{w:World}{v:Value}{L:List e_} (h:fO w0 n w v L) {b i:Nat} (u:Value) {cs:Array Value} (hb:w.heap[b]?=some (.cells cs 4 (0,0))) (hw0:w0.heap.size≤b):fO w0 n (w.setCell ⟨b,i,none⟩ u) v L:=by
 refine⟨bD h.row (fun k hk=>heap_setCell_other _ _ _ _ (fun e=>?_)),fun t ht=>?_,h.bl.setCell (p:=⟨b,i,none⟩) hw0 _⟩
 ·obtain⟨_,_,cur,h2⟩:=av h.row hk
  rw[show k=b from e,hb] at h2
  cases h2
 ·rcases h.ints t ht with h1 | ⟨h1,h2⟩
  ·exact Or.inl h1
  ·exact Or.inr ⟨h1.setType u hb (by decide),h2.setType u hb (by decide)⟩
theorem xA {w:World}{ops:Array Oper}{rest:List Oper}{o:Oper}{a:Act}{Q:Exit→Act→World→Prop} (hgd:o.guard=none) (lo co:Operand) (hop:o.op=Op.makeSlice 95 lo co) (N:Nat) (hl:a.eval lo=.int .i64 N) (hc:a.eval co=.int .i64 N) (hN:N≤1000000)
  (hK:∀ w',dL w' w.heap.size N (fun _=>false)→Below w.heap.size w w'→wpList Tryz.prog ops Q rest (a.put o.dst (.slice (some ⟨w.heap.size,0,none⟩) N N)) w'):wpList Tryz.prog ops Q (o :: rest) a w:=by
 obtain⟨i0,hi,hz0,hz1,hz2⟩:=info_parts (show (Tryz.prog.info? 4).map (fun i=>(i.zero,i.size,i.bytes))=some (some (.bool false),1,1) by kernel_rfl)
 refine wpList_make_full _ hgd lo co 95 hop w.heap.size 4 i0 (.bool false) 1 Tryz.underlying95 hi hz0 hz1 .i64 .i64 N N N hl hc rfl rfl (by rw[hz2];omega) (by unfold maxLen;omega) (Dp _) ?_
 intro w' hown hg
 have e:(madeCells (Value.bool false).cells (N*1)).toList=(List.range N).map fun _=>Value.bool false:=by
  rw[EM];simp[Value.cells,toList_madeCells_one,List.map_const']
 rw[e] at hown
 exact hK w' hown ((Below.refl _ _).grown hg (Dp _) (fun k hk=>by cases hk))
def sQ (gs:List Gd) (R:List (St×aD)) (c:Nat):Bool:=decide (c∈(az R).map fun x=>fv x gs.length)
structure WkW (w0 w:World) (gs:List Gd) (p:Option Addr) (c bs:Nat) (v:Value) (R:List (St×aD)) (LV:List e_):Prop where
 s0:w.heap[w0.heap.size]?=some (.cells #[.slice p gs.length c] 24 (0,0))
 sn:dL w bs 32768 (sQ gs R)
 st:fO w0 gs.length w v LV
 hb:w0.heap.size≤bs
theorem WkW.below {w0 w w':World}{gs:List Gd}{p:Option Addr}{c bs:Nat}{v:Value}{R:List (St×aD)}{LV:List e_} (h:WkW w0 w gs p c bs v R LV) (hb:Below w.heap.size w w'):WkW w0 w' gs p c bs v R LV :=
 ⟨(hb.block _ (ac h.s0)).trans h.s0,h.sn.below hb,h.st.below hb,h.hb⟩
theorem oq {w:World}{b k:Nat}{u1 u2:Value} (h:k≠b):(cH w b u1 u2).heap[k]?=w.heap[k]?:=(heap_setCell_other _ _ _ _ h).trans (heap_setCell_other _ _ _ _ h)
theorem WkW.put {w0 w:World}{gs:List Gd}{p:Option Addr}{c bs:Nat}{v:Value}{R:List (St×aD)}{LV:List e_} (h:WkW w0 w gs p c bs v R LV) {b:Nat}{u1 u2:Value}{cs:Array Value} (hb:w.heap[b]?=some (.cells cs 41 (0,0))) (hlt:w0.heap.size<b):WkW w0 (cH w b u1 u2) gs p c bs v R LV:=by
 have hne:∀ k t cs',w.heap[k]?=some (Obj.cells cs' t (0,0))→t≠41→(cH w b u1 u2).heap[k]?=w.heap[k]?:=fun k t cs' hk ht=>oq (fun e=>by
  rw[e,hb] at hk
  cases hk
  exact ht rfl)
 refine⟨(oq (by omega)).trans h.s0,bD h.sn (fun k hk=>?_),⟨bD h.st.row (fun k hk=>?_),fun t ht=>?_,?_⟩,h.hb⟩
 ·obtain⟨_,_,cur,h2⟩:=av h.sn hk
  exact hne k _ _ h2 (by decide)
 ·obtain⟨_,_,cur,h2⟩:=av h.st.row hk
  exact hne k _ _ h2 (by decide)
 ·rcases h.st.ints t ht with h1 | ⟨h1,h2⟩
  ·exact Or.inl h1
  ·exact Or.inr ⟨h1.same (fun k hk=>by obtain⟨_,_,cur,h3⟩:=av h1 hk;exact hne k _ _ h3 (by decide)),h2.same (fun k hk=>by obtain⟨_,_,cur,h3⟩:=av h2 hk;exact hne k _ _ h3 (by decide))⟩
 ·exact (h.st.bl.setCell (p:=⟨b,0,none⟩) (by show w0.heap.size≤b;omega) _).setCell (p:=⟨b,1,none⟩) (by show w0.heap.size≤b;omega) _
theorem zD {gs:List Gd}{R:List (St×aD)}{z:St}{s:aD} (c:Nat):(if c=fv z gs.length then true else sQ gs R c)=sQ gs (R++[(z,s)]) c:=by
 unfold sQ az
 rw[DZ,DZ]
 by_cases h:c=fv z gs.length<;>simp[h]
theorem zE {gs:List Gd} (hS:a8 gs=true) {R:List (St×aD)} (hR:∀ x∈az R,(ah gs).At x) {z:St} (hz:(ah gs).At z):sQ gs R (fv z gs.length)=true↔z∈az R:=by
 unfold sQ
 rw[decide_eq_true_iff,DY]
 constructor
 ·rintro⟨x,hx,he⟩
  have:=Bh (aV hS) (hR x hx) hz he
  rw[←this];exact hx
 ·intro h
  exact⟨z,h,rfl⟩
theorem WkM.key {M:aB}{al:Ev→Bool}{m:Nat}{x0 now:St}{R:List (St×aD)}{LV:List e_}{i t:Nat} (h:WkM M al m x0 now R (LV.map (·.1)) i t):∃ hi:i<LV.length,LV[i].1.1=now:=by
 obtain⟨s,hs⟩:=h.mid.here
 have hl:=h.ref.len
 rw[DR] at hl
 have hi:=(Du.1 hs).1
 refine⟨by omega,?_⟩
 have hk:=congrArg (fun l=>l[i]?) h.ref.key
 simp only[az,DN,hs,Dq (show i<LV.length by omega)] at hk
 exact Option.some.inj hk
theorem WkM.len {M:aB} (G:M.Good) {al:Ev→Bool}{m:Nat}{x0 now:St}{R:List (St×aD)}{L:List (St×Int×Ev)}{i t:Nat} (h:WkM M al m x0 now R L i t):L.length≤32768:=by rw[h.ref.len];exact dI G h.mid.inv
theorem aU.form {w:World}{u:Value}{l:List Int}{n:Nat} (h:aU w u l) (hn:l.length=n) (h0:0<n):∃ b o c,u=.slice (some ⟨b,o,none⟩) n c:=by
 obtain⟨p,c,rfl,hc⟩:=h.at_
 obtain⟨b,o,rfl,_⟩:=hc (by omega)
 exact⟨b,o,c,by rw[hn]⟩
theorem sh {w w':World}{n:Nat}{e:TypeId}{size:Nat}{v:Value}{m:Nat}{xs:List Value} (hr:w.ownsRow n e size v m xs) (hg:w.grownBy w' v.ownBlock) {b:Nat}{cs:Array Value}{t:TypeId} (hb:w.heap[b]?=some (.cells cs t (0,0))) (ht:t≠e):w'.heap[b]?=some (.cells cs t (0,0)):=by
 rw[hg.block b (ac hb) (fun e2=>by
  obtain⟨_,_,cur,h2⟩:=av hr e2.symm
  rw[hb] at h2
  cases h2
  exact ht rfl)]
 exact hb
theorem dp.setBool {B:Nat}{w:World}{u1 u2:Value}{al fl:List Int} (h:dp B w u1 u2 al fl) {b i:Nat} (u:Value) {cs:Array Value} (hb:w.heap[b]?=some (.cells cs 4 (0,0))):dp B (w.setCell ⟨b,i,none⟩ u) u1 u2 al fl:=⟨h.a.setType u hb (by decide),h.f.setType u hb (by decide),h.ap⟩
theorem lT {w:World}{bs i:Nat} (u:Value) {cur:Array Value} (hbs:w.heap[bs]?=some (.cells cur 4 (0,0))) {b:Nat}{cs:Array Value}{t:TypeId} (hb:w.heap[b]?=some (.cells cs t (0,0))) (ht:t≠4):(w.setCell ⟨bs,i,none⟩ u).heap[b]?=some (.cells cs t (0,0)):=by
 rw[heap_setCell_other _ _ _ _ (show b≠bs from fun e=>by
  rw[e,hbs] at hb
  cases hb
  exact ht rfl)]
 exact hb
def CS (gs:List Gd) (y:St) (al:Ev→Bool) (w:World) (e:Ending) (w':World):Prop :=
 ∃ (pv:Option Addr) (cv:Nat) (L:List (St×Int×Ev)),e=.returned (.slice pv L.length cv)∧ib y (eK (ah gs) y al) L∧iS gs.length w' (.slice pv L.length cv) L∧L.length≤32768∧Below w.heap.size w w'
theorem AI (gs:List Gd) (p:Option Addr) (c:Nat) (pa:Option Addr) (ca:Nat) (pf:Option Addr) (cf:Nat) (y:St) (al:Ev→Bool) (m:Nat) (w:World) (hP:fm w p c gs) (hA:aU w (.slice pa gs.length ca) (atL gs.length y)) (hF:aU w (.slice pf gs.length cf) (aX gs.length y)) (hS:a8 gs=true) (hy:(ah gs).At y) (hs:pD al m) :
  Calls Tryz.prog 47 #[.agg #[.slice p gs.length c],.agg #[.slice pa gs.length ca,.slice pf gs.length cf],.int .i64 m] w (CS gs y al w):=by
 obtain⟨hn1,hn3⟩:=bN hS
 have GD:=Do (aV hS)
 have HSy:=Do hS
 have HY:=Do hy
 have HP:=Do hP
 have HSU:=Do hs
 have hm2:=hs.le
 have HLA:=Do (show ∀ z,(atL gs.length z).length=gs.length from fun z=>ij hn3 z)
 have HLF:=Do (show ∀ z,(aX gs.length z).length=gs.length from fun z=>fK hn3 z)
 have hl:=j_ w (.cells #[.slice p gs.length c] 24) (.cells #[.slice pa gs.length ca,.slice pf gs.length cf] 41)
 have HA0:=Do hA
 have HF0:=Do hF
 have HNL:Hid (fv y gs.length<32768):=zF (M:=ah gs) GD.out hy
 clear hP hA hF hS hy hs
 go_enter Tryz.func47,Tryz.ntmps47
 go_upto_region 1 with fail
 generalize (w.alloc (.cells #[.slice p gs.length c] 24)).alloc (.cells #[.slice pa gs.length ca,.slice pf gs.length cf] 41)=w1 at *
 go_wp2_with (at_make;refine xA rfl _ _ rfl 32768 rfl rfl (by omega) ?_;intro w2 hsn hb2;have k0:=(hb2.block _ (ac hl.s0)).trans hl.s0;have k1:=(hb2.block _ (ac hl.s1)).trans hl.s1;have x0:=aa k1 0;have x1:=aa k1 1)
 have HB2:=hl.below.trans (hb2.mono hl.below.size)
 have hbs:w.heap.size≤w1.heap.size:=hl.below.size
 clear hb2 hl
 generalize w1.heap.size=bs at *
 refine (kA gs pa ca pf cf y w2 (HA0.out.below HB2) (HF0.out.below HB2) HSy.out HY.out).mono ?_
 rintro e w3 ⟨rfl,hb3⟩
 have hsn:=hsn.below hb3
 have k0:=(hb3.block _ (ac k0)).trans k0
 have k1:=(hb3.block _ (ac k1)).trans k1
 have HB3:=HB2.trans (hb3.mono HB2.size)
 clear hb3 x0 x1 HB2
 obtain⟨N,hN⟩:∃ N,N=fv y gs.length:=⟨_,rfl⟩
 rw[←hN] at HNL ⊢
 have hNI:(N:Int)<32768:=by have:=HNL.out;omega
 have z0:=hsn.cell HNL.out
 have z1:=hsn.fr N
 have hsn4:=hsn.set N
 have HBLK:=hsn.blk
 have B4:Below w.heap.size w (w3.setCell ⟨bs,N,none⟩ (.bool true)):=HB3.setCell (p:=⟨bs,N,none⟩) hbs _
 have hne:∀ (b:Nat) (t:TypeId) (cs:Array Value),w3.heap[b]?=some (Obj.cells cs t (0,0))→t≠4→(w3.setCell ⟨bs,N,none⟩ (.bool true)).heap[b]?=some (Obj.cells cs t (0,0)):=fun b t cs hb ht=>by
  obtain⟨_,cur,h2⟩:=HBLK
  rw[heap_setCell_other _ _ _ _ (show b≠bs from fun e=>by
   rw[←e,hb] at h2
   cases h2
   exact ht rfl)]
  exact hb
 have k0:=hne _ _ _ k0 (by decide)
 have k1:=hne _ _ _ k1 (by decide)
 have HN:=Do hN
 clear hN hne hsn HBLK
 go_upto_region 3 with fail
 clear z0 z1 HB3
 generalize w3.setCell ⟨bs,N,none⟩ (.bool true)=w4 at *
 have x0:=aa k1 0
 have x1:=aa k1 1
 have l5:=bj w4 (.cells #[.slice pa gs.length ca,.slice pf gs.length cf,.int .i64 (-1),.int .i64 0,.int .i64 0] 97)
 go_upto_region 4 with fail
 clear x0 x1
 have W0:WkW w (w4.alloc (.cells #[.slice pa gs.length ca,.slice pf gs.length cf,.int .i64 (-1),.int .i64 0,.int .i64 0] 97)) gs p c bs (.slice (some ⟨w4.heap.size,0,none⟩) 1 1) (kE y) [((y,-1,⟨0,0⟩),.slice pa gs.length ca,.slice pf gs.length cf)]:=by
  refine⟨(l5.below.block _ (ac k0)).trans k0,(hsn4.below l5.below).congr (fun c hc=>?_),⟨⟨rfl,Or.inr ⟨_,1,_,rfl,B4.size,l5.s0,Dp _,by unfold maxLen;omega,rfl,rfl⟩⟩,fun t ht=>?_,B4.trans (l5.below.mono B4.size)⟩,hbs⟩
  ·unfold sQ az kE
   rw[HN.out]
   by_cases h:c=fv y gs.length<;>simp[h]
  ·simp at ht
   subst ht
   exact Or.inl ⟨HA0.out,HF0.out⟩
 generalize w4.alloc (.cells #[.slice pa gs.length ca,.slice pf gs.length cf,.int .i64 (-1),.int .i64 0,.int .i64 0] 97)=w5 at *
 generalize w4.heap.size=b4 at *
 clear k0 k1 l5 hsn4 B4
 go_wp2_with fail
 go_loopw [8,9] (fun s8 s9 wx=>∃ (i:Nat) (R:List (St×aD)) (LV:List e_) (pv:Option Addr) (cv:Nat),s9=.int .i64 i∧s8=.slice pv LV.length cv∧i≤LV.length∧LV.length≤32768∧Hid (WkO (ah gs) al y R (LV.map (·.1)) i)∧WkW w wx gs p c bs (.slice pv LV.length cv) R LV) (fun _ s9 _=>32768-(intOf s9).toNat)
 case atStart=>exact⟨0,kE y,[((y,-1,⟨0,0⟩),.slice pa gs.length ca,.slice pf gs.length cf)],_,1,rfl,rfl,by omega,by simp,WkO.start HY.out ⟨0,0⟩,W0⟩
 case round =>
  clear W0
  obtain⟨i,R,LV,pv,cv,rfl,rfl,hi,hl32,hO,W⟩:=hrel
  by_cases hil:i<LV.length
  ·have HM0:=Do (hO.out.enter GD.out HSU.out (by rw[DR];exact hil))
   obtain⟨now,hnow⟩:∃ now:St,now=((LV.map (fun t:e_=>t.1))[i]'(by rw[DR];exact hil)).1:=⟨_,rfl⟩
   rw[←hnow] at HM0
   have hAN:(ah gs).At now:=by
    obtain⟨s,hs⟩:=HM0.out.mid.here
    exact hO.out.inv.at_ now (DY.2 ⟨_,Ec hs,rfl⟩)
   have HAN:=Do hAN
   clear hnow hO hAN
   go_wp2_with fail
   go_loopw [8,10] (fun s8 s10 wx=>∃ (g:Nat) (R:List (St×aD)) (LV:List e_) (pv:Option Addr) (cv:Nat),s10=.int .i64 g∧s8=.slice pv LV.length cv∧g≤gs.length∧LV.length≤32768∧Hid (WkM (ah gs) al m y now R (LV.map (·.1)) i (g*(m+1)))∧WkW w wx gs p c bs (.slice pv LV.length cv) R LV) (fun _ s10 _=>gs.length-(intOf s10).toNat)
   case atStart=>exact⟨0,R,LV,pv,cv,rfl,rfl,by omega,hl32,by rw[Ff];exact HM0.out,W⟩
   case round =>
    clear W HM0 hil hi hl32
    obtain⟨g,R,LV,pv,cv,rfl,rfl,hg,hl32,hM0,W⟩:=hrel
    have x0:=aa W.s0 0
    by_cases hgl:g<gs.length
    ·go_wp2_with fail
     clear x0
     go_loopw [8,11] (fun s8 s11 wx=>∃ (k:Nat) (R:List (St×aD)) (LV:List e_) (pv:Option Addr) (cv:Nat),s11=.int .i64 k∧s8=.slice pv LV.length cv∧k≤m+1∧LV.length≤32768∧Hid (WkM (ah gs) al m y now R (LV.map (·.1)) i (g*(m+1)+k))∧WkW w wx gs p c bs (.slice pv LV.length cv) R LV) (fun _ s11 _=>m+1-(intOf s11).toNat)
     case atStart=>exact⟨0,R,LV,pv,cv,rfl,rfl,by omega,hl32,hM0,W⟩
     case round =>
      clear W hM0 hl32
      obtain⟨k,R,LV,pv,cv,rfl,rfl,hk,hl32,hMk,W⟩:=hrel
      by_cases hkl:k<m+1
      ·have hkm:(k:Int)≤(m:Int):=by omega
       have HEV:=Do (yP hgl hkl)
       obtain⟨hiL,hLn⟩:=hMk.out.key
       have hl6:=bj wr (.cells #[.int .i64 g,.int .i64 k] 53)
       have W6:=W.below hl6.below
       have r6:=hl6.s0
       obtain⟨b,o,v1,v2,rfl,hbw,q0,q1,-,-,-,hq1,hq2⟩:=W6.st.q.get (i:=i) (by rw[DR];exact hiL)
       simp only[List.getElem_map] at hq1 hq2
       rw[hLn] at hq1 hq2
       obtain⟨ba,oa,cn,rfl⟩:=hq1.form (HLA.out now) (by omega)
       obtain⟨bf,of,cm,rfl⟩:=hq2.form (HLF.out now) (by omega)
       have G6:InS (wr.alloc (.cells #[.int .i64 g,.int .i64 k] 53)) w.heap.size wr.heap.size b (o+i*5) (#[.slice p gs.length c],24) (#[.int .i64 g,.int .i64 k],53) (.slice (some ⟨ba,oa,none⟩) gs.length cn) (.slice (some ⟨bf,of,none⟩) gs.length cm):=⟨W6.s0,r6,hbw,q0,q1⟩
       have hiI:(i:Int)<(LV.length:Int):=by omega
       have HQ:=Do (And.intro hq1 hq2)
       have HIL:=Do hiL
       have hkI:(k:Int)≤2:=by omega
       clear hLn hl6 q0 q1 hq1 hq2 hbw hiL
       go_upto_region 14 with fail
       clear W
       generalize wr.alloc (.cells #[.int .i64 g,.int .i64 k] 53)=wa at *
       generalize wr.heap.size=ke at *
       go_cut [13] from 43 to 50 (fun s13 wx=>∃ ky p1 c1 p2 c2,s13=.pointer (some ⟨ky,0,none⟩)∧wx.heap[ky]?=some (.cells #[.slice (some ⟨p1,0,none⟩) gs.length c1,.slice (some ⟨p2,0,none⟩) gs.length c2] 41 (0,0))∧wx.heap[ke]?=some (.cells #[.int .i64 g,.int .i64 k] 53 (0,0))∧dp w.heap.size wx (.slice (some ⟨p1,0,none⟩) gs.length c1) (.slice (some ⟨p2,0,none⟩) gs.length c2) (atL gs.length (bM (ah gs) now ⟨g,k⟩)) (aX gs.length (bM (ah gs) now ⟨g,k⟩))∧WkW w wx gs p c bs (.slice (some ⟨b,o,none⟩) LV.length cv) R LV)
       case first =>
        have hS:=G6.below (below_drewN (Below.refl _ _) 1)
        have hBd:Below wa.heap.size wa wa.drew:=(Below.refl _ _).drew
        have W7:=W6.below (below_drewN (Below.refl _ _) 1)
        refine wp_mono (au (Q:=aK _) (fun wx:World=>InS wx w.heap.size ke b (o+i*5) (#[.slice p gs.length c],24) (#[.int .i64 g,.int .i64 k],53) (.slice (some ⟨ba,oa,none⟩) gs.length cn) (.slice (some ⟨bf,of,none⟩) gs.length cm)) (fun i=>i == 9) (by kernel_rfl) ?_) (fun _ _ _ h=>aN h)
        change InS wa.drew _ _ _ _ _ _ _ _ at hS
        change WkW w wa.drew _ _ _ _ _ _ _ at W7
        have HQ7:=Do (And.intro (HQ.out.1.below hBd) (HQ.out.2.below hBd))
        have r7:=(hBd.block _ (ac r6)).trans r6
        clear W6 G6 HQ hBd r6
        generalize wa.drew=wd at *
        refine ae (i:=1) (v:=?vv1) rfl (by kernel_rfl) (fun _ _ _ h=>h) rfl ?hy1 ?rest1
        case hy1=>(intro wy;go_simp;try with_reducible rfl)
        try simp only[Act.put,Dn,Dl,Dm,Di,Dk,Dj]
        refine ae (i:=2) (v:=?vv2) rfl (by kernel_rfl) (fun _ _ _ h=>h) rfl ?hy2 ?rest2
        case hy2=>(intro wy;go_simp;try with_reducible rfl)
        try simp only[Act.put,Dn,Dl,Dm,Di,Dk,Dj]
        refine ae (i:=3) (v:=?vv3) rfl (by kernel_rfl) (fun _ _ _ h=>h) rfl ?hy3 ?rest3
        case hy3=>(intro wy;go_simp;try with_reducible rfl)
        try simp only[Act.put,Dn,Dl,Dm,Di,Dk,Dj]
        refine ae (i:=4) (v:=?vv4) rfl (by kernel_rfl) (fun _ _ _ h=>h) rfl ?hy4 ?rest4
        case hy4=>(intro wy;go_simp;try with_reducible rfl)
        try simp only[Act.put,Dn,Dl,Dm,Di,Dk,Dj]
        refine ak (i:=0) (v:=?vvJa) rfl (by kernel_rfl) (fun _ _ _ h=>h) rfl hS ?hyJa ?restJa
        case hyJa =>
         intro wy hy
         have e0:=aa hy.h0 0
         have e2:=aa hy.h1 0;have e3:=aa hy.h1 1
         have e4:=hy.c0;have e5:=hy.c1
         clear hy
         go_simp
         try with_reducible rfl
        try simp only[Act.put,Dn,Dl,Dm,Di,Dk,Dj]
        refine ak (i:=5) (v:=?vvJb) rfl (by kernel_rfl) (fun _ _ _ h=>h) rfl hS ?hyJb ?restJb
        case hyJb =>
         intro wy hy
         have e0:=aa hy.h0 0
         have e2:=aa hy.h1 0;have e3:=aa hy.h1 1
         have e4:=hy.c0;have e5:=hy.c1
         clear hy
         go_simp
         try with_reducible rfl
        try simp only[Act.put,Dn,Dl,Dm,Di,Dk,Dj]
        refine ak (i:=6) (v:=?vvJc) rfl (by kernel_rfl) (fun _ _ _ h=>h) rfl hS ?hyJc ?restJc
        case hyJc =>
         intro wy hy
         have e0:=aa hy.h0 0
         have e2:=aa hy.h1 0;have e3:=aa hy.h1 1
         have e4:=hy.c0;have e5:=hy.c1
         clear hy
         go_simp
         try with_reducible rfl
        try simp only[Act.put,Dn,Dl,Dm,Di,Dk,Dj]
        clear hS
        refine iF (i:=7) (i':=8) rfl rfl (by kernel_rfl) rfl rfl (fun K hK=>?_) (fun K hK=>?_)
        ·go_simp
         refine (sJ gs p c (some ⟨ba,oa,none⟩) cn (some ⟨bf,of,none⟩) cm now g k wd (HP.out.below W7.st.bl) HQ7.out.1 HQ7.out.2 HSy.out HAN.out hgl (by omega) hkI (fun h=>by cases h) (fun h=>by cases h)).mono ?_
         rintro e w8 ⟨p1,c1,p2,c2,rfl,hL8,hb8⟩
         have W8:=W7.below hb8
         have r8:=(hb8.block _ (ac r7)).trans r7
         have hz8:=W7.st.bl.size
         refine hK _ _ (fun _ h=>h.below hb8) ?_
         have hbk:=hb8
         clear hK K W7 HQ7 r7 hb8
         try simp only[Act.put,Dn,Dl,Dm,Di,Dk,Dj]
         have l9:=bj w8 (.cells #[.slice none 0 0,.slice none 0 0] 41)
         have W9:=W8.below l9.below
         have r9:=(l9.below.block _ (ac r8)).trans r8
         have hL9:=(hL8.below l9.below).base hz8
         have rk:=l9.s0
         have hky:=ac W8.s0
         have hkk:ke≠w8.heap.size:=by have:=ac r8;omega
         clear W8 r8 hL8 hz8
         refine am (i:=8) rfl (by kernel_rfl) rfl (fun K hK=>?_)
         go_simp
         refine hK _ _ (fun _ h=>h.below l9.below) ?_
         clear hK K l9
         try simp only[Act.put,Dn,Dl,Dm,Di,Dk,Dj]
         generalize w8.alloc (.cells #[.slice none 0 0,.slice none 0 0] 41)=w9 at *
         generalize w8.heap.size=ky at *
         have c0:=aa rk 0
         have c1':=aa rk 1
         have f0:=frozen_of_row w9 ky 0 _ _ rk
         have f1:=frozen_of_row w9 ky 1 _ _ rk
         have hP9:eZ w9 (cH w9 ky (.slice (some ⟨p1,0,none⟩) gs.length c1) (.slice (some ⟨p2,0,none⟩) gs.length c2)) ky _ #[.slice (some ⟨p1,0,none⟩) gs.length c1,.slice (some ⟨p2,0,none⟩) gs.length c2]:=bc rk
         have WZ:=W9.put (u1:=.slice (some ⟨p1,0,none⟩) gs.length c1) (u2:=.slice (some ⟨p2,0,none⟩) gs.length c2) rk hky
         have LZ:=hL9.put (u1:=.slice (some ⟨p1,0,none⟩) gs.length c1) (u2:=.slice (some ⟨p2,0,none⟩) gs.length c2) rk (by decide)
         have rz:=hP9.row
         have re:=(hP9.other ke (by omega)).trans r9
         clear W9 hL9 r9 hP9
         refine am (i:=9) rfl (by kernel_rfl) rfl (fun K hK=>?_)
         go_simp
         change K _ (cH w9 ky (.slice (some ⟨p1,0,none⟩) gs.length c1) (.slice (some ⟨p2,0,none⟩) gs.length c2))
         refine hK _ _ (fun h=>by cases h) ?_
         clear hK K c0 c1' f0 f1 rk
         try simp only[Act.put,Dn,Dl,Dm,Di,Dk,Dj]
         refine aA (by kernel_rfl) ?_ _
         simp only[aK]
         generalize cH w9 ky (.slice (some ⟨p1,0,none⟩) gs.length c1) (.slice (some ⟨p2,0,none⟩) gs.length c2)=wz at *
         try go_wp2
         go_meet
         exact⟨ky,p1,c1,p2,c2,rfl,rz,re,LZ,WZ⟩
        ·go_simp
         have l9:=bj wd (.cells #[.slice none 0 0,.slice none 0 0] 41)
         have W9:=W7.below l9.below
         have HQ9:=Do (And.intro (HQ7.out.1.below l9.below) (HQ7.out.2.below l9.below))
         have r9:=(l9.below.block _ (ac r7)).trans r7
         have rk:=l9.s0
         have hky:=ac W7.s0
         have hkk:ke≠wd.heap.size:=by have:=ac r7;omega
         clear W7 HQ7 r7
         refine hK _ _ (fun _ h=>h.below l9.below) ?_
         clear hK K l9
         try simp only[Act.put,Dn,Dl,Dm,Di,Dk,Dj]
         generalize wd.alloc (.cells #[.slice none 0 0,.slice none 0 0] 41)=w7 at *
         generalize wd.heap.size=ky at *
         have W7:=W9
         have HQ7:=HQ9
         have r7:=r9
         have rk7:=rk
         clear W9 HQ9 r9 rk
         refine am (i:=7) rfl (by kernel_rfl) rfl (fun K hK=>?_)
         go_simp
         refine (sJ gs p c (some ⟨ba,oa,none⟩) cn (some ⟨bf,of,none⟩) cm now g k w7 (HP.out.below W7.st.bl) HQ7.out.1 HQ7.out.2 HSy.out HAN.out hgl (by omega) hkI (fun h=>by cases h) (fun h=>by cases h)).mono ?_
         rintro e w8 ⟨p1,c1,p2,c2,rfl,hL8,hb8⟩
         have W8:=W7.below hb8
         have r8:=(hb8.block _ (ac r7)).trans r7
         have hz8:=W7.st.bl.size
         refine hK _ _ (fun _ h=>h.below hb8) ?_
         have hbk:=hb8
         clear hK K W7 HQ7 r7 hb8
         try simp only[Act.put,Dn,Dl,Dm,Di,Dk,Dj]
         have W9:=W8
         have r9:=r8
         have hL9:=hL8.base hz8
         have rk:=(hbk.block _ (ac rk7)).trans rk7
         clear W8 r8 hL8 hz8 hbk rk7
         generalize w8=w9 at *
         have c0:=aa rk 0
         have c1':=aa rk 1
         have f0:=frozen_of_row w9 ky 0 _ _ rk
         have f1:=frozen_of_row w9 ky 1 _ _ rk
         have hP9:eZ w9 (cH w9 ky (.slice (some ⟨p1,0,none⟩) gs.length c1) (.slice (some ⟨p2,0,none⟩) gs.length c2)) ky _ #[.slice (some ⟨p1,0,none⟩) gs.length c1,.slice (some ⟨p2,0,none⟩) gs.length c2]:=bc rk
         have WZ:=W9.put (u1:=.slice (some ⟨p1,0,none⟩) gs.length c1) (u2:=.slice (some ⟨p2,0,none⟩) gs.length c2) rk hky
         have LZ:=hL9.put (u1:=.slice (some ⟨p1,0,none⟩) gs.length c1) (u2:=.slice (some ⟨p2,0,none⟩) gs.length c2) rk (by decide)
         have rz:=hP9.row
         have re:=(hP9.other ke (by omega)).trans r9
         clear W9 hL9 r9 hP9
         refine am (i:=9) rfl (by kernel_rfl) rfl (fun K hK=>?_)
         go_simp
         change K _ (cH w9 ky (.slice (some ⟨p1,0,none⟩) gs.length c1) (.slice (some ⟨p2,0,none⟩) gs.length c2))
         refine hK _ _ (fun h=>by cases h) ?_
         clear hK K c0 c1' f0 f1 rk
         try simp only[Act.put,Dn,Dl,Dm,Di,Dk,Dj]
         refine aA (by kernel_rfl) ?_ _
         simp only[aK]
         generalize cH w9 ky (.slice (some ⟨p1,0,none⟩) gs.length c1) (.slice (some ⟨p2,0,none⟩) gs.length c2)=wz at *
         try go_wp2
         go_meet
         exact⟨ky,p1,c1,p2,c2,rfl,rz,re,LZ,WZ⟩
       case rest =>
        obtain⟨ky,p1,c1,p2,c2,rfl,rk,re,hL,W7⟩:=hcut
        clear W6 G6 HQ r6
        obtain⟨z,hz⟩:∃ z,z=bM (ah gs) now ⟨g,k⟩:=⟨_,rfl⟩
        have HZA:=Do (show (ah gs).At z by rw[hz];exact mX GD.out HAN.out (qK HSU.out.le (Ec HEV.out)))
        rw[←hz] at hL
        have HZ:=Do hz
        have x0:=aa rk 0
        have x1:=aa rk 1
        clear hz
        go_wp2_with fail
        refine (kA gs _ c1 _ c2 z _ hL.a.q hL.f.q HSy.out HZA.out).mono ?_
        rintro e w8 ⟨rfl,hb8⟩
        have W8:=W7.below hb8
        have rk:=(hb8.block _ (ac rk)).trans rk
        have re:=(hb8.block _ (ac re)).trans re
        have hL:=hL.below hb8
        clear W7 hb8 x0 x1
        have HNZ:Hid (fv z gs.length<32768):=zF (M:=ah gs) GD.out HZA.out
        have HFK:=Do (zE HSy.out (R:=R) hMk.out.mid.inv.at_ HZA.out)
        obtain⟨Nz,hNz⟩:∃ N,N=fv z gs.length:=⟨_,rfl⟩
        rw[←hNz] at HNZ HFK ⊢
        have HNE:=Do hNz
        have hNI:(Nz:Int)<32768:=by have:=HNZ.out;omega
        have z0:=W8.sn.cell HNZ.out
        obtain⟨bb,hbb⟩:∃ b,b=sQ gs R Nz:=⟨_,rfl⟩
        rw[←hbb] at z0
        rw[←hbb] at HFK
        clear hNz hbb
        cases bb
        ·have HNK:Hid (z∉az R):=fun h=>by have:=HFK.out.2 h;cases this
         have x0:=aa rk 0
         have x1:=aa rk 1
         go_wp2_with fail
         refine (kA gs _ c1 _ c2 z _ hL.a.q hL.f.q HSy.out HZA.out).mono ?_
         rintro e w9 ⟨rfl,hb9⟩
         rw[←HNE.out]
         have W9:=W8.below hb9
         have rk:=(hb9.block _ (ac rk)).trans rk
         have re:=(hb9.block _ (ac re)).trans re
         have hL:=hL.below hb9
         clear W8 hb9 x0 x1 z0
         have z0:=W9.sn.cell HNZ.out
         have z1:=W9.sn.fr Nz
         obtain⟨_,cur,hcur⟩:=W9.sn.blk
         have rk:=lT (i:=Nz) (.bool true) hcur rk (by decide)
         have re:=lT (i:=Nz) (.bool true) hcur re (by decide)
         have s0:=lT (i:=Nz) (.bool true) hcur W9.s0 (by decide)
         have hL:=hL.setBool (i:=Nz) (.bool true) hcur
         have hst:=W9.st.setOther (i:=Nz) (.bool true) hcur W9.hb
         have hsn:=W9.sn.set Nz
         have hbs9:=W9.hb
         clear W9 hcur
         go_upto_region 17 with fail
         clear z0 z1
         generalize w9.setCell ⟨bs,Nz,none⟩ (.bool true)=w10 at *
         have x0:=aa rk 0
         have x1:=aa rk 1
         have x2:=aa re 0
         have x3:=aa re 1
         have l11:=bj w10 (.cells #[.slice (some ⟨p1,0,none⟩) gs.length c1,.slice (some ⟨p2,0,none⟩) gs.length c2,.int .i64 i,.int .i64 g,.int .i64 k] 97)
         have s0:=(l11.below.block _ (ac s0)).trans s0
         have hL:=hL.below l11.below
         have hst:=hst.below l11.below
         have hsn:=hsn.below l11.below
         have HC:=Do (show ∀ j,j<5→(w10.alloc (.cells #[.slice (some ⟨p1,0,none⟩) gs.length c1,.slice (some ⟨p2,0,none⟩) gs.length c2,.int .i64 i,.int .i64 g,.int .i64 k] 97)).cell? ⟨w10.heap.size,j,none⟩=(qf ((z,(i:Int),⟨g,k⟩),.slice (some ⟨p1,0,none⟩) gs.length c1,.slice (some ⟨p2,0,none⟩) gs.length c2))[j]? from fun j hj=>by
          rw[aa l11.s0 j]
          match j,hj with
          | 0,_=>rfl
          | 1,_=>rfl
          | 2,_=>rfl
          | 3,_=>rfl
          | 4,_=>rfl)
         clear rk re l11
         go_wp2_with (at_builtin;refine wpList_plain rfl (fun K hK=>?_);refine ye _ _ rfl gs.length _ LV rfl hst (by omega) w10.heap.size ((z,(i:Int),⟨g,k⟩),.slice (some ⟨p1,0,none⟩) gs.length c1,.slice (some ⟨p2,0,none⟩) gs.length c2) rfl HC.out hL.a hL.f ?_;intro gn cn w12 hst12 hgr;refine hK _ _ ?_;clear hK K)
         have s012:=sh hst.row hgr s0 (by decide)
         have hsn12:=hsn.grown hst.row (by decide) hgr
         have W12:WkW w w12 gs p c bs (.slice (some ⟨gn,0,none⟩) (LV.length+1) cn) (R++[(z,⟨now,⟨g,k⟩,false⟩)]) (LV++[((z,(i:Int),⟨g,k⟩),.slice (some ⟨p1,0,none⟩) gs.length c1,.slice (some ⟨p2,0,none⟩) gs.length c2)]):=⟨s012,hsn12.congr (fun c _=>by rw[HNE.out];exact zD c),hst12,hbs9⟩
         have HMN:Hid (WkM (ah gs) al m y now (R++[(z,⟨now,⟨g,k⟩,false⟩)]) ((LV++[(((z,(i:Int),(⟨g,k⟩:Ev)),Value.slice (some ⟨p1,0,none⟩) gs.length c1,Value.slice (some ⟨p2,0,none⟩) gs.length c2):e_)]).map (fun t:e_=>t.1)) i (g*(m+1)+(k+1))):=by
          have:=hMk.out.new GD.out HSU.out HEV.out (by rw[←HZ.out];exact HNK.out)
          rw[←HZ.out] at this
          unfold Hid
          rw[DZ]
          exact this
         have hlen:=HMN.out.len GD.out
         rw[DR,Dx,EQ] at hlen
         clear s0 s012 hL hst hsn hsn12 hst12 hgr HC x0 x1 x2 x3
         go_wp2_with fail
         go_roundw
         case rel=>exact⟨k+1,R++[(z,⟨now,⟨g,k⟩,false⟩)],LV++[((z,(i:Int),⟨g,k⟩),.slice (some ⟨p1,0,none⟩) gs.length c1,.slice (some ⟨p2,0,none⟩) gs.length c2)],some ⟨gn,0,none⟩,cn,by go_num,by rw[Dx,EQ],by omega,by rw[Dx,EQ];exact hlen,HMN,by rw[Dx,EQ];exact W12⟩
         case measure=>simp[intOf];omega
        ·have HOK:=Do (hMk.out.old GD.out HSU.out HEV.out (by rw[←HZ.out];exact HFK.out.1 rfl))
         clear rk re hL
         go_wp2
         go_roundw
         case rel=>exact⟨k+1,R,LV,_,cv,by go_num,rfl,by omega,hl32,HOK,W8⟩
         case measure=>simp[intOf];omega
      ·have hkm:decide (k≤m)=false:=by simp;omega
       have HKM:=Do (show k=m+1 by omega)
       clear hkl hk
       go_wp2
       go_roundw
       case rel=>exact⟨g+1,R,LV,pv,cv,by go_num,rfl,by omega,hl32,by rw[D6,Nat.one_mul,←HKM.out];rw[HKM.out] at hMk ⊢;exact hMk,W⟩
       case measure=>simp[intOf];omega
    ·obtain rfl:g=gs.length:=by omega
     have HO:=Do (hM0.out.leave GD.out HSU.out (Dp _))
     have hiL:i<LV.length:=hM0.out.key.1
     clear hgl hg hM0
     go_wp2
     go_roundw
     case rel=>exact⟨i+1,R,LV,pv,cv,by go_num,rfl,by omega,hl32,HO,W⟩
     case measure=>simp[intOf];omega
  ·obtain rfl:i=LV.length:=by omega
   have HFU:=Do (hO.out.stop GD.out (by rw[DR];omega))
   have HRL:=Do hO.out.ref
   clear hil hi hO
   go_wp2
   go_ret
   refine⟨pv,cv,LV.map (·.1),by rw[DR];rfl,by rw[←HFU.out];exact HRL.out,by rw[DR];exact W.st.q,by rw[DR];exact hl32,W.st.bl⟩
end Go.Proofs.YtnkgbocdpngldaaGreatDoor
