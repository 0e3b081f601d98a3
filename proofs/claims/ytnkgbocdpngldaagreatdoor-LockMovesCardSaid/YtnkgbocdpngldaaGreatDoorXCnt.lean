/- Lemmas of this claim. -/
import Derived.Maps.RangeWalk
import Derived.Test.YtnkgbocdpngldaaGreatDoorXMach
import Derived.Test.YtnkgbocdpngldaaGreatDoorXSea1
import Derived.Test.YtnkgbocdpngldaaGreatDoorXSea2
set_option linter.all false
set_option maxRecDepth 100000
set_option maxHeartbeats 8000000
namespace Go.Proofs.YtnkgbocdpngldaaGreatDoor
open Go.RowKit Dc Dg
def pl (x:St):Int×Int×Int:=(x.a0,x.a1,x.a2)
def iM:List (Int×Int×Int)→List (Int×Int×Int)
 | []=>[]
 | q :: l=>if q∈iM l then iM l else q :: iM l
theorem jx {q:Int×Int×Int}:∀ {l:List (Int×Int×Int)},q∈iM l↔q∈l
 | []=>Iff.rfl
 | r :: l=>by
  unfold iM
  split
  ·rename_i h
   rw[jx,Dk]
   refine⟨Or.inr,fun h2=>?_⟩
   rcases h2 with rfl | h2
   ·exact jx.1 h
   ·exact h2
  ·rw[Dk,Dk,jx]
theorem iY:∀ (l:List (Int×Int×Int)),(iM l).Nodup
 | []=>FA
 | q :: l=>by
  unfold iM
  split
  ·exact iY l
  ·exact ES.2 ⟨by assumption,iY l⟩
def qc (R:List (St×aM)):Nat:=(iM ((aI R).map pl)).length
theorem vK {R:List (St×aM)}{L:List (Int×Int×Int)} (hL:L.Nodup) (h1:∀ q∈L,∃ x∈aI R,pl x=q) (h2:∀ x∈aI R,pl x∈L):L.length=qc R:=by
 unfold qc
 refine ((List.perm_ext_iff_of_nodup hL (iY _)).2 (fun q=>?_)).length_eq
 rw[jx,DO]
 constructor
 ·intro h;obtain⟨x,hx,e⟩:=h1 q h;exact⟨x,hx,e⟩
 ·rintro⟨x,hx,rfl⟩;exact h2 x hx
def RgS (w:World) (mt it:Nat) (R:List (St×aM)) (todo:St→Prop):Prop :=
 ∃ (N:Nat) (D:DataW Value) (left:Lit→Bool) (cnt:Nat),w.ranges Tryz.prog 87 gY mt it N D left cnt∧(∀ l,Go.Maps.has D l=true→∃ x∈aI R,keyOf Tryz.prog 87 x.val=some l) ∧
  (∀ x∈aI R,∃ l,keyOf Tryz.prog 87 x.val=some l∧(left l=true↔todo x))
theorem RgS.kept {w w':World}{mt it:Nat}{R:List (St×aM)}{todo:St→Prop}{row:Option Nat} (h:RgS w mt it R todo) (hg:w.grownBy w' row) (hb:some mt≠row) (hr:some it≠row):RgS w' mt it R todo:=by
 obtain⟨N,D,left,cnt,h1,h2⟩:=h
 exact⟨N,D,left,cnt,h1.kept hg hb hr,h2⟩
theorem RgS.lt {w:World}{mt it:Nat}{R:List (St×aM)}{todo:St→Prop} (h:RgS w mt it R todo):it<w.heap.size:=by
 obtain⟨N,D,left,cnt,h1,h2⟩:=h
 exact h1.lt
theorem RgS.map {w:World}{mt it:Nat}{R:List (St×aM)}{todo:St→Prop} (h:RgS w mt it R todo):∃ es clock,w.heap[mt]?=some (.map es clock):=by
 obtain⟨N,D,left,cnt,⟨es,clock,since,seen,c0,hb,_⟩,h2⟩:=h
 exact⟨es,clock,hb⟩
theorem RgS.iter {w:World}{mt it:Nat}{R:List (St×aM)}{todo:St→Prop} (h:RgS w mt it R todo):∃ b since seen c,w.heap[it]?=some (.mapIter b since seen c):=by
 obtain⟨N,D,left,cnt,⟨es,clock,since,seen,c0,hb,_,_,_,hi,_⟩,h2⟩:=h
 exact⟨_,_,_,_,hi⟩
theorem oO {w:World}{ops:Array Oper}{rest:List Oper}{o:Oper}{a:Act}{Q:Exit→Act→World→Prop} (hg:o.guard=none) (m:Operand) (hop:o.op=Op.range 81 m) (mt N s:Nat) (R:List (St×aM)) (hsm:∀ x∈aI R,x.Small)
  (hm:a.eval m=.map (some mt)) (hT:jO w mt N s R)
  (hK:∀ w',RgS w' mt w.heap.size R (fun _=>True)→w.grownBy w' none→w'.heap.size=w.heap.size+1→wpList Tryz.prog ops Q rest (a.put o.dst (.pointer (some ⟨w.heap.size,0,none⟩))) w') :
  wpList Tryz.prog ops Q (o :: rest) a w:=by
 obtain⟨D,h1,h2,h3,h4,h5⟩:=hT
 refine wpList_range_own w hg m _ hop 87 142 wA n_ gY mt N D hm h1 (fun w' hr hgr hsz=>hK w' ⟨N,D,_,_,hr,fun l hl=>?_,fun x hx=>?_⟩ hgr hsz)
 ·obtain⟨x,hx,hk⟩:=h5 l hl
  refine⟨x,?_,hk⟩
  unfold kt at hx
  cases hgt:Tab.get R x with
  | none=>rw[hgt] at hx;cases hx
  | some st =>
   exact Classical.byContradiction (fun hn=>by rw[gD.2 hn] at hgt;cases hgt)
 ·obtain⟨l,hl⟩:=yt.key x (hsm x hx)
  refine⟨l,hl,⟨fun _=>trivial,fun _=>?_⟩⟩
  rw[(h3 x l (hsm x hx) hl).2]
  unfold kt
  cases hgt:Tab.get R x with
  | none=>exact absurd hx (gD.1 hgt)
  | some st=>rfl
theorem qM {w:World}{ops:Array Oper}{rest:List Oper}{o:Oper}{a:Act}{Q:Exit→Act→World→Prop} (hg:o.guard=none) (i:Operand) (hop:o.op=Op.next i false) (mt it:Nat) (R:List (St×aM)) (todo:St→Prop)
  (hi:a.eval i=.pointer (some ⟨it,0,none⟩)) (h:RgS w mt it R todo)
  (hDone:(∀ x∈aI R,¬ todo x)→wpList Tryz.prog ops Q rest (a.put o.dst (.tuple #[.bool false])) w)
  (hMore:∀ (x:St) (v:Value) (w':World),x∈aI R→RgS w' mt it R (fun y=>todo y∧y≠x)→w'.rangeLeft mt it<w.rangeLeft mt it→w.grownBy w' (some it)→w'.heap.size=w.heap.size →
   (Instr.entry (.pointer (some ⟨it,0,none⟩))).run Tryz.prog w'=.ok (.tuple #[.agg #[.int .i64 x.a0,.int .i64 x.a1,.int .i64 x.a2,.int .i64 x.f0,.int .i64 x.f1,.int .i64 x.f2],v]) w' →
   wpList Tryz.prog ops Q rest (a.put o.dst (.tuple #[.bool true,.agg #[.int .i64 x.a0,.int .i64 x.a1,.int .i64 x.a2,.int .i64 x.f0,.int .i64 x.f1,.int .i64 x.f2],v])) w') :
  wpList Tryz.prog ops Q (o :: rest) a w:=by
 obtain⟨N,D,left,cnt,h1,h2,h3⟩:=h
 refine wpList_next_ranges w hg i hop 87 wA gY (fun x:Value=>x) (fun v:Value=>v) (fun key kl hk=>⟨key,rfl⟩) (fun v y hv=>⟨v,rfl⟩) mt it N D left cnt hi h1 (fun h0 hl=>hDone (fun x hx ht=>?_)) (fun key v kl y w' cnt' hkey hlk hv hat hrg hlt hgr hsz hen=>?_)
 ·obtain⟨l,hl1,hl2⟩:=h3 x hx
  rw[hl l] at hl2
  exact absurd (hl2.2 ht) (by decide)
 ·obtain⟨x,hx,hxk⟩:=h2 kl (Go.Maps.has_true_of_atKey hat)
  obtain rfl:key=x.val:=wA.inj hkey hxk
  refine hMore x v w' hx ⟨N,D,_,cnt',hrg,h2,fun z hz=>?_⟩ (by rw[hrg.left_eq,h1.left_eq];exact hlt) hgr hsz hen
  obtain⟨l,hl1,hl2⟩:=h3 z hz
  refine⟨l,hl1,?_⟩
  simp only[Da,hl2]
  refine and_congr_right (fun _=>?_)
  by_cases hzx:l=kl
  ·subst hzx
   have e1:z.val=x.val:=wA.inj hl1 hxk
   have e2:z=x:=by
    unfold St.val at e1
    simp only[Value.agg.injEq,Array.mk.injEq,List.cons.injEq,Value.int.injEq,true_and,and_true] at e1
    cases z;cases x
    simp only[St.mk.injEq] at e1 ⊢
    exact e1
   subst e2
   simp[WideAt.sameKey_self (wA.key hxk)]
  ·rw[Go.Maps.sameKey_ne hzx]
   simp only[Bool.not_false,true_iff]
   rintro rfl
   rw[hl1] at hxk
   exact hzx (Option.some.inj hxk)
theorem cY.tight {κ:Type}{P:Program}{K:TypeId}{enc:κ→Value}{ok:κ→Prop}{w:World}{b n s:Nat}{f:κ→Option Value} (h:cY P K enc ok w b n s f):cY P K enc ok w b s s f:=by
 obtain⟨D,⟨es,clock,hb,F,hs,hD⟩,h2,h3⟩:=h
 refine⟨D,⟨es,clock,hb,F,?_,hD⟩,h2,h3⟩
 rw[←h2,hD]
 show es.size≤(List.foldr DataW.insert [] _).length
 have hp:=(WideShapes.sorted_perm (es.toList.map (WideElems.rg P K gY))).length_eq
 rw[Em,Array.length_toList] at hp
 exact FN hp.symm
theorem pC {α:Type} [DecidableEq α]:∀ (L K:List α),L.Nodup→(∀ x∈L,x∈K)→L.length≤K.length
 | [],_,_,_=>Do _
 | x :: L,K,hd,h=>by
  have hx:=h x (DC ..)
  have h1:=pC L (K.erase x) (ES.1 hd).2 (fun y hy=>by
   refine (List.mem_erase_of_ne (fun e=>?_)).2 (h y (DZ _ hy))
   subst e
   exact (ES.1 hd).1 hy)
  rw[List.length_erase,if_pos (by simpa using hx)] at h1
  have:0<K.length:=List.length_pos_of_mem hx
  simp only[Dj]
  omega
def plF (L:List (Int×Int×Int)) (q:Int×Int×Int):Option Value:=if q∈L then some (.bool true) else none
def PlW (w:World) (mb:Nat) (L:List (Int×Int×Int)):Prop:=cY Tryz.prog 85 rm A8 w mb L.length L.length (plF L)
theorem BE:Tryz.prog.underlying 91=some (.map 85 4):=by kernel_rfl
theorem Ba {L:List (Int×Int×Int)}{q:Int×Int×Int}:iC (plF L) q (.bool true)=plF (if q∈L then L else L++[q]):=by
 funext z
 unfold iC plF
 by_cases hz:z=q
 ·subst hz
  rw[if_pos rfl]
  by_cases hL:z∈L
  ·rw[if_pos hL,if_pos hL]
  ·rw[if_neg hL,if_pos (by simp)]
 ·rw[if_neg hz]
  by_cases hL:q∈L
  ·rw[if_pos hL]
  ·rw[if_neg hL]
   simp[hz]
structure pP (w wr:World) (mt it pb:Nat) (R:List (St×aM)) (todo:St→Prop) (L:List (Int×Int×Int)):Prop where
 rg:RgS wr mt it R todo
 plw:PlW wr pb L
 nd:L.Nodup
 from_:∀ q∈L,∃ x∈aI R,pl x=q
 to_:∀ x∈aI R,todo x∨pl x∈L
 below:Below w.heap.size w wr
 pb0:w.heap.size≤pb
 it0:w.heap.size≤it
 ne:mt≠pb
theorem PlW.ne {w:World}{mb:Nat}{L:List (Int×Int×Int)} (h:PlW w mb L) {k:Nat}{o:Obj} (hk:w.heap[k]?=some o) (ho:∀ es c,o≠.map es c):k≠mb:=by
 obtain⟨D,⟨es,clock,hb,_⟩,_⟩:=h
 rintro rfl
 rw[hb] at hk
 cases hk
 exact ho _ _ rfl
theorem pP.len {w wr:World}{mt it pb:Nat}{R:List (St×aM)}{todo:St→Prop}{L:List (Int×Int×Int)} (C:pP w wr mt it pb R todo L):L.length≤R.length:=by
 have:=pC L ((aI R).map pl) C.nd (fun q hq=>by obtain⟨x,hx,e⟩:=C.from_ q hq;exact DO.2 ⟨x,hx,e⟩)
 simpa[aI] using this
theorem pP.next {w wr w7:World}{mt it pb:Nat}{R:List (St×aM)}{todo:St→Prop}{L:List (Int×Int×Int)} (C:pP w wr mt it pb R todo L) (hg7:wr.grownBy w7 (some it)) (o:Obj):PlW (w7.alloc o) pb L:=by
 obtain⟨_,_,_,_,hi⟩:=C.rg.iter
 have h7:PlW w7 pb L:=cY.kept C.plw hg7 (fun e=>C.plw.ne hi (by intro es c e;cases e) (Option.some.inj e).symm)
 exact cY.kept h7 (World.grownBy_alloc w7 o none) (by simp)
theorem pP.step {w wr w7 w9:World}{mt it pb:Nat}{R:List (St×aM)}{todo:St→Prop}{L:List (Int×Int×Int)} (C:pP w wr mt it pb R todo L) {x:St} (hx:x∈aI R) (hR7:RgS w7 mt it R (fun y=>todo y∧y≠x)) (hg7:wr.grownBy w7 (some it)) {o:Obj}
  (hM9:cY Tryz.prog 85 rm A8 w9 pb (L.length+1) (if (plF L (pl x)).isSome then L.length else L.length+1) (iC (plF L) (pl x) (.bool true))) (hg9:(w7.alloc o).grownBy w9 (some pb)) :
  pP w w9 mt it pb R (fun y=>todo y∧y≠x) (if pl x∈L then L else L++[pl x])∧w9.rangeLeft mt it=w7.rangeLeft mt it:=by
 obtain⟨_,_,_,_,hi⟩:=C.rg.iter
 have hit:it≠pb:=C.plw.ne hi (by intro es c e;cases e)
 have hRA:RgS (w7.alloc o) mt it R (fun y=>todo y∧y≠x):=hR7.kept (World.grownBy_alloc w7 o none) (by simp) (by simp)
 have hR9:=hRA.kept hg9 (fun e=>C.ne (Option.some.inj e)) (fun e=>hit (Option.some.inj e))
 rw[Ba] at hM9
 have hb7:Below w.heap.size w w7:=C.below.grown hg7 C.below.size (fun k e=>by cases e;exact C.it0)
 have hbA:Below w.heap.size w (w7.alloc o):=hb7.alloc hb7.size o
 refine⟨⟨hR9,?_,?_,?_,?_,hbA.grown hg9 hbA.size (fun k e=>by cases e;exact C.pb0),C.pb0,C.it0,C.ne⟩,?_⟩
 ·by_cases hL:pl x∈L
  ·rw[if_pos hL] at hM9 ⊢
   have:(plF L (pl x)).isSome=true:=by unfold plF;rw[if_pos hL];rfl
   rw[this,if_pos rfl] at hM9
   exact hM9.tight
  ·rw[if_neg hL] at hM9 ⊢
   have:(plF L (pl x)).isSome=false:=by unfold plF;rw[if_neg hL];rfl
   rw[this,if_neg (by simp)] at hM9
   have h:=hM9.tight
   unfold PlW
   rw[Dd]
   exact h
 ·by_cases hL:pl x∈L
  ·rw[if_pos hL];exact C.nd
  ·rw[if_neg hL]
   exact FK.2 ⟨C.nd,by simp,fun a ha b hb e=>by simp at hb;subst hb;subst e;exact hL ha⟩
 ·intro q hq
  by_cases hL:pl x∈L
  ·rw[if_pos hL] at hq;exact C.from_ q hq
  ·rw[if_neg hL] at hq
   rcases DA.1 hq with h | h
   ·exact C.from_ q h
   ·simp at h;exact⟨x,hx,h.symm⟩
 ·intro y hy
  by_cases hyx:y=x
  ·subst hyx
   right
   by_cases hL:pl y∈L
   ·rw[if_pos hL];exact hL
   ·rw[if_neg hL];simp
  ·rcases C.to_ y hy with h | h
   ·exact Or.inl ⟨h,hyx⟩
   ·right
    by_cases hL:pl x∈L
    ·rw[if_pos hL];exact h
    ·rw[if_neg hL];exact Ea _ h
 ·obtain⟨_,_,hm⟩:=hR7.map
  have l1:mt<w7.heap.size:=(C_.1 hm).1
  have l2:=hR7.lt
  unfold World.rangeLeft
  rw[hg9.block mt (by simp;omega) (fun e=>C.ne (Option.some.inj e)),hg9.block it (by simp;omega) (fun e=>hit (Option.some.inj e)),heap_alloc_old _ _ (h:=l1),heap_alloc_old _ _ (h:=l2)]
structure d8 (w:World) (p:Option Addr) (c:Nat) (gs:List Gd):Prop where
 G:bE w p gs
 X:Gx w
 F:Az gs
 c1:gs.length≤c
 c2:(c:Int)≤9223372036854775807
theorem d8.below {w w':World}{p:Option Addr}{c:Nat}{gs:List Gd} (h:d8 w p c gs) (hb:Below w.heap.size w w'):d8 w' p c gs:=⟨h.G.below hb,h.X.below hb,h.F,h.c1,h.c2⟩
theorem d8.check {w:World}{p:Option Addr}{c:Nat}{gs:List Gd} (h:d8 w p c gs):Calls Tryz.prog 31 #[.agg #[.slice p gs.length c]] w (ld (aX gs) 40 w):=vF gs p c w h.G h.X h.F h.c1 h.c2
theorem zY {x:St} (h:x.Small):A8 (pl x):=⟨h.a0,h.a1,h.a2⟩
def mV (gs:List Gd):Int:=if aX gs then (qc (cX (ah gs) St.zero (fun _=>true) (fun _=>false)).2:Int) else 0
theorem BS (gs:List Gd) (p:Option Addr) (c:Nat) (w:World) (hP:d8 w p c gs) :
  Calls Tryz.prog 11 #[.agg #[.slice p gs.length c]] w (fun e w'=>e=.returned (.tuple #[.int .i64 (mV gs),.int .i64 (if aX gs then 0 else 40)])∧Below w.heap.size w w'):=by
 have hb1:Below w.heap.size w (w.alloc (.cells #[.slice p gs.length c] 24)):=(Below.refl _ _).alloc (C6 _) _
 have s0:=an w #[.slice p gs.length c] 24 0 _ rfl
 have hlt:w.heap.size<(w.alloc (.cells #[.slice p gs.length c] 24)).heap.size:=by simp
 have P1:=hP.below hb1
 have hmm:=@run_makeMap Tryz.prog
 go_enter Tryz.func11,Tryz.ntmps11
 go_wp2_with fail
 generalize w.alloc (.cells #[.slice p gs.length c] 24)=w1 at *
 refine P1.check.mono ?_
 rintro e w2 ⟨rfl,hb2⟩
 cases hS:aX gs
 ·simp only[DI,if_false]
  go_wp2_with fail
  all_goals go_ret2
  all_goals exact⟨by simp[mV,hS],hb1.trans (hb2.mono hb1.size)⟩
 ·simp only[if_true]
  have P2:=P1.below hb2
  have s2:=(hb2.cell (p:=⟨w.heap.size,0,none⟩) hlt).trans s0
  go_wp2_with fail
  refine (rW gs p c w2 P2.G hS).mono ?_
  rintro e w3 ⟨mB,vn,vb,mb,Nm,sm,f,rfl,hM,hb3⟩
  go_wp2_with fail
  refine (uY gs p c vn vb mb Nm sm f w3 mB St.zero hM (js hS) hS (aH.At.zero (bD hS)) 45 46 #[] #[] (fun _=>true) (fun _=>false) (gL Tryz.func45 (by kernel_rfl) (by decide)) (gL Tryz.func46 (by kernel_rfl) (by decide))
   (fun w' _ v _=>oW v w') (fun w' _ y _=>zk y w')).mono ?_
  rintro e w4 ⟨hb4,v4,mt,N,s,rfl,hT,hE,hmt⟩
  have hI:Inv (ah gs) (fun _=>true) (fun _=>false) St.zero (cX (ah gs) St.zero (fun _=>true) (fun _=>false)).2 ((cX (ah gs) St.zero (fun _=>true) (fun _=>false)).2.length):=by
   have:=sE (bD hS) (al:=fun _=>true) (fd:=fun _=>false) (aH.At.zero (bD hS))
   revert this
   generalize cX (ah gs) St.zero (fun _=>true) (fun _=>false)=res
   intro this
   match res,this with
   | (some y,R'),h=>exact absurd h.fd (by decide)
   | (none,R'),h=>exact h.inv
  have hsm:∀ x∈aI (cX (ah gs) St.zero (fun _=>true) (fun _=>false)).2,x.Small:=fun x hx=>(hI.at_ x hx).small (bD hS)
  have hRl:=fy (bD hS) hI
  have hcg:mV gs=(qc (cX (ah gs) St.zero (fun _=>true) (fun _=>false)).2:Int):=by simp[mV,hS]
  generalize (cX (ah gs) St.zero (fun _=>true) (fun _=>false)).1.isSome=bz at *
  generalize (cX (ah gs) St.zero (fun _=>true) (fun _=>false)).2=R at *
  have hbA:Below w4.heap.size w4 (w4.alloc (.map #[] 0)):=(Below.refl _ _).alloc (C6 _) _
  have hT5:jO (w4.alloc (.map #[] 0)) mt N s R:=hT.same (hbA.block _ hT.lt)
  have hP5:PlW (w4.alloc (.map #[] 0)) w4.heap.size []:=cY.made w4 _ _ _ _
  have hb5:Below w.heap.size w (w4.alloc (.map #[] 0)):=((hb1.trans (hb2.mono hb1.size)).trans (hb3.mono (Df hb1.size hb2.size))).trans ((hb4.mono (Df hb1.size (Df hb2.size hb3.size))).trans (hbA.mono (Df hb1.size (Df hb2.size (Df hb3.size hb4.size)))))
  have hz4:w.heap.size≤w4.heap.size:=Df hb1.size (Df hb2.size (Df hb3.size hb4.size))
  have hz5:(w4.alloc (.map #[] 0)).heap.size=w4.heap.size+1:=by simp
  go_wp2_with (at_range;refine oO rfl _ rfl mt N s R hsm rfl hT5 ?_;intro w6 hR6 hg6 hz6)
  go_frame
  obtain⟨it,hit⟩:∃ it,it=(w4.alloc (.map #[] 0)).heap.size:=⟨_,rfl⟩
  rw[←hit] at hR6 ⊢
  have C0:pP w w6 mt it w4.heap.size R (fun _=>True) []:=⟨hR6,cY.kept hP5 hg6 (by simp),FA,fun q hq=>(by cases hq),fun x _=>Or.inl trivial,hb5.grown hg6 hb5.size (fun k e=>by cases e),hz4,by omega,by have:=hT.lt;omega⟩
  clear hR6 hP5 hg6 hz6 hT5 hT hit hz5 hbA hb4 hb3 hb2 hb1 s0 hlt P1 P2 s2 hM hE hmt hI hmm hb5
  have HSM:=C5 hsm
  clear hsm
  have hz4':=C5 hz4
  clear hz4
  generalize w4.heap.size=pb at C0 ⊢
  go_loopw [28] (fun _ wr=>∃ (todo:St→Prop) (L:List (Int×Int×Int)),pP w wr mt it pb R todo L) (fun _ wr=>wr.rangeLeft mt it)
  case atStart=>exact⟨_,_,C0⟩
  case round =>
   clear C0
   obtain⟨todo,L,C⟩:=hrel
   go_wp2_with (at_next;refine qM rfl _ rfl mt it R todo rfl C.rg ?_ ?_)
   ·intro hd
    have hlen:=fun ty=>cY.len C.plw BE ty
    have hcs:=vK C.nd C.from_ (fun x hx=>(C.to_ x hx).resolve_left (hd x hx))
    go_wp2_with fail
    go_ret2
    exact⟨by rfl,C.below⟩
   ·intro x v w7 hx hR7 hlt7 hg7 hz7 hen
    have hxs:=HSM.out x hx
    have hLl:=C.len
    obtain⟨w9,hrun,hM9,hg9⟩:=(C.next hg7 (.cells #[.int .i64 x.a0,.int .i64 x.a1,.int .i64 x.a2,.int .i64 x.f0,.int .i64 x.f1,.int .i64 x.f2] 87)).store encL BE (by unfold maxLen;omega) (k:=pl x) (zY hxs) (.bool true)
    obtain⟨C9,hm9⟩:=C.step hx hR7 hg7 hM9 hg9
    simp only[rm,pl] at hrun
    go_wp2_with fail
    go_roundw
    case rel=>exact⟨_,_,C9⟩
    case measure=>rw[hm9];exact hlt7
def gg (M:aH) (g:Nat):Nat→Nat→Nat
 | 0,_=>0
 | m+1,k=>if M.next g k<0 then 1 else gg M g m (M.next g k).toNat+1
theorem pJ (M:aH) (g:Nat):∀ (m k:Nat),gg M g m k≤m
 | 0,_=>C6 _
 | m+1,k=>by
  rw[gg]
  split
  ·omega
  ·have:=pJ M g m (M.next g k).toNat;omega
theorem mn {M:aH}{g:Nat}:∀ (m k:Nat),fR M g m k=true→gg M g (m+1) k=gg M g m k
 | 0,_,h=>by cases h
 | m+1,k,h=>by
  rw[gg]
  conv=>rhs;rw[gg]
  rw[fR] at h
  split
  ·rfl
  ·rename_i hn
   rw[if_neg hn] at h
   rw[mn m _ h]
def ks (M:aH) (g k:Nat):Nat:=gg M g 8 k
theorem xr {M:aH}{g k:Nat}:ks M g k≤8:=pJ M g 8 k
theorem sM {M:aH}{g k:Nat} (L:fi M g) (hk:k<M.rungs g) (h:0≤M.next g k):ks M g k=ks M g (M.next g k).toNat+1:=by
 have hnx:=L.good.next g k L.lt hk
 have h1:=mn 8 k (L.eight hk)
 unfold ks
 rw[←h1,gg,if_neg (by omega)]
theorem ul {M:aH}{g k:Nat}:1≤ks M g k:=by
 unfold ks
 rw[gg]
 split<;>omega
abbrev jP:=Nat×Nat×Nat
def jW (M:aH) (g:Nat) (z:jP):Nat:=z.2.2*9+ks M g z.1
def mD (M:aH) (g:Nat) (L:List jP) (z:jP):Option Value:=if z∈L then some (.int .i64 (a6 M g z.1 z.2.1 z.2.2)) else none
theorem vl:Tryz.prog.underlying 113=some (.map 84 3):=by kernel_rfl
theorem Bq (w:World):(zeroValue 3).run Tryz.prog w=.ok (.int .i64 0) w:=by kernel_rfl
structure eW (M:aH) (g:Nat) (w:World) (mt:Nat) (L:List jP):Prop where
 map:cY Tryz.prog 84 kG Cb w mt L.length L.length (mD M g L)
 nd:L.Nodup
 ok:∀ z∈L,z.1<8∧z.2.1<4∧z.2.2≤8
theorem eW.len {M : aH} {g : Nat} {w : World} {mt : Nat} {L : List jP} (h : eW M g w mt L) : L.length ≤ 288 := by
  have h1 := nJ 288 (L.map (fun z => (z.1 * 4 + z.2.1) * 9 + z.2.2)) ((List.pairwise_map).2 (h.nd.imp_of_mem (fun {a b} ha hb hne e => by
    have h1 := h.ok a ha
    have h2 := h.ok b hb
    obtain ⟨a1, a2, a3⟩ := a
    obtain ⟨b1, b2, b3⟩ := b
    simp only at h1 h2 e
    exact hne (by have e1 : a1 = b1 := by omega
                  have e2 : a2 = b2 := by omega
                  have e3 : a3 = b3 := by omega
                  rw [e1, e2, e3])))) (fun x hx => by
    obtain ⟨z, hz, rfl⟩ := DO.1 hx
    have := h.ok z hz
    omega)
  simpa using h1
theorem eW.kept {M:aH}{g:Nat}{w w':World}{mt:Nat}{L:List jP} (h:eW M g w mt L) (hb:w'.heap[mt]?=w.heap[mt]?):eW M g w' mt L:=⟨h.map.same hb,h.nd,h.ok⟩
theorem eW.ne {M:aH}{g:Nat}{w:World}{mt:Nat}{L:List jP} (h:eW M g w mt L) {k:Nat}{cs:Array Value}{t:TypeId}{fr:Nat×Nat} (hk:w.heap[k]?=some (.cells cs t fr)):k≠mt:=by
 obtain⟨D,⟨es,clock,hb,_⟩,_⟩:=h.map
 rintro rfl
 rw[hb] at hk
 cases hk
theorem y_ {M:aH}{g:Nat}{L:List jP}{z:jP} (hz:z∉L):iC (mD M g L) z (.int .i64 (a6 M g z.1 z.2.1 z.2.2))=mD M g (L++[z]):=by
 funext y
 unfold iC mD
 by_cases hy:y=z
 ·subst hy;rw[if_pos rfl,if_pos (by simp)]
 ·rw[if_neg hy];simp[hy]
theorem eW.put {M:aH}{g:Nat}{w:World}{mt:Nat}{L:List jP} (h:eW M g w mt L) {z:jP} (hz:z∉L) (hok:z.1<8∧z.2.1<4∧z.2.2≤8) :
  ∃ w',(Instr.mapUpdate 113 (.map (some mt)) (kG z) (.int .i64 (a6 M g z.1 z.2.1 z.2.2))).run Tryz.prog w=.ok () w'∧eW M g w' mt (L++[z])∧w.grownBy w' (some mt):=by
 have hl:=h.len
 obtain⟨w',hr,hM,hg⟩:=h.map.store encT vl (by unfold maxLen;omega) (k:=z) ⟨by omega,by omega,by omega⟩ (.int .i64 (a6 M g z.1 z.2.1 z.2.2))
 rw[y_ hz] at hM
 have:(mD M g L z).isSome=false:=by unfold mD;rw[if_neg hz];rfl
 rw[this,if_neg (by simp)] at hM
 refine⟨w',hr,⟨by rw[Dd];exact hM,FK.2 ⟨h.nd,by simp,fun a ha b hb e=>by simp at hb;subst hb;subst e;exact hz ha⟩,fun y hy=>?_⟩,hg⟩
 rcases DA.1 hy with hy | hy
 ·exact h.ok y hy
 ·simp at hy;subst hy;exact hok
structure WB (w:World) (gs:List Gd) (g m bn on cn bu ou cu bb ob cb bv ov cv br orr cr:Nat):Prop where
 n0:w.cell? ⟨m,1,none⟩=some (.slice (some ⟨bn,on,none⟩) gs.length cn)
 b0:w.cell? ⟨m,2,none⟩=some (.slice (some ⟨bb,ob,none⟩) gs.length cb)
 n1:w.cell? ⟨bn,on+g,none⟩=some (.slice (some ⟨bu,ou,none⟩) (ag gs g).length cu)
 b1:w.cell? ⟨bb,ob+g,none⟩=some (.slice (some ⟨bv,ov,none⟩) (ag gs g).length cv)
 n2:∀ k,k<(ag gs g).length→w.cell? ⟨bu,ou+k,none⟩=some (.int .i64 ((ah gs).next g k))
 b2:∀ k,k<(ag gs g).length→w.cell? ⟨bv,ov+k,none⟩=some (.int .i64 ((ah gs).back g k))
 t1:∀ k,k<(ag gs g).length→w.cell? ⟨br,orr+k*7+3,none⟩=some (.int .i64 ((ah gs).tries g k))
 t2:∀ k,k<(ag gs g).length→w.cell? ⟨br,orr+k*7+4,none⟩=some (.int .i64 ((ah gs).mins g k))
theorem WB.below {w w':World}{gs:List Gd}{g m bn on cn bu ou cu bb ob cb bv ov cv br orr cr:Nat} (h:WB w gs g m bn on cn bu ou cu bb ob cb bv ov cv br orr cr) (hb:Below w.heap.size w w'):WB w' gs g m bn on cn bu ou cu bb ob cb bv ov cv br orr cr :=
 ⟨(hb.cell (block_lt_of_cell h.n0)).trans h.n0,(hb.cell (block_lt_of_cell h.b0)).trans h.b0,(hb.cell (block_lt_of_cell h.n1)).trans h.n1,(hb.cell (block_lt_of_cell h.b1)).trans h.b1,fun k hk=>(hb.cell (block_lt_of_cell (h.n2 k hk))).trans (h.n2 k hk),fun k hk=>(hb.cell (block_lt_of_cell (h.b2 k hk))).trans (h.b2 k hk),fun k hk=>(hb.cell (block_lt_of_cell (h.t1 k hk))).trans (h.t1 k hk),fun k hk=>(hb.cell (block_lt_of_cell (h.t2 k hk))).trans (h.t2 k hk)⟩
theorem CW {gs:List Gd}{p:Option Addr}{c:Nat}{vn vb:Value}{mb N s:Nat}{f:Nat×Nat→Option Value}{w:World}{m g:Nat} (hP:d_ w m gs p c vn vb mb N s f) (hg:g<gs.length) (hk0:0<(ag gs g).length) :
  ∃ bg og bn on cn bu ou cu bb ob cb bv ov cv br orr cr,p=some ⟨bg,og,none⟩∧w.cell? ⟨bg,og+g*2+1,none⟩=some (.slice (some ⟨br,orr,none⟩) (ag gs g).length cr)∧WB w gs g m bn on cn bu ou cu bb ob cb bv ov cv br orr cr:=by
 obtain⟨pn,cn,e1,hn⟩:=hP.n.at_
 obtain⟨bn,on,e2,hbn,hn⟩:=hn (by omega)
 obtain⟨u,hn1,hu⟩:=hn g hg
 obtain⟨pu,cu,e3,hu⟩:=hu.at_
 have l1:(iy gs g).length=(ag gs g).length:=by simp[iy]
 obtain⟨bu,ou,e4,hbu,hu3⟩:=hu (by omega)
 obtain⟨pb,cb,e5,hb⟩:=hP.b.at_
 obtain⟨bb,ob,e6,hbb,hb⟩:=hb (by omega)
 obtain⟨v,hb1,hv⟩:=hb g hg
 obtain⟨pv,cv,e7,hv⟩:=hv.at_
 have l2:(iu gs g).length=(ag gs g).length:=by simp[iu]
 obtain⟨bv,ov,e8,hbv,hv3⟩:=hv (by omega)
 obtain⟨bg,og,e9,hbg,hG⟩:=hP.G.at_ (by omega)
 obtain⟨q,cq,t0,t1,hR⟩:=hG g hg
 have hra:ag gs g=gs[g].rungs:=by unfold ag;rw[C7 hg]
 obtain⟨br,orr,e10,hbr,hr⟩:=hR.at_ (by rw[←hra];omega)
 subst e1;subst e2;subst e3;subst e4;subst e5;subst e6;subst e7;subst e8;subst e10
 refine⟨bg,og,bn,on,cn,bu,ou,cu,bb,ob,cb,bv,ov,cv,br,orr,cq,e9,?_,hP.m1,hP.m2,?_,?_,fun k hk=>?_,fun k hk=>?_,fun k hk=>?_,fun k hk=>?_⟩
 ·rw[t1,hra]
 ·rw[hn1,l1]
 ·rw[hb1,l2]
 ·rw[hu3 k (by omega)];simp[iy]
 ·rw[hv3 k (by omega)];simp[iu]
 ·obtain⟨q1,c1,q2,c2,hr⟩:=hr k (by rw[←hra];omega)
  rw[hr.d3]
  show _=some (Value.int .i64 (aK gs g k).tries)
  unfold aK
  rw[C7 hk]
  simp only[hra]
 ·obtain⟨q1,c1,q2,c2,hr⟩:=hr k (by rw[←hra];omega)
  rw[hr.d4]
  show _=some (Value.int .i64 (aK gs g k).minutes)
  unfold aK
  rw[C7 hk]
  simp only[hra]
structure qV (w0 w:World) (gs:List Gd) (g m mt b4 b9 b10 b11 b12 br orr cr:Nat):Prop where
 bl:Below w0.heap.size w0 w
 lt:w0.heap.size≤mt
 h9:w.heap[b9]?=some (.cells #[.pointer (some ⟨m,0,none⟩)] 78 (0,0))
 h4:w.heap[b4]?=some (.cells #[.int .i64 g] 3 (0,0))
 h11:w.heap[b11]?=some (.cells #[.map (some mt)] 113 (0,0))
 h12:w.heap[b12]?=some (.cells #[.func (.func 64) #[] #[.pointer (some ⟨b9,0,none⟩),.pointer (some ⟨b4,0,none⟩),.pointer (some ⟨b11,0,none⟩),.pointer (some ⟨b12,0,none⟩),.pointer (some ⟨b10,0,none⟩)]] 114 (0,0))
 h10:w.heap[b10]?=some (.cells #[.slice (some ⟨br,orr,none⟩) (ag gs g).length cr] 60 (0,0))
theorem qV.kept {w0 w w':World}{gs:List Gd}{g m mt b4 b9 b10 b11 b12 br orr cr:Nat}{L:List jP} (h:qV w0 w gs g m mt b4 b9 b10 b11 b12 br orr cr) (hM:eW (ah gs) g w mt L) (hg:w.grownBy w' (some mt)):qV w0 w' gs g m mt b4 b9 b10 b11 b12 br orr cr :=
  ⟨h.bl.grown hg h.bl.size (fun k e=>by cases e;exact h.lt),h.lt,
   (hg.block _ (aw h.h9) (fun e=>hM.ne h.h9 (Option.some.inj e))).trans h.h9,(hg.block _ (aw h.h4) (fun e=>hM.ne h.h4 (Option.some.inj e))).trans h.h4,(hg.block _ (aw h.h11) (fun e=>hM.ne h.h11 (Option.some.inj e))).trans h.h11,(hg.block _ (aw h.h12) (fun e=>hM.ne h.h12 (Option.some.inj e))).trans h.h12,(hg.block _ (aw h.h10) (fun e=>hM.ne h.h10 (Option.some.inj e))).trans h.h10⟩
end Go.Proofs.YtnkgbocdpngldaaGreatDoor
