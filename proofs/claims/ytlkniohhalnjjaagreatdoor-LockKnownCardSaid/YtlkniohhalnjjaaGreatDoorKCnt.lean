/- Lemmas of this claim. -/
import Derived.Maps.RangeWalk
import Derived.Test.YtlkniohhalnjjaaGreatDoorKSea1
import Derived.Test.YtlkniohhalnjjaaGreatDoorKSea2
set_option linter.all false
set_option maxRecDepth 100000
set_option maxHeartbeats 8000000
namespace Go.Proofs.YtlkniohhalnjjaaGreatDoor
open Go.RowKit Dc Dg
def pl (x:St):Int×Int×Int:=(x.a0,x.a1,x.a2)
def eZ:List (Int×Int×Int)→List (Int×Int×Int)
 | []=>[]
 | q :: l=>if q∈eZ l then eZ l else q :: eZ l
theorem fA {q:Int×Int×Int}:∀ {l:List (Int×Int×Int)},q∈eZ l↔q∈l
 | []=>Iff.rfl
 | r :: l=>by
  unfold eZ
  split
  ·rename_i h
   rw[fA,uy]
   refine⟨Or.inr,fun h2=>?_⟩
   rcases h2 with rfl | h2
   ·exact fA.1 h
   ·exact h2
  ·rw[uy,uy,fA]
theorem fh:∀ (l:List (Int×Int×Int)),(eZ l).Nodup
 | []=>wK
 | q :: l=>by
  unfold eZ
  split
  ·exact fh l
  ·exact vP.2 ⟨by assumption,fh l⟩
def kD (R:List (St×av)):Nat:=(eZ ((au R).map pl)).length
theorem oF {R:List (St×av)}{L:List (Int×Int×Int)} (hL:L.Nodup) (h1:∀ q∈L,∃ x∈au R,pl x=q) (h2:∀ x∈au R,pl x∈L):L.length=kD R:=by
 unfold kD
 refine ((List.perm_ext_iff_of_nodup hL (fh _)).2 (fun q=>?_)).length_eq
 rw[fA,ve]
 constructor
 ·intro h;obtain⟨x,hx,e⟩:=h1 q h;exact⟨x,hx,e⟩
 ·rintro⟨x,hx,rfl⟩;exact h2 x hx
def RgS (w:World) (mt it:Nat) (R:List (St×av)) (todo:St→Prop):Prop :=
 ∃ (N:Nat) (D:DataW Value) (left:Lit→Bool) (cnt:Nat),w.ranges Tryz.prog 71 ej mt it N D left cnt∧(∀ l,Go.Maps.has D l=true→∃ x∈au R,keyOf Tryz.prog 71 x.val=some l) ∧
  (∀ x∈au R,∃ l,keyOf Tryz.prog 71 x.val=some l∧(left l=true↔todo x))
theorem RgS.kept {w w':World}{mt it:Nat}{R:List (St×av)}{todo:St→Prop}{row:Option Nat} (h:RgS w mt it R todo) (hg:w.grownBy w' row) (hb:some mt≠row) (hr:some it≠row):RgS w' mt it R todo:=by
 obtain⟨N,D,left,cnt,h1,h2⟩:=h
 exact⟨N,D,left,cnt,h1.kept hg hb hr,h2⟩
theorem RgS.ne {w:World}{mt it:Nat}{R:List (St×av)}{todo:St→Prop} (h:RgS w mt it R todo):it≠mt:=by
 obtain⟨N,D,left,cnt,h1,h2⟩:=h
 exact h1.ne
theorem RgS.lt {w:World}{mt it:Nat}{R:List (St×av)}{todo:St→Prop} (h:RgS w mt it R todo):it<w.heap.size:=by
 obtain⟨N,D,left,cnt,h1,h2⟩:=h
 exact h1.lt
theorem RgS.map {w:World}{mt it:Nat}{R:List (St×av)}{todo:St→Prop} (h:RgS w mt it R todo):∃ es clock,w.heap[mt]?=some (.map es clock):=by
 obtain⟨N,D,left,cnt,⟨es,clock,since,seen,c0,hb,_⟩,h2⟩:=h
 exact⟨es,clock,hb⟩
theorem RgS.iter {w:World}{mt it:Nat}{R:List (St×av)}{todo:St→Prop} (h:RgS w mt it R todo):∃ b since seen c,w.heap[it]?=some (.mapIter b since seen c):=by
 obtain⟨N,D,left,cnt,⟨es,clock,since,seen,c0,hb,_,_,_,hi,_⟩,h2⟩:=h
 exact⟨_,_,_,_,hi⟩
theorem jS {w:World}{ops:Array Oper}{rest:List Oper}{o:Oper}{a:Act}{Q:Exit→Act→World→Prop} (hg:o.guard=none) (m:Operand) (hop:o.op=Op.range 81 m) (mt N s:Nat) (R:List (St×av)) (hsm:∀ x∈au R,x.Small)
  (hm:a.eval m=.map (some mt)) (hT:fM w mt N s R)
  (hK:∀ w',RgS w' mt w.heap.size R (fun _=>True)→w.grownBy w' none→w'.heap.size=w.heap.size+1→wpList Tryz.prog ops Q rest (a.put o.dst (.pointer (some ⟨w.heap.size,0,none⟩))) w') :
  wpList Tryz.prog ops Q (o :: rest) a w:=by
 obtain⟨D,h1,h2,h3,h4,h5⟩:=hT
 refine wpList_range_own w hg m _ hop 71 121 oV jA ej mt N D hm h1 (fun w' hr hgr hsz=>hK w' ⟨N,D,_,_,hr,fun l hl=>?_,fun x hx=>?_⟩ hgr hsz)
 ·obtain⟨x,hx,hk⟩:=h5 l hl
  refine⟨x,?_,hk⟩
  unfold gA at hx
  cases hgt:Tab.get R x with
  | none=>rw[hgt] at hx;cases hx
  | some st =>
   exact Classical.byContradiction (fun hn=>by rw[dX.2 hn] at hgt;cases hgt)
 ·obtain⟨l,hl⟩:=qm.key x (hsm x hx)
  refine⟨l,hl,⟨fun _=>trivial,fun _=>?_⟩⟩
  rw[(h3 x l (hsm x hx) hl).2]
  unfold gA
  cases hgt:Tab.get R x with
  | none=>exact absurd hx (dX.1 hgt)
  | some st=>rfl
theorem kW {w:World}{ops:Array Oper}{rest:List Oper}{o:Oper}{a:Act}{Q:Exit→Act→World→Prop} (hg:o.guard=none) (i:Operand) (hop:o.op=Op.next i false) (mt it:Nat) (R:List (St×av)) (todo:St→Prop)
  (hi:a.eval i=.pointer (some ⟨it,0,none⟩)) (h:RgS w mt it R todo)
  (hDone:(∀ x∈au R,¬ todo x)→wpList Tryz.prog ops Q rest (a.put o.dst (.tuple #[.bool false])) w)
  (hMore:∀ (x:St) (v:Value) (w':World),x∈au R→RgS w' mt it R (fun y=>todo y∧y≠x)→w'.rangeLeft mt it<w.rangeLeft mt it→w.grownBy w' (some it)→w'.heap.size=w.heap.size →
   (Instr.entry (.pointer (some ⟨it,0,none⟩))).run Tryz.prog w'=.ok (.tuple #[.agg #[.int .i64 x.a0,.int .i64 x.a1,.int .i64 x.a2,.int .i64 x.f0,.int .i64 x.f1,.int .i64 x.f2],v]) w' →
   wpList Tryz.prog ops Q rest (a.put o.dst (.tuple #[.bool true,.agg #[.int .i64 x.a0,.int .i64 x.a1,.int .i64 x.a2,.int .i64 x.f0,.int .i64 x.f1,.int .i64 x.f2],v])) w') :
  wpList Tryz.prog ops Q (o :: rest) a w:=by
 obtain⟨N,D,left,cnt,h1,h2,h3⟩:=h
 refine wpList_next_ranges w hg i hop 71 oV ej (fun x:Value=>x) (fun v:Value=>v) (fun key kl hk=>⟨key,rfl⟩) (fun v y hv=>⟨v,rfl⟩) mt it N D left cnt hi h1 (fun h0 hl=>hDone (fun x hx ht=>?_)) (fun key v kl y w' cnt' hkey hlk hv hat hrg hlt hgr hsz hen=>?_)
 ·obtain⟨l,hl1,hl2⟩:=h3 x hx
  rw[hl l] at hl2
  exact absurd (hl2.2 ht) (by decide)
 ·obtain⟨x,hx,hxk⟩:=h2 kl (Go.Maps.has_true_of_atKey hat)
  obtain rfl:key=x.val:=oV.inj hkey hxk
  refine hMore x v w' hx ⟨N,D,_,cnt',hrg,h2,fun z hz=>?_⟩ (by rw[hrg.left_eq,h1.left_eq];exact hlt) hgr hsz hen
  obtain⟨l,hl1,hl2⟩:=h3 z hz
  refine⟨l,hl1,?_⟩
  simp only[uz,hl2]
  refine and_congr_right (fun _=>?_)
  by_cases hzx:l=kl
  ·subst hzx
   have e1:z.val=x.val:=oV.inj hl1 hxk
   have e2:z=x:=by
    unfold St.val at e1
    simp only[Value.agg.injEq,Array.mk.injEq,List.cons.injEq,Value.int.injEq,true_and,and_true] at e1
    cases z;cases x
    simp only[St.mk.injEq] at e1 ⊢
    exact e1
   subst e2
   simp[WideAt.sameKey_self (oV.key hxk)]
  ·rw[Go.Maps.sameKey_ne hzx]
   simp only[Bool.not_false,true_iff]
   rintro rfl
   rw[hl1] at hxk
   exact hzx (Option.some.inj hxk)
theorem bj.tight {κ:Type}{P:Program}{K:TypeId}{enc:κ→Value}{ok:κ→Prop}{w:World}{b n s:Nat}{f:κ→Option Value} (h:bj P K enc ok w b n s f):bj P K enc ok w b s s f:=by
 obtain⟨D,⟨es,clock,hb,F,hs,hD⟩,h2,h3⟩:=h
 refine⟨D,⟨es,clock,hb,F,?_,hD⟩,h2,h3⟩
 rw[←h2,hD]
 show es.size≤(List.foldr DataW.insert [] _).length
 have hp:=(WideShapes.sorted_perm (es.toList.map (WideElems.rg P K ej))).length_eq
 rw[vH,Array.length_toList] at hp
 exact Nat.le_of_eq hp.symm
theorem ko {α:Type} [DecidableEq α]:∀ (L K:List α),L.Nodup→(∀ x∈L,x∈K)→L.length≤K.length
 | [],_,_,_=>vi _
 | x :: L,K,hd,h=>by
  have hx:=h x (uU ..)
  have h1:=ko L (K.erase x) (vP.1 hd).2 (fun y hy=>by
   refine (List.mem_erase_of_ne (fun e=>?_)).2 (h y (vc _ hy))
   subst e
   exact (vP.1 hd).1 hy)
  rw[List.length_erase,if_pos (by simpa using hx)] at h1
  have:0<K.length:=List.length_pos_of_mem hx
  simp only[uG]
  omega
def plF (L:List (Int×Int×Int)) (q:Int×Int×Int):Option Value:=if q∈L then some (.bool true) else none
def PlW (w:World) (mb:Nat) (L:List (Int×Int×Int)):Prop:=bj Tryz.prog 69 ll sD w mb L.length L.length (plF L)
theorem sY:Tryz.prog.underlying 140=some (.map 69 4):=by kernel_rfl
theorem sE {L:List (Int×Int×Int)}{q:Int×Int×Int}:eP (plF L) q (.bool true)=plF (if q∈L then L else L++[q]):=by
 funext z
 unfold eP plF
 by_cases hz:z=q
 ·subst hz
  rw[if_pos rfl]
  by_cases hL:z∈L
  ·rw[if_pos hL,if_pos hL]
  ·rw[if_neg hL,if_pos (by simp)]
 ·rw[if_neg hz]
  by_cases hL:q∈L
  ·rw[if_pos hL]
  ·rw[if_neg hL]
   simp[hz]
structure kx (w wr:World) (mt it pb:Nat) (R:List (St×av)) (todo:St→Prop) (L:List (Int×Int×Int)):Prop where
 rg:RgS wr mt it R todo
 plw:PlW wr pb L
 nd:L.Nodup
 from_:∀ q∈L,∃ x∈au R,pl x=q
 to_:∀ x∈au R,todo x∨pl x∈L
 below:Below w.heap.size w wr
 pb0:w.heap.size≤pb
 it0:w.heap.size≤it
 ne:mt≠pb
theorem PlW.ne {w:World}{mb:Nat}{L:List (Int×Int×Int)} (h:PlW w mb L) {k:Nat}{o:Obj} (hk:w.heap[k]?=some o) (ho:∀ es c,o≠.map es c):k≠mb:=by
 obtain⟨D,⟨es,clock,hb,_⟩,_⟩:=h
 rintro rfl
 rw[hb] at hk
 cases hk
 exact ho _ _ rfl
theorem kx.len {w wr:World}{mt it pb:Nat}{R:List (St×av)}{todo:St→Prop}{L:List (Int×Int×Int)} (C:kx w wr mt it pb R todo L):L.length≤R.length:=by
 have:=ko L ((au R).map pl) C.nd (fun q hq=>by obtain⟨x,hx,e⟩:=C.from_ q hq;exact ve.2 ⟨x,hx,e⟩)
 simpa[au] using this
theorem kx.next {w wr w7:World}{mt it pb:Nat}{R:List (St×av)}{todo:St→Prop}{L:List (Int×Int×Int)} (C:kx w wr mt it pb R todo L) (hg7:wr.grownBy w7 (some it)) (o:Obj):PlW (w7.alloc o) pb L:=by
 obtain⟨_,_,_,_,hi⟩:=C.rg.iter
 have h7:PlW w7 pb L:=bj.kept C.plw hg7 (fun e=>C.plw.ne hi (by intro es c e;cases e) (Option.some.inj e).symm)
 exact bj.kept h7 (World.grownBy_alloc w7 o none) (by simp)
theorem kx.step {w wr w7 w9:World}{mt it pb:Nat}{R:List (St×av)}{todo:St→Prop}{L:List (Int×Int×Int)} (C:kx w wr mt it pb R todo L) {x:St} (hx:x∈au R) (hR7:RgS w7 mt it R (fun y=>todo y∧y≠x)) (hg7:wr.grownBy w7 (some it)) {o:Obj}
  (hM9:bj Tryz.prog 69 ll sD w9 pb (L.length+1) (if (plF L (pl x)).isSome then L.length else L.length+1) (eP (plF L) (pl x) (.bool true))) (hg9:(w7.alloc o).grownBy w9 (some pb)) :
  kx w w9 mt it pb R (fun y=>todo y∧y≠x) (if pl x∈L then L else L++[pl x])∧w9.rangeLeft mt it=w7.rangeLeft mt it:=by
 obtain⟨_,_,_,_,hi⟩:=C.rg.iter
 have hit:it≠pb:=C.plw.ne hi (by intro es c e;cases e)
 have hRA:RgS (w7.alloc o) mt it R (fun y=>todo y∧y≠x):=hR7.kept (World.grownBy_alloc w7 o none) (by simp) (by simp)
 have hR9:=hRA.kept hg9 (fun e=>C.ne (Option.some.inj e)) (fun e=>hit (Option.some.inj e))
 rw[sE] at hM9
 have hb7:Below w.heap.size w w7:=C.below.grown hg7 C.below.size (fun k e=>by cases e;exact C.it0)
 have hbA:Below w.heap.size w (w7.alloc o):=hb7.alloc hb7.size o
 refine⟨⟨hR9,?_,?_,?_,?_,hbA.grown hg9 hbA.size (fun k e=>by cases e;exact C.pb0),C.pb0,C.it0,C.ne⟩,?_⟩
 ·by_cases hL:pl x∈L
  ·rw[if_pos hL] at hM9 ⊢
   have:(plF L (pl x)).isSome=true:=by unfold plF;rw[if_pos hL];rfl
   rw[this,if_pos rfl] at hM9
   exact hM9.tight
  ·rw[if_neg hL] at hM9 ⊢
   have:(plF L (pl x)).isSome=false:=by unfold plF;rw[if_neg hL];rfl
   rw[this,if_neg (by simp)] at hM9
   have h:=hM9.tight
   unfold PlW
   rw[uF]
   exact h
 ·by_cases hL:pl x∈L
  ·rw[if_pos hL];exact C.nd
  ·rw[if_neg hL]
   exact wQ.2 ⟨C.nd,by simp,fun a ha b hb e=>by simp at hb;subst hb;subst e;exact hL ha⟩
 ·intro q hq
  by_cases hL:pl x∈L
  ·rw[if_pos hL] at hq;exact C.from_ q hq
  ·rw[if_neg hL] at hq
   rcases uV.1 hq with h | h
   ·exact C.from_ q h
   ·simp at h;exact⟨x,hx,h.symm⟩
 ·intro y hy
  by_cases hyx:y=x
  ·subst hyx
   right
   by_cases hL:pl y∈L
   ·rw[if_pos hL];exact hL
   ·rw[if_neg hL];simp
  ·rcases C.to_ y hy with h | h
   ·exact Or.inl ⟨h,hyx⟩
   ·right
    by_cases hL:pl x∈L
    ·rw[if_pos hL];exact h
    ·rw[if_neg hL];exact vE _ h
 ·obtain⟨_,_,hm⟩:=hR7.map
  have l1:mt<w7.heap.size:=(uw.1 hm).1
  have l2:=hR7.lt
  unfold World.rangeLeft
  rw[hg9.block mt (by simp;omega) (fun e=>C.ne (Option.some.inj e)),hg9.block it (by simp;omega) (fun e=>hit (Option.some.inj e)),heap_alloc_old _ _ (h:=l1),heap_alloc_old _ _ (h:=l2)]
structure dM (w:World) (p:Option Addr) (c:Nat) (gs:List Gd):Prop where
 G:aQ w p gs
 X:Gx w
 F:rR gs
 c1:gs.length≤c
 c2:(c:Int)≤9223372036854775807
theorem dM.below {w w':World}{p:Option Addr}{c:Nat}{gs:List Gd} (h:dM w p c gs) (hb:Below w.heap.size w w'):dM w' p c gs:=⟨h.G.below hb,h.X.below hb,h.F,h.c1,h.c2⟩
theorem dM.check {w:World}{p:Option Addr}{c:Nat}{gs:List Gd} (h:dM w p c gs):Calls Tryz.prog 17 #[.agg #[.slice p gs.length c]] w (jT (aS gs) 40 w):=jY gs p c w h.G h.X h.F h.c1 h.c2
theorem rm {x:St} (h:x.Small):sD (pl x):=⟨h.a0,h.a1,h.a2⟩
def i8 (gs:List Gd):Int:=if aS gs then (kD (a6 (ad gs) St.zero (fun _=>true) (fun _=>false)).2:Int) else 0
theorem tl (gs:List Gd) (p:Option Addr) (c:Nat) (w:World) (hP:dM w p c gs) :
  Calls Tryz.prog 40 #[.agg #[.slice p gs.length c]] w (fun e w'=>e=.returned (.tuple #[.int .i64 (i8 gs),.int .i64 (if aS gs then 0 else 40)])∧Below w.heap.size w w'):=by
 have hb1:Below w.heap.size w (w.alloc (.cells #[.slice p gs.length c] 28)):=(Below.refl _ _).alloc (uo _) _
 have s0:=af w #[.slice p gs.length c] 28 0 _ rfl
 have hlt:w.heap.size<(w.alloc (.cells #[.slice p gs.length c] 28)).heap.size:=by simp
 have P1:=hP.below hb1
 have hmm:=@run_makeMap Tryz.prog
 go_enter Tryz.func40,Tryz.ntmps40
 go_wp2_with fail
 generalize w.alloc (.cells #[.slice p gs.length c] 28)=w1 at *
 refine P1.check.mono ?_
 rintro e w2 ⟨rfl,hb2⟩
 cases hS:aS gs
 ·simp only[u_,if_false]
  go_wp2_with fail
  all_goals go_ret2
  all_goals exact⟨by simp[i8,hS],hb1.trans (hb2.mono hb1.size)⟩
 ·simp only[if_true]
  have P2:=P1.below hb2
  have s2:=(hb2.cell (p:=⟨w.heap.size,0,none⟩) hlt).trans s0
  go_wp2_with fail
  refine (ki gs p c w2 P2.G hS).mono ?_
  rintro e w3 ⟨mB,vn,vb,mb,Nm,sm,f,rfl,hM,hb3⟩
  go_wp2_with fail
  refine (kM gs p c vn vb mb Nm sm f w3 mB St.zero hM (eo hS) hS (ar.At.zero (aI hS)) 28 57 #[] #[] (fun _=>true) (fun _=>false) (cO Tryz.func28 (by kernel_rfl) (by decide)) (cO Tryz.func57 (by kernel_rfl) (by decide))
   (fun w' _ v _=>jX v w') (fun w' _ y _=>qS y w')).mono ?_
  rintro e w4 ⟨hb4,v4,mt,N,s,rfl,hT,hE,hmt⟩
  have hI:Inv (ad gs) (fun _=>true) (fun _=>false) St.zero (a6 (ad gs) St.zero (fun _=>true) (fun _=>false)).2 ((a6 (ad gs) St.zero (fun _=>true) (fun _=>false)).2.length):=by
   have:=ma (aI hS) (al:=fun _=>true) (fd:=fun _=>false) (ar.At.zero (aI hS))
   revert this
   generalize a6 (ad gs) St.zero (fun _=>true) (fun _=>false)=res
   intro this
   match res,this with
   | (some y,R'),h=>exact absurd h.fd (by decide)
   | (none,R'),h=>exact h.inv
  have hsm:∀ x∈au (a6 (ad gs) St.zero (fun _=>true) (fun _=>false)).2,x.Small:=fun x hx=>(hI.at_ x hx).small (aI hS)
  have hRl:=dr (aI hS) hI
  have hcg:i8 gs=(kD (a6 (ad gs) St.zero (fun _=>true) (fun _=>false)).2:Int):=by simp[i8,hS]
  generalize (a6 (ad gs) St.zero (fun _=>true) (fun _=>false)).1.isSome=bz at *
  generalize (a6 (ad gs) St.zero (fun _=>true) (fun _=>false)).2=R at *
  have hbA:Below w4.heap.size w4 (w4.alloc (.map #[] 0)):=(Below.refl _ _).alloc (uo _) _
  have hT5:fM (w4.alloc (.map #[] 0)) mt N s R:=hT.same (hbA.block _ hT.lt)
  have hP5:PlW (w4.alloc (.map #[] 0)) w4.heap.size []:=bj.made w4 _ _ _ _
  have hb5:Below w.heap.size w (w4.alloc (.map #[] 0)):=((hb1.trans (hb2.mono hb1.size)).trans (hb3.mono (uB hb1.size hb2.size))).trans ((hb4.mono (uB hb1.size (uB hb2.size hb3.size))).trans (hbA.mono (uB hb1.size (uB hb2.size (uB hb3.size hb4.size)))))
  have hz4:w.heap.size≤w4.heap.size:=uB hb1.size (uB hb2.size (uB hb3.size hb4.size))
  have hz5:(w4.alloc (.map #[] 0)).heap.size=w4.heap.size+1:=by simp
  go_wp2_with (at_range;refine jS rfl _ rfl mt N s R hsm rfl hT5 ?_;intro w6 hR6 hg6 hz6)
  go_frame
  obtain⟨it,hit⟩:∃ it,it=(w4.alloc (.map #[] 0)).heap.size:=⟨_,rfl⟩
  rw[←hit] at hR6 ⊢
  have C0:kx w w6 mt it w4.heap.size R (fun _=>True) []:=⟨hR6,bj.kept hP5 hg6 (by simp),wK,fun q hq=>(by cases hq),fun x _=>Or.inl trivial,hb5.grown hg6 hb5.size (fun k e=>by cases e),hz4,by omega,by have:=hT.lt;omega⟩
  clear hR6 hP5 hg6 hz6 hT5 hT hit hz5 hbA hb4 hb3 hb2 hb1 s0 hlt P1 P2 s2 hM hE hmt hI hmm hb5
  have HSM:=uk hsm
  clear hsm
  have hz4':=uk hz4
  clear hz4
  generalize w4.heap.size=pb at C0 ⊢
  go_loopw [28] (fun _ wr=>∃ (todo:St→Prop) (L:List (Int×Int×Int)),kx w wr mt it pb R todo L) (fun _ wr=>wr.rangeLeft mt it)
  case atStart=>exact⟨_,_,C0⟩
  case round =>
   clear C0
   obtain⟨todo,L,C⟩:=hrel
   go_wp2_with (at_next;refine kW rfl _ rfl mt it R todo rfl C.rg ?_ ?_)
   ·intro hd
    have hlen:=fun ty=>bj.len C.plw sY ty
    have hcs:=oF C.nd C.from_ (fun x hx=>(C.to_ x hx).resolve_left (hd x hx))
    go_wp2_with fail
    go_ret2
    exact⟨by rfl,C.below⟩
   ·intro x v w7 hx hR7 hlt7 hg7 hz7 hen
    have hxs:=HSM.out x hx
    have hLl:=C.len
    obtain⟨w9,hrun,hM9,hg9⟩:=(C.next hg7 (.cells #[.int .i64 x.a0,.int .i64 x.a1,.int .i64 x.a2,.int .i64 x.f0,.int .i64 x.f1,.int .i64 x.f2] 71)).store encL sY (by unfold maxLen;omega) (k:=pl x) (rm hxs) (.bool true)
    obtain⟨C9,hm9⟩:=C.step hx hR7 hg7 hM9 hg9
    simp only[ll,pl] at hrun
    go_wp2_with fail
    go_roundw
    case rel=>exact⟨_,_,C9⟩
    case measure=>rw[hm9];exact hlt7
end Go.Proofs.YtlkniohhalnjjaaGreatDoor
