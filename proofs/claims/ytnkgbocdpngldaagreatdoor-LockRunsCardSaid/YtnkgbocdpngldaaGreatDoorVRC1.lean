/-
  Texts of this claim: RC1.
-/
import Derived.Test.YtnkgbocdpngldaaGreatDoorVRun
import Derived.Test.YtnkgbocdpngldaaGreatDoorVRA13
import Derived.Test.YtnkgbocdpngldaaGreatDoorVA
set_option linter.unusedVariables false
set_option linter.unusedSimpArgs false
set_option maxRecDepth 100000
set_option maxHeartbeats 8000000

namespace Go.Proofs.YtnkgbocdpngldaaGreatDoor
open Go.RowKit Dc Dg
def fO (M:aD):St→List Ev→Int
 | _,[]=>0
 | x,v :: l=>M.mins v.g.toNat (x.a v.g.toNat).toNat+fO M (bd M x v) l
theorem kT (M:aD):∀ (l:List Ev) (x:St) (v:Ev),fO M x (l++[v])=fO M x l+M.mins v.g.toNat ((jY M x l).a v.g.toNat).toNat
 | [],x,v=>by simp [fO,jY]
 | u :: l,x,v=>by
  show M.mins _ _+fO M (bd M x u) (l++[v])=M.mins _ _+fO M (bd M x u) l+_
  rw [kT M l,Int.add_assoc]
  rfl
structure eh (Br B n:Nat) (w:World) (v:Value) (L:List (St×Value×Value)):Prop where
 row:w.ownsRow Br 41 2 v L.length (L.flatMap fun t=>[t.2.1,t.2.2])
 ints:∀ t∈L,aK B w t.2.1 (atL n t.1)∧aK B w t.2.2 (aO n t.1)
theorem eh.below {Br B n:Nat} {w w':World} {v:Value} {L:List (St×Value×Value)} (h:eh Br B n w v L) (hb:Below w.heap.size w w'):eh Br B n w' v L :=
 ⟨b_ h.row (fun k hk=>by obtain ⟨_,h2,_⟩:=aw h.row hk;exact hb.block k h2),fun t ht=>⟨(h.ints t ht).1.below hb,(h.ints t ht).2.below hb⟩⟩
theorem eh.put {Br B n:Nat} {w:World} {v:Value} {L:List (St×Value×Value)} (h:eh Br B n w v L) {b:Nat} {u1 u2:Value} {cs:Array Value} (hb:w.heap[b]?=some (.cells cs 41 (0,0))) (hlt:b<Br):eh Br B n (cm w b u1 u2) v L:=by
 have h2:(w.setCell ⟨b,0,none⟩ u1).heap[b]?=some (.cells (cs.setIfInBounds 0 u1) 41 (0,0)):=heap_setCell_same w b 0 _ _ u1 hb
 refine ⟨b_ h.row (fun k hk=>?_),fun t ht=>⟨((h.ints t ht).1.setType _ hb (by decide)).setType _ h2 (by decide),((h.ints t ht).2.setType _ hb (by decide)).setType _ h2 (by decide)⟩⟩
 have:=(aw h.row hk).1
 exact (heap_setCell_other _ _ _ _ (show k≠b by omega)).trans (heap_setCell_other _ _ _ _ (show k≠b by omega))
theorem eh.r {Br B B' n:Nat} {w:World} {v:Value} {L:List (St×Value×Value)} (h:eh Br B n w v L) (h1:B'≤Br) (h2:B'≤B):bM B' n w v L:=⟨gp h.row h1,fun t ht=>⟨(h.ints t ht).1.base h2,(h.ints t ht).2.base h2⟩⟩
theorem uz {o:Oper} {a:Act} {w:World} {K:Act→World→Prop} {Q:Exit→Act→World→Prop} (s x:Operand) (ho:o.op=.call { callee:=.builtin .append,args:=#[s,x],argTypes:=#[36,36] })
  (Br B n:Nat) (v:Value) (L:List (St×Value×Value)) (hs:a.eval s=v) (hr:eh Br B n w v L) (hl:L.length≤1000000) (hB:Br≤w.heap.size) (b:Nat) (u1 u2:Value) (hx:a.eval x=.slice (some ⟨b,0,none⟩) 1 1) (hb0:w.cell? ⟨b,0,none⟩=some u1) (hb1:w.cell? ⟨b,1,none⟩=some u2)
  (y:St) (h1:aK B w u1 (atL n y)) (h2:aK B w u2 (aO n y))
  (h:∀ g cap w',eh Br B n w' (.slice (some ⟨g,0,none⟩) (L.length+1) cap) (L++[(y,u1,u2)])→w.grownBy w' v.ownBlock→K (a.put o.dst (.slice (some ⟨g,0,none⟩) (L.length+1) cap)) w'):o.wp Tryz.prog a w K Q:=by
 obtain ⟨i0,hi,hz0,hz1,hz2⟩:=info_parts qO
 have o1:u1.oneCell'=true:=by obtain ⟨_,_,rfl⟩:=h1.slice;rfl
 have o2:u2.oneCell'=true:=by obtain ⟨_,_,rfl⟩:=h2.slice;rfl
 refine wp_append_lies w s x 36 ho Br 41 i0 (.agg #[.slice none 0 0,.slice none 0 0]) 2 48 pQ hi hz0 hz1 hz2 rfl (by decide) v L.length _ hs hr.row ⟨b,0,none⟩ 1 1 [u1,u2] hx rfl (fun j u hj=>?_) (fun u hu=>?_) (by decide) (by unfold maxLen;omega) (by omega) hB _ rfl (fun g cap w' r1 r2 r3 r4=>?_)
 ·match j,hj with
  | 0,hj=>simp at hj;subst hj;simpa [Addr.add] using hb0
  | 1,hj=>simp at hj;subst hj;simpa [Addr.add] using hb1
 ·simp at hu
  rcases hu with rfl | rfl
  ·exact o1
  ·exact o2
 ·have e:(L++[(y,u1,u2)]).length=L.length+1:=by simp
  have keep:∀ (z:Value) (zs:List Int),aK B w z zs→aK B w' z zs:=fun z zs hz=>hz.same (fun k hk=>by
   obtain ⟨_,hk2,_⟩:=aw hz hk
   exact r2.block k hk2 (fun e2=>dM hr.row hz (by decide) e2.symm hk))
  refine h g cap w' ⟨?_,fun t ht=>?_⟩ r2
  ·rw [e,DB]
   exact r1
  ·rcases CC.1 ht with ht | ht
   ·exact ⟨keep _ _ (hr.ints t ht).1,keep _ _ (hr.ints t ht).2⟩
   ·simp at ht
    subst ht
    exact ⟨keep _ _ h1,keep _ _ h2⟩
def Bt (w:World) (gs:List Gd) (l:List Ev) (e:Ending) (w':World):Prop :=
 Below w.heap.size w w'∧((bD gs l≠0∧e=.returned (.tuple #[.slice none 0 0,.int .i64 0,.int .i64 (bD gs l)])) ∨
  (bD gs l=0∧∃ v L,e=.returned (.tuple #[v,.int .i64 (fO (ai gs) St.zero l),.int .i64 0])∧bM w.heap.size gs.length w' v L∧L.map (·.1)=bj (ai gs) St.zero l))
structure RnS (w0 w:World) (gs:List Gd) (p:Option Addr) (c kx:Nat) (z:St) (p1 c1 p2 c2:Nat) (v:Value) (L:List (St×Value×Value)):Prop where
 s0:w.heap[w0.heap.size]?=some (.cells #[.slice p gs.length c] 24 (0,0))
 sx:w.heap[kx]?=some (.cells #[.slice (some ⟨p1,0,none⟩) gs.length c1,.slice (some ⟨p2,0,none⟩) gs.length c2] 41 (0,0))
 sl:cI w0.heap.size w (.slice (some ⟨p1,0,none⟩) gs.length c1) (.slice (some ⟨p2,0,none⟩) gs.length c2) (atL gs.length z) (aO gs.length z)
 st:eh (kx+1) w0.heap.size gs.length w v L
 lt:w0.heap.size<kx
 bl:Below w0.heap.size w0 w
theorem RnS.below {w0 w w':World} {gs:List Gd} {p:Option Addr} {c kx:Nat} {z:St} {p1 c1 p2 c2:Nat} {v:Value} {L:List (St×Value×Value)} (h:RnS w0 w gs p c kx z p1 c1 p2 c2 v L) (hb:Below w.heap.size w w'):RnS w0 w' gs p c kx z p1 c1 p2 c2 v L :=
 ⟨(hb.block _ (ac h.s0)).trans h.s0,(hb.block _ (ac h.sx)).trans h.sx,h.sl.below hb,h.st.below hb,h.lt,h.bl.trans (hb.mono h.bl.size)⟩
theorem RnS.put {w0 w:World} {gs:List Gd} {p:Option Addr} {c kx:Nat} {z z':St} {p1 c1 p2 c2 p3 c3 p4 c4:Nat} {v:Value} {L:List (St×Value×Value)} (h:RnS w0 w gs p c kx z p1 c1 p2 c2 v L) (hL:cI w0.heap.size w (.slice (some ⟨p3,0,none⟩) gs.length c3) (.slice (some ⟨p4,0,none⟩) gs.length c4) (atL gs.length z') (aO gs.length z')) :
  RnS w0 (cm w kx (.slice (some ⟨p3,0,none⟩) gs.length c3) (.slice (some ⟨p4,0,none⟩) gs.length c4)) gs p c kx z' p3 c3 p4 c4 v L:=by
 have HP:ee w (cm w kx (.slice (some ⟨p3,0,none⟩) gs.length c3) (.slice (some ⟨p4,0,none⟩) gs.length c4)) kx _ #[.slice (some ⟨p3,0,none⟩) gs.length c3,.slice (some ⟨p4,0,none⟩) gs.length c4]:=aU h.sx
 have:=h.lt
 exact ⟨(HP.other _ (by omega)).trans h.s0,HP.row,hL.put h.sx (by decide),h.st.put h.sx (by omega),h.lt,h.bl.trans (HP.below _ (by omega))⟩
theorem RnS.app {w0 w w':World} {gs:List Gd} {p:Option Addr} {c kx:Nat} {z:St} {p1 c1 p2 c2:Nat} {v v':Value} {L L':List (St×Value×Value)} (h:RnS w0 w gs p c kx z p1 c1 p2 c2 v L) (hst:eh (kx+1) w0.heap.size gs.length w' v' L') (hg:w.grownBy w' v.ownBlock):RnS w0 w' gs p c kx z p1 c1 p2 c2 v' L':=by
 have far:∀ {b:Nat} {cs:Array Value} {t:TypeId},w.heap[b]?=some (.cells cs t (0,0))→b≤kx→w'.heap[b]?=some (.cells cs t (0,0)):=fun {b} {cs} {t} hb hk=>by
  rw [hg.block b (ac hb) (fun e2=>by have:=(aw h.st.row e2.symm).1;omega)]
  exact hb
 have keep:∀ (z:Value) (zs:List Int),aK w0.heap.size w z zs→aK w0.heap.size w' z zs:=fun z zs hz=>hz.same (fun k hk=>by
  obtain ⟨_,hk2,_⟩:=aw hz hk
  exact hg.block k hk2 (fun e2=>dM h.st.row hz (by decide) e2.symm hk))
 have:=h.lt
 exact ⟨far h.s0 (by omega),far h.sx (Ca _),⟨keep _ _ h.sl.a,keep _ _ h.sl.f,h.sl.ap⟩,hst,h.lt,h.bl.grown hg h.bl.size (fun k hk=>by have:=(aw h.st.row hk).1;omega)⟩
theorem yN (M:aD) (x:St) (l:List Ev) (v:Ev):jY M x (l++[v])=bd M (jY M x l) v:=by unfold jY;rw [Ew];rfl
theorem sE {gs:List Gd} {l:List Ev} {v:Ev} (h:fv gs l=true) (h2:dA (ai gs) v=true):fv gs (l++[v])=true:=by
 unfold fv at h ⊢;rw [Dt,h];simp [h2]
theorem jx.getE {w:World} {p:Option Addr} {n c:Nat} {l:List Ev} (h:jx w (.slice p n c) l) {i:Nat} (hi:i<l.length):∃ b o,p=some ⟨b,o,none⟩∧b<w.heap.size∧w.cell? ⟨b,o+i*2,none⟩=some (.int .i64 l[i].g)∧w.cell? ⟨b,o+i*2+1,none⟩=some (.int .i64 l[i].k):=by
 obtain ⟨p',c',e,hc⟩:=h.at_
 simp only [Value.slice.injEq] at e
 obtain ⟨rfl,rfl,rfl⟩:=e
 obtain ⟨b,o,rfl,hb,hc⟩:=hc (by omega)
 exact ⟨b,o,rfl,hb,hc i hi⟩
theorem ui (gs:List Gd) (p:Option Addr) (c:Nat) (pe:Option Addr) (ne ce:Nat) (l:List Ev) (w:World) (hP:fk w p c gs) (hE:jx w (.slice pe ne ce) l) (hne:ne=l.length) (hlen:(l.length:Int)≤9223372036854775807) :
  Calls Tryz.prog 58 #[.agg #[.slice p gs.length c],.slice pe ne ce] w (Bt w gs l):=by
 have HNE:=B8 hne
 have hneI:(ne:Int)≤9223372036854775807:=by omega
 have hl:=bc w (.cells #[.slice p gs.length c] 24)
 have P1:=hP.below hl.below
 have HP:=B8 hP
 have HE:=B8 hE
 clear hP hE hne hlen
 go_enter Tryz.func58,Tryz.ntmps58
 go_upto_region 1 with fail
 generalize w.alloc (.cells #[.slice p gs.length c] 24)=w1 at *
 have x0:=aa hl.s0 0
 go_wp2_with fail
 refine (uE gs p c w1 P1.G P1.X P1.F).mono ?_
 rintro e w2 ⟨rfl,hb2⟩
 have r0:=(hb2.block _ (ac hl.s0)).trans hl.s0
 have HB2:=hl.below.trans (hb2.mono hl.below.size)
 clear hl P1 hb2 x0
 obtain ⟨bs,hbs⟩:∃ b,b=bf gs:=⟨_,rfl⟩
 rw [←hbs]
 have HBS:=B8 hbs
 clear hbs
 cases bs
 ·rw [if_neg Cm]
  have HPE:Hid (bD gs l=40):=by unfold Hid bD;rw [if_neg (by rw [←HBS.out];exact Cm)]
  go_wp2
  go_ret3
  exact ⟨HB2,Or.inl ⟨by rw [HPE.out];decide,by rw [HPE.out];rfl⟩⟩
 ·rw [if_pos rfl]
  have HSy:Hid (bf gs=true):=HBS.out.symm
  obtain ⟨hn1,hn3⟩:=cQ HSy.out
  have GD:=B8 (bh HSy.out)
  by_cases hbig:256<ne
  ·have HPE:Hid (bD gs l=3):=by unfold Hid bD;rw [if_pos HSy.out,if_pos (by rw [←HNE.out];exact hbig)]
   have hd:decide ((256:Int)<(ne:Int))=true:=by simp;omega
   go_wp2
   go_ret3
   exact ⟨HB2,Or.inl ⟨by rw [HPE.out];decide,by rw [HPE.out];rfl⟩⟩
  ·have hd:decide ((256:Int)<(ne:Int))=false:=by simp;omega
   have HPE:Hid (bD gs l=if fv gs l=true then 0 else 42):=by unfold Hid bD;rw [if_pos HSy.out,if_neg (by rw [←HNE.out];omega)]
   have x0:=aa r0 0
   go_wp2_with fail
   refine (uC gs p c w2 hn3).mono ?_
   rintro e w3 ⟨u1,u2,rfl,hL,hb3⟩
   obtain ⟨p1,c1,rfl,hge1,_⟩:=hL.a.some (by rw [lU hn3];omega)
   obtain ⟨p2,c2,rfl,hge2,_⟩:=hL.f.some (by rw [iZ hn3];omega)
   rw [lU hn3] at hL ⊢
   rw [iZ hn3] at hL ⊢
   have k0:=(hb3.block _ (ac r0)).trans r0
   have HB3:=HB2.trans (hb3.mono HB2.size)
   have hz2:=HB2.size
   have l4:=bc w3 (.cells #[.slice (some ⟨p1,0,none⟩) gs.length c1,.slice (some ⟨p2,0,none⟩) gs.length c2] 41)
   clear r0 x0 hb3 HB2
   go_upto_region 7 with fail
   have k0':=(l4.below.block _ (ac k0)).trans k0
   have kx:=l4.s0
   have hL4:=(hL.below l4.below).base hz2
   have HB4:=HB3.trans (l4.below.mono HB3.size)
   have hkx:w.heap.size<w3.heap.size:=by have:=ac k0;omega
   clear k0 hL HB3
   have hsz:=Ej l4.size.symm
   clear l4
   generalize w3.alloc (.cells #[.slice (some ⟨p1,0,none⟩) gs.length c1,.slice (some ⟨p2,0,none⟩) gs.length c2] 41)=w4 at *
   generalize w3.heap.size=kb at *
   have x1:=aa kx 0
   have x2:=aa kx 1
   have l5:=bc w4 (.cells #[.slice (some ⟨p1,0,none⟩) gs.length c1,.slice (some ⟨p2,0,none⟩) gs.length c2] 41)
   go_upto_region 8 with fail
   clear x1 x2
   have R0:RnS w (w4.alloc (.cells #[.slice (some ⟨p1,0,none⟩) gs.length c1,.slice (some ⟨p2,0,none⟩) gs.length c2] 41)) gs p c kb St.zero p1 c1 p2 c2 (.slice (some ⟨w4.heap.size,0,none⟩) 1 1) [(St.zero,.slice (some ⟨p1,0,none⟩) gs.length c1,.slice (some ⟨p2,0,none⟩) gs.length c2)]:=by
    refine ⟨(l5.below.block _ (ac k0')).trans k0',(l5.below.block _ (ac kx)).trans kx,hL4.below l5.below,⟨⟨rfl,Or.inr ⟨_,1,_,rfl,by omega,l5.s0,Ca _,by unfold maxLen;omega,rfl,rfl⟩⟩,fun t ht=>?_⟩,hkx,HB4.trans (l5.below.mono HB4.size)⟩
    simp at ht
    subst ht
    exact ⟨hL4.a.below l5.below,hL4.f.below l5.below⟩
   generalize w4.alloc (.cells #[.slice (some ⟨p1,0,none⟩) gs.length c1,.slice (some ⟨p2,0,none⟩) gs.length c2] 41)=w5 at *
   generalize w4.heap.size=b4 at *
   clear k0' kx hL4 HB4 hsz l5
   go_wp2_with fail
   go_loopw [9,10,11] (fun s9 s10 s11 wx=>∃ (i:Nat) (p1 c1 p2 c2:Nat) (pv:Option Addr) (cv:Nat) (sm:Int) (L:List (St×Value×Value)),s11=.int .i64 i∧s10=.int .i64 sm∧s9=.slice pv (i+1) cv∧i≤ne∧0≤sm∧sm≤60*i∧Hid (L.length=i+1)∧Hid (sm=fO (ai gs) St.zero (l.take i))∧Hid (fv gs (l.take i)=true)∧Hid (L.map (·.1)=bj (ai gs) St.zero (l.take i))∧RnS w wx gs p c kb (jY (ai gs) St.zero (l.take i)) p1 c1 p2 c2 (.slice pv (i+1) cv) L) (fun _ _ s11 _=>ne-(intOf s11).toNat)
   case atStart=>exact ⟨0,p1,c1,p2,c2,some ⟨b4,0,none⟩,1,0,[(St.zero,.slice (some ⟨p1,0,none⟩) gs.length c1,.slice (some ⟨p2,0,none⟩) gs.length c2)],rfl,rfl,rfl,by omega,by omega,by omega,rfl,by rw [DM];rfl,by rw [DM];rfl,by rw [DM];rfl,by rw [DM];exact R0⟩
   case round =>
    clear R0
    obtain ⟨i,p1,c1,p2,c2,pv,cv,sm,L,rfl,rfl,rfl,hi,hs0,hs1,HLL,HSM,HOK,HST,R⟩:=hrel
    by_cases hil:i<ne
    ·have hil2:i<l.length:=by have:=HNE.out;omega
     obtain ⟨be,oe,rfl,hbe,q0,q1⟩:=HE.out.getE hil2
     obtain ⟨t,ht⟩:∃ t:Ev,t=l[i]:=⟨_,rfl⟩
     rw [←ht] at q0 q1
     have HT:=B8 ht
     have HTK:Hid (l.take (i+1)=l.take i++[t]):=by unfold Hid;rw [CG,Cb hil2,ht];rfl
     have q0:=(R.bl.cell (p:=⟨be,_,none⟩) hbe).trans q0
     have q1:=(R.bl.cell (p:=⟨be,_,none⟩) hbe).trans q1
     have hbe2:=Cc hbe R.bl.size
     have hiI:(i:Int)<(ne:Int):=by omega
     have y0:∀ x:ah wr,x.w.cell? ⟨w.heap.size,0,none⟩=some (.slice p gs.length c):=fun x=>(x.cell (ac R.s0)).trans (aa R.s0 0)
     have y1:∀ x:ah wr,x.w.cell? ⟨be,oe+i*2,none⟩=some (.int .i64 t.g):=fun x=>(x.cell (p:=⟨be,_,none⟩) hbe2).trans q0
     have y2:∀ x:ah wr,x.w.cell? ⟨be,oe+i*2+1,none⟩=some (.int .i64 t.k):=fun x=>(x.cell (p:=⟨be,_,none⟩) hbe2).trans q1
     have HI:Hid (∀ x:ah wr,Calls Tryz.prog 77 #[.agg #[.slice p gs.length c],.agg #[.int .i64 t.g,.int .i64 t.k]] x.w fun e w''=>e=.returned (.bool (dA (ai gs) t))∧∃ z:ah wr,w''=z.w):=fun x=>ah.calls (uT gs p c t x.w (by omega))
     obtain ⟨bo,hbo⟩:∃ b,b=dA (ai gs) t:=⟨_,rfl⟩
     rw [←hbo] at HI
     have HBO:=B8 hbo
     clear ht hbo q0 q1
     go_wp2_with fail
     refine aj (by kernel_rfl) (by kernel_rfl) ?_
     repeat (go_big_quiet_step ((go_at_call 77;with_reducible exact HI.out _)))
     refine wpQuiet_nil ?_
     rintro w6 ⟨⟨_,hbN⟩,rfl⟩
     have R6:=R.below hbN
     have u0:=(hbN.cell (p:=⟨be,_,none⟩) hbe2).trans (y1 ⟨wr,Below.refl _ _⟩)
     have u1:=(hbN.cell (p:=⟨be,_,none⟩) hbe2).trans (y2 ⟨wr,Below.refl _ _⟩)
     have hbe3:=Cc hbe2 hbN.size
     clear HI y0 y1 y2 R hbN hbe2
     cases bo
     ·have HPB:Hid (bD gs l=42):=by unfold Hid;rw [HPE.out,if_neg];rw [ow hil2 (by rw [←HT.out];exact HBO.out.symm)];exact Cm
      go_wp2
      go_ret3
      exact ⟨R6.bl,Or.inl ⟨by rw [HPB.out];decide,by rw [HPB.out];rfl⟩⟩
     ·obtain ⟨e1,e2,e3,e4⟩:=fA.1 HBO.out.symm
      have e2:t.g<gs.length:=e2
      obtain ⟨g,hg⟩:∃ g:Nat,t.g=(g:Int):=⟨t.g.toNat,by omega⟩
      obtain ⟨kd,hkd⟩:∃ kd,kd=t.k:=⟨_,rfl⟩
      rw [←hkd] at e3 e4 u1
      rw [hg] at u0 e1 e2
      have HTE:Hid (t=⟨(g:Int),kd⟩):=by unfold Hid;obtain ⟨a,b⟩:=t;simp only at hg hkd;rw [hg,hkd]
      have hgl:g<gs.length:=by omega
      obtain ⟨z,hz⟩:∃ z,z=jY (ai gs) St.zero (l.take i):=⟨_,rfl⟩
      rw [←hz] at R6
      have HZ:=B8 hz
      have HZA:=B8 (show (ai gs).At z by rw [hz];exact pN GD.out _ _ (aD.At.zero GD.out) (fun v hv=>Cr.1 HOK.out v hv))
      clear hz hg hkd
      obtain ⟨qa,da,qb,db,_,_,HC⟩:=l_ (pf:=some ⟨p2,0,none⟩) (nf:=gs.length) (cf:=c2) (c:=c) (HP.out.below R6.bl).G R6.sl.a.q HSy.out HZA.out hgl
      have hmn:=(bh HSy.out).mins g (z.a g).toNat hgl (by have:=HZA.out.a g hgl;have h2:(ai gs).rungs g=(ag gs g).length:=rfl;show _<(ag gs g).length;omega)
      have HMN:Hid ((ai gs).mins g (z.a g).toNat=(aM gs g (z.a g).toNat).minutes):=rfl
      rw [HMN.out] at hmn
      obtain ⟨r,hr⟩:∃ r,r=aM gs g (z.a g).toNat:=⟨_,rfl⟩
      rw [←hr] at HC HMN hmn
      clear hr
      have y0:∀ x:ah w6,x.w.cell? ⟨w.heap.size,0,none⟩=some (.slice p gs.length c):=fun x=>(x.cell (ac R6.s0)).trans (aa R6.s0 0)
      have y1:∀ x:ah w6,x.w.cell? ⟨kb,0,none⟩=some (.slice (some ⟨p1,0,none⟩) gs.length c1):=fun x=>(x.cell (ac R6.sx)).trans (aa R6.sx 0)
      have y2:∀ x:ah w6,x.w.cell? ⟨kb,1,none⟩=some (.slice (some ⟨p2,0,none⟩) gs.length c2):=fun x=>(x.cell (ac R6.sx)).trans (aa R6.sx 1)
      have y3:∀ x:ah w6,x.w.cell? ⟨be,oe+i*2,none⟩=some (.int .i64 g):=fun x=>(x.cell (p:=⟨be,_,none⟩) hbe3).trans u0
      have HI:Hid (∀ x:ah w6,Calls Tryz.prog 79 #[.agg #[.slice p gs.length c],.agg #[.slice (some ⟨p1,0,none⟩) gs.length c1,.slice (some ⟨p2,0,none⟩) gs.length c2],.int .i64 g] x.w fun e w''=>e=.returned (.agg #[.string r.name,.string r.next,.string r.back,.int .i64 r.tries,.int .i64 r.minutes,.slice qa r.needs.length da,.slice qb r.loops.length db])∧∃ z:ah w6,w''=z.w):=fun x=>ah.calls (HC x.w x.h)
      have hfd:=fun wx:World=>uW wx r.name r.next r.back r.tries r.minutes qa r.needs.length da qb r.loops.length db
      have hsm6:sm+r.minutes≤60*(i+1:Nat):=by omega
      have hsm7:0≤sm+r.minutes:=by omega
      have hI6:(i:Int)≤256:=by omega
      have HBD:=B8 (And.intro hsm6 hsm7)
      have hws:IntKind.i64.wrap (sm+r.minutes)=sm+r.minutes:=IntWalk.i64_in _ (by omega)
      clear HC hmn hsm6 hsm7
      go_wp2_with fail
      refine aj (by kernel_rfl) (by kernel_rfl) ?_
      repeat (go_big_quiet_step ((go_at_call 79;with_reducible exact HI.out _)))
      refine wpQuiet_nil ?_
      rintro w7 ⟨⟨_,hbN⟩,rfl⟩
      have R7:=R6.below hbN
      have u0:=(hbN.cell (p:=⟨be,_,none⟩) hbe3).trans u0
      have u1:=(hbN.cell (p:=⟨be,_,none⟩) hbe3).trans u1
      have hbe4:=Cc hbe3 hbN.size
      clear HI y0 y1 y2 y3 R6 hbN hbe3 hfd hws
      go_wp2_with fail
      have G7:InS w7 w.heap.size kb be (oe+i*2) (#[.slice p gs.length c],24) (#[.slice (some ⟨p1,0,none⟩) gs.length c1,.slice (some ⟨p2,0,none⟩) gs.length c2],41) (.int .i64 g) (.int .i64 kd):=⟨R7.s0,R7.sx,hbe4,u0,u1⟩
      have hS:=G7.below (below_drewN (Below.refl _ _) 1)
      have R8:=R7.below (below_drewN (Below.refl _ _) 1)
      refine wp_mono (av (Q:=aI _) (fun wx:World=>InS wx w.heap.size kb be (oe+i*2) (#[.slice p gs.length c],24) (#[.slice (some ⟨p1,0,none⟩) gs.length c1,.slice (some ⟨p2,0,none⟩) gs.length c2],41) (.int .i64 g) (.int .i64 kd)) (fun i=>i == 7) (by kernel_rfl) ?_) (fun _ _ _ h=>aR h)
      change InS w7.drew _ _ _ _ _ _ _ _ at hS
      change RnS w w7.drew _ _ _ _ _ _ _ _ _ _ _ at R8
      clear R7 G7 u0 u1 hbe4
      generalize w7.drew=wd at *
      refine af (i:=2) (v:=?vv1) rfl (by kernel_rfl) (fun _ _ _ h=>h) rfl ?hy1 ?rest1
      case hy1=>(intro wy;go_simp;try with_reducible rfl)
      try simp only [Act.put,B_,BZ,B6,BV,BY,BW]
      refine af (i:=3) (v:=?vv2) rfl (by kernel_rfl) (fun _ _ _ h=>h) rfl ?hy2 ?rest2
      case hy2=>(intro wy;go_simp;try with_reducible rfl)
      try simp only [Act.put,B_,BZ,B6,BV,BY,BW]
      refine af (i:=4) (v:=?vv3) rfl (by kernel_rfl) (fun _ _ _ h=>h) rfl ?hy3 ?rest3
      case hy3=>(intro wy;go_simp;try with_reducible rfl)
      try simp only [Act.put,B_,BZ,B6,BV,BY,BW]
      refine am (i:=0) (v:=?vvA) rfl (by kernel_rfl) (fun _ _ _ h=>h) rfl hS ?hyA ?restA
      case hyA =>
       intro wy hy
       have e0:=aa hy.h0 0
       have e2:=aa hy.h1 0;have e3:=aa hy.h1 1
       have e4:=hy.c0;have e5:=hy.c1
       clear hy
       go_simp
       try with_reducible rfl
      try simp only [Act.put,B_,BZ,B6,BV,BY,BW]
      refine am (i:=1) (v:=?vvB) rfl (by kernel_rfl) (fun _ _ _ h=>h) rfl hS ?hyB ?restB
      case hyB =>
       intro wy hy
       have e0:=aa hy.h0 0
       have e2:=aa hy.h1 0;have e3:=aa hy.h1 1
       have e4:=hy.c0;have e5:=hy.c1
       clear hy
       go_simp
       try with_reducible rfl
      try simp only [Act.put,B_,BZ,B6,BV,BY,BW]
      refine am (i:=5) (v:=?vvC) rfl (by kernel_rfl) (fun _ _ _ h=>h) rfl hS ?hyC ?restC
      case hyC =>
       intro wy hy
       have e0:=aa hy.h0 0
       have e2:=aa hy.h1 0;have e3:=aa hy.h1 1
       have e4:=hy.c0;have e5:=hy.c1
       clear hy
       go_simp
       try with_reducible rfl
      try simp only [Act.put,B_,BZ,B6,BV,BY,BW]
      clear hS
      refine an (i:=6) rfl (by kernel_rfl) rfl (fun K hK=>?_)
      go_simp
      refine (yh gs p c (some ⟨p1,0,none⟩) c1 (some ⟨p2,0,none⟩) c2 z g kd wd (HP.out.below R8.bl) R8.sl.a.q R8.sl.f.q HSy.out HZA.out hgl e3 e4 (fun h=>by cases h) (fun h=>by cases h)).mono ?_
      rintro e w8 ⟨p3,c3,p4,c4,rfl,hL8,hb8⟩
      have hz8:=R8.bl.size
      have R9:=R8.below hb8
      refine hK _ _ (fun _ h=>h.below hb8) ?_
      clear hK K R8 hb8
      try simp only [Act.put,B_,BZ,B6,BV,BY,BW]
      have x1:=aa R9.sx 0
      have x2:=aa R9.sx 1
      have f1:=frozen_of_row w8 kb 0 _ _ R9.sx
      have f2:=frozen_of_row w8 kb 1 _ _ R9.sx
      have RZ:=R9.put (hL8.base hz8)
      clear R9 hL8
      refine an (i:=7) rfl (by kernel_rfl) rfl (fun K hK=>?_)
      go_simp
      change K _ (cm w8 kb (.slice (some ⟨p3,0,none⟩) gs.length c3) (.slice (some ⟨p4,0,none⟩) gs.length c4))
      refine hK _ _ (fun h=>by cases h) ?_
      clear hK K x1 x2 f1 f2
      try simp only [Act.put,B_,BZ,B6,BV,BY,BW]
      refine aA (by kernel_rfl) ?_ _
      simp only [aI]
      generalize cm w8 kb (.slice (some ⟨p3,0,none⟩) gs.length c3) (.slice (some ⟨p4,0,none⟩) gs.length c4)=w9 at *
      have x1:=aa RZ.sx 0
      have x2:=aa RZ.sx 1
      have l10:=bc w9 (.cells #[.slice (some ⟨p3,0,none⟩) gs.length c3,.slice (some ⟨p4,0,none⟩) gs.length c4] 41)
      have RY:=RZ.below l10.below
      have HC:=B8 (And.intro (aa l10.s0 0) (aa l10.s0 1))
      have hbr:=ac RY.sx
      have HLB:Hid (L.length≤1000000):=by unfold Hid;rw [HLL.out];omega
      have HRW:Hid (eh (kb+1) w.heap.size gs.length (w9.alloc (.cells #[.slice (some ⟨p3,0,none⟩) gs.length c3,.slice (some ⟨p4,0,none⟩) gs.length c4] 41)) (.slice pv (i+1) cv) L):=RY.st
      clear RZ l10
      go_wp2_with (at_builtin;refine wpList_plain rfl (fun K hK=>?_);refine uz _ _ rfl (kb+1) w.heap.size gs.length _ L rfl HRW.out HLB.out hbr w9.heap.size _ _ rfl HC.out.1 HC.out.2 (bd (ai gs) z ⟨g,kd⟩) RY.sl.a RY.sl.f ?_;rw [HLL.out];intro gn cn w12 hst12 hgr;refine hK _ _ ?_;clear hK K)
      have e1:=(aa RY.sx 0)
      have hRN:RnS w w12 gs p c kb (jY (ai gs) St.zero (l.take (i+1))) p3 c3 p4 c4 (.slice (some ⟨gn,0,none⟩) (i+1+1) cn) (L++[(bd (ai gs) z ⟨g,kd⟩,.slice (some ⟨p3,0,none⟩) gs.length c3,.slice (some ⟨p4,0,none⟩) gs.length c4)]):=by
       rw [HTK.out,yN,←HZ.out,HTE.out]
       exact RY.app hst12 hgr
      exact ⟨⟨i+1,p3,c3,p4,c4,some ⟨gn,0,none⟩,cn,sm+r.minutes,_,rfl,rfl,rfl,by omega,HBD.out.2,HBD.out.1,by unfold Hid;rw [Ch,HLL.out];rfl,by unfold Hid;rw [HTK.out,kT,←HZ.out,HTE.out,←HSM.out,←HMN.out];rfl,by unfold Hid;rw [HTK.out];exact sE HOK.out (by rw [←HT.out] at *;exact HBO.out.symm),by unfold Hid;rw [HTK.out,fJ,←HZ.out,HTE.out,CL,HST.out];rfl,hRN⟩,by simp [intOf];omega⟩
    ·obtain rfl:i=ne:=by omega
     have HTK:Hid (l.take i=l):=by unfold Hid;rw [HNE.out,CH]
     rw [HTK.out] at HSM HOK HST
     have HP0:Hid (bD gs l=0):=by unfold Hid;rw [HPE.out,if_pos HOK.out]
     clear hil hi
     go_wp2
     go_ret3
     exact ⟨R.bl,Or.inr ⟨HP0.out,_,L,by rw [←HSM.out];rfl,R.st.r (by have:=R.lt;omega) (Ca _),HST.out⟩⟩
end Go.Proofs.YtnkgbocdpngldaaGreatDoor
